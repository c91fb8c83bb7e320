/- Parts of the proof. No conditions. -/
import Derived.Test.YtkaknokcbhiigaaGreatDoorZ06
import Derived.RangeFuncLeaves
import Derived.RangeFuncRecord
import Derived.RangeFuncIn
set_option linter.unusedSectionVars false
set_option linter.unusedSimpArgs false
set_option linter.unusedVariables false
/- The engine, part w: a range over a function. No program in sight; no conditions. -/
set_option maxHeartbeats 3200000
set_option maxRecDepth 20000
namespace Go.Proofs.YtkaknokcbhiigaaGreatDoor
open Go Go.Proofs.Tryz
def FnPostM(P:Program)(fn:Func)(base:World)(R:Value→Frag→List HP→Prop):Exit→Act→World→Prop
 | .normal,a,w=>bodyPostM Fence.wide 3 P fn (fun e w'=>∃v f' A',e= .returned v∧R v f' A'∧Sat base w' f' A') .normal a w
 | .ret,a,w=>bodyPostM Fence.wide 3 P fn (fun e w'=>∃v f' A',e= .returned v∧R v f' A'∧Sat base w' f' A') .ret a w
 |_,_,_=>False
def codeR(P:Program)(lp:Nat)(c:Code)(q:Post):Kont:=.out .normal (.fn fun _ a w=>c.wpIn (Fence.wide.inRound lp) 2 P (q.den P) a w)
def seqR(P:Program)(lp:Nat)(y:Code)(q:Post):Post:=.fn (Exit.then (y.wpIn (Fence.wide.inRound lp) 2 P (q.den P)) (q.den P))
def opsIn(P:Program)(l rest:List Oper)(q:Post):Kont:=.out .normal (.fn fun _ a w=>wpListIn Fence.wide 3 P l.toArray (q.den P) rest a w)
def inList(P:Program)(l rest:List Oper)(q:Post):Post:=.fn (Exit.then (wpListIn Fence.wide 3 P l.toArray (q.den P) rest) (q.den P))
def beginP(P:Program)(lp:Nat)(body:Code)(q:Post):Post:=
 .fn (Exit.then (fun a₁ w₁=>∃w₂,(Instr.beginRound lp).run P w₁= .ok () w₂∧body.wpIn (Fence.wide.inRound lp) 2 P (q.den P) a₁ w₂) (fun _ _ _=>False))
def RW(base:World)(R:Value→Frag→List HP→Prop):Ending→World→Prop:=fun e w'=>∃v f' A',e= .returned v∧R v f' A'∧Sat base w' f' A'
def roundP(P:Program)(lp:Nat)(base:World)(R:Value→Frag→List HP→Prop):Post:=.fn (roundPost P lp (RW base R))
def Post.shut(P:Program)(q:Post):Prop:=∀a w,¬q.den P .outgrown a w
def YieldFn(P:Program)(lp:Nat)(args:List Value)(f:Frag)(A:List HP)(R:Value→Frag→List HP→Prop):Prop:=
 ∀base w,Sat base w f A→∃fn tmps assign body,(Instr.yield lp args.toArray).run P w= .ok (.round lp fn tmps assign body) w∧RoundIn Fence.wide 2 P lp fn tmps assign body w (RW base R)
def loopH(n:Nat)(L:Env)(lp:Nat)(ps:List Tmp)(assign body:Code)(D:Nat)(st:LoopState):HP:=fun h=>
 ∃fn tmps,tmps.size=n∧(∀i v,look? L i=some v→tmps[i]?=some v)∧pts lp (.loop {state:=st,pending:=none,fn,tmps,params:=ps.toArray,assign,body,defers:=D}) h
def setsE:List Tmp→List Value→Env→Env
 |p::ps,v::vs,L=>setsE ps vs ((p,v)::L)
 |_,_,L=>L
variable {w:World} {L0:Env} {lp D m t id n0:Nat} {ps:List Tmp} {assign body y x:Code} {st:LoopState} {fid gf:FuncId} {fn:Func} {args vs fs cs:List Value} {R R1:Value→Frag→List HP→Prop} {A' A1:List HP} {rest:List Oper} {o:Oper} {xs:List Operand} {ats:Array TypeId} {ty:TypeId} {pos:String} {af:Array Edge} {gd:Option (Nat × Bool)} {g:Operand}
section
variable {P:Program} {base:World} {n:Nat} {L:Env} {f f':Frag} {A A':List HP} {q:Post}
theorem Sat.loop(s:Sat base w f (loopH n L0 lp ps assign body D st::A)):∃fn tmps,tmps.size=n∧(∀i v,look? L0 i=some v→tmps[i]?=some v)∧Sat base w f (pts lp (.loop {state:=st,pending:=none,fn,tmps,params:=ps.toArray,assign,body,defers:=D})::A):=by
 obtain⟨a,b,c,d,e,m,hm,hd,hw⟩:=s;obtain⟨m1,m2,dj,rfl,⟨fn,tmps,h1,h2,h3⟩,h4⟩:=hm;exact⟨fn,tmps,h1,h2,a,b,c,d,e,_,⟨m1,m2,dj,rfl,h3,h4⟩,hd,hw⟩
theorem Sat.ofLoop{fn:FuncId}{tmps:Array Value}(h1:tmps.size=n)(h2:∀i v,look? L0 i=some v→tmps[i]?=some v)
  (s:Sat base w f (pts lp (.loop {state:=st,pending:=none,fn,tmps,params:=ps.toArray,assign,body,defers:=D})::A)):Sat base w f (loopH n L0 lp ps assign body D st::A):=by
 obtain⟨a,b,c,d,e,m,hm,hd,hw⟩:=s;obtain⟨m1,m2,dj,rfl,h3,h4⟩:=hm;exact⟨a,b,c,d,e,_,⟨m1,m2,dj,rfl,⟨fn,tmps,h1,h2,h3⟩,h4⟩,hd,hw⟩
theorem Fn.enterM{c:Code}(hf:P.funcs[fid]?=some fn)(hb:fn.body=some c)(hn:fn.ntmps=m)(hl:Nat.ble args.length m=true)(hL:SubE (envOf 0 args) L)
  (h:∀base,H P base m L f A (.code c (.fn (FnPostM P fn base R)))) (hsm:Nat.ble m 1000003=true:=by exact rfl):Fn P fid args f A R:=fun base w s=>by
 have hl':=Nat.le_of_ble_eq_true hl
 have hsm':=Nat.le_of_ble_eq_true hsm
 refine callsIn_wide.1 (callsIn_of_wp_marks (n:=3) hf hb trivial (wpIn_mono (Q:=FnPostM P fn base R) (wpIn_wide.2 ?_) ?_))
 ·have hmk:dmOf L=[]:=by
   exact qcM
  refine(h base).out _ w ⟨by simp[hn];omega,hsm',hmk.symm,fun i v hi=>?_⟩ s
  obtain⟨_,h2⟩:=look?_envOf args 0 i v (hL.get i v hi)
  simp only[Nat.sub_zero]at h2
  have hlt:i<args.length:=by
   rcases Nat.lt_or_ge i args.length with h|h
   ·exact h
   ·simp[List.getElem?_eq_none h]at h2
  rw[Array.getElem?_append_left (by simpa using hlt)]
  simpa using h2
 ·intro e a w' h
  cases e with
  |normal=>exact h
  |ret=>exact h
  |exit id=>exact h.elim
  |goto l=>exact h.elim
  |panic c=>exact h.elim
  |outgrown=>exact h.elim
theorem bodyPostM_ret{R:Ending→World→Prop}{a:Act}{v:Value}(hr:(results fn a.tmps).run P w= .ok v w)(hd:a.defers=[])(hR:R (.returned v) w):bodyPostM Fence.wide 3 P fn R .ret a w:=by
 show LeavesInM Fence.wide 3 P fn a.tmps R a.defers .returning w;rw[hd];exact⟨v,hr,hR⟩
theorem bodyPostM_mark{R:Ending→World→Prop}{a:Act}{v:Value}(hr:∀w',(results fn a.tmps).run P w'= .ok v w')(hd:a.defers=[{target:=.collected D,args:=#[]}])(hD:w.heap[D]?=some (.deferred (some [])))(hR:R (.returned v) (w.putObj D (.deferred none))):bodyPostM Fence.wide 3 P fn R .ret a w:=by
 show LeavesInM Fence.wide 3 P fn a.tmps R a.defers .returning w;rw[hd];exact⟨by simp,.inl ⟨D,_,rfl,run_takeDeferred hD,⟨v,hr _,hR⟩⟩⟩
theorem H.retM{v:Value}(hr:fn.results= #[.tmp t])(hv:look? L t=some v)(hA:∀x,stars A x→stars A' x)(h:R v f A')(hmk:mk? L=none:=by exact rfl):H P base n L f A (.out .ret (.fn (FnPostM P fn base R))):=.mk fun a w hf s=>by
 show bodyPostM Fence.wide 3 P fn (fun e w'=>∃v f' A',e= .returned v∧R v f' A'∧Sat base w' f' A') .ret a w
 exact bodyPostM_ret (by rw[results_tmp hr]) (hf.bare hmk) ⟨v,f,A',by simp[hf.get t v hv],h,s.imp hA⟩
theorem Fr.marked{a:Act}(h:Fr n a L)(hm:mk? L=some (.pointer (some ⟨D,0,none⟩))):a.defers=[{target:=.collected D,args:=#[]}]:=h.defers.trans (by unfold dmOf;rw[hm])
theorem H.retMk{v:Value}{A'':List HP}(hr:fn.results= #[.tmp t])(hv:look? L t=some v)(hm:mk? L=some (.pointer (some ⟨D,0,none⟩)))(hD:Pull A (pts D (.deferred (some []))) A')(hA:∀x,stars A' x→stars A'' x)(h:R v f A''):H P base n L f A (.out .ret (.fn (FnPostM P fn base R))):=.mk fun a w hf s=>by
 show bodyPostM Fence.wide 3 P fn (fun e w'=>∃v f' A',e= .returned v∧R v f' A'∧Sat base w' f' A') .ret a w
 have s1:=s.front hD
 have hg:=s1.got (.here _ _ (pts D (.deferred (some []))))
 refine bodyPostM_mark (v:=v) (D:=D) (fun w'=>by rw[results_tmp hr];simp[hf.get t v hv]) (hf.marked hm) hg ⟨v,f,A'',rfl,h,?_⟩
 exact((s1.set (w':=w.putObj D (.deferred none)) (.here _ _ _) rfl rfl rfl rfl).drop (.here _ _)).imp hA
theorem blind_fnM:(Post.fn (FnPostM P fn base R)).blind P:=fun _ _ _ _ _ h=>h.elim
/-! ### Shut -/
theorem zax:(Post.fn (FnPostM P fn base R)).shut P:=fun _ _ h=>h.elim
theorem zbg:(Post.fn (FnPost P fn base R)).shut P:=fun a w h=>by
 obtain⟨_,_,_,h,_⟩:=h
 cases h
theorem zan:(roundP P lp base R).shut P:=fun _ _ h=>h.elim
theorem zam{b:Code}:(beginP P lp b q).shut P:=fun _ _ h=>h.elim
theorem zaw(h:q.shut P):(Post.seq y q).shut P:=h
theorem zao(h:q.shut P):(Post.block id q).shut P:=h
theorem zar{I:Act→World→Prop}(h:q.shut P):(Post.loop I q).shut P:=h
theorem zat(h:q.shut P):(seqR P lp y q).shut P:=h
theorem zbh{l:List Oper}(h:q.shut P):(inList P l rest q).shut P:=h
/-! ### From the plain walk into a fence -/
theorem uponIn_of_upon{F:Fence}(hd:F.depth=none)(hc:∀m f args w R,Calls P f args w R→CallsIn F m P f args w R)(hr:∀m row args w R,Rows P row args w R→RowsIn F m P row args w R){a:Act}{next next':Act→World→Prop}{Q Q':Exit→Act→World→Prop}(hn:∀a w,next a w→next' a w)(hq:∀e a w,e≠ .normal→Q e a w→Q' e a w):∀r,o.upon P a next Q r→o.uponIn F m P a next' Q' r:=by
 intro r h;have hdd:F.depth.isSome=true→1≤m:=fun h=>by rw[hd]at h;cases h
 match r,h with
 | .ok (.value v) w',h=>exact hn _ _ h
 | .ok .skip w',h=>exact hn _ _ h
 | .ok (.defer d) w',h=>exact hn _ _ h
 | .ok (.enter f args) w', h =>
  refine⟨hdd,(hc _ _ _ _ _ h).mono fun e w'' he=>?_⟩
  cases e with
  |returned v=>exact hn _ _ he
  |panicked c=>exact hq _ _ _ jL he
  |outgrown=>obtain⟨a0,w0,h0⟩:=he;exact⟨a0,w0,hq _ _ _ jL h0⟩
 | .ok (.row row args) w',h=>exact⟨hdd,(hr _ _ _ _ _ h).mono fun v w'' he=>hn _ _ he⟩
 | .halt (.panic v) w',h=>exact hq _ _ _ jL h
theorem rowsIn_wide{row:String}{args:Array Value}{R:Value→World→Prop}(h:Rows P row args w R):RowsIn Fence.wide m P row args w R:=
 fun c cs _=>let⟨v,w',r,s⟩:=h c cs;⟨v,w',r,stepsIn_wide.2 s⟩
theorem wpListIn_of{F:Fence}{m:Nat}(hfn:∀f,F.fn f)(hd:F.depth=none)(hc:∀m f args w R,Calls P f args w R→CallsIn F m P f args w R)(hr:∀m row args w R,Rows P row args w R→RowsIn F m P row args w R)
  {ops:Array Oper} {rest:List Oper} {Q Q':Exit→Act→World→Prop} (hn:∀a w,Q .normal a w→wpListIn F m P ops Q' rest a w) (hq:∀e a w,e≠ .normal→Q e a w→Q' e a w) (ho:∀a w,¬Q .outgrown a w) :
  ∀(l:List Oper),(∀o∈l,∀ρ,o.semAt F.round ρ=execOp ρ o)→∀a w,wpList P ops Q l a w→wpListIn F m P ops Q' (l++rest) a w
 | [],_,a,w,h=>hn a w h
 | o :: l, hs, a, w, h => by
  unfold wpList at h
  show wpListIn F m P ops Q' (o::(l++rest)) a w
  unfold wpListIn
  have ih:=wpListIn_of hfn hd hc hr hn hq ho l (fun o h=>hs o (List.mem_cons_of_mem _ h))
  by_cases hw:Region.wanted o (yielded ops a.tmps)=true
  ·rw[if_pos hw]at h⊢
   rcases h with h|⟨_,a0,w0,h⟩
   ·refine⟨fun f _=>hfn f,?_⟩
    rw[hs o (List.mem_cons_self ..)]
    exact uponIn_of_upon hd hc hr ih hq _ h
   ·exact(ho a0 w0 h).elim
  ·rw[if_neg hw]at h⊢
   exact⟨fun f _=>hfn f,ih _ _ h⟩
def plainOp(o:Oper):Bool:=match o.op with
 | .defer _=>false
 |_=>true
/-! ### Code in a round -/
theorem H.seqR(h:H P base n L f A (codeR P lp x (seqR P lp y q))):H P base n L f A (codeR P lp (.seq x y) q):=.mk fun a w hf s=>wpIn_seq (h.out a w hf s)
theorem H.thenR(h:H P base n L f A (codeR P lp y q)):H P base n L f A (.out .normal (Go.Proofs.YtkaknokcbhiigaaGreatDoor.seqR P lp y q)):=.mk h.out
theorem H.skipR(h:H P base n L f A (.out .normal q)):H P base n L f A (codeR P lp .skip q):=.mk fun a w hf s=>wpIn_skip (h.out a w hf s)
theorem H.blockR{c:Code}(h:H P base n L f A (codeR P lp c (.block id q))):H P base n L f A (codeR P lp (.block id c) q):=.mk fun a w hf s=>wpIn_block (h.out a w hf s)
theorem H.condR{c:Operand}{t:Bool}(hc:ev? L c=some (.bool t))(ht:t=true→H P base n L f A (codeR P lp x q))(hf':t=false→H P base n L f A (codeR P lp y q)):H P base n L f A (codeR P lp (.cond c x y) q):=.mk fun a w hf s=>wpIn_cond_split (hf.eval hc) (fun e=>(ht e).out a w hf s) (fun e=>(hf' e).out a w hf s)
theorem H.condR_true{c:Operand}(hc:ev? L c=some (.bool true))(ht:H P base n L f A (codeR P lp x q)):H P base n L f A (codeR P lp (.cond c x y) q):=H.condR hc (fun _=>ht) (fun e=>by cases e)
theorem H.condR_false{c:Operand}(hc:ev? L c=some (.bool false))(ht:H P base n L f A (codeR P lp y q)):H P base n L f A (codeR P lp (.cond c x y) q):=H.condR hc (fun e=>by cases e) (fun _=>ht)
theorem H.condR_yes{c:Operand}{p:Prop}{_:Decidable p}(hc:ev? L c=some (.bool (decide p)))(hp:p)(ht:H P base n L f A (codeR P lp x q)):H P base n L f A (codeR P lp (.cond c x y) q):=H.condR_true (by rw[hc,decide_eq_true hp]) ht
theorem H.condR_no{c:Operand}{p:Prop}{_:Decidable p}(hc:ev? L c=some (.bool (decide p)))(hp:¬p)(ht:H P base n L f A (codeR P lp y q)):H P base n L f A (codeR P lp (.cond c x y) q):=H.condR_false (by rw[hc,decide_eq_false hp]) ht
theorem H.regionR{l:List Oper}(hp:l.all plainOp=true)(hs:q.shut P)(h:H P base n L f A (.ops l l q)):H P base n L f A (codeR P lp (.region id l.toArray false) q):=.mk fun a w hf s=>by
 refine wpIn_region_lit ?_
 have:=wpListIn_of (P:=P) (F:=Fence.wide.inRound lp) (m:=2) (ops:=l.toArray) (rest:=[]) (Q:=q.den P) (Q':=q.den P) (fun _=>trivial) rfl (fun m f args w R h=>(callsIn_wide.2 h:CallsIn Fence.wide m P f args w R)) (fun m row args w R h=>rowsIn_wide h) (fun a w h=>h) (fun e a w _ h=>h) hs l (fun o ho ρ=>?_) a w (h.out a w hf s)
 ·rw[List.append_nil]at this
  exact this
 ·have:=List.all_eq_true.1 hp o ho
  exact Oper.semAt_eq _ _ _ fun c hc=>by simp[plainOp,hc]at this
/-! ### A region that calls yield -/
theorem H.regionY{l:List Oper}(h:H P base n L f A (opsIn P l l q)):H P base n L f A (.code (.region id l.toArray false) q):=.mk fun a w hf s=>wpIn_wide.1 (wpIn_region_lit (n:=3) (h.out a w hf s))
theorem H.inOp{l:List Oper}(hs:q.shut P)(h:H P base n L f A (.ops l [o] (inList P l rest q))):H P base n L f A (opsIn P l (o::rest) q):=.mk fun a w hf s=>
 wpListIn_of (P:=P) (F:=Fence.wide) (m:=3) (ops:=l.toArray) (rest:=rest) (Q:=(inList P l rest q).den P) (Q':=q.den P) (fun _=>trivial) rfl (fun m f args w R h=>callsIn_wide.2 h) (fun m row args w R h=>rowsIn_wide h) (fun a w h=>h) (fun e a w he h=>by cases e<;>first|exact(he rfl).elim|exact h) hs [o] (fun o _ ρ=>rfl) a w (h.out a w hf s)
theorem H.By{l:List Oper}(h:H P base n L f A (opsIn P l rest q)):H P base n L f A (.out .normal (inList P l rest q)):=.mk h.out
theorem H.inNil{l:List Oper}(h:H P base n L f A (.out .normal q)):H P base n L f A (opsIn P l [] q):=.mk h.out
theorem run_yieldV(a:Act){dd:Option Tmp}{x:Operand}(hx:a.eval x= .func (.yield lp) #[] #[])(hargs:xs.map a.eval=vs):(execOp a.eval ⟨dd,.call ⟨.value x,xs.toArray,ats⟩,ty,pos,af,gd⟩).run P w=(Instr.yield lp vs.toArray).run P w:=by
 have e1:(#[]++Array.map a.eval xs.toArray:Array Value)=vs.toArray:=by simp[hargs]
 simp only[execOp,resolve,hx,Deferred.ofValue,Sem.run_bind,Sem.run_pure,Result.andThen_ok,invoke,e1]
theorem H.yield{l:List Oper}{d:Nat}{x:Operand}(hx:ev? L x=some (.func (.yield lp) #[] #[]))(hw:want? l L gd=true)(hd:Nat.ble (d+1) n=true)
  (hxs:evs? L xs=some vs) (hc:YieldFn P lp vs f A R)
  (k:∀v f' A',R v f' A'→H P base n ((d,v)::L) f' A' (opsIn P l rest q)) :
  H P base n L f A (opsIn P l (⟨some d,.call ⟨.value x,xs.toArray,ats⟩,ty,pos,af,gd⟩::rest) q):=.mk fun a w hf s=>by
 show wpListIn Fence.wide 3 P l.toArray (q.den P) _ a w
 unfold wpListIn
 rw[if_pos (hf.want (o:=⟨some d,_,ty,pos,af,gd⟩) hw)]
 refine⟨fun _ _=>trivial,?_⟩
 obtain⟨fn,tmps,assign,body,h1,h2⟩:=hc base w s
 have hrun:=(run_yieldV (P:=P) (dd:=some d) (ats:=ats) (ty:=ty) (pos:=pos) (af:=af) (gd:=gd) (w:=w) a (hf.eval hx) (hf.evals hxs)).trans h1
 have hrun':Sem.run P (Oper.semAt Fence.wide.round a.eval ⟨some d,.call ⟨.value x,xs.toArray,ats⟩,ty,pos,af,gd⟩) w= .ok (.round lp fn tmps assign body) w:=hrun
 rw[hrun',Oper.uponIn_round]
 refine⟨(fun h=>by cases h),h2.mono ?_⟩
 rintro e w' ⟨v,f',A',rfl,hr,s'⟩
 exact(k v f' A' hr).out _ _ (hf.put (Nat.le_of_ble_eq_true hd) v) s'
/-! ### A round -/
theorem sets_fr:∀(ps:List Tmp) (vs:List Value) (tmps:Array Value) (L:Env),(ps.all fun p=>Nat.ble (p+1) n)=true→tmps.size=n→(∀i v,look? L i=some v→tmps[i]?=some v)→
  ((ps.zip vs).foldl (fun tmps (t,a)=>tmps.setIfInBounds t a) tmps).size=n∧∀i v,look? (setsE ps vs L) i=some v→((ps.zip vs).foldl (fun tmps (t,a)=>tmps.setIfInBounds t a) tmps)[i]?=some v
 | [],vs,tmps,L,_,h1,h2=>by simpa [setsE]using⟨h1,h2⟩
 |p::ps,[],tmps,L,_,h1,h2=>by simpa [setsE]using⟨h1,h2⟩
 | p :: ps, v :: vs, tmps, L, hp, h1, h2 => by
  simp only[List.all_cons,Bool.and_eq_true]at hp
  have hlt:=Nat.le_of_ble_eq_true hp.1
  refine sets_fr ps vs (tmps.setIfInBounds p v) ((p,v)::L) hp.2 (by simpa using h1) fun i u hi=>?_
  rw[look?_cons (look?_lt hi)]at hi
  by_cases e:p=i
  ·subst e
   rw[if_pos rfl]at hi
   injection hi with hi
   subst hi
   rw[Array.getElem?_setIfInBounds_self_of_lt jA]
  ·rw[if_neg e]at hi
   rw[Array.getElem?_setIfInBounds_ne e]
   exact h2 i u hi
theorem H.begin{b:Code}(h:H P base n L f (loopH n0 L0 lp ps assign b D .busy::A) (codeR P lp body q)):H P base n L f (loopH n0 L0 lp ps assign b D .ready::A) (.out .normal (beginP P lp body q)):=.mk fun a w hf s=>by
 obtain⟨fn,tmps,h1,h2,s1⟩:=s.loop
 have hg:=s1.got (.here _ _ emp)
 refine⟨_,run_beginRound hg rfl,h.out a _ hf (Sat.ofLoop (fn:=fn) (tmps:=tmps) h1 h2 ?_)⟩
 exact s1.set (.here _ _ _) rfl rfl rfl rfl
theorem H.endRound{b:Code}(h:R (.bool true) f (loopH n0 L0 lp ps assign b D .ready::A)):H P base n L f (loopH n0 L0 lp ps assign b D .busy::A) (.out .normal (roundP P lp base R)):=.mk fun a w hf s=>by
 obtain⟨fn,tmps,h1,h2,s1⟩:=s.loop
 have hg:=s1.got (.here _ _ emp)
 refine⟨_,_,run_endRound none hg,_,f,_,rfl,h,Sat.ofLoop (fn:=fn) (tmps:=tmps) h1 h2 ?_⟩
 exact s1.set (.here _ _ _) rfl rfl rfl rfl
theorem YieldFn.of(hp:(ps.all fun p=>Nat.ble (p+1) n)=true)(hz:(Nat.beq args.length ps.length)=true)(hsm:Nat.ble n 1000003=true)(hmk:mk? (setsE ps args L)=none)
  (h:∀base,H P base n (setsE ps args L) f (loopH n L lp ps assign body D .ready::A) (codeR P lp assign (beginP P lp body (roundP P lp base R)))) :
  YieldFn P lp args f (loopH n L lp ps assign body D .ready::A) R:=fun base w s=>by
 obtain⟨fn,tmps,h1,h2,s1⟩:=s.loop
 have hg:=s1.got (.here _ _ emp)
 have hz':args.toArray.size=ps.toArray.size:=by simpa using Nat.eq_of_beq_eq_true hz
 have hy:=run_yield (P:=P) (w:=w) (args:=args.toArray) hg hz'
 refine⟨_,_,_,_,hy,roundIn_of_wpIn (F:=Fence.wide) (n:=2) trivial ?_⟩
 obtain⟨h3,h4⟩:=sets_fr ps args tmps L hp h1 h2
 have e:(ps.toArray.zip args.toArray).foldl (fun tmps (t,a)=>tmps.setIfInBounds t a) tmps=(ps.zip args).foldl (fun tmps (t,a)=>tmps.setIfInBounds t a) tmps:=by simp
 have hfr:Fr n {tmps:=(ps.toArray.zip args.toArray).foldl (fun tmps (t,a)=>tmps.setIfInBounds t a) tmps,defers:=[]} (setsE ps args L):=by
  refine⟨?_,Nat.le_of_ble_eq_true hsm,by unfold dmOf;rw[hmk],fun i v hi=>?_⟩
  ·show Array.size (Array.foldl _ _ _)=n;rw[e];exact h3
  ·show(Array.foldl _ _ _)[i]?=some v;rw[e];exact h4 i v hi
 exact(h base).out _ w hfr s
theorem Fn.wrap(hA:∀h,stars A h→stars A1 h)(h:Fn P fid args f A1 R1)(hR:∀v g B,R1 v g B→∃B',R v g B'∧∀h,stars B h→stars B' h):Fn P fid args f A R:=fun base w s=>
 (h base w (s.imp hA)).mono fun _ _ ⟨v,f',B,e,r,s'⟩=>let⟨B',r',hi⟩:=hR _ _ _ r;⟨v,f',B',e,r',s'.imp hi⟩
theorem YieldFn.wrap(hA:∀h,stars A h→stars A1 h)(h:YieldFn P lp args f A1 R1)(hR:∀v g B,R1 v g B→∃B',R v g B'∧∀h,stars B h→stars B' h):YieldFn P lp args f A R:=fun base w s=>
 let⟨fn,tmps,assign,body,h1,h2⟩:=h base w (s.imp hA)
 ⟨fn,tmps,assign,body,h1,h2.mono fun _ _ ⟨v,f',B,e,r,s'⟩=>let⟨B',r',hi⟩:=hR _ _ _ r;⟨v,f',B',e,r',s'.imp hi⟩⟩
theorem pack_all(X A:List HP):∀h,stars (X++A) h→stars (stars X::A) h:=fun h hh=>by rw[zbz]at hh;exact hh
theorem open_all(X A:List HP):∀h,stars (stars X::A) h→stars (X++A) h:=fun h hh=>by rw[zbz];exact hh
/-! ### The statement -/
theorem H.rangeFunc{ι:Type}{A':ι→Nat→List HP}[hfun:Fun P gf](hg:ev? L g=some (.func (.func gf) fs.toArray cs.toArray))(hmk:mk? L=none)
  (hc:∀D lp,Fn P gf (fs++[.func (.yield lp) #[] #[]]++cs) f (loopH n L lp ps assign body D .ready::pts D (.deferred (some []))::A) (fun _ g B=>∃i,g=f'∧B=loopH n L lp ps assign body D .ready::A' i D))
  (k:∀i D,H P base n ((1000003,.pointer (some ⟨D,0,none⟩))::L) f' (A' i D) (.out .normal q)) :
  H P base n L f A (.code (.rangeFunc g ps.toArray assign body) q):=.mk fun a w hf s=>by
 refine wpIn_wide.1 (wpIn_rangeFunc (F:=Fence.wide) (n:=3) fun fn _=>?_)
 obtain⟨fnc,e1,e2,e3⟩:=hfun.eq
 have hev:a.eval g= .func (.func gf) fs.toArray cs.toArray:=hf.eval hg
 have hd0:a.defers=[]:=hf.bare hmk
 have sA:Sat base (w.alloc (.deferred (some []))) f (pts w.heap.size (.deferred (some []))::A):=s.alloc rfl rfl rfl rfl
 have sB:=sA.alloc (w':=(w.alloc (.deferred (some []))).alloc (.loop {state:=.ready,pending:=none,fn,tmps:=a.tmps,params:=ps.toArray,assign,body,defers:=w.heap.size})) rfl rfl rfl rfl
 rw[World.size_alloc]at sB
 have sC:Sat base _ f (loopH n L (w.heap.size+1) ps assign body w.heap.size .ready::pts w.heap.size (.deferred (some []))::A):=Sat.ofLoop (fn:=fn) (tmps:=a.tmps) hf.size hf.get sB
 have hrun:=run_enterLoop_outer (P:=P) (w:=w) fn a.tmps ps.toArray assign body
 generalize(w.alloc (.deferred (some []))).alloc (.loop {state:=.ready,pending:=none,fn,tmps:=a.tmps,params:=ps.toArray,assign,body,defers:=w.heap.size})=W at sC hrun
 have hcall:=hc w.heap.size (w.heap.size+1) base W sC
 refine⟨w.heap.size+1,_,W,{target:=.fn (.func gf) cs.toArray,args:=fs.toArray++ #[Value.func (.yield (w.heap.size+1)) #[] #[]]},W,gf,(fs++[Value.func (.yield (w.heap.size+1)) #[] #[]]++cs).toArray,W,hrun,?_,fun _ _=>trivial,?_,(fun h=>by cases h),callsIn_wide.2 (hcall.mono ?_)⟩
 ·have:Array.map a.eval #[Operand.const (Value.func (.yield (w.heap.size+1)) #[] #[])]= #[Value.func (.yield (w.heap.size+1)) #[] #[]]:=by simp[Act.eval]
  simp only[rangeCall,resolve,hev,Deferred.ofValue,Sem.run_pure,this]
 ·simp only[invoke,callFunc,Sem.run_bind,run_program,Result.andThen_ok,e1,e2,e3,Bool.false_eq_true,if_false,Sem.run_pure]
  simp
 ·rintro e w' ⟨v,f1,B,rfl,⟨i,rfl,rfl⟩,s'⟩
  obtain⟨fn',tmps',h1,h2,s1⟩:=s'.loop
  have hgl:=s1.got (.here _ _ emp)
  refine⟨none,_,run_endLoop hgl jL,?_⟩
  refine(k i w.heap.size).out _ _ ⟨hf.size,hf.small,?_,fun j u hj=>?_⟩ ((s1.set (w':=w'.putObj (w.heap.size+1) _) (.here _ _ _) rfl rfl rfl rfl).drop (.here _ _))
  ·show _++a.defers=dmOf _
   rw[hd0]
   rfl
  ·have hl:=look?_lt hj
   rw[look?_cons hl,if_neg jA]at hj
   exact hf.get j u hj
theorem H.rangeFuncE[hfun:Fun P gf](hg:ev? L g=some (.func (.func gf) fs.toArray cs.toArray))(hmk:mk? L=none)
  (hb : ∀ LH : Nat → Nat → LoopState → HP, (LH = fun D lp st => loopH n L lp ps assign body D st) → ∃ (ι : Type) (A' : ι → Nat → List HP),
   (∀D lp,Fn P gf (fs++[.func (.yield lp) #[] #[]]++cs) f (LH D lp .ready::pts D (.deferred (some []))::A) (fun _ g B=>∃i,g=f'∧B=LH D lp .ready::A' i D))∧
   ∀i D,H P base n ((1000003,.pointer (some ⟨D,0,none⟩))::L) f' (A' i D) (.out .normal q)) :
  H P base n L f A (.code (.rangeFunc g ps.toArray assign body) q):=by
 obtain⟨ι,A',h1,h2⟩:=hb _ rfl;exact H.rangeFunc hg hmk h1 h2
end
theorem eqC_ch(x y:Int×Int):eqC (chV x) (chV y)=decide (x=y):=by
 obtain⟨a,b⟩:=x;obtain⟨c,d⟩:=y;by_cases h1:a=c<;>by_cases h2:b=d<;>simp[eqC,eqv,chV,h1,h2]
def qokB(l:Lgs)(m:Msg):Bool:=m.body.q.all fun q=>decide (q.2≤m.deps (q.1-1).toNat)&&chB l q m.body.view
variable {c lb T:Nat} {l:Lgs} {p:Option Addr} {ys:List (Int × Int)}
section
variable (f:Frag) (F:List HP)
theorem chidx_fn(hl:ys.length≤1000000)(y:Int×Int):Fn prog 215 [.slice p ys.length c,.agg (chV y).toArray] f (slc p ys.length c 228 2 (ys.flatMap chV)::F) (Ret (.int .i64 (idxI (fun x=>decide (x=y)) ys)) f (slc p ys.length c 228 2 (ys.flatMap chV)::F)):=by
 refine Fn.e2 func215 ntmps215 fun base=>?_;refine gA ?_;refine H.box (ls:=chV y) rfl rfl rfl rfl fun vb=>?_;refine gT ?_;refine H.lo (ι:=Nat) (fun i=>[(8,.int .i64 (i:Int)),(7,.int .i64 (ys.length:Nat)),(0,.slice p ys.length c),(3,.pointer (some ⟨vb,0,none⟩))]) (fun _=>f) (fun _=>row vb 228 (chV y)::slc p ys.length c 228 2 (ys.flatMap chV)::F) (fun i=>i≤ys.length∧∀j x,j<i→ys[j]?=some x→decide (x=y)=false) (fun i=>ys.length-i) 0 ⟨Nat.zero_le _,fun j x hj=>by omega⟩ fun i hi=>?_;obtain⟨hi,hb⟩:i≤ys.length∧∀j x,j<i→ys[j]?=some x→decide (x=y)=false:=hi;by_cases hlt:i<ys.length
 ·obtain⟨x,hx⟩:∃x,ys[i]?=some x:=⟨_,List.getElem?_eq_getElem hlt⟩;refine H.Au (p:=p) (n0:=ys.length) (c:=c) (T:=228) (sz:=2) (xs:=ys.flatMap chV) (.there _ (.here _ _ _)) jA fun sb hp=>?_;subst hp
  have rd:∀G:List HP,Rd f (row vb 228 (chV y)::slc (some ⟨sb,0,none⟩) ys.length c 228 2 (ys.flatMap chV)::G) sb (0+i*2) (chV x):=fun G=>by
   rw[Nat.zero_add];exact Rd.slcElem (vals:=chV) (xs:=ys) (n:=ys.length) (c:=c) (T:=228) chV_len jC (.there _ (.here _ _ _)) hx
  refine gG ?_;refine H.dq ?_;refine HQ.Ab (ls:=chV y) rfl rfl rfl (Rd.ofRow (.here _ _ _)) rfl rfl ?_;refine gB ?_;refine HQ.Ak (i:=i) rfl rfl rfl rfl hlt rfl ?_;refine HQ.Ab (ls:=chV x) rfl rfl rfl (rd _) rfl rfl ?_;have he:eqC (chV y) (chV x)=decide (x=y):=by rw[eqC_ch];exact decide_eq_decide.2 ⟨fun h=>h.symm,fun h=>h.symm⟩
  refine HQ.aggEq (xs:=chV y) (ys:=chV x) (D:=4) (b:=decide (x=y)) rfl rfl rfl rfl jD jD jD jD jC he rfl ?_
  cases hxy:decide (x=y)with
  | true =>
   refine gL ?_;refine gD ?_;refine qeJ ?_;refine H.Ae rfl rfl iD ⟨?_,rfl,rfl⟩;rw[idxI_at (pr:=fun x=>decide (x=y)) hx hxy hb]
  | false =>
   refine gL ?_;refine gV ?_;refine H.ag (i+1) ⟨by show i+1≤ys.length;omega,fun j z hj hz=>?_⟩ (by show ys.length-(i+1)<ys.length-i;omega);by_cases e:j=i
   ·subst e;rw[hx]at hz;cases hz;exact hxy
   ·exact hb j z jA hz
 ·have e:i=ys.length:=jA
  subst e;refine gZ ?_;refine qeJ ?_;refine H.Ae rfl rfl iD ⟨?_,rfl,rfl⟩;rw[idxI_none (pr:=fun x=>decide (x=y)) hb]
theorem chhas_fn(hl:ys.length≤1000000)(y:Int×Int):Fn prog 184 [.slice p ys.length c,.agg (chV y).toArray] f (slc p ys.length c 228 2 (ys.flatMap chV)::F) (Ret (.bool (ys.any fun x=>decide (x=y))) f (slc p ys.length c 228 2 (ys.flatMap chV)::F)):=by
 have h1:=idxI_any (fun x=>decide (x=y)) ys;have hc:=fun G=>chidx_fn f G (p:=p) (c:=c) hl y
 refine Fn.e2 func184 ntmps184 fun base=>?_;refine gA ?_;refine H.box (ls:=chV y) rfl rfl rfl rfl fun vb=>?_;refine gK ?_;refine H.Ab (ls:=chV y) rfl rfl rfl (Rd.ofRow (.here _ _ _)) rfl rfl ?_;refine qeJ ?_;refine H.cr (hc _) ?_;exact qci
theorem chB_eq(l:Lgs)(q:Int×Int)(v:Int):((l.ch (q.1-1).toNat).any fun c=>decide (c=(v,q.2)))=chB l q v:=by
 unfold chB;congr 1;funext c;obtain⟨a,b⟩:=c;by_cases h1:a=v<;>by_cases h2:b=q.2<;>simp[h1,h2]
theorem plquorum_fn(hL:LI l T)(hT:T≤50000){x:MV}(hx:x.Good f)(hm:MIn l.n x.m){vb:Nat}{pp:Option Addr}{pc:Nat}{cp:Option Addr}{cc:Nat}{cs:Nat→Option Addr×Nat}:Fn prog 130 [.pointer (some ⟨lb,0,none⟩),.agg x.vals.toArray] f (row lb 124 (plC l.n l.known vb pp pc cp cc)::slc cp l.n cc 226 1 (chRow l cs)::fam (pcFam l cs) l.n::F)
   (Ret (.bool (qokB l x.m&&decide (x.m.body.q.length=l.n / 2+1))) f (row lb 124 (plC l.n l.known vb pp pc cp cc)::slc cp l.n cc 226 1 (chRow l cs)::fam (pcFam l cs) l.n::F)):=by
 have hn:=hL.n3;have hqat:ListAt f x.qp 2 pairV x.m.body.q:=hx.1
 have hql:x.m.body.q.length≤1000000:=by have:=hx.2.1;omega
 refine Fn.e2 func130 ntmps130 fun base=>?_;refine qej fun mb=>?_;refine gN ?_;refine qkg fun cb hcb=>?_;subst hcb
 refine H.lo (ι:=Nat) (fun i=>[(11,.int .i64 (i:Int)),(10,.int .i64 (x.m.body.q.length:Nat)),(9,.slice x.qp x.m.body.q.length x.qc),(0,.pointer (some ⟨lb,0,none⟩)),(3,.pointer (some ⟨mb,0,none⟩))]) (fun _=>f)
  (fun _=>row mb 54 x.vals::row lb 124 (plC l.n l.known vb pp pc (some ⟨cb,0,none⟩) cc)::slc (some ⟨cb,0,none⟩) l.n cc 226 1 (chRow l cs)::fam (pcFam l cs) l.n::F)
  (fun i=>i≤x.m.body.q.length∧∀j p,j<i→x.m.body.q[j]?=some p→p.2≤x.m.deps (p.1-1).toNat∧chB l p x.m.body.view=true) (fun i=>x.m.body.q.length-i) 0 ⟨Nat.zero_le _,fun j p hj=>by omega⟩ fun i hi1=>?_
 obtain⟨hi1,hb⟩:i≤x.m.body.q.length∧∀j p,j<i→x.m.body.q[j]?=some p→p.2≤x.m.deps (p.1-1).toNat∧chB l p x.m.body.view=true:=hi1;by_cases hlt:i<x.m.body.q.length
 ·obtain⟨p,hp⟩:∃p,x.m.body.q[i]?=some p:=⟨_,List.getElem?_eq_getElem hlt⟩;have hpm:=List.mem_of_getElem? hp;have hpq:=hm.q p hpm
  obtain⟨r,hre⟩:∃r,r=(p.1-1).toNat:=⟨_,rfl⟩;have hr:r<l.n:=jA
  have hr11:r<11:=jA
  have hrz:p.1-1=(r:Nat):=jA
  obtain⟨qb,qoff,qcs,qT,qfr,hqp,hqfb,hqcs⟩:=hqat i p hp;have rd:∀A,Rd f A qb (qoff+i*2) (pairV p):=fun A=>Rd.imm hqfb hqcs;have hch:=fun G=>chhas_fn f G (p:=(cs r).1) (c:=(cs r).2) (ys:=l.ch r) (Nat.le_trans (hL.cl r) jA) (x.m.body.view,p.2)
  have hcbe:=chB_eq l p x.m.body.view;rw[←hre]at hcbe
  rw[hcbe]at hch;refine gG ?_;refine H.Ak (b:=qb) (off:=qoff) (i:=i) rfl kE rfl rfl hlt rfl ?_;refine qkM fun ab=>?_;refine qjR ?_;refine gA ?_;refine H.db (S:=[_,_,_,_]) rfl ?_;refine HB.qu [0,1,2,3,4,5,6,7,8,9,10,11,12,13,14,15,16,17,18,19,20,21,22,23,24] 3 ?_;refine qhe ?_;by_cases h1:p.2≤x.m.deps r
  ·skip;refine gP ?_;refine qgL ?_;refine HB.ev 25 ?_;skip;refine H.pf (x:=fam (pcFam l cs) _) ?_;refine H.Bq hr ?_;refine H.cr (hch _) ?_;refine H.Ca (g:=pcFam l cs) hr ?_;refine qfp ?_;refine qeT ?_
   cases hcb:chB l p x.m.body.view with
   | true =>
    refine qed ?_;refine HB.qu [26,27] 0 ?_;refine qfh ?_;refine gV ?_;refine qiq ?_;exact qbs
   | false =>
    have hqo:qokB l x.m=false:=List.all_eq_false.2 ⟨p,hpm,by rw[hcb,Bool.and_false];decide⟩;refine gA ?_
    exact qbv
  ·have hqo:qokB l x.m=false:=List.all_eq_false.2 ⟨p,hpm,by rw[←hre,decide_eq_false h1,Bool.false_and];decide⟩;refine gP ?_
   refine qel ?_;refine HB.ev 25 ?_;refine gC ?_;exact qbv
 ·have hqo:qokB l x.m=true:=List.all_eq_true.2 fun p hp=>by
   exact qbX
  have hqz:decide (((x.m.body.q.length:Nat):Int)=((l.n / 2:Nat):Int)+1)=decide (x.m.body.q.length=l.n / 2+1):=decide_eq_decide.2 jA;clear hb
  rw[hqo,Bool.true_and,←hqz];refine gZ ?_;refine H.dq ?_;refine gR ?_;refine HQ.quo (z:=((l.n / 2:Nat):Int)) rfl rfl rfl jC ji rfl ?_;refine gI ?_;refine gT ?_;exact qce
end
def bmax(a z:Int×Int):Int×Int:=if a.1<z.1∨(z.1=a.1∧a.2<z.2)then z else a
variable {bv:Int} {z:Int × Int} {r:List (Int × Int)}
theorem bestOf_yes{a:Int×Int}(h:z.1<bv):bestOf bv (z::r) a=bestOf bv r (bmax a z):=by
 rw[bestOf_cons];unfold bmax;by_cases h2:a.1<z.1∨(z.1=a.1∧a.2<z.2)
 ·rw[if_pos ⟨h,h2⟩,if_pos h2]
 ·rw[if_neg (fun h3=>h2 h3.2),if_neg h2]
theorem bestOf_no{a:Int×Int}(h:¬z.1<bv):bestOf bv (z::r) a=bestOf bv r a:=by
 rw[bestOf_cons,if_neg (fun h3=>h h3.1)]
theorem voted_at:∀ {l:List (Int×Int)},(l.map (·.1)).Pairwise (· < ·)→∀ {z:Int×Int},z∈l→PM.voted l z.1=some z.2
 | [],_,z,h=>by cases h
 | (w, n) :: r, hr, z, h => by
  rw[List.map_cons,List.pairwise_cons]at hr
  unfold PM.voted
  by_cases e:z.1=w
  ·rw[if_pos e]
   rcases List.mem_cons.1 h with h|h
   ·rw[h]
   ·have:=hr.1 z.1 (List.mem_map.2 ⟨z,h,rfl⟩)
    simp only at this
    omega
  ·rw[if_neg e]
   rcases List.mem_cons.1 h with h|h
   ·rw[h]at e;exact absurd rfl e
   ·exact voted_at hr.2 h
variable {b:Nat} {fl:Frag}
section
variable (f:Frag) (F:List HP)
theorem plvoted1_fn{s:PM}(hz:PM.voted s.all z.1=some z.2):Fn prog 76 [.pointer (some ⟨b,0,none⟩),.int .u64 z.1] f (pastH b s::F) (Ret (.tuple #[.int .i64 z.2,.bool true]) f (pastH b s::F)):=by
 have h:=voted_fn f F b s z.1;rw[hz]at h
 exact h
theorem votes_fn:Fn prog 131 [.pointer (some ⟨lb,0,none⟩),.slice p m c,.int .u64 bv] f F
  (RetE (α := Nat × Nat × Nat) (fun b => .func (.func 185) #[] #[.pointer (some ⟨b.1, 0, none⟩), .pointer (some ⟨b.2.1, 0, none⟩), .pointer (some ⟨b.2.2, 0, none⟩)]) f
   (fun b=>row b.1 50 [.slice p m c]::row b.2.1 80 [.pointer (some ⟨lb,0,none⟩)]::row b.2.2 35 [.int .u64 bv]::F)):=by
 refine Fn.e3 func131 ntmps131 fun base=>?_;refine qgk fun b2=>?_;refine H.box (ls:=[.slice p m c]) rfl rfl rfl rfl fun b1=>?_;refine H.box (ls:=[.int .u64 bv]) rfl rfl rfl rfl fun b3=>?_;refine gX ?_;refine H.pf (x:=row b2 _ _) ?_;refine H.pf (x:=row b1 _ _) ?_;exact H.r1 ⟨(b1,b2,b3),rfl,rfl,rfl⟩
theorem votes1_fn(hfl:Le fl f)(hL:LI l T)(hT:T≤50000){i:PPt}(hi:plφ fl l i){qp:Option Addr}{qc:Nat}{q:List (Int×Int)}(hq:QAt f qp q)(hql:q.length≤1000000)(hm:∀p∈q,1≤p.1∧p.1≤(l.n:Int)){X:Int×Int→HP}
  (hY:∀(a z:Int×Int) (G:List HP),YieldFn prog lp [.int .u64 z.1,.int .i64 z.2] f (X a::G) (fun v g B=>v= .bool true∧g=f∧B=X (bmax a z)::G)) {b1 b2 b3:Nat} (a0:Int×Int) :
  Fn prog 185 ([]++[.func (.yield lp) #[] #[]]++[.pointer (some ⟨b1,0,none⟩),.pointer (some ⟨b2,0,none⟩),.pointer (some ⟨b3,0,none⟩)]) f
   (X a0::row b1 50 [.slice qp q.length qc]::row b2 80 [.pointer (some ⟨lb,0,none⟩)]::row b3 35 [.int .u64 bv]::row lb 124 (plC l.n l.known i.vb i.pp i.pc i.cp i.cc)::fam (fun r=>pastH (i.pb r) (l.past r)) l.n::F)
   (Ret (.tuple #[]) f (X (bestQ l.past bv q a0)::row b1 50 [.slice qp q.length qc]::row b2 80 [.pointer (some ⟨lb,0,none⟩)]::row b3 35 [.int .u64 bv]::row lb 124 (plC l.n l.known i.vb i.pp i.pc i.cp i.cc)::fam (fun r=>pastH (i.pb r) (l.past r)) l.n::F)):=by
 have hn:=hL.n3;have hqat:ListAt f qp 2 pairV q:=hq
 have hpa:=fun(o:Nat) (ho:o<l.n) (r:Int) (hr:r=((o+1:Nat):Int)) (G:List HP)=>plpast_fn f G hfl (lb:=lb) hi hn.2 ho hr;obtain⟨V,vb,pp,pc,cp,cc,pb,cs⟩:=i
 show Fn _ _ _ f (_::_::_::_::row lb 124 (plC l.n l.known vb pp pc cp cc)::fam (fun r=>pastH (pb r) (l.past r)) l.n::F) (Ret _ f (_::_::_::_::row lb 124 (plC l.n l.known vb pp pc cp cc)::fam (fun r=>pastH (pb r) (l.past r)) l.n::F));have hpa:∀(o:Nat),o<l.n→∀(r:Int),r=((o+1:Nat):Int)→∀(G:List HP),Fn prog 53 [.pointer (some ⟨lb,0,none⟩),.int .i64 r] f (row lb 124 (plC l.n l.known vb pp pc cp cc)::G) (Ret (.pointer (some ⟨pb o,0,none⟩)) f (row lb 124 (plC l.n l.known vb pp pc cp cc)::G)):=hpa;refine Fn.e4 func185 ntmps185 fun base=>?_
 refine gN ?_
 refine H.lo (ι:=Nat×Int×Int) (fun s=>[(14,.int .i64 (s.1:Int)),(13,.int .i64 (q.length:Nat)),(12,.slice qp q.length qc),(0,.func (.yield lp) #[] #[]),(2,.pointer (some ⟨b2,0,none⟩)),(3,.pointer (some ⟨b3,0,none⟩))]) (fun _=>f)
  (fun s=>X s.2::row b1 50 [.slice qp q.length qc]::row b2 80 [.pointer (some ⟨lb,0,none⟩)]::row b3 35 [.int .u64 bv]::row lb 124 (plC l.n l.known vb pp pc cp cc)::fam (fun r=>pastH (pb r) (l.past r)) l.n::F)
  (fun s=>s.1≤q.length∧bestQ l.past bv (q.drop s.1) s.2=bestQ l.past bv q a0) (fun s=>q.length-s.1) (0,a0) ⟨Nat.zero_le _,rfl⟩ fun s hs=>?_
 obtain⟨j,a⟩:=s;obtain⟨hj1,hbq⟩:j≤q.length∧bestQ l.past bv (q.drop j) a=bestQ l.past bv q a0:=hs;show H _ _ _ [(14,.int .i64 (j:Int)),_,_,_,_,_] f (X a::_::_::_::_::_::F) _;by_cases hlt:j<q.length
 ·obtain⟨p,hp⟩:∃p,q[j]?=some p:=⟨_,List.getElem?_eq_getElem hlt⟩;have hpm:=List.mem_of_getElem? hp;have hpq:=hm p hpm
  obtain⟨r,hre⟩:∃r,r=(p.1-1).toNat:=⟨_,rfl⟩;have hr:r<l.n:=jA
  obtain⟨qb,qoff,qcs,qT,qfr,hqp,hqfb,hqcs⟩:=hqat j p hp;have rd:∀A,Rd f A qb (qoff+j*2) (pairV p):=fun A=>Rd.imm hqfb hqcs;rw[show q.drop j=p::q.drop (j+1) by rw[List.drop_eq_getElem_cons hlt,(List.getElem?_eq_some_iff.1 hp).2]]at hbq
  rw[bestQ_cons]at hbq;rw[←hre]at hbq;have hwf:=hL.wf r hr;have hil:=hL.il r hr
  have halen:=all_len (l.past r);have hen:=fun G=>entered_fn f G (pb r) (l.past r) jA
  have hpar:=hpa r hr p.1 jA;clear hpa
  refine gG ?_;refine H.Ak (b:=qb) (off:=qoff) (i:=j) rfl kE rfl rfl hlt rfl ?_;refine qkM fun ab=>?_;refine qjR ?_;refine gF ?_;refine qet ?_;refine H.cr (hpar _) ?_;refine gK ?_;refine qkq ?_;refine H.cl (hen _) fun v f' A' hR=>?_;obtain⟨ep,ec,rfl,hff,rfl⟩:=hR;rw[hff];clear hen hff;refine gT ?_;refine H.pf (x:=row b3 _ _) ?_;refine H.pf (x:=X a) ?_
  refine H.lo (ι:=Nat×Int×Int) (fun s=>[(25,.int .i64 (s.1:Int)),(24,.int .i64 (((l.past r).init.length+1:Nat):Int)),(23,.slice ep ((l.past r).init.length+1) ec),(7,.pointer (some ⟨pb r,0,none⟩)),(14,.int .i64 (j:Int)),(13,.int .i64 (q.length:Nat)),(12,.slice qp q.length qc),(0,.func (.yield lp) #[] #[]),(2,.pointer (some ⟨b2,0,none⟩)),(3,.pointer (some ⟨b3,0,none⟩))]) (fun _=>f)
   (fun s=>X s.2::row b3 35 [.int .u64 bv]::slc ep ((l.past r).init.length+1) ec 35 1 (viewsV (l.past r).all)::pastH (pb r) (l.past r)::fam (updF (fun r=>pastH (pb r) (l.past r)) r emp) l.n::row lb 124 (plC l.n l.known vb pp pc cp cc)::row ab 127 (pairV p)::row b1 50 [.slice qp q.length qc]::row b2 80 [.pointer (some ⟨lb,0,none⟩)]::F)
   (fun s=>s.1≤(l.past r).all.length∧bestOf bv ((l.past r).all.drop s.1) s.2=bestOf bv (l.past r).all a) (fun s=>(l.past r).all.length-s.1) (0,a) ⟨Nat.zero_le _,rfl⟩ fun s hs=>?_
  obtain⟨k,a2⟩:=s;obtain⟨hk1,hbo⟩:k≤(l.past r).all.length∧bestOf bv ((l.past r).all.drop k) a2=bestOf bv (l.past r).all a:=hs;show H _ _ _ [(25,.int .i64 (k:Int)),_,_,_,_,_,_,_,_,_] f (X a2::_::_::_::_::_::_::_::_::F) _;by_cases hk:k<(l.past r).all.length
  ·obtain⟨z,hz⟩:∃z,(l.past r).all[k]?=some z:=⟨_,List.getElem?_eq_getElem hk⟩;rw[show(l.past r).all.drop k=z::(l.past r).all.drop (k+1) by rw[List.drop_eq_getElem_cons hk,(List.getElem?_eq_some_iff.1 hz).2]]at hbo;have hvo:=fun G=>plvoted1_fn f G (b:=pb r) (s:=l.past r) (z:=z) (voted_at hwf.rise (List.mem_of_getElem? hz));refine H.Au (p:=ep) (n0:=(l.past r).init.length+1) (c:=ec) (T:=35) (sz:=1) (xs:=viewsV (l.past r).all) (.there _ (.there _ (.here _ _ _))) jA fun eb hep=>?_
   subst hep;refine gG ?_;refine qgJ ?_;refine H.Ad rfl rfl rfl (by rw[Nat.zero_add,Nat.mul_one];exact Rd1.at0 (Rd.ofSlc (.there _ (.there _ (.here _ _ _))) jA) (v:=.int .u64 z.1) (by rw[viewsV,List.getElem?_map,hz];rfl)) rfl ?_;refine gK ?_;refine H.pf (x:=pastH (pb r) _) ?_;refine H.cr (hvo _) ?_
   iterate 8 ( first
    |((first|apply H.Aw|apply H.Be|apply H.Bd|apply H.Bi|apply H.Bt|apply H.Bs);(iterate 3 exact rfl))
    |(apply H.Bn;(iterate 3 exact rfl);exact inferInstance;exact rfl)
    |(apply H.Ad;(iterate 3 exact rfl);apply Rd1.ofRow;(repeat(first|exact .here _ _ _|apply At.there));(iterate 2 exact rfl))
    |(first|apply H.seq|apply H.Bg|apply H.nil|apply H.Bj)
    |((first|apply H.cmp|apply H.Ax);(iterate 5 exact rfl))
    |((first|(apply H.ar;(iterate 4 exact rfl))|(apply H.Bk;(iterate 2 exact rfl)));(first|(with_reducible apply zbe;omega)|(with_reducible apply zbf;omega)|(with_reducible apply zbd;omega)|(with_reducible apply wr_i64;omega)|(with_reducible apply wr_u64;omega)|(with_reducible apply wr_u8;omega)|(with_reducible apply wr_u16;omega)|rfl);exact rfl)
    |(apply H.pass;(iterate 2 exact rfl))
    |(apply H.pass0;exact rfl)
    |(apply H.pickT;(iterate 4 exact rfl))
    |((first|apply H.Br|apply H.Bv|apply H.not|apply H.Co);(iterate 4 exact rfl))
    |((first|apply H.ptrNil|apply H.sliceNil);(iterate 5 exact rfl))
    |(apply H.Bb;(iterate 4 exact rfl);(repeat(first|exact .here _ _ _|apply At.there));(repeat(first|exact .here _ _ _|apply SetV.there)))
    |(apply H.Cp;exact rfl)
    |(apply H.Cn;exact rfl)
    |(first|apply H.skip|apply H.ret|apply H.Cf|apply H.Cg|apply H.exit|apply H.Bl|apply H.Bp|apply H.Cb|apply H.Cc|apply H.Ce|apply H.Cd)
    |(apply H.in_miss;exact rfl)
    |(apply H.gyes;(iterate 3 exact rfl);(first|assumption|omega))
    |(apply H.gno;(iterate 3 exact rfl);(first|assumption|omega))
    |(apply H.Ci;exact rfl;(first|assumption|omega))
    |(apply H.Ck;exact rfl;(first|assumption|omega))
    |((first|apply H.gtrue);(iterate 3 exact rfl);assumption)
    |(apply H.gfalse;(iterate 3 exact rfl);assumption)
    |(apply H.cond_t;exact rfl;assumption)
    |(apply H.cond_f;exact rfl;assumption) )
   refine H.regionY ?_;refine H.inOp jE ?_;refine gK ?_;refine H.By ?_;refine H.inOp jE ?_;refine gF ?_;refine H.By ?_;refine H.inOp jE ?_;refine gQ ?_;refine H.By ?_;refine H.inOp jE ?_;refine gK ?_;refine H.By ?_;by_cases hzb:z.1<bv
   ·rw[bestOf_yes hzb]at hbo;refine H.inOp jE ?_;refine gQ ?_;refine H.By ?_;refine H.inOp jE ?_;refine gK ?_;refine H.By ?_;refine H.inOp jE ?_;refine gK ?_;refine H.By ?_;refine H.pf (x:=X a2) ?_;refine H.yield rfl rfl rfl rfl (hY a2 z _) fun v f' A' hR=>?_;obtain⟨rfl,hff,rfl⟩:=hR;rw[hff];clear hff;refine H.inOp jE ?_;refine gY ?_;refine H.By ?_;refine H.inOp jE ?_;refine gQ ?_;refine qgQ ?_;exact H.ag (k+1,bmax a2 z) ⟨by show k+1≤(l.past r).all.length;omega,hbo⟩ jR
   ·rw[bestOf_no hzb]at hbo;refine H.inOp jE ?_;refine gU ?_;refine H.By ?_;refine H.inOp jE ?_;refine gC ?_;refine H.By ?_;refine H.inOp jE ?_;refine gC ?_;refine H.By ?_;refine H.inOp jE ?_;refine gC ?_;refine H.By ?_;refine H.inOp jE ?_;refine gC ?_;refine H.By ?_;refine H.inOp jE ?_;refine gY ?_;refine qgQ ?_;exact H.ag (k+1,a2) ⟨by show k+1≤(l.past r).all.length;omega,hbo⟩ jR
  ·have e:k=(l.past r).all.length:=jA
   subst e;rw[List.drop_length]at hbo;have hbo:a2=bestOf bv (l.past r).all a:=hbo;rw[←hbo]at hbq
   refine gZ ?_;refine H.pd (x:=slc ep _ ec _ _ _) ?_;refine qiq ?_;refine H.pf (x:=fam (updF _ _ _) _) ?_;refine H.pf (x:=pastH (pb r) _) ?_;refine qjl ?_;refine qjT ?_;refine H.pf (x:=X _) ?_;exact H.ag (j+1,a2) ⟨by show j+1≤q.length;omega,hbq⟩ (by show q.length-(j+1)<q.length-j;omega)
 ·have e:j=q.length:=jA
  subst e;rw[List.drop_length]at hbq;have hbq:a=bestQ l.past bv q a0:=hbq;rw[←hbq]
  refine gZ ?_;exact qaZ
end
theorem Lgs.begins_no{m:Msg}(ho:l.n % 2=1)(h:(qokB l m&&decide (m.body.q.length=l.n / 2+1))=false):l.begins m=(false,l):=by
 unfold Lgs.begins;by_cases h1:m.body.q.length≠(l.n-1) / 2+1
 ·rw[if_pos h1]
 ·rw[if_neg h1,if_pos];rw[decide_eq_true (show m.body.q.length=l.n / 2+1 by omega),Bool.and_true]at h;exact h
theorem Lgs.begins_en{m:Msg}(ho:l.n % 2=1)(h:(qokB l m&&decide (m.body.q.length=l.n / 2+1))=true){u:Int}{ln iv:Nat}{w:Vw}(hb:bestQ l.past m.body.view m.body.q (0,0)=(u,(ln:Int)))(hat:vwAt l.vs u=some iv)(hw:l.vs[iv]?=some w):l.begins m=
  if(l.past (orgI m)).enterOk m.body.view ln=false then(false,l)else
  (true,{l with past:=updF l.past (orgI m) ((l.past (orgI m)).enter m.body.view ln),vs:=insV ⟨m.body.view,m.number,w.all.take ln,[]⟩ l.vs}):=by
 rw[Bool.and_eq_true]at h;have h2:=of_decide_eq_true h.2;unfold Lgs.begins
 have h1:(m.body.q.all fun q=>decide (q.2≤m.deps (q.1-1).toNat)&&chB l q m.body.view)=true:=h.1
 have h3:((match vwAt l.vs u with|none=>[]|some i=>(l.vs[i]?.map Vw.all).getD []).take (ln:Int).toNat)=w.all.take ln:=by
  rw[hat];show((l.vs[iv]?.map Vw.all).getD []).take (ln:Int).toNat=_;rw[hw];rfl
 rw[hb,if_neg jA,if_neg kS,←h3];rfl
variable {v:Int}
theorem LI.fresh(h:LI l T){k:Int}(hr:primI l.n v<l.n)(he:(l.past (primI l.n v)).enterOk v k=true):vwAt l.vs v=none:=by
 have hw:=h.wf _ hr;have he:=of_decide_eq_true he
 refine vwAt_none.2 fun w hm e=>?_;by_cases h0:w.v=0
 ·have:=hw.last;omega
 ·obtain⟨p,hp,h1⟩:=h.begun w hm h0;rw[e]at hp h1;exact hw.not_all he.1 (List.mem_map.2 ⟨p,hp,h1⟩)
theorem ent_fresh{V:List PV}(h:(V.map PV.w).Perm l.vs)(hv:vwAt l.vs v=none):v∉(V.map PV.ent).map (·.1):=fun hm=>by
 obtain⟨e,he,h1⟩:=List.mem_map.1 hm
 obtain⟨x,hx,rfl⟩:=List.mem_map.1 he
 exact vwAt_none.1 hv x.w (h.mem_iff.1 (List.mem_map.2 ⟨x,hx,rfl⟩)) h1
section
variable (f:Frag) (F:List HP)
theorem plnew_view_fn(hfl:Le fl f)(hL:LI l T)(hT:T≤50000)(hodd:l.n % 2=1){x:MV}(hx:x.Good f)(hm:MIn l.n x.m)(hk:x.m.body.kind=4){i:PPt}(hi:plφ fl l i){r:Nat}(hre:r=orgI x.m):Fn prog 91 [.pointer (some ⟨lb,0,none⟩),.agg x.vals.toArray,.pointer (some ⟨i.pb r,0,none⟩)] f (plB lb l i++F) (Ret (.bool (l.counts x.m).1) f (plogH f lb (l.counts x.m).2::F)):=by
 have hiF:=hi.mono hfl;have hn:=hL.n3
 have hor:=hm.o;have hr:r<l.n:=by rw[hre];unfold orgI;omega
 have hwf:=hL.wf r hr;have hil:=hL.il r hr
 have hvl:=hL.vl;have hv0:=hm.v
 have hvs:=hi.vs;have hql:x.m.body.q.length≤1000000:=by have:=hx.2.1;omega
 have hvo1:=fun(lp:Nat) (X:Int×Int→HP) (hY) (b1 b2 b3:Nat) (G:List HP)=>votes1_fn f G hfl (lb:=lb) hL hT hi (q:=x.m.body.q) (qc:=x.qc) hx.1 hql hm.q (bv:=x.m.body.view) (lp:=lp) (X:=X) hY (b1:=b1) (b2:=b2) (b3:=b3) (0,0);obtain⟨V,vb,pp,pc,cp,cc,pb,cs⟩:=i
 have hvs:(V.map PV.w).Perm l.vs:=hvs
 have hvo1:∀(lp:Nat) (X:Int×Int→HP),(∀(a z:Int×Int) (G:List HP),YieldFn prog lp [.int .u64 z.1,.int .i64 z.2] f (X a::G) (fun v g B=>v= .bool true∧g=f∧B=X (bmax a z)::G))→∀(b1 b2 b3:Nat) (G:List HP),Fn prog 185 ([]++[.func (.yield lp) #[] #[]]++[.pointer (some ⟨b1,0,none⟩),.pointer (some ⟨b2,0,none⟩),.pointer (some ⟨b3,0,none⟩)]) f
   (X (0,0)::row b1 50 [.slice x.qp x.m.body.q.length x.qc]::row b2 80 [.pointer (some ⟨lb,0,none⟩)]::row b3 35 [.int .u64 x.m.body.view]::row lb 124 (plC l.n l.known vb pp pc cp cc)::fam (fun r=>pastH (pb r) (l.past r)) l.n::G)
   (Ret (.tuple #[]) f (X (bestQ l.past x.m.body.view x.m.body.q (0,0))::row b1 50 [.slice x.qp x.m.body.q.length x.qc]::row b2 80 [.pointer (some ⟨lb,0,none⟩)]::row b3 35 [.int .u64 x.m.body.view]::row lb 124 (plC l.n l.known vb pp pc cp cc)::fam (fun r=>pastH (pb r) (l.past r)) l.n::G)):=hvo1
 have hprim:=fun G=>plprim_fn f G (lb:=lb) (n:=l.n) (kn:=l.known) (vb:=vb) (pp:=pp) (pc:=pc) (cp:=cp) (cc:=cc) jA hv0;have hqu:=fun G=>plquorum_fn f G hL hT hx hm (lb:=lb) (vb:=vb) (pp:=pp) (pc:=pc) (cp:=cp) (cc:=cc) (cs:=cs)
 rw[Lgs.counts_4 hk];refine qek ?_;by_cases hp:primZ l.n x.m.body.view=x.m.origin
 ·rw [if_pos (decide_eq_true hp)]
  cases hqk:qokB l x.m&&decide (x.m.body.q.length=l.n / 2+1)with
  | false =>
   rw[Lgs.begins_no hodd hqk];rw[hqk]at hqu;refine qhr fun base=>?_;refine qej fun mb=>?_;refine gF ?_;refine H.drawB jD jK jM (S:=[_]) rfl ?_;refine qfC ?_;refine qja ?_;exact qaQ
  | true =>
   obtain⟨⟨u,z⟩,hbq⟩:∃b,bestQ l.past x.m.body.view x.m.body.q (0,0)=b:=⟨_,rfl⟩;have hbest:=hL.best hm;rw[hbq]at hbest hvo1
   obtain⟨iv,w,hat,hw,hz0,hz1⟩:∃i w,vwAt l.vs u=some i∧l.vs[i]?=some w∧0≤z∧z≤(w.all.length:Int):=hbest;obtain⟨ln,rfl⟩:∃ln:Nat,z=(ln:Int):=⟨z.toNat,by omega⟩;have hln:ln≤w.all.length:=jA
   obtain⟨j,X,hX,hXw,hgetX⟩:=view_some hvs hL.rise hat hw;have hget:(getKV (V.map PV.ent) u).getD (.pointer none)= .pointer (some ⟨X.b,0,none⟩):=by rw[hgetX];rfl
   subst hXw;have hXl:=hL.al X.w (List.mem_of_getElem? hw);rw[Lgs.begins_en hodd hqk hbq hat hw,←hre]
   rw[hqk]at hqu;refine qhr fun base=>?_;refine qej fun mb=>?_;refine gF ?_;refine H.drawB jD jK jM (S:=[_]) rfl ?_;refine qfC ?_;refine qfA ?_;refine HB.qu [10,11] 0 ?_;refine qfh ?_;refine gV ?_;refine H.Aj (ls:=[.int .u64 0]) rfl rfl rfl fun ub=>?_;refine H.Aj (ls:=[.int .i64 0]) rfl rfl rfl fun nb=>?_;refine gc ?_;refine H.callE rfl rfl rfl (votes_fn f _) fun b=>?_;obtain⟨b1,b2,b3⟩:=b;refine gT ?_;refine H.sb [(35,.func (.func 185) #[] #[.pointer (some ⟨b1,0,none⟩),.pointer (some ⟨b2,0,none⟩),.pointer (some ⟨b3,0,none⟩)]),(9,.pointer (some ⟨nb,0,none⟩)),(8,.pointer (some ⟨ub,0,none⟩)),(7,.int .u64 x.m.body.view),(4,.pointer (some ⟨mb,0,none⟩)),(2,.pointer (some ⟨pb r,0,none⟩)),(0,.pointer (some ⟨lb,0,none⟩))] ?_;refine qg ?_;refine qjT ?_;refine qjX ?_;refine H.pf (x:=row ub _ _) ?_;refine H.rangeFuncE (f':=f) (fs:=[]) (cs:=[.pointer (some ⟨b1,0,none⟩),.pointer (some ⟨b2,0,none⟩),.pointer (some ⟨b3,0,none⟩)]) rfl rfl fun LH hLH=>⟨Unit,fun _ D=>pts D (.deferred (some []))::row ub 35 [.int .u64 u]::row nb 3 [.int .i64 (ln:Int)]::row b1 50 [.slice x.qp x.m.body.q.length x.qc]::row b2 80 [.pointer (some ⟨lb,0,none⟩)]::row b3 35 [.int .u64 x.m.body.view]::row lb 124 (plC l.n l.known vb pp pc cp cc)::fam (fun r=>pastH (pb r) (l.past r)) l.n::row mb 54 x.vals::slc cp l.n cc 226 1 (chRow l cs)::fam (pcFam l cs) l.n::mp vb keyU (V.map PV.ent)::lst (V.map PV.own)::F,fun D lp=>?_,fun _ D=>?_⟩
   ·refine Fn.wrap (pack_all [LH D lp .ready,pts D (.deferred (some [])),row ub 35 [.int .u64 0],row nb 3 [.int .i64 0]] _) (hvo1 lp (fun a=>stars [LH D lp .ready,pts D (.deferred (some [])),row ub 35 [.int .u64 a.1],row nb 3 [.int .i64 a.2]]) (fun a z G=>?_) b1 b2 b3 _) fun v g B hR=>?_
    ·refine YieldFn.wrap (R1:=fun v g B=>v= .bool true∧g=f∧B=LH D lp .ready::pts D (.deferred (some []))::row ub 35 [.int .u64 (bmax a z).1]::row nb 3 [.int .i64 (bmax a z).2]::G) (open_all _ _) ?_ ?_
     ·subst hLH;refine YieldFn.of rfl rfl rfl rfl fun base=>?_;repeat(first|(first|(first|apply H.seqR|apply H.thenR)|(apply H.regionR;exact rfl;exact jE))|(first|((apply H.Be);(iterate 3 exact rfl))|(apply H.nil)))
      refine H.begin ?_;by_cases h1:a.1<z.1
      ·rw[show bmax a z=z by unfold bmax;rw[if_pos (.inl h1)]];repeat(first|(first|(first|apply H.seqR|apply H.thenR|apply H.blockR)|(apply H.regionR;exact rfl;exact jE)|(apply H.condR_true;exact rfl))|(first|((apply H.Aw);(iterate 3 exact rfl))|(apply H.Ad;(iterate 3 exact rfl);apply Rd1.ofRow;(repeat(first|exact .here _ _ _|apply At.there));(iterate 2 exact rfl))|(apply H.nil)|((apply H.cmp);(iterate 5 exact rfl))|(apply H.pass;(iterate 2 exact rfl))|(apply H.pickT;(iterate 4 exact rfl))|(apply H.Bb;(iterate 4 exact rfl);(repeat(first|exact .here _ _ _|apply At.there)))|(apply H.Bp)|(apply H.gyes;(iterate 3 exact rfl);(assumption))))
       exact qdm
      ·by_cases h2 : z.1 = a.1
       ·by_cases h3:a.2<z.2
        ·rw[show bmax a z=z by unfold bmax;rw[if_pos (.inr ⟨h2,h3⟩)]];repeat(first|(first|(first|apply H.seqR|apply H.thenR|apply H.blockR)|(apply H.regionR;exact rfl;exact jE)|(apply H.condR_yes;exact rfl;(assumption)))|(first|((apply H.Aw);(iterate 3 exact rfl))|(apply H.Ad;(iterate 3 exact rfl);apply Rd1.ofRow;(repeat(first|exact .here _ _ _|apply At.there));(iterate 2 exact rfl))|(apply H.nil)|((apply H.cmp);(iterate 5 exact rfl))|(apply H.pickT;(iterate 4 exact rfl))|((apply H.Br);(iterate 4 exact rfl))|(apply H.Bb;(iterate 4 exact rfl);(repeat(first|exact .here _ _ _|apply At.there)))|(apply H.Bp)|(apply H.gyes;(iterate 3 exact rfl);(assumption))|(apply H.gno;(iterate 3 exact rfl);(assumption))))
         exact qdm
        ·rw[show bmax a z=a by unfold bmax;rw[if_neg (by rintro(h|h);exact h1 h;exact h3 h.2)]];repeat(first|(first|(first|apply H.seqR|apply H.thenR|apply H.skipR|apply H.blockR)|(apply H.regionR;exact rfl;exact jE)|(apply H.condR_no;exact rfl;(assumption)))|(first|((apply H.Aw);(iterate 3 exact rfl))|(apply H.Ad;(iterate 3 exact rfl);apply Rd1.ofRow;(repeat(first|exact .here _ _ _|apply At.there));(iterate 2 exact rfl))|(apply H.nil)|((apply H.cmp);(iterate 5 exact rfl))|(apply H.pickT;(iterate 4 exact rfl))|((apply H.Br);(iterate 4 exact rfl))|(apply H.Bp)|(apply H.gyes;(iterate 3 exact rfl);(assumption))|(apply H.gno;(iterate 3 exact rfl);(assumption))))
         exact qdm
       ·rw[show bmax a z=a by unfold bmax;rw[if_neg (by rintro(h|h);exact h1 h;exact h2 h.1)]];repeat(first|(first|(first|apply H.seqR|apply H.thenR|apply H.skipR|apply H.blockR)|(apply H.regionR;exact rfl;exact jE)|(apply H.condR_false;exact rfl))|(first|((apply H.Aw);(iterate 3 exact rfl))|(apply H.Ad;(iterate 3 exact rfl);apply Rd1.ofRow;(repeat(first|exact .here _ _ _|apply At.there));(iterate 2 exact rfl))|(apply H.nil)|((apply H.cmp);(iterate 5 exact rfl))|(apply H.pass;(iterate 2 exact rfl))|((apply H.Br);(iterate 4 exact rfl))|(apply H.Bp)|(apply H.gno;(iterate 3 exact rfl);(assumption))))
        exact qdm
     ·rintro v g B ⟨rfl,rfl,rfl⟩;exact⟨_,⟨rfl,rfl,rfl⟩,pack_all [_,_,_,_] G⟩
    ·obtain⟨rfl,rfl,rfl⟩:=hR;exact⟨_,⟨(),rfl,rfl⟩,open_all [_,_,_,_] _⟩
   ·have hent:=fun G=>enter_fn f G (pb r) (l.past r) hwf jA x.m.body.view (ln:Int);show H _ _ _ _ f (pts D (.deferred (some []))::row ub 35 [.int .u64 u]::row nb 3 [.int .i64 (ln:Int)]::row b1 50 [.slice x.qp x.m.body.q.length x.qc]::row b2 80 [.pointer (some ⟨lb,0,none⟩)]::row b3 35 [.int .u64 x.m.body.view]::row lb 124 (plC l.n l.known vb pp pc cp cc)::fam (fun r=>pastH (pb r) (l.past r)) l.n::row mb 54 x.vals::slc cp l.n cc 226 1 (chRow l cs)::fam (pcFam l cs) l.n::mp vb keyU (V.map PV.ent)::lst (V.map PV.own)::F) _
    refine H.pd (x:=row b1 _ _) ?_;refine H.pd (x:=row b2 _ _) ?_;refine H.pd (x:=row b3 _ _) ?_;refine gN ?_;refine qkq ?_;refine H.cr (hent _) ?_
    cases hek:(l.past r).enterOk x.m.body.view ln with
    | false =>
     rw[if_pos rfl];rw[show(l.past r).enter x.m.body.view ln=l.past r by unfold PM.enter;rw[hek];rfl];refine qjl ?_;refine gX ?_;refine qiu ?_;refine qgb ?_;refine qkK ?_;exact qdx
    | true =>
     rw[if_neg jC];refine qhy ?_;rw[past_updF];refine gU ?_;refine H.makeMap encA rfl rfl fun hb=>?_;refine H.Ax (t:=162) (out:=vwC x.m.number ln none 0 0 none 0 0 hb) rfl rfl rfl jD rfl ?_;refine H.box (ls:=vwC x.m.number ln none 0 0 none 0 0 hb) rfl rfl rfl rfl fun wb=>?_;refine gK ?_;refine qhU ?_;refine H.Cj (x:=X.own) (i:=j) jH ?_;refine H.ownOpen ?_;refine qeu ?_;refine H.slc_cap (p:=X.lp) (m:=X.w.all.length) (c:=X.lc) (T:=49) (sz:=40) (xs:=X.w.all.flatMap Req.vals) (.there _ (.here _ _ _)) fun hcap _ _=>?_;refine H.drawQ jD jK jM ?_;refine gR ?_;refine HQ.Bm (enc:=keyU) (k:=u) rfl rfl rfl jB rfl hget rfl ?_;refine gR ?_;refine HQ.slice (lo:=none) (hi:=some (.tmp 73)) (mx:=none) (lv:=0) (hv:=ln) (mv:=X.lc) rfl rfl rfl ⟨_,_,rfl,rfl⟩ rfl (fun h=>by cases h) (Nat.zero_le _) jA (Nat.le_refl _) rfl ?_;rw[slP0,Nat.sub_zero,Nat.sub_zero];refine gL ?_;refine gT ?_;refine H.slc0 49 40 ?_;refine H.pf (x:=mp hb _ _) ?_;refine H.pf (x:=slc none 0 0 _ _ _) ?_;refine qfv ?_
     refine H.loop (ι:=Nat×Option Addr×Nat) (fun s=>[(76,.int .i64 (s.1:Int)),(75,.int .i64 (ln:Int)),(74,.slice X.lp ln X.lc),(12,.pointer (some ⟨wb,0,none⟩)),(7,.int .u64 x.m.body.view),(0,.pointer (some ⟨lb,0,none⟩)),(1000003,.pointer (some ⟨D,0,none⟩))]) (fun _=>f)
      (fun s=>row wb 162 (vwC x.m.number ln s.2.1 (X.w.all.take s.1).length s.2.2 none 0 0 hb)::slc s.2.1 (X.w.all.take s.1).length s.2.2 49 40 ((X.w.all.take s.1).flatMap Req.vals)::mp hb encA (heldKV (X.w.all.take s.1))::row X.b 162 (vwC X.w.num X.w.s.length X.lp X.w.all.length X.lc X.np X.w.p.length X.nc X.hb)::slc X.lp X.w.all.length X.lc 49 40 (X.w.all.flatMap Req.vals)::slc X.np X.w.p.length X.nc 35 1 (X.w.p.flatMap numV)::mp X.hb encA (heldKV X.w.all)::lst ((V.map PV.own).set j emp)::fam (fun j=>pastH (pb j) (updF l.past r ((l.past r).enter x.m.body.view ln) j)) l.n::pts D (.deferred (some []))::row ub 35 [.int .u64 u]::row nb 3 [.int .i64 (ln:Int)]::row lb 124 (plC l.n l.known vb pp pc cp cc)::row mb 54 x.vals::slc cp l.n cc 226 1 (chRow l cs)::fam (pcFam l cs) l.n::mp vb keyU (V.map PV.ent)::F)
      (fun s=>s.1≤ln) (fun s=>ln-s.1) (0,none,0) (Nat.zero_le _) ⟨rfl,rfl,rfl,rfl,rfl,rfl,rfl,rfl⟩ rfl rfl fun s hs=>?_
     obtain⟨k,lp2,lc2⟩:=s;have hk2:k≤ln:=hs;show H _ _ _ [(76,.int .i64 (k:Int)),_,_,_,_,_,_] f (row wb _ (vwC x.m.number ln lp2 (X.w.all.take k).length lc2 none 0 0 hb)::slc lp2 (X.w.all.take k).length lc2 _ 40 ((X.w.all.take k).flatMap Req.vals)::mp hb encA (heldKV (X.w.all.take k))::_) _
     by_cases hlt:k<ln
     ·obtain⟨rq,hrq⟩:∃rq,X.w.all[k]?=some rq:=⟨_,List.getElem?_eq_getElem jA⟩;have htk:X.w.all.take (k+1)=X.w.all.take k++[rq]:=by rw[List.take_add_one,hrq];rfl
      refine H.Au (p:=X.lp) (n0:=X.w.all.length) (c:=X.lc) (T:=49) (sz:=40) (xs:=X.w.all.flatMap Req.vals) (.there _ (.there _ (.there _ (.there _ (.here _ _ _))))) jA fun sb hsb=>?_
      have rd:∀(a1 a2 a3 a4:HP) (G:List HP),Rd f (a1::a2::a3::a4::slc X.lp X.w.all.length X.lc 49 40 (X.w.all.flatMap Req.vals)::G) sb (0+k*40) rq.vals:=fun a1 a2 a3 a4 G=>by
       rw[Nat.zero_add];exact Rd.slcElem (vals:=Req.vals) (xs:=X.w.all) (n:=X.w.all.length) (c:=X.lc) (T:=49) Req.len jC (by rw[←hsb];exact .there _ (.there _ (.there _ (.there _ (.here _ _ _))))) hrq
      refine gG ?_;refine H.Ak (b:=sb) (off:=0) (i:=k) rfl (by rw[←hsb];rfl) rfl rfl hlt rfl ?_;refine H.Ab (ls:=rq.vals) rfl rfl rfl (rd _ _ _ _ _) rfl rfl ?_;refine qgK fun qb=>?_;refine H.Ag (ls:=Req.zero.vals) (vs:=rq.vals) (ls':=rq.vals) rfl rfl rfl (zaa rfl) rfl rfl (Nat.le_refl 40) (.here _ _ _) ?_;refine gK ?_;refine H.Ab (ls:=rq.vals) rfl rfl rfl (Rd.ofRow (.here _ _ _)) rfl rfl ?_;refine H.pd (x:=row qb _ _) ?_;refine H.Aq rfl rfl rfl (vput_fn f _ jl rq) fun v f' A' hR=>?_;obtain⟨lp3,lc3,hff,rfl⟩:=hR;rw[hff];rw[←htk];refine gV ?_;exact H.Av (k+1,lp3,lc3) (by show k+1≤ln;omega) (by show ln-(k+1)<ln-k;omega) ⟨rfl,rfl,rfl,rfl,rfl,rfl,rfl,rfl⟩ rfl rfl
     ·obtain rfl:k=ln:=jA
      refine gN ?_;refine H.mapUpdate (enc:=keyU) (k:=x.m.body.view) (v:=.pointer (some ⟨wb,0,none⟩)) rfl rfl rfl rfl jB rfl ?_;refine gT ?_;have hpr:primI l.n x.m.body.view=r:=by unfold primZ at hp;rw[hre];unfold orgI;omega
      have hfr:=hL.fresh (v:=x.m.body.view) (k:=(k:Int)) (by rw[hpr];exact hr) (by rw[hpr];exact hek);have hsl:(X.w.all.take k).length=k:=by rw[List.length_take];omega
      obtain⟨Y,hY⟩:∃Y:PV,Y=⟨⟨x.m.body.view,x.m.number,X.w.all.take k,[]⟩,wb,lp2,lc2,none,0,hb⟩:=⟨_,rfl⟩;have hYa:Y.w.all=X.w.all.take k:=by rw[hY];exact List.append_nil _
      have hof:=fun G=>zbw (x:=Y) (A:=G)
      have hparts:Y.parts=[row wb 162 (vwC x.m.number k lp2 (X.w.all.take k).length lc2 none 0 0 hb),slc lp2 (X.w.all.take k).length lc2 49 40 ((X.w.all.take k).flatMap Req.vals),slc none 0 0 35 1 [],mp hb encA (heldKV (X.w.all.take k))]:=by
       unfold PV.parts PV.cells;rw[hYa,hY];show [row wb _ [_,.int .i64 (((X.w.all.take k).length:Nat):Int),_,_,_],_,_,_]=_;rw[hsl];rfl
      rw[hparts]at hof
      have hent2:putKV (V.map PV.ent) x.m.body.view (.pointer (some ⟨wb,0,none⟩))=(V++[Y]).map PV.ent:=by
       rw[PM.put_absent _ _ _ (ent_fresh hvs hfr),List.map_append,hY];rfl
      rw[hent2]
      have hperm:((V++[Y]).map PV.w).Perm (insV ⟨x.m.body.view,x.m.number,X.w.all.take k,[]⟩ l.vs):=by
       rw[List.map_append,List.map_cons,List.map_nil,show Y.w=⟨x.m.body.view,x.m.number,X.w.all.take k,[]⟩ by rw[hY]];exact((List.perm_append_singleton _ _).trans ((List.perm_cons _).2 hvs)).trans (insV_perm _ _)
      refine H.slc0 35 1 ?_;refine H.pf (x:=mp hb _ _) ?_;refine H.pf (x:=slc none 0 0 35 _ _) ?_;refine H.pf (x:=slc lp2 _ lc2 _ _ _) ?_;refine qfv ?_;refine H.imp (hof _) ?_;clear hof hparts hent2 hYa;refine qez ?_;refine H.Cm jH ?_;refine H.pf (x:=Y.own) ?_;refine H.lstMore (ys:=(V++[Y]).map PV.own) (by rw[List.map_append];exact(List.perm_append_singleton _ _).symm) ?_;refine qiu ?_;refine H.pf (x:=lst ((V++[Y]).map PV.own)) ?_;refine qkd ?_;refine H.imp (zal (l:={l with past:=updF l.past r ((l.past r).enter x.m.body.view k),vs:=insV ⟨x.m.body.view,x.m.number,X.w.all.take k,[]⟩ l.vs}) ⟨V++[Y],vb,pp,pc,cp,cc,pb,cs⟩ ⟨hperm,hiF.p⟩) ?_;exact qdx
 ·rw[if_neg (fun h=>hp (of_decide_eq_true h))];refine qhr fun base=>?_;refine qej fun mb=>?_;refine gF ?_;refine H.drawB jD jK jM (S:=[_]) rfl ?_;refine qjc ?_;refine gP ?_;refine qhL ?_;refine gC ?_;exact qaQ
theorem plenter_fn(hfl:Le fl f)(hL:LI l T)(hT:T≤50000){x:MV}(hm:MIn l.n x.m)(hk:x.m.body.kind=5){i:PPt}(hi:plφ fl l i){r:Nat}(hre:r=orgI x.m):Fn prog 92 [.pointer (some ⟨lb,0,none⟩),.agg x.vals.toArray,.pointer (some ⟨i.pb r,0,none⟩)] f (plB lb l i++F) (Ret (.bool (l.counts x.m).1) f (plogH f lb (l.counts x.m).2::F)):=by
 have hiF:=hi.mono hfl;have hn:=hL.n3
 have hor:=hm.o;have hr:r<l.n:=by rw[hre];unfold orgI;omega
 have hwf:=hL.wf r hr;have hil:=hL.il r hr
 have hvl:=hL.vl;have hv0:=hm.v
 have hvs:=hi.vs;obtain⟨V,vb,pp,pc,cp,cc,pb,cs⟩:=i
 have hvs:(V.map PV.w).Perm l.vs:=hvs;have hprim:=fun G=>plprim_fn f G (lb:=lb) (n:=l.n) (kn:=l.known) (vb:=vb) (pp:=pp) (pc:=pc) (cp:=cp) (cc:=cc) jA hv0
 have hpl:primI l.n x.m.body.view<11:=qdb
 have hpz:primZ l.n x.m.body.view-1=(primI l.n x.m.body.view:Nat):=by unfold primZ;omega
 have hvd:(v11 x.m.deps)[primI l.n x.m.body.view]?=some (.int .u64 (x.m.deps (primI l.n x.m.body.view))):=zav _ hpl;refine qek ?_
 cases hat:vwAt l.vs x.m.body.view with
 | none =>
  rw[Lgs.counts_5n hk hat];have hget:(getKV (V.map PV.ent) x.m.body.view).getD (.pointer none)= .pointer none:=by rw[view_none hvs hat];rfl
  refine Fn.e3 func92 ntmps92 fun base=>?_;refine qej fun mb=>?_;refine qfw ?_;refine qeH ?_;refine HB.qu [0,1,2,3,4,5,6,7,8,11] 16 ?_;refine gP ?_;refine qhL ?_;refine qgG ?_;refine HB.qu [10,12,13,14,15,16,17,18,19,20,21,22] 3 ?_;refine gS ?_;refine qki ?_;exact qdy
 | some iv =>
  obtain⟨⟨w,hw,hwv⟩,_⟩:=zas.1 hat;obtain⟨j,X,hX,hXw,hgetX⟩:=view_some hvs hL.rise hat hw;have hget:(getKV (V.map PV.ent) x.m.body.view).getD (.pointer none)= .pointer (some ⟨X.b,0,none⟩):=by rw[hgetX];rfl
  rw[Lgs.counts_5 hk hat hw,←hre];subst hXw;have hXl:=hL.al X.w (List.mem_of_getElem? hw);have hXa:=X.w.all_len
  by_cases h1:X.w.num≤x.m.deps (primI l.n x.m.body.view)
  ·rw[if_neg jA];have hen:=fun G=>enter_fn f G (pb r) (l.past r) hwf jA x.m.body.view ((X.w.s.length:Nat):Int);refine Fn.e3 func92 ntmps92 fun base=>?_
   refine qej fun mb=>?_;refine qfw ?_;refine qhU ?_;refine H.Cj (x:=X.own) (i:=j) jH ?_;refine H.ownOpen ?_;refine qfb ?_;refine gP ?_;refine qel ?_;refine HB.ev 23 ?_;refine qkq ?_;refine H.cr (hen _) ?_;refine qhy ?_;rw[past_updF];refine qja ?_;refine qib ?_;refine qeM ?_;refine HB.qu [24,25] 0 ?_;refine qfh ?_;refine gT ?_;refine qez ?_;refine H.Cm jH ?_;exact qbc
  ·rw[if_pos jA];refine Fn.e3 func92 ntmps92 fun base=>?_;refine qej fun mb=>?_;refine qfw ?_;refine qhU ?_;refine H.Cj (x:=X.own) (i:=j) jH ?_;refine H.ownOpen ?_;refine qfb ?_;refine gP ?_;refine qki ?_;refine qez ?_;refine H.Cm jH ?_;exact qdy
end
structure NI(l:Lgs):Prop where
 rise:∀w∈l.vs,RiseN w.p
 low:∀w∈l.vs,∀y∈w.p,y.1≤l.known (primI l.n w.v)
theorem RiseN.nil:RiseN []:=fun i j y z _ hy _=>by cases hy
theorem NI.new(n:Nat):NI (Lgs.new n):=⟨fun w hw=>by
  have e:w=⟨0,0,[],[]⟩:=List.mem_singleton.1 hw
  rw[e];exact RiseN.nil,fun w hw y hy=>by
  have e:w=⟨0,0,[],[]⟩:=List.mem_singleton.1 hw
  rw[e]at hy;cases hy⟩
theorem Lgs.counts_vs(l:Lgs)(m:Msg):(l.counts m).2.vs=l.vs∨
  (∃i w,vwAt l.vs m.body.view=some i∧l.vs[i]?=some w∧primZ l.n m.body.view=m.origin∧(l.counts m).2.vs=l.vs.set i {w with p:=w.p++[(m.number,m.body.req)]})∨
  (∃s,(l.counts m).2.vs=insV ⟨m.body.view,m.number,s,[]⟩ l.vs):=by
 by_cases h3:m.body.kind=3
 ·rw[Lgs.counts_3 h3];split<;>exact .inl rfl
 ·by_cases h4 : m.body.kind = 4
  ·rw[Lgs.counts_4 h4];split
   ·unfold Lgs.begins;split
    ·exact .inl rfl
    ·split
     ·exact .inl rfl
     ·split
      ·exact .inl rfl
      ·exact .inr (.inr ⟨_,rfl⟩)
   ·exact .inl rfl
  ·by_cases h5 : m.body.kind = 5
   ·cases hat:vwAt l.vs m.body.view with
    |none=>rw[Lgs.counts_5n h5 hat];exact .inl rfl
    | some i =>
     obtain⟨⟨w,hw,_⟩,_⟩:=zas.1 hat;rw[Lgs.counts_5 h5 hat hw];split<;>exact .inl rfl
   ·by_cases h1 : m.body.kind = 1
    ·cases hat:vwAt l.vs m.body.view with
     |none=>rw[Lgs.counts_1n h1 hat];exact .inl rfl
     | some i =>
      obtain⟨⟨w,hw,_⟩,_⟩:=zas.1 hat;rw[Lgs.counts_1 h1 hat hw];split
      ·exact .inl rfl
      ·rename_i h
       refine .inr (.inl ⟨i,w,rfl,hw,?_,rfl⟩);rcases Decidable.em (primZ l.n m.body.view=m.origin)with e|e
       ·exact e
       ·exact absurd (.inl (decide_eq_false e)) h
    ·by_cases h2 : m.body.kind = 2
     ·cases hat:vwAt l.vs m.body.view with
      |none=>rw[Lgs.counts_2n h2 hat];exact .inl rfl
      | some i =>
       obtain⟨⟨w,hw,_⟩,_⟩:=zas.1 hat;rw[Lgs.counts_2 h2 hat hw];split<;>exact .inl rfl
     ·rw[Lgs.counts_x h3 h4 h5 h1 h2];exact .inl rfl
theorem NI.take{l:Lgs}(h:NI l)(m:Msg):NI (l.take m).2:=by
 unfold Lgs.take;split
 ·exact h
 ·split
  ·exact h
  ·rename_i _ hn
   have hnum:m.number=l.known (orgI m)+1:=by
    rcases Decidable.em (m.number=l.known (orgI m)+1)with e|e
    ·exact e
    ·exact absurd (.inl e) hn
   have hk:=l.counts_nk m;obtain⟨K,hK⟩:∃K,K=updF (l.counts m).2.known (orgI m) ((l.counts m).2.known (orgI m)+1):=⟨_,rfl⟩
   have hge:∀r,l.known r≤K r:=fun r=>by
    rw[hK,hk.2];by_cases e:r=orgI m
    ·subst e;rw[zaf];omega
    ·rw[zap _ _ e];exact Int.le_refl _
   have hKo:K (orgI m)=m.number:=by rw[hK,zaf,hk.2,hnum]
   show NI {(l.counts m).2 with known:=updF (l.counts m).2.known (orgI m) ((l.counts m).2.known (orgI m)+1)};rw[←hK]
   have key:(∀w∈(l.counts m).2.vs,RiseN w.p)∧∀w∈(l.counts m).2.vs,∀y∈w.p,y.1≤K (primI l.n w.v):=by
    rcases l.counts_vs m with e|⟨i,w,hat,hw,hp,e⟩|⟨s,e⟩
    ·rw[e];exact⟨h.rise,fun w hw y hy=>Int.le_trans (h.low w hw y hy) (hge _)⟩
    ·rw[e];have hwm:=List.mem_of_getElem? hw;obtain⟨⟨w',hw',hv⟩,_⟩:=zas.1 hat
     rw[hw]at hw';cases hw';have hpi:primI l.n w.v=orgI m:=by rw[hv];unfold primZ at hp;unfold orgI;omega
     refine⟨fun x hx=>?_,fun x hx y hy=>?_⟩
     ·rcases List.mem_or_eq_of_mem_set hx with hx|rfl
      ·exact h.rise x hx
      ·intro a b y z hab hy hz;show y.1<z.1;have hy:(w.p++[(m.number,m.body.req)])[a]?=some y:=hy;have hz:(w.p++[(m.number,m.body.req)])[b]?=some z:=hz
       have hbl:=(List.getElem?_eq_some_iff.1 hz).1;rw[List.length_append,List.length_singleton]at hbl
       rw[List.getElem?_append_left jA]at hy;by_cases hb:b<w.p.length
       ·rw[List.getElem?_append_left hb]at hz;exact h.rise w hwm a b y z hab hy hz
       ·rw[List.getElem?_append_right jA,show b-w.p.length=0 by omega]at hz;cases hz
        have:=h.low w hwm y (List.mem_of_getElem? hy);rw[hpi]at this
        show y.1<m.number;omega
     ·rcases List.mem_or_eq_of_mem_set hx with hx|rfl
      ·exact Int.le_trans (h.low x hx y hy) (hge _)
      ·show y.1≤K (primI l.n w.v);have hy:y∈w.p++[(m.number,m.body.req)]:=hy;rcases List.mem_append.1 hy with hy|hy
       ·exact Int.le_trans (h.low w hwm y hy) (hge _)
       ·rw[List.mem_singleton.1 hy,hpi,hKo];exact Int.le_refl _
    ·rw[e];refine⟨fun x hx=>?_,fun x hx y hy=>?_⟩
     ·rcases List.mem_cons.1 ((insV_perm _ _).mem_iff.2 hx)with rfl|hx
      ·exact RiseN.nil
      ·exact h.rise x hx
     ·rcases List.mem_cons.1 ((insV_perm _ _).mem_iff.2 hx)with rfl|hx
      ·cases hy
      ·exact Int.le_trans (h.low x hx y hy) (hge _)
   refine⟨key.1,fun w hw y hy=>?_⟩
   have:=key.2 w hw y hy;show y.1≤K (primI (l.counts m).2.n w.v)
   rw[hk.1];exact this
theorem may_kind{f:Frag}{x:MV}(hx:x.Good f)(hm:x.m.may=true):1≤x.m.body.kind.toNat∧x.m.body.kind.toNat≤6:=by
 unfold Msg.may at hm;rw[Bool.and_eq_true]at hm;have h:=mayB_eq hx.2.2;rw[hm.2]at h
 unfold Bod.mayB at h;rw[Bool.and_eq_true]at h;exact of_decide_eq_true h.1
variable {n:Nat}
theorem u8_ne{k:UInt8}(hn:n<256)(h:k≠UInt8.ofNat n):k.toNat≠n:=fun e=>h (by rw[←e];simp)
section
variable (f:Frag) (F:List HP)
theorem by3_fn:Fn prog 52 [.int .u8 3] f F (Ret (.func (.func 90) #[] #[]) f F):=by
 exact qbx
theorem by4_fn:Fn prog 52 [.int .u8 4] f F (Ret (.func (.func 91) #[] #[]) f F):=by
 exact qbx
theorem by5_fn:Fn prog 52 [.int .u8 5] f F (Ret (.func (.func 92) #[] #[]) f F):=by
 exact qbx
theorem by6_fn{k:Int}(h1:k≠1)(h2:k≠2)(h3:k≠3)(h4:k≠4)(h5:k≠5):Fn prog 52 [.int .u8 k] f F (Ret (.func (.func 95) #[] #[]) f F):=by
 refine Fn.e1 func52 ntmps52 fun base=>?_;refine gZ ?_;exact qam
theorem pltakeA_fn(htab:TabAt f)(hfl:Le fl f)(hL:LI l T)(hT:T≤40000)(hN:NI l)(hodd:l.n % 2=1){x:MV}(hx:x.Good f):Fn prog 25 [.pointer (some ⟨lb,0,none⟩),.agg x.vals.toArray] f (plogH fl lb l::F) (Ret (.tuple #[.bool (l.take x.m).1.1,.int .i64 (l.take x.m).1.2]) f (plogH f lb (l.take x.m).2::F)):=by
 by_cases k1:x.m.body.kind=1
 ·exact pltake1_fn f F htab hfl hL hT hx k1
 ·by_cases k2 : x.m.body.kind = 2
  ·exact pltake2_fn f F hfl hL hT hN.rise hx k2
  ·by_cases k3 : x.m.body.kind = 3
   ·exact pltake_fn f F hfl hL hT hx (fid:=90) (fun G=>by rw[k3];exact by3_fn f G) fun _ hm i G hi=>plchange_fn f G hfl (hL.more x.m) jA hm k3 hi rfl
   ·by_cases k4 : x.m.body.kind = 4
    ·exact pltake_fn f F hfl hL hT hx (fid:=91) (fun G=>by rw[k4];exact by4_fn f G) fun _ hm i G hi=>plnew_view_fn f G hfl (hL.more x.m) jA hodd hx hm k4 hi rfl
    ·by_cases k5 : x.m.body.kind = 5
     ·exact pltake_fn f F hfl hL hT hx (fid:=92) (fun G=>by rw[k5];exact by5_fn f G) fun _ hm i G hi=>plenter_fn f G hfl (hL.more x.m) jA hm k5 hi rfl
     ·have n1:=u8_ne (n:=1) jC k1;have n2:=u8_ne (n:=2) jC k2
      have n3:=u8_ne (n:=3) jC k3;have n4:=u8_ne (n:=4) jC k4
      have n5:=u8_ne (n:=5) jC k5;refine pltake_fn f F hfl hL hT hx (fid:=95) (fun G=>by6_fn f G jA jA jA jA jA) fun hmay hm i G hi=>?_
      have hk:=may_kind hx hmay
      have k6:x.m.body.kind=6:=by
       have e:x.m.body.kind.toNat=6:=jA
       exact UInt8.toNat_inj.1 e
      exact plcheck_fn f G hfl k6 hi
end
def Lgs.vw(l:Lgs)(v:Int):Option Vw:=(vwAt l.vs v).bind fun i=>l.vs[i]?
theorem vw_at{w:Vw}(h:l.vw v=some w):∃i,vwAt l.vs v=some i∧l.vs[i]?=some w:=by
 unfold Lgs.vw at h
 cases e:vwAt l.vs v with
 |none=>rw[e]at h;cases h
 |some i=>rw[e]at h;exact⟨i,rfl,h⟩
theorem vw_v{w:Vw}(h:l.vw v=some w):w.v=v∧w∈l.vs:=by
 obtain⟨i,h1,h2⟩:=vw_at h;obtain⟨⟨w',h3,h4⟩,_⟩:=zas.1 h1;rw[h2]at h3;cases h3;exact⟨h4,List.mem_of_getElem? h2⟩
theorem vw_none:l.vw v=none↔vwAt l.vs v=none:=by
 unfold Lgs.vw
 cases e:vwAt l.vs v with
 |none=>simp
 | some i =>
  obtain⟨⟨w,h1,_⟩,_⟩:=zas.1 e;simp[h1]
theorem primI_lt(hn:0<n)(v:Int):primI n v<n:=by
 have h1:v % (n:Int)<n:=Int.emod_lt_of_pos _ jA;have h2:0≤v % (n:Int):=Int.emod_nonneg _ jA
 unfold primI;omega
open Go.Sort (swp ltInt insInner insOuter insertionSort siftDown heapBuild heapPop heapSort reverseLoop reverseRange scanUp scanDown partLoop partEqLoop scanSorted shiftDown shiftUp partialIns partialInsertionSort)
open Go.Sort (partition partitionEqual partLoop_eq partEqLoop_eq partition_fst partition_arr scanUp_spec scanDown_spec)
theorem two_scans(p q:Int→Bool)(hq:∀x,q x= !p x)(d:Array Int){i j:Nat}(hi:0<i)(hij:i≤j+1):i≤scanUp p d j i∧scanUp p d j i≤j+1∧scanDown q d (scanUp p d j i) j≤j∧scanUp p d j i≤scanDown q d (scanUp p d j i) j+1∧(scanUp p d j i≤scanDown q d (scanUp p d j i) j→scanUp p d j i<scanDown q d (scanUp p d j i) j):=by
 obtain⟨u1,u2,u3,u4⟩:=scanUp_spec p d j _ i rfl;obtain⟨v1,v2,v3,v4⟩:=scanDown_spec q d (scanUp p d j i) j;have hu:=u2 hij;refine⟨u1,hu,v1,v2 hu,fun h=>?_⟩
 have f1:=u4 jA;have f2:=v4 jA jA
 rw[hq]at f2;rcases Nat.lt_or_ge (scanUp p d j i) (scanDown q d (scanUp p d j i) j)with h'|h'
 ·exact h'
 ·have e:scanUp p d j i=scanDown q d (scanUp p d j i) j:=jA
  rw[←e,f1]at f2;cases f2
variable {a pivot:Nat} {d0:Array Int}
section
variable (f:Frag) (F:List HP)
def PartP(f:Frag)(F:List HP)(p:Option Addr)(n c k:Nat)(d:Array Int):Value→Frag→List HP→Prop:=fun v f' A'=>∃ap:Bool,v= .tuple #[.int .i64 (k:Int),.bool ap]∧f'=f∧A'=slc p n c 35 1 (arr d)::F
theorem partition_fn(hd0:d0.size=n)(hn:n≤1000000)(hap:a≤pivot)(hpb:pivot<b)(hb:b≤n):Fn prog 199 [.slice p n c,.int .i64 (a:Int),.int .i64 (b:Int),.int .i64 (pivot:Int)] f (slc p n c 35 1 (arr d0)::F) (PartP f F p n c (partition ltInt d0 a b pivot).1 (partition ltInt d0 a b pivot).2.2):=by
 rw[partition_arr,partition_fst];refine Fn.e4 func199 ntmps199 fun base=>?_;refine qhG fun sb hp=>?_;subst hp;refine gK ?_;refine H.drawN jD jK jF ?_;refine qjB ?_;have hd:(swp d0 a pivot).size=n:=by rw[zbj];exact hd0
 generalize swp d0 a pivot=d at *;refine gV ?_;obtain⟨i,hi⟩:∃i,i=a+1:=⟨_,rfl⟩;obtain⟨j,hj⟩:∃j,j=b-1:=⟨_,rfl⟩;rw[←hi,←hj];refine H.Bh (d:=11) (u:=.int .i64 (j:Int)) rfl jP ?_;refine H.Bh (d:=10) (u:=.int .i64 (i:Int)) rfl jP ?_;obtain⟨s1,s2,s3,s4,s5⟩:=two_scans (fun x=>ltInt x d[a]!) (fun x=>!ltInt x d[a]!) (fun _=>rfl) d (i:=i) (j:=j) jA jA;have heq:=partLoop_eq ltInt a i j d;skip
 refine H.cutB (ι:=Unit) (fun _=>[(10,.int .i64 ((scanUp (fun x=>ltInt x d[a]!) d j i:Nat):Int)),(11,.int .i64 (j:Int)),(0,.slice (some ⟨sb,0,none⟩) n c),(1,.int .i64 (a:Int))]) (fun _=>f) (fun _=>slc (some ⟨sb,0,none⟩) n c 35 1 (arr d)::F) (fun _=>True) _ (fun _ _=>?_) ?_;rotate_left
 ·exact qae
 refine qgY ?_;obtain⟨i2,hi2⟩:∃i2,i2=scanUp (fun x=>ltInt x d[a]!) d j i:=⟨_,rfl⟩;rw[←hi2]at s1 s2 s3 s4 s5 heq⊢;refine qjr ?_;refine H.cutB (ι:=Unit) (fun _=>[(11,.int .i64 ((scanDown (fun x=>!ltInt x d[a]!) d i2 j:Nat):Int)),(10,.int .i64 (i2:Int)),(0,.slice (some ⟨sb,0,none⟩) n c),(1,.int .i64 (a:Int))]) (fun _=>f) (fun _=>slc (some ⟨sb,0,none⟩) n c 35 1 (arr d)::F) (fun _=>True) _ (fun _ _=>?_) ?_;rotate_left
 ·exact qad
 refine qgW ?_;obtain⟨j2,hj2⟩:∃j2,j2=scanDown (fun x=>!ltInt x d[a]!) d i2 j:=⟨_,rfl⟩;rw[←hj2]at s3 s4 s5 heq⊢;by_cases hgt:j2<i2
 ·rw[if_pos hgt]at heq;rw[heq];refine gG ?_;refine H.drawN jD jK jF ?_;refine qiG ?_;exact H.Ba rfl rfl rfl iD ⟨true,rfl,rfl,rfl⟩
 ·have hlt:=s5 jA;rw[if_neg hgt]at heq
  rw[heq];refine gZ ?_;refine H.drawN jD jK jF ?_;refine qfY ?_;obtain⟨j1,hj1⟩:∃j1,j1=j2-1:=⟨_,rfl⟩;rw[←hj1];have hd1:(swp d i2 j2).size=n:=by rw[zbj];exact hd
  generalize swp d i2 j2=d1 at *;refine gV ?_;refine H.Bh (d:=11) (u:=.int .i64 (j1:Int)) rfl jP ?_
  refine H.lo (ι:=Nat×Nat×Array Int) (fun s=>[(10,.int .i64 (s.1:Int)),(11,.int .i64 (s.2.1:Int)),(0,.slice (some ⟨sb,0,none⟩) n c),(1,.int .i64 (a:Int))]) (fun _=>f) (fun s=>slc (some ⟨sb,0,none⟩) n c 35 1 (arr s.2.2)::F)
   (fun s=>0<s.1∧s.1≤s.2.1+1∧s.2.1<n∧s.2.2.size=n∧partLoop ltInt a s.1 s.2.1 s.2.2=partLoop ltInt a (i2+1) j1 d1) (fun s=>s.2.1+1-s.1) (i2+1,j1,d1) ⟨by show 0<i2+1;omega,by show i2+1≤j1+1;omega,by show j1<n;omega,hd1,rfl⟩ fun s hs=>?_
  clear s1 s2 s3 s4 s5 heq hi2 hj2 hgt hlt;obtain⟨i,j,d⟩:=s;obtain⟨h0,hij,hjn,hd,hr⟩:0<i∧i≤j+1∧j<n∧d.size=n∧partLoop ltInt a i j d=partLoop ltInt a (i2+1) j1 d1:=hs;rw[←hr];clear hr;show H _ _ _ [(10,.int .i64 (i:Int)),(11,.int .i64 (j:Int)),_,_] f (slc (some ⟨sb,0,none⟩) n c _ 1 (arr d)::F) _;clear hj1 hd1;obtain⟨s1,s2,s3,s4,s5⟩:=two_scans (fun x=>ltInt x d[a]!) (fun x=>!ltInt x d[a]!) (fun _=>rfl) d (i:=i) (j:=j) h0 hij;have heq:=partLoop_eq ltInt a i j d;refine qjr ?_
  refine H.cutB (ι:=Unit) (fun _=>[(10,.int .i64 ((scanUp (fun x=>ltInt x d[a]!) d j i:Nat):Int)),(11,.int .i64 (j:Int)),(0,.slice (some ⟨sb,0,none⟩) n c),(1,.int .i64 (a:Int))]) (fun _=>f) (fun _=>slc (some ⟨sb,0,none⟩) n c 35 1 (arr d)::F) (fun _=>True) _ (fun _ _=>?_) ?_;rotate_left
  ·exact qae
  refine qgY ?_;obtain⟨i2,hi2⟩:∃i2,i2=scanUp (fun x=>ltInt x d[a]!) d j i:=⟨_,rfl⟩;rw[←hi2]at s1 s2 s3 s4 s5 heq⊢;refine qjr ?_;refine H.cutB (ι:=Unit) (fun _=>[(11,.int .i64 ((scanDown (fun x=>!ltInt x d[a]!) d i2 j:Nat):Int)),(10,.int .i64 (i2:Int)),(0,.slice (some ⟨sb,0,none⟩) n c),(1,.int .i64 (a:Int))]) (fun _=>f) (fun _=>slc (some ⟨sb,0,none⟩) n c 35 1 (arr d)::F) (fun _=>True) _ (fun _ _=>?_) ?_;rotate_left
  ·exact qad
  refine qgW ?_;obtain⟨j2,hj2⟩:∃j2,j2=scanDown (fun x=>!ltInt x d[a]!) d i2 j:=⟨_,rfl⟩;rw[←hj2]at s3 s4 s5 heq⊢;by_cases hgt:j2<i2
  ·rw[if_pos hgt]at heq;rw[heq];refine gO ?_;refine H.drawN jD jK jF ?_;refine qiG ?_;exact H.Ba rfl rfl rfl iD ⟨false,rfl,rfl,rfl⟩
  ·have hlt:=s5 jA;rw[if_neg hgt]at heq
   refine gZ ?_;refine H.drawN jD jK jF ?_;refine qfY ?_;obtain⟨j1,rfl⟩:∃j1,j2=j1+1:=⟨j2-1,by omega⟩;refine gV ?_;exact H.ag (i2+1,j1,swp d i2 (j1+1)) ⟨by show 0<i2+1;omega,by show i2+1≤j1+1;omega,by show j1<n;omega,by show(swp d i2 (j1+1)).size=n;rw[zbj];exact hd,heq.symm⟩ (by show j1+1-(i2+1)<j+1-i;omega)
theorem partEq_fn(hd0:d0.size=n)(hn:n≤1000000)(hap:a≤pivot)(hpb:pivot<b)(hb:b≤n):Fn prog 198 [.slice p n c,.int .i64 (a:Int),.int .i64 (b:Int),.int .i64 (pivot:Int)] f (slc p n c 35 1 (arr d0)::F) (Ret (.int .i64 ((partitionEqual ltInt d0 a b pivot).1:Nat)) f (slc p n c 35 1 (arr (partitionEqual ltInt d0 a b pivot).2)::F)):=by
 unfold partitionEqual;refine Fn.e4 func198 ntmps198 fun base=>?_;refine qhG fun sb hp=>?_;subst hp;refine gK ?_;refine H.drawN jD jK jF ?_;refine qjB ?_;have hd:(swp d0 a pivot).size=n:=by rw[zbj];exact hd0
 generalize swp d0 a pivot=d1 at *;obtain⟨j1,hj1⟩:∃j1,j1=b-1:=⟨_,rfl⟩;rw[←hj1];refine gV ?_;refine H.Bh (d:=10) (u:=.int .i64 (j1:Int)) rfl jP ?_
 refine H.lo (ι:=Nat×Nat×Array Int) (fun s=>[(9,.int .i64 (s.1:Int)),(10,.int .i64 (s.2.1:Int)),(0,.slice (some ⟨sb,0,none⟩) n c),(1,.int .i64 (a:Int))]) (fun _=>f) (fun s=>slc (some ⟨sb,0,none⟩) n c 35 1 (arr s.2.2)::F)
  (fun s=>0<s.1∧s.1≤s.2.1+1∧s.2.1<n∧s.2.2.size=n∧partEqLoop ltInt a s.1 s.2.1 s.2.2=partEqLoop ltInt a (a+1) j1 d1) (fun s=>s.2.1+1-s.1) (a+1,j1,d1) ⟨by show 0<a+1;omega,by show a+1≤j1+1;omega,by show j1<n;omega,hd,rfl⟩ fun s hs=>?_
 clear hd;obtain⟨i,j,d⟩:=s;obtain⟨h0,hij,hjn,hd,hr⟩:0<i∧i≤j+1∧j<n∧d.size=n∧partEqLoop ltInt a i j d=partEqLoop ltInt a (a+1) j1 d1:=hs;rw[←hr];clear hr;show H _ _ _ [(9,.int .i64 (i:Int)),(10,.int .i64 (j:Int)),_,_] f (slc (some ⟨sb,0,none⟩) n c _ 1 (arr d)::F) _;obtain⟨s1,s2,s3,s4,s5⟩:=two_scans (fun x=>!ltInt d[a]! x) (fun x=>ltInt d[a]! x) (fun x=>by simp) d (i:=i) (j:=j) h0 hij;have heq:=partEqLoop_eq ltInt a i j d;refine qjr ?_
 refine H.cutB (ι:=Unit) (fun _=>[(9,.int .i64 ((scanUp (fun x=>!ltInt d[a]! x) d j i:Nat):Int)),(10,.int .i64 (j:Int)),(0,.slice (some ⟨sb,0,none⟩) n c),(1,.int .i64 (a:Int))]) (fun _=>f) (fun _=>slc (some ⟨sb,0,none⟩) n c 35 1 (arr d)::F) (fun _=>True) _ (fun _ _=>?_) ?_;rotate_left
 ·skip;refine H.lo (ι:=Nat) (fun x=>[(9,.int .i64 (x:Int)),(10,.int .i64 (j:Int)),(0,.slice (some ⟨sb,0,none⟩) n c),(1,.int .i64 (a:Int))]) (fun _=>f) (fun _=>slc (some ⟨sb,0,none⟩) n c 35 1 (arr d)::F) (fun x=>x≤j+1∧scanUp (fun x=>!ltInt d[a]! x) d j x=scanUp (fun x=>!ltInt d[a]! x) d j i) (fun x=>j+1-x) i ⟨by show i≤j+1;omega,rfl⟩ fun x hx=>?_;obtain⟨hx,hs⟩:x≤j+1∧scanUp (fun x=>!ltInt d[a]! x) d j x=scanUp (fun x=>!ltInt d[a]! x) d j i:=hx;show H _ _ _ [(9,.int .i64 (x:Int)),_,_,_] f (slc (some ⟨sb,0,none⟩) n c _ 1 (arr d)::F) _;rw[scanUp]at hs;by_cases hxj:x≤j
  ·skip;refine qgX ?_;refine HB.qu [0,1,2,3,4,5,6,7,8,9,10,11] 3 ?_;refine gM ?_;refine qfH ?_;refine qhD ?_;refine qkD ?_;refine qeg ?_;refine qh ?_;refine H.Af rfl rfl rfl (zcc f _ d[a]! d[x]!) ?_;refine qed ?_;refine HB.qu [13,14] 0 ?_;refine qjz ?_
   cases hl:ltInt d[a]! d[x]! with
   | false =>
    rw[if_pos jk]at hs;refine gX ?_;exact H.ag (x+1) ⟨by show x+1≤j+1;omega,hs⟩ (by show j+1-(x+1)<j+1-x;omega)
   | true =>
    exact qdD
  ·skip;rw[if_neg jW]at hs;refine qgX ?_;refine qjo ?_;exact qdF
 show H _ _ _ [(9,.int .i64 ((scanUp (fun x=>!ltInt d[a]! x) d j i:Nat):Int)),(10,.int .i64 (j:Int)),(0,.slice (some ⟨sb,0,none⟩) n c),(1,.int .i64 (a:Int))] f (slc (some ⟨sb,0,none⟩) n c _ 1 (arr d)::F) _;obtain⟨i2,hi2⟩:∃i2,i2=scanUp (fun x=>!ltInt d[a]! x) d j i:=⟨_,rfl⟩;rw[←hi2]at s1 s2 s3 s4 s5 heq⊢;refine qjr ?_;refine H.cutB (ι:=Unit) (fun _=>[(10,.int .i64 ((scanDown (fun x=>ltInt d[a]! x) d i2 j:Nat):Int)),(9,.int .i64 (i2:Int)),(0,.slice (some ⟨sb,0,none⟩) n c),(1,.int .i64 (a:Int))]) (fun _=>f) (fun _=>slc (some ⟨sb,0,none⟩) n c 35 1 (arr d)::F) (fun _=>True) _ (fun _ _=>?_) ?_;rotate_left
 ·skip;refine H.lo (ι:=Nat) (fun x=>[(10,.int .i64 (x:Int)),(9,.int .i64 (i2:Int)),(0,.slice (some ⟨sb,0,none⟩) n c),(1,.int .i64 (a:Int))]) (fun _=>f) (fun _=>slc (some ⟨sb,0,none⟩) n c 35 1 (arr d)::F) (fun x=>x≤j∧scanDown (fun x=>ltInt d[a]! x) d i2 x=scanDown (fun x=>ltInt d[a]! x) d i2 j) (fun x=>x) j ⟨Nat.le_refl j,rfl⟩ fun x hx=>?_;obtain⟨hx,hs⟩:x≤j∧scanDown (fun x=>ltInt d[a]! x) d i2 x=scanDown (fun x=>ltInt d[a]! x) d i2 j:=hx;show H _ _ _ [(10,.int .i64 (x:Int)),_,_,_] f (slc (some ⟨sb,0,none⟩) n c _ 1 (arr d)::F) _;by_cases hxj:i2≤x
  ·skip;obtain⟨y,rfl⟩:∃y,x=y+1:=⟨x-1,by omega⟩;rw[scanDown]at hs;refine qgX ?_;refine qju ?_;refine gM ?_;refine qfH ?_;refine qhD ?_;refine qhd ?_;refine qeg ?_;refine qh ?_;refine H.Af rfl rfl rfl (zcc f _ d[a]! d[y+1]!) ?_;refine qed ?_;refine HB.qu [13] 0 ?_;refine qfh ?_
   cases hl:ltInt d[a]! d[y+1]! with
   | false =>
    exact qdD
   | true =>
    rw[if_pos jk]at hs;refine gX ?_;exact H.ag y ⟨by show y≤j;omega,hs⟩ ki
  ·skip
   have hs:x=scanDown (fun x=>ltInt d[a]! x) d i2 j:=by
    rw[←hs]
    cases x with
    |zero=>rfl
    |succ y=>rw[scanDown,if_neg jW]
   refine qgX ?_;refine qju ?_;refine gI ?_;refine qh ?_;refine qgG ?_;refine HB.qu [13] 0 ?_;exact qdF
 show H _ _ _ [(10,.int .i64 ((scanDown (fun x=>ltInt d[a]! x) d i2 j:Nat):Int)),(9,.int .i64 (i2:Int)),(0,.slice (some ⟨sb,0,none⟩) n c),(1,.int .i64 (a:Int))] f (slc (some ⟨sb,0,none⟩) n c _ 1 (arr d)::F) _;obtain⟨j2,hj2⟩:∃j2,j2=scanDown (fun x=>ltInt d[a]! x) d i2 j:=⟨_,rfl⟩;rw[←hj2]at s3 s4 s5 heq⊢;by_cases hgt:j2<i2
 ·rw[if_pos hgt]at heq;rw[heq];refine gO ?_;exact qam
 ·have hlt:=s5 jA;rw[if_neg hgt]at heq
  refine gZ ?_;refine H.drawN jD jK jF ?_;refine qfY ?_;obtain⟨j3,rfl⟩:∃j3,j2=j3+1:=⟨j2-1,by omega⟩;refine gV ?_;exact H.ag (i2+1,j3,swp d i2 (j3+1)) ⟨by show 0<i2+1;omega,by show i2+1≤j3+1;omega,by show j3<n;omega,by show(swp d i2 (j3+1)).size=n;rw[zbj];exact hd,heq.symm⟩ (by show j3+1-(i2+1)<j+1-i;omega)
end
open Go.Sort (swp ltInt insInner insOuter insertionSort siftDown heapBuild heapPop heapSort reverseLoop reverseRange scanUp scanDown partLoop partEqLoop scanSorted shiftDown shiftUp partialIns partialInsertionSort)
open Go.Sort (partialIns_succ fixDown fixUp)
theorem shiftDown_size:∀(j:Nat) (d:Array Int),(shiftDown ltInt j d).size=d.size
 |0,d=>rfl
 | j + 1, d => by
  rw[shiftDown]
  split
  ·rfl
  ·rw[shiftDown_size j,zbj]
theorem shiftUp_size(b:Nat):∀(m j:Nat) (d:Array Int),b-j≤m→(shiftUp ltInt b j d).size=d.size
 |0,j,d,h=>by rw[shiftUp,if_neg jA]
 | m + 1, j, d, h => by
  rw[shiftUp]
  split
  ·split
   ·rfl
   ·rw[shiftUp_size b m (j+1) _ jA,zbj]
  ·rfl
theorem scanSorted_rng(d:Array Int)(b:Nat):∀(m i:Nat),b-i≤m→i≤b→i≤scanSorted ltInt d b i∧scanSorted ltInt d b i≤b
 |0,i,h,hi=>by rw[scanSorted,if_neg jc];omega
 | m + 1, i, h, hi => by
  rw[scanSorted]
  split
  ·rename_i hc
   rw[Bool.and_eq_true]at hc
   have h1:=of_decide_eq_true hc.1
   have:=scanSorted_rng d b m (i+1) jA jA
   omega
  ·omega
section
variable (f:Frag) (F:List HP)
theorem partIns_fn(hd0:d0.size=n)(hn:n≤1000000)(hab:a<b)(hb:b≤n):Fn prog 196 [.slice p n c,.int .i64 (a:Int),.int .i64 (b:Int)] f (slc p n c 35 1 (arr d0)::F) (Ret (.bool (partialInsertionSort ltInt d0 a b).2) f (slc p n c 35 1 (arr (partialInsertionSort ltInt d0 a b).1)::F)):=by
 obtain⟨R,hR⟩:∃R,partialInsertionSort ltInt d0 a b=R:=⟨_,rfl⟩;have hR:partialIns ltInt a b 5 (a+1) d0=R:=hR;have hR2:partialInsertionSort ltInt d0 a b=R:=hR
 rw[hR2];clear hR2;refine Fn.e3 func196 ntmps196 fun base=>?_;refine qhG fun sb hp=>?_;subst hp;refine gV ?_
 refine H.lo (ι:=Nat×Nat×Array Int) (fun s=>[(8,.int .i64 (s.1:Int)),(7,.int .i64 (s.2.1:Int)),(0,.slice (some ⟨sb,0,none⟩) n c),(1,.int .i64 (a:Int)),(2,.int .i64 (b:Int))]) (fun _=>f) (fun s=>slc (some ⟨sb,0,none⟩) n c 35 1 (arr s.2.2)::F)
  (fun s=>s.1≤5∧a+1≤s.2.1∧s.2.1≤b∧s.2.2.size=n∧partialIns ltInt a b (5-s.1) s.2.1 s.2.2=R) (fun s=>5-s.1) (0,a+1,d0) ⟨Nat.zero_le _,Nat.le_refl _,by show a+1≤b;omega,hd0,hR⟩ fun s hs=>?_
 clear hR hd0;obtain⟨t,i,d⟩:=s;obtain⟨ht,hai,hib,hd,hr⟩:t≤5∧a+1≤i∧i≤b∧d.size=n∧partialIns ltInt a b (5-t) i d=R:=hs;show H _ _ _ [(8,.int .i64 (t:Int)),(7,.int .i64 (i:Int)),_,_,_] f (slc (some ⟨sb,0,none⟩) n c _ 1 (arr d)::F) _;by_cases ht5:t<5
 ·obtain⟨s,hs5⟩:∃s,5-t=s+1:=⟨5-t-1,by omega⟩;rw[hs5,partialIns_succ]at hr;have hrng:=scanSorted_rng d b _ i (Nat.le_refl _) hib;repeat(first|((apply H.Aw);(iterate 3 exact rfl))|(first|apply H.seq|apply H.Bg|apply H.nil|apply H.Bj)|((apply H.cmp);(iterate 5 exact rfl))|(first|apply H.skip|apply H.Bl)|(apply H.Ci;exact rfl;(omega)))
  refine H.cutB (ι:=Unit) (fun _=>[(7,.int .i64 ((scanSorted ltInt d b i:Nat):Int)),(8,.int .i64 (t:Int)),(0,.slice (some ⟨sb,0,none⟩) n c),(1,.int .i64 (a:Int)),(2,.int .i64 (b:Int))]) (fun _=>f) (fun _=>slc (some ⟨sb,0,none⟩) n c 35 1 (arr d)::F) (fun _=>True) _ (fun _ _=>?_) ?_;rotate_left
  ·refine H.lo (ι:=Nat) (fun x=>[(7,.int .i64 (x:Int)),(8,.int .i64 (t:Int)),(0,.slice (some ⟨sb,0,none⟩) n c),(1,.int .i64 (a:Int)),(2,.int .i64 (b:Int))]) (fun _=>f) (fun _=>slc (some ⟨sb,0,none⟩) n c 35 1 (arr d)::F) (fun x=>a+1≤x∧x≤b∧scanSorted ltInt d b x=scanSorted ltInt d b i) (fun x=>b-x) i ⟨hai,hib,rfl⟩ fun x hx=>?_;obtain⟨hx1,hx2,hs⟩:a+1≤x∧x≤b∧scanSorted ltInt d b x=scanSorted ltInt d b i:=hx;obtain⟨y,rfl⟩:∃y,x=y+1:=⟨x-1,by omega⟩;show H _ _ _ [(7,.int .i64 ((y+1:Nat):Int)),_,_,_,_] f (slc (some ⟨sb,0,none⟩) n c _ 1 (arr d)::F) _;rw[scanSorted]at hs;by_cases hxb:y+1<b
   ·refine qgX ?_;refine HB.qu [0,1,2,3,4,5,6,7,8,9,10,11,12] 3 ?_;refine gM ?_;refine qhd ?_;refine qeg ?_;refine gL ?_;refine qiz ?_;refine qeg ?_;refine qhC ?_;refine H.Af rfl rfl rfl (zcc f _ d[y+1]! d[y]!) ?_;refine qed ?_;refine HB.qu [14,15] 0 ?_;refine qjz ?_;have hyy:y+1-1=y:=rfl;rw[hyy]at hs
    cases hl:ltInt d[y+1]! d[y]! with
    | false =>
     rw[if_pos (by rw[decide_eq_true hxb,hl];rfl)]at hs;refine gX ?_;exact H.ag (y+1+1) ⟨by show a+1≤y+1+1;omega,by show y+1+1≤b;omega,hs⟩ (by show b-(y+1+1)<b-(y+1);omega)
    | true =>
     rw[if_neg (by rw[decide_eq_true hxb,hl];decide)]at hs;exact qcY
   ·rw[if_neg (by rw[decide_eq_false hxb,Bool.false_and];decide)]at hs;refine qgX ?_;refine HB.qu [0,1,2,3,4,5,6,7,8,9,10,11,12] 3 ?_;refine gI ?_;refine qhC ?_;refine qgG ?_;refine HB.qu [14,15] 0 ?_;refine qfh ?_;exact qcY
  show H _ _ _ [(7,.int .i64 ((scanSorted ltInt d b i:Nat):Int)),(8,.int .i64 (t:Int)),(0,.slice (some ⟨sb,0,none⟩) n c),(1,.int .i64 (a:Int)),(2,.int .i64 (b:Int))] f (slc (some ⟨sb,0,none⟩) n c _ 1 (arr d)::F) _;generalize scanSorted ltInt d b i=i2 at *;by_cases heb:i2=b
  ·rw[if_pos heb]at hr;subst hr;refine gG ?_;exact qam
  ·rw [if_neg heb] at hr;by_cases h50 : b - a < 50
   ·rw[if_pos h50]at hr;subst hr;refine gg ?_;exact qam
   ·rw [if_neg h50] at hr;obtain ⟨k, rfl⟩ : ∃ k, i2 = k + 1 := ⟨i2 - 1, by omega⟩;refine gZ ?_;refine H.drawN jD jK jF ?_;refine qeo ?_;refine HN.ar (i := 4) (z := ((k : Nat) : Int)) jD rfl rfl rfl rfl rfl (by rw [wr_i64 jA]; omega) rfl ?_;refine qfU ?_;refine HQ.Ah (i := k) rfl rfl rfl jA jA rfl ?_;refine qhD ?_;refine HQ.Ah (i := k + 1) rfl rfl rfl jA jA rfl ?_;refine qiO ?_;refine HB.qu [14] 3 ?_;refine HQ.Ah (i := k + 1) rfl rfl rfl jA jA rfl ?_;refine qiB ?_;refine qeF ?_;refine HB.qu [16] 1 ?_;refine HQ.Ah (i := k) rfl rfl rfl jA jA rfl ?_;refine qjg ?_;refine qen ?_;show H _ _ _ _ f (slc (some ⟨sb, 0, none⟩) n c _ 1 (arr (swp d (k + 1) (k))) :: _) _;have hkk : k + 1 - 1 = k := rfl;rw [hkk] at hr
    have hd1:(swp d (k+1) k).size=n:=by rw[zbj];exact hd
    generalize swp d (k+1) k=d1 at *;refine qgN ?_;refine H.cut (ι:=Unit) (fun _=>[(7,.int .i64 ((k+1:Nat):Int)),(8,.int .i64 (t:Int)),(0,.slice (some ⟨sb,0,none⟩) n c),(1,.int .i64 (a:Int)),(2,.int .i64 (b:Int))]) (fun _=>f) (fun _=>slc (some ⟨sb,0,none⟩) n c 35 1 (arr (fixDown ltInt a (k+1) d1))::F) (fun _=>True) _ (fun _ _=>?_) ?_;rotate_left
    ·unfold fixDown;by_cases h2:k+1-a≥2
     ·rw[if_pos h2,hkk];refine gZ ?_
      refine H.lo (ι:=Nat×Array Int) (fun s=>[(9,.int .i64 (s.1:Int)),(7,.int .i64 ((k+1:Nat):Int)),(8,.int .i64 (t:Int)),(0,.slice (some ⟨sb,0,none⟩) n c),(1,.int .i64 (a:Int)),(2,.int .i64 (b:Int))]) (fun _=>f) (fun s=>slc (some ⟨sb,0,none⟩) n c 35 1 (arr s.2)::F)
       (fun s=>s.1≤k∧s.2.size=n∧shiftDown ltInt s.1 s.2=shiftDown ltInt k d1) (fun s=>s.1) (k,d1) ⟨Nat.le_refl k,hd1,rfl⟩ fun s hs=>?_
      obtain⟨x,d⟩:=s;obtain⟨hx,hd,hs⟩:x≤k∧d.size=n∧shiftDown ltInt x d=shiftDown ltInt k d1:=hs;show H _ _ _ [(9,.int .i64 (x:Int)),_,_,_,_,_] f (slc (some ⟨sb,0,none⟩) n c _ 1 (arr d)::F) _
      cases x with
      | zero =>
       rw[←hs];refine gY ?_;exact qbt
      | succ y =>
       rw[shiftDown]at hs;refine qfj ?_
       cases hl:ltInt d[y+1]! d[y]! with
       | false =>
        exact qcS
       | true =>
        rw[hl,if_neg jC]at hs;refine gV ?_;refine H.drawN jD jK jF ?_;refine qhg ?_;exact H.ag (y,swp d (y+1) y) ⟨by show y≤k;omega,by show(swp d (y+1) y).size=n;rw[zbj];exact hd,hs⟩ ki
     ·exact qdW
    have hd2:(fixDown ltInt a (k+1) d1).size=n:=by
     unfold fixDown;split
     ·rw[shiftDown_size];exact hd1
     ·exact hd1
    generalize fixDown ltInt a (k+1) d1=d2 at *;show H _ _ _ [(7,.int .i64 ((k+1:Nat):Int)),(8,.int .i64 (t:Int)),(0,.slice (some ⟨sb,0,none⟩) n c),(1,.int .i64 (a:Int)),(2,.int .i64 (b:Int))] f (slc (some ⟨sb,0,none⟩) n c _ 1 (arr d2)::F) _;refine qgN ?_;refine H.cutB (ι:=Unit) (fun _=>[(7,.int .i64 ((k+1:Nat):Int)),(8,.int .i64 (t:Int)),(0,.slice (some ⟨sb,0,none⟩) n c),(1,.int .i64 (a:Int)),(2,.int .i64 (b:Int))]) (fun _=>f) (fun _=>slc (some ⟨sb,0,none⟩) n c 35 1 (arr (fixUp ltInt b (k+1) d2))::F) (fun _=>True) _ (fun _ _=>?_) ?_;rotate_left
    ·unfold fixUp;by_cases h2:b-(k+1)≥2
     ·rw[if_pos h2];refine gZ ?_
      refine H.lo (ι:=Nat×Array Int) (fun s=>[(10,.int .i64 ((s.1+1:Nat):Int)),(7,.int .i64 ((k+1:Nat):Int)),(8,.int .i64 (t:Int)),(0,.slice (some ⟨sb,0,none⟩) n c),(1,.int .i64 (a:Int)),(2,.int .i64 (b:Int))]) (fun _=>f) (fun s=>slc (some ⟨sb,0,none⟩) n c 35 1 (arr s.2)::F)
       (fun s=>s.1+1≤b∧s.2.size=n∧shiftUp ltInt b (s.1+1) s.2=shiftUp ltInt b (k+1+1) d2) (fun s=>b-s.1) (k+1,d2) ⟨by show k+1+1≤b;omega,hd2,rfl⟩ fun s hs=>?_
      obtain⟨y,d⟩:=s;obtain⟨hx,hd,hs⟩:y+1≤b∧d.size=n∧shiftUp ltInt b (y+1) d=shiftUp ltInt b (k+1+1) d2:=hs;show H _ _ _ [(10,.int .i64 ((y+1:Nat):Int)),_,_,_,_,_] f (slc (some ⟨sb,0,none⟩) n c _ 1 (arr d)::F) _;rw[shiftUp]at hs;by_cases hyb:y+1<b
      ·rw[if_pos hyb,show y+1-1=y from rfl]at hs;refine qfj ?_
       cases hl:ltInt d[y+1]! d[y]! with
       | false =>
        exact qcS
       | true =>
        rw[hl,if_neg jC]at hs;refine gV ?_;refine H.drawN jD jK jF ?_;refine qhg ?_;exact H.ag (y+1,swp d (y+1) y) ⟨by show y+1+1≤b;omega,by show(swp d (y+1) y).size=n;rw[zbj];exact hd,hs⟩ (by show b-(y+1)<b-y;omega)
      ·rw[if_neg hyb]at hs;rw[←hs];refine gZ ?_;exact qbt
     ·exact qdW
    have hd3:(fixUp ltInt b (k+1) d2).size=n:=by
     unfold fixUp;split
     ·rw[shiftUp_size b _ _ _ (Nat.le_refl _)];exact hd2
     ·exact hd2
    generalize fixUp ltInt b (k+1) d2=d3 at *;show H _ _ _ [(7,.int .i64 ((k+1:Nat):Int)),(8,.int .i64 (t:Int)),(0,.slice (some ⟨sb,0,none⟩) n c),(1,.int .i64 (a:Int)),(2,.int .i64 (b:Int))] f (slc (some ⟨sb,0,none⟩) n c _ 1 (arr d3)::F) _;refine gV ?_;exact H.ag (t+1,k+1,d3) ⟨by show t+1≤5;omega,by show a+1≤k+1;omega,by show k+1≤b;omega,hd3,by show partialIns ltInt a b (5-(t+1)) (k+1) d3=R;rw[show 5-(t+1)=s by omega];exact hr⟩ (by show 5-(t+1)<5-t;omega)
 ·rw[show 5-t=0 by omega]at hr;have hr:(d,false)=R:=hr;subst hr
  refine gZ ?_;exact qam
end
open Go.Sort (swp ltInt insInner insOuter insertionSort siftDown heapBuild heapPop heapSort reverseLoop reverseRange scanUp scanDown partLoop partEqLoop scanSorted shiftDown shiftUp partialIns partialInsertionSort)
variable {s wb:Nat} {d:Array Int}
section
variable (f:Frag) (F:List HP)
def Ord2P(f:Frag)(F:List HP)(A1:HP)(wb a b s:Nat):Value→Frag→List HP→Prop:=fun v f' A'=>∃x y s2:Nat,((x=a∧y=b)∨(x=b∧y=a))∧s2≤s+1∧v= .tuple #[.int .i64 (x:Int),.int .i64 (y:Int)]∧f'=f∧A'=A1::row wb 3 [.int .i64 (s2:Int)]::F
theorem order2_fn(hd:d.size=n)(hn:n≤1000000)(ha:a<n)(hb:b<n)(hs:s≤100):Fn prog 229 [.slice p n c,.int .i64 (a:Int),.int .i64 (b:Int),.pointer (some ⟨wb,0,none⟩)] f (slc p n c 35 1 (arr d)::row wb 3 [.int .i64 (s:Int)]::F) (Ord2P f F (slc p n c 35 1 (arr d)) wb a b s):=by
 refine Fn.e4 func229 ntmps229 fun base=>?_;refine qfB fun sb hp=>?_;subst hp;refine qir ?_;refine HB.qu [0,1,2,3,4,5,6,7] 1 ?_;refine gB ?_;refine HQ.Ah (i:=b) rfl rfl rfl jA jA rfl ?_;refine qhD ?_;refine qfH ?_;refine qeg ?_;refine qel ?_;refine HB.ev 8 ?_;refine H.Af rfl rfl rfl (zcc f _ d[b]! d[a]!) ?_;refine qeQ ?_
 cases hl:ltInt d[b]! d[a]! with
 | false =>
  refine gV ?_;exact H.Ba rfl rfl rfl iD ⟨a,b,s,.inl ⟨rfl,rfl⟩,Nat.le_succ s,rfl,rfl,rfl⟩
 | true =>
  refine gg ?_;exact H.Ba rfl rfl rfl iD ⟨b,a,s+1,.inr ⟨rfl,rfl⟩,Nat.le_refl _,rfl,rfl,rfl⟩
def MedP(f:Frag)(F:List HP)(A1:HP)(wb a b c s:Nat):Value→Frag→List HP→Prop:=fun v f' A'=>∃x s2:Nat,(x=a∨x=b∨x=c)∧s2≤s+3∧v= .int .i64 (x:Int)∧f'=f∧A'=A1::row wb 3 [.int .i64 (s2:Int)]::F
theorem median_fn{k:Nat}(hd:d.size=n)(hn:n≤1000000)(ha:a<n)(hb:b<n)(hk:k<n)(hs:s≤90):Fn prog 221 [.slice p n c,.int .i64 (a:Int),.int .i64 (b:Int),.int .i64 (k:Int),.pointer (some ⟨wb,0,none⟩)] f (slc p n c 35 1 (arr d)::row wb 3 [.int .i64 (s:Int)]::F) (MedP f F (slc p n c 35 1 (arr d)) wb a b k s):=by
 refine Fn.e5 func221 ntmps221 fun base=>?_;refine gK ?_;refine H.Aq rfl rfl rfl (order2_fn f F hd hn ha hb jA) fun v f' A' hR=>?_;obtain⟨x1,y1,t1,h1,ht1,rfl,hff,rfl⟩:=hR;rw[hff];refine gY ?_;refine H.Aq rfl rfl rfl (order2_fn f F hd hn (a:=y1) (b:=k) jA hk jA) fun v f' A' hR=>?_;obtain⟨x2,y2,t2,h2,ht2,rfl,hff,rfl⟩:=hR;rw[hff];refine gY ?_;refine H.Aq rfl rfl rfl (order2_fn f F hd hn (a:=x1) (b:=x2) jA jA jA) fun v f' A' hR=>?_;obtain⟨x3,y3,t3,h3,ht3,rfl,hff,rfl⟩:=hR;rw[hff];refine gX ?_;exact H.Ae rfl rfl iD ⟨y3,t3,by omega,by omega,rfl,rfl,rfl⟩
theorem medAdj_fn(hd:d.size=n)(hn:n≤1000000)(h0:1≤a)(ha:a+1<n)(hs:s≤90):Fn prog 220 [.slice p n c,.int .i64 (a:Int),.pointer (some ⟨wb,0,none⟩)] f (slc p n c 35 1 (arr d)::row wb 3 [.int .i64 (s:Int)]::F) (MedP f F (slc p n c 35 1 (arr d)) wb (a-1) a (a+1) s):=by
 obtain⟨a1,rfl⟩:∃a1,a=a1+1:=⟨a-1,by omega⟩;refine Fn.e3 func220 ntmps220 fun base=>?_;refine gV ?_;refine H.Aq rfl rfl rfl (median_fn f F hd hn (a:=a1) (b:=a1+1) (k:=a1+1+1) jA jA ha hs) fun v f' A' hR=>?_;obtain⟨x,t,h1,ht,rfl,hff,rfl⟩:=hR;rw[hff];refine gT ?_;exact H.r1 ⟨x,t,h1,ht,rfl,rfl,rfl⟩
def PivP(f:Frag)(F:List HP)(A1:HP)(a b:Nat):Value→Frag→List HP→Prop:=fun v f' A'=>∃(x:Nat) (h:Int),a≤x∧x<b∧v= .tuple #[.int .i64 (x:Int),.int .i64 h]∧f'=f∧A'=A1::F
theorem pivot_fn(hd:d.size=n)(hn:n≤1000000)(h8:a+8≤b)(hb:b≤n):Fn prog 194 [.slice p n c,.int .i64 (a:Int),.int .i64 (b:Int)] f (slc p n c 35 1 (arr d)::F) (PivP f F (slc p n c 35 1 (arr d)) a b):=by
 obtain⟨l,hl⟩:∃l,l=b-a:=⟨_,rfl⟩;have hz:(b:Int)-(a:Int)=(l:Int):=jA
 obtain⟨q,hq0⟩:∃q,q=l / 4:=⟨_,rfl⟩;have hq:IntKind.wrap .i64 ((l:Int).tdiv 4)=(q:Int):=by rw[show(4:Int)=((4:Nat):Int)from rfl,tdiv64,wr_i64 jA,hq0]
 refine Fn.e3 func194 ntmps194 fun base=>?_;repeat(first|(refine H.ar (op:=.sub) (p:=(b:Int)) (p2:=(a:Int)) (z:=(l:Int)) rfl rfl rfl rfl jo rfl ?_)|(refine H.quo (p:=(l:Int)) (z:=(q:Int)) rfl rfl rfl jC hq rfl ?_)|(refine H.Aj (ls:=[.int .i64 0]) rfl rfl rfl fun wb=>?_)|(refine gh ?_))
 refine H.pf (x:=slc p n c _ _ _) ?_;refine H.Bh (d:=10) (u:=.int .i64 ((a+q*1:Nat):Int)) rfl jP ?_;refine H.Bh (d:=11) (u:=.int .i64 ((a+q*2:Nat):Int)) rfl jP ?_;refine H.Bh (d:=12) (u:=.int .i64 ((a+q*3:Nat):Int)) rfl jP ?_;by_cases h50:50≤l
 ·refine gG ?_;refine H.Aq rfl rfl rfl (medAdj_fn f F hd hn (a:=a+q*1) (s:=0) jA jA jA) fun v f' A' hR=>?_;obtain⟨x1,t1,h1,ht1,rfl,hff,rfl⟩:=hR;rw[hff];refine gK ?_;refine H.Aq rfl rfl rfl (medAdj_fn f F hd hn (a:=a+q*2) (s:=t1) jA jA jA) fun v f' A' hR=>?_;obtain⟨x2,t2,h2,ht2,rfl,hff,rfl⟩:=hR;rw[hff];refine gK ?_;refine H.Aq rfl rfl rfl (medAdj_fn f F hd hn (a:=a+q*3) (s:=t2) jA jA jA) fun v f' A' hR=>?_;obtain⟨x3,t3,h3,ht3,rfl,hff,rfl⟩:=hR;rw[hff];refine gK ?_;refine H.Aq rfl rfl rfl (median_fn f F hd hn (a:=x1) (b:=x2) (k:=x3) (s:=t3) jA jA jA jA) fun v f' A' hR=>?_;obtain⟨x,t,h4,ht,rfl,hff,rfl⟩:=hR;rw[hff];by_cases h0:t=0
  ·refine gN ?_;exact qaM
  ·by_cases h12:t=12
   ·refine gO ?_;exact qaM
   ·refine gN ?_;exact qaM
 ·refine gZ ?_;refine H.Aq rfl rfl rfl (median_fn f F hd hn (a:=a+q*1) (b:=a+q*2) (k:=a+q*3) (s:=0) jA jA jA jA) fun v f' A' hR=>?_;obtain⟨x,t,h4,ht,rfl,hff,rfl⟩:=hR;rw[hff];by_cases h0:t=0
  ·refine gN ?_;exact qaM
  ·by_cases h12:t=12
   ·refine gN ?_;exact qaM
   ·refine gN ?_;exact qaM
end
open Go.Sort (swp ltInt insInner insOuter insertionSort siftDown heapBuild heapPop heapSort reverseLoop reverseRange scanUp scanDown partLoop partEqLoop scanSorted shiftDown shiftUp partialIns partialInsertionSort)
open Go.Sort (bitsLen PermIn SortedIn Below permIn_trans permIn_refl insertionSort_holds heapSort_holds partialInsertionSort_holds partition_holds partitionEqual_holds reverseRange_holds swo_ltInt round_eq round_part partition partitionEqual)
section
variable (f:Frag) (F:List HP)
def SrtP(f:Frag)(F:List HP)(p:Option Addr)(n c a b:Nat)(d0:Array Int):Value→Frag→List HP→Prop:=fun v f' A'=>∃d:Array Int,PermIn a b d0 d∧SortedIn ltInt a b d∧v= .tuple #[]∧f'=f∧A'=slc p n c 35 1 (arr d)::F
def pdSt(p:Option Addr)(n c:Nat)(s:Nat×Nat×Int×Bool×Bool×Array Int):Env:=[(0,.slice p n c),(1,.int .i64 (s.1:Int)),(2,.int .i64 (s.2.1:Int)),(3,.int .i64 s.2.2.1),(8,.bool s.2.2.2.1),(9,.bool s.2.2.2.2.1)]
theorem pdq_fn:∀(m:Nat) {p:Option Addr} {n c a0 b0:Nat} {lim0:Int} {d0:Array Int} (hd0:d0.size=n) (hn:n≤255) (ha:a0≤b0) (hb:b0≤n) (hl:0≤lim0∧lim0≤100) (hB:Below ltInt a0 b0 d0) (hm:b0-a0≤m),
  Fn prog 146 [.slice p n c,.int .i64 (a0:Int),.int .i64 (b0:Int),.int .i64 lim0] f (slc p n c 35 1 (arr d0)::F) (SrtP f F p n c a0 b0 d0):=by
 intro m
 induction m with
 | zero =>
  intro p n c a0 b0 lim0 d0 hd0 hn ha hb hl hB hm;have h1:=insertionSort_holds swo_ltInt d0 a0 b0 ha jA;have hz:(b0:Int)-(a0:Int)=0:=jA
  refine Fn.e4 func146 ntmps146 fun base=>?_;refine gT ?_;refine H.lo (ι:=Unit) (fun _=>[(0,.slice p n c),(1,.int .i64 (a0:Int)),(2,.int .i64 (b0:Int))]) (fun _=>f) (fun _=>slc p n c 35 1 (arr d0)::F) (fun _=>True) (fun _=>0) () trivial fun _ _=>?_;show H _ _ _ [(0,.slice p n c),(1,.int .i64 (a0:Int)),(2,.int .i64 (b0:Int))] f (slc p n c _ 1 (arr d0)::F) _;repeat(first|(refine H.ar (op:=.sub) (p:=(b0:Int)) (p2:=(a0:Int)) (z:=0) rfl rfl rfl rfl (by rw[hz];rfl) rfl ?_)|(refine gh ?_))
  refine H.Af rfl rfl rfl (insSort_fn f _ (a:=a0) (b:=b0) hd0 jA hb jA) ?_;refine gT ?_;exact H.ret0 rfl iD ⟨_,h1.1,h1.2,rfl,rfl,rfl⟩
 | succ m ih =>
  intro p n c a0 b0 lim0 d0 hd0 hn ha hb hl hB hm;refine Fn.e4 func146 ntmps146 fun base=>?_;refine gT ?_
  refine H.lo (ι:=Nat×Nat×Int×Bool×Bool×Array Int) (pdSt p n c) (fun _=>f) (fun s=>slc p n c 35 1 (arr s.2.2.2.2.2)::F)
   (fun s=>s.1≤s.2.1∧s.2.1≤n∧s.2.1-s.1≤m+1∧s.2.2.2.2.2.size=n∧(0≤s.2.2.1∧s.2.2.1≤100)∧Below ltInt s.1 s.2.1 s.2.2.2.2.2∧∀R,PermIn s.1 s.2.1 s.2.2.2.2.2 R→SortedIn ltInt s.1 s.2.1 R→PermIn a0 b0 d0 R∧SortedIn ltInt a0 b0 R)
   (fun s=>s.2.1-s.1) (a0,b0,lim0,true,true,d0) ⟨ha,hb,hm,hd0,hl,hB,fun R h1 h2=>⟨h1,h2⟩⟩ fun s hs=>?_
  clear hl hB;obtain⟨a,b,lim,wb,wp,d⟩:=s;obtain⟨hab,hbn,hm1,hd,hl,hB,hfin⟩:a≤b∧b≤n∧b-a≤m+1∧d.size=n∧(0≤lim∧lim≤100)∧Below ltInt a b d∧∀R,PermIn a b d R→SortedIn ltInt a b R→PermIn a0 b0 d0 R∧SortedIn ltInt a0 b0 R:=hs;show H _ _ _ [(0,.slice p n c),(1,.int .i64 (a:Int)),(2,.int .i64 (b:Int)),(3,.int .i64 lim),(8,.bool wb),(9,.bool wp)] f (slc p n c _ 1 (arr d)::F) _;obtain⟨l,hl0⟩:∃l,l=b-a:=⟨_,rfl⟩;have hz:(b:Int)-(a:Int)=(l:Int):=jA
  by_cases h12:l≤12
  ·skip;refine qgf ?_;refine H.Af rfl rfl rfl (insSort_fn f _ (a:=a) (b:=b) hd jA hbn jA) ?_;refine gT ?_;have h1:=insertionSort_holds swo_ltInt d a b hab jA;exact qdc
  ·by_cases hl00 : lim = 0
   ·skip;refine qgf ?_;refine H.Af rfl rfl rfl (heapSort_fn f _ (a:=a) (b:=b) hd jA jA hbn) ?_;refine gT ?_;have h1:=heapSort_holds swo_ltInt d a b hab jA;exact qdc
   ·skip;repeat(first|(refine H.ar (op:=.sub) (p:=(b:Int)) (p2:=(a:Int)) (z:=(l:Int)) rfl rfl rfl rfl jo rfl ?_)|((first|apply H.Aw|apply H.Be);(iterate 3 exact rfl))|(first|apply H.seq|apply H.Bg|apply H.nil|apply H.Bj)|((apply H.cmp);(iterate 5 exact rfl))|((apply H.not);(iterate 4 exact rfl))|(first|apply H.skip|apply H.Bl)|(apply H.Ck;exact rfl;(first|assumption|omega)))
    refine H.cut (ι:=Int×Array Int) (fun s=>[(0,.slice p n c),(1,.int .i64 (a:Int)),(2,.int .i64 (b:Int)),(3,.int .i64 s.1),(8,.bool wb),(9,.bool wp),(10,.int .i64 (l:Int))]) (fun _=>f) (fun s=>slc p n c 35 1 (arr s.2)::F) (fun s=>(0≤s.1∧s.1≤100)∧PermIn a b d s.2) _ (fun s hs=>?_) ?_;rotate_left
    ·cases wb with
     | true =>
      refine gV ?_;exact H.Bc (lim,d) ⟨hl,permIn_refl _ _ _⟩ ⟨rfl,rfl,rfl,rfl,rfl,rfl,rfl,trivial⟩ rfl rfl
     | false =>
      refine gD ?_;refine H.Aq rfl rfl rfl (break_fn f F (a:=a) (b:=b) hd hn jA hbn) fun v f' A' hR=>?_;obtain⟨d1,hP,rfl,hff,rfl⟩:=hR;rw[hff];refine gV ?_;exact H.Bc (lim-1,d1) ⟨by show 0≤lim-1∧lim-1≤100;omega,hP⟩ ⟨rfl,rfl,rfl,rfl,rfl,rfl,rfl,trivial⟩ rfl rfl
    obtain⟨lim1,d1⟩:=s;obtain⟨hl1,hP1⟩:(0≤lim1∧lim1≤100)∧PermIn a b d d1:=hs;show H _ _ _ [(0,.slice p n c),(1,.int .i64 (a:Int)),(2,.int .i64 (b:Int)),(3,.int .i64 lim1),(8,.bool wb),(9,.bool wp),(10,.int .i64 (l:Int))] f (slc p n c _ 1 (arr d1)::F) _;have hd1:d1.size=n:=hP1.1.trans hd;refine gK ?_
    refine H.Aq rfl rfl rfl (pivot_fn f F (a:=a) (b:=b) hd1 jA jA hbn) fun v f' A' hR=>?_;obtain⟨x,h,hx1,hx2,rfl,hff,rfl⟩:=hR;rw[hff];repeat(first|((first|apply H.Aw|apply H.Be);(iterate 3 exact rfl))|(first|apply H.seq|apply H.Bg|apply H.nil|apply H.Bj)|((apply H.cmp);(iterate 5 exact rfl))|((apply H.Bv);(iterate 4 exact rfl)))
    refine H.cut (ι:=Nat×Int×Array Int) (fun s=>[(11,.int .i64 (s.1:Int)),(12,.int .i64 s.2.1),(0,.slice p n c),(1,.int .i64 (a:Int)),(2,.int .i64 (b:Int)),(3,.int .i64 lim1),(8,.bool wb),(9,.bool wp),(10,.int .i64 (l:Int))]) (fun _=>f) (fun s=>slc p n c 35 1 (arr s.2.2)::F) (fun s=>a≤s.1∧s.1<b∧PermIn a b d s.2.2) _ (fun s hs=>?_) ?_;rotate_left
    ·by_cases h2:h=2
     ·have hpz:(b:Int)-1-((x:Int)-(a:Int))=((b-1-(x-a):Nat):Int):=jA
      refine gG ?_;refine H.Af rfl rfl rfl (reverse_fn f _ (a:=a) (b:=b) hd1 jA jA hbn) ?_;repeat(first|(refine H.ar (op:=.sub) (p:=(b:Int)-1) (p2:=(x:Int)-(a:Int)) (z:=((b-1-(x-a):Nat):Int)) rfl rfl rfl rfl (by rw[hpz,wr_i64 jA]) rfl ?_)|(refine gh ?_))
      exact H.Bc (b-1-(x-a),1,Go.Sort.reverseRange d1 a b) ⟨by show a≤b-1-(x-a);omega,by show b-1-(x-a)<b;omega,permIn_trans _ _ _ _ _ hP1 (reverseRange_holds d1 a b hab jA)⟩ ⟨rfl,rfl,rfl,rfl,rfl,rfl,rfl,rfl,rfl,trivial⟩ rfl rfl
     ·refine gZ ?_;exact H.Bc (x,h,d1) ⟨hx1,hx2,hP1⟩ ⟨rfl,rfl,rfl,rfl,rfl,rfl,rfl,rfl,rfl,trivial⟩ rfl rfl
    clear hP1 hd1 hx1 hx2;obtain⟨pv,hh,d2⟩:=s;obtain⟨hp1,hp2,hP2⟩:a≤pv∧pv<b∧PermIn a b d d2:=hs;show H _ _ _ [(11,.int .i64 (pv:Int)),(12,.int .i64 hh),(0,.slice p n c),(1,.int .i64 (a:Int)),(2,.int .i64 (b:Int)),(3,.int .i64 lim1),(8,.bool wb),(9,.bool wp),(10,.int .i64 (l:Int))] f (slc p n c _ 1 (arr d2)::F) _;have hd2:d2.size=n:=hP2.1.trans hd;repeat apply H.seq
    refine H.cut (ι:=Bool) (fun t=>[(68,.bool t),(11,.int .i64 (pv:Int)),(0,.slice p n c),(1,.int .i64 (a:Int)),(2,.int .i64 (b:Int)),(3,.int .i64 lim1),(8,.bool wb),(9,.bool wp),(10,.int .i64 (l:Int))]) (fun _=>f) (fun _=>slc p n c 35 1 (arr d2)::F) (fun _=>True) _ (fun t _=>?_) ?_;rotate_left
    ·cases wb with
     | false =>
      exact qcL
     | true =>
      cases wp with
      | false =>
       exact qcL
      | true =>
       refine gQ ?_;exact H.Bc _ trivial ⟨rfl,rfl,rfl,rfl,rfl,rfl,rfl,rfl,rfl,trivial⟩ rfl rfl
    show H _ _ _ [(68,.bool t),(11,.int .i64 (pv:Int)),(0,.slice p n c),(1,.int .i64 (a:Int)),(2,.int .i64 (b:Int)),(3,.int .i64 lim1),(8,.bool wb),(9,.bool wp),(10,.int .i64 (l:Int))] f (slc p n c _ 1 (arr d2)::F) _;refine H.cut (ι:=Array Int) (fun _=>[(11,.int .i64 (pv:Int)),(0,.slice p n c),(1,.int .i64 (a:Int)),(2,.int .i64 (b:Int)),(3,.int .i64 lim1),(8,.bool wb),(9,.bool wp),(10,.int .i64 (l:Int))]) (fun _=>f) (fun s=>slc p n c 35 1 (arr s)::F) (fun s=>PermIn a b d s) _ (fun d3 hP3=>?_) ?_;rotate_left
    ·cases t with
     | false =>
      refine gV ?_;exact H.Bc d2 hP2 ⟨rfl,rfl,rfl,rfl,rfl,rfl,rfl,rfl,trivial⟩ rfl rfl
     | true =>
      have h1:=partialInsertionSort_holds swo_ltInt d2 a b jA jA (hB.perm jA hP2);have h2:=permIn_trans _ _ _ _ _ hP2 h1.1
      refine gD ?_;refine H.Af rfl rfl rfl (partIns_fn f _ (a:=a) (b:=b) hd2 jA jA hbn) ?_;generalize partialInsertionSort ltInt d2 a b=r at *;obtain⟨d3,r2⟩:=r
      cases r2 with
      | true =>
       refine gX ?_;have h3:=hfin d3 h2 (h1.2 rfl);exact H.ret0 rfl iD ⟨d3,h3.1,h3.2,rfl,rfl,rfl⟩
      | false =>
       refine gV ?_;exact H.Bc d3 h2 ⟨rfl,rfl,rfl,rfl,rfl,rfl,rfl,rfl,trivial⟩ rfl rfl
    clear hP2 hd2;show H _ _ _ [(11,.int .i64 (pv:Int)),(0,.slice p n c),(1,.int .i64 (a:Int)),(2,.int .i64 (b:Int)),(3,.int .i64 lim1),(8,.bool wb),(9,.bool wp),(10,.int .i64 (l:Int))] f (slc p n c _ 1 (arr d3)::F) _;have hd3:d3.size=n:=hP3.1.trans hd;have hB3:=hB.perm jA hP3
    repeat apply H.seq
    refine H.cut (ι:=Bool) (fun t=>[(87,.bool t),(11,.int .i64 (pv:Int)),(0,.slice p n c),(1,.int .i64 (a:Int)),(2,.int .i64 (b:Int)),(3,.int .i64 lim1),(8,.bool wb),(9,.bool wp),(10,.int .i64 (l:Int))]) (fun _=>f) (fun _=>slc p n c 35 1 (arr d3)::F) (fun t=>t=true→0<a∧ltInt d3[a-1]! d3[pv]! =false) _ (fun t ht=>?_) ?_;rotate_left
    ·refine H.Au (p:=p) (n0:=n) (c:=c) (T:=35) (sz:=1) (xs:=arr d3) (.here _ _ _) jA fun sb hp=>?_;subst hp;by_cases ha0:0<a
     ·obtain⟨a1,rfl⟩:∃a1,a=a1+1:=⟨a-1,by omega⟩;refine qeH ?_;refine HB.qu [0,1,2,3,4,5,6,7,8,9,10,11] 3 ?_;refine gP ?_;refine HQ.Ah (i:=a1) rfl rfl rfl jA jA rfl ?_;refine qhD ?_;refine HQ.Ah (i:=pv) rfl rfl rfl jA jA rfl ?_;refine qeg ?_;refine qh ?_;refine H.Af rfl rfl rfl (zcc f _ d3[a1]! d3[pv]!) ?_;refine qed ?_;refine HB.qu [13,14] 0 ?_;refine qjz ?_
      cases hlx:ltInt d3[a1]! d3[pv]! with
      | true =>
       exact qcG
      | false =>
       skip;exact H.Bc true (fun _=>⟨ha0,hlx⟩) ⟨rfl,rfl,rfl,rfl,rfl,rfl,rfl,rfl,rfl,trivial⟩ rfl rfl
     ·skip;refine qeH ?_;refine qjo ?_;refine qfh ?_;exact qcG
    show H _ _ _ [(87,.bool t),(11,.int .i64 (pv:Int)),(0,.slice p n c),(1,.int .i64 (a:Int)),(2,.int .i64 (b:Int)),(3,.int .i64 lim1),(8,.bool wb),(9,.bool wp),(10,.int .i64 (l:Int))] f (slc p n c _ 1 (arr d3)::F) _
    cases t with
    | true =>
     obtain⟨ha0,hnl⟩:=ht rfl;obtain⟨g1,g2,g3,g4,g5⟩:=round_eq swo_ltInt (partitionEqual_holds ltInt) ha0 hp1 hp2 jA hB3 hnl (d4:=(partitionEqual ltInt d3 a b pv).2) (mid:=(partitionEqual ltInt d3 a b pv).1) rfl;refine gD ?_;refine H.Af rfl rfl rfl (partEq_fn f _ (a:=a) (b:=b) (pivot:=pv) hd3 jA hp1 hp2 hbn) ?_;generalize(partitionEqual ltInt d3 a b pv).1=mid at *;generalize(partitionEqual ltInt d3 a b pv).2=d4 at *;refine gT ?_
     exact H.Av (mid,b,lim1,wb,wp,d4) ⟨by show mid≤b;omega,hbn,by show b-mid≤m+1;omega,by show d4.size=n;omega,hl1,g4,fun R h1 h2=>by
      have h3:=g5 R h1 h2
      exact hfin R (permIn_trans _ _ _ _ _ hP3 h3.1) h3.2⟩ (by show b-mid<b-a;omega) ⟨rfl,rfl,rfl,rfl,rfl,rfl,trivial⟩ rfl rfl
    | false =>
     have hrp:=round_part swo_ltInt (partition_holds ltInt) hp1 hp2 (by omega:b≤d3.size) hB3 (d4:=(partition ltInt d3 a b pv).2.2) (ap:=(partition ltInt d3 a b pv).2.1) (mid:=(partition ltInt d3 a b pv).1) rfl;have hq:IntKind.wrap .i64 ((l:Int).tdiv 8)=((l / 8:Nat):Int):=by rw[show(8:Int)=((8:Nat):Int)from rfl,tdiv64,wr_i64 jA]
     refine gV ?_;refine H.Aq rfl rfl rfl (partition_fn f F (a:=a) (b:=b) (pivot:=pv) hd3 jA hp1 hp2 hbn) fun v f' A' hR=>?_;generalize(partition ltInt d3 a b pv).1=mid at *;generalize(partition ltInt d3 a b pv).2.2=d4 at *;obtain⟨ap,rfl,hff,rfl⟩:=hR;rw[hff];obtain⟨g1,g2,g3,g4,g5,g6,g7⟩:=hrp;by_cases hlr:mid-a<b-mid
     ·skip;refine qjP ?_;refine H.Aq rfl rfl rfl (ih (n:=n) (c:=c) (p:=p) (a0:=a) (b0:=mid) (lim0:=lim1) (d0:=d4) jA hn g1 jA hl1 g4 jA) fun v f' A' hR=>?_;obtain⟨L,hL1,hL2,rfl,hff,rfl⟩:=hR;rw[hff];obtain⟨k1,k2⟩:=g6 L hL1 hL2;refine gV ?_
      exact H.Av (mid+1,b,lim1,_,ap,L) ⟨by show mid+1≤b;omega,hbn,by show b-(mid+1)≤m+1;omega,by show L.size=n;have:=hL1.1;omega,hl1,k1,fun R h1 h2=>by
       have h3:=k2 R h1 h2
       exact hfin R (permIn_trans _ _ _ _ _ hP3 h3.1) h3.2⟩ (by show b-(mid+1)<b-a;omega) ⟨rfl,rfl,rfl,rfl,rfl,rfl,trivial⟩ rfl rfl
     ·skip;refine qjP ?_;refine H.Aq rfl rfl rfl (ih (n:=n) (c:=c) (p:=p) (a0:=mid+1) (b0:=b) (lim0:=lim1) (d0:=d4) jA hn jA hbn hl1 g5 jA) fun v f' A' hR=>?_;obtain⟨L,hL1,hL2,rfl,hff,rfl⟩:=hR;rw[hff];obtain⟨k1,k2⟩:=g7 L hL1 hL2;refine gT ?_
      exact H.Av (a,mid,lim1,_,ap,L) ⟨g1,by show mid≤n;omega,by show mid-a≤m+1;omega,by show L.size=n;have:=hL1.1;omega,hl1,k1,fun R h1 h2=>by
       have h3:=k2 R h1 h2
       exact hfin R (permIn_trans _ _ _ _ _ hP3 h3.1) h3.2⟩ (by show mid-a<b-a;omega) ⟨rfl,rfl,rfl,rfl,rfl,rfl,trivial⟩ rfl rfl
end
def w15C(kb n:Nat)(ap:Option Addr)(m ac lb:Nat):List Value:=[.slice (some ⟨kb,0,none⟩) n n,.slice ap m ac,.pointer (some ⟨lb,0,none⟩)]
variable {kb ac:Nat} {ap:Option Addr}
section
variable (f:Frag) (F:List HP)
theorem great_fn(hfl:Le fl f)(hL:LI l T){o:Nat}(ho:o<l.n):Fn prog 65 [.pointer (some ⟨wb,0,none⟩),.int .i64 ((o+1:Nat):Int)] f (logsH fl lb l::row wb 32 (w15C kb n ap m ac lb)::F)
   (Ret (.int .u64 (l.past o).g) f (logsH fl lb l::row wb 32 (w15C kb n ap m ac lb)::F)):=by
 refine qjW fun i0 hi=>?_;obtain⟨V,vp,vc,pp,pc,cp,cc,pb,cs⟩:=i0;have hiF:=hi.mono hfl;have hn:=hL.n3
 obtain⟨pbb,poff,hpp0,rdp0⟩:=hiF.past (by show 0<l.n;omega);have hpp:pp=some ⟨pbb,poff,none⟩:=hpp0;have rdp:∀ {A:List HP} {r:Nat},r<l.n→Rd1 f A pbb (poff+r) (.pointer (some ⟨pb r,0,none⟩)):=fun {A r} hr=>rdp0 (Le.refl f) hr
 clear hpp0 rdp0;show Fn _ _ _ f (row lb 152 (lgC l.n l.known vp V.length vc pp pc cp cc)::slc vp V.length vc 147 4 (V.flatMap VV.vals)::lst (V.map VV.own)::fam (fun r=>pstH (pb r) (l.past r)) l.n::slc cp l.n cc 195 1 (chRow l cs)::fam (chFam l cs) l.n::_::F) _;refine Fn.e2 func65 ntmps65 fun base=>?_;refine gc ?_;refine H.Ak (b:=pbb) (off:=poff) (i:=o) rfl kd rfl jA ho rfl ?_;refine H.Ad rfl rfl rfl (by rw[Nat.mul_one];exact rdp ho) rfl ?_;refine qfT ?_;refine H.Bq ho ?_;refine pstH_openH fun eb ec=>?_;refine gN ?_;refine H.imp (zay (b:=pb o) (eb:=eb) (ec:=ec) (s:=l.past o)) ?_;refine H.Ca (g:=fun r=>pstH (pb r) (l.past r)) ho ?_;refine qee ?_;refine H.imp (zah ⟨V,vp,vc,pp,pc,cp,cc,pb,cs⟩ hi) ?_;exact qam
theorem byte_toNat{k:Nat}(h:k<256):((UInt8.ofNat k).toNat:Int)=(k:Int):=by
 exact qcI
theorem ask_fn(x:A15):Fn prog 66 [.agg x.vals.toArray] f F (Ret (.agg x.req.vals.toArray) f F):=by
 have hcm:((x.client.toNat % 3:Nat):Int)≤2:=jA
 have hkm:((x.key.toNat % 4:Nat):Int)≤3:=jA
 have htm:((x.time.toNat % 10:Nat):Int)≤9:=jA
 have ht:=x.time.toNat_lt;have hsg:=fun G=>rsigned_fn f G x.req0
 refine Fn.e1 func66 ntmps66 fun base=>?_;refine qej fun xb=>?_;refine qgK fun ob=>?_;refine gF ?_;refine H.rem (z:=((x.client.toNat % 3:Nat):Int)) rfl rfl rfl jC (zak (b:=3) rfl) rfl ?_;refine gH ?_;refine H.rem (z:=((x.key.toNat % 4:Nat):Int)) rfl rfl rfl jC (zak (b:=4) rfl) rfl ?_;refine gH ?_;refine H.Bh (d:=16) (u:=.int .u8 ((UInt8.ofNat (97+x.key.toNat % 4)).toNat:Nat)) rfl (by rw[byte_toNat jA];rfl) ?_;refine H.Am (out:=bytesV [UInt8.ofNat (97+x.key.toNat % 4)]) rfl rfl rfl rfl jC jC rfl rfl fun eb=>?_;refine H.convBS (bs:=[UInt8.ofNat (97+x.key.toNat % 4)]) rfl rfl (Src.slice (Rd.ofRow (.here _ _ _)) rfl) (fun h=>by cases h) rfl ?_;refine gH ?_;refine H.rem (z:=((x.time.toNat % 10:Nat):Int)) rfl rfl rfl jC (zak (b:=10) rfl) rfl ?_;refine gH ?_;refine H.Bh (d:=22) (u:=.int .u8 ((UInt8.ofNat (48+x.time.toNat % 10)).toNat:Nat)) rfl (by rw[byte_toNat jA];rfl) ?_;refine H.Am (out:=bytesV [UInt8.ofNat (48+x.time.toNat % 10)]) rfl rfl rfl rfl jC jC rfl rfl fun eb2=>?_;refine H.convBS (bs:=[UInt8.ofNat (48+x.time.toNat % 10)]) rfl rfl (Src.slice (Rd.ofRow (.here _ _ _)) rfl) (fun h=>by cases h) rfl ?_;refine qjn ?_;repeat(first|(refine H.Ax (t:=49) (out:=x.req0.vals) rfl rfl rfl jD rfl ?_)|(refine gh ?_))
 refine qgK fun rb=>?_;refine H.Ag (ls:=Req.zero.vals) (vs:=x.req0.vals) (ls':=x.req0.vals) rfl rfl rfl (zaa rfl) rfl rfl (Nat.le_refl 40) (.here _ _ _) ?_;refine gF ?_;unfold A15.req
 cases hno:x.no with
 | true =>
  refine gX ?_;refine H.Ab (ls:=x.req0.vals) rfl rfl rfl (Rd.ofRow (.here _ _ _)) rfl rfl ?_;refine H.Ag (ls:=Req.zero.vals) (vs:=x.req0.vals) (ls':=x.req0.vals) rfl rfl rfl (zaa rfl) rfl rfl (Nat.le_refl 40) (.there _ (.here _ _ _)) ?_;refine qjb ?_;refine qgV ?_;exact H.Ay (ls:=x.req0.vals) rfl rfl rfl (Rd.ofRow (.here _ _ _)) rfl (fun _ s=>s.drop (.here _ _)) ⟨rfl,rfl,rfl⟩
 | false =>
  refine gV ?_;refine H.Ab (ls:=x.req0.vals) rfl rfl rfl (Rd.ofRow (.here _ _ _)) rfl rfl ?_;refine H.cr (hsg _) ?_;refine H.Ag (ls:=Req.zero.vals) (vs:=x.req0.signed.vals) (ls':=x.req0.signed.vals) rfl rfl rfl (zaa rfl) rfl rfl (Nat.le_refl 40) (.there _ (.here _ _ _)) ?_;refine qjb ?_;refine qgV ?_;exact H.Ay (ls:=x.req0.signed.vals) rfl rfl rfl (Rd.ofRow (.here _ _ _)) rfl (fun _ s=>s.drop (.here _ _)) ⟨rfl,rfl,rfl⟩
end
def A15.Has(f:Frag)(x:A15):Prop:=BAt f x.qp x.q
theorem qAcc_stop{row:Nat→List (Int×Int)}{half:Nat}:∀ {k m:Nat},k≤m→half<(qAcc row half k).length→qAcc row half m=qAcc row half k
 | k, 0, h, _ => by
  have:k=0:=jA
  rw[this]
 | k, m + 1, h, hl => by
  by_cases e:k=m+1
  ·rw[e]
  ·have ih:=qAcc_stop (m:=m) jA hl
   show(if(qAcc row half m).length≤half then qAcc row half m++row m else qAcc row half m)=_
   rw[ih,if_neg jA]
def qPart(ch:Nat→List (Int×Int))(kv:Nat→Int)(v:Int)(raw:Bool)(r i:Nat):List (Int×Int):=(((ch r).take i).filter fun c=>decide (c.1=v)&&decide (c.2≤kv r)&& !raw).map fun c=>(((r+1:Nat):Int),c.2)
theorem qPart_all(ch:Nat→List (Int×Int))(kv:Nat→Int)(v:Int)(raw:Bool)(r:Nat):qPart ch kv v raw r (ch r).length=qRow ch kv v raw r:=by unfold qPart qRow;rw[List.take_length]
theorem qPart_next{ch:Nat→List (Int×Int)}{kv:Nat→Int}{raw:Bool}{r i:Nat}{c:Int×Int}(hc:(ch r)[i]?=some c):qPart ch kv v raw r (i+1)=qPart ch kv v raw r i++(if(decide (c.1=v)&&decide (c.2≤kv r)&& !raw)=true then [(((r+1:Nat):Int),c.2)]else []):=by
 unfold qPart;rw[filt_take hc,List.map_append];congr 1;split<;>rfl
theorem qPart_len(ch:Nat→List (Int×Int))(kv:Nat→Int)(v:Int)(raw:Bool)(r i:Nat):(qPart ch kv v raw r i).length≤(ch r).length:=by
 unfold qPart;rw[List.length_map];exact qdi
section
variable (f:Frag) (F:List HP)
theorem q15_fn(hfl:Le fl f)(hL:LI l T)(hT:T≤1000){o:Nat}(hnn:l.n=n)(ho:o<n){kv:Nat→Nat→Int}{x:A15}(hx:x.Has f)(hq20:x.q.length≤20)(v:Int):Fn prog 68 [.pointer (some ⟨wb,0,none⟩),.int .i64 ((o+1:Nat):Int),.agg x.vals.toArray,.int .u64 v] f (logsH fl lb l::row wb 32 (w15C kb n ap m ac lb)::row kb 37 (kRow n kv)::F)
   (RetE (fun i:Option Addr×Nat=>.slice i.1 (x.qs n l.ch (kv o) v).length i.2) f (fun i=>slc i.1 (x.qs n l.ch (kv o) v).length i.2 127 2 ((x.qs n l.ch (kv o) v).flatMap pairV)::logsH fl lb l::row wb 32 (w15C kb n ap m ac lb)::row kb 37 (kRow n kv)::F)):=by
 refine qjW fun i0 hi=>?_;obtain⟨V,vp,vc,pp,pc,cp,cc,pb,cs⟩:=i0;have hn:=hL.n3;obtain⟨acc,hacc⟩:∃acc:Nat→List (Int×Int),acc=qAcc (qRow l.ch (kv o) v x.raw) ((n-1) / 2):=⟨_,rfl⟩
 have hal:∀k,(acc k).length≤(n-1) / 2+T:=fun k=>by rw[hacc];exact qAcc_len (fun r=>Nat.le_trans (qRow_len _ _ _ _ r) (hL.cl r)) k
 show Fn _ _ _ f (row lb 152 (lgC l.n l.known vp V.length vc pp pc cp cc)::slc vp V.length vc 147 4 (V.flatMap VV.vals)::lst (V.map VV.own)::fam (fun r=>pstH (pb r) (l.past r)) l.n::slc cp l.n cc 195 1 (chRow l cs)::fam (chFam l cs) l.n::row wb 32 (w15C kb n ap m ac lb)::row kb 37 (kRow n kv)::F) _;refine Fn.e4 func68 ntmps68 fun base=>?_;refine qej fun xb=>?_;refine gN ?_;refine H.slc0 127 2 ?_;refine qee ?_;refine qeE ?_;refine H.pf (x:=slc none _ _ _ _ _) ?_;refine qfl ?_
 refine H.loop (ι:=Nat×Option Addr×Nat) (fun s=>[(11,.int .i64 ((s.1+1:Nat):Int)),(9,.slice s.2.1 (acc s.1).length s.2.2),(10,.int .i64 (n:Int)),(0,.pointer (some ⟨wb,0,none⟩)),(1,.int .i64 ((o+1:Nat):Int)),(3,.int .u64 v),(6,.pointer (some ⟨xb,0,none⟩))]) (fun _=>f)
  (fun s=>row xb 71 x.vals::slc s.2.1 (acc s.1).length s.2.2 127 2 ((acc s.1).flatMap pairV)::row wb 32 (w15C kb n ap m ac lb)::row kb 37 (kRow n kv)::row lb 152 (lgC l.n l.known vp V.length vc pp pc cp cc)::slc vp V.length vc 147 4 (V.flatMap VV.vals)::lst (V.map VV.own)::fam (fun r=>pstH (pb r) (l.past r)) l.n::slc cp l.n cc 195 1 (chRow l cs)::fam (chFam l cs) l.n::F)
  (fun s=>s.1≤n) (fun s=>n-s.1) (0,none,0) (Nat.zero_le _) ⟨rfl,by rw[hacc];rfl,rfl,rfl,rfl,rfl,rfl,trivial⟩ rfl (by rw[hacc];rfl) fun s hs=>?_
 obtain⟨r,qp,qc⟩:=s;have hrn:r≤n:=hs;have halr:=hal r
 show H _ _ _ [(11,.int .i64 ((r+1:Nat):Int)),(9,.slice qp (acc r).length qc),_,_,_,_,_] f (_::slc qp (acc r).length qc _ 2 ((acc r).flatMap pairV)::_::_::_::_::_::_::_::_::F) _
 have hquo:(((n:Int)-1).tdiv 2)=(((n-1) / 2:Nat):Int):=by
  rw[show((n:Int)-1)=((n-1:Nat):Int) by omega];exact(Int.ofNat_tdiv (n-1) 2).symm
 by_cases hgo:r<n∧(acc r).length≤(n-1) / 2
 ·obtain⟨hr,hlen⟩:=hgo;have hrl:r<l.n:=jA
  have hcl:=hL.cl r;have hr11:r<11:=jA
  refine qkh fun cb hcb=>?_;have hCd:∀ {A A':List HP},At A (slc cp l.n cc 195 1 (chRow l cs)) A' (slc cp l.n cc 195 1 (chRow l cs))→Rd f A cb 0 (chRow l cs):=fun {A A'} h=>Rd.ofSlc (n:=l.n) (c:=cc) (T:=195) (sz:=1) (by rw[←hcb];exact h) jA
  have hsucc:acc (r+1)=acc r++qRow l.ch (kv o) v x.raw r:=by
   rw[hacc]at hlen⊢;show(if _ then _ else _)=_;rw[if_pos hlen]
  refine qjN ?_;refine gg ?_;refine H.Ak (b:=cb) (off:=0) (i:=r) rfl (by rw[←hcb];rfl) rfl jA hrl rfl ?_;refine H.Ad rfl rfl rfl (by rw[Nat.zero_add,Nat.mul_one];exact Rd1.at0 (hCd jB) (rngV_get _ hrl)) rfl ?_;refine gT ?_;refine qhW ?_;refine H.Bq hrl ?_;refine H.pf (x:=fam (updF _ _ _) _) ?_;refine qfd ?_;refine qfI ?_;refine qeE ?_;refine H.pf (x:=slc qp _ qc _ _ _) ?_;refine H.pf (x:=chFam l cs r) ?_;refine qfl ?_;obtain⟨pt,hpt⟩:∃pt:Nat→List (Int×Int),pt=fun i=>acc r++qPart l.ch (kv o) v x.raw r i:=⟨_,rfl⟩;have hp0:pt 0=acc r:=by rw[hpt];show acc r++[]=_;rw[List.append_nil]
  have hpl:∀i,(pt i).length≤(n-1) / 2+T+T:=fun i=>by
   rw[hpt];show(acc r++_).length≤_;rw[List.length_append]
   have:=qPart_len l.ch (kv o) v x.raw r i;omega
  refine H.loop (ι:=Nat×Option Addr×Nat) (fun s=>[(13,.int .i64 (s.1:Int)),(12,.slice (cs r).1 (l.ch r).length (cs r).2),(9,.slice s.2.1 (pt s.1).length s.2.2),(11,.int .i64 ((r+1:Nat):Int)),(10,.int .i64 (n:Int)),(0,.pointer (some ⟨wb,0,none⟩)),(1,.int .i64 ((o+1:Nat):Int)),(3,.int .u64 v),(6,.pointer (some ⟨xb,0,none⟩))]) (fun _=>f)
   (fun s=>row xb 71 x.vals::chFam l cs r::slc s.2.1 (pt s.1).length s.2.2 127 2 ((pt s.1).flatMap pairV)::row wb 32 (w15C kb n ap m ac lb)::row kb 37 (kRow n kv)::row lb 152 (lgC l.n l.known vp V.length vc pp pc cp cc)::slc vp V.length vc 147 4 (V.flatMap VV.vals)::lst (V.map VV.own)::fam (fun r=>pstH (pb r) (l.past r)) l.n::slc cp l.n cc 195 1 (chRow l cs)::fam (updF (chFam l cs) r emp) l.n::F)
   (fun s=>s.1≤(l.ch r).length) (fun s=>(l.ch r).length-s.1) (0,qp,qc) (Nat.zero_le _) ⟨rfl,rfl,by rw[hp0];rfl,rfl,rfl,rfl,rfl,rfl,rfl,trivial⟩ rfl (by rw[hp0]) fun s hs=>?_
  obtain⟨i,qp,qc⟩:=s;have hi2:i≤(l.ch r).length:=hs;have hpli:=hpl i
  show H _ _ _ [(13,.int .i64 (i:Int)),_,(9,.slice qp (pt i).length qc),_,_,_,_,_,_] f (_::_::slc qp (pt i).length qc _ 2 ((pt i).flatMap pairV)::_::_::_::_::_::_::_::_::F) _;by_cases hlt:i<(l.ch r).length
  ·obtain⟨y,hy⟩:∃y,(l.ch r)[i]?=some y:=⟨_,List.getElem?_eq_getElem hlt⟩;refine qiH fun sb hp=>?_
   have rd:∀ {G0:HP} {G:List HP},Rd f (G0::chFam l cs r::G) sb (0+i*2) (chV y):=fun {G0 G}=>by
    rw[Nat.zero_add];exact Rd.slcElem (vals:=chV) (xs:=l.ch r) (n:=(l.ch r).length) (c:=(cs r).2) (T:=197) chV_len jC kX hy
   have hnx:pt (i+1)=pt i++(if(decide (y.1=v)&&decide (y.2≤kv o r)&& !x.raw)=true then [(((r+1:Nat):Int),y.2)]else []):=by
    rw[hpt];show acc r++qPart _ _ _ _ _ (i+1)=acc r++qPart _ _ _ _ _ i++_;rw[qPart_next hy,List.append_assoc]
   refine gG ?_;refine H.dq ?_;refine gB ?_;refine qkP ?_;refine HQ.Ad rfl rfl rfl (Rd1.of (i:=0) rd rfl) rfl ?_;refine gM ?_;by_cases h1:y.1=v
   ·skip;refine gM ?_;refine qkP ?_;refine HQ.Ad rfl rfl rfl (Rd1.of (i:=1) rd rfl) rfl ?_;refine gW ?_;refine HQ.Ak (b:=kb) (off:=0) (i:=o) rfl rfl rfl jA ho rfl ?_;refine HQ.Ao (i:=r) rfl rfl rfl jA hr11 rfl ?_;refine HQ.Ad rfl rfl rfl (by rw[Nat.zero_add,Nat.mul_one];exact Rd1.of (Rd.kRow (Rd.ofRow jB) ho) (zav (kv o) hr11)) rfl ?_;refine gP ?_;by_cases h2:y.2≤kv o r
    ·by_cases hraw : x.raw = true
     ·have hr1:(!x.raw)=false:=by rw[hraw];rfl
      rw[hraw,Bool.not_true,Bool.and_false,if_neg jC,List.append_nil]at hnx;refine gP ?_;refine gg ?_;exact qaw
     ·have hraw:x.raw=false:=by
       cases e:x.raw with
       |true=>exact absurd e hraw
       |false=>rfl
      have hr1:(!x.raw)=true:=by rw[hraw];rfl
      rw[hraw,decide_eq_true h1,decide_eq_true h2,if_pos jC]at hnx;refine gP ?_;refine gU ?_;refine H.Ak (b:=sb) (off:=0) (i:=i) rfl (by rw[←hp];rfl) rfl rfl hlt rfl ?_;refine gH ?_;refine H.Ad rfl rfl rfl (Rd1.of (i:=1) rd rfl) rfl ?_;refine gQ ?_;refine H.Am (out:=pairV (((r+1:Nat):Int),y.2)) rfl rfl rfl rfl jC jC rfl rfl fun eb=>?_;refine H.Ar (sz:=2) (p:=qp) (n0:=(pt i).length) (c:=qc) (xs:=(pt i).flatMap pairV) (m:=1) (news:=pairV (((r+1:Nat):Int),y.2)) rfl rfl rfl rfl rfl (fun p' c'=>jB) (Src.slice (Rd.ofRow jB) rfl) (zaa rfl) rfl jA jA fun p2 c2=>?_;refine gV ?_;refine qgI ?_;refine H.Av (i+1,p2,c2) (by show i+1≤(l.ch r).length;omega) jT ⟨rfl,rfl,?_,rfl,rfl,rfl,rfl,rfl,rfl,trivial⟩ rfl ?_
      ·show some (Value.slice p2 ((pt i).length+1) c2)=some (Value.slice p2 (pt (i+1)).length c2);rw[hnx,List.length_append];rfl
      ·show _::_::slc p2 ((pt i).length+1) c2 _ 2 _::_=_::_::slc p2 (pt (i+1)).length c2 _ 2 ((pt (i+1)).flatMap pairV)::_;rw[hnx,List.length_append,List.flatMap_append];simp
    ·rw[decide_eq_false h2,Bool.and_false,Bool.false_and,if_neg jC,List.append_nil]at hnx;refine gI ?_;refine gV ?_;exact qaw
   ·rw[decide_eq_false h1,Bool.false_and,Bool.false_and,if_neg jC,List.append_nil]at hnx;refine gI ?_;refine gV ?_;exact qaw
  ·have e:i=(l.ch r).length:=jA
   subst e;have hpe:pt (l.ch r).length=acc (r+1):=by rw[hsucc,hpt,←qPart_all]
   rw[hpe];refine gZ ?_;refine H.pf (x:=fam (updF _ _ _) _) ?_;refine H.pf (x:=chFam l cs r) ?_;refine H.Ca (g:=chFam l cs) hrl ?_;refine qee ?_;refine qeE ?_;refine H.pf (x:=slc qp _ qc _ _ _) ?_;refine qfl ?_;exact H.ag (r+1,qp,qc) (by show r+1≤n;omega) (by show n-(r+1)<n-r;omega)
 ·have hfin:acc n=acc r:=by
   by_cases e:r=n
   ·rw[e]
   ·rw[hacc];exact qAcc_stop hrn (by rw[←hacc];omega)
  have hqe:qAcc (qRow l.ch (kv o) v x.raw) ((n-1) / 2) n=acc r:=by rw[←hfin,hacc]
  by_cases hr:r<n
  ·have hlen:(n-1) / 2<(acc r).length:=jA
   refine qjN ?_;have h0:0<(acc r).length:=jA
   exact qaJ
  ·by_cases h0 : 0 < (acc r).length
   ·skip;exact qaJ
   ·by_cases hq0 : x.q.length = 0
    ·skip;refine gU ?_;refine qgV ?_;refine qee ?_;refine H.imp (zah ⟨V,vp,vc,pp,pc,cp,cc,pb,cs⟩ hi) ?_;refine H.pf (x:=slc qp _ qc _ _ _) ?_;have hqs:x.qs n l.ch (kv o) v=acc r:=by unfold A15.qs;rw[if_pos (.inr hq0),hqe]
     rw[hqs];exact H.r1 ⟨(qp,qc),rfl,rfl,rfl⟩
    ·have hnil:acc r=[]:=List.eq_nil_of_length_eq_zero jA
     have hqs:x.qs n l.ch (kv o) v=qNum x.q (if n≤x.q.length then n else x.q.length):=by
      unfold A15.qs;rw[hqe,if_neg (by rintro(h|h);exact h0 h;exact hq0 h)]
     rw[hqs,hnil];clear hqs hqe hfin;refine gU ?_;rcases hx with e0|⟨qb,qoff,qcs,qT,qfr,hqp,hqfb,hqcs⟩
     ·rw[e0]at hq0;exact absurd rfl hq0
     ·have hrdo:∀A,Rd f A qb qoff (bytesV x.q):=fun A=>Rd.imm hqfb fun j hj=>by rw[zac]at hj;exact hqcs j hj
      refine H.lo (ι:=Nat×Option Addr×Nat) (fun s=>[(14,.int .i64 ((s.1+1:Nat):Int)),(9,.slice s.2.1 s.1 s.2.2),(10,.int .i64 (n:Int)),(6,.pointer (some ⟨xb,0,none⟩))]) (fun _=>f)
       (fun s=>row xb 71 x.vals::slc s.2.1 s.1 s.2.2 127 2 ((qNum x.q s.1).flatMap pairV)::row wb 32 (w15C kb n ap m ac lb)::row kb 37 (kRow n kv)::row lb 152 (lgC l.n l.known vp V.length vc pp pc cp cc)::slc vp V.length vc 147 4 (V.flatMap VV.vals)::lst (V.map VV.own)::fam (fun r=>pstH (pb r) (l.past r)) l.n::slc cp l.n cc 195 1 (chRow l cs)::fam (chFam l cs) l.n::F)
       (fun s=>s.1≤n∧s.1≤x.q.length) (fun s=>n-s.1) (0,qp,qc) ⟨Nat.zero_le _,Nat.zero_le _⟩ fun s hs=>?_
      obtain⟨j,qp,qc⟩:=s;obtain⟨hj1,hj2⟩:j≤n∧j≤x.q.length:=hs;show H _ _ _ [(14,.int .i64 ((j+1:Nat):Int)),(9,.slice qp j qc),_,_] f (_::slc qp j qc _ 2 ((qNum x.q j).flatMap pairV)::_::_::_::_::_::_::_::_::F) _;by_cases hgo:j<n∧j<x.q.length
      ·obtain⟨hjn,hjq⟩:=hgo;obtain⟨w8,hw8⟩:∃w8,x.q[j]?=some w8:=⟨_,List.getElem?_eq_getElem hjq⟩;have hby:(bytesV x.q)[j]?=some (.int .u8 (w8.toNat:Nat)):=by unfold bytesV;rw[List.getElem?_map,hw8];rfl
       have hw8l:=w8.toNat_lt;have hm8:((w8.toNat % 8:Nat):Int)≤7:=jA
       have hnx:qNum x.q (j+1)=qNum x.q j++[(((j+1:Nat):Int),1+((w8.toNat % 8:Nat):Int))]:=by
        show qNum x.q j++[(_,1+(((x.q.getD j 0).toNat % 8:Nat):Int))]=_;rw[List.getD_eq_getElem?_getD,hw8];rfl
       refine gg ?_;refine H.Bz (b:=qb) (off:=qoff) (i:=j) rfl kE rfl jA hjq rfl ?_;refine H.Ad rfl rfl rfl (Rd1.of (hrdo _) hby) rfl ?_;refine H.rem (z:=((w8.toNat % 8:Nat):Int)) rfl rfl rfl jC (zak (b:=8) rfl) rfl ?_;refine gO ?_;refine H.Am (out:=pairV (((j+1:Nat):Int),1+((w8.toNat % 8:Nat):Int))) rfl rfl rfl rfl jC jC rfl rfl fun eb=>?_;refine H.Ar (sz:=2) (p:=qp) (n0:=j) (c:=qc) (xs:=(qNum x.q j).flatMap pairV) (m:=1) (news:=pairV (((j+1:Nat):Int),1+((w8.toNat % 8:Nat):Int))) rfl rfl rfl rfl rfl (fun p' c'=>jB) (Src.slice (Rd.ofRow jB) rfl) (zaa rfl) rfl jA jA fun p2 c2=>?_;refine gV ?_;refine qgI ?_;refine H.Av (j+1,p2,c2) ⟨by show j+1≤n;omega,by show j+1≤x.q.length;omega⟩ (by show n-(j+1)<n-j;omega) ⟨rfl,rfl,rfl,rfl,trivial⟩ rfl ?_;show _::slc p2 (j+1) c2 _ 2 _::_=_::slc p2 (j+1) c2 _ 2 ((qNum x.q (j+1)).flatMap pairV)::_;rw[hnx,List.flatMap_append];simp
      ·have hje:(if n≤x.q.length then n else x.q.length)=j:=by split<;>omega
       rw[hje,qNum_len];by_cases hjn:j<n
       ·skip;refine gJ ?_;exact qaO
       ·skip;refine gU ?_;exact qaO
end
end Go.Proofs.YtkaknokcbhiigaaGreatDoor
