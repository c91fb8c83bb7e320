/- Parts of the proof, one behind the other, each under its own heading. No conditions. -/
import Derived.Test.YtgdhaledfjnfgaaGreatDoorZ09
import Derived.OrdersIn
set_option linter.unusedSectionVars false
set_option linter.unusedSimpArgs false
set_option linter.unusedVariables false
/- Layer 19: what a replica says next: the rules 'prepare' and 'commit'. Condition: the table of the standard stands in the fragment. (Printed by gen_be.py.) -/
set_option maxHeartbeats 6400000
set_option maxRecDepth 20000
namespace Go.Proofs.YtgdhaledfjnfgaaGreatDoor
open Go
variable {xb lb o pc T pl:Nat} {l:Lgs} {pp:Option Addr} {wish:Int} {fl:Frag} {pend:List Req}
section
variable (f:Frag) (F:List HP)
theorem dprep_fn (htab:TabAt f) (hL:LI l T) (ho:o < l.n) (hp:ListAt f pp 40 Req.vals pend) (hpl:pend.length ≤ 1000000) :
  Fn Tryz.prog 99 [.pointer (some ⟨xb,0,none⟩)] f (row xb 146 (lkC lb l.n o pp pend.length pc wish (dyG l o) (dyN l o) ((dyV l o (dyG l o)).getD 0))::plogH fl lb l::F) (NxP f (row xb 146 (lkC lb l.n o pp pend.length pc wish (dyG l o) (dyN l o) ((dyV l o (dyG l o)).getD 0))::plogH fl lb l::F) (sayP l o pend)):=by
 have hn:=hL.n3;have hpr:=fun e G=>dprim_fn e G (xb:=xb) (lb:=lb) (o:=o) (l:=l) (pp:=pp) (pl:=pend.length) (pc:=pc) (wish:=wish) (by omega) (v:=dyG l o) (hL.wf o ho).g0 ho
 have hhold:=fun G c t=>plholdsO_fn f G (fl:=fl) (lb:=lb) hL (v:=dyG l o) (c:=c) (t:=t);have hdyP:∀ x,dyP l o x = (x.auth && !holdsB (allO (l.vw (dyG l o))) x.client x.time):=fun x=>rfl
 unfold sayP;generalize dyG l o = g at *
 cases hen:dyN l o with
 | false =>
  rw [hen] at hpr;refine Fn.e1 Tryz.func99 Tryz.ntmps99 fun base=>?_;refine gA ?_;refine qds fun ob=>?_;refine gT ?_;exact qav
 | true =>
  rw [hen] at hpr
  cases hpv:primB l.n o g with
  | false =>
   rw [hpv] at hpr;refine Fn.e1 Tryz.func99 Tryz.ntmps99 fun base=>?_;refine gA ?_;refine qds fun ob=>?_;refine gO ?_;refine qdM ?_;refine H.cr (hpr _ _) ?_;refine gP ?_;exact qav
  | true =>
   rw [hpv] at hpr;show Fn _ _ _ _ _ (NxP f _ (match pend.find? (dyP l o) with | none=>sayZ | some r=>(⟨1,g,0,r,[],noTag⟩,true)));refine Fn.e1 Tryz.func99 Tryz.ntmps99 fun base=>?_;refine gA ?_;refine qds fun ob=>?_;refine gO ?_;refine qdM ?_;refine H.cr (hpr _ _) ?_;clear hpr;generalize (dyV l o g).getD 0 = vo at *;refine gO ?_
   refine H.lo (ι:=Nat) (fun j=>[(26,.int .i64 (j:Int)),(25,.int .i64 (pend.length:Int)),(24,.slice pp pend.length pc),(3,.bool false),(2,.pointer (some ⟨ob,0,none⟩)),(0,.pointer (some ⟨xb,0,none⟩))]) (fun _=>f)
    (fun _=>row xb 146 (lkC lb l.n o pp pend.length pc wish g true vo)::row ob 47 ((Bod.zero 0).vals none 0)::plogH fl lb l::F) (fun j=>j ≤ pend.length ∧ ∀ i x,i < j→pend[i]? = some x→dyP l o x = false) (fun j=>pend.length - j)
    0 ⟨Nat.zero_le _,fun i x hi=>by omega⟩ fun j hj=>?_
   obtain ⟨hj,hb⟩:j ≤ pend.length ∧ ∀ i x,i < j→pend[i]? = some x→dyP l o x = false:=hj;by_cases hjl:j < pend.length
   ·obtain ⟨x,hx⟩:∃ x,pend[j]? = some x:=⟨_,List.getElem?_eq_getElem hjl⟩;obtain ⟨b,off,cs,Tt,fr,rfl,hfb,hcs⟩:=hp j x hx;have rd:∀ A,Rd f A b (off + j * 40) x.vals:=fun A=>Rd.imm hfb hcs;have hau:=fun G=>auth_fn f G htab x
    have hho:=fun G=>hhold G x.client x.time;have hpx0:=hdyP x
    cases hxa:x.auth with
    | false =>
     rw [hxa] at hau hpx0;have hpx:dyP l o x = false:=hpx0;refine qeo fun tb=>?_
     refine qdP ?_;refine HB.qu [2,3,4,5,6,7,8,9,10,11,12,13,14,15,16,17] 0 ?_;exact qaP
    | true =>
     rw [hxa] at hau hpx0;generalize holdsB (allO (l.vw g)) x.client x.time = hv at hho hpx0
     cases hv with
     | true =>
      have hpx:dyP l o x = false:=hpx0;refine qeo fun tb=>?_
      refine qfj ?_;exact qaP
     | false =>
      have hpx:dyP l o x = true:=hpx0;rw [find_at hx hpx hb]
      show H _ _ _ _ _ _ _;refine qeo fun tb=>?_;refine qfj ?_;refine qdE ?_;refine gD ?_;refine qdM ?_;refine H.pf (x:=row tb _ _) ?_;refine qhb ?_;refine HB.qu [0,1,2,3,4,5] 2 ?_;refine gc ?_;refine qeR ?_;refine HQ.Am (t:=47) (out:=(⟨1,g,0,x,[],noTag⟩:Bod).vals none 0) rfl rfl rfl (by kernel_rfl) rfl ?_;skip;refine qgn ?_;refine qgc ?_;refine qdj ?_;refine HB.qu [7] 0 ?_;refine qgG ?_;refine gV ?_;refine qgH ?_;refine qef ?_;refine qdM ?_;exact qbE
   ·rw [find_no fun i y hy=>hb i y (by have:=(List.getElem?_eq_some_iff.1 hy).1;omega) hy];refine gW ?_;exact qav
theorem dcommit_fn (hL:LI l T) (hT:T ≤ 50000) (ho:o < l.n) :
  Fn Tryz.prog 100 [.pointer (some ⟨xb,0,none⟩)] f (row xb 146 (lkC lb l.n o pp pl pc wish (dyG l o) (dyN l o) ((dyV l o (dyG l o)).getD 0))::plogH fl lb l::F) (NxP f (row xb 146 (lkC lb l.n o pp pl pc wish (dyG l o) (dyN l o) ((dyV l o (dyG l o)).getD 0))::plogH fl lb l::F) (sayK l o)):=by
 have hn:=hL.n3;have hpr:=fun e G=>dprim_fn e G (xb:=xb) (lb:=lb) (o:=o) (l:=l) (pp:=pp) (pl:=pl) (pc:=pc) (wish:=wish) (by omega) (v:=dyG l o) (hL.wf o ho).g0 ho
 have hlog:=fun G=>pllogO_fn f G (fl:=fl) (lb:=lb) hL hT (dyG l o)
 have hvo:0 ≤ (dyV l o (dyG l o)).getD 0 ∧ (dyV l o (dyG l o)).getD 0 ≤ 100000:=by
  cases hv:dyV l o (dyG l o) with
  | none=>exact ⟨Int.le_refl 0,by show (0:Int) ≤ _;omega⟩
  | some k =>
   obtain ⟨i,w,_,hw,_,h1,h2⟩:=hL.voted ho hv
   have:=hL.al w (List.mem_of_getElem? hw);exact ⟨h1,by show k ≤ _;omega⟩
 have hdA:dyA l o = allO (l.vw (dyG l o)):=rfl
 have hRl:(allO (l.vw (dyG l o))).length ≤ 50000:=by
  cases hv:l.vw (dyG l o) with
  | none=>exact Nat.zero_le _
  | some w=>have:=hL.al w (vw_v hv).2;show w.all.length ≤ _;omega
 unfold sayK;rw [hdA];generalize dyG l o = g at *;generalize dyN l o = en at *;generalize (dyV l o g).getD 0 = vo at *;obtain ⟨R,hR⟩:∃ R,R = allO (l.vw g):=⟨_,rfl⟩;rw [← hR] at hRl ⊢;have hw1:IntKind.u64.wrap vo = vo:=wr_u64 (by omega);refine Fn.e1 Tryz.func100 Tryz.ntmps100 fun base=>?_
 refine gA ?_;refine qds fun ob=>?_;refine gM ?_;refine qdM ?_;refine qdX ?_;refine HB.qu [0,1,2,3,4,5,6,7] 6 ?_;refine qex ?_;refine HB.ev 8 ?_;refine qef ?_;refine H.cl (hlog _) fun v f' A' hr=>?_;obtain ⟨p3,c3,rfl,hff,rfl⟩:=hr;rw [hff,← hR];clear hff hlog hR;refine gA ?_;refine qdM ?_;refine qdZ ?_;refine HB.qu [9,10,11,12,13] 0 ?_;refine qdE ?_;refine gA ?_;refine qdM ?_;refine qdX ?_
 cases en with
 | false =>
  refine HB.qu [0,1,2,3,4,5,6,7,8,9,10,11,12,13,14,15,16,17,18,19,20,21,22,23,24,25,26,27,28,29,30,31,32] 2 ?_;repeat (first | (refine HQ.Am (t:=47) (out:=(bodW 2 g (vo + 1)).vals none 0) rfl rfl rfl (by kernel_rfl) rfl ?_) | (refine gh ?_))
  exact qaq
 | true =>
  cases hpv:primB l.n o g with
  | true =>
   rw [hpv] at hpr;refine qeY ?_;refine gR ?_;exact qaq
  | false =>
   rw [hpv] at hpr;refine qeY ?_;refine gS ?_;exact qaq
end
def loopJ (n:Nat) (L:Env) (lp:Nat) (ps:List Tmp) (assign body:Code) (D:Nat) (J:Option Code):HP:=fun h =>
 ∃ fn tmps,tmps.size = n ∧ (∀ i v,look? L i = some v→tmps[i]? = some v) ∧ pts lp (.loop { state:=if J.isNone then .ready else .done,pending:=J,fn,tmps,params:=ps.toArray,assign,body,defers:=D }) h
def jumpK (q:Post):Option Code→Kont
 | none=>.out .normal q
 | some c=>.code c q
variable {w:World} {L0:Env} {lp D n0 b id off b2 off2:Nat} {ps:List Tmp} {assign body y:Code} {J:Option Code} {tmps:Array Value} {R:Value→Frag→List HP→Prop} {g:Operand} {gf:FuncId} {fs cs:List Value} {fn:Func} {ty ty2:TypeId} {x:Value} {A':List HP}
section
variable {P:Program} {base:World} {n:Nat} {L:Env} {f f':Frag} {A A':List HP} {q:Post}
theorem Sat.loopJ (s:Sat base w f (Go.Proofs.YtgdhaledfjnfgaaGreatDoor.loopJ n L0 lp ps assign body D J::A)) :
  ∃ fn tmps,tmps.size = n ∧ (∀ i v,look? L0 i = some v→tmps[i]? = some v) ∧ Sat base w f (pts lp (.loop { state:=if J.isNone then .ready else .done,pending:=J,fn,tmps,params:=ps.toArray,assign,body,defers:=D })::A):=by
 exact qbS
theorem Sat.ofLoopJ {fn:FuncId} (h1:tmps.size = n) (h2:∀ i v,look? L0 i = some v→tmps[i]? = some v)
  (s:Sat base w f (pts lp (.loop { state:=if J.isNone then .ready else .done,pending:=J,fn,tmps,params:=ps.toArray,assign,body,defers:=D })::A)):Sat base w f (Go.Proofs.YtgdhaledfjnfgaaGreatDoor.loopJ n L0 lp ps assign body D J::A):=by
 exact qbY
theorem H.endRoundR {b:Code} (h:R (.bool false) f (loopJ n0 L0 lp ps assign b D (some .ret)::A)):H P base n L f (loopH n0 L0 lp ps assign b D .busy::A) (.out .ret (roundP P lp base R)):=.mk fun a w hf s=>by
 obtain ⟨fn,tmps,h1,h2,s1⟩:=s.loop
 have hg:=s1.got (.here _ _ emp)
 refine ⟨_,_,run_endRound (some .ret) hg,_,f,_,rfl,h,Sat.ofLoopJ (fn:=fn) (tmps:=tmps) h1 h2 ?_⟩
 exact s1.set (.here _ _ _) rfl rfl rfl rfl
theorem H.endRoundX {b:Code} (h:R (.bool false) f (loopJ n0 L0 lp ps assign b D (some (.exit id))::A)):H P base n L f (loopH n0 L0 lp ps assign b D .busy::A) (.out (.exit id) (roundP P lp base R)):=.mk fun a w hf s=>by
 obtain ⟨fn,tmps,h1,h2,s1⟩:=s.loop
 have hg:=s1.got (.here _ _ emp)
 refine ⟨_,_,run_endRound (some (.exit id)) hg,_,f,_,rfl,h,Sat.ofLoopJ (fn:=fn) (tmps:=tmps) h1 h2 ?_⟩
 exact s1.set (.here _ _ _) rfl rfl rfl rfl
theorem H.retR (h:H P base n L f A (.out .ret q)):H P base n L f A (codeR P lp .ret q):=.mk fun a w hf s=>wpIn_ret (h.out a w hf s)
theorem H.exitR (h:H P base n L f A (.out (.exit id) q)):H P base n L f A (codeR P lp (.exit id) q):=.mk fun a w hf s=>wpIn_exit (h.out a w hf s)
theorem H.thenExitR (h:H P base n L f A (.out (.exit id) q)):H P base n L f A (.out (.exit id) (Go.Proofs.YtgdhaledfjnfgaaGreatDoor.seqR P lp y q)):=.mk h.out
theorem H.rangeFuncJ {ι:Type} {J:ι→Option Code} {A':ι→Nat→List HP} [hfun:Fun P gf] (hg:ev? L g = some (.func (.func gf) fs.toArray cs.toArray)) (hmk:mk? L = none)
  (hc:∀ D lp,Fn P gf (fs ++ [.func (.yield lp) #[] #[]] ++ cs) f (loopH n L lp ps assign body D .ready::pts D (.deferred (some []))::A) (fun _ g B=>∃ i,g = f' ∧ B = loopJ n L lp ps assign body D (J i)::A' i D))
  (k:∀ i D,H P base n ((1000003,.pointer (some ⟨D,0,none⟩))::L) f' (A' i D) (jumpK q (J i))) :
  H P base n L f A (.code (.rangeFunc g ps.toArray assign body) q):=.mk fun a w hf s=>by
 refine wpIn_wide.1 (wpIn_rangeFunc (F:=Fence.wide) (n:=3) fun fn _=>?_)
 obtain ⟨fnc,e1,e2,e3⟩:=hfun.eq
 have hev:a.eval g = .func (.func gf) fs.toArray cs.toArray:=hf.eval hg
 have hd0:a.defers = []:=hf.bare hmk
 have sA:Sat base (w.alloc (.deferred (some []))) f (pts w.heap.size (.deferred (some []))::A):=s.alloc rfl rfl rfl rfl
 have sB:=sA.alloc (w':=(w.alloc (.deferred (some []))).alloc (.loop { state:=.ready,pending:=none,fn,tmps:=a.tmps,params:=ps.toArray,assign,body,defers:=w.heap.size })) rfl rfl rfl rfl
 rw [World.size_alloc] at sB
 have sC:Sat base _ f (loopH n L (w.heap.size + 1) ps assign body w.heap.size .ready::pts w.heap.size (.deferred (some []))::A):=Sat.ofLoop (fn:=fn) (tmps:=a.tmps) hf.size hf.get sB
 have hrun:=run_enterLoop_outer (P:=P) (w:=w) fn a.tmps ps.toArray assign body
 generalize (w.alloc (.deferred (some []))).alloc (.loop { state:=.ready,pending:=none,fn,tmps:=a.tmps,params:=ps.toArray,assign,body,defers:=w.heap.size }) = W at sC hrun
 have hcall:=hc w.heap.size (w.heap.size + 1) base W sC
 refine ⟨w.heap.size + 1,_,W,{ target:=.fn (.func gf) cs.toArray,args:=fs.toArray ++ #[Value.func (.yield (w.heap.size + 1)) #[] #[]] },W,gf,(fs ++ [Value.func (.yield (w.heap.size + 1)) #[] #[]] ++ cs).toArray,W,hrun,?_,fun _ _=>trivial,?_,(fun h=>by cases h),callsIn_wide.2 (hcall.mono ?_)⟩
 ·have:Array.map a.eval #[Operand.const (Value.func (.yield (w.heap.size + 1)) #[] #[])] = #[Value.func (.yield (w.heap.size + 1)) #[] #[]]:=by simp [Act.eval]
  simp only [rangeCall,resolve,hev,Deferred.ofValue,Sem.run_pure,this]
 ·simp only [invoke,callFunc,Sem.run_bind,run_program,Result.andThen_ok,e1,e2,e3,Bool.false_eq_true,if_false,Sem.run_pure]
  simp
 ·rintro e w' ⟨v,f1,B,rfl,⟨i,rfl,rfl⟩,s'⟩
  have hk:=k i w.heap.size
  generalize J i = j at hk s'
  obtain ⟨fn',tmps',h1,h2,s1⟩:=s'.loopJ
  have hgl:=s1.got (.here _ _ emp)
  have hend:=run_endLoop (P:=P) hgl (by cases j <;> simp)
  have hfr:Fr n { tmps:=a.tmps,defers:=[({ target:=.collected w.heap.size,args:=#[] }:Deferred)] ++ a.defers } ((1000003,.pointer (some ⟨w.heap.size,0,none⟩))::L):=by
   refine ⟨hf.size,hf.small,?_,fun j u hj=>?_⟩
   ·show _ ++ a.defers = dmOf _;rw [hd0];rfl
   ·have hl:=look?_lt hj;rw [look?_cons hl,if_neg (by omega)] at hj
    exact hf.get j u hj
  have hs2:∀ o,Sat base (w'.putObj (w.heap.size + 1) o) f1 (A' i w.heap.size):=fun o=>(s1.set (w':=w'.putObj (w.heap.size + 1) o) (.here _ _ (pts (w.heap.size + 1) o)) rfl rfl rfl rfl).drop (.here _ _)
  refine ⟨j,_,hend,?_⟩
  cases j with
  | none=>exact hk.out _ _ hfr (hs2 _)
  | some c=>exact wpIn_wide.2 (hk.out _ _ hfr (hs2 _))
theorem H.rangeFuncJE [hfun:Fun P gf] (hg:ev? L g = some (.func (.func gf) fs.toArray cs.toArray)) (hmk:mk? L = none)
  (hb : ∀ LJ : Nat → Nat → Option Code → HP, (LJ = fun D lp J => Go.Proofs.YtgdhaledfjnfgaaGreatDoor.loopJ n L lp ps assign body D J) → ∃ (J : Option Code) (A' : Nat → List HP),
   (∀ D lp,Fn P gf (fs ++ [.func (.yield lp) #[] #[]] ++ cs) f (LJ D lp none::pts D (.deferred (some []))::A) (fun _ g B=>g = f' ∧ B = LJ D lp J::A' D)) ∧
   ∀ D,H P base n ((1000003,.pointer (some ⟨D,0,none⟩))::L) f' (A' D) (jumpK q J)) :
  H P base n L f A (.code (.rangeFunc g ps.toArray assign body) q):=by
 obtain ⟨J,A',h1,h2⟩:=hb _ rfl;exact H.rangeFuncJ (ι:=Unit) (J:=fun _=>J) (A':=fun _=>A') hg hmk (fun D lp=>Fn.wrap (fun _ h=>h) (h1 D lp) fun v g B hR=>⟨B,⟨(),hR.1,hR.2⟩,fun _ h=>h⟩) fun _ D=>h2 D
/-! ### A region that draws its order, in a round -/
theorem wpAnyIn_of {F:Fence} {m:Nat} (hfn:∀ f,F.fn f) (hd:F.depth = none) (hc:∀ m f args w R,Calls P f args w R→CallsIn F m P f args w R) (hr:∀ m row args w R,Rows P row args w R→RowsIn F m P row args w R)
  {ops:Array Oper} {md:Region.Mode} {Q:Exit→Act→World→Prop} (ho:∀ a w,¬ Q .outgrown a w) (hs:∀ (i:Nat) o,ops[i]? = some o→∀ ρ,o.semAt F.round ρ = execOp ρ o) :
  ∀ (fuel:Nat) (listed:Array Bool) a w,wpAny P md ops Q fuel listed a w→wpAnyIn F m P md ops Q fuel listed a w
 | 0,listed,a,w,h=>h
 | fuel + 1, listed, a, w, h => ⟨h.1, fun i hi => by
  have ih:=wpAnyIn_of (m:=m) (md:=md) (Q:=Q) hfn hd hc hr ho hs fuel (listed.setIfInBounds i true)
  have h:=h.2 i hi
  unfold wpOp at h
  unfold wpOpIn
  cases hi2:ops[i]? with
  | none=>rw [hi2] at h;exact ih _ _ h
  | some o =>
   rw [hi2] at h
   simp only at h ⊢
   by_cases hw:Region.wanted o (yielded ops a.tmps) = true
   ·rw [if_pos hw] at h ⊢
    rcases h with h | ⟨_,a0,w0,h⟩
    ·refine ⟨fun f _=>hfn f,?_⟩
     rw [hs i o hi2]
     exact uponIn_of_upon hd hc hr ih (fun e a w _ h=>h) _ h
    ·exact (ho a0 w0 h).elim
   ·rw [if_neg hw] at h ⊢
    exact ⟨fun f _=>hfn f,ih _ _ h⟩⟩
theorem H.drawBR {l:List Oper} {B:List HP} (hm:P.follows .mixedOrders = true) (hn:Region.noSelect l.toArray = true) (hb:q.blind P) (hp:l.all plainOp = true) (hs:q.shut P)
  {S V:List HP} (hB:B = S ++ V) (k:HB S V #[] (Array.replicate l.length false) l.length P base n L f (.ops l [] q)):H P base n L f B (codeR P lp (.region id l.toArray true) q):=.mk fun a w hf s=>by
 refine wpIn_region_any hm ?_
 subst hB
 have s':Sat base { w with drawn:=w.drawn + 1 } f (S ++ V):=s.same rfl rfl rfl rfl
 have:=k.out l q rfl hn hb a _ hf s'
 refine wpAnyIn_of (F:=Fence.wide.inRound lp) (fun _=>trivial) rfl (fun m f args w R h=>(callsIn_wide.2 h:CallsIn Fence.wide m P f args w R)) (fun m row args w R h=>rowsIn_wide h) hs (fun i o hi ρ=>?_) _ _ _ _ (by simpa using wpAnyC.any _ _ _ _ this)
 have hi:l[i]? = some o:=by simpa using hi
 have:=List.all_eq_true.1 hp o (List.mem_of_getElem? hi)
 exact Oper.semAt_eq _ _ _ fun c hc=>by simp [plainOp,hc] at this
theorem blind_round:(roundP P lp base R).blind P:=fun _ _ _ _ _ h=>h.elim
theorem blind_seqR (h:q.blind P):(Go.Proofs.YtgdhaledfjnfgaaGreatDoor.seqR P lp y q).blind P:=h
/-! ### Results in two cells, behind a range over a function -/
theorem results_cells {t u:Tmp} {v:Value} (h:fn.results = #[.cell t ty,.cell u ty2]) (hp:tmps.getD t undef = .pointer (some ⟨b,off,none⟩)) (hx:tmps.getD u undef = .pointer (some ⟨b2,off2,none⟩))
  (hl:(loadVar ty ⟨b,off,none⟩).run P w = .ok v w) (hl2:(loadVar ty2 ⟨b2,off2,none⟩).run P w = .ok x w):(results fn tmps).run P w = .ok (.tuple #[v,x]) w:=by
 have hp':tmps[t]?.getD undef = .pointer (some ⟨b,off,none⟩):=by simpa using hp
 have hx':tmps[u]?.getD undef = .pointer (some ⟨b2,off2,none⟩):=by simpa using hx
 simp only [results,h];simp [Sem.run_bind,asAddr,hp',hx',hl,hl2]
theorem bodyPostM_mark2 {R:Ending→World→Prop} {a:Act} {v:Value} (hr:(results fn a.tmps).run P (w.putObj D (.deferred none)) = .ok v (w.putObj D (.deferred none))) (hd:a.defers = [{ target:=.collected D,args:=#[] }]) (hD:w.heap[D]? = some (.deferred (some []))) (hR:R (.returned v) (w.putObj D (.deferred none))):bodyPostM Fence.wide 3 P fn R .ret a w:=by
 show LeavesInM Fence.wide 3 P fn a.tmps R a.defers .returning w;rw [hd];exact ⟨by simp,.inl ⟨D,_,rfl,run_takeDeferred hD,⟨v,hr,hR⟩⟩⟩
theorem H.retMkCC {t u:Nat} {dd dd2:TypeDesc} {m:Nat} {ls:List Value} {A'':List HP} [hu:Und P ty dd] [hs:Siz P ty m] [hu2:Und P ty2 dd2] (hr:fn.results = #[.cell t ty,.cell u ty2]) (hv:look? L t = some (.pointer (some ⟨b,off,none⟩))) (hx:look? L u = some (.pointer (some ⟨b2,off2,none⟩)))
  (ha:aggD dd = true) (ha2:aggD dd2 = false) (hm:mk? L = some (.pointer (some ⟨D,0,none⟩))) (hD:Pull A (pts D (.deferred (some []))) A') (hrd:Rd f A' b off ls) (hlen:ls.length = m) (hrx:Rd1 f A' b2 off2 x)
  (hA:∀ w,Sat base w f A'→Sat base w f A'') (h:R (.tuple #[.agg ls.toArray,x]) f A''):H P base n L f A (.out .ret (.fn (FnPostM P fn base R))):=.mk fun a w hf s=>by
 show bodyPostM Fence.wide 3 P fn (fun e w'=>∃ v f' A',e = .returned v ∧ R v f' A' ∧ Sat base w' f' A') .ret a w
 have s1:=s.front hD
 have hg:=s1.got (.here _ _ (pts D (.deferred (some []))))
 have s2:Sat base (w.putObj D (.deferred none)) f A':=(s1.set (w':=w.putObj D (.deferred none)) (.here _ _ _) rfl rfl rfl rfl).drop (.here _ _)
 refine bodyPostM_mark2 (v:=.tuple #[.agg ls.toArray,x]) (D:=D) ?_ (hf.marked hm) hg ⟨_,f,A'',rfl,h,hA _ s2⟩
 have h1:=hf.get t _ hv
 have h1':=hf.get u _ hx
 have h2:a.tmps.getD t undef = .pointer (some ⟨b,off,none⟩):=by simp [Array.getD_eq_getD_getElem?,h1]
 have h2':a.tmps.getD u undef = .pointer (some ⟨b2,off2,none⟩):=by simp [Array.getD_eq_getD_getElem?,h1']
 have h3:=run_loadAtN (P:=P) hu ha hs (hrd base _ s2) hlen
 have h4:=run_loadAt1 (P:=P) hu2 ha2 (hrx base _ s2)
 unfold Instr.loadAt Instr.sureAddr at h3 h4
 exact results_cells hr h2 h2' (by simpa using h3) (by simpa using h4)
end
variable {v:Int} {p:Option Addr} {c:Nat} {I:HP} {ct:Int→Bool} {Ψ:Int→HP} {xs:List Int}
section
variable (f:Frag) (F:List HP)
theorem backw_fn {m:Nat}:Fn Tryz.prog 132 [.slice p m c] f F (RetE (fun b=>.func (.func 180) #[] #[.pointer (some ⟨b,0,none⟩)]) f (fun b=>row b 63 [.slice p m c]::F)):=by
 refine Fn.e1 Tryz.func132 Tryz.ntmps132 fun base=>?_;refine gA ?_;refine H.box (ls:=[.slice p m c]) rfl rfl rfl rfl fun b=>?_;refine gZ ?_;exact H.r1 ⟨b,rfl,rfl,rfl⟩
def backO (I:HP) (ct:Int→Bool) (Ψ:Int→HP) (xs:List Int):HP:=match xs.reverse.find? (fun v=>!ct v) with
 | none=>I
 | some v=>Ψ v
theorem backO_stop {k:Nat} (h:xs[k]? = some v) (hv:ct v = false) (hb:∀ (j:Nat) x,k < j→xs[j]? = some x→ct x = true):backO I ct Ψ xs = Ψ v:=by
 unfold backO;have hk:=(List.getElem?_eq_some_iff.1 h).1
 rw [find_at (j:=xs.length - 1 - k) (x:=v) (by rw [List.getElem?_reverse (by omega),show xs.length - 1 - (xs.length - 1 - k) = k by omega];exact h) (by rw [hv];rfl) fun i y hi hy=>by
  rw [List.getElem?_reverse (by omega)] at hy
  rw [hb _ y (by omega) hy];rfl]
theorem backO_all (hb:∀ (j:Nat) x,xs[j]? = some x→ct x = true):backO I ct Ψ xs = I:=by
 unfold backO
 rw [find_no fun i y hy=>by
  obtain ⟨j,hj⟩:=List.getElem?_of_mem (List.mem_reverse.1 (List.mem_of_getElem? hy))
  rw [hb j y hj];rfl]
theorem backw1_fn {sb:Nat} (hx:xs.length ≤ 100000) (h0:0 < xs.length)
  (hY:∀ (k:Nat) v,xs[k]? = some v→∀ G,YieldFn Tryz.prog lp [.int .i64 (k:Int),.int .u64 v] f (I::G) (fun u g B=>u = .bool (ct v) ∧ g = f ∧ B = (if ct v = true then I else Ψ v)::G)) :
  Fn Tryz.prog 180 ([] ++ [.func (.yield lp) #[] #[]] ++ [.pointer (some ⟨b,0,none⟩)]) f
   (I::row b 63 [.slice (some ⟨sb,0,none⟩) xs.length c]::slc (some ⟨sb,0,none⟩) xs.length c 31 1 (xs.flatMap uV)::F)
   (fun _ g B=>g = f ∧ B = backO I ct Ψ xs::row b 63 [.slice (some ⟨sb,0,none⟩) xs.length c]::slc (some ⟨sb,0,none⟩) xs.length c 31 1 (xs.flatMap uV)::F):=by
 refine Fn.e2 Tryz.func180 Tryz.ntmps180 fun base=>?_;refine gO ?_
 refine H.lo (ι:=Nat) (fun i=>[(3,.int .i64 ((i:Int) - 1)),(1,.pointer (some ⟨b,0,none⟩)),(0,.func (.yield lp) #[] #[])]) (fun _=>f)
  (fun _=>I::row b 63 [.slice (some ⟨sb,0,none⟩) xs.length c]::slc (some ⟨sb,0,none⟩) xs.length c 31 1 (xs.flatMap uV)::F) (fun i=>i ≤ xs.length ∧ ∀ j x,i ≤ j→xs[j]? = some x→ct x = true) (fun i=>i)
  xs.length ⟨Nat.le_refl _,fun j x hj hx=>by have:=(List.getElem?_eq_some_iff.1 hx).1;omega⟩ fun i hi=>?_
 obtain ⟨hi,hb⟩:i ≤ xs.length ∧ ∀ j x,i ≤ j→xs[j]? = some x→ct x = true:=hi;by_cases h0i:0 < i
 ·obtain ⟨k,rfl⟩:∃ k,i = k + 1:=⟨i - 1,by omega⟩;obtain ⟨v,hv⟩:∃ v,xs[k]? = some v:=⟨_,List.getElem?_eq_getElem (by omega)⟩;have hy:=fun G=>hY k v hv G;have hki:(((k + 1:Nat):Int) - 1) = (k:Int):=by omega
  rw [hki]
  iterate 13 ( first
   | ((first | apply H.Ao | apply H.Ba | apply H.Ay | apply H.Bg | apply H.Bl | apply H.Bp);(iterate 3 exact rfl))
   | (apply H.Bi;(iterate 3 exact rfl);exact inferInstance;exact rfl)
   | (apply H.Ab;(iterate 3 exact rfl);apply Rd1.ofRow;(repeat (first | exact .here _ _ _ | apply At.there));(iterate 2 exact rfl))
   | (first | apply H.seq | apply H.Bd | apply H.nil | apply H.Be)
   | ((first | apply H.cmp | apply H.Am);(iterate 5 exact rfl))
   | ((first | (apply H.ar;(iterate 4 exact rfl)) | (apply H.Bh;(iterate 2 exact rfl)));(first | (with_reducible apply zaw;omega) | (with_reducible apply zav;omega) | (with_reducible apply zax;omega) | (with_reducible apply wr_i64;omega) | (with_reducible apply wr_u64;omega) | (with_reducible apply wr_u8;omega) | (with_reducible apply wr_u16;omega) | rfl);exact rfl)
   | (apply H.pass;(iterate 2 exact rfl))
   | (apply H.pass0;exact rfl)
   | (apply H.Cd;(iterate 4 exact rfl))
   | ((first | apply H.Br | apply H.Cc | apply H.not | apply H.Cn);(iterate 4 exact rfl))
   | ((first | apply H.Co | apply H.Cm);(iterate 5 exact rfl))
   | (apply H.Az;(iterate 4 exact rfl);(repeat (first | exact .here _ _ _ | apply At.there));(repeat (first | exact .here _ _ _ | apply SetV.there)))
   | (apply H.Cl;exact rfl)
   | (apply H.Cj;exact rfl)
   | (first | apply H.Bo | apply H.ret | apply H.Ca | apply H.Bw | apply H.exit | apply H.Bk | apply H.Bq | apply H.Bs | apply H.Bz | apply H.By | apply H.Bu)
   | (apply H.Cr;exact rfl)
   | (apply H.gyes;(iterate 3 exact rfl);(first | assumption | omega))
   | (apply H.gno;(iterate 3 exact rfl);(first | assumption | omega))
   | (apply H.Ck;exact rfl;(first | assumption | omega))
   | (apply H.Ci;exact rfl;(first | assumption | omega))
   | ((first | apply H.gtrue);(iterate 3 exact rfl);assumption)
   | (apply H.gfalse;(iterate 3 exact rfl);assumption)
   | (apply H.cond_t;exact rfl;assumption)
   | (apply H.cond_f;exact rfl;assumption) )
  refine H.regionY ?_;refine H.inOp (by with_reducible (repeat (first | exact zau | exact zan | exact zae | exact zag | refine zam ?_ | refine zaf ?_ | refine zaj ?_ | refine zai ?_ | refine zat ?_))) ?_;refine qhX ?_;refine H.inOp (by with_reducible (repeat (first | exact zau | exact zan | exact zae | exact zag | refine zam ?_ | refine zaf ?_ | refine zaj ?_ | refine zai ?_ | refine zat ?_))) ?_;refine qhX ?_;refine H.inOp (by with_reducible (repeat (first | exact zau | exact zan | exact zae | exact zag | refine zam ?_ | refine zaf ?_ | refine zaj ?_ | refine zai ?_ | refine zat ?_))) ?_;refine gF ?_;refine H.Cb ?_;refine H.inOp (by with_reducible (repeat (first | exact zau | exact zan | exact zae | exact zag | refine zam ?_ | refine zaf ?_ | refine zaj ?_ | refine zai ?_ | refine zat ?_))) ?_;refine qhX ?_;refine H.inOp (by with_reducible (repeat (first | exact zau | exact zan | exact zae | exact zag | refine zam ?_ | refine zaf ?_ | refine zaj ?_ | refine zai ?_ | refine zat ?_))) ?_;refine H.Ag (i:=k) rfl rfl rfl rfl (by omega) rfl ?_;refine gA ?_;refine H.Cb ?_;refine H.inOp (by with_reducible (repeat (first | exact zau | exact zan | exact zae | exact zag | refine zam ?_ | refine zaf ?_ | refine zaj ?_ | refine zai ?_ | refine zat ?_))) ?_;refine H.Ab rfl rfl rfl (rd_uV (by repeat constructor) hv) rfl ?_;refine gA ?_;refine H.Cb ?_;refine H.yield rfl rfl rfl rfl (hy _) fun u f' A' hR=>?_;obtain ⟨rfl,hff,rfl⟩:=hR;rw [hff];clear hff
  cases hct:ct v with
  | true =>
   rw [if_pos rfl];refine H.inOp (by with_reducible (repeat (first | exact zau | exact zan | exact zae | exact zag | refine zam ?_ | refine zaf ?_ | refine zaj ?_ | refine zai ?_ | refine zat ?_))) ?_;refine qgi ?_;refine gA ?_;refine H.Cb ?_;refine H.inNil ?_;refine gU ?_;refine H.ag k ⟨by omega,fun j x hj hx=>?_⟩ (by show k < k + 1;omega);by_cases e:j = k
   ·subst e;rw [hv] at hx;cases hx;exact hct
   ·exact hb j x (by omega) hx
  | false =>
   rw [if_neg (by decide)];refine H.inOp (by with_reducible (repeat (first | exact zau | exact zan | exact zae | exact zag | refine zam ?_ | refine zaf ?_ | refine zaj ?_ | refine zai ?_ | refine zat ?_))) ?_;refine qgZ ?_;refine gA ?_;refine H.Cb ?_;refine H.inNil ?_;refine gD ?_;exact H.ret0 rfl (fun _ h=>h) ⟨rfl,by rw [backO_stop hv hct fun j x hj hx=>hb j x (by omega) hx]⟩
 ·skip;refine gW ?_;exact H.end0 rfl (fun _ h=>h) ⟨rfl,by rw [backO_all fun j x hx=>hb j x (by omega) hx]⟩
def ctE (l:Lgs) (o:Nat) (v:Int):Bool:=decide (¬ v < dyG l o ∧ v ≠ 0) && (!(dyV l o v).isSome && primB l.n o v)
def exE (l:Lgs) (o:Nat) (v:Int):Bool:=!decide (¬ v < dyG l o ∧ v ≠ 0) || (dyV l o v).isSome
def stE (l:Lgs) (o:Nat) (v:Int):Option Code:=if ctE l o v = true then none else if exE l o v = true then some (.exit 0) else some .ret
def anE (l:Lgs) (o:Nat) (v:Int):Bod × Bool:=if ctE l o v = true then sayZ else if exE l o v = true then sayZ else (bodW 5 v 0,true)
def jE (l:Lgs) (o:Nat):Option Int→Option Code
 | none=>none
 | some v=>stE l o v
def aE (l:Lgs) (o:Nat):Option Int→Bod × Bool
 | none=>sayZ
 | some v=>anE l o v
theorem entV_find (l:Lgs) (o:Nat):∀ xs:List Int,entV l.n o (dyG l o) (fun v=>(dyV l o v).isSome) xs = (match xs.find? (fun v=>!ctE l o v) with
  | none=>none
  | some v=>if exE l o v = true then none else some v)
 | []=>rfl
 | v :: r => by
  have ih:=entV_find l o r
  unfold entV
  rw [List.find?_cons]
  by_cases h1:v < dyG l o
  ·have e:ctE l o v = false:=by unfold ctE;rw [decide_eq_false (fun h=>h.1 h1)];rfl
   have e2:exE l o v = true:=by unfold exE;rw [decide_eq_false (fun h=>h.1 h1)];rfl
   rw [if_pos h1,e]
   simp only [Bool.not_false,e2,if_true]
  ·by_cases h2 : v = 0
   ·have e:ctE l o v = false:=by unfold ctE;rw [decide_eq_false (fun h=>h.2 h2)];rfl
    have e2:exE l o v = true:=by unfold exE;rw [decide_eq_false (fun h=>h.2 h2)];rfl
    rw [if_neg h1,if_pos h2,e]
    simp only [Bool.not_false,e2,if_true]
   ·rw [if_neg h1,if_neg h2]
    have hd:decide (¬ v < dyG l o ∧ v ≠ 0) = true:=decide_eq_true ⟨h1,h2⟩
    cases h3:(dyV l o v).isSome with
    | true =>
     have e:ctE l o v = false:=by unfold ctE;rw [hd,h3];rfl
     have e2:exE l o v = true:=by unfold exE;rw [h3,Bool.or_true]
     rw [if_pos rfl,e]
     simp only [Bool.not_false,e2,if_true]
    | false =>
     rw [if_neg (by decide)]
     cases h4:primB l.n o v with
     | true =>
      have e:ctE l o v = true:=by unfold ctE;rw [hd,h3,h4];rfl
      rw [if_pos rfl,e]
      exact ih
     | false =>
      have e:ctE l o v = false:=by unfold ctE;rw [hd,h3,h4];rfl
      have e2:exE l o v = false:=by unfold exE;rw [hd,h3];rfl
      rw [if_neg (by decide),e]
      simp only [Bool.not_false,e2,Bool.false_eq_true,if_false]
theorem denter_fn (hfl:Le fl f) (hL:LI l T) (hT:T ≤ 254) (ho:o < l.n) :
  Fn Tryz.prog 98 [.pointer (some ⟨xb,0,none⟩)] f (row xb 146 (lkC lb l.n o pp pl pc wish (dyG l o) (dyN l o) ((dyV l o (dyG l o)).getD 0))::plogH fl lb l::F) (NxP f (row xb 146 (lkC lb l.n o pp pl pc wish (dyG l o) (dyN l o) ((dyV l o (dyG l o)).getD 0))::plogH fl lb l::F) (sayE l o)):=by
 have hn:=hL.n3;have hvl:=hL.vl
 have hU0:0 < (viewsU l).length:=by obtain ⟨w,hw,_⟩:=hL.zero;unfold viewsU;rw [List.length_map];exact List.length_pos_of_mem hw
 have hUl:(viewsU l).length ≤ 255:=by unfold viewsU;rw [List.length_map];omega
 have hva:=fun G=>plviews_fn f G (fl:=fl) (lb:=lb) hL hT;have hvo:=fun G v=>plvoted_fn f G hfl (lb:=lb) (l:=l) (by omega) (o:=o) ho (r:=((o + 1:Nat):Int)) (v:=v) rfl
 have hvo:∀ G v,Fn Tryz.prog 19 [.pointer (some ⟨lb,0,none⟩),.int .i64 ((o + 1:Nat):Int),.int .u64 v] f (plogH fl lb l::G) (Ret (.tuple #[.int .i64 ((dyV l o v).getD 0),.bool (dyV l o v).isSome]) f (plogH fl lb l::G)):=hvo
 have hge:∀ w ∈ viewsU l,0 ≤ w:=fun w hw=>by
  obtain ⟨x,hx,rfl⟩:=List.mem_map.1 hw;by_cases e:x.v = 0
  ·omega
  ·obtain ⟨p,hp,e2⟩:=hL.begun x hx e
   have hpl:primI l.n x.v < l.n:=by
    exact qdd
   have:=((hL.wf _ hpl).low p hp).1;omega
 have hpr:=fun G v hv=>dprim_fn f G (xb:=xb) (lb:=lb) (o:=o) (l:=l) (pp:=pp) (pl:=pl) (pc:=pc) (wish:=wish) (by omega) (v:=v) hv ho
 have hfct:∀ v,(viewsU l).reverse.find? (fun v=>!ctE l o v) = some v→ctE l o v = false:=fun v h=>by
  have:=List.find?_some h
  cases e:ctE l o v with
  | false=>rfl
  | true=>rw [e] at this;cases this
 have hsay:sayE l o = aE l o ((viewsU l).reverse.find? (fun v=>!ctE l o v)):=by
  unfold sayE dyE;rw [entV_find]
  cases h:(viewsU l).reverse.find? (fun v=>!ctE l o v) with
  | none=>rfl
  | some v =>
   show _ = anE l o v;unfold anE;rw [hfct v h,if_neg (by decide)];by_cases h2:exE l o v = true
   ·simp only [h2,if_true]
   ·simp only [h2,if_false,Bool.false_eq_true]
 rw [hsay];clear hsay;have hct:∀ v,ctE l o v = (decide (¬ v < dyG l o ∧ v ≠ 0) && (!(dyV l o v).isSome && primB l.n o v)):=fun v=>rfl;have hst:∀ v,stE l o v = if ctE l o v = true then none else if exE l o v = true then some (.exit 0) else some .ret:=fun v=>rfl
 have han:∀ v,anE l o v = if ctE l o v = true then sayZ else if exE l o v = true then sayZ else (bodW 5 v 0,true):=fun v=>rfl
 have hex:∀ v,exE l o v = (!decide (¬ v < dyG l o ∧ v ≠ 0) || (dyV l o v).isSome):=fun v=>rfl;generalize (dyV l o (dyG l o)).getD 0 = vo at *
 generalize dyN l o = en at *;generalize dyG l o = g at *;obtain ⟨U,hU⟩:∃ U,U = viewsU l:=⟨_,rfl⟩;rw [← hU] at hU0 hUl hge hfct ⊢;obtain ⟨r,hr⟩:∃ r,r = U.reverse.find? (fun v=>!ctE l o v):=⟨_,rfl⟩;rw [← hr] at hfct ⊢;refine Fn.enterM Tryz.func98 rfl Tryz.ntmps98 rfl (L:=[(0,_)]) ⟨rfl,trivial⟩ fun base=>?_;refine gA ?_;refine H.box (ls:=[.pointer (some ⟨xb,0,none⟩)]) rfl rfl rfl rfl fun bb=>?_;refine qds fun ob=>?_;refine H.Aj (ls:=[.bool false]) rfl rfl rfl fun eb=>?_;refine gF ?_;refine qef ?_;refine H.cl (hva _) fun v f' A' hR=>?_;obtain ⟨np,nc,rfl,hff,rfl⟩:=hR;rw [hff,← hU];clear hff hU hva;refine H.Aw (p:=np) (n0:=U.length) (c:=nc) (T:=31) (sz:=1) (xs:=U.flatMap uV) (.here _ _ _) hU0 fun nb hnb=>?_;subst hnb;refine gM ?_;refine H.callE rfl rfl rfl (backw_fn f _) fun b=>?_;refine gV ?_;refine H.sb [(15,.func (.func 180) #[] #[.pointer (some ⟨b,0,none⟩)]),(3,.pointer (some ⟨eb,0,none⟩)),(2,.pointer (some ⟨ob,0,none⟩)),(1,.pointer (some ⟨bb,0,none⟩))] ?_;refine H.pf (x:=slc (some ⟨nb,0,none⟩) _ nc _ _ _) ?_;refine H.pf (x:=row b _ _) ?_;refine qef ?_;refine qdM ?_;refine qep ?_;refine qgI ?_;refine qfz ?_;refine H.rangeFuncJE (f':=f) (fs:=[]) (cs:=[.pointer (some ⟨b,0,none⟩)]) rfl rfl fun LJ hLJ=>⟨jE l o r,fun D=>pts D (.deferred (some []))::row ob 47 ((aE l o r).1.vals none 0)::row eb 4 [.bool (aE l o r).2]::row bb 144 [.pointer (some ⟨xb,0,none⟩)]::row xb 146 (lkC lb l.n o pp pl pc wish g en vo)::plogH fl lb l::row b 63 [.slice (some ⟨nb,0,none⟩) U.length nc]::slc (some ⟨nb,0,none⟩) U.length nc 31 1 (U.flatMap uV)::F,fun D lp=>?_,fun D=>?_⟩
 ·obtain ⟨Kx,hKx⟩:∃ Kx:Option Code→Bod × Bool→HP,Kx = fun J a=>stars [LJ D lp J,pts D (.deferred (some [])),row ob 47 (a.1.vals none 0),row eb 4 [.bool a.2],row bb 144 [.pointer (some ⟨xb,0,none⟩)],row xb 146 (lkC lb l.n o pp pl pc wish g en vo),plogH fl lb l]:=⟨_,rfl⟩;refine Fn.wrap (A1:=Kx none sayZ::row b 63 [.slice (some ⟨nb,0,none⟩) U.length nc]::slc (some ⟨nb,0,none⟩) U.length nc 31 1 (U.flatMap uV)::F) (by rw [hKx];exact pack_all [_,_,_,_,_,_,_] _) (backw1_fn f F (lp:=lp) (b:=b) (sb:=nb) (c:=nc) (xs:=U) (by omega) hU0 (I:=Kx none sayZ) (ct:=ctE l o) (Ψ:=fun v=>Kx (stE l o v) (anE l o v)) fun k v hv G=>?_) fun v g B hR=>?_
  ·have hv0:=hge v (List.mem_of_getElem? hv)
   have hif:(if ctE l o v = true then Kx none sayZ else Kx (stE l o v) (anE l o v)) = Kx (stE l o v) (anE l o v):=by
    cases e:ctE l o v with
    | true=>rw [if_pos rfl,hst,han,e,if_pos rfl,if_pos rfl]
    | false=>rw [if_neg (by decide)]
   rw [hif];clear hif;refine YieldFn.wrap (R1:=fun u e B=>u = .bool (ctE l o v) ∧ e = f ∧ B = LJ D lp (stE l o v)::pts D (.deferred (some []))::row ob 47 ((anE l o v).1.vals none 0)::row eb 4 [.bool (anE l o v).2]::row bb 144 [.pointer (some ⟨xb,0,none⟩)]::row xb 146 (lkC lb l.n o pp pl pc wish g en vo)::plogH fl lb l::G) (by rw [hKx];exact open_all _ _) ?_ ?_
   ·rw [hst, han];have hex := hex v;have hct := hct v
    have hvo:=fun G=>hvo G v;have hpr:=fun G=>hpr G v hv0
    clear hKx hst han hfct hge hr;subst hLJ;show YieldFn _ _ _ _ (loopH _ _ _ _ _ _ _ _::_) _;by_cases h1:v < g
    ·rw [decide_eq_false (fun h=>h.1 h1)] at hex hct;rw [hct,hex];refine qhT fun base=>?_;refine qej ?_;repeat (first | (first | (first | apply H.seqR | apply H.thenR | apply H.blockR) | (apply H.Ch;exact rfl;exact (by with_reducible (repeat (first | exact zau | exact zan | exact zae | exact zag | refine zam ?_ | refine zaf ?_ | refine zaj ?_ | refine zai ?_ | refine zat ?_)))) | (apply H.Cv;exact rfl)) | (first | ((first | apply H.Ao | apply H.Ay);(iterate 3 exact rfl)) | (apply H.Bi;(iterate 3 exact rfl);exact inferInstance;exact rfl) | (apply H.Ab;(iterate 3 exact rfl);apply Rd1.ofRow;(repeat (first | exact .here _ _ _ | apply At.there));(iterate 2 exact rfl)) | (apply H.nil) | ((apply H.cmp);(iterate 5 exact rfl)) | (apply H.pass;(iterate 2 exact rfl)) | (apply H.Cd;(iterate 4 exact rfl)) | (apply H.gyes;(iterate 3 exact rfl);(assumption))))
     exact qaD
    ·by_cases h2 : v = 0
     ·rw [decide_eq_false (fun h=>h.2 h2)] at hex hct;rw [hct,hex];refine qhT fun base=>?_;refine qej ?_;repeat (first | (first | (first | apply H.seqR | apply H.thenR | apply H.blockR) | (apply H.Ch;exact rfl;exact (by with_reducible (repeat (first | exact zau | exact zan | exact zae | exact zag | refine zam ?_ | refine zaf ?_ | refine zaj ?_ | refine zai ?_ | refine zat ?_)))) | (apply H.Cy;exact rfl;(assumption))) | (first | ((first | apply H.Ao | apply H.Ay);(iterate 3 exact rfl)) | (apply H.Bi;(iterate 3 exact rfl);exact inferInstance;exact rfl) | (apply H.Ab;(iterate 3 exact rfl);apply Rd1.ofRow;(repeat (first | exact .here _ _ _ | apply At.there));(iterate 2 exact rfl)) | (apply H.nil) | ((apply H.cmp);(iterate 5 exact rfl)) | ((apply H.Br);(iterate 4 exact rfl)) | (apply H.gno;(iterate 3 exact rfl);(assumption))))
      exact qaD
     ·rw [decide_eq_true (show ¬ v < g ∧ v ≠ 0 from ⟨h1,h2⟩)] at hex hct
      cases hvs:dyV l o v with
      | some z =>
       rw [hvs] at hvo hex hct;rw [hct,hex];refine qhT fun base=>?_;refine qdq ?_;refine H.drawBR (by kernel_rfl) (by decide +kernel) (by with_reducible (repeat (first | exact blind_round | refine blind_seqR ?_ | refine zak ?_))) rfl (by with_reducible (repeat (first | exact zau | exact zan | exact zae | exact zag | refine zam ?_ | refine zaf ?_ | refine zaj ?_ | refine zai ?_ | refine zat ?_))) (S:=[_,_]) rfl ?_;refine HB.qu [0,1,2,3,4,5,6,7,8] 6 ?_;refine qex ?_;refine qgA ?_;repeat (first | (first | (first | apply H.seqR | apply H.thenR) | (apply H.Ch;exact rfl;exact (by with_reducible (repeat (first | exact zau | exact zan | exact zae | exact zag | refine zam ?_ | refine zaf ?_ | refine zaj ?_ | refine zai ?_ | refine zat ?_)))) | (apply H.Cv;exact rfl)) | (first | ((apply H.Ao);(iterate 3 exact rfl)) | (apply H.nil)))
       exact qaD
      | none =>
       rw [hvs] at hvo hex hct
       cases hpv:primB l.n o v with
       | true =>
        rw [hpv] at hpr hct;rw [hct,hex];refine qhT fun base=>?_;refine qdq ?_;refine H.drawBR (by kernel_rfl) (by decide +kernel) (by with_reducible (repeat (first | exact blind_round | refine blind_seqR ?_ | refine zak ?_))) rfl (by with_reducible (repeat (first | exact zau | exact zan | exact zae | exact zag | refine zam ?_ | refine zaf ?_ | refine zaj ?_ | refine zai ?_ | refine zat ?_))) (S:=[_,_]) rfl ?_;refine HB.qu [0,1,2,3,4,5,6,7,8] 6 ?_;refine qex ?_;refine qdR ?_;refine qgi ?_;repeat (first | (first | (first | apply H.thenR | apply H.skipR) | (apply H.Cw;exact rfl)) | (first | (apply H.nil) | (apply H.Bq)))
        skip;refine qfR ?_;exact H.endRound ⟨rfl,rfl,rfl⟩
       | false =>
        rw [hpv] at hpr hct;rw [hct,hex];refine qhT fun base=>?_;refine qdq ?_;refine H.drawBR (by kernel_rfl) (by decide +kernel) (by with_reducible (repeat (first | exact blind_round | refine blind_seqR ?_ | refine zak ?_))) rfl (by with_reducible (repeat (first | exact zau | exact zan | exact zae | exact zag | refine zam ?_ | refine zaf ?_ | refine zaj ?_ | refine zai ?_ | refine zat ?_))) (S:=[_,_]) rfl ?_;refine HB.qu [0,1,2,3,4,5,6,7,8] 6 ?_;refine qex ?_;refine qdR ?_;refine qgZ ?_;repeat (first | (first | (first | apply H.seqR | apply H.thenR) | (apply H.Ch;exact rfl;exact (by with_reducible (repeat (first | exact zau | exact zan | exact zae | exact zag | refine zam ?_ | refine zaf ?_ | refine zaj ?_ | refine zai ?_ | refine zat ?_)))) | (apply H.Cv;exact rfl)) | (first | ((apply H.Ao);(iterate 3 exact rfl)) | (apply H.nil) | ((apply H.Am);(iterate 5 exact rfl))))
        refine H.Af (ls:=(Bod.zero 0).vals none 0) (vs:=(bodW 5 v 0).vals none 0) (ls':=(bodW 5 v 0).vals none 0) rfl rfl rfl (zaa rfl) rfl rfl (Nat.le_refl 76) (by repeat constructor) ?_;repeat (first | (apply H.thenR) | (first | (apply H.nil) | (apply H.Az;(iterate 4 exact rfl);(repeat (first | exact .here _ _ _ | apply At.there)))))
        repeat (first | apply H.retR | apply H.Bs)
        refine qfR ?_;exact H.endRoundR ⟨rfl,rfl,rfl⟩
   ·rintro u g B ⟨rfl,rfl,rfl⟩;exact ⟨_,⟨rfl,rfl,rfl⟩,by rw [hKx];exact pack_all [_,_,_,_,_,_,_] G⟩
  ·obtain ⟨rfl,rfl⟩:=hR;refine ⟨_,⟨rfl,rfl⟩,?_⟩
   have e:backO (Kx none sayZ) (ctE l o) (fun v=>Kx (stE l o v) (anE l o v)) U = Kx (jE l o r) (aE l o r):=by
    subst hr;unfold backO;cases U.reverse.find? (fun v=>!ctE l o v) <;> rfl
   rw [e,hKx];exact open_all [_,_,_,_,_,_,_] _
 ·cases r with
  | none =>
   show H _ _ _ _ _ (pts D _::row ob _ ((Bod.zero 0).vals none 0)::row eb _ [.bool false]::row bb _ _::row xb _ _::_) (.out .normal _);exact qaA
  | some v =>
   have hcf:=hfct v rfl;have hst:=hst v
   have han:=han v;rw [hcf,if_neg (by decide)] at hst han
   cases hev:exE l o v with
   | true =>
    rw [hev,if_pos rfl] at hst han;show H _ _ _ _ _ (pts D _::row ob _ ((anE l o v).1.vals none 0)::row eb _ [.bool (anE l o v).2]::_) (jumpK _ (stE l o v));have han':aE l o (some v) = sayZ:=han;rw [hst,han,han']
    show H _ _ _ _ _ (pts D _::row ob _ ((Bod.zero 0).vals none 0)::row eb _ [.bool false]::row bb _ _::row xb _ _::_) (.code (.exit 0) _);exact qaA
   | false =>
    rw [hev,if_neg (by decide)] at hst han;show H _ _ _ _ _ (pts D _::row ob _ ((anE l o v).1.vals none 0)::row eb _ [.bool (anE l o v).2]::_) (jumpK _ (stE l o v));have han':aE l o (some v) = (bodW 5 v 0,true):=han;rw [hst,han,han']
    show H _ _ _ _ _ (pts D _::row ob _ ((bodW 5 v 0).vals none 0)::row eb _ [.bool true]::row bb _ _::row xb _ _::_) (.code .ret _);refine gV ?_;refine H.pd (x:=row b _ _) ?_;refine H.pd (x:=row bb _ _) ?_;refine H.pd (x:=slc (some ⟨nb,0,none⟩) _ nc _ _ _) ?_;refine qef ?_;refine qdM ?_;refine qgI ?_;refine qfz ?_;refine H.pf (x:=pts D _) ?_;exact H.retMkCC (ls:=(bodW 5 v 0).vals none 0) (x:=.bool true) rfl rfl rfl rfl rfl rfl (.here _ _) (Rd.ofRow (.here _ _ _)) rfl (Rd1.ofRow (.there _ (.here _ _ _)) rfl) (fun _ s=>(s.drop (.here _ _)).drop (.here _ _)) ⟨nil0,none,0,Dj.nil _,rfl,QAt.nil _ _,(un_nil _).symm,rfl⟩
end
def sayR (l:Lgs) (o:Nat) (pend:List Req) (wish:Int):Nat→Bod × Bool
 | 0=>sayC l o wish
 | 1=>sayN l o
 | 2=>sayE l o
 | 3=>sayP l o pend
 | _=>sayK l o
variable {j:Nat}
theorem sayX_pick (hj:j < 5) (hb:∀ i,i < j→(sayR l o pend wish i).2 = false) (h:(sayR l o pend wish j).2 = true):sayX l o pend wish = sayR l o pend wish j:=by
 have no:∀ i,i < j→∀ x,orS (sayR l o pend wish i) x = x:=fun i hi x=>by unfold orS;rw [hb i hi,if_neg (by decide)]
 have yes:∀ x,orS (sayR l o pend wish j) x = sayR l o pend wish j:=fun x=>by unfold orS;rw [if_pos h]
 refine qhM ?_
 match j,hj with
 | 0,_=>exact yes _
 | 1,_=>rw [no 0 (by omega)];exact yes _
 | 2,_=>rw [no 0 (by omega),no 1 (by omega)];exact yes _
 | 3,_=>rw [no 0 (by omega),no 1 (by omega),no 2 (by omega)];exact yes _
 | 4,_=>rw [no 0 (by omega),no 1 (by omega),no 2 (by omega),no 3 (by omega)];exact yes _
theorem sayX_none (hb:∀ i,i < 5→(sayR l o pend wish i).2 = false):sayX l o pend wish = sayZ:=by
 have no:∀ i,i < 5→∀ x,orS (sayR l o pend wish i) x = x:=fun i hi x=>by unfold orS;rw [hb i hi,if_neg (by decide)]
 refine qhM ?_;rw [no 0 (by omega),no 1 (by omega),no 2 (by omega),no 3 (by omega),no 4 (by omega)]
def ruV:List Value:=[.func (.func 96) #[] #[],.func (.func 97) #[] #[],.func (.func 98) #[] #[],.func (.func 99) #[] #[],.func (.func 100) #[] #[]]
section
variable (f:Frag) (F:List HP)
theorem rules_fn:Fn Tryz.prog 66 [] f F (Ret (.agg ruV.toArray) f F):=by
 refine Fn.e0 Tryz.func66 Tryz.ntmps66 fun base=>?_;refine gA ?_;refine H.Aj (ls:=[.nilFunc,.nilFunc,.nilFunc,.nilFunc,.nilFunc]) rfl rfl rfl fun ob=>?_;repeat (first | (refine H.buildA (t:=149) (out:=ruV) rfl rfl rfl (by kernel_rfl) rfl ?_) | (refine gg ?_))
 refine H.Af (ls:=[.nilFunc,.nilFunc,.nilFunc,.nilFunc,.nilFunc]) (vs:=ruV) (ls':=ruV) rfl rfl rfl (zaa rfl) rfl rfl (Nat.le_refl 5) (.here _ _ _) ?_;refine gV ?_;exact H.Bb (ls:=ruV) rfl rfl rfl (Rd.ofRow (.here _ _ _)) rfl (fun _ s=>s.drop (.here _ _)) ⟨rfl,rfl,rfl⟩
theorem dnext_fn (htab:TabAt f) (hfl:Le fl f) (hL:LI l T) (hT:T ≤ 254) (hodd:l.n % 2 = 1) (ho:o < l.n) (hp:ListAt f pp 40 Req.vals pend) (hpl:pend.length ≤ 1000000) :
  Fn Tryz.prog 33 [.pointer (some ⟨lb,0,none⟩),.int .i64 (l.n:Int),.int .i64 ((o + 1:Nat):Int),.slice pp pend.length pc,.int .u64 wish] f (plogH fl lb l::F) (NxP f (plogH fl lb l::F) (sayX l o pend wish)):=by
 have hn:=hL.n3;have hgr:=fun G=>plgreat_fn f G hfl (lb:=lb) (l:=l) (by omega) (o:=o) ho (r:=((o + 1:Nat):Int)) rfl
 have hvo:=fun G=>plvoted_fn f G hfl (lb:=lb) (l:=l) (by omega) (o:=o) ho (r:=((o + 1:Nat):Int)) (v:=dyG l o) rfl;have hgr:∀ G,Fn Tryz.prog 40 [.pointer (some ⟨lb,0,none⟩),.int .i64 ((o + 1:Nat):Int)] f (plogH fl lb l::G) (Ret (.int .u64 (dyG l o)) f (plogH fl lb l::G)):=hgr
 have hvo:∀ G,Fn Tryz.prog 19 [.pointer (some ⟨lb,0,none⟩),.int .i64 ((o + 1:Nat):Int),.int .u64 (dyG l o)] f (plogH fl lb l::G) (Ret (.tuple #[.int .i64 ((dyV l o (dyG l o)).getD 0),.bool (dyN l o)]) f (plogH fl lb l::G)):=hvo
 have hru:∀ (xb j:Nat),j < 5→∃ fid,Fun Tryz.prog fid ∧ ruV[j]? = some (.func (.func fid) #[] #[]) ∧ ∀ G,Fn Tryz.prog fid ([] ++ [.pointer (some ⟨xb,0,none⟩)] ++ []) f (row xb 146 (lkC lb l.n o pp pend.length pc wish (dyG l o) (dyN l o) ((dyV l o (dyG l o)).getD 0))::plogH fl lb l::G) (NxP f (row xb 146 (lkC lb l.n o pp pend.length pc wish (dyG l o) (dyN l o) ((dyV l o (dyG l o)).getD 0))::plogH fl lb l::G) (sayR l o pend wish j)):=fun xb j hj=>by
  match j,hj with
  | 0,_=>exact ⟨96,inferInstance,rfl,fun G=>dchange_fn f _⟩
  | 1,_=>exact ⟨97,inferInstance,rfl,fun G=>dnew_fn f G hfl hL (by omega) ho⟩
  | 2,_=>exact ⟨98,inferInstance,rfl,fun G=>denter_fn f G hfl hL hT ho⟩
  | 3,_=>exact ⟨99,inferInstance,rfl,fun G=>dprep_fn f G htab hL ho hp hpl⟩
  | 4,_=>exact ⟨100,inferInstance,rfl,fun G=>dcommit_fn f G hL (by omega) ho⟩
 have hpick:=fun j hj hb h=>sayX_pick (l:=l) (o:=o) (pend:=pend) (wish:=wish) (j:=j) hj hb h;have hnone:=sayX_none (l:=l) (o:=o) (pend:=pend) (wish:=wish)
 generalize (dyV l o (dyG l o)).getD 0 = vo at *;generalize dyN l o = en at *;generalize dyG l o = g at *;refine Fn.e5 Tryz.func33 Tryz.ntmps33 fun base=>?_;refine gA ?_;refine qds fun ob=>?_;refine gM ?_;refine H.Ah rfl rfl rfl (dfew_fn f _ (by omega) hodd ho) ?_;refine gO ?_;refine qef ?_;refine H.cr (hgr _) ?_;repeat ((refine H.Am (t:=146) (out:=lkC lb l.n o pp pend.length pc wish g false 0) rfl rfl rfl (by kernel_rfl) rfl ?_))
 refine H.box (ls:=lkC lb l.n o pp pend.length pc wish g false 0) rfl rfl rfl rfl fun xb=>?_;refine gF ?_;refine qef ?_;refine H.cr (hvo _) ?_;refine gZ ?_;refine H.Ah rfl rfl rfl (rules_fn f _) ?_;refine gV ?_;refine qef ?_;refine qdM ?_
 refine H.lo (ι:=Nat) (fun j=>[(50,.int .i64 (j:Int)),(49,.agg ruV.toArray),(12,.pointer (some ⟨xb,0,none⟩)),(11,.bool false),(10,.pointer (some ⟨ob,0,none⟩))]) (fun _=>f)
  (fun _=>row xb 146 (lkC lb l.n o pp pend.length pc wish g en vo)::plogH fl lb l::row ob 47 ((Bod.zero 0).vals none 0)::F) (fun j=>j ≤ 5 ∧ ∀ i,i < j→(sayR l o pend wish i).2 = false) (fun j=>5 - j)
  0 ⟨by omega,fun i hi=>by omega⟩ fun j hj=>?_
 obtain ⟨hj,hb⟩:j ≤ 5 ∧ ∀ i,i < j→(sayR l o pend wish i).2 = false:=hj;by_cases hj5:j < 5
 ·obtain ⟨fid,hfun,hfv,hrule⟩:=hru xb j hj5;have hpick:=hpick j hj5 hb;refine gG ?_
  refine H.indexV (i:=j) (xs:=ruV) rfl rfl rfl rfl hj5 rfl hfv rfl ?_;refine gM ?_;refine H.callV (fs:=[]) (cs:=[]) rfl rfl rfl rfl (hrule _) fun v f' A' hR=>?_;obtain ⟨gq,p,c,hd,rfl,hq,rfl,rfl⟩:=hR
  have hsj:∀ t,(sayR l o pend wish j).2 = t→∀ i,i < j + 1→t = false→(sayR l o pend wish i).2 = false:=fun t ht i hi e=>by
   by_cases e2:i = j
   ·rw [e2,ht,e]
   ·exact hb i (by omega)
  generalize sayR l o pend wish j = r at *;obtain ⟨b,t⟩:=r;refine gZ ?_;refine qds fun tb=>?_;refine H.Af (ls:=(Bod.zero 0).vals none 0) (vs:=b.vals p c) (ls':=b.vals p c) rfl rfl rfl (zaa rfl) rfl rfl (Nat.le_refl 76) (.here _ _ _) ?_
  cases t with
  | false =>
   refine gU ?_;refine qdN ?_;refine H.weakL (Le.un f gq) ?_;exact H.ag (j + 1) ⟨by show j + 1 ≤ 5;omega,fun i hi=>hsj false rfl i hi rfl⟩ (by show 5 - (j + 1) < 5 - j;omega)
  | true =>
   rw [hpick rfl];refine gD ?_;refine H.Ae (ls:=b.vals p c) rfl rfl rfl (Rd.ofRow (.here _ _ _)) rfl rfl ?_;refine H.Af (ls:=(Bod.zero 0).vals none 0) (vs:=b.vals p c) (ls':=b.vals p c) rfl rfl rfl (zaa rfl) rfl rfl (Nat.le_refl 76) (by repeat constructor) ?_;refine qfJ ?_;refine qdN ?_;refine qfz ?_;exact H.Ce (ls:=b.vals p c) rfl rfl rfl rfl (Rd.ofRow (.here _ _ _)) rfl (fun _ s=>s.drop (.here _ _)) ⟨gq,p,c,hd,rfl,hq,rfl,rfl⟩
 ·rw [hnone fun i hi=>hb i (by omega)];refine qdI ?_;refine qdN ?_;refine qfz ?_;exact qbW
end
def othG (l:Lgs) (o:Nat):Nat→List Int
 | 0=>[]
 | r + 1=>if r = o then othG l o r else othG l o r ++ [dyG l r]
theorem othG_len (l:Lgs) (o:Nat):∀ r,(othG l o r).length + (if o < r then 1 else 0) = r
 | 0=>rfl
 | r + 1 => by
  have ih:=othG_len l o r
  show (if r = o then othG l o r else othG l o r ++ [dyG l r]).length + _ = _
  by_cases e:r = o
  ·rw [if_pos e,if_pos (by omega)];rw [if_neg (by omega)] at ih;omega
  ·rw [if_neg e,List.length_append]
   show _ + 1 + _ = _
   by_cases h:o < r
   ·rw [if_pos h] at ih;rw [if_pos (by omega)];omega
   ·rw [if_neg h] at ih;rw [if_neg (by omega)];omega
def JV (l:Lgs) (o:Nat) (z:Int):Prop:=∃ s:List Int,s.Perm (othG l o l.n) ∧ s.Pairwise (· ≤ ·) ∧ s[l.n / 2 - 1]? = some z
variable {z:Int}
theorem JV.mem (h:JV l o z):z ∈ othG l o l.n:=by
 obtain ⟨s,h1,_,h3⟩:=h;exact h1.mem_iff.1 (List.mem_of_getElem? h3)
theorem othG_mem {l:Lgs} {o:Nat} {z:Int}:∀ {r},z ∈ othG l o r→∃ i,i < r ∧ i ≠ o ∧ z = dyG l i
 | 0,h=>by cases h
 | r + 1, h => by
  have h:z ∈ (if r = o then othG l o r else othG l o r ++ [dyG l r]):=h
  split at h
  ·obtain ⟨i,h1,h2⟩:=othG_mem h;exact ⟨i,by omega,h2⟩
  ·rename_i hne
   rcases List.mem_append.1 h with h | h
   ·obtain ⟨i,h1,h2⟩:=othG_mem h;exact ⟨i,by omega,h2⟩
   ·exact ⟨r,by omega,hne,List.mem_singleton.1 h⟩
variable {r:Req}
theorem dyP_new (h:r.auth = true):dyP (Lgs.new 3) 0 r = true:=by
 show (r.auth && !holdsB [] r.client r.time) = true;rw [h];rfl
theorem sayX_ex1 (h:r.auth = true):sayX (Lgs.new 3) 0 [r] 0 = (⟨1,0,0,r,[],noTag⟩,true):=by
 have hP:sayP (Lgs.new 3) 0 [r] = (⟨1,0,0,r,[],noTag⟩,true):=by
  show (match [r].find? (dyP (Lgs.new 3) 0) with | none=>sayZ | some r=>((⟨1,0,0,r,[],noTag⟩:Bod),true)) = _;rw [List.find?_cons,dyP_new h]
 rw [sayX_pick (j:=3) (by decide) (fun i hi=>by
  match i,hi with
  | 0,_=>rfl
  | 1,_=>rfl
  | 2,_=>rfl) (by show (sayP (Lgs.new 3) 0 [r]).2 = true;rw [hP])]
 exact hP
theorem sayX_ex2 (r:Req):sayX (Lgs.new 3) 1 [r] 0 = sayZ:=sayX_none fun i hi=>by
 match i,hi with
 | 0,_=>rfl
 | 1,_=>rfl
 | 2,_=>rfl
 | 3,_=>rfl
 | 4,_=>rfl
theorem sayX_ex3:sayX (Lgs.new 3) 1 [] 1 = (bodW 3 1 0,true):=sayX_pick (j:=0) (by decide) (fun i hi=>by omega) rfl
section
variable (f:Frag) (F:List HP)
theorem djoin_fn (hfl:Le fl f) (hn:3 ≤ l.n ∧ l.n ≤ 11) (hodd:l.n % 2 = 1) (ho:o < l.n) :
  Fn Tryz.prog 36 [.pointer (some ⟨lb,0,none⟩),.int .i64 (l.n:Int),.int .i64 ((o + 1:Nat):Int)] f (plogH fl lb l::F) (RetP (JV l o) (fun z=>.int .u64 z) f (fun _=>plogH fl lb l::F)):=by
 have hgr:=fun G r (hr:r < l.n)=>plgreat_fn f G hfl (lb:=lb) (l:=l) (by omega) (o:=r) hr (r:=((r + 1:Nat):Int)) rfl;have hgr:∀ G r (hr:r < l.n),Fn Tryz.prog 40 [.pointer (some ⟨lb,0,none⟩),.int .i64 ((r + 1:Nat):Int)] f (plogH fl lb l::G) (Ret (.int .u64 (dyG l r)) f (plogH fl lb l::G)):=hgr
 have hlen:=othG_len l o;refine Fn.e3 Tryz.func36 Tryz.ntmps36 fun base=>?_
 refine gM ?_;refine H.Ah rfl rfl rfl (dfew_fn f _ hn hodd ho) ?_;refine gO ?_;refine H.slc0 31 1 ?_
 refine H.lo (ι:=Nat × Option Addr × Nat) (fun s=>[(8,.int .i64 ((s.1 + 1:Nat):Int)),(7,.slice s.2.1 (othG l o s.1).length s.2.2),(2,.int .i64 ((o + 1:Nat):Int)),(1,.int .i64 (l.n:Int)),(0,.pointer (some ⟨lb,0,none⟩))]) (fun _=>f)
  (fun s=>slc s.2.1 (othG l o s.1).length s.2.2 31 1 ((othG l o s.1).flatMap uV)::plogH fl lb l::F) (fun s=>s.1 ≤ l.n) (fun s=>l.n - s.1)
  (0,none,0) (Nat.zero_le _) fun s hs=>?_
 obtain ⟨r,qp,qc⟩:=s;have hr:r ≤ l.n:=hs;show H _ _ _ [(8,.int .i64 ((r + 1:Nat):Int)),(7,.slice qp (othG l o r).length qc),_,_,_] f (slc qp (othG l o r).length qc _ 1 ((othG l o r).flatMap uV)::_::F) _
 have hql:=hlen r;by_cases hrn:r < l.n
 ·have h1:=fun G=>hgr G r hrn;by_cases hro:r = o
  ·have hno:othG l o (r + 1) = othG l o r:=if_pos hro;have hz:((r + 1:Nat):Int) = ((o + 1:Nat):Int):=by rw [hro]
   refine gI ?_;refine H.Ar (r + 1,qp,qc) (by show r + 1 ≤ l.n;omega) (by show l.n - (r + 1) < l.n - r;omega) ⟨rfl,by show _ = some (Value.slice qp (othG l o (r + 1)).length qc);rw [hno];rfl,rfl,rfl,rfl,trivial⟩ rfl ?_;show _ = slc qp (othG l o (r + 1)).length qc _ 1 ((othG l o (r + 1)).flatMap uV)::_;rw [hno]
  ·have hyes:othG l o (r + 1) = othG l o r ++ [dyG l r]:=if_neg hro;have hz:¬ ((r + 1:Nat):Int) = ((o + 1:Nat):Int):=by omega
   generalize dyG l r = g at h1 hyes;refine gG ?_;refine qef ?_;refine H.cr (h1 _) ?_;refine H.Au (out:=uV g) rfl rfl rfl rfl (by decide) (by decide) rfl rfl fun eb=>?_;refine H.Ax (sz:=1) (p:=qp) (n0:=(othG l o r).length) (c:=qc) (xs:=(othG l o r).flatMap uV) (m:=1) (news:=uV g) rfl rfl rfl rfl rfl (fun p' c'=>(by repeat constructor)) (Src.slice (Rd.ofRow (by repeat constructor)) rfl) (zaa rfl) rfl (by omega) (by omega) fun p2 c2=>?_;refine gU ?_;refine qfX ?_;refine qef ?_;refine H.pf (x:=slc p2 _ c2 _ _ _) ?_;have hl2:(othG l o (r + 1)).length = (othG l o r).length + 1:=by rw [hyes,List.length_append];rfl
   refine H.Ar (r + 1,p2,c2) (by show r + 1 ≤ l.n;omega) (by show l.n - (r + 1) < l.n - r;omega) ⟨rfl,by show _ = some (Value.slice p2 (othG l o (r + 1)).length c2);rw [hl2];rfl,rfl,rfl,rfl,trivial⟩ rfl ?_;show _ = slc p2 (othG l o (r + 1)).length c2 _ 1 ((othG l o (r + 1)).flatMap uV)::_;rw [hl2,hyes,List.flatMap_append];rfl
 ·have e:r = l.n:=by omega
  subst e;rw [if_pos ho] at hql;have hJ:∀ s:List Int,s.Perm (othG l o l.n)→s.Pairwise (· ≤ ·)→∀ z,s[l.n / 2 - 1]? = some z→JV l o z:=fun s h1 h2 z h3=>⟨s,h1,h2,h3⟩;generalize othG l o l.n = xs at hql hJ ⊢
  refine gW ?_;refine H.Al rfl rfl rfl (sortU_fn f _ (p:=qp) (n:=xs.length) (c:=qc) (xs:=xs) rfl (by omega)) fun v f' A' hR=>?_;obtain ⟨ys,hy1,hy2,rfl,hff,rfl⟩:=hR;rw [hff];have hyl:=hy1.length_eq;obtain ⟨z,hz⟩:∃ z,ys[l.n / 2 - 1]? = some z:=⟨_,List.getElem?_eq_getElem (by omega)⟩
  refine H.Aw (p:=qp) (n0:=xs.length) (c:=qc) (T:=31) (sz:=1) (xs:=ys.flatMap uV) (.here _ _ _) (by omega) fun sb hp=>?_;subst hp;refine gM ?_;refine qfA ?_;refine gN ?_;refine H.Ag (i:=l.n / 2 - 1) rfl rfl rfl (by omega) (by omega) rfl ?_;refine H.Ab rfl rfl rfl (rd_uV (.here _ _ _) hz) rfl ?_;refine qfJ ?_;exact H.r1 ⟨z,hJ ys hy1 hy2 z hz,rfl,rfl,rfl⟩
theorem works19_fn (htab:TabAt f):Fn Tryz.prog 30 [] f F (Ret (.bool true) f F):=by
 have hau0:=(signed_auth r15_asked).1;have hsg:=fun e G=>rsigned_fn e G r15u
 have hau:r15.auth = true:=hau0;clear hau0
 have hr15:r15u.signed = r15:=by unfold r15;rfl
 rw [hr15] at hsg;clear hr15;generalize r15 = r at *;have he:eqC r.vals r.vals = true:=eqC_refl rfl;refine Fn.e0 Tryz.func30 Tryz.ntmps30 fun base=>?_
 refine gM ?_;refine H.Al rfl rfl rfl (plnew_fn f _ (n:=3) (by decide)) fun v f' A' hr=>?_;obtain ⟨g0,lb,hd0,rfl,rfl,rfl⟩:=hr;have hle:=Le.un f g0;generalize un f g0 = f1 at *
 have hLI:LI (Lgs.new 3) 0:=LI.new (by decide) (by decide);repeat (first | (refine H.Am (t:=44) (out:=r15u.vals) rfl rfl rfl (by kernel_rfl) rfl ?_) | (refine gg ?_))
 refine H.cr (hsg _ _) ?_;refine qfE fun rb=>?_;refine H.Af (ls:=Req.zero.vals) (vs:=r.vals) (ls':=r.vals) rfl rfl rfl (zaa rfl) rfl rfl (Nat.le_refl 40) (.here _ _ _) ?_;refine gM ?_;refine qgk ?_;refine qik fun e1=>?_;refine H.asSlc (k:=1) (sz:=40) rfl (by decide) ?_;refine H.Cq (.here _ _) fun ga hga hda=>?_;have hpa:ListAt (un f1 ga) (some ⟨e1,0,none⟩) 40 Req.vals [r]:=(zbt (vals:=Req.vals) (xs:=[r]) Req.len hga).mono (Le.right hda);have hup1:=Le.un f1 ga
 have hle1:=hle.trans hup1;generalize un f1 ga = f2 at *
 have hN:=fun G=>dnext_fn f2 G (tab_mono htab hle1) (lb:=lb) (o:=0) hup1 hLI (by decide) rfl (show 0 < 3 by decide) (pc:=1) (wish:=0) hpa (show 1 ≤ 1000000 by decide);rw [sayX_ex1 hau] at hN
 clear hau;refine qef ?_;refine H.cl (hN _) fun v' f' A' hR=>?_;obtain ⟨gb,p,c,hdb,hv',hqb,rfl,rfl⟩:=hR;have hv':v' = .tuple #[.agg ((⟨1,0,0,r,[],noTag⟩:Bod).vals p c).toArray,.bool true]:=hv';subst hv'
 have hup2:=Le.un f2 gb;have hle2:=hle1.trans hup2
 have hup12:=hup1.trans hup2;clear hN hpa hqb hda hga hdb hd0
 generalize un f2 gb = f3 at *;refine gZ ?_;refine qds fun b1=>?_;refine H.Af (ls:=(Bod.zero 0).vals none 0) (vs:=(⟨1,0,0,r,[],noTag⟩:Bod).vals p c) (ls':=(⟨1,0,0,r,[],noTag⟩:Bod).vals p c) rfl rfl rfl (zaa rfl) rfl rfl (Nat.le_refl 76) (.here _ _ _) ?_;refine gM ?_;refine qgk ?_;refine qik fun e2=>?_;refine H.asSlc (k:=1) (sz:=40) rfl (by decide) ?_;refine H.Cq (.here _ _) fun ga hga hda=>?_;have hpa:ListAt (un f3 ga) (some ⟨e2,0,none⟩) 40 Req.vals [r]:=(zbt (vals:=Req.vals) (xs:=[r]) Req.len hga).mono (Le.right hda);have hup3:=hup12.trans (Le.un f3 ga)
 have hle3:=hle2.trans (Le.un f3 ga);generalize un f3 ga = f4 at *
 have hN:=fun G=>dnext_fn f4 G (tab_mono htab hle3) (lb:=lb) (o:=1) hup3 hLI (by decide) rfl (show 1 < 3 by decide) (pc:=1) (wish:=0) hpa (show 1 ≤ 1000000 by decide);rw [sayX_ex2 r] at hN
 refine qef ?_;refine H.cl (hN _) fun v' f' A' hR=>?_;obtain ⟨gb,p2,c2,hdb,hv',hqb,rfl,rfl⟩:=hR;have hv':v' = .tuple #[.agg ((Bod.zero 0).vals p2 c2).toArray,.bool false]:=hv';subst hv'
 have hup4:=hup3.trans (Le.un f4 gb);have hle4:=hle3.trans (Le.un f4 gb)
 clear hN hpa hqb hda hga hdb;generalize un f4 gb = f5 at *;refine gZ ?_;refine qds fun b2=>?_;refine H.Af (ls:=(Bod.zero 0).vals none 0) (vs:=(Bod.zero 0).vals p2 c2) (ls':=(Bod.zero 0).vals p2 c2) rfl rfl rfl (zaa rfl) rfl rfl (Nat.le_refl 76) (.here _ _ _) ?_;refine gM ?_;have hN:=fun G=>dnext_fn f5 G (tab_mono htab hle4) (lb:=lb) (o:=1) hup4 hLI (by decide) rfl (show 1 < 3 by decide) (pp:=none) (pc:=0) (wish:=1) (pend:=[]) (fun i x h=>by simp at h) (by decide);rw [sayX_ex3] at hN
 refine qef ?_;refine H.cl (hN _) fun v' f' A' hR=>?_;obtain ⟨gb,p3,c3,hdb,hv',hqb,rfl,rfl⟩:=hR;have hv':v' = .tuple #[.agg ((bodW 3 1 0).vals p3 c3).toArray,.bool true]:=hv';subst hv'
 have hup5:=hup4.trans (Le.un f5 gb);have hle5:=hle4.trans (Le.un f5 gb)
 clear hN hqb hdb;generalize un f5 gb = f6 at *;refine gZ ?_;refine qds fun b3=>?_;refine H.Af (ls:=(Bod.zero 0).vals none 0) (vs:=(bodW 3 1 0).vals p3 c3) (ls':=(bodW 3 1 0).vals p3 c3) rfl rfl rfl (zaa rfl) rfl rfl (Nat.le_refl 76) (.here _ _ _) ?_;have hk1:(((⟨1,0,0,r,[],noTag⟩:Bod).kind.toNat:Nat):Int) = 1:=rfl;have hk3:(((bodW 3 1 0).kind.toNat:Nat):Int) = 3:=rfl
 have hv3:(bodW 3 1 0).view = 1:=rfl;refine gH ?_
 refine H.Ae (ls:=r.vals) rfl rfl rfl (body_req (x:=(⟨1,0,0,r,[],noTag⟩:Bod)) (by repeat constructor)) rfl rfl ?_;refine qgk ?_;refine H.aggEq (xs:=r.vals) (ys:=r.vals) (D:=4) (b:=true) rfl rfl rfl rfl (by kernel_rfl) (by kernel_rfl) (by kernel_rfl) (by kernel_rfl) (by decide) he rfl ?_;refine ge ?_;refine qef ?_;refine H.callP rfl rfl rfl (djoin_fn f6 _ (lb:=lb) (o:=0) (l:=Lgs.new 3) hup5 (by decide) rfl (show 0 < 3 by decide)) fun z hz=>?_
 have hz0:z = 0:=by
  obtain ⟨i,_,_,e⟩:=othG_mem hz.mem;exact e
 subst hz0;refine gJ ?_;refine H.pd (x:=plogH _ lb _) ?_;refine H.pd (x:=row rb _ _) ?_;refine H.pd (x:=row b1 _ _) ?_;refine H.pd (x:=row b2 _ _) ?_;refine H.pd (x:=row b3 _ _) ?_;refine H.weakL hle5 ?_;exact qao
end
def sub (k:Nat→Int) (all:List Msg):List Msg:=all.filter fun m=>decide (m.number ≤ k (orgI m))
variable {m:Msg}
theorem sub_mem {k:Nat→Int} {l:List Msg}:m ∈ sub k l ↔ m ∈ l ∧ m.number ≤ k (orgI m):=by unfold sub;rw [List.mem_filter,decide_eq_true_eq]
theorem sub_yes {k:Nat→Int} {l:List Msg} (h:m.number ≤ k (orgI m)):sub k (l ++ [m]) = sub k l ++ [m]:=by
 unfold sub;rw [List.filter_append];congr 1;simp [h]
theorem sub_no {k:Nat→Int} {l:List Msg} (h:¬ m.number ≤ k (orgI m)):sub k (l ++ [m]) = sub k l:=by
 unfold sub;rw [List.filter_append];simp [h]
theorem sub_len (k:Nat→Int) (l:List Msg):(sub k l).length ≤ l.length:=List.length_filter_le _ _
variable {n:Nat}
theorem cnt_sub {k:Nat→Int} (h0:∀ i,0 ≤ k i) (l:List Msg):WOK n l→∀ i,((cnt (sub k l) i:Nat):Int) = minU k l i:=by
 refine snocInd (p:=fun l=>WOK n l→∀ i,((cnt (sub k l) i:Nat):Int) = minU k l i) (fun _ i=>?_) (fun l m ih hW i=>?_) l
 ·rw [minU_nil h0];rfl
 ·have hm:=WOK.at (post:=[]) hW;have hl:WOK n l:=by have:=hW.take l.length;rwa [List.take_left] at this
  have ih:=ih hl i;have hnum:=hm.num
  have hc:=cnt_snoc l m i;by_cases hk:m.number ≤ k (orgI m)
  ·rw [sub_yes hk,cnt_snoc];unfold minU at ih ⊢;rw [hc];by_cases e:i = orgI m
   ·subst e;rw [if_pos rfl];split at ih <;> split <;> omega
   ·rw [if_neg e];exact ih
  ·rw [sub_no hk,ih];unfold minU;rw [hc];by_cases e:i = orgI m
   ·subst e;rw [if_pos rfl];split <;> split <;> omega
   ·rw [if_neg e];rfl
theorem WOK.sub {n:Nat} {k:Nat→Int} (h0:∀ i,0 ≤ k i) (l:List Msg):WOK n l→(∀ x ∈ l,x.number ≤ k (orgI x)→∀ i,i < 11→x.deps i ≤ k i)→WOK n (sub k l):=by
 refine snocInd (p:=fun l=>WOK n l→(∀ x ∈ l,x.number ≤ k (orgI x)→∀ i,i < 11→x.deps i ≤ k i)→WOK n (Go.Proofs.YtgdhaledfjnfgaaGreatDoor.sub k l)) (fun h _=>h) (fun l m ih hW hc=>?_) l;have hm:=WOK.at (post:=[]) hW;have hl:WOK n l:=by have:=hW.take l.length;rwa [List.take_left] at this
 have ih:=ih hl fun x hx=>hc x (List.mem_append_left _ hx);by_cases hk:m.number ≤ k (orgI m)
 ·rw [sub_yes hk];refine ih.snoc ⟨hm.org,hm.fits,hm.right,?_,fun i hi=>?_,fun x hx=>hm.mono x (sub_mem.1 hx).1⟩
  ·have h1:=cnt_sub (n:=n) h0 l hl (orgI m);have h2:=hm.num
   unfold minU at h1;split at h1 <;> omega
  ·have h1:=cnt_sub (n:=n) h0 l hl i;have h2:=hm.dep i hi
   have h3:=hc m (by simp) hk i hi;unfold minU at h1
   split at h1 <;> omega
 ·rw [sub_no hk];exact ih
theorem sub_step2 {k:Nat→Int} (h0:∀ i,0 ≤ k i) {all:List Msg} (hW:WOK n all) (hc:∀ x ∈ all,x.number ≤ k (orgI x)→∀ i,i < 11→x.deps i ≤ k i) {i:Nat} (hm:all[i]? = some m) :
  (m.number ≤ k (orgI m)→∃ b,(lgsOf n (sub k (all.take i))).take m = ((b,0),lgsOf n (sub k (all.take (i + 1))))) ∧ (¬ m.number ≤ k (orgI m)→sub k (all.take (i + 1)) = sub k (all.take i)):=by
 rw [zbm hm];refine ⟨fun hk=>?_,fun hk=>sub_no hk⟩;have h1:WOK n (sub k (all.take i ++ [m])):=WOK.sub h0 _ (by rw [← zbm hm];exact hW.take _) fun x hx=>hc x (by rw [← zbm hm] at hx;exact List.mem_of_mem_take hx);rw [sub_yes hk] at h1 ⊢
 have h2:(sub k (all.take i) ++ [m])[(sub k (all.take i)).length]? = some m:=List.getElem?_concat_length;obtain ⟨h3,_⟩:=world_take h1 h2
 have e1:(sub k (all.take i) ++ [m]).take (sub k (all.take i)).length = sub k (all.take i):=List.take_left;have e2:(sub k (all.take i) ++ [m]).take ((sub k (all.take i)).length + 1) = sub k (all.take i) ++ [m]:=by rw [List.take_of_length_le];rw [List.length_append];exact Nat.le_refl _
 rw [e1,e2] at h3;exact ⟨_,h3⟩
structure KOK (n:Nat) (all:List Msg) (k:Nat→Int):Prop where
 w:WOK n all
 n3:3 ≤ n
 n11:n ≤ 11
 v:∀ m ∈ all,0 ≤ m.body.view
 z:∀ i,0 ≤ k i
 c:∀ x ∈ all,x.number ≤ k (orgI x)→∀ i,i < 11→x.deps i ≤ k i
theorem KOK.li {all:List Msg} {k:Nat→Int} (h:KOK n all k) (i:Nat):LI (lgsOf n (sub k (all.take i))) (sub k (all.take i)).length:=lgsOf_LI h.n3 h.n11 _ fun m hm=>h.v m (List.mem_of_mem_take (sub_mem.1 hm).1)
def AtP (f:Frag) (F:List HP) (n:Nat) (all:List Msg):Value→Frag→List HP→Prop:=fun v f' A'=>∃ (g:Frag) (lb:Nat),Dj f g ∧ v = .tuple #[.pointer (some ⟨lb,0,none⟩),.bool true] ∧ f' = un f g ∧ A' = plogH f' lb (lgsOf n all)::F
def RAtP (f:Frag) (F:List HP) (n:Nat) (all:List Msg):Value→Frag→List HP→Prop:=fun v f' A'=>∃ (g:Frag) (lb:Nat),Dj f g ∧ v = .pointer (some ⟨lb,0,none⟩) ∧ f' = un f g ∧ A' = logsH f' lb (lgsOf n all)::F
variable {n8:UInt8} {W:W12} {kb ac lb0 wb:Nat} {ap:Option Addr}
section
variable (f:Frag) (F:List HP)
theorem at16_fn (htab:TabAt f) (hn8:n = 3 + 2 * (n8.toNat % 5)) {l:List MV} (hwat:WAt f n W kb ap l) {k:Nat→Int} (hK:KOK n W.all k) (hl:W.all.length ≤ 1000) :
  Fn Tryz.prog 31 [.pointer (some ⟨wb,0,none⟩),.agg (v11 k).toArray] f (row wb 37 (w15C kb n ap l.length ac lb0)::F) (AtP f (row wb 37 (w15C kb n ap l.length ac lb0)::F) n (sub k W.all)):=by
 have hn3:3 ≤ n ∧ n ≤ 11:=by omega
 have hodd:n % 2 = 1:=by omega
 have hlm:=hwat.m;have hll:l.length = W.all.length:=by rw [← hlm,List.length_map]
 refine Fn.e2 Tryz.func31 Tryz.ntmps31 fun base=>?_;refine gA ?_;refine H.box (ls:=v11 k) rfl rfl rfl rfl fun xb=>?_;refine gF ?_;refine H.Al rfl rfl rfl (plnew_fn f _ (n:=n) (fewz_odd hn8)) fun v f' A' hr=>?_;obtain ⟨g,lb,hd,rfl,rfl,rfl⟩:=hr;have hle:=Le.un f g;obtain ⟨f1,hf1⟩:∃ f1,f1 = un f g:=⟨_,rfl⟩
 rw [← hf1] at hle ⊢;have hta:=tab_mono htab hle;have hwa1:=hwat.mono hle
 refine gX ?_;refine qdM ?_
 refine H.lo (ι:=Nat) (fun i=>[(8,.int .i64 (i:Int)),(6,.pointer (some ⟨lb,0,none⟩)),(3,.pointer (some ⟨xb,0,none⟩)),(0,.pointer (some ⟨wb,0,none⟩))]) (fun _=>f1)
  (fun i=>row xb 39 (v11 k)::plogH f1 lb (lgsOf n (sub k (W.all.take i)))::row wb 37 (w15C kb n ap l.length ac lb0)::F) (fun i=>i ≤ W.all.length) (fun i=>W.all.length - i)
  0 (Nat.zero_le _) fun i hi=>?_
 have hi:i ≤ W.all.length:=hi;by_cases hlt:i < W.all.length
 ·obtain ⟨b,off,rfl,rdA⟩:=hwa1.a.all MV.len (by decide) (by omega);obtain ⟨y,hy⟩:∃ y,l[i]? = some y:=⟨_,List.getElem?_eq_getElem (by omega)⟩;have hym:W.all[i]? = some y.m:=by rw [← hlm,List.getElem?_map,hy];rfl
  have hyg:=hwa1.g y (List.mem_of_getElem? hy);have hmo:=(hK.w i y.m hym).org
  have hoz:y.m.origin - 1 = (orgI y.m:Nat):=by unfold orgI;omega
  have hon:orgI y.m < 11:=by unfold orgI;omega
  have hLI:=hK.li i;have hLl:(sub k (W.all.take i)).length ≤ 1000:=Nat.le_trans (sub_len _ _) (by rw [List.length_take];omega)
  have htk:=fun G=>pltakeA_fn f1 G hta (Le.refl f1) (lb:=lb) hLI (by omega) (lgsOf_NI _ _) (by rw [lgsOf_n];exact hodd) hyg;obtain ⟨hyes,hno⟩:=sub_step2 hK.z hK.w hK.c hym
  have hrdk:∀ {G:List HP},Rd1 f1 (row xb 39 (v11 k)::G) xb (orgI y.m) (.int .u64 (k (orgI y.m))):=fun {G}=>Rd1.ofRow (.here _ _ _) (by rw [nthV_eq];exact zbd k hon);by_cases hk:y.m.number ≤ k (orgI y.m)
  ·obtain ⟨cb,hcb⟩:=hyes hk;rw [hcb] at htk;refine gY ?_;refine qdy ?_;refine gK ?_;refine gY ?_;refine H.Ag (i:=i) rfl rfl rfl rfl (by omega) rfl ?_;refine H.Ae (ls:=y.vals) rfl rfl rfl (rdA _ _ _ _ (Le.refl f1) hy) rfl rfl ?_;refine qef ?_;refine H.cr (htk _) ?_;refine gI ?_;refine qdM ?_;exact qcJ
  ·rw [← hno hk];refine gY ?_;refine qdy ?_;refine gK ?_;refine gW ?_;exact qcJ
 ·have e:i = W.all.length:=by omega
  subst e;rw [List.take_length];refine gY ?_;refine qdN ?_;subst hf1;exact qcy
theorem wat15_fn (hn8:n = 3 + 2 * (n8.toNat % 5)) {l:List MV} (hwat:WAt f n W kb ap l) {k:Nat→Int} (hK:KOK n W.all k) (hl:W.all.length ≤ 1000) :
  Fn Tryz.prog 32 [.pointer (some ⟨wb,0,none⟩),.agg (v11 k).toArray] f (row wb 37 (w15C kb n ap l.length ac lb0)::F) (RAtP f (row wb 37 (w15C kb n ap l.length ac lb0)::F) n (sub k W.all)):=by
 have hn3:3 ≤ n ∧ n ≤ 11:=by omega
 have hlm:=hwat.m;have hll:l.length = W.all.length:=by rw [← hlm,List.length_map]
 refine Fn.e2 Tryz.func32 Tryz.ntmps32 fun base=>?_;refine gA ?_;refine H.box (ls:=v11 k) rfl rfl rfl rfl fun xb=>?_;refine gF ?_;refine H.Al rfl rfl rfl (lgnew_fn f _ (n:=n) (fewz_odd hn8)) fun v f' A' hr=>?_;obtain ⟨g,lb,hd,rfl,rfl,rfl⟩:=hr;refine gZ ?_;refine qdM ?_
 refine H.lo (ι:=Nat × Frag) (fun s=>[(7,.int .i64 (s.1:Int)),(5,.pointer (some ⟨lb,0,none⟩)),(3,.pointer (some ⟨xb,0,none⟩)),(0,.pointer (some ⟨wb,0,none⟩))]) (fun s=>un f s.2)
  (fun s=>row xb 39 (v11 k)::logsH (un f s.2) lb (lgsOf n (sub k (W.all.take s.1)))::row wb 37 (w15C kb n ap l.length ac lb0)::F) (fun s=>s.1 ≤ W.all.length ∧ Dj f s.2) (fun s=>W.all.length - s.1)
  (0,g) ⟨Nat.zero_le _,hd⟩ fun s hs=>?_
 clear hd;obtain ⟨i,g⟩:=s;obtain ⟨hi,hd⟩:i ≤ W.all.length ∧ Dj f g:=hs;show H _ _ _ [(7,.int .i64 (i:Int)),_,_,_] (un f g) (_::logsH (un f g) lb (lgsOf n (sub k (W.all.take i)))::_::F) _;have hwa1:=hwat.mono (Le.un f g);by_cases hlt:i < W.all.length
 ·obtain ⟨b,off,rfl,rdA⟩:=hwa1.a.all MV.len (by decide) (by omega);obtain ⟨y,hy⟩:∃ y,l[i]? = some y:=⟨_,List.getElem?_eq_getElem (by omega)⟩;have hym:W.all[i]? = some y.m:=by rw [← hlm,List.getElem?_map,hy];rfl
  have hyg:=hwa1.g y (List.mem_of_getElem? hy);have hmo:=(hK.w i y.m hym).org
  have hoz:y.m.origin - 1 = (orgI y.m:Nat):=by unfold orgI;omega
  have hon:orgI y.m < 11:=by unfold orgI;omega
  have hLI:=hK.li i;have hLl:(sub k (W.all.take i)).length ≤ 1000:=Nat.le_trans (sub_len _ _) (by rw [List.length_take];omega)
  have htk:=fun G=>take_fn (un f g) G (Le.refl _) (lb:=lb) hLI (by omega) hyg;obtain ⟨hyes,hno⟩:=sub_step2 hK.z hK.w hK.c hym
  have hrdk:∀ {G:List HP},Rd1 (un f g) (row xb 39 (v11 k)::G) xb (orgI y.m) (.int .u64 (k (orgI y.m))):=fun {G}=>Rd1.ofRow (.here _ _ _) (by rw [nthV_eq];exact zbd k hon);by_cases hk:y.m.number ≤ k (orgI y.m)
  ·obtain ⟨cb,hcb⟩:=hyes hk;rw [hcb] at htk;refine gY ?_;refine qdy ?_;refine gK ?_;refine gY ?_;refine H.Ag (i:=i) rfl rfl rfl rfl (by omega) rfl ?_;refine H.Ae (ls:=y.vals) rfl rfl rfl (rdA _ _ _ _ (Le.refl _) hy) rfl rfl ?_;refine H.pf (x:=logsH _ lb _) ?_;refine H.cl (htk _) fun v' f' A' hr=>?_;obtain ⟨g5,hd5,rfl,rfl,rfl⟩:=hr;refine gU ?_;refine qdM ?_;refine H.Ar (i + 1,un g g5) ⟨by show i + 1 ≤ W.all.length;omega,Dj.un3' hd hd5⟩ (by show W.all.length - (i + 1) < W.all.length - i;omega) ⟨rfl,rfl,rfl,rfl,trivial⟩ (zcb _ _ _) ?_;show _::logsH (un (un f g) g5) lb _::_ = _::logsH (un f (un g g5)) lb _::_;rw [zcb]
  ·rw [← hno hk];refine gY ?_;refine qdy ?_;refine gK ?_;refine gW ?_;exact H.ag (i + 1,g) ⟨by show i + 1 ≤ W.all.length;omega,hd⟩ (by show W.all.length - (i + 1) < W.all.length - i;omega)
 ·have e:i = W.all.length:=by omega
  subst e;rw [List.take_length];refine gY ?_;refine qdN ?_;exact H.r1 ⟨g,lb,hd,rfl,rfl,rfl⟩
end
variable {s:List Int}
theorem sorted_le (h:s.Pairwise (· ≤ ·)) {i:Nat} {a b:Int} (hij:i ≤ j) (hi:s[i]? = some a) (hj:s[j]? = some b):a ≤ b:=by
 obtain ⟨hil,hia⟩:=List.getElem?_eq_some_iff.1 hi;obtain ⟨hjl,hjb⟩:=List.getElem?_eq_some_iff.1 hj;rcases Nat.eq_or_lt_of_le hij with e | e
 ·subst e;rw [hi] at hj;cases hj;exact Int.le_refl _
 ·rw [← hia,← hjb];exact List.pairwise_iff_getElem.1 h i j hil hjl e
theorem cnt_ge (h:s.Pairwise (· ≤ ·)) {k:Nat} (hk:s[k]? = some v):s.length ≤ s.countP (fun x=>decide (v ≤ x)) + k:=by
 have e:s.countP (fun x=>decide (v ≤ x)) = (s.take k).countP (fun x=>decide (v ≤ x)) + (s.drop k).countP (fun x=>decide (v ≤ x)):=by
  rw [← List.countP_append,List.take_append_drop]
 have e2:(s.drop k).countP (fun x=>decide (v ≤ x)) = (s.drop k).length:=by
  rw [List.countP_eq_length];intro x hx;obtain ⟨j,hj⟩:=List.getElem?_of_mem hx;rw [List.getElem?_drop] at hj;exact decide_eq_true (sorted_le h (Nat.le_add_right k j) hk hj)
 rw [e,e2,List.length_drop];omega
theorem cnt_gt (h:s.Pairwise (· ≤ ·)) {k:Nat} (hk:s[k]? = some v):s.countP (fun x=>decide (v < x)) + k + 1 ≤ s.length:=by
 have hkl:=(List.getElem?_eq_some_iff.1 hk).1
 have e:s.countP (fun x=>decide (v < x)) = (s.take (k + 1)).countP (fun x=>decide (v < x)) + (s.drop (k + 1)).countP (fun x=>decide (v < x)):=by
  rw [← List.countP_append,List.take_append_drop]
 have e2:(s.take (k + 1)).countP (fun x=>decide (v < x)) = 0:=by
  rw [List.countP_eq_zero];intro x hx;obtain ⟨j,hj⟩:=List.getElem?_of_mem hx;rw [List.getElem?_take] at hj;split at hj
  ·rename_i hjk
   have:=sorted_le h (Nat.le_of_lt_succ hjk) hj hk;rw [decide_eq_false (by omega)];decide
  ·cases hj
 have e3:(s.drop (k + 1)).countP (fun x=>decide (v < x)) ≤ (s.drop (k + 1)).length:=List.countP_le_length;rw [List.length_drop] at e3
 omega
def atN (l:Lgs) (o:Nat) (z:Int) (r:Nat):Nat:=(othG l o r).countP fun x=>decide (z ≤ x)
def abN (l:Lgs) (o:Nat) (z:Int) (r:Nat):Nat:=(othG l o r).countP fun x=>decide (z < x)
theorem JV.cnt (h:JV l o z) (hn:3 ≤ l.n) (hodd:l.n % 2 = 1) (ho:o < l.n):l.n / 2 + 1 ≤ atN l o z l.n ∧ abN l o z l.n ≤ l.n / 2:=by
 obtain ⟨s,h1,h2,h3⟩:=h;have hl:=othG_len l o l.n;rw [if_pos ho,← h1.length_eq] at hl
 have a:=cnt_ge h2 h3;have b:=cnt_gt h2 h3
 unfold atN abN;rw [← h1.countP_eq,← h1.countP_eq];omega
theorem oth_same (l:Lgs) (o:Nat) (z:Int):atN l o z (o + 1) = atN l o z o ∧ abN l o z (o + 1) = abN l o z o:=by
 have e:othG l o (o + 1) = othG l o o:=if_pos rfl;unfold atN abN
 rw [e];exact ⟨rfl,rfl⟩
theorem oth_step {r:Nat} (h:r ≠ o):atN l o z (r + 1) = atN l o z r + (if z ≤ dyG l r then 1 else 0) ∧ abN l o z (r + 1) = abN l o z r + (if z < dyG l r then 1 else 0):=by
 have e:othG l o (r + 1) = othG l o r ++ [dyG l r]:=if_neg h;unfold atN abN
 rw [e,List.countP_append,List.countP_append,List.countP_singleton,List.countP_singleton];constructor
 ·congr 1;by_cases h:z ≤ dyG l r
  ·rw [if_pos h,decide_eq_true h,if_pos rfl]
  ·rw [if_neg h,decide_eq_false h,if_neg (by decide)]
 ·congr 1;by_cases h:z < dyG l r
  ·rw [if_pos h,decide_eq_true h,if_pos rfl]
  ·rw [if_neg h,decide_eq_false h,if_neg (by decide)]
theorem atN_le (l:Lgs) (o:Nat) (z:Int) (r:Nat):atN l o z r ≤ r ∧ abN l o z r ≤ r:=by
 have hl:=othG_len l o r;have h1:atN l o z r ≤ (othG l o r).length:=List.countP_le_length
 have h2:abN l o z r ≤ (othG l o r).length:=List.countP_le_length;omega
theorem WI.kok {W:W15} (h:WI n W T) (h3:3 ≤ n) (h11:n ≤ 11) (hv:∀ m ∈ W.w.all,0 ≤ m.body.view) (ho:o < n):KOK n W.w.all (W.w.kv o):=
 ⟨h.w.ok,h3,h11,hv,fun i=>((h.w.knw o ho).le i).1,(h.w.knw o ho).closed⟩
section
variable (f:Frag) (F:List HP)
end
def jD (l:Lgs) (o:Nat):Nat→Int
 | 0=>0
 | k + 1=>if l.n / 2 + 1 ≤ atN l o (dyG l k) l.n then (if jD l o k < dyG l k then dyG l k else jD l o k) else jD l o k
theorem jD_succ (l:Lgs) (o k:Nat):jD l o (k + 1) = if l.n / 2 + 1 ≤ atN l o (dyG l k) l.n then (if jD l o k < dyG l k then dyG l k else jD l o k) else jD l o k:=rfl
theorem jD_ge {l:Lgs} {o:Nat}:∀ {m k:Nat},k < m→l.n / 2 + 1 ≤ atN l o (dyG l k) l.n→dyG l k ≤ jD l o m
 | m + 1, k, hk, h => by
  rw [jD_succ]
  by_cases e:k = m
  ·subst e;rw [if_pos h];split <;> omega
  ·have ih:=jD_ge (m:=m) (k:=k) (by omega) h
   split
   ·split <;> omega
   ·exact ih
theorem jD_mem {l:Lgs} {o:Nat}:∀ m,jD l o m = 0 ∨ ∃ k,k < m ∧ l.n / 2 + 1 ≤ atN l o (dyG l k) l.n ∧ jD l o m = dyG l k
 | 0=>.inl rfl
 | m + 1 => by
  have ih:=jD_mem (l:=l) (o:=o) m
  have ih2:jD l o m = 0 ∨ ∃ k,k < m + 1 ∧ l.n / 2 + 1 ≤ atN l o (dyG l k) l.n ∧ jD l o m = dyG l k:=ih.imp id fun ⟨k,h1,h2⟩=>⟨k,by omega,h2⟩
  rw [jD_succ]
  by_cases h:l.n / 2 + 1 ≤ atN l o (dyG l m) l.n
  ·by_cases h2:jD l o m < dyG l m
   ·rw [if_pos h,if_pos h2];exact .inr ⟨m,by omega,h,rfl⟩
   ·rw [if_pos h,if_neg h2];exact ih2
  ·rw [if_neg h];exact ih2
theorem countP_mono {p q:Int→Bool} (h:∀ x,p x = true→q x = true):s.countP p ≤ s.countP q:=List.countP_mono_left fun x _=>h x
theorem jD_eq (hL:LI l T) (hz:JV l o z) (hodd:l.n % 2 = 1) (ho:o < l.n):jD l o l.n = z:=by
 obtain ⟨h1,h2⟩:=hz.cnt hL.n3.1 hodd ho;obtain ⟨i,hi,hio,e⟩:=othG_mem hz.mem;have hge:=jD_ge (l:=l) (o:=o) hi (by rw [← e];exact h1);have hz0:0 ≤ z:=by rw [e];exact (hL.wf i hi).g0
 rcases jD_mem (l:=l) (o:=o) l.n with h | ⟨k,hk,h3,h4⟩
 ·omega
 ·by_cases hlt : z < jD l o l.n
  ·have h5:atN l o (dyG l k) l.n ≤ abN l o z l.n:=countP_mono fun x hx=>by
    have:=of_decide_eq_true hx;exact decide_eq_true (by omega)
   omega
  ·omega
variable {i0:LPt}
section
variable (f:Frag) (F:List HP)
theorem changed19_fn (hL:LI l T) (hT:T ≤ 50000) (hodd:l.n % 2 = 1) {kn:Nat→Int} {vp:Option Addr} {vl vc:Nat} {cp:Option Addr} {cc:Nat} {cs:Nat→Option Addr × Nat} (v:Int) :
  Fn Tryz.prog 67 [.pointer (some ⟨lb,0,none⟩),.int .u64 v] f (chL lb l kn vp vl vc pp pc cp cc cs F) (RetE (fun s:Option Addr × Nat=>.slice s.1 (chgQ l v l.n).length s.2) f (fun s=>qs s.1 s.2 (chgQ l v l.n)::chL lb l kn vp vl vc pp pc cp cc cs F)):=by
 have hn:=hL.n3;have hch:=fun G r (hr:r < l.n)=>lgchg_fn f G (lb:=lb) hL hT (kn:=kn) (vp:=vp) (vl:=vl) (vc:=vc) (pp:=pp) (pc:=pc) (cp:=cp) (cc:=cc) (cs:=cs) (o:=r) hr (r:=((r + 1:Nat):Int)) rfl
 have hhalf:∀ r,(chgQ l v r).length ≤ 6:=fun r=>by have:=chgQ_half l v r;omega
 have hq:IntKind.i64.wrap (((l.n:Int) - 1).tdiv 2) = ((l.n / 2:Nat):Int):=by
  exact qbp
 refine Fn.e2 Tryz.func67 Tryz.ntmps67 fun base=>?_;show H _ _ _ _ _ (row lb 86 (lgC l.n kn vp vl vc pp pc cp cc)::slc cp l.n cc 171 1 (chRow l cs)::fam (chFam l cs) l.n::F) _;refine gV ?_;refine H.slc0 69 2 ?_
 refine H.lo (ι:=Nat × Option Addr × Nat) (fun s=>[(6,.int .i64 ((s.1 + 1:Nat):Int)),(5,.slice s.2.1 (chgQ l v s.1).length s.2.2),(1,.int .u64 v),(0,.pointer (some ⟨lb,0,none⟩))]) (fun _=>f)
  (fun s=>slc s.2.1 (chgQ l v s.1).length s.2.2 69 2 ((chgQ l v s.1).flatMap pairV)::row lb 86 (lgC l.n kn vp vl vc pp pc cp cc)::slc cp l.n cc 171 1 (chRow l cs)::fam (chFam l cs) l.n::F) (fun s=>s.1 ≤ l.n) (fun s=>l.n - s.1)
  (0,none,0) (Nat.zero_le _) fun s hs=>?_
 obtain ⟨r,qp,qc⟩:=s;have hr:r ≤ l.n:=hs;show H _ _ _ [(6,.int .i64 ((r + 1:Nat):Int)),(5,.slice qp (chgQ l v r).length qc),_,_] f (slc qp (chgQ l v r).length qc _ 2 ((chgQ l v r).flatMap pairV)::row lb _ _::slc cp _ cc _ _ _::fam _ _::F) _
 have hql:=hhalf r;by_cases hgo:r < l.n ∧ (chgQ l v r).length ≤ l.n / 2
 ·obtain ⟨hrn,hq2⟩:=hgo;have h1:=fun G=>hch G r hrn;have hyes:=chgQ_yes (l:=l) (v:=v) (r:=r) hq2
  have hno:=chgQ_no (l:=l) (v:=v) (r:=r);generalize lastCh l r = lc at h1 hyes hno
  refine gY ?_;refine qeN ?_;refine gT ?_;refine qfi ?_;refine qgL ?_;refine qdr ?_;refine H.cr (h1 _) ?_;show H _ _ _ _ _ (row lb 86 (lgC l.n kn vp vl vc pp pc cp cc)::slc cp l.n cc 171 1 (chRow l cs)::fam (chFam l cs) l.n::_) _;by_cases h2:0 < lc.2
  ·by_cases h3:lc.1 = v
   ·have hyes:=hyes h2 h3;refine ge ?_
    refine H.Au (out:=pairV (((r + 1:Nat):Int),lc.2)) rfl rfl rfl rfl (by decide) (by decide) rfl rfl fun eb=>?_;refine H.Ax (sz:=2) (p:=qp) (n0:=(chgQ l v r).length) (c:=qc) (xs:=(chgQ l v r).flatMap pairV) (m:=1) (news:=pairV (((r + 1:Nat):Int),lc.2)) rfl rfl rfl rfl rfl (fun p' c'=>(by repeat constructor)) (Src.slice (Rd.ofRow (by repeat constructor)) rfl) (zaa rfl) rfl (by omega) (by omega) fun p2 c2=>?_;refine gU ?_;refine qfX ?_;refine H.pf (x:=slc p2 _ c2 _ 2 _) ?_;have hlen:(chgQ l v (r + 1)).length = (chgQ l v r).length + 1:=by rw [hyes,List.length_append];rfl
    refine H.Ar (r + 1,p2,c2) (by show r + 1 ≤ l.n;omega) (by show l.n - (r + 1) < l.n - r;omega) ⟨rfl,by show _ = some (Value.slice p2 (chgQ l v (r + 1)).length c2);rw [hlen];rfl,rfl,rfl,trivial⟩ rfl ?_;show _ = slc p2 (chgQ l v (r + 1)).length c2 _ 2 ((chgQ l v (r + 1)).flatMap pairV)::_;rw [hlen,hyes,List.flatMap_append];rfl
   ·have hno:=hno fun h=>h3 h.2;refine ge ?_
    exact qbn
  ·have hno:=hno fun h=>h2 h.1;refine gX ?_
   exact qbn
 ·have hQe:chgQ l v l.n = chgQ l v r:=by
   exact qde
  by_cases hrn:r < l.n
  ·have hq2:¬ (chgQ l v r).length ≤ l.n / 2:=fun h=>hgo ⟨hrn,h⟩;rw [hQe]
   generalize chgQ l v r = Q at *;refine gY ?_;refine qeN ?_;refine gY ?_;refine H.r1 ⟨(qp,qc),rfl,rfl,rfl⟩
  ·rw [hQe];generalize chgQ l v r = Q at *;refine gT ?_;refine H.r1 ⟨(qp,qc),rfl,rfl,rfl⟩
theorem rjoinL_fn (hL:LI l T) (hodd:l.n % 2 = 1) (ho:o < l.n) (hfl:Le fl f) (hi:lgφ fl l i0) :
  Fn Tryz.prog 37 [.pointer (some ⟨lb,0,none⟩),.int .i64 ((o + 1:Nat):Int)] f (lgB lb l i0 ++ F) (Ret (.int .u64 (jD l o l.n)) f (lgB lb l i0 ++ F)):=by
 have hn:=hL.n3;obtain ⟨pbb,poff,hpp,rdp⟩:=hi.past (by omega)
 obtain ⟨V,vp,vc,pp,pc,cp,cc,qb,cs⟩:=i0;have hpp:pp = some ⟨pbb,poff,none⟩:=hpp;subst hpp
 have hq:IntKind.i64.wrap (((l.n:Int) - 1).tdiv 2) = ((l.n / 2:Nat):Int):=by
  exact qbp
 show Fn _ _ _ f (row lb 86 (lgC l.n l.known vp V.length vc (some ⟨pbb,poff,none⟩) pc cp cc)::slc vp V.length vc 129 4 (V.flatMap VV.vals)::lst (V.map VV.own)::fam (fun r=>pstH (qb r) (l.past r)) l.n::slc cp l.n cc 171 1 (chRow l cs)::fam (chFam l cs) l.n::F) (Ret _ f (row lb 86 (lgC l.n l.known vp V.length vc (some ⟨pbb,poff,none⟩) pc cp cc)::slc vp V.length vc 129 4 (V.flatMap VV.vals)::lst (V.map VV.own)::fam (fun r=>pstH (qb r) (l.past r)) l.n::slc cp l.n cc 171 1 (chRow l cs)::fam (chFam l cs) l.n::F));refine Fn.e2 Tryz.func37 Tryz.ntmps37 fun base=>?_;refine gP ?_
 refine H.lo (ι:=Nat) (fun k=>[(6,.int .i64 ((k + 1:Nat):Int)),(5,.int .u64 (jD l o k)),(1,.int .i64 ((o + 1:Nat):Int)),(0,.pointer (some ⟨lb,0,none⟩))]) (fun _=>f)
  (fun _=>row lb 86 (lgC l.n l.known vp V.length vc (some ⟨pbb,poff,none⟩) pc cp cc)::slc vp V.length vc 129 4 (V.flatMap VV.vals)::lst (V.map VV.own)::fam (fun r=>pstH (qb r) (l.past r)) l.n::slc cp l.n cc 171 1 (chRow l cs)::fam (chFam l cs) l.n::F) (fun k=>k ≤ l.n) (fun k=>l.n - k)
  0 (Nat.zero_le _) fun k hk=>?_
 have hk:k ≤ l.n:=hk;by_cases hkn:k < l.n
 ·have hjk:jD l o (k + 1) = if l.n / 2 + 1 ≤ atN l o (dyG l k) l.n then (if jD l o k < dyG l k then dyG l k else jD l o k) else jD l o k:=rfl
  have hg:(l.past k).g = dyG l k:=rfl;refine gY ?_
  refine H.Ag (b:=pbb) (off:=poff) (i:=k) rfl rfl rfl (by omega) hkn rfl ?_;refine H.Ab rfl rfl rfl (by rw [Nat.mul_one];exact rdp hfl hkn) rfl ?_;refine qfe ?_;refine H.Bt hkn ?_;refine zbw fun eb ec=>?_;refine gO ?_;refine H.imp zba ?_;refine H.Cf (g:=fun r=>pstH (qb r) (l.past r)) hkn ?_;rw [hg];refine qfv ?_;refine H.pf (x:=slc vp _ vc _ 4 _) ?_;refine qdr ?_
  refine H.lo (ι:=Nat) (fun r=>[(9,.int .i64 ((r + 1:Nat):Int)),(8,.int .i64 ((atN l o (dyG l k) r:Nat):Int)),(7,.int .u64 (dyG l k)),(6,.int .i64 ((k + 1:Nat):Int)),(5,.int .u64 (jD l o k)),(1,.int .i64 ((o + 1:Nat):Int)),(0,.pointer (some ⟨lb,0,none⟩))]) (fun _=>f)
   (fun _=>row lb 86 (lgC l.n l.known vp V.length vc (some ⟨pbb,poff,none⟩) pc cp cc)::slc vp V.length vc 129 4 (V.flatMap VV.vals)::lst (V.map VV.own)::fam (fun r=>pstH (qb r) (l.past r)) l.n::slc cp l.n cc 171 1 (chRow l cs)::fam (chFam l cs) l.n::F) (fun r=>r ≤ l.n) (fun r=>l.n - r)
   0 (Nat.zero_le _) fun r hr=>?_
  have hr:r ≤ l.n:=hr;have hle:=(atN_le l o (dyG l k) r).1
  by_cases hrn:r < l.n
  ·by_cases hro:r = o
   ·have hs:atN l o (dyG l k) (r + 1) = atN l o (dyG l k) r:=by subst hro;exact (oth_same l r (dyG l k)).1
    have hz2:((r + 1:Nat):Int) = ((o + 1:Nat):Int):=by rw [hro]
    refine ge ?_;exact H.Ar (r + 1) (by show r + 1 ≤ l.n;omega) (by show l.n - (r + 1) < l.n - r;omega) ⟨rfl,(by show _ = some (Value.int .i64 ((atN l o (dyG l k) (r + 1):Nat):Int));rw [hs];rfl),rfl,rfl,rfl,rfl,rfl,trivial⟩ rfl rfl
   ·have hs:=(oth_step (l:=l) (z:=dyG l k) hro).1;have hz2:¬ ((r + 1:Nat):Int) = ((o + 1:Nat):Int):=by omega
    have hgr:(l.past r).g = dyG l r:=rfl;by_cases ha:dyG l k ≤ dyG l r
    ·rw [if_pos ha] at hs;refine qfN fun eb ec=>?_;rw [hgr];refine gY ?_;exact qaX
    ·rw [if_neg ha,Nat.add_zero] at hs;refine qfN fun eb ec=>?_;rw [hgr];refine ge ?_;exact qaX
  ·have e:r = l.n:=by omega
   rw [e] at hle ⊢;have hr2:¬ ((l.n + 1:Nat):Int) ≤ (l.n:Int):=by omega
   by_cases hq3:l.n / 2 + 1 ≤ atN l o (dyG l k) l.n
   ·rw [if_pos hq3] at hjk;by_cases hmx:jD l o k < dyG l k
    ·rw [if_pos hmx] at hjk;refine gY ?_;refine qeN ?_;refine gW ?_;refine H.max2 (z:=dyG l k) rfl rfl rfl (by rw [if_pos hmx]) rfl ?_;refine gU ?_;exact qbk
    ·rw [if_neg hmx] at hjk;refine gY ?_;refine qeN ?_;refine gW ?_;refine H.max2 (z:=jD l o k) rfl rfl rfl (by rw [if_neg hmx]) rfl ?_;refine gU ?_;exact qbk
   ·rw [if_neg hq3] at hjk;refine gY ?_;refine qeN ?_;refine gW ?_;exact qbk
 ·have e:k = l.n:=by omega
  rw [e];refine gY ?_;exact qao
theorem rjoinL_no (hn:3 ≤ l.n ∧ l.n ≤ 11) {i:Int} (hi:i < 1 ∨ (l.n:Int) < i) :
  Fn Tryz.prog 37 [.pointer (some ⟨lb,0,none⟩),.int .i64 i] f (lgB lb l i0 ++ F) (Ret (.int .u64 0) f (lgB lb l i0 ++ F)):=by
 obtain ⟨V,vp,vc,pp,pc,cp,cc,qb,cs⟩:=i0;show Fn _ _ _ f (row lb 86 (lgC l.n l.known vp V.length vc pp pc cp cc)::_) (Ret _ f (row lb 86 (lgC l.n l.known vp V.length vc pp pc cp cc)::_));rcases Decidable.em (i < 1) with h1 | h1
 ·refine Fn.e2 Tryz.func37 Tryz.ntmps37 fun base=>?_;refine gT ?_;exact qao
 ·have h2:(l.n:Int) < i:=by omega
  refine Fn.e2 Tryz.func37 Tryz.ntmps37 fun base=>?_;refine gT ?_;exact qao
end
theorem voted_some:∀ (l:List (Int × Int)) (v k:Int),(v,k) ∈ l→(PM.voted l v).isSome = true
 | [],_,_,h=>by cases h
 | (w, n) :: r, v, k, h => by
  unfold PM.voted
  by_cases e:v = w
  ·rw [if_pos e];rfl
  ·rw [if_neg e]
   rcases List.mem_cons.1 h with h | h
   ·exact absurd (Prod.ext_iff.1 h).1 e
   ·exact voted_some r v k h
def cdE (l:Lgs) (o:Nat) (v:Int):Bool:=decide (dyG l o ≤ v ∧ 0 < v ∧ (l.past o).lv < v) && !primB l.n o v
theorem notVoted (hL:LI l T) (ho:o < l.n) (h:(l.past o).lv < v):(dyV l o v).isSome = false:=by
 cases e:dyV l o v with
 | none=>rfl
 | some k =>
  have hm:=voted_mem _ _ _ e;have hm:(v,k) ∈ (l.past o).init ++ [((l.past o).lv,(l.past o).ln)]:=hm
  rcases List.mem_append.1 hm with h1 | h1
  ·have h2:v < (l.past o).lv:=(hL.wf o ho).below (v,k) h1;omega
  ·have:=(Prod.ext_iff.1 (List.mem_singleton.1 h1)).1;have:v = (l.past o).lv:=this
   omega
theorem dyE_found (hL:LI l T) (ho:o < l.n) {k:Nat} (hU:(viewsU l)[k]? = some v) (hc:cdE l o v = true) (hb:∀ (j:Nat) x,k < j→(viewsU l)[j]? = some x→cdE l o x = false):dyE l o = some v:=by
 have hk:=(List.getElem?_eq_some_iff.1 hU).1;unfold cdE at hc
 rw [Bool.and_eq_true] at hc;obtain ⟨hc1,hc2⟩:=hc;have hc1:=of_decide_eq_true hc1;have hpv:primB l.n o v = false:=by cases e:primB l.n o v with | false=>rfl | true=>rw [e] at hc2;cases hc2
 have hnv:=notVoted hL ho hc1.2.2;have hd:decide (¬ v < dyG l o ∧ v ≠ 0) = true:=decide_eq_true ⟨by omega,by omega⟩
 unfold dyE
 rw [entV_find,find_at (j:=(viewsU l).length - 1 - k) (x:=v) (by rw [List.getElem?_reverse (by omega),show (viewsU l).length - 1 - ((viewsU l).length - 1 - k) = k by omega];exact hU)
  (by unfold ctE; rw [hpv, Bool.and_false, Bool.and_false]; rfl) fun i y hi hy => by
   have hyl:=(List.getElem?_eq_some_iff.1 hy).1
   rw [List.length_reverse] at hyl
   rw [List.getElem?_reverse (by omega)] at hy
   have hlt:v < y:=by
    obtain ⟨h1,h2⟩:=List.getElem?_eq_some_iff.1 hU
    obtain ⟨h3,h4⟩:=List.getElem?_eq_some_iff.1 hy
    rw [← h2,← h4]
    exact List.pairwise_iff_getElem.1 hL.rise k _ h1 h3 (by omega)
   have hcy:=hb _ y (by omega) hy
   have hny:=notVoted hL ho (show (l.past o).lv < y by omega)
   unfold cdE at hcy
   rw [decide_eq_true (show dyG l o ≤ y ∧ 0 < y ∧ (l.past o).lv < y by omega),Bool.true_and] at hcy
   have hpy:primB l.n o y = true:=by cases e:primB l.n o y with | true=>rfl | false=>rw [e] at hcy;cases hcy
   unfold ctE
   rw [decide_eq_true (show ¬ y < dyG l o ∧ y ≠ 0 by omega),hny,hpy]
   rfl]
 have he:exE l o v = false:=by unfold exE;rw [hd,hnv];rfl
 simp only [he,Bool.false_eq_true,if_false]
theorem dyE_no (hL:LI l T) (ho:o < l.n) (h0:∀ v ∈ viewsU l,0 ≤ v) (hb:∀ (j:Nat) x,(viewsU l)[j]? = some x→cdE l o x = false):dyE l o = none:=by
 unfold dyE;rw [entV_find]
 cases h:(viewsU l).reverse.find? (fun v=>!ctE l o v) with
 | none=>rfl
 | some v =>
  show (if exE l o v = true then none else some v) = none;by_cases he:exE l o v = true
  ·rw [if_pos he]
  ·exfalso;have hm:=List.mem_reverse.1 (List.mem_of_find?_eq_some h);have hct:=List.find?_some h
   have hct:ctE l o v = false:=by cases e:ctE l o v with | false=>rfl | true=>rw [e] at hct;cases hct
   unfold exE at he
   cases hd:decide (¬ v < dyG l o ∧ v ≠ 0) with
   | false=>rw [hd] at he;exact he rfl
   | true =>
    cases hs:(dyV l o v).isSome with
    | true=>rw [hs,Bool.or_true] at he;exact he rfl
    | false =>
     have hd2:=of_decide_eq_true hd;unfold ctE at hct
     rw [hd,hs] at hct;have hp:primB l.n o v = false:=hct;have hv0:=h0 v hm
     have htop:=(hL.wf o ho).top;have hg:dyG l o = (l.past o).g:=rfl
     have hne:v ≠ (l.past o).lv:=fun e=>by
      have:=voted_some (l.past o).all (l.past o).lv (l.past o).ln (by unfold PM.all;simp);rw [← e] at this
      have hs:(PM.voted (l.past o).all v).isSome = false:=hs;rw [this] at hs
      cases hs
     obtain ⟨j,hj⟩:=List.getElem?_of_mem hm
     have:=hb j v hj;unfold cdE at this
     rw [decide_eq_true (show dyG l o ≤ v ∧ 0 < v ∧ (l.past o).lv < v by omega),hp] at this;cases this
theorem LI.views0 (hL:LI l T):∀ v ∈ viewsU l,0 ≤ v:=fun w hw=>by
 have hn:=hL.n3
 obtain ⟨x,hx,rfl⟩:=List.mem_map.1 hw
 by_cases e:x.v = 0
 ·omega
 ·obtain ⟨p,hp,e2⟩:=hL.begun x hx e
  have hpl:primI l.n x.v < l.n:=by
   exact qdd
  have:=((hL.wf _ hpl).low p hp).1
  omega
section
variable (f:Frag) (F:List HP)
theorem rnext_no (hL:LI l T) {i:Int} (hi:i < 1 ∨ (l.n:Int) < i) :
  Fn Tryz.prog 34 [.pointer (some ⟨lb,0,none⟩),.int .i64 i,.slice pp pl pc,.int .u64 wish] f (logsH fl lb l::F) (NxP f (logsH fl lb l::F) sayZ):=by
 refine Fn.unpack fun i0 hi0=>?_;obtain ⟨V,vp,vc,pp,pc,cp,cc,qb,cs⟩:=i0;show Fn _ _ _ f (row lb 86 (lgC l.n l.known vp V.length vc pp pc cp cc)::slc vp V.length vc 129 4 (V.flatMap VV.vals)::lst (V.map VV.own)::fam (fun r=>pstH (qb r) (l.past r)) l.n::slc cp l.n cc 171 1 (chRow l cs)::fam (chFam l cs) l.n::F) _;rcases Decidable.em (i < 1) with h1 | h1
 ·exact qaG
 ·have h2:(l.n:Int) < i:=by omega
  exact qaG
theorem rnext_fn (hL:LI l T) (hT:T ≤ 254) (hodd:l.n % 2 = 1) (ho:o < l.n) (hfl:Le fl f) {sp:Option Addr} {sc:Nat} (hp:ListAt f sp 40 Req.vals pend) (hpl:pend.length ≤ 1000000) :
  Fn Tryz.prog 34 [.pointer (some ⟨lb,0,none⟩),.int .i64 ((o + 1:Nat):Int),.slice sp pend.length sc,.int .u64 wish] f (logsH fl lb l::F) (NxP f (logsH fl lb l::F) (sayX l o pend wish)):=by
 refine Fn.unpack fun i0 hi=>?_;have hn:=hL.n3;have hlen:=hi.len
 have hvs:=hi.vs;have hvl:=hL.vl
 have hz:0 < l.vs.length:=by obtain ⟨w,hw,_⟩:=hL.zero;exact List.length_pos_of_mem hw
 have hil:=hL.il o ho;obtain ⟨pbb,poff,hpp,rdp⟩:=hi.past (by omega)
 have hlog:=fun e G (he:Le f e) v=>lglog_fn e G (hfl.trans he) (lb:=lb) hL (by omega) hi (kn:=l.known) (pp:=i0.pp) (pc:=i0.pc) (cp:=i0.cp) (cc:=i0.cc) v;have hchg:=fun G v=>changed19_fn f G (lb:=lb) hL (by omega) hodd (kn:=l.known) (vp:=i0.vp) (vl:=i0.V.length) (vc:=i0.vc) (pp:=i0.pp) (pc:=i0.pc) (cp:=i0.cp) (cc:=i0.cc) (cs:=i0.cs) v
 obtain ⟨V,vp,vc,pp,pc,cp,cc,qb,cs⟩:=i0;have hlen:V.length = l.vs.length:=hlen;have hvs:V.map VV.w = l.vs:=hvs
 have hpp:pp = some ⟨pbb,poff,none⟩:=hpp;subst hpp
 have hUv:∀ (j:Nat) X,V[j]? = some X→(viewsU l)[j]? = some X.w.v:=fun j X h=>by
  unfold viewsU;rw [← hvs,List.map_map,List.getElem?_map,h];rfl
 have hUX:∀ (j:Nat) x,(viewsU l)[j]? = some x→∃ X,V[j]? = some X ∧ X.w.v = x:=fun j x h=>by
  unfold viewsU at h;rw [← hvs,List.map_map,List.getElem?_map] at h
  cases e:V[j]? with
  | none=>rw [e] at h;cases h
  | some X=>rw [e] at h;cases h;exact ⟨X,rfl,rfl⟩
 have hvo:=fun G=>pst_voted f G (qb o) (l.past o) (by omega) (dyG l o);have hvo:∀ G,Fn Tryz.prog 61 [.pointer (some ⟨qb o,0,none⟩),.int .u64 (dyG l o)] f (pstH (qb o) (l.past o)::G) (Ret (.tuple #[.int .i64 ((dyV l o (dyG l o)).getD 0),.bool (dyN l o)]) f (pstH (qb o) (l.past o)::G)):=hvo
 have hg0:=(hL.wf o ho).g0;have hg0:0 ≤ dyG l o:=hg0
 have hprim:=fun G v (hv:0 ≤ v)=>prim_fn f G (n:=l.n) (by omega) (v:=v) hv;have hpz:∀ v,decide (primZ l.n v = ((o + 1:Nat):Int)) = primB l.n o v:=fun v=>by unfold primZ primB;exact decide_eq_decide.2 (by omega)
 have hq:IntKind.i64.wrap (((l.n:Int) - 1).tdiv 2) = ((l.n / 2:Nat):Int):=by
  exact qbp
 have hcdE:∀ v,cdE l o v = (decide (dyG l o ≤ v ∧ 0 < v ∧ (l.past o).lv < v) && !primB l.n o v):=fun v=>rfl;have hfound:=fun k v (hU:(viewsU l)[k]? = some v) hc hb=>dyE_found hL ho hU hc hb
 have hnof:=fun hb=>dyE_no hL ho hL.views0 hb;have hpick:=fun j hj hb h=>sayX_pick (l:=l) (o:=o) (pend:=pend) (wish:=wish) (j:=j) hj hb h
 have hnone:=sayX_none (l:=l) (o:=o) (pend:=pend) (wish:=wish);have hC:sayR l o pend wish 0 = (bodW 3 wish 0,decide (dyG l o < wish) && decide (wish < 1073741824)):=rfl
 have hN:sayR l o pend wish 1 = (⟨4,dyG l o,0,Req.zero,chgQ l (dyG l o) l.n,noTag⟩,!dyN l o && (primB l.n o (dyG l o) && decide (((l.n / 2:Nat):Int) < ((chgQ l (dyG l o) l.n).length:Int)))):=rfl;have hE:∀ v,dyE l o = some v→sayR l o pend wish 2 = (bodW 5 v 0,true):=fun v h=>by show sayE l o = _;unfold sayE;rw [h]
 have hE0:dyE l o = none→sayR l o pend wish 2 = sayZ:=fun h=>by show sayE l o = _;unfold sayE;rw [h]
 have hP:sayR l o pend wish 3 = (if dyN l o && primB l.n o (dyG l o) then (match pend.find? (dyP l o) with | none=>sayZ | some r=>(⟨1,dyG l o,0,r,[],noTag⟩,true)) else sayZ):=rfl;have hKs:sayR l o pend wish 4 = (bodW 2 (dyG l o) ((dyV l o (dyG l o)).getD 0 + 1),dyN l o && (!primB l.n o (dyG l o) && decide ((dyV l o (dyG l o)).getD 0 < ((dyA l o).length:Int)))):=rfl
 have hdyP:∀ x,dyP l o x = (x.auth && !holdsB (dyA l o) x.client x.time):=fun x=>rfl;have hdA:dyA l o = allO (l.vw (dyG l o)):=rfl
 have hRl:(dyA l o).length ≤ 50000:=by
  rw [hdA]
  cases hv:l.vw (dyG l o) with
  | none=>exact Nat.zero_le _
  | some w=>have:=hL.al w (vw_v hv).2;show w.all.length ≤ _;omega
 have hvoR:0 ≤ (dyV l o (dyG l o)).getD 0 ∧ (dyV l o (dyG l o)).getD 0 ≤ 100000:=by
  cases hv:dyV l o (dyG l o) with
  | none=>exact ⟨Int.le_refl 0,by show (0:Int) ≤ _;omega⟩
  | some k =>
   obtain ⟨i,w,_,hw,_,h1,h2⟩:=hL.voted ho hv
   have:=hL.al w (List.mem_of_getElem? hw);exact ⟨h1,by show k ≤ _;omega⟩
 have hql:=chgQ_half l (dyG l o) l.n;have hpg:(l.past o).g = dyG l o:=rfl
 have hlg:=fun e G he=>hlog e G he (dyG l o);have hch:=fun G=>hchg G (dyG l o)
 have hv00:=hL.views0;clear hlog hchg
 generalize (dyV l o (dyG l o)).getD 0 = vo at *;generalize dyN l o = en at *;generalize hgg:dyG l o = g at *;generalize sayR l o pend wish = sr at *;obtain ⟨lv,hlv⟩:∃ lv,lv = (l.past o).lv:=⟨_,rfl⟩;rw [← hlv] at hcdE;show Fn _ _ _ f (row lb 86 (lgC l.n l.known vp V.length vc (some ⟨pbb,poff,none⟩) pc cp cc)::slc vp V.length vc 129 4 (V.flatMap VV.vals)::lst (V.map VV.own)::fam (fun r=>pstH (qb r) (l.past r)) l.n::slc cp l.n cc 171 1 (chRow l cs)::fam (chFam l cs) l.n::F) _;refine Fn.e4 Tryz.func34 Tryz.ntmps34 fun base=>?_;refine H.Aw (p:=vp) (n0:=V.length) (c:=vc) (T:=129) (sz:=4) (xs:=V.flatMap VV.vals) (.there _ (.here _ _ _)) (by omega) fun vb hvb=>?_;subst hvb;refine gA ?_;refine qds fun ob=>?_;refine gP ?_;refine H.Ag (b:=pbb) (off:=poff) (i:=o) rfl rfl rfl (by omega) ho rfl ?_;refine H.Ab rfl rfl rfl (by rw [Nat.mul_one];exact rdp hfl ho) rfl ?_;refine qfe ?_;refine H.Bt ho ?_;refine zbw fun eb ec=>?_;rw [hpg];have hpst:∀ (A:List HP) x,stars (row (qb o) 140 [.int .u64 g,.slice (some ⟨eb,0,none⟩) ((l.past o).init.length + 1) ec]::slc (some ⟨eb,0,none⟩) ((l.past o).init.length + 1) ec 153 2 (flatV voteV (l.past o).all)::A) x→stars (pstH (qb o) (l.past o)::A) x:=fun A=>by rw [← hpg];exact zba
 by_cases hw1:g < wish ∧ wish < 1073741824
 ·obtain ⟨hw1,hw2⟩:=hw1;have hx:=hpick 0 (by omega) (fun i hi=>by omega) (by rw [hC,decide_eq_true hw1,decide_eq_true hw2];rfl);rw [hx,hC,decide_eq_true hw1,decide_eq_true hw2]
  refine ge ?_;skip;refine H.Af (ls:=(Bod.zero 0).vals none 0) (vs:=(bodW 3 wish 0).vals none 0) (ls':=(bodW 3 wish 0).vals none 0) rfl rfl rfl (zaa rfl) rfl rfl (Nat.le_refl 76) (by repeat constructor) ?_;refine gV ?_;refine H.pf (x:=slc (some ⟨eb,0,none⟩) _ ec _ 2 _) ?_;refine H.pf (x:=row (qb o) _ _) ?_;refine H.imp (hpst _) ?_;refine qij ?_;refine qez ?_;exact H.Ce (ls:=(bodW 3 wish 0).vals none 0) rfl rfl rfl rfl (Rd.ofRow (.here _ _ _)) rfl (fun _ s=>s.drop (.here _ _)) ⟨nil0,none,0,Dj.nil _,rfl,QAt.nil _ _,(un_nil _).symm,rfl⟩
 ·have h0:(sr 0).2 = false:=by
   rw [hC];by_cases h:g < wish
   ·rw [decide_eq_true h,decide_eq_false fun h2=>hw1 ⟨h,h2⟩];rfl
   ·rw [decide_eq_false h];rfl
  refine (fun (tail:True→?T)=>?main) ?pf
  case main =>
   by_cases h:g < wish
   ·have h2:¬ wish < 1073741824:=fun h2=>hw1 ⟨h,h2⟩;refine gY ?_
    exact qbq
   ·skip;refine gT ?_;exact qbq
  case pf =>
   intro _;clear hw1 hC;refine H.Ah rfl rfl rfl (hprim _ g hg0) ?_;refine gG ?_;rw [hpz];refine H.pf (x:=slc (some ⟨eb,0,none⟩) _ ec _ 2 _) ?_;refine H.pf (x:=row (qb o) _ _) ?_;refine H.imp (hpst _) ?_;refine H.cr (hvo _) ?_;refine qij ?_;refine gZ ?_;obtain ⟨pb,hpb⟩:∃ pb,pb = primB l.n o g:=⟨_,rfl⟩;rw [← hpb] at hN hP hKs ⊢;refine qfi ?_;refine qgL ?_;refine qdr ?_;refine H.ce (hch _) fun s=>?_;obtain ⟨qp,qc⟩:=s;generalize chgQ l g l.n = Q at *;show H _ _ _ _ _ (qs qp qc Q::row lb _ _::slc cp _ cc _ _ _::fam _ _::_) _;by_cases hnv:pb = true ∧ en = false ∧ Q.length = l.n / 2 + 1
   ·obtain ⟨rfl,rfl,hQ⟩:=hnv;have hx:=hpick 1 (by omega) (fun i hi=>by rw [show i = 0 by omega];exact h0) (by rw [hN,decide_eq_true (show ((l.n / 2:Nat):Int) < (Q.length:Int) by omega)];rfl);rw [hx,hN,decide_eq_true (show ((l.n / 2:Nat):Int) < (Q.length:Int) by omega)]
    refine ge ?_;refine qeN ?_;repeat (first | (refine H.Am (t:=47) (out:=(⟨4,g,0,Req.zero,Q,noTag⟩:Bod).vals qp qc) rfl rfl rfl (by kernel_rfl) rfl ?_) | (refine gg ?_))
    refine H.Af (ls:=(Bod.zero 0).vals none 0) (vs:=(⟨4,g,0,Req.zero,Q,noTag⟩:Bod).vals qp qc) (ls':=(⟨4,g,0,Req.zero,Q,noTag⟩:Bod).vals qp qc) rfl rfl rfl (zaa rfl) rfl rfl (Nat.le_refl 76) (by repeat constructor) ?_;refine gV ?_;refine H.pf (x:=qs qp qc Q) ?_;refine H.Cq (.here _ _) fun gq hgq hdq=>?_;have hqa:=qs_qat hgq hdq;refine qez ?_
    exact H.Ce (ls:=(⟨4,g,0,Req.zero,Q,noTag⟩:Bod).vals qp qc) rfl rfl rfl rfl (Rd.ofRow (.here _ _ _)) rfl (fun _ s=>s.drop (.here _ _)) ⟨gq,qp,qc,hdq,rfl,hqa,rfl,rfl⟩
   ·have h1:(sr 1).2 = false:=by
     rw [hN]
     cases en with
     | true=>rfl
     | false =>
      cases pb with
      | false=>rfl
      | true=>show decide _ = false;exact decide_eq_false fun h=>hnv ⟨rfl,rfl,by omega⟩
    refine (fun (tail:True→?T)=>?main) ?pf
    case main =>
     by_cases hpe:pb = true ∧ en = false
     ·have hQ:¬ Q.length = l.n / 2 + 1:=fun h=>hnv ⟨hpe.1,hpe.2,h⟩;have hb1:=hpe.1
      have hb2:=hpe.2;have hb3:(!en) = true:=by rw [hb2];rfl
      refine ge ?_;refine qeN ?_;refine gY ?_;exact qaI
     ·rcases (by cases pb <;> simp:pb = false ∨ pb = true) with hb1 | hb1
      ·skip;refine ge ?_;exact qaI
      ·skip;have hb2:en = true:=by cases en with | true=>rfl | false=>exact absurd ⟨hb1,rfl⟩ hpe
       have hb3:(!en) = false:=by rw [hb2];rfl
       refine ge ?_;exact qaI
    case pf =>
     intro _;clear hnv hN hch;refine qfe ?_;refine H.Bt ho ?_;refine zbw fun eb ec=>?_;have hvlv:(flatV voteV (l.past o).all)[(l.past o).init.length * 2 + 0]? = some (.int .u64 lv):=by rw [hlv];exact votes_lv _
     refine qg ?_;refine HQ.Ak rfl rfl rfl rfl (by omega) rfl ?_;refine gc ?_;refine HQ.Ab rfl rfl rfl (.at0 (Rd.ofSlc (by repeat constructor) (by omega)) hvlv) rfl ?_;refine gK ?_;refine H.imp zba ?_;refine H.Cf (g:=fun r=>pstH (qb r) (l.past r)) ho ?_;refine gO ?_;refine qdu ?_;refine qfz ?_
     refine H.lo (ι:=Nat) (fun k=>(17,.int .i64 ((k:Int) - 1))::(16,.int .u64 lv)::[(14,.bool en),(13,.int .i64 vo),(12,.bool pb),(11,.int .u64 g),(10,.pointer (some ⟨qb o,0,none⟩)),(9,.bool false),(8,.pointer (some ⟨ob,0,none⟩)),(3,.int .u64 wish),(2,.slice sp pend.length sc),(1,.int .i64 ((o + 1:Nat):Int)),(0,.pointer (some ⟨lb,0,none⟩))]) (fun _=>f)
      (fun _=>row ob 47 ((Bod.zero 0).vals none 0)::row lb 86 (lgC l.n l.known (some ⟨vb,0,none⟩) V.length vc (some ⟨pbb,poff,none⟩) pc cp cc)::slc (some ⟨vb,0,none⟩) V.length vc 129 4 (V.flatMap VV.vals)::lst (V.map VV.own)::fam (fun r=>pstH (qb r) (l.past r)) l.n::slc cp l.n cc 171 1 (chRow l cs)::fam (chFam l cs) l.n::F) (fun k=>k ≤ V.length ∧ ∀ j X,k ≤ j→V[j]? = some X→cdE l o X.w.v = false) (fun k=>k)
      V.length ⟨Nat.le_refl _,fun j X hj hX=>by have:=(List.getElem?_eq_some_iff.1 hX).1;omega⟩ fun k hk=>?_
     obtain ⟨hk,hb⟩:k ≤ V.length ∧ ∀ j X,k ≤ j→V[j]? = some X→cdE l o X.w.v = false:=hk;show H _ _ _ ((17,.int .i64 ((k:Int) - 1))::_) _ _ _;by_cases h0k:0 < k
     ·obtain ⟨j,rfl⟩:∃ j,k = j + 1:=⟨k - 1,by omega⟩;obtain ⟨X,hX⟩:∃ X,V[j]? = some X:=⟨_,List.getElem?_eq_getElem (by omega)⟩;have hki:(((j + 1:Nat):Int) - 1) = (j:Int):=by omega
      rw [hki];have hcX:=hcdE X.w.v;have hrdX:∀ {G:List HP},Rd1 f (row ob 47 ((Bod.zero 0).vals none 0)::row lb 86 (lgC l.n l.known (some ⟨vb,0,none⟩) V.length vc (some ⟨pbb,poff,none⟩) pc cp cc)::slc (some ⟨vb,0,none⟩) V.length vc 129 4 (V.flatMap VV.vals)::G) vb (0 + j * 4) (.int .u64 X.w.v):=fun {G}=>Rd1.of (i:=0) (by rw [show Nat.add 0 (j * 4) = j * 4 from Nat.zero_add _];exact Rd.slcElem VV.len (by decide) (.there _ (.there _ (.here _ _ _))) hX) rfl
      have hb2:cdE l o X.w.v = false→∀ j' Y,j ≤ j'→V[j']? = some Y→cdE l o Y.w.v = false:=fun hc j' Y hj' hY=>by
       by_cases e:j' = j
       ·subst e;rw [hX] at hY;cases hY;exact hc
       ·exact hb j' Y (by omega) hY
      by_cases c1:g ≤ X.w.v ∧ 0 < X.w.v ∧ lv < X.w.v
      ·obtain ⟨c1,c2,c3⟩:=c1;rw [decide_eq_true (show g ≤ X.w.v ∧ 0 < X.w.v ∧ lv < X.w.v from ⟨c1,c2,c3⟩)] at hcX;have hpr:=fun G=>hprim G X.w.v (by omega);refine gL ?_
       refine H.Ag (i:=j) rfl rfl rfl rfl (by omega) rfl ?_;refine gN ?_;refine H.Ab rfl rfl rfl hrdX rfl ?_;refine gH ?_;refine H.cr (hpr _) ?_;by_cases hpX:primZ l.n X.w.v = ((o + 1:Nat):Int)
       ·have hc:cdE l o X.w.v = false:=by rw [hcX,← hpz,decide_eq_true hpX];rfl
        refine gY ?_;exact H.ag j ⟨by omega,hb2 hc⟩ (by show j < j + 1;omega)
       ·have hc:cdE l o X.w.v = true:=by rw [hcX,← hpz,decide_eq_false hpX];rfl
        have hdy:=hfound j X.w.v (hUv j X hX) hc fun j' x hj' hx=>by
         obtain ⟨Y,hY,e⟩:=hUX j' x hx;rw [← e];exact hb j' Y (by omega) hY
        have hx:=hpick 2 (by omega) (fun i hi=>by
         match i,hi with
         | 0,_=>exact h0
         | 1,_=>exact h1) (by rw [hE _ hdy])
        rw [hx,hE _ hdy];refine gT ?_;skip;refine H.Af (ls:=(Bod.zero 0).vals none 0) (vs:=(bodW 5 X.w.v 0).vals none 0) (ls':=(bodW 5 X.w.v 0).vals none 0) rfl rfl rfl (zaa rfl) rfl rfl (Nat.le_refl 76) (by repeat constructor) ?_;refine gV ?_;refine qez ?_;exact H.Ce (ls:=(bodW 5 X.w.v 0).vals none 0) rfl rfl rfl rfl (Rd.ofRow (.here _ _ _)) rfl (fun _ s=>s.drop (.here _ _)) ⟨nil0,none,0,Dj.nil _,rfl,QAt.nil _ _,(un_nil _).symm,rfl⟩
      ·have hc:cdE l o X.w.v = false:=by rw [hcX,decide_eq_false c1];rfl
       by_cases d1:g ≤ X.w.v
       ·by_cases d2:0 < X.w.v
        ·have d3:¬ lv < X.w.v:=fun h=>c1 ⟨d1,d2,h⟩;exact qaV
        ·exact qaV
       ·exact qaV
     ·have hdy:=hnof fun j x hx=>by
       obtain ⟨Y,hY,e⟩:=hUX j x hx;rw [← e];exact hb j Y (by omega) hY
      have hE:=hE0 hdy
      have hb3:∀ i,i < 3→(sr i).2 = false:=fun i hi=>by
       match i,hi with
       | 0,_=>exact h0
       | 1,_=>exact h1
       | 2,_=>rw [hE];rfl
      clear hb hfound hnof h0 h1 hE hdy hE0 hk;have ek:k = 0:=by omega
      subst ek
      cases en with
      | false =>
       rw [hnone fun i hi=>by
        match i,hi with
        | 0,_=>exact hb3 0 (by omega)
        | 1,_=>exact hb3 1 (by omega)
        | 2,_=>exact hb3 2 (by omega)
        | 3,_=>rw [hP];rfl
        | 4,_=>rw [hKs];rfl]
       refine gX ?_;skip;refine qgF ?_;exact qat
      | true =>
       obtain ⟨R,hR⟩:∃ R,R = dyA l o:=⟨_,rfl⟩;rw [← hR] at hKs hdyP hRl hdA;refine gX ?_;refine qfv ?_;refine H.pf (x:=slc (some ⟨vb,0,none⟩) _ vc _ 4 _) ?_;refine qdr ?_;refine H.Al rfl rfl rfl (hlg f _ (Le.refl f)) fun v f' A' hr=>?_;obtain ⟨p3,c3,rfl,hff,rfl⟩:=hr;rw [hff,← hdA];clear hff hlg hdA hR;show H _ _ _ _ _ (slc p3 _ c3 _ _ _::row lb _ _::slc _ _ vc _ _ _::lst _::_) _
       cases pb with
       | false =>
        have hb4:∀ i,i < 4→(sr i).2 = false:=fun i hi=>by
         by_cases e:i = 3
         ·rw [e,hP];rfl
         ·exact hb3 i (by omega)
        by_cases hh:vo < (R.length:Int)
        ·have hx:=hpick 4 (by omega) hb4 (by rw [hKs,decide_eq_true hh];rfl);rw [hx,hKs,decide_eq_true hh]
         have hw1:IntKind.u64.wrap vo = vo:=wr_u64 (by omega);refine gP ?_
         skip;refine H.Af (ls:=(Bod.zero 0).vals none 0) (vs:=(bodW 2 g (vo + 1)).vals none 0) (ls':=(bodW 2 g (vo + 1)).vals none 0) rfl rfl rfl (zaa rfl) rfl rfl (Nat.le_refl 76) (by repeat constructor) ?_;refine gV ?_;refine H.pd (x:=slc p3 _ c3 _ _ _) ?_;refine qez ?_;exact H.Ce (ls:=(bodW 2 g (vo + 1)).vals none 0) rfl rfl rfl rfl (Rd.ofRow (.here _ _ _)) rfl (fun _ s=>s.drop (.here _ _)) ⟨nil0,none,0,Dj.nil _,rfl,QAt.nil _ _,(un_nil _).symm,rfl⟩
        ·rw [hnone fun i hi=>by
          by_cases e:i = 4
          ·rw [e,hKs,decide_eq_false hh];rfl
          ·exact hb4 i (by omega)]
         refine qdI ?_;refine H.pd (x:=slc p3 _ c3 _ _ _) ?_;exact qat
       | true =>
        have hP:sr 3 = (match pend.find? (dyP l o) with | none=>sayZ | some r=>(⟨1,g,0,r,[],noTag⟩,true)):=hP;have hK0:(sr 4).2 = false:=by rw [hKs];rfl
        clear hKs hprim hvo;refine gO ?_;refine qdu ?_;refine qfz ?_;refine H.pf (x:=slc p3 _ c3 _ 40 _) ?_
        refine H.lo (ι:=Nat) (fun j=>[(21,.int .i64 (j:Int)),(19,.slice p3 R.length c3),(11,.int .u64 g),(9,.bool false),(8,.pointer (some ⟨ob,0,none⟩)),(2,.slice sp pend.length sc)]) (fun _=>f)
         (fun _=>slc p3 R.length c3 44 40 (R.flatMap Req.vals)::row ob 47 ((Bod.zero 0).vals none 0)::row lb 86 (lgC l.n l.known (some ⟨vb,0,none⟩) V.length vc (some ⟨pbb,poff,none⟩) pc cp cc)::slc (some ⟨vb,0,none⟩) V.length vc 129 4 (V.flatMap VV.vals)::lst (V.map VV.own)::fam (fun r=>pstH (qb r) (l.past r)) l.n::slc cp l.n cc 171 1 (chRow l cs)::fam (chFam l cs) l.n::F) (fun j=>j ≤ pend.length ∧ ∀ i x,i < j→pend[i]? = some x→dyP l o x = false) (fun j=>pend.length - j)
         0 ⟨Nat.zero_le _,fun i x hi=>by omega⟩ fun j hj=>?_
        obtain ⟨hj,hb⟩:j ≤ pend.length ∧ ∀ i x,i < j→pend[i]? = some x→dyP l o x = false:=hj;by_cases hjl:j < pend.length
        ·obtain ⟨x,hx⟩:∃ x,pend[j]? = some x:=⟨_,List.getElem?_eq_getElem hjl⟩;obtain ⟨b,off,cs2,Tt,fr,rfl,hfb,hcs⟩:=hp j x hx;have rd:∀ A,Rd f A b (off + j * 40) x.vals:=fun A=>Rd.imm hfb hcs;have hau:=fun G=>rauth_fn f G x
         have hpx0:=hdyP x;refine qeo fun tb=>?_
         refine H.Af (ls:=Req.zero.vals) (vs:=x.vals) (ls':=x.vals) rfl rfl rfl (zaa rfl) rfl rfl (Nat.le_refl 40) (.here _ _ _) ?_;refine gV ?_;refine H.pf (x:=slc p3 _ c3 _ 40 _) ?_
         refine H.lo (ι:=Nat) (fun q=>[(24,.int .i64 (q:Int)),(23,.bool (holdsB (R.take q) x.client x.time)),(22,.pointer (some ⟨tb,0,none⟩)),(21,.int .i64 (j:Int)),(19,.slice p3 R.length c3),(11,.int .u64 g),(9,.bool false),(8,.pointer (some ⟨ob,0,none⟩)),(2,.slice (some ⟨b,off,none⟩) pend.length sc)]) (fun _=>f)
          (fun _=>slc p3 R.length c3 44 40 (R.flatMap Req.vals)::row tb 44 x.vals::row ob 47 ((Bod.zero 0).vals none 0)::row lb 86 (lgC l.n l.known (some ⟨vb,0,none⟩) V.length vc (some ⟨pbb,poff,none⟩) pc cp cc)::slc (some ⟨vb,0,none⟩) V.length vc 129 4 (V.flatMap VV.vals)::lst (V.map VV.own)::fam (fun r=>pstH (qb r) (l.past r)) l.n::slc cp l.n cc 171 1 (chRow l cs)::fam (chFam l cs) l.n::F) (fun q=>q ≤ R.length) (fun q=>R.length - q)
          0 (Nat.zero_le _) fun q hq=>?_
         have hq:q ≤ R.length:=hq;by_cases hql:q < R.length
         ·obtain ⟨y,hy⟩:∃ y,R[q]? = some y:=⟨_,List.getElem?_eq_getElem hql⟩
          have hsn:holdsB (R.take (q + 1)) x.client x.time = (holdsB (R.take q) x.client x.time || (decide (y.client = x.client) && decide (y.time = x.time))):=by
           unfold holdsB;rw [zbm hy,List.any_append];show (_ || (_ || false)) = _;rw [Bool.or_false]
          refine H.Aw (p:=p3) (n0:=R.length) (c:=c3) (T:=44) (sz:=40) (xs:=R.flatMap Req.vals) (.here _ _ _) (by omega) fun sb hps=>?_;subst hps;have rdy:∀ {G:List HP},Rd f (slc (some ⟨sb,0,none⟩) R.length c3 44 40 (R.flatMap Req.vals)::G) sb (0 + q * 40) y.vals:=fun {G}=>by rw [Nat.zero_add];exact Rd.slcElem Req.len (by decide) (.here _ _ _) hy
          generalize holdsB (R.take q) x.client x.time = hv at hsn ⊢
          cases hv with
          | true =>
           have hsn:holdsB (R.take (q + 1)) x.client x.time = true:=hsn;refine qhK ?_
           exact qaN
          | false =>
           by_cases e1:y.client = x.client
           ·rw [decide_eq_true e1] at hsn;have hsn:holdsB (R.take (q + 1)) x.client x.time = decide (y.time = x.time):=hsn;refine qfQ ?_
            refine gS ?_;refine HQ.Ag (i:=q) rfl rfl rfl rfl hql rfl ?_;refine gc ?_;refine HQ.Ab rfl rfl rfl (Rd1.of (i:=1) rdy rfl) rfl ?_;exact qaN
           ·rw [decide_eq_false e1] at hsn;have hsn:holdsB (R.take (q + 1)) x.client x.time = false:=hsn;refine qfQ ?_
            exact qaN
         ·have eq:q = R.length:=by omega
          subst eq;rw [List.take_length]
          have hbn:dyP l o x = false→∀ i y,i < j + 1→pend[i]? = some y→dyP l o y = false:=fun h i y hi hy=>by
           by_cases e:i = j
           ·subst e;rw [hx] at hy;cases hy;exact h
           ·exact hb i y (by omega) hy
          generalize holdsB R x.client x.time = hv at hpx0 ⊢
          cases hxa:x.auth with
          | false =>
           rw [hxa] at hau hpx0;refine qfD ?_;refine gX ?_;exact qbX
          | true =>
           rw [hxa] at hau hpx0
           cases hv with
           | true =>
            refine qfD ?_;refine gI ?_;exact qbX
           | false =>
            have hP:=hP.trans (by rw [find_at hx hpx0 hb]);have hxx:=hpick 3 (by omega) hb3 (by rw [hP])
            rw [hxx,hP];refine qfD ?_;refine gX ?_;refine H.Ae (ls:=x.vals) rfl rfl rfl (Rd.ofRow (by repeat constructor)) rfl rfl ?_;repeat ((refine H.Am (t:=47) (out:=(⟨1,g,0,x,[],noTag⟩:Bod).vals none 0) rfl rfl rfl (by kernel_rfl) rfl ?_))
            refine qgc ?_;refine gV ?_;refine qgH ?_;refine H.pd (x:=slc p3 _ c3 _ 40 _) ?_;refine qdu ?_;refine H.imp (zah ⟨V,some ⟨vb,0,none⟩,vc,some ⟨pbb,poff,none⟩,pc,cp,cc,qb,cs⟩ hi) ?_;exact qbE
        ·have hP:=hP.trans (by rw [find_no fun i y hy=>hb i y (by have:=(List.getElem?_eq_some_iff.1 hy).1;omega) hy])
         rw [hnone fun i hi=>by
          by_cases e:i = 4
          ·rw [e];exact hK0
          ·by_cases e3:i = 3
           ·rw [e3,hP];rfl
           ·exact hb3 i (by omega)]
         refine qdI ?_;refine H.pd (x:=slc p3 _ c3 _ 40 _) ?_;exact qat
end
theorem body_dig {f:Frag} {A:List HP} {bb:Nat} {T:TypeId} {x:Bod} {q:Option Addr} {qc:Nat} (h:At A (row bb T (x.vals q qc)) A' (row bb T (x.vals q qc))):Rd f A bb (0 + 44) (b32 x.dig):=by
 have h1:=Rd.ofRow (f:=f) h;have e:x.vals q qc = ([.int .u8 (x.kind.toNat:Nat),.int .u64 x.view,.int .u64 x.k] ++ x.req.vals ++ [.slice q x.q.length qc]) ++ b32 x.dig ++ []:=by unfold Bod.vals;simp only [List.append_assoc,List.append_nil]
 exact qbQ
def opV (r:Req):List Value:=[.int .u8 (r.kind.toNat:Nat),.string r.key,.string r.val,.string r.old,.string r.to,.int .u64 r.amount]
theorem opV_len (r:Req):(opV r).length = 6:=rfl
def AnyB (f:Frag) (A:List HP):Value→Frag→List HP→Prop:=RetP (fun _:Bool=>True) (fun b=>.bool b) f (fun _=>A)
section
variable (f:Frag) (F:List HP)
theorem same19_fn {b:Bod} {p2:Option Addr} {c2:Nat} (h1:QAt f p b.q) (h2:QAt f p2 b.q) (hl:b.q.length ≤ 1000000) :
  Fn Tryz.prog 35 [.agg (b.vals p c).toArray,.agg (b.vals p2 c2).toArray] f F (Ret (.bool true) f F):=by
 have he:eqC b.req.vals b.req.vals = true:=eqC_refl rfl;have he2:eqC (b32 b.dig) (b32 b.dig) = true:=eqC_refl rfl
 refine Fn.e2 Tryz.func35 Tryz.ntmps35 fun base=>?_;refine gA ?_;refine H.box (ls:=b.vals p c) rfl rfl rfl rfl fun xb=>?_;refine H.box (ls:=b.vals p2 c2) rfl rfl rfl rfl fun yb=>?_;refine gP ?_;refine H.Ae (ls:=b.req.vals) rfl rfl rfl (body_req (x:=b) (q:=p) (qc:=c) (.there _ (.here _ _ _))) rfl rfl ?_;refine gN ?_;refine H.Ae (ls:=b.req.vals) rfl rfl rfl (body_req (x:=b) (q:=p2) (qc:=c2) (.here _ _ _)) rfl rfl ?_;refine H.aggNe (xs:=b.req.vals) (ys:=b.req.vals) (D:=4) (b:=false) rfl rfl rfl rfl (by kernel_rfl) (by kernel_rfl) (by kernel_rfl) (by kernel_rfl) (by decide) (by rw [he];rfl) rfl ?_;refine gO ?_;refine H.Ae (ls:=b32 b.dig) rfl rfl rfl (body_dig (x:=b) (q:=p) (qc:=c) (.there _ (.here _ _ _))) rfl rfl ?_;refine gN ?_;refine H.Ae (ls:=b32 b.dig) rfl rfl rfl (body_dig (x:=b) (q:=p2) (qc:=c2) (.here _ _ _)) rfl rfl ?_;refine H.aggNe (xs:=b32 b.dig) (ys:=b32 b.dig) (D:=4) (b:=false) rfl rfl rfl rfl (by kernel_rfl) (by kernel_rfl) (by kernel_rfl) (by kernel_rfl) (by decide) (by rw [he2];rfl) rfl ?_;refine gP ?_
 refine H.lo (ι:=Nat) (fun i=>[(5,.int .i64 (i:Int)),(3,.pointer (some ⟨yb,0,none⟩)),(2,.pointer (some ⟨xb,0,none⟩))]) (fun _=>f) (fun _=>row yb 47 (b.vals p2 c2)::row xb 47 (b.vals p c)::F) (fun i=>i ≤ b.q.length) (fun i=>b.q.length - i)
  0 (Nat.zero_le _) fun i hi=>?_
 have hi:i ≤ b.q.length:=hi;by_cases hlt:i < b.q.length
 ·obtain ⟨y,hy⟩:∃ y,b.q[i]? = some y:=⟨_,List.getElem?_eq_getElem hlt⟩;obtain ⟨b1,o1,cs1,T1,fr1,hp1,hf1,hc1⟩:=h1 i y hy;obtain ⟨b3,o3,cs3,T3,fr3,hp3,hf3,hc3⟩:=h2 i y hy;have hey:eqC (pairV y) (pairV y) = true:=eqC_refl rfl;refine gY ?_
  refine qg ?_;refine HQ.Ag (b:=b1) (off:=o1) (i:=i) rfl (by rw [← hp1];rfl) rfl rfl hlt rfl ?_;refine HQ.Ae (ls:=pairV y) rfl rfl rfl (Rd.imm hf1 hc1) rfl rfl ?_;refine gc ?_;refine HQ.Ag (b:=b3) (off:=o3) (i:=i) rfl (by rw [← hp3];rfl) rfl rfl hlt rfl ?_;refine HQ.Ae (ls:=pairV y) rfl rfl rfl (Rd.imm hf3 hc3) rfl rfl ?_;refine HQ.aggNe (xs:=pairV y) (ys:=pairV y) (D:=4) (b:=false) rfl rfl rfl rfl (by kernel_rfl) (by kernel_rfl) (by kernel_rfl) (by kernel_rfl) (by decide) (by rw [hey];rfl) rfl ?_;refine gK ?_;refine gU ?_;exact H.ag (i + 1) (by show i + 1 ≤ b.q.length;omega) (by show b.q.length - (i + 1) < b.q.length - i;omega)
 ·skip;refine gY ?_;refine qdN ?_;exact qaZ
theorem few09_fn {R:List Req} (hl:R.length ≤ 9223372036854775807) :
  Fn Tryz.prog 64 [.slice p R.length c] f (slc p R.length c 41 6 (R.flatMap opV)::F) (AnyB f (slc p R.length c 41 6 (R.flatMap opV)::F)):=by
 by_cases h150:R.length ≤ 150
 ·refine Fn.e1 Tryz.func64 Tryz.ntmps64 fun base=>?_;refine gW ?_;refine H.lo (ι:=Nat) (fun i=>[(3,.int .i64 (i:Int)),(0,.slice p R.length c)]) (fun _=>f) (fun _=>slc p R.length c 41 6 (R.flatMap opV)::F) (fun i=>i ≤ R.length) (fun i=>R.length - i) 0 (Nat.zero_le _) fun i hi=>?_;have hi:i ≤ R.length:=hi;by_cases hlt:i < R.length
  ·obtain ⟨y,hy⟩:∃ y,R[i]? = some y:=⟨_,List.getElem?_eq_getElem hlt⟩;refine H.Aw (p:=p) (n0:=R.length) (c:=c) (T:=41) (sz:=6) (xs:=R.flatMap opV) (.here _ _ _) (by omega) fun sb hps=>?_;subst hps;have rdy:∀ {G:List HP},Rd f (slc (some ⟨sb,0,none⟩) R.length c 41 6 (R.flatMap opV)::G) sb (0 + i * 6) (opV y):=fun {G}=>by rw [Nat.zero_add];exact Rd.slcElem opV_len (by decide) (.here _ _ _) hy
   refine qhK ?_;refine qfH ?_;refine HQ.Ab rfl rfl rfl (Rd1.of (i:=1) rdy rfl) rfl ?_;refine HQ.Bl rfl rfl rfl ?_;refine qfH ?_;refine HQ.Ab rfl rfl rfl (Rd1.of (i:=2) rdy rfl) rfl ?_;refine HQ.Bl rfl rfl rfl ?_;refine HQ.ar rfl rfl rfl rfl rfl rfl ?_;refine qfH ?_;refine HQ.Ab rfl rfl rfl (Rd1.of (i:=3) rdy rfl) rfl ?_;refine HQ.Bl rfl rfl rfl ?_;refine HQ.ar rfl rfl rfl rfl rfl rfl ?_;refine qfH ?_;refine HQ.Ab rfl rfl rfl (Rd1.of (i:=4) rdy rfl) rfl ?_;refine HQ.Bl rfl rfl rfl ?_;refine HQ.ar rfl rfl rfl rfl rfl rfl ?_;refine gK ?_;refine gA ?_;refine H.cond_dec rfl (fun hc=>?_) (fun hc=>?_)
   ·refine gV ?_;exact H.r1 ⟨false,trivial,rfl,rfl,rfl⟩
   ·refine gU ?_;exact H.ag (i + 1) (by show i + 1 ≤ R.length;omega) (by show R.length - (i + 1) < R.length - i;omega)
  ·skip;refine gW ?_;exact H.r1 ⟨true,trivial,rfl,rfl,rfl⟩
 ·refine Fn.e1 Tryz.func64 Tryz.ntmps64 fun base=>?_;refine gG ?_;exact H.r1 ⟨false,trivial,rfl,rfl,rfl⟩
theorem few10_fn {R:List Req} (hp:ListAt f p 40 Req.vals R) (hl:R.length ≤ 1099511627776) :
  Fn Tryz.prog 29 [.slice p R.length c] f F (AnyB f F):=by
 refine Fn.e1 Tryz.func29 Tryz.ntmps29 fun base=>?_;refine gV ?_;refine H.slc0 41 6 ?_
 refine H.lo (ι:=Nat × Option Addr × Nat) (fun s=>[(4,.int .i64 (s.1:Int)),(3,.slice s.2.1 (R.take s.1).length s.2.2),(0,.slice p R.length c)]) (fun _=>f) (fun s=>slc s.2.1 (R.take s.1).length s.2.2 41 6 ((R.take s.1).flatMap opV)::F) (fun s=>s.1 ≤ R.length) (fun s=>R.length - s.1)
  (0,none,0) (Nat.zero_le _) fun s hs=>?_
 obtain ⟨i,qp,qc⟩:=s;have hi:i ≤ R.length:=hs;show H _ _ _ [(4,.int .i64 (i:Int)),(3,.slice qp (R.take i).length qc),_] f (slc qp (R.take i).length qc _ 6 ((R.take i).flatMap opV)::F) _
 have hti:(R.take i).length = i:=by rw [List.length_take];omega
 by_cases hlt:i < R.length
 ·obtain ⟨x,hx⟩:∃ x,R[i]? = some x:=⟨_,List.getElem?_eq_getElem hlt⟩;obtain ⟨b,off,cs,Tt,fr,rfl,hfb,hcs⟩:=hp i x hx;have rd:∀ A,Rd f A b (off + i * 40) x.vals:=fun A=>Rd.imm hfb hcs
  have rdo:∀ A,Rd f A b (off + i * 40 + 2) (opV x):=fun A=>by
   have h1:=rd A;have e:x.vals = [.int .i64 x.client,.int .u64 x.time] ++ opV x ++ b32 x.tag:=rfl
   exact qbQ
  have hsn:R.take (i + 1) = R.take i ++ [x]:=zbm hx;have hl1:(R.take (i + 1)).length = (R.take i).length + 1:=by rw [hsn,List.length_append];rfl
  refine gG ?_;refine qeW ?_;refine H.Ae (ls:=opV x) rfl rfl rfl (rdo _) rfl rfl ?_;refine H.Au (out:=opV x) rfl rfl rfl rfl (by decide) (by decide) rfl rfl fun eb=>?_;refine H.Ax (sz:=6) (p:=qp) (n0:=(R.take i).length) (c:=qc) (xs:=(R.take i).flatMap opV) (m:=1) (news:=opV x) rfl rfl rfl rfl rfl (fun p' c'=>(by repeat constructor)) (Src.slice (Rd.ofRow (by repeat constructor)) rfl) (zaa rfl) rfl (by omega) (by omega) fun p2 c2=>?_;refine gU ?_;refine qfX ?_;refine H.Ar (i + 1,p2,c2) (by show i + 1 ≤ R.length;omega) (by show R.length - (i + 1) < R.length - i;omega) ⟨rfl,by show _ = some (Value.slice p2 (R.take (i + 1)).length c2);rw [hl1];rfl,rfl,trivial⟩ rfl ?_;show _ = slc p2 (R.take (i + 1)).length c2 _ 6 ((R.take (i + 1)).flatMap opV)::_;rw [hl1,hsn,List.flatMap_append];rfl
 ·have e:i = R.length:=by omega
  rw [e];refine gW ?_;refine H.callP rfl rfl rfl (few09_fn f _ (by rw [List.length_take];omega)) fun b _=>?_;refine qfJ ?_;exact H.r1 ⟨b,trivial,rfl,rfl,rfl⟩
end
end Go.Proofs.YtgdhaledfjnfgaaGreatDoor
