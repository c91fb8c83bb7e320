/- Parts of the proof, one behind the other, each under its own heading. No conditions. -/
import Derived.Test.YtminmjlfmolfeaaGreatDoorZ09
import Derived.OrdersIn
set_option linter.unusedSectionVars false
set_option linter.unusedSimpArgs false
set_option linter.unusedVariables false
/- The engine, part y: a range over a function that a round leaves. No program in sight; no conditions. -/
set_option maxHeartbeats 6400000
set_option maxRecDepth 20000
namespace Go.Proofs.YtminmjlfmolfeaaGreatDoor
open Go
def loopJ (n:Nat) (L:Env) (lp:Nat) (ps:List Tmp) (assign body:Code) (D:Nat) (J:Option Code):HP:=fun h =>
 ∃ fn tmps,tmps.size = n ∧ (∀ i v,look? L i = some v→tmps[i]? = some v) ∧ pts lp (.loop { state:=if J.isNone then .ready else .done,pending:=J,fn,tmps,params:=ps.toArray,assign,body,defers:=D }) h
def jumpK (q:Post):Option Code→Kont
 | none=>.out .normal q
 | some c=>.code c q
variable {w:World} {L0:Env} {lp D n0 b id off b2 off2:Nat} {ps:List Tmp} {assign body y:Code} {J:Option Code} {tmps:Array Value} {R:Value→Frag→List HP→Prop} {g:Operand} {gf:FuncId} {fs cs:List Value} {fn:Func} {ty ty2:TypeId} {x:Value}
section
variable {P:Program} {base:World} {n:Nat} {L:Env} {f f':Frag} {A A':List HP} {q:Post}
theorem Sat.loopJ (s:Sat base w f (Go.Proofs.YtminmjlfmolfeaaGreatDoor.loopJ n L0 lp ps assign body D J::A)) :
  ∃ fn tmps,tmps.size = n ∧ (∀ i v,look? L0 i = some v→tmps[i]? = some v) ∧ Sat base w f (pts lp (.loop { state:=if J.isNone then .ready else .done,pending:=J,fn,tmps,params:=ps.toArray,assign,body,defers:=D })::A):=by
 exact qbH
theorem Sat.ofLoopJ {fn:FuncId} (h1:tmps.size = n) (h2:∀ i v,look? L0 i = some v→tmps[i]? = some v)
  (s:Sat base w f (pts lp (.loop { state:=if J.isNone then .ready else .done,pending:=J,fn,tmps,params:=ps.toArray,assign,body,defers:=D })::A)):Sat base w f (Go.Proofs.YtminmjlfmolfeaaGreatDoor.loopJ n L0 lp ps assign body D J::A):=by
 exact qbM
theorem H.endRoundR {b:Code} (h:R (.bool false) f (loopJ n0 L0 lp ps assign b D (some .ret)::A)):H P base n L f (loopH n0 L0 lp ps assign b D .busy::A) (.out .ret (roundP P lp base R)):=.mk fun a w hf s=>by
 obtain ⟨fn,tmps,h1,h2,s1⟩:=s.loop
 have hg:=s1.got (.here _ _ emp)
 refine ⟨_,_,run_endRound (some .ret) hg,_,f,_,rfl,h,Sat.ofLoopJ (fn:=fn) (tmps:=tmps) h1 h2 ?_⟩
 exact s1.set (.here _ _ _) rfl rfl rfl rfl
theorem H.endRoundX {b:Code} (h:R (.bool false) f (loopJ n0 L0 lp ps assign b D (some (.exit id))::A)):H P base n L f (loopH n0 L0 lp ps assign b D .busy::A) (.out (.exit id) (roundP P lp base R)):=.mk fun a w hf s=>by
 obtain ⟨fn,tmps,h1,h2,s1⟩:=s.loop
 have hg:=s1.got (.here _ _ emp)
 refine ⟨_,_,run_endRound (some (.exit id)) hg,_,f,_,rfl,h,Sat.ofLoopJ (fn:=fn) (tmps:=tmps) h1 h2 ?_⟩
 exact s1.set (.here _ _ _) rfl rfl rfl rfl
theorem H.retR (h:H P base n L f A (.out .ret q)):H P base n L f A (codeR P lp .ret q):=.mk fun a w hf s=>wpIn_ret (h.out a w hf s)
theorem H.exitR (h:H P base n L f A (.out (.exit id) q)):H P base n L f A (codeR P lp (.exit id) q):=.mk fun a w hf s=>wpIn_exit (h.out a w hf s)
theorem H.thenExitR (h:H P base n L f A (.out (.exit id) q)):H P base n L f A (.out (.exit id) (Go.Proofs.YtminmjlfmolfeaaGreatDoor.seqR P lp y q)):=.mk h.out
theorem H.rangeFuncJ {ι:Type} {J:ι→Option Code} {A':ι→Nat→List HP} [hfun:Fun P gf] (hg:ev? L g = some (.func (.func gf) fs.toArray cs.toArray)) (hmk:mk? L = none)
  (hc:∀ D lp,Fn P gf (fs ++ [.func (.yield lp) #[] #[]] ++ cs) f (loopH n L lp ps assign body D .ready::pts D (.deferred (some []))::A) (fun _ g B=>∃ i,g = f' ∧ B = loopJ n L lp ps assign body D (J i)::A' i D))
  (k:∀ i D,H P base n ((1000003,.pointer (some ⟨D,0,none⟩))::L) f' (A' i D) (jumpK q (J i))) :
  H P base n L f A (.code (.rangeFunc g ps.toArray assign body) q):=.mk fun a w hf s=>by
 refine wpIn_wide.1 (wpIn_rangeFunc (F:=Fence.wide) (n:=3) fun fn _=>?_)
 obtain ⟨fnc,e1,e2,e3⟩:=hfun.eq
 have hev:a.eval g = .func (.func gf) fs.toArray cs.toArray:=hf.eval hg
 have hd0:a.defers = []:=hf.bare hmk
 have sA:Sat base (w.alloc (.deferred (some []))) f (pts w.heap.size (.deferred (some []))::A):=s.alloc rfl rfl rfl rfl
 have sB:=sA.alloc (w':=(w.alloc (.deferred (some []))).alloc (.loop { state:=.ready,pending:=none,fn,tmps:=a.tmps,params:=ps.toArray,assign,body,defers:=w.heap.size })) rfl rfl rfl rfl
 rw [World.size_alloc] at sB
 have sC:Sat base _ f (loopH n L (w.heap.size + 1) ps assign body w.heap.size .ready::pts w.heap.size (.deferred (some []))::A):=Sat.ofLoop (fn:=fn) (tmps:=a.tmps) hf.size hf.get sB
 have hrun:=run_enterLoop_outer (P:=P) (w:=w) fn a.tmps ps.toArray assign body
 generalize (w.alloc (.deferred (some []))).alloc (.loop { state:=.ready,pending:=none,fn,tmps:=a.tmps,params:=ps.toArray,assign,body,defers:=w.heap.size }) = W at sC hrun
 have hcall:=hc w.heap.size (w.heap.size + 1) base W sC
 refine ⟨w.heap.size + 1,_,W,{ target:=.fn (.func gf) cs.toArray,args:=fs.toArray ++ #[Value.func (.yield (w.heap.size + 1)) #[] #[]] },W,gf,(fs ++ [Value.func (.yield (w.heap.size + 1)) #[] #[]] ++ cs).toArray,W,hrun,?_,fun _ _=>trivial,?_,(fun h=>by cases h),callsIn_wide.2 (hcall.mono ?_)⟩
 ·have:Array.map a.eval #[Operand.const (Value.func (.yield (w.heap.size + 1)) #[] #[])] = #[Value.func (.yield (w.heap.size + 1)) #[] #[]]:=by simp [Act.eval]
  simp only [rangeCall,resolve,hev,Deferred.ofValue,Sem.run_pure,this]
 ·simp only [invoke,callFunc,Sem.run_bind,run_program,Result.andThen_ok,e1,e2,e3,Bool.false_eq_true,if_false,Sem.run_pure]
  simp
 ·rintro e w' ⟨v,f1,B,rfl,⟨i,rfl,rfl⟩,s'⟩
  have hk:=k i w.heap.size
  generalize J i = j at hk s'
  obtain ⟨fn',tmps',h1,h2,s1⟩:=s'.loopJ
  have hgl:=s1.got (.here _ _ emp)
  have hend:=run_endLoop (P:=P) hgl (by cases j <;> simp)
  have hfr:Fr n { tmps:=a.tmps,defers:=[({ target:=.collected w.heap.size,args:=#[] }:Deferred)] ++ a.defers } ((1000003,.pointer (some ⟨w.heap.size,0,none⟩))::L):=by
   refine ⟨hf.size,hf.small,?_,fun j u hj=>?_⟩
   ·show _ ++ a.defers = dmOf _;rw [hd0];rfl
   ·have hl:=look?_lt hj;rw [look?_cons hl,if_neg (by omega)] at hj
    exact hf.get j u hj
  have hs2:∀ o,Sat base (w'.putObj (w.heap.size + 1) o) f1 (A' i w.heap.size):=fun o=>(s1.set (w':=w'.putObj (w.heap.size + 1) o) (.here _ _ (pts (w.heap.size + 1) o)) rfl rfl rfl rfl).drop (.here _ _)
  refine ⟨j,_,hend,?_⟩
  cases j with
  | none=>exact hk.out _ _ hfr (hs2 _)
  | some c=>exact wpIn_wide.2 (hk.out _ _ hfr (hs2 _))
theorem H.rangeFuncJE [hfun:Fun P gf] (hg:ev? L g = some (.func (.func gf) fs.toArray cs.toArray)) (hmk:mk? L = none)
  (hb : ∀ LJ : Nat → Nat → Option Code → HP, (LJ = fun D lp J => Go.Proofs.YtminmjlfmolfeaaGreatDoor.loopJ n L lp ps assign body D J) → ∃ (J : Option Code) (A' : Nat → List HP),
   (∀ D lp,Fn P gf (fs ++ [.func (.yield lp) #[] #[]] ++ cs) f (LJ D lp none::pts D (.deferred (some []))::A) (fun _ g B=>g = f' ∧ B = LJ D lp J::A' D)) ∧
   ∀ D,H P base n ((1000003,.pointer (some ⟨D,0,none⟩))::L) f' (A' D) (jumpK q J)) :
  H P base n L f A (.code (.rangeFunc g ps.toArray assign body) q):=by
 obtain ⟨J,A',h1,h2⟩:=hb _ rfl;exact H.rangeFuncJ (ι:=Unit) (J:=fun _=>J) (A':=fun _=>A') hg hmk (fun D lp=>Fn.wrap (fun _ h=>h) (h1 D lp) fun v g B hR=>⟨B,⟨(),hR.1,hR.2⟩,fun _ h=>h⟩) fun _ D=>h2 D
/-! ### A region that draws its order, in a round -/
theorem wpAnyIn_of {F:Fence} {m:Nat} (hfn:∀ f,F.fn f) (hd:F.depth = none) (hc:∀ m f args w R,Calls P f args w R→CallsIn F m P f args w R) (hr:∀ m row args w R,Rows P row args w R→RowsIn F m P row args w R)
  {ops:Array Oper} {md:Region.Mode} {Q:Exit→Act→World→Prop} (ho:∀ a w,¬ Q .outgrown a w) (hs:∀ (i:Nat) o,ops[i]? = some o→∀ ρ,o.semAt F.round ρ = execOp ρ o) :
  ∀ (fuel:Nat) (listed:Array Bool) a w,wpAny P md ops Q fuel listed a w→wpAnyIn F m P md ops Q fuel listed a w
 | 0,listed,a,w,h=>h
 | fuel + 1, listed, a, w, h => ⟨h.1, fun i hi => by
  have ih:=wpAnyIn_of (m:=m) (md:=md) (Q:=Q) hfn hd hc hr ho hs fuel (listed.setIfInBounds i true)
  have h:=h.2 i hi
  unfold wpOp at h
  unfold wpOpIn
  cases hi2:ops[i]? with
  | none=>rw [hi2] at h;exact ih _ _ h
  | some o =>
   rw [hi2] at h
   simp only at h ⊢
   by_cases hw:Region.wanted o (yielded ops a.tmps) = true
   ·rw [if_pos hw] at h ⊢
    rcases h with h | ⟨_,a0,w0,h⟩
    ·refine ⟨fun f _=>hfn f,?_⟩
     rw [hs i o hi2]
     exact uponIn_of_upon hd hc hr ih (fun e a w _ h=>h) _ h
    ·exact (ho a0 w0 h).elim
   ·rw [if_neg hw] at h ⊢
    exact ⟨fun f _=>hfn f,ih _ _ h⟩⟩
theorem H.drawBR {l:List Oper} {B:List HP} (hm:P.follows .mixedOrders = true) (hn:Region.noSelect l.toArray = true) (hb:q.blind P) (hp:l.all plainOp = true) (hs:q.shut P)
  {S V:List HP} (hB:B = S ++ V) (k:HB S V #[] (Array.replicate l.length false) l.length P base n L f (.ops l [] q)):H P base n L f B (codeR P lp (.region id l.toArray true) q):=.mk fun a w hf s=>by
 refine wpIn_region_any hm ?_
 subst hB
 have s':Sat base { w with drawn:=w.drawn + 1 } f (S ++ V):=s.same rfl rfl rfl rfl
 have:=k.out l q rfl hn hb a _ hf s'
 refine wpAnyIn_of (F:=Fence.wide.inRound lp) (fun _=>trivial) rfl (fun m f args w R h=>(callsIn_wide.2 h:CallsIn Fence.wide m P f args w R)) (fun m row args w R h=>rowsIn_wide h) hs (fun i o hi ρ=>?_) _ _ _ _ (by simpa using wpAnyC.any _ _ _ _ this)
 have hi:l[i]? = some o:=by simpa using hi
 have:=List.all_eq_true.1 hp o (List.mem_of_getElem? hi)
 exact Oper.semAt_eq _ _ _ fun c hc=>by simp [plainOp,hc] at this
theorem blind_round:(roundP P lp base R).blind P:=fun _ _ _ _ _ h=>h.elim
theorem blind_seqR (h:q.blind P):(Go.Proofs.YtminmjlfmolfeaaGreatDoor.seqR P lp y q).blind P:=h
/-! ### Results in two cells, behind a range over a function -/
theorem results_cells {t u:Tmp} {v:Value} (h:fn.results = #[.cell t ty,.cell u ty2]) (hp:tmps.getD t undef = .pointer (some ⟨b,off,none⟩)) (hx:tmps.getD u undef = .pointer (some ⟨b2,off2,none⟩))
  (hl:(loadVar ty ⟨b,off,none⟩).run P w = .ok v w) (hl2:(loadVar ty2 ⟨b2,off2,none⟩).run P w = .ok x w):(results fn tmps).run P w = .ok (.tuple #[v,x]) w:=by
 have hp':tmps[t]?.getD undef = .pointer (some ⟨b,off,none⟩):=by simpa using hp
 have hx':tmps[u]?.getD undef = .pointer (some ⟨b2,off2,none⟩):=by simpa using hx
 simp only [results,h];simp [Sem.run_bind,asAddr,hp',hx',hl,hl2]
theorem bodyPostM_mark2 {R:Ending→World→Prop} {a:Act} {v:Value} (hr:(results fn a.tmps).run P (w.putObj D (.deferred none)) = .ok v (w.putObj D (.deferred none))) (hd:a.defers = [{ target:=.collected D,args:=#[] }]) (hD:w.heap[D]? = some (.deferred (some []))) (hR:R (.returned v) (w.putObj D (.deferred none))):bodyPostM Fence.wide 3 P fn R .ret a w:=by
 show LeavesInM Fence.wide 3 P fn a.tmps R a.defers .returning w;rw [hd];exact ⟨by simp,.inl ⟨D,_,rfl,run_takeDeferred hD,⟨v,hr,hR⟩⟩⟩
theorem H.retMkCC {t u:Nat} {dd dd2:TypeDesc} {m:Nat} {ls:List Value} {A'':List HP} [hu:Und P ty dd] [hs:Siz P ty m] [hu2:Und P ty2 dd2] (hr:fn.results = #[.cell t ty,.cell u ty2]) (hv:look? L t = some (.pointer (some ⟨b,off,none⟩))) (hx:look? L u = some (.pointer (some ⟨b2,off2,none⟩)))
  (ha:aggD dd = true) (ha2:aggD dd2 = false) (hm:mk? L = some (.pointer (some ⟨D,0,none⟩))) (hD:Pull A (pts D (.deferred (some []))) A') (hrd:Rd f A' b off ls) (hlen:ls.length = m) (hrx:Rd1 f A' b2 off2 x)
  (hA:∀ w,Sat base w f A'→Sat base w f A'') (h:R (.tuple #[.agg ls.toArray,x]) f A''):H P base n L f A (.out .ret (.fn (FnPostM P fn base R))):=.mk fun a w hf s=>by
 show bodyPostM Fence.wide 3 P fn (fun e w'=>∃ v f' A',e = .returned v ∧ R v f' A' ∧ Sat base w' f' A') .ret a w
 have s1:=s.front hD
 have hg:=s1.got (.here _ _ (pts D (.deferred (some []))))
 have s2:Sat base (w.putObj D (.deferred none)) f A':=(s1.set (w':=w.putObj D (.deferred none)) (.here _ _ _) rfl rfl rfl rfl).drop (.here _ _)
 refine bodyPostM_mark2 (v:=.tuple #[.agg ls.toArray,x]) (D:=D) ?_ (hf.marked hm) hg ⟨_,f,A'',rfl,h,hA _ s2⟩
 have h1:=hf.get t _ hv
 have h1':=hf.get u _ hx
 have h2:a.tmps.getD t undef = .pointer (some ⟨b,off,none⟩):=by simp [Array.getD_eq_getD_getElem?,h1]
 have h2':a.tmps.getD u undef = .pointer (some ⟨b2,off2,none⟩):=by simp [Array.getD_eq_getD_getElem?,h1']
 have h3:=run_loadAtN (P:=P) hu ha hs (hrd base _ s2) hlen
 have h4:=run_loadAt1 (P:=P) hu2 ha2 (hrx base _ s2)
 unfold Instr.loadAt Instr.sureAddr at h3 h4
 exact results_cells hr h2 h2' (by simpa using h3) (by simpa using h4)
end
variable {v wish:Int} {I:HP} {ct:Int→Bool} {Ψ:Int→HP} {xs:List Int} {lb o pc T:Nat} {l:Lgs} {pp:Option Addr} {fl:Frag}
section
variable (f:Frag) (F:List HP)
theorem backw_fn {p:Option Addr} {m c:Nat}:Fn Tryz.prog 128 [.slice p m c] f F (RetE (fun b=>.func (.func 182) #[] #[.pointer (some ⟨b,0,none⟩)]) f (fun b=>row b 90 [.slice p m c]::F)):=by
 refine Fn.e1 Tryz.func128 Tryz.ntmps128 fun base=>?_;refine gA ?_;refine H.box (ls:=[.slice p m c]) rfl rfl rfl rfl fun b=>?_;refine gV ?_;exact H.r1 ⟨b,rfl,rfl,rfl⟩
def backO (I:HP) (ct:Int→Bool) (Ψ:Int→HP) (xs:List Int):HP:=match xs.reverse.find? (fun v=>!ct v) with
 | none=>I
 | some v=>Ψ v
theorem backO_stop {k:Nat} (h:xs[k]? = some v) (hv:ct v = false) (hb:∀ (j:Nat) x,k < j→xs[j]? = some x→ct x = true):backO I ct Ψ xs = Ψ v:=by
 unfold backO;have hk:=(List.getElem?_eq_some_iff.1 h).1
 rw [find_at (j:=xs.length - 1 - k) (x:=v) (by rw [List.getElem?_reverse (by omega),show xs.length - 1 - (xs.length - 1 - k) = k by omega];exact h) (by rw [hv];rfl) fun i y hi hy=>by
  rw [List.getElem?_reverse (by omega)] at hy
  rw [hb _ y (by omega) hy];rfl]
theorem backO_all (hb:∀ (j:Nat) x,xs[j]? = some x→ct x = true):backO I ct Ψ xs = I:=by
 unfold backO
 rw [find_no fun i y hy=>by
  obtain ⟨j,hj⟩:=List.getElem?_of_mem (List.mem_reverse.1 (List.mem_of_getElem? hy))
  rw [hb j y hj];rfl]
theorem backw1_fn {sb c:Nat} (hx:xs.length ≤ 100000) (h0:0 < xs.length)
  (hY:∀ (k:Nat) v,xs[k]? = some v→∀ G,YieldFn Tryz.prog lp [.int .i64 (k:Int),.int .u64 v] f (I::G) (fun u g B=>u = .bool (ct v) ∧ g = f ∧ B = (if ct v = true then I else Ψ v)::G)) :
  Fn Tryz.prog 182 ([] ++ [.func (.yield lp) #[] #[]] ++ [.pointer (some ⟨b,0,none⟩)]) f
   (I::row b 90 [.slice (some ⟨sb,0,none⟩) xs.length c]::slc (some ⟨sb,0,none⟩) xs.length c 24 1 (xs.flatMap uV)::F)
   (fun _ g B=>g = f ∧ B = backO I ct Ψ xs::row b 90 [.slice (some ⟨sb,0,none⟩) xs.length c]::slc (some ⟨sb,0,none⟩) xs.length c 24 1 (xs.flatMap uV)::F):=by
 refine Fn.e2 Tryz.func182 Tryz.ntmps182 fun base=>?_;refine gT ?_
 refine H.lo (ι:=Nat) (fun i=>[(3,.int .i64 ((i:Int) - 1)),(1,.pointer (some ⟨b,0,none⟩)),(0,.func (.yield lp) #[] #[])]) (fun _=>f)
  (fun _=>I::row b 90 [.slice (some ⟨sb,0,none⟩) xs.length c]::slc (some ⟨sb,0,none⟩) xs.length c 24 1 (xs.flatMap uV)::F) (fun i=>i ≤ xs.length ∧ ∀ j x,i ≤ j→xs[j]? = some x→ct x = true) (fun i=>i)
  xs.length ⟨Nat.le_refl _,fun j x hj hx=>by have:=(List.getElem?_eq_some_iff.1 hx).1;omega⟩ fun i hi=>?_
 obtain ⟨hi,hb⟩:i ≤ xs.length ∧ ∀ j x,i ≤ j→xs[j]? = some x→ct x = true:=hi;by_cases h0i:0 < i
 ·obtain ⟨k,rfl⟩:∃ k,i = k + 1:=⟨i - 1,by omega⟩;obtain ⟨v,hv⟩:∃ v,xs[k]? = some v:=⟨_,List.getElem?_eq_getElem (by omega)⟩;have hy:=fun G=>hY k v hv G;have hki:(((k + 1:Nat):Int) - 1) = (k:Int):=by omega
  rw [hki]
  iterate 13 ( first
   | ((first | apply H.Ap | apply H.Bb | apply H.Bc | apply H.Bi | apply H.Br | apply H.Bu);(iterate 3 exact rfl))
   | (apply H.Bj;(iterate 3 exact rfl);exact inferInstance;exact rfl)
   | (apply H.Ab;(iterate 3 exact rfl);apply Rd1.ofRow;(repeat (first | exact .here _ _ _ | apply At.there));(iterate 2 exact rfl))
   | (first | apply H.seq | apply H.Bf | apply H.nil | apply H.Bh)
   | ((first | apply H.cmp | apply H.Au);(iterate 5 exact rfl))
   | ((first | (apply H.ar;(iterate 4 exact rfl)) | (apply H.Bl;(iterate 2 exact rfl)));(first | (with_reducible apply zbe;omega) | (with_reducible apply zbd;omega) | (with_reducible apply zbc;omega) | (with_reducible apply wr_i64;omega) | (with_reducible apply wr_u64;omega) | (with_reducible apply wr_u8;omega) | (with_reducible apply wr_u16;omega) | rfl);exact rfl)
   | (apply H.pass;(iterate 2 exact rfl))
   | (apply H.pass0;exact rfl)
   | (apply H.pickT;(iterate 4 exact rfl))
   | ((first | apply H.Bs | apply H.Cf | apply H.not | apply H.Cn);(iterate 4 exact rfl))
   | ((first | apply H.ptrNil | apply H.sliceNil);(iterate 5 exact rfl))
   | (apply H.Az;(iterate 4 exact rfl);(repeat (first | exact .here _ _ _ | apply At.there));(repeat (first | exact .here _ _ _ | apply SetV.there)))
   | (apply H.Cm;exact rfl)
   | (apply H.Cl;exact rfl)
   | (first | apply H.skip | apply H.ret | apply H.Ca | apply H.Cb | apply H.exit | apply H.Bm | apply H.Bo | apply H.Bv | apply H.By | apply H.Bz | apply H.Cc)
   | (apply H.in_miss;exact rfl)
   | (apply H.gyes;(iterate 3 exact rfl);(first | assumption | omega))
   | (apply H.gno;(iterate 3 exact rfl);(first | assumption | omega))
   | (apply H.Ci;exact rfl;(first | assumption | omega))
   | (apply H.Ch;exact rfl;(first | assumption | omega))
   | ((first | apply H.gtrue);(iterate 3 exact rfl);assumption)
   | (apply H.gfalse;(iterate 3 exact rfl);assumption)
   | (apply H.cond_t;exact rfl;assumption)
   | (apply H.cond_f;exact rfl;assumption) )
  refine H.regionY ?_;refine H.inOp (by with_reducible (repeat (first | exact zav | exact zam | exact zag | exact zah | refine zan ?_ | refine zaf ?_ | refine zaj ?_ | refine zai ?_ | refine zau ?_))) ?_;refine qhi ?_;refine H.inOp (by with_reducible (repeat (first | exact zav | exact zam | exact zag | exact zah | refine zan ?_ | refine zaf ?_ | refine zaj ?_ | refine zai ?_ | refine zau ?_))) ?_;refine qhi ?_;refine H.inOp (by with_reducible (repeat (first | exact zav | exact zam | exact zag | exact zah | refine zan ?_ | refine zaf ?_ | refine zaj ?_ | refine zai ?_ | refine zau ?_))) ?_;refine gH ?_;refine H.Bp ?_;refine H.inOp (by with_reducible (repeat (first | exact zav | exact zam | exact zag | exact zah | refine zan ?_ | refine zaf ?_ | refine zaj ?_ | refine zai ?_ | refine zau ?_))) ?_;refine qhi ?_;refine H.inOp (by with_reducible (repeat (first | exact zav | exact zam | exact zag | exact zah | refine zan ?_ | refine zaf ?_ | refine zaj ?_ | refine zai ?_ | refine zau ?_))) ?_;refine H.Ak (i:=k) rfl rfl rfl rfl (by omega) rfl ?_;refine gA ?_;refine H.Bp ?_;refine H.inOp (by with_reducible (repeat (first | exact zav | exact zam | exact zag | exact zah | refine zan ?_ | refine zaf ?_ | refine zaj ?_ | refine zai ?_ | refine zau ?_))) ?_;refine H.Ab rfl rfl rfl (rd_uV (by repeat constructor) hv) rfl ?_;refine gA ?_;refine H.Bp ?_;refine H.yield rfl rfl rfl rfl (hy _) fun u f' A' hR=>?_;obtain ⟨rfl,hff,rfl⟩:=hR;rw [hff];clear hff
  cases hct:ct v with
  | true =>
   rw [if_pos rfl];refine H.inOp (by with_reducible (repeat (first | exact zav | exact zam | exact zag | exact zah | refine zan ?_ | refine zaf ?_ | refine zaj ?_ | refine zai ?_ | refine zau ?_))) ?_;refine qgk ?_;refine gA ?_;refine H.Bp ?_;refine H.inNil ?_;refine gX ?_;refine H.ag k ⟨by omega,fun j x hj hx=>?_⟩ (by show k < k + 1;omega);by_cases e:j = k
   ·subst e;rw [hv] at hx;cases hx;exact hct
   ·exact hb j x (by omega) hx
  | false =>
   rw [if_neg (by decide)];refine H.inOp (by with_reducible (repeat (first | exact zav | exact zam | exact zag | exact zah | refine zan ?_ | refine zaf ?_ | refine zaj ?_ | refine zai ?_ | refine zau ?_))) ?_;refine H.not (b:=false) (c:=true) rfl rfl rfl rfl ?_;refine gA ?_;refine H.Bp ?_;refine H.inNil ?_;refine gE ?_;exact H.ret0 rfl (fun _ h=>h) ⟨rfl,by rw [backO_stop hv hct fun j x hj hx=>hb j x (by omega) hx]⟩
 ·skip;refine gF ?_;exact H.end0 rfl (fun _ h=>h) ⟨rfl,by rw [backO_all fun j x hx=>hb j x (by omega) hx]⟩
def ctE (l:Lgs) (o:Nat) (v:Int):Bool:=decide (¬ v < dyG l o ∧ v ≠ 0) && (!(dyV l o v).isSome && primB l.n o v)
def exE (l:Lgs) (o:Nat) (v:Int):Bool:=!decide (¬ v < dyG l o ∧ v ≠ 0) || (dyV l o v).isSome
def stE (l:Lgs) (o:Nat) (v:Int):Option Code:=if ctE l o v = true then none else if exE l o v = true then some (.exit 0) else some .ret
def anE (l:Lgs) (o:Nat) (v:Int):Bod × Bool:=if ctE l o v = true then sayZ else if exE l o v = true then sayZ else (bodW 5 v 0,true)
def jE (l:Lgs) (o:Nat):Option Int→Option Code
 | none=>none
 | some v=>stE l o v
def aE (l:Lgs) (o:Nat):Option Int→Bod × Bool
 | none=>sayZ
 | some v=>anE l o v
theorem entV_find (l:Lgs) (o:Nat):∀ xs:List Int,entV l.n o (dyG l o) (fun v=>(dyV l o v).isSome) xs = (match xs.find? (fun v=>!ctE l o v) with
  | none=>none
  | some v=>if exE l o v = true then none else some v)
 | []=>rfl
 | v :: r => by
  have ih:=entV_find l o r
  unfold entV
  rw [List.find?_cons]
  by_cases h1:v < dyG l o
  ·have e:ctE l o v = false:=by unfold ctE;rw [decide_eq_false (fun h=>h.1 h1)];rfl
   have e2:exE l o v = true:=by unfold exE;rw [decide_eq_false (fun h=>h.1 h1)];rfl
   rw [if_pos h1,e]
   simp only [Bool.not_false,e2,if_true]
  ·by_cases h2 : v = 0
   ·have e:ctE l o v = false:=by unfold ctE;rw [decide_eq_false (fun h=>h.2 h2)];rfl
    have e2:exE l o v = true:=by unfold exE;rw [decide_eq_false (fun h=>h.2 h2)];rfl
    rw [if_neg h1,if_pos h2,e]
    simp only [Bool.not_false,e2,if_true]
   ·rw [if_neg h1,if_neg h2]
    have hd:decide (¬ v < dyG l o ∧ v ≠ 0) = true:=decide_eq_true ⟨h1,h2⟩
    cases h3:(dyV l o v).isSome with
    | true =>
     have e:ctE l o v = false:=by unfold ctE;rw [hd,h3];rfl
     have e2:exE l o v = true:=by unfold exE;rw [h3,Bool.or_true]
     rw [if_pos rfl,e]
     simp only [Bool.not_false,e2,if_true]
    | false =>
     rw [if_neg (by decide)]
     cases h4:primB l.n o v with
     | true =>
      have e:ctE l o v = true:=by unfold ctE;rw [hd,h3,h4];rfl
      rw [if_pos rfl,e]
      exact ih
     | false =>
      have e:ctE l o v = false:=by unfold ctE;rw [hd,h3,h4];rfl
      have e2:exE l o v = false:=by unfold exE;rw [hd,h3];rfl
      rw [if_neg (by decide),e]
      simp only [Bool.not_false,e2,Bool.false_eq_true,if_false]
theorem denter_fn {xb:Nat} {pl:Nat} (hfl:Le fl f) (hL:LI l T) (hT:T ≤ 254) (ho:o < l.n) :
  Fn Tryz.prog 87 [.pointer (some ⟨xb,0,none⟩)] f (row xb 120 (lkC lb l.n o pp pl pc wish (dyG l o) (dyN l o) ((dyV l o (dyG l o)).getD 0))::plogH fl lb l::F) (NxP f (row xb 120 (lkC lb l.n o pp pl pc wish (dyG l o) (dyN l o) ((dyV l o (dyG l o)).getD 0))::plogH fl lb l::F) (sayE l o)):=by
 have hn:=hL.n3;have hvl:=hL.vl
 have hU0:0 < (viewsU l).length:=by obtain ⟨w,hw,_⟩:=hL.zero;unfold viewsU;rw [List.length_map];exact List.length_pos_of_mem hw
 have hUl:(viewsU l).length ≤ 255:=by unfold viewsU;rw [List.length_map];omega
 have hva:=fun G=>plviews_fn f G (fl:=fl) (lb:=lb) hL hT;have hvo:=fun G v=>plvoted_fn f G hfl (lb:=lb) (l:=l) (by omega) (o:=o) ho (r:=((o + 1:Nat):Int)) (v:=v) rfl
 have hvo:∀ G v,Fn Tryz.prog 26 [.pointer (some ⟨lb,0,none⟩),.int .i64 ((o + 1:Nat):Int),.int .u64 v] f (plogH fl lb l::G) (Ret (.tuple #[.int .i64 ((dyV l o v).getD 0),.bool (dyV l o v).isSome]) f (plogH fl lb l::G)):=hvo
 have hge:∀ w ∈ viewsU l,0 ≤ w:=fun w hw=>by
  obtain ⟨x,hx,rfl⟩:=List.mem_map.1 hw;by_cases e:x.v = 0
  ·omega
  ·obtain ⟨p,hp,e2⟩:=hL.begun x hx e
   have hpl:primI l.n x.v < l.n:=by
    have h1:x.v % (l.n:Int) < l.n:=Int.emod_lt_of_pos x.v (by omega);unfold primI;omega
   have:=((hL.wf _ hpl).low p hp).1;omega
 have hpr:=fun G v hv=>dprim_fn f G (xb:=xb) (lb:=lb) (o:=o) (l:=l) (pp:=pp) (pl:=pl) (pc:=pc) (wish:=wish) (by omega) (v:=v) hv ho
 have hfct:∀ v,(viewsU l).reverse.find? (fun v=>!ctE l o v) = some v→ctE l o v = false:=fun v h=>by
  have:=List.find?_some h
  cases e:ctE l o v with
  | false=>rfl
  | true=>rw [e] at this;cases this
 have hsay:sayE l o = aE l o ((viewsU l).reverse.find? (fun v=>!ctE l o v)):=by
  unfold sayE dyE;rw [entV_find]
  cases h:(viewsU l).reverse.find? (fun v=>!ctE l o v) with
  | none=>rfl
  | some v =>
   show _ = anE l o v;unfold anE;rw [hfct v h,if_neg (by decide)];by_cases h2:exE l o v = true
   ·simp only [h2,if_true]
   ·simp only [h2,if_false,Bool.false_eq_true]
 rw [hsay];clear hsay;have hct:∀ v,ctE l o v = (decide (¬ v < dyG l o ∧ v ≠ 0) && (!(dyV l o v).isSome && primB l.n o v)):=fun v=>rfl;have hst:∀ v,stE l o v = if ctE l o v = true then none else if exE l o v = true then some (.exit 0) else some .ret:=fun v=>rfl
 have han:∀ v,anE l o v = if ctE l o v = true then sayZ else if exE l o v = true then sayZ else (bodW 5 v 0,true):=fun v=>rfl
 have hex:∀ v,exE l o v = (!decide (¬ v < dyG l o ∧ v ≠ 0) || (dyV l o v).isSome):=fun v=>rfl;generalize (dyV l o (dyG l o)).getD 0 = vo at *
 generalize dyN l o = en at *;generalize dyG l o = g at *;obtain ⟨U,hU⟩:∃ U,U = viewsU l:=⟨_,rfl⟩;rw [← hU] at hU0 hUl hge hfct ⊢;obtain ⟨r,hr⟩:∃ r,r = U.reverse.find? (fun v=>!ctE l o v):=⟨_,rfl⟩;rw [← hr] at hfct ⊢;refine Fn.enterM Tryz.func87 rfl Tryz.ntmps87 rfl (L:=[(0,_)]) ⟨rfl,trivial⟩ fun base=>?_;refine gA ?_;refine H.box (ls:=[.pointer (some ⟨xb,0,none⟩)]) rfl rfl rfl rfl fun bb=>?_;refine qdf fun ob=>?_;refine H.Ah (ls:=[.bool false]) rfl rfl rfl fun eb=>?_;refine gH ?_;refine qdO ?_;refine H.cl (hva _) fun v f' A' hR=>?_;obtain ⟨np,nc,rfl,hff,rfl⟩:=hR;rw [hff,← hU];clear hff hU hva;refine H.Ay (p:=np) (n0:=U.length) (c:=nc) (T:=24) (sz:=1) (xs:=U.flatMap uV) (.here _ _ _) hU0 fun nb hnb=>?_;subst hnb;refine gL ?_;refine H.callE rfl rfl rfl (backw_fn f _) fun b=>?_;refine gZ ?_;refine H.sb [(15,.func (.func 182) #[] #[.pointer (some ⟨b,0,none⟩)]),(3,.pointer (some ⟨eb,0,none⟩)),(2,.pointer (some ⟨ob,0,none⟩)),(1,.pointer (some ⟨bb,0,none⟩))] ?_;refine H.pf (x:=slc (some ⟨nb,0,none⟩) _ nc _ _ _) ?_;refine H.pf (x:=row b _ _) ?_;refine qdO ?_;refine qdr ?_;refine qdY ?_;refine qhp ?_;refine qfq ?_;refine H.rangeFuncJE (f':=f) (fs:=[]) (cs:=[.pointer (some ⟨b,0,none⟩)]) rfl rfl fun LJ hLJ=>⟨jE l o r,fun D=>pts D (.deferred (some []))::row ob 47 ((aE l o r).1.vals none 0)::row eb 4 [.bool (aE l o r).2]::row bb 118 [.pointer (some ⟨xb,0,none⟩)]::row xb 120 (lkC lb l.n o pp pl pc wish g en vo)::plogH fl lb l::row b 90 [.slice (some ⟨nb,0,none⟩) U.length nc]::slc (some ⟨nb,0,none⟩) U.length nc 24 1 (U.flatMap uV)::F,fun D lp=>?_,fun D=>?_⟩
 ·obtain ⟨Kx,hKx⟩:∃ Kx:Option Code→Bod × Bool→HP,Kx = fun J a=>stars [LJ D lp J,pts D (.deferred (some [])),row ob 47 (a.1.vals none 0),row eb 4 [.bool a.2],row bb 118 [.pointer (some ⟨xb,0,none⟩)],row xb 120 (lkC lb l.n o pp pl pc wish g en vo),plogH fl lb l]:=⟨_,rfl⟩;refine Fn.wrap (A1:=Kx none sayZ::row b 90 [.slice (some ⟨nb,0,none⟩) U.length nc]::slc (some ⟨nb,0,none⟩) U.length nc 24 1 (U.flatMap uV)::F) (by rw [hKx];exact pack_all [_,_,_,_,_,_,_] _) (backw1_fn f F (lp:=lp) (b:=b) (sb:=nb) (c:=nc) (xs:=U) (by omega) hU0 (I:=Kx none sayZ) (ct:=ctE l o) (Ψ:=fun v=>Kx (stE l o v) (anE l o v)) fun k v hv G=>?_) fun v g B hR=>?_
  ·have hv0:=hge v (List.mem_of_getElem? hv)
   have hif:(if ctE l o v = true then Kx none sayZ else Kx (stE l o v) (anE l o v)) = Kx (stE l o v) (anE l o v):=by
    cases e:ctE l o v with
    | true=>rw [if_pos rfl,hst,han,e,if_pos rfl,if_pos rfl]
    | false=>rw [if_neg (by decide)]
   rw [hif];clear hif;refine YieldFn.wrap (R1:=fun u e B=>u = .bool (ctE l o v) ∧ e = f ∧ B = LJ D lp (stE l o v)::pts D (.deferred (some []))::row ob 47 ((anE l o v).1.vals none 0)::row eb 4 [.bool (anE l o v).2]::row bb 118 [.pointer (some ⟨xb,0,none⟩)]::row xb 120 (lkC lb l.n o pp pl pc wish g en vo)::plogH fl lb l::G) (by rw [hKx];exact open_all _ _) ?_ ?_
   ·rw [hst, han];have hex := hex v;have hct := hct v
    have hvo:=fun G=>hvo G v;have hpr:=fun G=>hpr G v hv0
    clear hKx hst han hfct hge hr;subst hLJ;show YieldFn _ _ _ _ (loopH _ _ _ _ _ _ _ _::_) _;by_cases h1:v < g
    ·rw [decide_eq_false (fun h=>h.1 h1)] at hex hct;rw [hct,hex];refine qhg fun base=>?_;refine qdA ?_;repeat (first | (first | (first | apply H.seqR | apply H.thenR | apply H.blockR) | (apply H.Bw;exact rfl;exact (by with_reducible (repeat (first | exact zav | exact zam | exact zag | exact zah | refine zan ?_ | refine zaf ?_ | refine zaj ?_ | refine zai ?_ | refine zau ?_)))) | (apply H.condR_true;exact rfl)) | (first | ((first | apply H.Ap | apply H.Bc);(iterate 3 exact rfl)) | (apply H.Bj;(iterate 3 exact rfl);exact inferInstance;exact rfl) | (apply H.Ab;(iterate 3 exact rfl);apply Rd1.ofRow;(repeat (first | exact .here _ _ _ | apply At.there));(iterate 2 exact rfl)) | (apply H.nil) | ((apply H.cmp);(iterate 5 exact rfl)) | (apply H.pass;(iterate 2 exact rfl)) | (apply H.pickT;(iterate 4 exact rfl)) | (apply H.gyes;(iterate 3 exact rfl);(assumption))))
     exact qax
    ·by_cases h2 : v = 0
     ·rw [decide_eq_false (fun h=>h.2 h2)] at hex hct;rw [hct,hex];refine qhg fun base=>?_;refine qdA ?_;repeat (first | (first | (first | apply H.seqR | apply H.thenR | apply H.blockR) | (apply H.Bw;exact rfl;exact (by with_reducible (repeat (first | exact zav | exact zam | exact zag | exact zah | refine zan ?_ | refine zaf ?_ | refine zaj ?_ | refine zai ?_ | refine zau ?_)))) | (apply H.condR_yes;exact rfl;(assumption))) | (first | ((first | apply H.Ap | apply H.Bc);(iterate 3 exact rfl)) | (apply H.Bj;(iterate 3 exact rfl);exact inferInstance;exact rfl) | (apply H.Ab;(iterate 3 exact rfl);apply Rd1.ofRow;(repeat (first | exact .here _ _ _ | apply At.there));(iterate 2 exact rfl)) | (apply H.nil) | ((apply H.cmp);(iterate 5 exact rfl)) | ((apply H.Bs);(iterate 4 exact rfl)) | (apply H.gno;(iterate 3 exact rfl);(assumption))))
      exact qax
     ·rw [decide_eq_true (show ¬ v < g ∧ v ≠ 0 from ⟨h1,h2⟩)] at hex hct
      cases hvs:dyV l o v with
      | some z =>
       rw [hvs] at hvo hex hct;rw [hct,hex];refine qhg fun base=>?_;refine qdc ?_;refine H.drawBR (by kernel_rfl) (by decide +kernel) (by with_reducible (repeat (first | exact blind_round | refine blind_seqR ?_ | refine zak ?_))) rfl (by with_reducible (repeat (first | exact zav | exact zam | exact zag | exact zah | refine zan ?_ | refine zaf ?_ | refine zaj ?_ | refine zai ?_ | refine zau ?_))) (S:=[_,_]) rfl ?_;refine HB.qu [0,1,2,3,4,5,6,7,8] 6 ?_;refine qe ?_;refine qfT ?_;repeat (first | (first | (first | apply H.seqR | apply H.thenR) | (apply H.Bw;exact rfl;exact (by with_reducible (repeat (first | exact zav | exact zam | exact zag | exact zah | refine zan ?_ | refine zaf ?_ | refine zaj ?_ | refine zai ?_ | refine zau ?_)))) | (apply H.condR_true;exact rfl)) | (first | ((apply H.Ap);(iterate 3 exact rfl)) | (apply H.nil)))
       exact qax
      | none =>
       rw [hvs] at hvo hex hct
       cases hpv:primB l.n o v with
       | true =>
        rw [hpv] at hpr hct;rw [hct,hex];refine qhg fun base=>?_;refine qdc ?_;refine H.drawBR (by kernel_rfl) (by decide +kernel) (by with_reducible (repeat (first | exact blind_round | refine blind_seqR ?_ | refine zak ?_))) rfl (by with_reducible (repeat (first | exact zav | exact zam | exact zag | exact zah | refine zan ?_ | refine zaf ?_ | refine zaj ?_ | refine zai ?_ | refine zau ?_))) (S:=[_,_]) rfl ?_;refine HB.qu [0,1,2,3,4,5,6,7,8] 6 ?_;refine qe ?_;refine qdw ?_;refine qgk ?_;repeat (first | (first | (first | apply H.thenR | apply H.skipR) | (apply H.condR_false;exact rfl)) | (first | (apply H.nil) | (apply H.Bo)))
        skip;refine qfe ?_;exact qct
       | false =>
        rw [hpv] at hpr hct;rw [hct,hex];refine qhg fun base=>?_;refine qdc ?_;refine H.drawBR (by kernel_rfl) (by decide +kernel) (by with_reducible (repeat (first | exact blind_round | refine blind_seqR ?_ | refine zak ?_))) rfl (by with_reducible (repeat (first | exact zav | exact zam | exact zag | exact zah | refine zan ?_ | refine zaf ?_ | refine zaj ?_ | refine zai ?_ | refine zau ?_))) (S:=[_,_]) rfl ?_;refine HB.qu [0,1,2,3,4,5,6,7,8] 6 ?_;refine qe ?_;refine qdw ?_;refine H.not (b:=false) (c:=true) rfl rfl rfl rfl ?_;repeat (first | (first | (first | apply H.seqR | apply H.thenR) | (apply H.Bw;exact rfl;exact (by with_reducible (repeat (first | exact zav | exact zam | exact zag | exact zah | refine zan ?_ | refine zaf ?_ | refine zaj ?_ | refine zai ?_ | refine zau ?_)))) | (apply H.condR_true;exact rfl)) | (first | ((apply H.Ap);(iterate 3 exact rfl)) | (apply H.nil) | ((apply H.Au);(iterate 5 exact rfl))))
        refine H.Af (ls:=(Bod.zero 0).vals none 0) (vs:=(bodW 5 v 0).vals none 0) (ls':=(bodW 5 v 0).vals none 0) rfl rfl rfl (zaa rfl) rfl rfl (Nat.le_refl 76) (by repeat constructor) ?_;repeat (first | (apply H.thenR) | (first | (apply H.nil) | (apply H.Az;(iterate 4 exact rfl);(repeat (first | exact .here _ _ _ | apply At.there)))))
        repeat (first | apply H.retR | apply H.Bv)
        refine qfe ?_;exact H.endRoundR ⟨rfl,rfl,rfl⟩
   ·rintro u g B ⟨rfl,rfl,rfl⟩;exact ⟨_,⟨rfl,rfl,rfl⟩,by rw [hKx];exact pack_all [_,_,_,_,_,_,_] G⟩
  ·obtain ⟨rfl,rfl⟩:=hR;refine ⟨_,⟨rfl,rfl⟩,?_⟩
   have e:backO (Kx none sayZ) (ctE l o) (fun v=>Kx (stE l o v) (anE l o v)) U = Kx (jE l o r) (aE l o r):=by
    subst hr;unfold backO;cases U.reverse.find? (fun v=>!ctE l o v) <;> rfl
   rw [e,hKx];exact open_all [_,_,_,_,_,_,_] _
 ·cases r with
  | none =>
   show H _ _ _ _ _ (pts D _::row ob _ ((Bod.zero 0).vals none 0)::row eb _ [.bool false]::row bb _ _::row xb _ _::_) (.out .normal _);exact qaw
  | some v =>
   have hcf:=hfct v rfl;have hst:=hst v
   have han:=han v;rw [hcf,if_neg (by decide)] at hst han
   cases hev:exE l o v with
   | true =>
    rw [hev,if_pos rfl] at hst han;show H _ _ _ _ _ (pts D _::row ob _ ((anE l o v).1.vals none 0)::row eb _ [.bool (anE l o v).2]::_) (jumpK _ (stE l o v));have han':aE l o (some v) = sayZ:=han;rw [hst,han,han']
    show H _ _ _ _ _ (pts D _::row ob _ ((Bod.zero 0).vals none 0)::row eb _ [.bool false]::row bb _ _::row xb _ _::_) (.code (.exit 0) _);exact qaw
   | false =>
    rw [hev,if_neg (by decide)] at hst han;show H _ _ _ _ _ (pts D _::row ob _ ((anE l o v).1.vals none 0)::row eb _ [.bool (anE l o v).2]::_) (jumpK _ (stE l o v));have han':aE l o (some v) = (bodW 5 v 0,true):=han;rw [hst,han,han']
    show H _ _ _ _ _ (pts D _::row ob _ ((bodW 5 v 0).vals none 0)::row eb _ [.bool true]::row bb _ _::row xb _ _::_) (.code .ret _);refine gZ ?_;refine H.pd (x:=row b _ _) ?_;refine H.pd (x:=row bb _ _) ?_;refine H.pd (x:=slc (some ⟨nb,0,none⟩) _ nc _ _ _) ?_;refine qdO ?_;refine qdr ?_;refine qhp ?_;refine qfq ?_;refine H.pf (x:=pts D _) ?_;exact H.retMkCC (ls:=(bodW 5 v 0).vals none 0) (x:=.bool true) rfl rfl rfl rfl rfl rfl (.here _ _) (Rd.ofRow (.here _ _ _)) rfl (Rd1.ofRow (.there _ (.here _ _ _)) rfl) (fun _ s=>(s.drop (.here _ _)).drop (.here _ _)) ⟨nil0,none,0,Dj.nil _,rfl,QAt.nil _ _,(un_nil _).symm,rfl⟩
end
def sayR (l:Lgs) (o:Nat) (pend:List Req) (wish:Int):Nat→Bod × Bool
 | 0=>sayC l o wish
 | 1=>sayN l o
 | 2=>sayE l o
 | 3=>sayP l o pend
 | _=>sayK l o
variable {pend:List Req} {j:Nat}
theorem sayX_pick (hj:j < 5) (hb:∀ i,i < j→(sayR l o pend wish i).2 = false) (h:(sayR l o pend wish j).2 = true):sayX l o pend wish = sayR l o pend wish j:=by
 have no:∀ i,i < j→∀ x,orS (sayR l o pend wish i) x = x:=fun i hi x=>by unfold orS;rw [hb i hi,if_neg (by decide)]
 have yes:∀ x,orS (sayR l o pend wish j) x = sayR l o pend wish j:=fun x=>by unfold orS;rw [if_pos h]
 refine qgY ?_
 match j,hj with
 | 0,_=>exact yes _
 | 1,_=>rw [no 0 (by omega)];exact yes _
 | 2,_=>rw [no 0 (by omega),no 1 (by omega)];exact yes _
 | 3,_=>rw [no 0 (by omega),no 1 (by omega),no 2 (by omega)];exact yes _
 | 4,_=>rw [no 0 (by omega),no 1 (by omega),no 2 (by omega),no 3 (by omega)];exact yes _
theorem sayX_none (hb:∀ i,i < 5→(sayR l o pend wish i).2 = false):sayX l o pend wish = sayZ:=by
 have no:∀ i,i < 5→∀ x,orS (sayR l o pend wish i) x = x:=fun i hi x=>by unfold orS;rw [hb i hi,if_neg (by decide)]
 refine qgY ?_;rw [no 0 (by omega),no 1 (by omega),no 2 (by omega),no 3 (by omega),no 4 (by omega)]
def ruV:List Value:=[.func (.func 85) #[] #[],.func (.func 86) #[] #[],.func (.func 87) #[] #[],.func (.func 88) #[] #[],.func (.func 89) #[] #[]]
section
variable (f:Frag) (F:List HP)
theorem rules_fn:Fn Tryz.prog 48 [] f F (Ret (.agg ruV.toArray) f F):=by
 refine Fn.e0 Tryz.func48 Tryz.ntmps48 fun base=>?_;refine gA ?_;refine H.Ah (ls:=[.nilFunc,.nilFunc,.nilFunc,.nilFunc,.nilFunc]) rfl rfl rfl fun ob=>?_;repeat (first | (refine H.buildA (t:=123) (out:=ruV) rfl rfl rfl (by kernel_rfl) rfl ?_) | (refine gh ?_))
 refine H.Af (ls:=[.nilFunc,.nilFunc,.nilFunc,.nilFunc,.nilFunc]) (vs:=ruV) (ls':=ruV) rfl rfl rfl (zaa rfl) rfl rfl (Nat.le_refl 5) (.here _ _ _) ?_;refine gZ ?_;exact H.Aw (ls:=ruV) rfl rfl rfl (Rd.ofRow (.here _ _ _)) rfl (fun _ s=>s.drop (.here _ _)) ⟨rfl,rfl,rfl⟩
theorem dnext_fn (htab:TabAt f) (hfl:Le fl f) (hL:LI l T) (hT:T ≤ 254) (hodd:l.n % 2 = 1) (ho:o < l.n) (hp:ListAt f pp 40 Req.vals pend) (hpl:pend.length ≤ 1000000) :
  Fn Tryz.prog 18 [.pointer (some ⟨lb,0,none⟩),.int .i64 (l.n:Int),.int .i64 ((o + 1:Nat):Int),.slice pp pend.length pc,.int .u64 wish] f (plogH fl lb l::F) (NxP f (plogH fl lb l::F) (sayX l o pend wish)):=by
 have hn:=hL.n3;have hgr:=fun G=>plgreat_fn f G hfl (lb:=lb) (l:=l) (by omega) (o:=o) ho (r:=((o + 1:Nat):Int)) rfl
 have hvo:=fun G=>plvoted_fn f G hfl (lb:=lb) (l:=l) (by omega) (o:=o) ho (r:=((o + 1:Nat):Int)) (v:=dyG l o) rfl;have hgr:∀ G,Fn Tryz.prog 22 [.pointer (some ⟨lb,0,none⟩),.int .i64 ((o + 1:Nat):Int)] f (plogH fl lb l::G) (Ret (.int .u64 (dyG l o)) f (plogH fl lb l::G)):=hgr
 have hvo:∀ G,Fn Tryz.prog 26 [.pointer (some ⟨lb,0,none⟩),.int .i64 ((o + 1:Nat):Int),.int .u64 (dyG l o)] f (plogH fl lb l::G) (Ret (.tuple #[.int .i64 ((dyV l o (dyG l o)).getD 0),.bool (dyN l o)]) f (plogH fl lb l::G)):=hvo
 have hru:∀ (xb j:Nat),j < 5→∃ fid,Fun Tryz.prog fid ∧ ruV[j]? = some (.func (.func fid) #[] #[]) ∧ ∀ G,Fn Tryz.prog fid ([] ++ [.pointer (some ⟨xb,0,none⟩)] ++ []) f (row xb 120 (lkC lb l.n o pp pend.length pc wish (dyG l o) (dyN l o) ((dyV l o (dyG l o)).getD 0))::plogH fl lb l::G) (NxP f (row xb 120 (lkC lb l.n o pp pend.length pc wish (dyG l o) (dyN l o) ((dyV l o (dyG l o)).getD 0))::plogH fl lb l::G) (sayR l o pend wish j)):=fun xb j hj=>by
  match j,hj with
  | 0,_=>exact ⟨85,inferInstance,rfl,fun G=>dchange_fn f _⟩
  | 1,_=>exact ⟨86,inferInstance,rfl,fun G=>dnew_fn f G hfl hL (by omega) ho⟩
  | 2,_=>exact ⟨87,inferInstance,rfl,fun G=>denter_fn f G hfl hL hT ho⟩
  | 3,_=>exact ⟨88,inferInstance,rfl,fun G=>dprep_fn f G htab hL ho hp hpl⟩
  | 4,_=>exact ⟨89,inferInstance,rfl,fun G=>dcommit_fn f G hL (by omega) ho⟩
 have hpick:=fun j hj hb h=>sayX_pick (l:=l) (o:=o) (pend:=pend) (wish:=wish) (j:=j) hj hb h;have hnone:=sayX_none (l:=l) (o:=o) (pend:=pend) (wish:=wish)
 generalize (dyV l o (dyG l o)).getD 0 = vo at *;generalize dyN l o = en at *;generalize dyG l o = g at *;refine Fn.e5 Tryz.func18 Tryz.ntmps18 fun base=>?_;refine gA ?_;refine qdf fun ob=>?_;refine gL ?_;refine H.Ag rfl rfl rfl (dfew_fn f _ (by omega) hodd ho) ?_;refine gV ?_;refine qdO ?_;refine H.cr (hgr _) ?_;repeat ((refine H.Au (t:=120) (out:=lkC lb l.n o pp pend.length pc wish g false 0) rfl rfl rfl (by kernel_rfl) rfl ?_))
 refine H.box (ls:=lkC lb l.n o pp pend.length pc wish g false 0) rfl rfl rfl rfl fun xb=>?_;refine gH ?_;refine qdO ?_;refine H.cr (hvo _) ?_;refine gT ?_;refine H.Ag rfl rfl rfl (rules_fn f _) ?_;refine gZ ?_;refine qdO ?_;refine qdr ?_
 refine H.lo (ι:=Nat) (fun j=>[(50,.int .i64 (j:Int)),(49,.agg ruV.toArray),(12,.pointer (some ⟨xb,0,none⟩)),(11,.bool false),(10,.pointer (some ⟨ob,0,none⟩))]) (fun _=>f)
  (fun _=>row xb 120 (lkC lb l.n o pp pend.length pc wish g en vo)::plogH fl lb l::row ob 47 ((Bod.zero 0).vals none 0)::F) (fun j=>j ≤ 5 ∧ ∀ i,i < j→(sayR l o pend wish i).2 = false) (fun j=>5 - j)
  0 ⟨by omega,fun i hi=>by omega⟩ fun j hj=>?_
 obtain ⟨hj,hb⟩:j ≤ 5 ∧ ∀ i,i < j→(sayR l o pend wish i).2 = false:=hj;by_cases hj5:j < 5
 ·obtain ⟨fid,hfun,hfv,hrule⟩:=hru xb j hj5;have hpick:=hpick j hj5 hb;refine gI ?_
  refine H.indexV (i:=j) (xs:=ruV) rfl rfl rfl rfl hj5 rfl hfv rfl ?_;refine gL ?_;refine H.callV (fs:=[]) (cs:=[]) rfl rfl rfl rfl (hrule _) fun v f' A' hR=>?_;obtain ⟨gq,p,c,hd,rfl,hq,rfl,rfl⟩:=hR
  have hsj:∀ t,(sayR l o pend wish j).2 = t→∀ i,i < j + 1→t = false→(sayR l o pend wish i).2 = false:=fun t ht i hi e=>by
   by_cases e2:i = j
   ·rw [e2,ht,e]
   ·exact hb i (by omega)
  generalize sayR l o pend wish j = r at *;obtain ⟨b,t⟩:=r;refine gV ?_;refine qdf fun tb=>?_;refine H.Af (ls:=(Bod.zero 0).vals none 0) (vs:=b.vals p c) (ls':=b.vals p c) rfl rfl rfl (zaa rfl) rfl rfl (Nat.le_refl 76) (.here _ _ _) ?_
  cases t with
  | false =>
   refine gX ?_;refine qdx ?_;refine H.weakL (Le.un f gq) ?_;exact H.ag (j + 1) ⟨by show j + 1 ≤ 5;omega,fun i hi=>hsj false rfl i hi rfl⟩ (by show 5 - (j + 1) < 5 - j;omega)
  | true =>
   rw [hpick rfl];refine gE ?_;refine H.Ae (ls:=b.vals p c) rfl rfl rfl (Rd.ofRow (.here _ _ _)) rfl rfl ?_;refine H.Af (ls:=(Bod.zero 0).vals none 0) (vs:=b.vals p c) (ls':=b.vals p c) rfl rfl rfl (zaa rfl) rfl rfl (Nat.le_refl 76) (by repeat constructor) ?_;refine qfk ?_;refine qdx ?_;refine qfq ?_;exact H.retCT (ls:=b.vals p c) rfl rfl rfl rfl (Rd.ofRow (.here _ _ _)) rfl (fun _ s=>s.drop (.here _ _)) ⟨gq,p,c,hd,rfl,hq,rfl,rfl⟩
 ·rw [hnone fun i hi=>hb i (by omega)];repeat (first | (refine H.Au (t:=47) (out:=(Bod.zero 0).vals none 0) rfl rfl rfl (by kernel_rfl) rfl ?_) | (refine gh ?_))
  refine H.Af (ls:=(Bod.zero 0).vals none 0) (vs:=(Bod.zero 0).vals none 0) (ls':=(Bod.zero 0).vals none 0) rfl rfl rfl (zaa rfl) rfl rfl (Nat.le_refl 76) (by repeat constructor) ?_;refine qfk ?_;refine qfq ?_;exact H.retCT (ls:=(Bod.zero 0).vals none 0) rfl rfl rfl rfl (Rd.ofRow (.here _ _ _)) rfl (fun _ s=>s.drop (.here _ _)) ⟨nil0,none,0,Dj.nil _,rfl,QAt.nil _ _,(un_nil _).symm,rfl⟩
end
structure SaidBy (l:Lgs) (o:Nat) (m:Msg):Prop where
 org:m.origin = ((o + 1:Nat):Int)
 dep:∀ i,i < l.n→m.deps i = l.known i
variable {m:Msg}
theorem SaidBy.orgI (h:SaidBy l o m):orgI m = o:=by
 have:=h.org;show (m.origin - 1).toNat = o
 omega
theorem SaidBy.prim (h:SaidBy l o m) (v:Int):decide (primZ l.n v = m.origin) = primB l.n o v:=by
 have:=h.org;unfold primZ primB
 exact decide_eq_decide.2 (by omega)
theorem lastCh_mem (h:0 < (lastCh l o).2):lastCh l o ∈ l.ch o:=by
 unfold lastCh at h ⊢
 cases e:(l.ch o).getLast? with
 | none=>rw [e] at h;exact absurd h (by decide)
 | some x=>exact List.mem_of_getLast? e
theorem chgQ_mem {l:Lgs} {v:Int}:∀ {r:Nat} {q:Int × Int},q ∈ chgQ l v r→∃ i,i < r ∧ q = (((i + 1:Nat):Int),(lastCh l i).2) ∧ 0 < (lastCh l i).2 ∧ (lastCh l i).1 = v
 | 0,q,h=>by cases h
 | r + 1, q, h => by
  have ih:=@chgQ_mem l v r q
  by_cases hl:(chgQ l v r).length ≤ l.n / 2
  ·by_cases h2:0 < (lastCh l r).2 ∧ (lastCh l r).1 = v
   ·rw [chgQ_yes hl h2.1 h2.2] at h
    rcases List.mem_append.1 h with h | h
    ·obtain ⟨i,h1,h2⟩:=ih h;exact ⟨i,by omega,h2⟩
    ·exact ⟨r,by omega,List.mem_singleton.1 h,h2.1,h2.2⟩
   ·rw [chgQ_no h2] at h
    obtain ⟨i,h1,h2⟩:=ih h;exact ⟨i,by omega,h2⟩
  ·rw [chgQ_stop hl (r + 1) (by omega)] at h
   obtain ⟨i,h1,h2⟩:=ih h;exact ⟨i,by omega,h2⟩
variable {r:Req}
section
variable {l:Lgs} {T:Nat} {o:Nat} {m:Msg}
theorem cnt_C (hs:SaidBy l o m) (hb:m.body = bodW 3 wish 0) (h1:dyG l o < wish) (h2:wish < 1073741824) :
  (l.counts m).1 = true ∧ (l.counts m).2.vs = l.vs ∧ (l.counts m).2.past = updF l.past o { l.past o with g:=wish }:=by
 have hv:m.body.view = wish:=by rw [hb];rfl
 have hok:(l.past (orgI m)).changeOk m.body.view = true:=by rw [hs.orgI,hv];exact decide_eq_true ⟨h1,h2⟩
 rw [Lgs.counts_3 (by rw [hb];rfl),if_pos hok];refine ⟨rfl,rfl,?_⟩;show updF l.past (orgI m) ((l.past (orgI m)).change m.body.view) = _;unfold PM.change;rw [if_pos hok,hs.orgI,hv]
theorem LI.lastV (hL:LI l T) (ho:o < l.n):PM.voted (l.past o).all (l.past o).lv = some (l.past o).ln:=PM.voted_last (hL.wf o ho)
theorem notVoted_lt (hL:LI l T) (ho:o < l.n) (hg:dyG l o ≤ v) (h:(dyV l o v).isSome = false):(l.past o).lv < v:=by
 have h1:=(hL.wf o ho).top;have h1:(l.past o).lv ≤ dyG l o:=h1
 rcases Int.lt_or_eq_of_le (show (l.past o).lv ≤ v by omega) with h2 | h2
 ·exact h2
 ·exfalso;have h3:=hL.lastV ho;rw [h2] at h3
  unfold dyV at h;rw [h3] at h;cases h
theorem zbi (hL:LI l T) (ho:o < l.n) (h:dyN l o = true):(l.past o).lv = dyG l o ∧ dyV l o (dyG l o) = some (l.past o).ln:=by
 have h1:=(hL.wf o ho).top;have h1:(l.past o).lv ≤ dyG l o:=h1
 have hlv:(l.past o).lv = dyG l o:=by
  unfold dyN at h
  cases e:dyV l o (dyG l o) with
  | none=>rw [e] at h;cases h
  | some k =>
   have hm:=voted_mem _ _ _ e;have hm:(dyG l o,k) ∈ (l.past o).init ++ [((l.past o).lv,(l.past o).ln)]:=hm
   rcases List.mem_append.1 hm with h2 | h2
   ·have:=(hL.wf o ho).below _ h2;have:dyG l o < (l.past o).lv:=this
    omega
   ·have:=(Prod.ext_iff.1 (List.mem_singleton.1 h2)).1;have:dyG l o = (l.past o).lv:=this
    omega
 refine ⟨hlv,?_⟩
 have:=hL.lastV ho;rw [hlv] at this
 exact this
theorem cnt_N (hL:LI l T) (hK:KI l) (hodd:l.n % 2 = 1) (ho:o < l.n) (hs:SaidBy l o m) (hb:m.body = ⟨4,dyG l o,0,Req.zero,chgQ l (dyG l o) l.n,noTag⟩) (hN:dyN l o = false) (hp:primB l.n o (dyG l o) = true) (hq:l.n / 2 < (chgQ l (dyG l o) l.n).length) :
  (l.counts m).1 = true ∧ (∃ i w k s num, vwAt l.vs (bestQ l.past m.body.view m.body.q (0, 0)).1 = some i ∧ l.vs[i]? = some w ∧ s = w.all.take k ∧ (l.counts m).2.vs = insV ⟨dyG l o, num, s, []⟩ l.vs) ∧
   ∃ k,(l.counts m).2.past = updF l.past o ⟨dyG l o,(l.past o).all,dyG l o,k⟩:=by
 have hn:=hL.n3;have hv:m.body.view = dyG l o:=by rw [hb]
 have hbq:m.body.q = chgQ l (dyG l o) l.n:=by rw [hb]
 have hhalf:=chgQ_half l (dyG l o) l.n;have hg0:=(hL.wf o ho).g0
 have hg0:0 ≤ dyG l o:=hg0;have hgb:dyG l o < 1073741824:=hL.gb o ho
 have hmin:MIn l.n m:=by
  refine ⟨by have:=hs.org;omega,fun p hp=>?_,by rw [hv];exact hg0⟩;rw [hbq] at hp;obtain ⟨i,h1,h2,_⟩:=chgQ_mem hp;rw [h2];exact ⟨by show (1:Int) ≤ ((i + 1:Nat):Int);omega,by show ((i + 1:Nat):Int) ≤ _;omega⟩
 obtain ⟨i,w,hb1,hb2,hb3,_⟩:=hL.best hmin;have h1:¬ m.body.q.length ≠ (l.n - 1) / 2 + 1:=by rw [hbq];omega
 have h2:¬ (m.body.q.all fun q=>decide (q.2 ≤ m.deps (q.1 - 1).toNat) && chB l q m.body.view) = false:=by
  have:(m.body.q.all fun q=>decide (q.2 ≤ m.deps (q.1 - 1).toNat) && chB l q m.body.view) = true:=by
   rw [List.all_eq_true];intro q hq;rw [hbq] at hq;obtain ⟨j,h1,rfl,h3,h4⟩:=chgQ_mem hq;have hm:=lastCh_mem h3;have hi:(((j + 1:Nat):Int) - 1).toNat = j:=by omega
   have hc:=(hK.ch j _ hm).2;rw [Bool.and_eq_true]
   refine ⟨decide_eq_true ?_,?_⟩
   ·show (lastCh l j).2 ≤ m.deps (((j + 1:Nat):Int) - 1).toNat;rw [hi,hs.dep j h1];exact hc
   ·unfold chB;show ((l.ch (((j + 1:Nat):Int) - 1).toNat).any _) = true;rw [hi,List.any_eq_true];refine ⟨lastCh l j,hm,?_⟩;rw [hv,decide_eq_true h4,decide_eq_true rfl];rfl
  rw [this];decide
 have hok:(l.past (orgI m)).enterOk m.body.view (bestQ l.past m.body.view m.body.q (0,0)).2 = true:=by
  rw [hs.orgI];refine decide_eq_true ⟨?_,?_,?_,hb3⟩
  ·rw [hv];exact notVoted_lt hL ho (Int.le_refl _) (by unfold dyN at hN;exact hN)
  ·rw [hv];exact Int.le_refl _
  ·rw [hv];exact hgb
 rw [Lgs.counts_4 (by rw [hb]),hs.prim,hv,if_pos hp];unfold Lgs.begins;rw [if_neg h1,if_neg h2,if_neg (by rw [hok];decide)];refine ⟨rfl,⟨i,w,(bestQ l.past m.body.view m.body.q (0,0)).2.toNat,_,m.number,by rw [← hv];exact hb1,hb2,rfl,?_⟩,(bestQ l.past m.body.view m.body.q (0,0)).2,?_⟩
 ·show insV ⟨m.body.view,m.number,_,[]⟩ l.vs = _;rw [hb1];simp only [hb2,Option.map_some,Option.getD_some,hv]
 ·exact qcq
theorem cnt_E (hL:LI l T) (hK:KI l) (ho:o < l.n) (hs:SaidBy l o m) (hb:m.body = bodW 5 v 0) (hE:dyE l o = some v) :
  dyG l o ≤ v ∧ v ≠ 0 ∧ primB l.n o v = false ∧ (l.counts m).1 = true ∧ (l.counts m).2.vs = l.vs ∧ ∃ k,(l.counts m).2.past = updF l.past o ⟨v,(l.past o).all,v,k⟩:=by
 have hn:=hL.n3;have hv:m.body.view = v:=by rw [hb];rfl
 unfold dyE at hE;rw [entV_find] at hE
 cases hf:(viewsU l).reverse.find? (fun v=>!ctE l o v) with
 | none=>rw [hf] at hE;cases hE
 | some u =>
  rw [hf] at hE;have hE:(if exE l o u = true then none else some u) = some v:=hE;by_cases hx:exE l o u = true
  ·rw [if_pos hx] at hE;cases hE
  ·rw [if_neg hx] at hE;cases hE
   have hm:=List.mem_reverse.1 (List.mem_of_find?_eq_some hf);have hct:=List.find?_some hf
   have hct:ctE l o v = false:=by cases e:ctE l o v with | false=>rfl | true=>rw [e] at hct;cases hct
   have hd:decide (¬ v < dyG l o ∧ v ≠ 0) = true:=by
    cases e:decide (¬ v < dyG l o ∧ v ≠ 0) with
    | true=>rfl
    | false=>exfalso;apply hx;unfold exE;rw [e];rfl
   have hvt:(dyV l o v).isSome = false:=by
    cases e:(dyV l o v).isSome with
    | false=>rfl
    | true=>exfalso;apply hx;unfold exE;rw [e,Bool.or_true]
   have hpr:primB l.n o v = false:=by
    unfold ctE at hct;rw [hd,hvt] at hct;exact hct
   obtain ⟨hge,hne⟩:=of_decide_eq_true hd;obtain ⟨w,hw,hwv⟩:=List.mem_map.1 hm;obtain ⟨i,hat,hi⟩:=vwAt_mem hL.rise hw;rw [hwv] at hat;have hplt:=primI_lt (n:=l.n) (by omega) v;have hnum:=hK.vw w hw
   rw [hwv,← hs.dep _ hplt] at hnum;obtain ⟨p,hp,hp1⟩:=hL.begun w hw (by rw [hwv];exact hne);have hlow:=(hL.wf _ (primI_lt (by omega) w.v)).low p hp;have hlt:=notVoted_lt hL ho (show dyG l o ≤ v by omega) hvt
   have hok:(l.past (orgI m)).enterOk m.body.view (w.s.length:Nat) = true:=by
    rw [hs.orgI,hv];refine decide_eq_true ⟨hlt,by show dyG l o ≤ v;omega,?_,by omega⟩;rw [hp1,hwv] at hlow;exact hlow.2.1
   rw [Lgs.counts_5 (by rw [hb];rfl) (by rw [hv];exact hat) hi,if_neg (by rw [hv];omega)];refine ⟨by omega,hne,hpr,hok,rfl,(w.s.length:Nat),?_⟩;exact qcq
theorem vw_of {i:Nat} {w:Vw} (h1:vwAt l.vs v = some i) (h2:l.vs[i]? = some w):l.vw v = some w:=by
 unfold Lgs.vw;rw [h1];exact h2
theorem cnt_P (hL:LI l T) (ho:o < l.n) (hs:SaidBy l o m) (hb:m.body = ⟨1,dyG l o,0,r,[],noTag⟩) (hN:dyN l o = true) (hp:primB l.n o (dyG l o) = true) (hr:dyP l o r = true) :
  (l.counts m).1 = true ∧ (∃ i w,vwAt l.vs (dyG l o) = some i ∧ l.vs[i]? = some w ∧ (l.counts m).2.vs = l.vs.set i { w with p:=w.p ++ [(m.number,r)] }) ∧ (l.counts m).2.past = updF l.past o { l.past o with ln:=(l.past o).ln + 1 }:=by
 have hv:m.body.view = dyG l o:=by rw [hb]
 have hbr:m.body.req = r:=by rw [hb]
 obtain ⟨h1,h2⟩:=zbi hL ho hN;obtain ⟨i,w,hat,hi,hwv,_⟩:=hL.voted ho h2;have hA:dyA l o = w.all:=by unfold dyA;rw [vw_of hat hi];rfl
 unfold dyP at hr;rw [Bool.and_eq_true,hA] at hr;obtain ⟨hr1,hr2⟩:=hr;have hr2:holdsB w.all r.client r.time = false:=by cases e:holdsB w.all r.client r.time with | false=>rfl | true=>rw [e] at hr2;cases hr2
 have hop:(l.past (orgI m)).isOpen m.body.view = true:=by rw [hs.orgI,hv];exact decide_eq_true ⟨rfl,h1.symm⟩
 rw [Lgs.counts_1 (by rw [hb]) (by rw [hv];exact hat) hi,if_neg ?_]
 ·refine ⟨rfl,⟨i,w,hat,hi,by show l.vs.set i _ = _;rw [hbr]⟩,?_⟩;show updF l.past (orgI m) ((l.past (orgI m)).prepare m.body.view) = _;unfold PM.prepare;rw [if_pos hop,hs.orgI]
 ·rw [hs.prim,hv,hp,hbr,hr1,hr2,← hv,hop];rintro (h | h | h | h) <;> cases h
theorem cnt_K (hL:LI l T) (hK:KI l) (ho:o < l.n) (hs:SaidBy l o m) (hb:m.body = bodW 2 (dyG l o) ((dyV l o (dyG l o)).getD 0 + 1)) (hN:dyN l o = true) (hp:primB l.n o (dyG l o) = false) (hlt:(dyV l o (dyG l o)).getD 0 < ((dyA l o).length:Int)) :
  (l.counts m).1 = true ∧ (l.counts m).2.vs = l.vs ∧ (l.counts m).2.past = updF l.past o { l.past o with ln:=(l.past o).ln + 1 }:=by
 have hn:=hL.n3;have hv:m.body.view = dyG l o:=by rw [hb];rfl
 obtain ⟨h1,h2⟩:=zbi hL ho hN;obtain ⟨i,w,hat,hi,hwv,_⟩:=hL.voted ho h2;have hA:dyA l o = w.all:=by unfold dyA;rw [vw_of hat hi];rfl
 have hk:m.body.k = (l.past o).ln + 1:=by rw [hb,h2];rfl
 rw [h2,hA] at hlt;have hlt:(l.past o).ln < (w.all.length:Int):=hlt;have hplt:=primI_lt (n:=l.n) (by omega) (dyG l o)
 have hmost:knowsV w (m.deps (primI l.n (dyG l o))) = w.all.length:=by
  have hall:(w.p.filter fun x=>decide (x.1 ≤ m.deps (primI l.n (dyG l o)))) = w.p:=by
   rw [List.filter_eq_self];intro x hx
   have:=hK.pr w (List.mem_of_getElem? hi) x hx;rw [hwv,← hs.dep _ hplt] at this
   exact decide_eq_true this
  unfold knowsV;rw [hall,Vw.all_len]
 have hok:(l.past (orgI m)).commitOk m.body.view m.body.k (knowsV w (m.deps (primI l.n m.body.view)):Nat) = true:=by
  rw [hs.orgI,hv,hmost,hk];exact decide_eq_true ⟨⟨rfl,h1.symm⟩,by omega,by omega,rfl⟩
 rw [Lgs.counts_2 (by rw [hb];rfl) (by rw [hv];exact hat) hi,hs.prim,if_neg (by rw [hv,hp];decide)];refine ⟨hok,rfl,?_⟩;show updF l.past (orgI m) ((l.past (orgI m)).commit m.body.view m.body.k _) = _;unfold PM.commit;rw [if_pos hok,hs.orgI]
end
def dC (l:Lgs) (o:Nat) (wish:Int):Bool:=decide (dyG l o < wish) && decide (wish < 1073741824)
def dD (l:Lgs) (o:Nat) (pend:List Req):Nat:=if primB l.n o (dyG l o) = true then (pend.filter (dyP l o)).length else (dyA l o).length - ((dyV l o (dyG l o)).getD 0).toNat
def dS (X:Nat) (l:Lgs) (o:Nat) (pend:List Req):Nat:=if dyN l o = true then (if (dyE l o).isSome = true then X + 1 else dD l o pend) else X + 2
def dMu (X:Nat) (l:Lgs) (o:Nat) (pend:List Req) (wish:Int):Nat:=(if dC l o wish = true then X + 3 else 0) + dS X l o pend
def Bnd (X:Nat) (l:Lgs):Prop:=∀ w ∈ l.vs,w.all.length ≤ X
def dI (X:Nat) (l:Lgs) (o:Nat) (wish:Int):Prop:=Bnd X l ∨ (dC l o wish = false ∧ dyN l o = true ∧ dyE l o = none)
theorem filt_lt {α:Type} {p p':α→Bool} (h:∀ x,p' x = true→p x = true):∀ {l:List α} {x:α},x ∈ l→p x = true→p' x = false→(l.filter p').length < (l.filter p).length
 | a :: l, x, hx, h1, h2 => by
  have hle:∀ l:List α,(l.filter p').length ≤ (l.filter p).length:=fun l=>by
   rw [← List.countP_eq_length_filter,← List.countP_eq_length_filter]
   exact List.countP_mono_left fun x _=>h x
  rcases List.mem_cons.1 hx with e | hm
  ·subst e
   rw [List.filter_cons_of_pos h1,List.filter_cons_of_neg (by rw [h2];decide)]
   exact Nat.lt_succ_of_le (hle l)
  ·have ih:=filt_lt h hm h1 h2
   by_cases ha:p a = true
   ·rw [List.filter_cons_of_pos ha]
    by_cases hb:p' a = true
    ·rw [List.filter_cons_of_pos hb];exact Nat.succ_lt_succ ih
    ·rw [List.filter_cons_of_neg hb];exact Nat.lt_succ_of_lt ih
   ·rw [List.filter_cons_of_neg ha,List.filter_cons_of_neg fun hb=>ha (h a hb)]
    exact ih
theorem zbw (l:List (Int × Int)) (v k u:Int):PM.voted (l ++ [(v,k)]) u = (match PM.voted l u with
  | some x=>some x
  | none=>if u = v then some k else none):=by
 induction l with
 | nil=>show (if u = v then some k else PM.voted [] u) = _;rfl
 | cons a l ih =>
  obtain ⟨w,n⟩:=a;show (if u = w then some n else PM.voted (l ++ [(v,k)]) u) = _;rw [ih]
  show _ = (match (if u = w then some n else PM.voted l u) with
   | some x=>some x
   | none=>if u = v then some k else none)
  by_cases e:u = w
  ·rw [if_pos e,if_pos e]
  ·rw [if_neg e,if_neg e]
section
variable {X:Nat} {l:Lgs} {o:Nat} {pend:List Req} {wish:Int}
theorem dA_le (h:Bnd X l):(dyA l o).length ≤ X:=by
 unfold dyA
 cases e:l.vw (dyG l o) with
 | none=>exact Nat.zero_le _
 | some w=>exact h w (vw_v e).2
theorem dD_le (h:Bnd X l) (hp:pend.length ≤ X):dD l o pend ≤ X:=by
 unfold dD;split
 ·exact Nat.le_trans (List.length_filter_le _ _) hp
 ·have:=dA_le (o:=o) h;omega
theorem dS_le (h:Bnd X l) (hp:pend.length ≤ X):dS X l o pend ≤ X + 2:=by
 have:=dD_le (o:=o) h hp;unfold dS
 split
 ·split <;> omega
 ·omega
theorem dS_le1 (h:Bnd X l) (hp:pend.length ≤ X) (hN:dyN l o = true):dS X l o pend ≤ X + 1:=by
 have:=dD_le (o:=o) h hp;unfold dS
 rw [if_pos hN];split <;> omega
theorem dI.bnd_C (h:dI X l o wish) (hc:dC l o wish = true):Bnd X l:=by
 rcases h with h | ⟨h,_⟩
 ·exact h
 ·rw [hc] at h;cases h
theorem dI.bnd_N (h:dI X l o wish) (hc:dyN l o = false):Bnd X l:=by
 rcases h with h | ⟨_,h,_⟩
 ·exact h
 ·rw [hc] at h;cases h
theorem dI.bnd_E (h:dI X l o wish) (hc:dyE l o = some v):Bnd X l:=by
 rcases h with h | ⟨_,_,h⟩
 ·exact h
 ·rw [hc] at h;cases h
variable {l':Lgs}
theorem mu_C (hI:dI X l o wish) (hp:pend.length ≤ X) (hc:dC l o wish = true) (hvs:l'.vs = l.vs) (hpa:l'.past o = { l.past o with g:=wish }):dI X l' o wish ∧ dMu X l' o pend wish < dMu X l o pend wish:=by
 have hB:=hI.bnd_C hc;have hB':Bnd X l':=by unfold Bnd;rw [hvs];exact hB
 have hg:dyG l' o = wish:=by unfold dyG;rw [hpa]
 have hc':dC l' o wish = false:=by unfold dC;rw [hg,decide_eq_false (by omega)];rfl
 refine ⟨.inl hB',?_⟩
 have:=dS_le (o:=o) hB' hp;unfold dMu
 rw [hc,hc',if_pos rfl,if_neg (by decide)];omega
theorem mu_N (hI:dI X l o wish) (hp:pend.length ≤ X) (hc:dC l o wish = false) (hN:dyN l o = false) {k num:Int} {s:List Req} {w:Vw} (hw:w ∈ l.vs) (hs:s = w.all.take j) (hvs:l'.vs = insV ⟨dyG l o,num,s,[]⟩ l.vs) (hpa:l'.past o = ⟨dyG l o,(l.past o).all,dyG l o,k⟩) :
  dI X l' o wish ∧ dMu X l' o pend wish < dMu X l o pend wish:=by
 have hB:=hI.bnd_N hN
 have hB':Bnd X l':=fun x hx=>by
  rw [hvs] at hx;rcases List.mem_cons.1 ((zbq _ _).mem_iff.2 hx) with e | h
  ·subst e
   have:=hB w hw;rw [Vw.all_len,hs]
   show (w.all.take j).length + 0 ≤ X;rw [List.length_take];omega
  ·exact hB x h
 have hg:dyG l' o = dyG l o:=by show (l'.past o).g = _;rw [hpa]
 have hc':dC l' o wish = false:=by unfold dC at hc ⊢;rw [hg];exact hc
 have hN':dyN l' o = true:=by
  unfold dyN dyV;rw [hg,hpa];show (PM.voted ((l.past o).all ++ [(dyG l o,k)]) (dyG l o)).isSome = true;rw [zbw]
  cases PM.voted (l.past o).all (dyG l o) with
  | some x=>rfl
  | none=>simp
 refine ⟨.inl hB',?_⟩
 have:=dS_le1 (o:=o) hB' hp hN';unfold dMu
 rw [hc,hc',if_neg (by decide)];have e:dS X l o pend = X + 2:=by unfold dS;rw [hN,if_neg (by decide)]
 omega
theorem mu_E (hrise:(l.vs.map Vw.v).Pairwise (· < ·)) (hI:dI X l o wish) (hp:pend.length ≤ X) (hc:dC l o wish = false) (hE:dyE l o = some v) (hge:dyG l o ≤ v) (hn:l'.n = l.n) {k:Int} (hvs:l'.vs = l.vs) (hpa:l'.past o = ⟨v,(l.past o).all,v,k⟩) :
  dI X l' o wish ∧ dMu X l' o pend wish < dMu X l o pend wish:=by
 have hB:=hI.bnd_E hE;have hB':Bnd X l':=by unfold Bnd;rw [hvs];exact hB
 have hg:dyG l' o = v:=by show (l'.past o).g = _;rw [hpa]
 have hV':∀ u,dyV l' o u = (match dyV l o u with
   | some x=>some x
   | none=>if u = v then some k else none):=fun u=>by
  show PM.voted (l'.past o).all u = _
  rw [hpa]
  exact zbw _ _ _ _
 have hNv:(dyV l' o v).isSome = true:=by
  rw [hV']
  cases dyV l o v with
  | some x=>rfl
  | none=>simp
 have hN':dyN l' o = true:=by unfold dyN;rw [hg];exact hNv
 have hc':dC l' o wish = false:=by
  unfold dC at hc ⊢;rw [hg]
  cases e:decide (wish < 1073741824) with
  | false=>rw [Bool.and_false]
  | true =>
   rw [e,Bool.and_true] at hc
   have:=of_decide_eq_false hc;rw [decide_eq_false (by omega)]
   rfl
 have hE':dyE l' o = none:=by
  unfold dyE at hE ⊢;rw [entV_find] at hE ⊢;have hU:viewsU l' = viewsU l:=by unfold viewsU;rw [hvs]
  rw [hU]
  cases hf:(viewsU l).reverse.find? (fun v=>!ctE l o v) with
  | none=>rw [hf] at hE;cases hE
  | some u =>
   rw [hf] at hE;have hE:(if exE l o u = true then none else some u) = some v:=hE
   have hu:u = v:=by
    by_cases hx:exE l o u = true
    ·rw [if_pos hx] at hE;cases hE
    ·rw [if_neg hx] at hE;cases hE;rfl
   subst hu;obtain ⟨_,l1,l2,he,has⟩:=List.find?_eq_some_iff_append.1 hf;have hpw:(viewsU l).reverse.Pairwise (fun a b=>b < a):=List.pairwise_reverse.2 hrise;rw [he] at hpw ⊢
   have hgt:∀ a ∈ l1,u < a:=fun a ha=>(List.pairwise_append.1 hpw).2.2 a ha u (by simp)
   have hnone:l1.find? (fun v=>!ctE l' o v) = none:=by
    rw [List.find?_eq_none];intro a ha;have h1:=has a ha;have h1:ctE l o a = true:=by simpa using h1
    have h2:=hgt a ha;unfold ctE at h1
    rw [Bool.and_eq_true,Bool.and_eq_true] at h1;obtain ⟨h3,h4,h5⟩:=h1;have h3:=of_decide_eq_true h3
    have h6:(dyV l' o a).isSome = false:=by
     rw [hV']
     cases e:dyV l o a with
     | some x=>rw [e] at h4;cases h4
     | none=>simp;omega
    have h7:ctE l' o a = true:=by
     unfold ctE;rw [hg,hn,h6,h5,decide_eq_true (show ¬ a < u ∧ a ≠ 0 from ⟨by omega,h3.2⟩)];rfl
    rw [h7];decide
   rw [List.find?_append,hnone];have h8:ctE l' o u = false:=by unfold ctE;rw [hNv];simp
   show (match (List.find? (fun v=>!ctE l' o v) (u::l2)) with
    | none=>none
    | some v=>if exE l' o v = true then none else some v) = none
   rw [List.find?_cons,h8];show (if exE l' o u = true then none else some u) = none;rw [if_pos (by unfold exE;rw [hNv,Bool.or_true])]
 refine ⟨.inl hB',?_⟩;have h1:=dD_le (o:=o) hB' hp;have e1:dS X l' o pend = dD l' o pend:=by unfold dS;rw [if_pos hN',if_neg (by rw [hE'];decide)]
 have e2:X + 1 ≤ dS X l o pend:=by
  unfold dS;split
  ·rw [if_pos (by rw [hE];rfl)];exact Nat.le_refl _
  ·exact Nat.le_succ _
 unfold dMu;rw [hc,hc',if_neg (by decide)];omega
theorem dS_quiet (hN:dyN l o = true) (hE:dyE l o = none):dS X l o pend = dD l o pend:=by unfold dS;rw [if_pos hN,if_neg (by rw [hE];decide)]
theorem dD_prim (hp:primB l.n o (dyG l o) = true):dD l o pend = (pend.filter (dyP l o)).length:=by unfold dD;rw [if_pos hp]
theorem dD_not (hp:¬ primB l.n o (dyG l o) = true):dD l o pend = (dyA l o).length - ((dyV l o (dyG l o)).getD 0).toNat:=by unfold dD;rw [if_neg hp]
theorem bump_N (hlv:(l.past o).lv = dyG l o) (hpa:l'.past o = { l.past o with ln:=(l.past o).ln + 1 }):dyG l' o = dyG l o ∧ ∀ u,(dyV l' o u).isSome = (dyV l o u).isSome:=by
 have hg:dyG l' o = dyG l o:=by show (l'.past o).g = _;rw [hpa];rfl
 refine ⟨hg,fun u=>?_⟩;show (PM.voted (l'.past o).all u).isSome = (PM.voted (l.past o).all u).isSome;rw [hpa];show (PM.voted ((l.past o).init ++ [((l.past o).lv,(l.past o).ln + 1)]) u).isSome = (PM.voted ((l.past o).init ++ [((l.past o).lv,(l.past o).ln)]) u).isSome;rw [zbw,zbw]
 cases PM.voted (l.past o).init u with
 | some x=>rfl
 | none =>
  by_cases e:u = (l.past o).lv
  ·simp [e]
  ·simp [e]
theorem bump_E (hn:l'.n = l.n) (hU:viewsU l' = viewsU l) (hg:dyG l' o = dyG l o) (hV:∀ u,(dyV l' o u).isSome = (dyV l o u).isSome):dyE l' o = dyE l o:=by
 unfold dyE;rw [hn,hU,hg];congr 1;funext u;exact hV u
theorem mu_P (hL:LI l T) (ho:o < l.n) (hc:dC l o wish = false) (hN:dyN l o = true) (hE:dyE l o = none) (hp:primB l.n o (dyG l o) = true) (hr:r ∈ pend) (hd:dyP l o r = true) {i:Nat} {w:Vw} {num:Int} (hat:vwAt l.vs (dyG l o) = some i) (hi:l.vs[i]? = some w)
  (hn:l'.n = l.n) (hvs:l'.vs = l.vs.set i { w with p:=w.p ++ [(num,r)] }) (hpa:l'.past o = { l.past o with ln:=(l.past o).ln + 1 }):dI X l' o wish ∧ dMu X l' o pend wish < dMu X l o pend wish:=by
 obtain ⟨hlv,_⟩:=zbi hL ho hN;obtain ⟨hg,hV⟩:=bump_N hlv hpa;have hil:=(List.getElem?_eq_some_iff.1 hi).1
 have hU:viewsU l' = viewsU l:=by
  unfold viewsU;rw [hvs,List.map_set];refine List.ext_getElem? fun j=>?_;by_cases e:i = j
  ·subst e;rw [List.getElem?_set_self (by rw [List.length_map];exact hil),List.getElem?_map,hi];rfl
  ·rw [List.getElem?_set_ne e]
 have hc':dC l' o wish = false:=by unfold dC at hc ⊢;rw [hg];exact hc
 have hN':dyN l' o = true:=by unfold dyN at hN ⊢;rw [hg,hV];exact hN
 have hE':dyE l' o = none:=by rw [bump_E hn hU hg hV];exact hE
 have hp':primB l'.n o (dyG l' o) = true:=by rw [hn,hg];exact hp
 have hwv:w.v = dyG l o:=by
  obtain ⟨⟨w1,e1,e2⟩,_⟩:=zaw.1 hat;rw [hi] at e1;cases e1;exact e2
 have hat':vwAt l'.vs (dyG l o) = some i:=by
  rw [hvs];refine zaw.2 ⟨⟨_,List.getElem?_set_self hil,hwv⟩,fun j x hj hx=>?_⟩;rw [List.getElem?_set_ne (by omega)] at hx;exact (zaw.1 hat).2 j x hj hx
 have hA:dyA l o = w.all:=by unfold dyA;rw [vw_of hat hi];rfl
 have hA':dyA l' o = w.all ++ [r]:=by
  unfold dyA;rw [hg,vw_of hat' (by rw [hvs];exact List.getElem?_set_self hil)];show w.s ++ (w.p ++ [(num,r)]).map Prod.snd = (w.s ++ w.p.map Prod.snd) ++ [r];rw [List.map_append,List.append_assoc];rfl
 have hlt:(pend.filter (dyP l' o)).length < (pend.filter (dyP l o)).length:=by
  refine filt_lt (fun x hx=>?_) hr hd ?_
  ·unfold dyP at hx ⊢;rw [hA',Bool.and_eq_true] at hx;rw [hA,Bool.and_eq_true];refine ⟨hx.1,?_⟩;have h2:=hx.2;unfold holdsB at h2 ⊢
   rw [List.any_append] at h2;simp only [Bool.not_or,Bool.and_eq_true] at h2;exact h2.1
  ·unfold dyP;rw [hA']
   have:holdsB (w.all ++ [r]) r.client r.time = true:=by
    unfold holdsB;rw [List.any_append];simp
   rw [this,Bool.not_true,Bool.and_false]
 refine ⟨.inr ⟨hc',hN',hE'⟩,?_⟩;unfold dMu;rw [hc,hc',if_neg (by decide),dS_quiet hN' hE',dS_quiet hN hE,dD_prim hp',dD_prim hp];omega
theorem mu_K (hL:LI l T) (ho:o < l.n) (hI:dI X l o wish) (hc:dC l o wish = false) (hN:dyN l o = true) (hE:dyE l o = none) (hp:primB l.n o (dyG l o) = false) (hlt:(dyV l o (dyG l o)).getD 0 < ((dyA l o).length:Int))
  (hn:l'.n = l.n) (hvs:l'.vs = l.vs) (hpa:l'.past o = { l.past o with ln:=(l.past o).ln + 1 }):dI X l' o wish ∧ dMu X l' o pend wish < dMu X l o pend wish:=by
 obtain ⟨hlv,hvo⟩:=zbi hL ho hN;obtain ⟨hg,hV⟩:=bump_N hlv hpa;have hU:viewsU l' = viewsU l:=by unfold viewsU;rw [hvs]
 have hc':dC l' o wish = false:=by unfold dC at hc ⊢;rw [hg];exact hc
 have hN':dyN l' o = true:=by unfold dyN at hN ⊢;rw [hg,hV];exact hN
 have hE':dyE l' o = none:=by rw [bump_E hn hU hg hV];exact hE
 have hp':¬ primB l'.n o (dyG l' o) = true:=by rw [hn,hg,hp];decide
 have hA:dyA l' o = dyA l o:=by
  unfold dyA Lgs.vw;rw [hg,hvs]
 have hln:=(hL.wf o ho).last
 have hvo':dyV l' o (dyG l o) = some ((l.past o).ln + 1):=by
  have h1:=PM.voted_last (PM.WF.bump (hL.wf o ho));show PM.voted (l'.past o).all _ = _
  rw [hpa,← hlv];exact h1
 refine ⟨.inr ⟨hc',hN',hE'⟩,?_⟩;rw [hvo] at hlt;have hlt:(l.past o).ln < ((dyA l o).length:Int):=hlt;unfold dMu
 rw [hc,hc',if_neg (by decide),dS_quiet hN' hE',dS_quiet hN hE,dD_not hp',dD_not (by rw [hp];decide),hA,hg,hvo,hvo'];show 0 + ((dyA l o).length - ((l.past o).ln + 1).toNat) < 0 + ((dyA l o).length - ((l.past o).ln).toNat);omega
end
theorem sayE_none (h:(sayE l o).2 = false):dyE l o = none:=by
 unfold sayE at h
 cases e:dyE l o with
 | none=>rfl
 | some v=>rw [e] at h;cases h
theorem say_cases (h:(sayX l o pend wish).2 = true) :
  (dC l o wish = true ∧ (sayX l o pend wish).1 = bodW 3 wish 0) ∨
  (dC l o wish = false ∧ dyN l o = false ∧ primB l.n o (dyG l o) = true ∧ l.n / 2 < (chgQ l (dyG l o) l.n).length ∧ (sayX l o pend wish).1 = ⟨4,dyG l o,0,Req.zero,chgQ l (dyG l o) l.n,noTag⟩) ∨
  (dC l o wish = false ∧ ∃ v,dyE l o = some v ∧ (sayX l o pend wish).1 = bodW 5 v 0) ∨
  (dC l o wish = false ∧ dyE l o = none ∧ dyN l o = true ∧ primB l.n o (dyG l o) = true ∧ ∃ r,r ∈ pend ∧ dyP l o r = true ∧ (sayX l o pend wish).1 = ⟨1,dyG l o,0,r,[],noTag⟩) ∨
  (dC l o wish = false ∧ dyE l o = none ∧ dyN l o = true ∧ primB l.n o (dyG l o) = false ∧ (dyV l o (dyG l o)).getD 0 < ((dyA l o).length:Int) ∧ (sayX l o pend wish).1 = bodW 2 (dyG l o) ((dyV l o (dyG l o)).getD 0 + 1)):=by
 cases h0:(sayR l o pend wish 0).2 with
 | true =>
  have e:=sayX_pick (l:=l) (o:=o) (pend:=pend) (wish:=wish) (j:=0) (by omega) (fun i hi=>by omega) h0;exact .inl ⟨h0,by rw [e];rfl⟩
 | false =>
  have hc:dC l o wish = false:=h0;refine .inr ?_
  cases h1:(sayR l o pend wish 1).2 with
  | true =>
   have e:=sayX_pick (l:=l) (o:=o) (pend:=pend) (wish:=wish) (j:=1) (by omega) (fun i hi=>by rw [show i = 0 by omega];exact h0) h1;have h1':(!dyN l o && (primB l.n o (dyG l o) && decide (((l.n / 2:Nat):Int) < ((chgQ l (dyG l o) l.n).length:Int)))) = true:=h1
   rw [Bool.and_eq_true,Bool.and_eq_true] at h1';obtain ⟨a,b,c⟩:=h1';have c:=of_decide_eq_true c;exact .inl ⟨hc,(Bool.not_eq_true' _).mp a,b,by omega,by rw [e];rfl⟩
  | false =>
   refine .inr ?_
   cases h2:(sayR l o pend wish 2).2 with
   | true =>
    have e:=sayX_pick (l:=l) (o:=o) (pend:=pend) (wish:=wish) (j:=2) (by omega) (fun i hi=>by
     rcases (by omega:i = 0 ∨ i = 1) with rfl | rfl
     ·exact h0
     ·exact h1) h2
    have h2:(sayE l o).2 = true:=h2;have e:sayX l o pend wish = sayE l o:=e
    cases hE:dyE l o with
    | none=>unfold sayE at h2;rw [hE] at h2;cases h2
    | some v=>exact .inl ⟨hc,v,rfl,by rw [e];unfold sayE;rw [hE]⟩
   | false =>
    have hE:=sayE_none (l:=l) (o:=o) h2;refine .inr ?_
    cases h3:(sayR l o pend wish 3).2 with
    | true =>
     have e:=sayX_pick (l:=l) (o:=o) (pend:=pend) (wish:=wish) (j:=3) (by omega) (fun i hi=>by
      rcases (by omega:i = 0 ∨ i = 1 ∨ i = 2) with rfl | rfl | rfl
      ·exact h0
      ·exact h1
      ·exact h2) h3
     have h3:(sayP l o pend).2 = true:=h3;have e:sayX l o pend wish = sayP l o pend:=e
     unfold sayP at h3 e;by_cases hb:(dyN l o && primB l.n o (dyG l o)) = true
     ·rw [if_pos hb] at h3 e;rw [Bool.and_eq_true] at hb
      cases hf:pend.find? (dyP l o) with
      | none=>rw [hf] at h3;cases h3
      | some r =>
       rw [hf] at e;exact .inl ⟨hc,hE,hb.1,hb.2,r,List.mem_of_find?_eq_some hf,List.find?_some hf,by rw [e]⟩
     ·rw [if_neg hb] at h3;cases h3
    | false =>
     refine .inr ?_
     cases h4:(sayR l o pend wish 4).2 with
     | true =>
      have e:=sayX_pick (l:=l) (o:=o) (pend:=pend) (wish:=wish) (j:=4) (by omega) (fun i hi=>by
       rcases (by omega:i = 0 ∨ i = 1 ∨ i = 2 ∨ i = 3) with rfl | rfl | rfl | rfl
       ·exact h0
       ·exact h1
       ·exact h2
       ·exact h3) h4
      have h4':(dyN l o && (!primB l.n o (dyG l o) && decide ((dyV l o (dyG l o)).getD 0 < ((dyA l o).length:Int)))) = true:=h4;rw [Bool.and_eq_true,Bool.and_eq_true] at h4'
      obtain ⟨a,b,c⟩:=h4';exact ⟨hc,hE,a,(Bool.not_eq_true' _).mp b,of_decide_eq_true c,by rw [e];rfl⟩
     | false =>
      have e:=sayX_none (l:=l) (o:=o) (pend:=pend) (wish:=wish) fun i hi=>by
       rcases (by omega:i = 0 ∨ i = 1 ∨ i = 2 ∨ i = 3 ∨ i = 4) with rfl | rfl | rfl | rfl | rfl
       ·exact h0
       ·exact h1
       ·exact h2
       ·exact h3
       ·exact h4
      rw [e] at h;cases h
variable {l':Lgs} {X:Nat}
theorem say_step (hL:LI l T) (hK:KI l) (hodd:l.n % 2 = 1) (ho:o < l.n) (hs:SaidBy l o m) (hp:pend.length ≤ X) (hI:dI X l o wish)
  (hb:m.body = (sayX l o pend wish).1) (ht:(sayX l o pend wish).2 = true) (hn:l'.n = l.n) (hvs:l'.vs = (l.counts m).2.vs) (hpa:l'.past = (l.counts m).2.past) :
  (l.counts m).1 = true ∧ dI X l' o wish ∧ dMu X l' o pend wish < dMu X l o pend wish:=by
 have at_o:∀ {p:PM},(l.counts m).2.past = updF l.past o p→l'.past o = p:=fun h=>by rw [hpa,h,zae]
 rcases say_cases ht with ⟨hc,e⟩ | ⟨hc,hN,hpr,hq,e⟩ | ⟨hc,v,hE,e⟩ | ⟨hc,hE,hN,hpr,r,hr,hd,e⟩ | ⟨hc,hE,hN,hpr,hlt,e⟩
 ·have hc2:=hc;unfold dC at hc2
  rw [Bool.and_eq_true] at hc2;obtain ⟨a,b,c⟩:=cnt_C hs (hb.trans e) (of_decide_eq_true hc2.1) (of_decide_eq_true hc2.2);exact ⟨a,mu_C hI hp hc (hvs.trans b) (at_o c)⟩
 ·obtain ⟨a,⟨i,w,k,s,num,b1,b2,b3,b4⟩,k2,c⟩:=cnt_N hL hK hodd ho hs (hb.trans e) hN hpr hq;exact ⟨a,mu_N hI hp hc hN (List.mem_of_getElem? b2) b3 (hvs.trans b4) (at_o c)⟩
 ·obtain ⟨a1,a2,a3,a,b,k,c⟩:=cnt_E hL hK ho hs (hb.trans e) hE;exact ⟨a,mu_E hL.rise hI hp hc hE a1 hn (hvs.trans b) (at_o c)⟩
 ·obtain ⟨a,⟨i,w,b1,b2,b3⟩,c⟩:=cnt_P hL ho hs (hb.trans e) hN hpr hd;exact ⟨a,mu_P hL ho hc hN hE hpr hr hd b1 b2 hn (hvs.trans b3) (at_o c)⟩
 ·obtain ⟨a,b,c⟩:=cnt_K hL hK ho hs (hb.trans e) hN hpr hlt;exact ⟨a,mu_K hL ho hI hc hN hE hpr hlt hn (hvs.trans b) (at_o c)⟩
theorem quo_of:∀ {q:List (Int × Int)} {w:Int},(∀ p ∈ q,w < p.1 ∧ p.1 ≤ 11 ∧ 1 ≤ p.2 ∧ p.2 ≤ 65536)→q.Pairwise (fun a b=>a.1 < b.1)→quo w q = true
 | [],_,_,_=>rfl
 | a :: q, w, h, hp => by
  obtain ⟨h1,h2,h3,h4⟩:=h a (by simp)
  obtain ⟨p1,p2⟩:=List.pairwise_cons.1 hp
  unfold quo
  rw [if_neg (by omega)]
  exact quo_of (fun p hpm=>by have:=h p (by simp [hpm]);have:=p1 p hpm;omega) p2
theorem chgQ_rise {l:Lgs} {v:Int}:∀ r,(chgQ l v r).Pairwise (fun a b=>a.1 < b.1)
 | 0=>List.Pairwise.nil
 | r + 1 => by
  have ih:=@chgQ_rise l v r
  by_cases hl:(chgQ l v r).length ≤ l.n / 2
  ·by_cases h2:0 < (lastCh l r).2 ∧ (lastCh l r).1 = v
   ·rw [chgQ_yes hl h2.1 h2.2]
    refine List.pairwise_append.2 ⟨ih,List.pairwise_singleton _ _,fun a ha b hb=>?_⟩
    obtain ⟨i,h1,h3,_⟩:=chgQ_mem ha
    rw [List.mem_singleton.1 hb,h3]
    show ((i + 1:Nat):Int) < ((r + 1:Nat):Int)
    omega
   ·rw [chgQ_no h2];exact ih
  ·rw [chgQ_stop hl (r + 1) (by omega)];exact ih
theorem bodW_may {k:UInt8} {kk:Int} (hv:v < 1073741824) (hk:(k = 3 ∧ kk = 0 ∧ 1 ≤ v) ∨ (k = 5 ∧ kk = 0 ∧ 1 ≤ v) ∨ (k = 2 ∧ 1 ≤ kk ∧ kk ≤ 4611686018427387904)):(bodW k v kk).may = true:=by
 have e:Bod.eqB (bodW k v kk).own (bodW k v kk) = true:=by
  rcases hk with ⟨rfl,rfl,_⟩ | ⟨rfl,rfl,_⟩ | ⟨rfl,_⟩ <;> exact Bod.eqB_refl _
 unfold Bod.may;rw [e];have hv':decide ((bodW k v kk).view < 1073741824) = true:=decide_eq_true hv;rw [hv']
 rcases hk with ⟨rfl,rfl,h⟩ | ⟨rfl,rfl,h⟩ | ⟨rfl,h1,h2⟩
 ·exact decide_eq_true h
 ·exact decide_eq_true h
 ·exact decide_eq_true ⟨h1,h2⟩
theorem say_may (hL:LI l T) (hT:T ≤ 60000) (hK:KI l) (ho:o < l.n) (hs:SaidBy l o m) (hnum:m.number = l.known o + 1) (hd:∀ i,i ≤ 10→m.deps i ≤ 65536)
  (hb:m.body = (sayX l o pend wish).1) (ht:(sayX l o pend wish).2 = true):m.may = true:=by
 have hn:=hL.n3;have horg:=hs.org
 have hko:=hL.kn o;have hg0:=(hL.wf o ho).g0
 have hg0:0 ≤ dyG l o:=hg0;have hgb:dyG l o < 1073741824:=hL.gb o ho
 have hlast:=(hL.wf o ho).last
 have hout:m.outer:=by
  refine ⟨by omega,by omega,by omega,by omega,?_,(maxTo_le _ _ 10).2 hd⟩;rw [show m.origin.toNat - 1 = o by omega,hs.dep o ho,hnum];omega
 have key:m.body.may = true:=by
  rcases say_cases ht with ⟨hc,e⟩ | ⟨hc,hN,hpr,hq,e⟩ | ⟨hc,v,hE,e⟩ | ⟨hc,hE,hN,hpr,r,hr,hd,e⟩ | ⟨hc,hE,hN,hpr,hlt,e⟩
  ·rw [hb,e];unfold dC at hc;rw [Bool.and_eq_true] at hc;have h1:=of_decide_eq_true hc.1;exact bodW_may (of_decide_eq_true hc.2) (.inl ⟨rfl,rfl,by omega⟩)
  ·rw [hb,e];have hlt:=notVoted_lt hL ho (Int.le_refl _) (by unfold dyN at hN;exact hN);have e1:Bod.eqB (⟨4,dyG l o,0,Req.zero,chgQ l (dyG l o) l.n,noTag⟩:Bod).own ⟨4,dyG l o,0,Req.zero,chgQ l (dyG l o) l.n,noTag⟩ = true:=Bod.eqB_refl _
   have e2:decide ((⟨4,dyG l o,0,Req.zero,chgQ l (dyG l o) l.n,noTag⟩:Bod).view < 1073741824) = true:=decide_eq_true hgb;unfold Bod.may
   rw [e1,e2]
   have hquo:quo 0 (chgQ l (dyG l o) l.n) = true:=quo_of (fun p hp=>by
    obtain ⟨i,h1,h2,h3,_⟩:=chgQ_mem hp;have h4:=(hK.ch i _ (lastCh_mem h3)).2;have h5:=hL.kn i
    rw [h2]
    refine ⟨by show (0:Int) < ((i + 1:Nat):Int);omega,by show ((i + 1:Nat):Int) ≤ 11;omega,by show 1 ≤ (lastCh l i).2;omega,by show (lastCh l i).2 ≤ 65536;omega⟩) (chgQ_rise _)
   show (true && true && (decide (1 ≤ dyG l o) && (quo 0 (chgQ l (dyG l o) l.n) && decide (0 < (chgQ l (dyG l o) l.n).length)))) = true;rw [hquo,decide_eq_true (show 1 ≤ dyG l o by omega),decide_eq_true (show 0 < (chgQ l (dyG l o) l.n).length by omega)];rfl
  ·obtain ⟨a1,a2,_,a,_⟩:=cnt_E hL hK ho hs (hb.trans e) hE;rw [hb,e]
   have hvm:v ∈ viewsU l:=by
    unfold dyE at hE;rw [entV_find] at hE
    cases hf:(viewsU l).reverse.find? (fun v=>!ctE l o v) with
    | none=>rw [hf] at hE;cases hE
    | some u =>
     exact qbp
   obtain ⟨w,hw,hwv⟩:=List.mem_map.1 hvm;obtain ⟨p,hp,hp1⟩:=hL.begun w hw (by rw [hwv];exact a2);have hlow:=(hL.wf _ (primI_lt (by omega) w.v)).low p hp;rw [hp1,hwv] at hlow
   exact bodW_may hlow.2.1 (.inr (.inl ⟨rfl,rfl,by omega⟩))
  ·rw [hb,e];unfold dyP at hd;rw [Bool.and_eq_true] at hd;have hau:=hd.1;unfold Req.auth at hau
   rw [Bool.and_eq_true] at hau;have e1:Bod.eqB (⟨1,dyG l o,0,r,[],noTag⟩:Bod).own ⟨1,dyG l o,0,r,[],noTag⟩ = true:=Bod.eqB_refl _;have e2:decide ((⟨1,dyG l o,0,r,[],noTag⟩:Bod).view < 1073741824) = true:=decide_eq_true hgb
   unfold Bod.may;rw [e1,e2];exact hau.1
  ·obtain ⟨h1,h2⟩:=zbi hL ho hN;rw [hb,e,h2];exact bodW_may hgb (.inr (.inr ⟨rfl,by show 1 ≤ (l.past o).ln + 1;omega,by show (l.past o).ln + 1 ≤ _;omega⟩))
 unfold Msg.may;rw [key,decide_eq_true hout];rfl
structure DI (n T:Nat) (l:Lgs) (k:Nat→Int):Prop where
 L:LI l T
 K:KI l
 N:NI l
 n:l.n = n
 kn:∀ i,i < 11→l.known i = k i
theorem say_view (hL:LI l T) (ho:o < l.n) (ht:(sayX l o pend wish).2 = true):0 ≤ (sayX l o pend wish).1.view ∧ ∀ p ∈ (sayX l o pend wish).1.q,p.1 ≤ (l.n:Int):=by
 have hg0:=(hL.wf o ho).g0;have hg0:0 ≤ dyG l o:=hg0
 rcases say_cases ht with ⟨hc,e⟩ | ⟨hc,hN,hpr,hq,e⟩ | ⟨hc,v,hE,e⟩ | ⟨hc,hE,hN,hpr,r,hr,hd,e⟩ | ⟨hc,hE,hN,hpr,hlt,e⟩
 ·rw [e];unfold dC at hc;rw [Bool.and_eq_true] at hc
  have:=of_decide_eq_true hc.1;exact ⟨by show 0 ≤ wish;omega,fun p hp=>by cases hp⟩
 ·rw [e];refine ⟨hg0,fun p hp=>?_⟩;obtain ⟨i,h1,h2,_⟩:=chgQ_mem hp;rw [h2];show ((i + 1:Nat):Int) ≤ _;omega
 ·rw [e];refine ⟨?_,fun p hp=>by cases hp⟩;show 0 ≤ v
  have hvm:v ∈ viewsU l:=by
   unfold dyE at hE;rw [entV_find] at hE
   cases hf:(viewsU l).reverse.find? (fun v=>!ctE l o v) with
   | none=>rw [hf] at hE;cases hE
   | some u =>
    exact qbp
  obtain ⟨w,hw,hwv⟩:=List.mem_map.1 hvm;have hn:=hL.n3;by_cases h0:w.v = 0
  ·omega
  ·obtain ⟨p,hp,hp1⟩:=hL.begun w hw h0;have hlow:=(hL.wf _ (primI_lt (by omega) w.v)).low p hp;omega
 ·rw [e];exact ⟨hg0,fun p hp=>by cases hp⟩
 ·rw [e];exact ⟨hg0,fun p hp=>by cases hp⟩
variable {n:Nat}
theorem say_takes {k:Nat→Int} (h:DI n T l k) (hT:T ≤ 20000) (hodd:n % 2 = 1) (ho:o < n) (hp:pend.length ≤ X) (hI:dI X l o wish)
  (horg:m.origin = ((o + 1:Nat):Int)) (hnum:m.number = k o + 1) (hdep:∀ i,i < 11→m.deps i = k i) (hb:m.body = (sayX l o pend wish).1) (ht:(sayX l o pend wish).2 = true) :
  m.may = true ∧ ∃ l',l.take m = ((true,0),l') ∧ DI n (T + 1) l' (updF k o (k o + 1)) ∧ dI X l' o wish ∧ dMu X l' o pend wish < dMu X l o pend wish:=by
 obtain ⟨hL,hK,hN,hn,hkn⟩:=h;subst hn;have hn3:=hL.n3;have hs:SaidBy l o m:=⟨horg,fun i hi=>by rw [hdep i (by omega),hkn i (by omega)]⟩
 have hko:=hkn o (by omega);obtain ⟨hview,hq⟩:=say_view hL ho ht
 have hmay:=say_may hL (by omega) hK ho hs (by rw [hnum,hko]) (fun i hi=>by rw [hdep i (by omega),← hkn i (by omega)];have:=hL.kn i;omega) hb ht
 have hqin:qIn l.n m = true:=by
  unfold qIn;rw [List.all_eq_true,hb];exact fun p hpm=>decide_eq_true (hq p hpm)
 have hdin:depsIn m l.known = true:=by
  unfold depsIn;rw [List.all_eq_true];intro i hi;rw [List.mem_range] at hi;exact decide_eq_true (by rw [hdep i hi,hkn i hi];exact Int.le_refl _)
 obtain ⟨hcn,hck⟩:=Lgs.counts_nk l m;have horgI:=hs.orgI
 have htake:l.take m = (((l.counts m).1,0),{ (l.counts m).2 with known:=updF (l.counts m).2.known (orgI m) ((l.counts m).2.known (orgI m) + 1) }):=by
  unfold Lgs.take;rw [if_neg,if_neg]
  ·rintro (e | e)
   ·exact e (by rw [hnum,horgI,hko])
   ·rw [hdin] at e;cases e
  ·rintro (e | e | e)
   ·rw [hmay] at e;cases e
   ·omega
   ·rw [hqin] at e;cases e
 have hst:=say_step (l':={ (l.counts m).2 with known:=updF (l.counts m).2.known (orgI m) ((l.counts m).2.known (orgI m) + 1) }) hL hK hodd ho hs hp hI hb ht hcn rfl rfl;obtain ⟨c1,c2,c3⟩:=hst
 refine ⟨hmay,(l.take m).2,by rw [htake,c1],⟨hL.take (by rw [hb];exact hview),hK.take (fun r=>(hL.kn r).1) m,hN.take m,by rw [htake];exact hcn,fun i hi=>?_⟩,by rw [htake];exact c2,by rw [htake];exact c3⟩;rw [htake];show updF (l.counts m).2.known (orgI m) ((l.counts m).2.known (orgI m) + 1) i = _;rw [hck,horgI];by_cases e:i = o
 ·subst e;rw [zae,zae,hkn i hi]
 ·rw [zaq _ _ e,zaq _ _ e,hkn i hi]
def RunF:Lgs→List Msg→Prop
 | _,[]=>True
 | L,m::r=>Rdy L m ∧ RunF (L.take m).2 r
def stF:Lgs→List Msg→Lgs
 | L,[]=>L
 | L,m::r=>stF (L.take m).2 r
theorem RunF.app:∀ {a:List Msg} {L:Lgs} {b:List Msg},RunF L (a ++ b) ↔ RunF L a ∧ RunF (stF L a) b
 | [],L,b=>⟨fun h=>⟨trivial,h⟩,fun h=>h.2⟩
 | m :: a, L, b => by
  show Rdy L m ∧ RunF _ (a ++ b) ↔ (Rdy L m ∧ RunF _ a) ∧ RunF (stF _ a) b
  rw [RunF.app,and_assoc]
def LexLe (a b:Int × Int):Prop:=a.1 < b.1 ∨ (a.1 = b.1 ∧ a.2 ≤ b.2)
theorem LexLe.refl (a:Int × Int):LexLe a a:=.inr ⟨rfl,Int.le_refl _⟩
variable {c:Int × Int}
theorem LexLe.trans {a b:Int × Int} (h1:LexLe a b) (h2:LexLe b c):LexLe a c:=by
 unfold LexLe at *;omega
theorem bestOf_ge (bv:Int):∀ (l:List (Int × Int)) (a:Int × Int),LexLe a (bestOf bv l a) ∧ ∀ x ∈ l,x.1 < bv→LexLe x (bestOf bv l a)
 | [],a=>⟨LexLe.refl a,fun x hx=>by cases hx⟩
 | y :: r, a => by
  rw [bestOf_cons]
  by_cases hc:y.1 < bv ∧ (a.1 < y.1 ∨ (y.1 = a.1 ∧ a.2 < y.2))
  ·rw [if_pos hc]
   obtain ⟨h1,h2⟩:=bestOf_ge bv r y
   have hay:LexLe a y:=by unfold LexLe;omega
   refine ⟨hay.trans h1,fun x hx hb=>?_⟩
   rcases List.mem_cons.1 hx with rfl | hx
   ·exact h1
   ·exact h2 x hx hb
  ·rw [if_neg hc]
   obtain ⟨h1,h2⟩:=bestOf_ge bv r a
   refine ⟨h1,fun x hx hb=>?_⟩
   rcases List.mem_cons.1 hx with rfl | hx
   ·have hya:LexLe x a:=by unfold LexLe;omega
    exact hya.trans h1
   ·exact h2 x hx hb
theorem bestQ_ge (past:Nat→PM) (bv:Int):∀ (q:List (Int × Int)) (a:Int × Int),LexLe a (bestQ past bv q a) ∧ ∀ p ∈ q,∀ x ∈ (past (p.1 - 1).toNat).all,x.1 < bv→LexLe x (bestQ past bv q a)
 | [],a=>⟨LexLe.refl a,fun p hp=>by cases hp⟩
 | y :: r, a => by
  rw [bestQ_cons]
  obtain ⟨h1,h2⟩:=bestQ_ge past bv r (bestOf bv (past (y.1 - 1).toNat).all a)
  obtain ⟨h3,h4⟩:=bestOf_ge bv (past (y.1 - 1).toNat).all a
  refine ⟨h3.trans h1,fun p hp x hx hb=>?_⟩
  rcases List.mem_cons.1 hp with rfl | hp
  ·exact (h4 x hx hb).trans h1
  ·exact h2 p hp x hx hb
theorem bestOf_lt {bv:Int}:∀ (l:List (Int × Int)) (a:Int × Int),a.1 < bv→(bestOf bv l a).1 < bv
 | [],_,h=>h
 | y :: r, a, h => by
  rw [bestOf_cons]
  split
  ·rename_i hc;exact bestOf_lt r y hc.1
  ·exact bestOf_lt r a h
theorem bestQ_lt {past:Nat→PM} {bv:Int}:∀ (q:List (Int × Int)) (a:Int × Int),a.1 < bv→(bestQ past bv q a).1 < bv
 | [],_,h=>h
 | y::r,a,h=>by rw [bestQ_cons];exact bestQ_lt r _ (bestOf_lt _ _ h)
theorem quo_rise:∀ (q:List (Int × Int)) (w:Int),quo w q = true→q.Pairwise (fun a b=>a.1 < b.1) ∧ ∀ p ∈ q,w < p.1
 | [],_,_=>⟨List.Pairwise.nil,fun p hp=>by cases hp⟩
 | y :: r, w, h => by
  unfold quo at h
  split at h
  ·cases h
  ·rename_i hno
   obtain ⟨h1,h2⟩:=quo_rise r y.1 h
   refine ⟨List.pairwise_cons.2 ⟨fun b hb=>h2 b hb,h1⟩,fun p hp=>?_⟩
   rcases List.mem_cons.1 hp with e | e
   ·rw [e];omega
   ·have:=h2 p e;omega
theorem may_rise (h:m.may = true):m.body.q.Pairwise (fun a b=>a.1 < b.1):=by
 obtain ⟨h1,h2,h3⟩:=Bod.may_spec (Msg.may_body h);have hq:=Bod.eqB_q h1;by_cases h4:m.body.kind.toNat = 4
 ·rw [h4] at h3;have h3:(decide (1 ≤ m.body.view) && (quo 0 m.body.q && decide (0 < m.body.q.length))) = true:=h3;simp only [Bool.and_eq_true] at h3
  exact (quo_rise _ 0 h3.2.1).1
 ·rw [own_q h4] at hq;rw [← hq];exact List.Pairwise.nil
structure PStep (p p':PM):Prop where
 g:p.g ≤ p'.g
 low:∀ x ∈ p'.all,x.1 < p.g→x ∈ p.all
 up:∀ v k,PM.voted p.all v = some k→∃ k',k ≤ k' ∧ PM.voted p'.all v = some k'
theorem PStep.refl (p:PM):PStep p p:=⟨Int.le_refl _,fun _ h _=>h,fun _ k h=>⟨k,Int.le_refl _,h⟩⟩
theorem PStep.change (p:PM) (v:Int):PStep p (p.change v):=
 ⟨PM.change_g p v,fun x hx _=>by rw [(PM.change_all p v).1] at hx;exact hx,fun u k h=>⟨k,Int.le_refl _,by rw [(PM.change_all p v).1];exact h⟩⟩
variable {p:PM}
theorem PStep.enter {k:Int} (h:p.enterOk v k = true):PStep p (p.enter v k):=by
 have h2:=(PM.enterOk_lt h).2;refine ⟨PM.enter_gg p v k,fun x hx hlt=>?_,fun u j hj=>⟨j,Int.le_refl _,by rw [(PM.enter_all h).1];exact voted_app _ _ _ _ hj⟩⟩
 rw [(PM.enter_all h).1] at hx;rcases List.mem_append.1 hx with hx | hx
 ·exact hx
 ·rw [List.mem_singleton.1 hx] at hlt;have hlt:v < p.g:=hlt;omega
theorem PM.bump_all2 (p:PM):({ p with ln:=p.ln + 1 }:PM).all = p.init ++ [(p.lv,p.ln + 1)]:=rfl
theorem voted_bump (l:List (Int × Int)) (v a b u k:Int) (hab:a ≤ b) (h:PM.voted (l ++ [(v,a)]) u = some k):∃ k',k ≤ k' ∧ PM.voted (l ++ [(v,b)]) u = some k':=by
 induction l with
 | nil =>
  have h:(if u = v then some a else none) = some k:=h;show ∃ k',k ≤ k' ∧ (if u = v then some b else none) = some k'
  by_cases e:u = v
  ·rw [if_pos e] at h ⊢;cases h;exact ⟨b,hab,rfl⟩
  ·rw [if_neg e] at h;cases h
 | cons y r ih =>
  obtain ⟨w,n⟩:=y;have h:(if u = w then some n else PM.voted (r ++ [(v,a)]) u) = some k:=h;show ∃ k',k ≤ k' ∧ (if u = w then some n else PM.voted (r ++ [(v,b)]) u) = some k'
  by_cases e:u = w
  ·rw [if_pos e] at h ⊢;exact ⟨k,Int.le_refl _,h⟩
  ·rw [if_neg e] at h ⊢;exact ih h
theorem PStep.bump (h:p.isOpen v = true):PStep p { p with ln:=p.ln + 1 }:=by
 have hg:=PM.open_g h;refine ⟨Int.le_refl _,fun x hx hlt=>?_,fun u k hk=>voted_bump p.init p.lv p.ln (p.ln + 1) u k (by omega) hk⟩
 rw [PM.bump_all2] at hx;rcases List.mem_append.1 hx with hx | hx
 ·exact List.mem_append_left _ hx
 ·rw [List.mem_singleton.1 hx] at hlt;have hlt:p.lv < p.g:=hlt;omega
theorem eff_all {e:Eff} (h:l.eff m = some e) :
  (e = .no) ∨
  (e = .chg ((l.past (orgI m)).change m.body.view) (m.body.view,m.number)) ∨
  (primZ l.n m.body.view = m.origin ∧ m.body.q.length = (l.n - 1) / 2 + 1 ∧ l.qAll m = true ∧ (l.past (orgI m)).enterOk m.body.view (l.best m).2 = true ∧ e = .beg ((l.past (orgI m)).enter m.body.view (l.best m).2) ⟨m.body.view,m.number,l.pref (l.best m),[]⟩) ∨
  (∃ w,l.vw m.body.view = some w ∧ (l.past (orgI m)).enterOk m.body.view (w.s.length:Nat) = true ∧ e = .past ((l.past (orgI m)).enter m.body.view (w.s.length:Nat))) ∨
  ((l.past (orgI m)).isOpen m.body.view = true ∧ primZ l.n m.body.view = m.origin ∧ e = .prep { l.past (orgI m) with ln:=(l.past (orgI m)).ln + 1 } m.body.view (m.number,m.body.req)) ∨
  ((l.past (orgI m)).isOpen m.body.view = true ∧ primZ l.n m.body.view ≠ m.origin ∧ e = .past { l.past (orgI m) with ln:=(l.past (orgI m)).ln + 1 }):=by
 unfold Lgs.eff at h;split at h
 ·split at h
  ·cases h
   exact .inr (.inl rfl)
  ·cases h
 ·split at h
  ·split at h
   ·rename_i hc
    cases h
    exact .inr (.inr (.inl ⟨hc.1,hc.2.1,hc.2.2.1,hc.2.2.2,rfl⟩))
   ·cases h
  ·split at h
   ·split at h
    ·cases h
    ·split at h
     ·rename_i w hw hc
      cases h
      exact .inr (.inr (.inr (.inl ⟨w,hw,hc.2,rfl⟩)))
     ·cases h
   ·split at h
    ·split at h
     ·cases h
     ·split at h
      ·rename_i hc
       cases h
       refine .inr (.inr (.inr (.inr (.inl ⟨hc.2.2.2,hc.1,?_⟩))));unfold PM.prepare;rw [if_pos hc.2.2.2]
      ·cases h
    ·split at h
     ·split at h
      ·cases h
      ·split at h
       ·rename_i hc
        cases h
        have hok:=of_decide_eq_true (show decide _ = true from hc.2);refine .inr (.inr (.inr (.inr (.inr ⟨decide_eq_true hok.1,hc.1,?_⟩))))
        unfold PM.commit;rw [if_pos hc.2]
       ·cases h
     ·split at h
      ·cases h;exact .inl rfl
      ·cases h
structure Quo (n:Nat) (Q:List Nat):Prop where
 nd:Q.Nodup
 len:Q.length = (n - 1) / 2 + 1
 lt:∀ r ∈ Q,r < n
structure SV (l:Lgs) (w:Vw) (w0:Vw) (Q:List Nat) (k:Nat):Prop where
 q:Quo l.n Q
 m:w0 ∈ l.vs
 lt:w0.v < w.v
 s:w.s = w0.all.take k
 le:k ≤ w0.all.length
 ge:w0.s.length ≤ k
 gr:∀ r ∈ Q,w.v ≤ (l.past r).g
 mo:∀ r ∈ Q,∀ x ∈ (l.past r).all,x.1 < w.v→LexLe x (w0.v,(k:Int))
structure SI (l:Lgs):Prop where
 vw:∀ w ∈ l.vs,w.v ≠ 0→∃ w0 Q k,SV l w w0 Q k
 z:∀ w ∈ l.vs,w.v = 0→w.s = []
 lo:∀ r,r < l.n→∀ x ∈ (l.past r).all,∀ w ∈ l.vs,w.v = x.1→(w.s.length:Int) ≤ x.2
theorem SI.new (n:Nat):SI (Lgs.new n):=by
 refine ⟨fun w hw h0=>?_,fun w hw _=>?_,fun r _ x hx w hw _=>?_⟩
 ·rw [List.mem_singleton.1 hw] at h0;exact absurd rfl h0
 ·rw [List.mem_singleton.1 hw]
 ·rw [List.mem_singleton.1 hw,List.mem_singleton.1 hx];exact Int.le_refl _
variable {Q:List Nat}
theorem SV.mono {l2:Lgs} {w w' w0 w0':Vw} {k:Nat} (h:SV l w w0 Q k) (hn:l2.n = l.n) (hwv:w'.v = w.v) (hws:w'.s = w.s) (h0m:w0' ∈ l2.vs) (h0v:w0'.v = w0.v) (h0s:w0'.s = w0.s) (h0a:w0.all <+: w0'.all) (hp:∀ r,PStep (l.past r) (l2.past r)):SV l2 w' w0' Q k:=by
 obtain ⟨t,ht⟩:=h0a;refine ⟨by rw [hn];exact h.q,h0m,by rw [h0v,hwv];exact h.lt,?_,?_,by rw [h0s];exact h.ge,fun r hr=>by rw [hwv];exact Int.le_trans (h.gr r hr) (hp r).g,fun r hr x hx hlt=>?_⟩
 ·rw [hws,h.s,← ht,List.take_append_of_le_length h.le]
 ·rw [← ht,List.length_append];have:=h.le;omega
 ·rw [hwv] at hlt;rw [h0v];exact h.mo r hr x ((hp r).low x hx (by have:=h.gr r hr;omega)) hlt
theorem updF_step {past:Nat→PM} (h:PStep (past o) p) (r:Nat):PStep (past r) (updF past o p r):=by
 by_cases e:r = o
 ·subst e;rw [zae];exact h
 ·rw [zaq _ _ e];exact PStep.refl _
theorem SI.past {l:Lgs} {T:Nat} (hL:LI l T) (h:SI l) {o:Nat} {p:PM} {ch:Nat→List (Int × Int)} (hp:PStep (l.past o) p) (hlo:∀ x ∈ p.all,∀ w ∈ l.vs,w.v = x.1→(w.s.length:Int) ≤ x.2):SI { l with past:=updF l.past o p,ch:=ch }:=by
 refine ⟨fun w hw h0=>?_,h.z,fun r hr x hx w hw e=>?_⟩
 ·obtain ⟨w0,Q,k,hs⟩:=h.vw w hw h0;exact ⟨w0,Q,k,hs.mono rfl rfl rfl hs.m rfl rfl (List.prefix_refl _) (updF_step hp)⟩
 ·have hx:x ∈ (updF l.past o p r).all:=hx;by_cases er:r = o
  ·subst er;rw [zae] at hx;exact hlo x hx w hw e
  ·rw [zaq _ _ er] at hx;exact h.lo r hr x hx w hw e
theorem bump_lo (h:SI l) (ho:o < l.n):∀ x ∈ ({ l.past o with ln:=(l.past o).ln + 1 }:PM).all,∀ w ∈ l.vs,w.v = x.1→(w.s.length:Int) ≤ x.2:=by
 intro x hx w hw e;rw [PM.bump_all2] at hx;rcases List.mem_append.1 hx with hx | hx
 ·exact h.lo o ho x (List.mem_append_left _ hx) w hw e
 ·rw [List.mem_singleton.1 hx] at e ⊢
  have:=h.lo o ho ((l.past o).lv,(l.past o).ln) (List.mem_append_right _ (List.mem_singleton.2 rfl)) w hw e;have:(w.s.length:Int) ≤ (l.past o).ln:=this
  show (w.s.length:Int) ≤ (l.past o).ln + 1;omega
theorem SI.counts {l:Lgs} {T:Nat} (hL:LI l T) (hC:CI l) (h:SI l) {m:Msg} (hm:MIn l.n m) (hq:m.body.q.Pairwise (fun a b=>a.1 < b.1)):SI (l.counts m).2:=by
 have hor:=hm.o;have ho:orgI m < l.n:=by unfold orgI;omega
 have hr2:=(hL.counts hm).rise;rw [counts_eff hL.rise] at hr2 ⊢
 cases he:l.eff m with
 | none=>exact h
 | some e =>
  rw [he] at hr2;have hr2:((l.app (orgI m) e).vs.map Vw.v).Pairwise (· < ·):=hr2;show SI (l.app (orgI m) e)
  rcases eff_all he with rfl | rfl | ⟨hpr,hlen,hqa,hok,rfl⟩ | ⟨w,hw,hok,rfl⟩ | ⟨hok,hpr,rfl⟩ | ⟨hok,_,rfl⟩
  ·exact h
  ·exact h.past hL (PStep.change _ _) fun x hx=>by rw [(PM.change_all _ _).1] at hx;exact h.lo _ ho x hx
  ·obtain ⟨i,w0,hb1,hb2,hb3,hb4⟩:=hL.best hm;have hb0:l.best m = bestQ l.past m.body.view m.body.q (0,0):=rfl;rw [← hb0] at hb1 hb3 hb4
   have hw0:=List.mem_of_getElem? hb2
   have hw0v:w0.v = (l.best m).1:=by
    obtain ⟨⟨x,e1,e2⟩,_⟩:=zaw.1 hb1;rw [hb2] at e1;cases e1;exact e2
   have hvw0:l.vw (l.best m).1 = some w0:=by unfold Lgs.vw;rw [hb1];exact hb2
   have hpref:l.pref (l.best m) = w0.all.take (l.best m).2.toNat:=by unfold Lgs.pref;rw [hvw0];rfl
   have hnew:l.vw m.body.view = none:=by
    have hpi:=prim_org hpr;exact vw_none.2 (hL.fresh (k:=(l.best m).2) (by rw [hpi];exact ho) (by rw [hpi];exact hok))
   have hlv0:=(hL.wf _ ho).last;have hlt:=PM.enterOk_lt hok
   have hbv:(l.best m).1 < m.body.view:=bestQ_lt _ _ (by show (0:Int) < _;omega);obtain ⟨_,hge⟩:=bestQ_ge l.past m.body.view m.body.q (0,0)
   rw [← hb0] at hge
   have hqr:∀ p ∈ m.body.q,(p.1 - 1).toNat < l.n ∧ m.body.view ≤ (l.past (p.1 - 1).toNat).g:=fun p hp=>by
    have h1:=hm.q p hp;refine ⟨by omega,?_⟩
    unfold Lgs.qAll at hqa;have h2:=List.all_eq_true.1 hqa p hp;rw [Bool.and_eq_true] at h2
    obtain ⟨c,hc,h4⟩:=List.any_eq_true.1 h2.2;rw [Bool.and_eq_true] at h4;have h5:=hC _ c hc;rw [of_decide_eq_true h4.1] at h5
    exact h5
   have hw0s:(w0.s.length:Int) ≤ (l.best m).2:=by
    rcases bestQ_mem l.past m.body.view m.body.q (0,0) with e | ⟨p,hp,hx⟩
    ·rw [← hb0] at e;rw [e] at hw0v ⊢;rw [h.z w0 hw0 hw0v];exact Int.le_refl _
    ·rw [← hb0] at hx;exact h.lo _ (hqr p hp).1 _ hx w0 hw0 hw0v
   have hstep:∀ r,PStep (l.past r) (updF l.past (orgI m) ((l.past (orgI m)).enter m.body.view (l.best m).2) r):=updF_step (PStep.enter hok)
   have hmem:∀ {x:Vw},x ∈ insV ⟨m.body.view,m.number,l.pref (l.best m),[]⟩ l.vs→x = ⟨m.body.view,m.number,l.pref (l.best m),[]⟩ ∨ x ∈ l.vs:=fun hx=>by
    rcases List.mem_cons.1 ((zbq _ _).mem_iff.2 hx) with e | e
    ·exact .inl e
    ·exact .inr e
   have hkeep:∀ {x:Vw},x ∈ l.vs→x ∈ insV ⟨m.body.view,m.number,l.pref (l.best m),[]⟩ l.vs:=fun hx=>(zbq _ _).mem_iff.1 (List.mem_cons_of_mem _ hx);refine ⟨fun w hw h0=>?_,fun w hw h0=>?_,fun r hr x hx w hw e=>?_⟩
   ·rcases hmem hw with rfl | hw
    ·refine ⟨w0,m.body.q.map fun p=>(p.1 - 1).toNat,(l.best m).2.toNat,⟨⟨?_,?_,?_⟩,hkeep hw0,by rw [hw0v];exact hbv,hpref,by omega,by omega,fun r hr=>?_,fun r hr x hx hxl=>?_⟩⟩
     ·refine List.pairwise_map.2 (List.Pairwise.imp_of_mem ?_ hq);intro a b ha hb hab e;have h1:=hm.q a ha;have h2:=hm.q b hb
      have e:(a.1 - 1).toNat = (b.1 - 1).toNat:=e;omega
     ·rw [List.length_map];exact hlen
     ·intro r hr;obtain ⟨p,hp,rfl⟩:=List.mem_map.1 hr;exact (hqr p hp).1
     ·obtain ⟨p,hp,rfl⟩:=List.mem_map.1 hr;exact Int.le_trans (hqr p hp).2 (hstep _).g
     ·obtain ⟨p,hp,rfl⟩:=List.mem_map.1 hr;have h1:=(hstep _).low x hx (by have h2:=(hqr p hp).2;have hxl:x.1 < m.body.view:=hxl;omega);have h2:=hge p hp x h1 hxl
      rw [hw0v,show (((l.best m).2.toNat:Nat):Int) = (l.best m).2 by omega];exact h2
    ·obtain ⟨w1,Q,k,hs⟩:=h.vw w hw h0;exact ⟨w1,Q,k,hs.mono rfl rfl rfl (hkeep hs.m) rfl rfl (List.prefix_refl _) hstep⟩
   ·rcases hmem hw with rfl | hw
    ·have h0:m.body.view = 0:=h0;omega
    ·exact h.z w hw h0
   ·have hx:x ∈ (updF l.past (orgI m) ((l.past (orgI m)).enter m.body.view (l.best m).2) r).all:=hx
    have hold:∀ r,r < l.n→x ∈ (l.past r).all→(w.s.length:Int) ≤ x.2:=fun r hr hx=>by
     rcases hmem hw with rfl | hw
     ·obtain ⟨y,hy,hy1,_⟩:=hL.log r hr x hx;exact absurd (hy1.trans e.symm) (vw_no hnew y hy)
     ·exact h.lo r hr x hx w hw e
    by_cases er:r = orgI m
    ·subst er;rw [zae,(PM.enter_all hok).1] at hx;rcases List.mem_append.1 hx with hx | hx
     ·exact hold _ ho hx
     ·rw [List.mem_singleton.1 hx] at e ⊢;rcases hmem hw with rfl | hw
      ·show ((l.pref (l.best m)).length:Int) ≤ (l.best m).2;rw [hpref,List.length_take];omega
      ·exact absurd e (vw_no hnew w hw)
    ·rw [zaq _ _ er] at hx;exact hold r hr hx
  ·refine h.past hL (PStep.enter hok) fun x hx w' hw' e=>?_;rw [(PM.enter_all hok).1] at hx;rcases List.mem_append.1 hx with hx | hx
   ·exact h.lo _ ho x hx w' hw' e
   ·rw [List.mem_singleton.1 hx] at e ⊢;obtain ⟨h1,h2⟩:=vw_v hw;rw [Vw.uniq hL.rise hw' h2 (e.trans h1.symm)];exact Int.le_refl _
  ·have hstep:∀ r,PStep (l.past r) (updF l.past (orgI m) { l.past (orgI m) with ln:=(l.past (orgI m)).ln + 1 } r):=updF_step (PStep.bump hok);have hps:∀ x:Vw,(putV m.body.view (m.number,m.body.req) x).s = x.s:=fun x=>by unfold putV;split <;> rfl
   have hpa:∀ x:Vw,x.all <+: (putV m.body.view (m.number,m.body.req) x).all:=fun x=>by
    unfold putV;split
    ·show x.s ++ x.p.map Prod.snd <+: x.s ++ (x.p ++ [_]).map Prod.snd;rw [List.map_append,← List.append_assoc];exact List.prefix_append _ _
    ·exact List.prefix_refl _
   refine ⟨fun w hw h0=>?_,fun w hw h0=>?_,fun r hr x hx w hw e=>?_⟩
   ·obtain ⟨y,hy,rfl⟩:=List.mem_map.1 (show w ∈ l.vs.map (putV _ _) from hw);rw [putV_v] at h0;obtain ⟨w1,Q,k,hs⟩:=h.vw y hy h0;exact ⟨putV m.body.view (m.number,m.body.req) w1,Q,k,hs.mono rfl (putV_v _ _ _) (hps y) (List.mem_map.2 ⟨w1,hs.m,rfl⟩) (putV_v _ _ _) (hps w1) (hpa w1) hstep⟩
   ·obtain ⟨y,hy,rfl⟩:=List.mem_map.1 (show w ∈ l.vs.map (putV _ _) from hw);rw [putV_v] at h0;rw [hps];exact h.z y hy h0
   ·obtain ⟨y,hy,rfl⟩:=List.mem_map.1 (show w ∈ l.vs.map (putV _ _) from hw);rw [putV_v] at e;rw [hps];have hx:x ∈ (updF l.past (orgI m) { l.past (orgI m) with ln:=(l.past (orgI m)).ln + 1 } r).all:=hx;by_cases er:r = orgI m
    ·subst er;rw [zae] at hx;exact bump_lo h ho x hx y hy e
    ·rw [zaq _ _ er] at hx;exact h.lo r hr x hx y hy e
  ·exact h.past hL (PStep.bump hok) (bump_lo h ho)
structure DS (l:Lgs):Prop where
 li:∃ T,LI l T
 ci:CI l
 si:SI l
theorem SI.known (h:SI l) (k:Nat→Int):SI { l with known:=k }:=
 ⟨fun w hw h0=>by obtain ⟨w0,Q,j,hs⟩:=h.vw w hw h0;exact ⟨w0,Q,j,⟨hs.q,hs.m,hs.lt,hs.s,hs.le,hs.ge,hs.gr,hs.mo⟩⟩,h.z,h.lo⟩
theorem DS.new {n:Nat} (h3:3 ≤ n) (h11:n ≤ 11):DS (Lgs.new n):=⟨⟨0,LI.new h3 h11⟩,CI.new n,SI.new n⟩
theorem DS.take {l:Lgs} (h:DS l) {m:Msg} (hm:Rdy l m):DS (l.take m).2:=by
 obtain ⟨T,hL⟩:=h.li;have h1:=SI.counts hL h.ci h.si hm.min (may_rise hm.may);have h2:=CI.counts h.ci hL.rise m
 refine ⟨⟨T + 1,hL.take hm.v⟩,?_,?_⟩
 ·rw [hm.take];exact h2
 ·rw [hm.take];exact h1.known _
theorem DS.run:∀ {a:List Msg} {L:Lgs},DS L→RunF L a→DS (stF L a)
 | [],_,h,_=>h
 | m::a,L,h,hr=>DS.run (a:=a) (L:=(L.take m).2) (h.take hr.1) hr.2
def vot (l:Lgs) (r:Nat) (v:Int):Int:=(PM.voted (l.past r).all v).getD 0
def cntV (l:Lgs) (v:Int) (j:Nat):Nat:=((List.range l.n).filter fun r=>decide ((j:Int) ≤ vot l r v)).length
theorem filt_sum {α:Type} (p:α→Bool):∀ l:List α,(l.filter p).length + (l.filter fun x=>!p x).length = l.length
 | []=>rfl
 | a :: l => by
  have ih:=filt_sum p l
  by_cases h:p a = true
  ·rw [List.filter_cons_of_pos h,List.filter_cons_of_neg (by rw [h];decide),List.length_cons,List.length_cons];omega
  ·rw [List.filter_cons_of_neg h,List.filter_cons_of_pos (by cases e:p a with | true=>exact absurd e h | false=>rfl),List.length_cons,List.length_cons];omega
theorem nodup_le {α:Type} [DecidableEq α]:∀ {s l:List α},s.Nodup→(∀ k ∈ s,k ∈ l)→s.length ≤ l.length
 | [],_,_,_=>Nat.zero_le _
 | k :: s, l, hn, hs => by
  rw [List.nodup_cons] at hn
  obtain ⟨a,b,rfl⟩:=List.append_of_mem (hs k (by simp))
  have:=nodup_le (l:=a ++ b) hn.2 fun j hj=>by
   have h1:=hs j (List.mem_cons_of_mem _ hj)
   rw [List.mem_append,List.mem_cons] at h1
   rw [List.mem_append]
   rcases h1 with h1 | h1 | h1
   ·exact .inl h1
   ·exact absurd (h1 ▸ hj) hn.1
   ·exact .inr h1
  rw [List.length_append] at this
  rw [List.length_append,List.length_cons,List.length_cons]
  omega
theorem quo_meet (h:Quo n Q) {p:Nat→Bool} (hp:(n - 1) / 2 < ((List.range n).filter p).length) (hn:n % 2 = 1):∃ r ∈ Q,p r = true:=by
 by_cases he:∃ r ∈ Q,p r = true
 ·exact he
 ·exfalso
  have hsub:∀ r ∈ Q,r ∈ (List.range n).filter fun x=>!p x:=fun r hr=>by
   rw [List.mem_filter];refine ⟨List.mem_range.2 (h.lt r hr),?_⟩
   cases e:p r with
   | false=>rfl
   | true=>exact absurd ⟨r,hr,e⟩ he
  have h1:=nodup_le h.nd hsub;have h2:=filt_sum p (List.range n)
  rw [List.length_range] at h2;have h3:=h.len;omega
theorem vot_pos {r:Nat} (hj:0 < j) (h:(j:Int) ≤ vot l r v):∃ k,(v,k) ∈ (l.past r).all ∧ (j:Int) ≤ k:=by
 unfold vot at h
 cases e:PM.voted (l.past r).all v with
 | none=>rw [e] at h;have h:(j:Int) ≤ 0:=h;omega
 | some k=>rw [e] at h;exact ⟨k,voted_mem _ _ _ e,h⟩
theorem later {l:Lgs} {T:Nat} (hL:LI l T) (hS:SI l) (hn:l.n % 2 = 1) {w:Vw} (hw:w ∈ l.vs) {j:Nat} (hj:0 < j) (hc:(l.n - 1) / 2 < cntV l w.v j) :
  ∀ (N:Nat) (w':Vw),w' ∈ l.vs→w.v < w'.v→w'.v ≤ w.v + N→j ≤ w'.s.length ∧ w'.s.take j = w.all.take j
 | 0,w',_,h1,h2=>by omega
 | N + 1, w', hw', h1, h2 => by
  have hwz:0 ≤ w.v:=by
   by_cases h0:w.v = 0
   ·omega
   ·obtain ⟨p,hp,e⟩:=hL.begun w hw h0
    have:=(hL.wf _ (primI_lt (by have:=hL.n3;omega) w.v)).low p hp;omega
  obtain ⟨w0,Q,k,hs⟩:=hS.vw w' hw' (by omega)
  obtain ⟨r,hr,hv⟩:=quo_meet hs.q hc hn
  obtain ⟨x,hx,hjx⟩:=vot_pos hj (of_decide_eq_true hv)
  have hm:=hs.mo r hr _ hx h1
  have hle:=hs.le
  have hge:=hs.ge
  rcases hm with hlt | ⟨heq,hk⟩
  ·have hlt:w.v < w0.v:=hlt
   obtain ⟨i1,i2⟩:=later hL hS hn hw hj hc N w0 hs.m hlt (by have:=hs.lt;omega)
   rw [hs.s]
   refine ⟨by rw [List.length_take];omega,?_⟩
   rw [List.take_take,show min j k = j by omega]
   show (w0.s ++ w0.p.map Prod.snd).take j = _
   rw [List.take_append_of_le_length i1,i2]
  ·have heq:w.v = w0.v:=heq
   have hk:x ≤ (k:Int):=hk
   have e:=Vw.uniq hL.rise hw hs.m heq
   subst e
   rw [hs.s]
   refine ⟨by rw [List.length_take];omega,?_⟩
   rw [List.take_take,show min j k = j by omega]
def PVI (l:Lgs):Prop:=∀ w ∈ l.vs,(w.v,(w.all.length:Int)) ∈ (l.past (primI l.n w.v)).all
theorem PVI.new (n:Nat):PVI (Lgs.new n):=fun w hw=>by
 rw [List.mem_singleton.1 hw]
 exact List.mem_singleton.2 rfl
theorem PVI.counts (hL:LI l T) (h:PVI l) (hm:MIn l.n m):PVI (l.counts m).2:=by
 have hor:=hm.o;have ho:orgI m < l.n:=by unfold orgI;omega
 have hwf:=hL.wf _ ho;rw [counts_eff hL.rise]
 cases he:l.eff m with
 | none=>exact h
 | some e =>
  show PVI (l.app (orgI m) e)
  have old:∀ {p:PM},(∀ x ∈ (l.past (orgI m)).all,x ∈ p.all)→∀ w ∈ l.vs,(w.v,(w.all.length:Int)) ∈ (updF l.past (orgI m) p (primI l.n w.v)).all:=fun {p} hp w hw=>by
   by_cases e:primI l.n w.v = orgI m
   ·have:=h w hw;rw [e] at this ⊢
    rw [zae];exact hp _ this
   ·rw [zaq _ _ e];exact h w hw
  have hlast:∀ {w:Vw},w ∈ l.vs→primI l.n w.v = orgI m→w.v = (l.past (orgI m)).lv→(w.all.length:Int) = (l.past (orgI m)).ln:=fun {w} hw e1 e2=>by
   have h1:=h w hw;rw [e1] at h1
   rcases List.mem_append.1 h1 with h2 | h2
   ·have:=hwf.below _ h2;have:w.v < (l.past (orgI m)).lv:=this
    omega
   ·exact (Prod.ext_iff.1 (List.mem_singleton.1 h2)).2
  have hinit:∀ {w:Vw},w ∈ l.vs→primI l.n w.v = orgI m→w.v ≠ (l.past (orgI m)).lv→(w.v,(w.all.length:Int)) ∈ (l.past (orgI m)).init:=fun {w} hw e1 e2=>by
   have h1:=h w hw;rw [e1] at h1
   rcases List.mem_append.1 h1 with h2 | h2
   ·exact h2
   ·exact absurd (Prod.ext_iff.1 (List.mem_singleton.1 h2)).1 e2
  rcases eff_all he with rfl | rfl | ⟨hpr,hlen,hqa,hok,rfl⟩ | ⟨w,hw,hok,rfl⟩ | ⟨hok,hpr,rfl⟩ | ⟨hok,hpr,rfl⟩
  ·exact h
  ·exact fun w hw=>old (fun x hx=>by rw [(PM.change_all _ _).1];exact hx) w hw
  ·obtain ⟨i,w0,hb1,hb2,hb3,hb4⟩:=hL.best hm;have hb0:l.best m = bestQ l.past m.body.view m.body.q (0,0):=rfl;rw [← hb0] at hb1 hb3 hb4
   have hvw0:l.vw (l.best m).1 = some w0:=by unfold Lgs.vw;rw [hb1];exact hb2
   have hpref:l.pref (l.best m) = w0.all.take (l.best m).2.toNat:=by unfold Lgs.pref;rw [hvw0];rfl
   intro w hw;rcases List.mem_cons.1 ((zbq _ _).mem_iff.2 (show w ∈ insV _ l.vs from hw)) with rfl | hw
   ·show (m.body.view,_) ∈ (updF l.past (orgI m) ((l.past (orgI m)).enter m.body.view (l.best m).2) (primI l.n m.body.view)).all;rw [prim_org hpr,zae,(PM.enter_all hok).1];refine List.mem_append_right _ (List.mem_singleton.2 ?_)
    have:((⟨m.body.view,m.number,l.pref (l.best m),[]⟩:Vw).all.length:Int) = (l.best m).2:=by
     rw [Vw.all_len];show (((l.pref (l.best m)).length + 0:Nat):Int) = _;rw [hpref,List.length_take];omega
    rw [this]
   ·exact old (fun x hx=>by rw [(PM.enter_all hok).1];exact List.mem_append_left _ hx) w hw
  ·exact fun w hw=>old (fun x hx=>by rw [(PM.enter_all hok).1];exact List.mem_append_left _ hx) w hw
  ·intro w hw;obtain ⟨y,hy,rfl⟩:=List.mem_map.1 (show w ∈ l.vs.map (putV _ _) from hw);rw [putV_v];show _ ∈ (updF l.past (orgI m) { l.past (orgI m) with ln:=(l.past (orgI m)).ln + 1 } (primI l.n y.v)).all;have hg:=PM.open_g hok;by_cases e:primI l.n y.v = orgI m
   ·rw [e,zae,PM.bump_all2];by_cases e2:y.v = m.body.view
    ·have h3:=hlast hy e (by omega)
     have h4:(putV m.body.view (m.number,m.body.req) y).all.length = y.all.length + 1:=by
      unfold putV;rw [if_pos e2,Vw.all_len,Vw.all_len];show y.s.length + (y.p ++ [_]).length = _;rw [List.length_append];rfl
     rw [h4];refine List.mem_append_right _ (List.mem_singleton.2 ?_);rw [Prod.ext_iff];exact ⟨by show y.v = _;omega,by show ((y.all.length + 1:Nat):Int) = _;omega⟩
    ·have h4:putV m.body.view (m.number,m.body.req) y = y:=by unfold putV;rw [if_neg e2]
     rw [h4];exact List.mem_append_left _ (hinit hy e (by omega))
   ·rw [zaq _ _ e]
    have h4:putV m.body.view (m.number,m.body.req) y = y:=by
     unfold putV;rw [if_neg];intro e5;exact e (by rw [e5];exact prim_org hpr)
    rw [h4];exact h y hy
  ·intro w hw;show _ ∈ (updF l.past (orgI m) { l.past (orgI m) with ln:=(l.past (orgI m)).ln + 1 } (primI l.n w.v)).all;have hw:w ∈ l.vs:=hw;have hg:=PM.open_g hok
   by_cases e:primI l.n w.v = orgI m
   ·rw [e,zae,PM.bump_all2];refine List.mem_append_left _ (hinit hw e fun e2=>hpr ?_);have:primI l.n m.body.view = orgI m:=by rw [hg.2,← e2];exact e
    unfold primZ;rw [this];unfold orgI;omega
   ·rw [zaq _ _ e];exact h w hw
theorem eff_chg (h:l.eff m = some (.chg p c)):m.body.kind = 3:=by
 unfold Lgs.eff at h;split at h
 ·assumption
 ·exfalso;repeat' split at h
  all_goals cases h
theorem counts_ch (hL:LI l T) (h:m.body.kind ≠ 3):(l.counts m).2.ch = l.ch:=by
 rw [counts_eff hL.rise]
 cases he:l.eff m with
 | none=>rfl
 | some e =>
  cases e with
  | chg p c=>exact absurd (eff_chg he) h
  | no=>rfl
  | past p=>rfl
  | prep p v y=>rfl
  | beg p w=>rfl
def sumN (g:Nat→Nat):Nat→Nat
 | 0=>0
 | k + 1=>sumN g k + g k
theorem sumN_le {g g':Nat→Nat}:∀ n,(∀ r,r < n→g' r ≤ g r)→sumN g' n ≤ sumN g n
 | 0,_=>Nat.le_refl _
 | n + 1, h => by
  have:=sumN_le n fun r hr=>h r (by omega)
  have:=h n (by omega)
  show sumN g' n + g' n ≤ sumN g n + g n
  omega
theorem sumN_lt {g g':Nat→Nat}:∀ {n o:Nat},o < n→(∀ r,r < n→r ≠ o→g' r ≤ g r)→g' o < g o→sumN g' n < sumN g n
 | 0,o,h,_,_=>by omega
 | n + 1, o, h, h1, h2 => by
  show sumN g' n + g' n < sumN g n + g n
  by_cases e:o = n
  ·subst e
   have:=sumN_le (g:=g) (g':=g') o fun r hr=>h1 r (by omega) (by omega)
   omega
  ·have:=sumN_lt (n:=n) (o:=o) (by omega) (fun r hr=>h1 r (by omega)) h2
   have:=h1 n (by omega) (fun e2=>e e2.symm)
   omega
theorem sumN_add {g g':Nat→Nat}:∀ n,(∀ r,r < n→g' r ≤ g r + 1)→sumN g' n ≤ sumN g n + n
 | 0,_=>Nat.le_refl _
 | n + 1, h => by
  have:=sumN_add n fun r hr=>h r (by omega)
  have:=h n (by omega)
  show sumN g' n + g' n ≤ sumN g n + g n + (n + 1)
  omega
theorem sumN_bound {g:Nat→Nat} {c:Nat}:∀ n,(∀ r,r < n→g r ≤ c)→sumN g n ≤ c * n
 | 0,_=>Nat.zero_le _
 | n + 1, h => by
  have:=sumN_bound n fun r hr=>h r (by omega)
  have:=h n (by omega)
  show sumN g n + g n ≤ c * (n + 1)
  rw [Nat.mul_succ]
  omega
def heldB (l:Lgs) (W:Int) (q:Req):Bool:=holdsB (allO (l.vw W)) q.client q.time
def mR (l:Lgs) (W:Int) (r:Nat):Nat:=if dyG l r < W then 3 else match dyV l r W with
 | none=>2
 | some x=>(allO (l.vw W)).length - x.toNat
def mT (l:Lgs) (W:Int) (q:Req):Nat:=sumN (mR l W) l.n + if heldB l W q = true then 0 else l.n + 1
structure RI (W:Int) (q:Req) (l:Lgs):Prop where
 ds:DS l
 pv:PVI l
 g:∀ r,r < l.n→dyG l r ≤ W
 c:∀ r,r < l.n→dyG l r = W→(lastCh l r).1 = W ∧ 0 < (lastCh l r).2
 one:∀ w,l.vw W = some w→w.all.length ≤ w.s.length + 1 ∧ (w.p ≠ []→holdsB w.all q.client q.time = true)
variable {a:Bod × Bool}
section
variable {l:Lgs} {W:Int} {q:Req} {T:Nat}
theorem RI.vote (h:RI W q l) (hL:LI l T) {r:Nat} (hr:r < l.n) {x:Int} (hv:dyV l r W = some x):∃ w,l.vw W = some w ∧ (w.s.length:Int) ≤ x ∧ x ≤ (w.all.length:Int):=by
 obtain ⟨i,w,h1,h2,h3,_,h5⟩:=hL.voted hr hv;exact ⟨w,vw_of h1 h2,h.ds.si.lo r hr _ (voted_mem _ _ _ hv) w (List.mem_of_getElem? h2) h3,h5⟩
theorem RI.mR_le (h:RI W q l) (hL:LI l T) {r:Nat} (hr:r < l.n):mR l W r ≤ 3 ∧ (W ≤ dyG l r→mR l W r ≤ 2) ∧ ((dyV l r W).isSome = true→W ≤ dyG l r→mR l W r ≤ 1):=by
 have key:∀ x,dyV l r W = some x→(allO (l.vw W)).length - x.toNat ≤ 1:=fun x hx=>by
  obtain ⟨w,h1,h2,_⟩:=h.vote hL hr hx
  have:=(h.one w h1).1;rw [h1]
  show w.all.length - x.toNat ≤ 1;omega
 unfold mR;by_cases hg:dyG l r < W
 ·rw [if_pos hg];exact ⟨Nat.le_refl _,fun h=>by omega,fun _ h=>by omega⟩
 ·rw [if_neg hg]
  cases hv:dyV l r W with
  | none=>exact ⟨by show 2 ≤ 3;decide,fun _=>Nat.le_refl _,fun h=>by cases h⟩
  | some x =>
   have:=key x hv;refine ⟨?_,fun _=>?_,fun _ _=>this⟩
   ·show (allO (l.vw W)).length - x.toNat ≤ 3;omega
   ·show (allO (l.vw W)).length - x.toNat ≤ 2;omega
theorem RI.mT_le (h:RI W q l) (hL:LI l T):mT l W q ≤ 45:=by
 have h1:=sumN_bound (g:=mR l W) (c:=3) l.n fun r hr=>(h.mR_le hL hr).1
 have:=hL.n3;unfold mT
 split <;> omega
theorem voted_of (hL:LI l T) {r:Nat} (hr:r < l.n) {k:Int} (h:(v,k) ∈ (l.past r).all):dyV l r v = some k:=by
 have hp:=(hL.wf r hr).rise;show PM.voted (l.past r).all v = some k
 generalize (l.past r).all = a at h hp
 induction a with
 | nil=>cases h
 | cons y a ih =>
  obtain ⟨w,n⟩:=y;show (if v = w then some n else PM.voted a v) = some k;rcases List.mem_cons.1 h with e | e
  ·cases e;rw [if_pos rfl]
  ·have h1:=(List.pairwise_cons.1 hp).1 v (List.mem_map.2 ⟨_,e,rfl⟩);have h1:w < v:=h1
   rw [if_neg (by omega)];exact ih e (List.pairwise_cons.1 hp).2
theorem RI.top (h:RI W q l) (hL:LI l T) (hW:0 ≤ W):∀ v ∈ viewsU l,v ≤ W:=fun v hv=>by
 obtain ⟨w,hw,rfl⟩:=List.mem_map.1 hv
 by_cases h0:w.v = 0
 ·omega
 ·have hp:=primI_lt (n:=l.n) (by have:=hL.n3;omega) w.v
  obtain ⟨p,hp1,e⟩:=hL.begun w hw h0
  have h1:=(hL.wf _ hp).mem_le hp1
  have h2:=(hL.wf _ hp).top
  have h3:=h.g _ hp
  have h3:(l.past (primI l.n w.v)).g ≤ W:=h3
  omega
theorem chgQ_full {v:Int} (h:∀ r,r < l.n→(lastCh l r).1 = v ∧ 0 < (lastCh l r).2):∀ r,r ≤ l.n→(chgQ l v r).length = min r (l.n / 2 + 1)
 | 0,_=>by show 0 = _;omega
 | r + 1, hr => by
  have ih:=chgQ_full h r (by omega)
  obtain ⟨h1,h2⟩:=h r (by omega)
  by_cases hl:(chgQ l v r).length ≤ l.n / 2
  ·rw [chgQ_yes hl h2 h1,List.length_append]
   show _ + 1 = _
   omega
  ·rw [chgQ_stop hl (r + 1) (by omega)]
   omega
theorem orS_no {b:Bod × Bool} (h:(orS a b).2 = false):a.2 = false ∧ b.2 = false:=by
 unfold orS at h
 cases e:a.2 with
 | true=>rw [e,if_pos rfl,e] at h;cases h
 | false=>rw [e,if_neg (by decide)] at h;exact ⟨rfl,h⟩
theorem RI.quiet (h:RI W q l) (hL:LI l T) (hW0:0 < W) (hW:W < 1073741824) (hq:q.auth = true) (hs:∀ o,o < l.n→(sayX l o [q] W).2 = false) :
  ∃ w,l.vw W = some w ∧ holdsB w.all q.client q.time = true ∧ ∀ r,r < l.n→dyG l r = W ∧ dyV l r W = some (w.all.length:Int):=by
 have hn:=hL.n3;have hp:=primI_lt (n:=l.n) (by omega) W
 have parts:∀ o,o < l.n→(sayC l o W).2 = false ∧ (sayN l o).2 = false ∧ (sayE l o).2 = false ∧ (sayP l o [q]).2 = false ∧ (sayK l o).2 = false:=fun o ho=>by
  obtain ⟨h1,r1⟩:=orS_no (hs o ho);obtain ⟨h2,r2⟩:=orS_no r1;obtain ⟨h3,r3⟩:=orS_no r2;obtain ⟨h4,r4⟩:=orS_no r3;exact ⟨h1,h2,h3,h4,(orS_no r4).1⟩
 have hg:∀ o,o < l.n→dyG l o = W:=fun o ho=>by
  have h1:=(parts o ho).1;have h1:(decide (dyG l o < W) && decide (W < 1073741824)) = false:=h1
  rw [decide_eq_true hW,Bool.and_true] at h1
  have:=of_decide_eq_false h1
  have:=h.g o ho;omega
 have hprim:primB l.n (primI l.n W) (dyG l (primI l.n W)) = true:=by rw [hg _ hp];exact decide_eq_true rfl
 have hpe:dyN l (primI l.n W) = true:=by
  have h2:=(parts _ hp).2.1;have h2:(!dyN l (primI l.n W) && (primB l.n (primI l.n W) (dyG l (primI l.n W)) && decide (((l.n / 2:Nat):Int) < ((chgQ l (dyG l (primI l.n W)) l.n).length:Int)))) = false:=h2
  have h3:=chgQ_full (l:=l) (v:=W) (fun r hr=>h.c r hr (hg r hr)) l.n (Nat.le_refl _);rw [hprim,hg _ hp,h3,decide_eq_true (by omega)] at h2
  cases e:dyN l (primI l.n W) with
  | true=>rfl
  | false=>rw [e] at h2;cases h2
 obtain ⟨hlv,hvp⟩:=zbi hL hp hpe;rw [hg _ hp] at hvp;obtain ⟨w,hw,_,_⟩:=h.vote hL hp hvp;obtain ⟨hwv,hwm⟩:=vw_v hw;have hpv:=h.pv w hwm;rw [hwv] at hpv
 have hvp:=voted_of hL hp hpv;have hA:∀ o,o < l.n→dyA l o = w.all:=fun o ho=>by unfold dyA;rw [hg o ho,hw];rfl
 refine ⟨w,hw,?_,fun r hr=>⟨hg r hr,?_⟩⟩
 ·have h4:=(parts _ hp).2.2.2.1;unfold sayP at h4
  rw [hpe,hprim] at h4
  have h4:(match [q].find? (dyP l (primI l.n W)) with
   | none=>sayZ
   | some r=>(⟨1,dyG l (primI l.n W),0,r,[],noTag⟩,true)).2 = false:=h4
  cases hd:dyP l (primI l.n W) q with
  | true =>
   rw [List.find?_cons_of_pos hd] at h4;cases h4
  | false =>
   unfold dyP at hd;rw [hq,hA _ hp,Bool.true_and] at hd
   cases e:holdsB w.all q.client q.time with
   | true=>rfl
   | false=>rw [e] at hd;cases hd
 ·by_cases er : r = primI l.n W
  ·rw [er];exact hvp
  ·have hnp:primB l.n r W = false:=decide_eq_false fun e=>er e.symm
   have hent:dyN l r = true:=by
    have h3:=sayE_none (parts r hr).2.2.1
    cases e:(dyV l r W).isSome with
    | true=>show (dyV l r (dyG l r)).isSome = true;rw [hg r hr];exact e
    | false =>
     exfalso;unfold dyE at h3;rw [entV_find] at h3;have hcW:ctE l r W = false:=by unfold ctE;rw [hnp,Bool.and_false,Bool.and_false]
     have hxW:exE l r W = false:=by unfold exE;rw [e,hg r hr,decide_eq_true ⟨by omega,by omega⟩];rfl
     have hmem:W ∈ (viewsU l).reverse:=List.mem_reverse.2 (List.mem_map.2 ⟨w,hwm,hwv⟩);obtain ⟨l1,l2,hl⟩:=List.append_of_mem hmem
     have hpw:(viewsU l).reverse.Pairwise (fun a b=>b < a):=List.pairwise_reverse.2 hL.rise;rw [hl] at hpw
     have hl1:l1 = []:=by
      cases l1 with
      | nil=>rfl
      | cons a l1 =>
       have h5:=(List.pairwise_append.1 hpw).2.2 a (by simp) W (by simp);have h6:=h.top hL (by omega) a (List.mem_reverse.1 (by rw [hl];simp))
       omega
     rw [hl,hl1,List.nil_append,List.find?_cons_of_pos (by rw [hcW];rfl)] at h3;have h3:(if exE l r W = true then none else some W) = none:=h3;rw [hxW] at h3
     cases h3
   obtain ⟨_,hvr⟩:=zbi hL hr hent;have hvr2:=hvr;rw [hg r hr] at hvr2
   obtain ⟨w2,hw2,_,hle⟩:=h.vote hL hr hvr2;rw [hw] at hw2;cases hw2
   have h5:=(parts r hr).2.2.2.2;have h5:(dyN l r && (!primB l.n r (dyG l r) && decide ((dyV l r (dyG l r)).getD 0 < ((dyA l r).length:Int)))) = false:=h5
   rw [hent,hg r hr,hnp,hvr2,hA r hr] at h5;have h5:decide ((l.past r).ln < (w.all.length:Int)) = false:=h5;have h5:=of_decide_eq_false h5
   rw [hvr2];congr 1;omega
end
theorem vw_set (hr:(l.vs.map Vw.v).Pairwise (· < ·)) {i:Nat} {w:Vw} (hat:vwAt l.vs v = some i) (hi:l.vs[i]? = some w) (y:Int × Req) (h:l'.vs = l.vs.set i { w with p:=w.p ++ [y] }) (u:Int):l'.vw u = (l.vw u).map (putV v y):=
 vw_put hr (h.trans (set_putV hr hat hi y)) u
theorem RI.say {W:Int} {q:Req} {k:Nat→Int} (h:RI W q l) (hD:DI n T l k) (hT:T ≤ 10000) (hodd:n % 2 = 1) (ho:o < n) (hW0:0 < W) (hW:W < 1073741824)
  (horg:m.origin = ((o + 1:Nat):Int)) (hnum:m.number = k o + 1) (hdep:∀ i,i < 11→m.deps i = k i) (hb:m.body = (sayX l o [q] W).1) (ht:(sayX l o [q] W).2 = true) :
  m.may = true ∧ ∃ l',l.take m = ((true,0),l') ∧ DI n (T + 1) l' (updF k o (k o + 1)) ∧ RI W q l' ∧ mT l' W q < mT l W q:=by
 obtain ⟨hmay,l',htk,hD',_,_⟩:=say_takes (X:=T + 1) (pend:=[q]) hD (by omega) hodd ho (by show 1 ≤ _;omega) (.inl fun w hw=>by have:=hD.L.al w hw;omega) horg hnum hdep hb ht;refine ⟨hmay,l',htk,hD',?_⟩;have hDn:=hD.n;subst hDn
 have hL:=hD.L;have hn3:=hL.n3
 have hkn:=hD.kn;obtain ⟨hview,hqq⟩:=say_view hL ho ht
 have hs:SaidBy l o m:=⟨horg,fun i hi=>by rw [hdep i (by omega),hkn i (by omega)]⟩
 have hrd:Rdy l m:=by
  refine ⟨hmay,by omega,?_,by rw [hb];exact hview,by rw [hs.orgI,hnum,hkn o (by omega)],fun i hi=>by rw [hdep i hi,hkn i hi];exact Int.le_refl _⟩;unfold qIn;rw [List.all_eq_true,hb];exact fun p hp=>decide_eq_true (hqq p hp)
 have hrt:=hrd.take;rw [htk] at hrt
 have hl':l' = { (l.counts m).2 with known:=updF l.known (orgI m) (l.known (orgI m) + 1) }:=(Prod.ext_iff.1 hrt).2;have hn':l'.n = l.n:=by rw [hl'];exact (l.counts_nk m).1
 have hvs':l'.vs = (l.counts m).2.vs:=by rw [hl']
 have hpa':l'.past = (l.counts m).2.past:=by rw [hl']
 have hch':l'.ch = (l.counts m).2.ch:=by rw [hl']
 have hds':DS l':=by have:=h.ds.take hrd;rw [htk] at this;exact this
 have hpv':PVI l':=by
  have:=PVI.counts hL h.pv hrd.min;rw [hl']
  exact this
 have hL':=hD'.L;have grow:∀ {W':Prop},W'→W':=fun h=>h
 clear hl' hrt hqq hview;have lch:l'.ch = l.ch→∀ r,lastCh l' r = lastCh l r:=fun e r=>by unfold lastCh;rw [e]
 have hchk:m.body.kind ≠ 3→∀ r,lastCh l' r = lastCh l r:=fun hk=>lch (hch'.trans (counts_ch hL hk))
 have gset:∀ {p:PM},(l.counts m).2.past = updF l.past o p→dyG l' o = p.g ∧ (∀ v,dyV l' o v = PM.voted p.all v) ∧ ∀ r,r ≠ o→dyG l' r = dyG l r ∧ ∀ v,dyV l' r v = dyV l r v:=fun {p} e=>by
  rw [e] at hpa';refine ⟨?_,fun v=>?_,fun r hr=>⟨?_,fun v=>?_⟩⟩
  ·unfold dyG;rw [hpa',zae]
  ·unfold dyV;rw [hpa',zae]
  ·unfold dyG;rw [hpa',zaq _ _ hr]
  ·unfold dyV;rw [hpa',zaq _ _ hr]
 rcases say_cases ht with ⟨hc,e⟩ | ⟨hc,hN,hpr,hq,e⟩ | ⟨hc,v,hE,e⟩ | ⟨hc,hE,hN,hpr,r,hr,hd,e⟩ | ⟨hc,hE,hN,hpr,hlt,e⟩
 ·have hc2:=hc;unfold dC at hc2
  rw [Bool.and_eq_true] at hc2;have hgo:=of_decide_eq_true hc2.1;obtain ⟨_,b,c⟩:=cnt_C hs (hb.trans e) hgo hW
  obtain ⟨g1,g2,g3⟩:=gset c;have hvw:∀ v,l'.vw v = l.vw v:=vw_congr (hvs'.trans b);have hg1:dyG l' o = W:=g1
  have hchm:l'.ch = updF l.ch o (l.ch o ++ [(W,m.number)]):=by
   have hv:m.body.view = W:=by rw [hb,e];rfl
   have hok:(l.past (orgI m)).changeOk m.body.view = true:=by rw [hs.orgI,hv];exact decide_eq_true ⟨hgo,hW⟩
   rw [hch',Lgs.counts_3 (by rw [hb,e];rfl),if_pos hok,hs.orgI,hv]
  have hmp:0 < m.number:=by rw [hnum,← hkn o (by omega)];have:=(hL.kn o).1;omega
  refine ⟨⟨hds',hpv',fun r hr=>?_,fun r hr hgr=>?_,fun w hw=>h.one w (by rw [← hvw];exact hw)⟩,?_⟩
  ·by_cases er:r = o
   ·rw [er,hg1];exact Int.le_refl _
   ·rw [(g3 r er).1];exact h.g r (by omega)
  ·by_cases er:r = o
   ·subst er;have:lastCh l' r = (W,m.number):=by unfold lastCh;rw [hchm,zae,List.getLast?_append];rfl
    rw [this];exact ⟨rfl,hmp⟩
   ·have:lastCh l' r = lastCh l r:=by unfold lastCh;rw [hchm,zaq _ _ er]
    rw [this];exact h.c r (by omega) (by rw [← (g3 r er).1];exact hgr)
  ·have hh:heldB l' W q = heldB l W q:=by unfold heldB;rw [hvw]
   have hmo:mR l' W o ≤ 2:=by
    unfold mR;rw [if_neg (by rw [hg1];omega)]
    have hno:dyV l' o W = none:=by
     rw [g2];show PM.voted (l.past o).all W = none
     cases ev:PM.voted (l.past o).all W with
     | none=>rfl
     | some x =>
      exfalso;have h1:=(hL.wf o ho).mem_le (voted_mem _ _ _ ev);have h2:=(hL.wf o ho).top
      have h3:(l.past o).g < W:=hgo;have h1:W ≤ (l.past o).lv:=h1
      omega
    rw [hno];exact Nat.le_refl _
   have hmo2:mR l W o = 3:=by unfold mR;rw [if_pos hgo]
   have:=sumN_lt (g:=mR l W) (g':=mR l' W) (n:=l.n) (o:=o) ho (fun r hr er=>by unfold mR;rw [(g3 r er).1,(g3 r er).2,hvw];exact Nat.le_refl _) (by omega);unfold mT
   rw [hh,hn'];omega
 ·have hv:m.body.view = dyG l o:=by rw [hb,e]
  have hgo:dyG l o = W:=by
   unfold dC at hc;rw [decide_eq_true hW,Bool.and_true] at hc
   have:=of_decide_eq_false hc
   have:=h.g o ho;omega
  obtain ⟨_,⟨i,w,j,s,num,b1,b2,b3,b4⟩,k2,c⟩:=cnt_N hL hD.K hodd ho hs (hb.trans e) hN hpr hq;obtain ⟨g1,g2,g3⟩:=gset c;rw [hgo] at b4 g1 g2;have g1:dyG l' o = W:=g1;have hvs2:=hvs'.trans b4
  have hvw:∀ u,l'.vw u = if u = W then some ⟨W,num,s,[]⟩ else l.vw u:=fun u=>vw_ins (w:=⟨W,num,s,[]⟩) hvs2 hL'.rise u
  have hnone:l.vw W = none:=by
   cases ev:l.vw W with
   | none=>rfl
   | some w1 =>
    exfalso;obtain ⟨hw1,hw2⟩:=vw_v ev;have h1:=h.pv w1 hw2
    have hprim:primI l.n W = o:=by
     have:=of_decide_eq_true (show decide _ = true from hpr);rw [hgo] at this;exact this
    rw [hw1,hprim] at h1;have h2:=voted_of hL ho h1;unfold dyN at hN
    rw [hgo,h2] at hN;cases hN
  refine ⟨⟨hds',hpv',fun r hr=>?_,fun r hr hgr=>?_,fun w1 hw1=>?_⟩,?_⟩
  ·exact qbF
  ·rw [hchk (by rw [hb,e];show (4:UInt8) ≠ 3;decide)];exact qbv
  ·rw [hvw,if_pos rfl] at hw1;cases hw1
   exact ⟨by rw [Vw.all_len];show s.length + 0 ≤ s.length + 1;omega,fun h=>absurd rfl h⟩
  ·have hheld:heldB l W q = false:=by unfold heldB;rw [hnone];rfl
   have hmo2:mR l W o = 2:=by
    unfold dyN at hN;rw [hgo] at hN;unfold mR;rw [if_neg (by omega)]
    cases ev:dyV l o W with
    | none=>rfl
    | some x=>rw [ev] at hN;cases hN
   have hRI1:mR l' W o ≤ 1:=by
    have hvo:dyV l' o W = some k2:=by
     rw [g2];show PM.voted ((l.past o).all ++ [(W,k2)]) W = some k2;rw [zbw]
     have:PM.voted (l.past o).all W = none:=by
      unfold dyN at hN;rw [hgo] at hN
      cases ev:PM.voted (l.past o).all W with
      | none=>rfl
      | some x=>have:dyV l o W = some x:=ev;rw [this] at hN;cases hN
     rw [this];simp
    have hpvo:=hpv' ⟨W,num,s,[]⟩ (by rw [hvs2];exact (zbq _ _).mem_iff.1 List.mem_cons_self)
    have hprim:primI l'.n W = o:=by
     have:=of_decide_eq_true (show decide _ = true from hpr);rw [hgo] at this;rw [hn'];exact this
    have hpvo:(W,((⟨W,num,s,[]⟩:Vw).all.length:Int)) ∈ (l'.past (primI l'.n W)).all:=hpvo;rw [hprim] at hpvo
    have h2:=voted_of hL' (by omega) hpvo;rw [hvo] at h2
    unfold mR;rw [if_neg (by rw [g1];omega),hvo,hvw,if_pos rfl];show (⟨W,num,s,[]⟩:Vw).all.length - k2.toNat ≤ 1
    have:=Option.some.inj h2;omega
   have hoth:∀ r,r < l.n→r ≠ o→mR l' W r ≤ mR l W r:=fun r hr er=>by
    have hno:dyV l r W = none:=by
     cases ev:dyV l r W with
     | none=>rfl
     | some x =>
      obtain ⟨w1,hw1,_⟩:=h.vote hL hr ev;rw [hnone] at hw1;cases hw1
    unfold mR;rw [(g3 r er).1,(g3 r er).2,hno];exact Nat.le_refl _
   have:=sumN_lt (g:=mR l W) (g':=mR l' W) (n:=l.n) (o:=o) ho hoth (by omega);have hm1:mT l W q = sumN (mR l W) l.n + (l.n + 1):=by unfold mT;rw [hheld,if_neg (by decide)]
   have hm2:mT l' W q ≤ sumN (mR l' W) l.n + (l.n + 1):=by unfold mT;rw [hn'];split <;> omega
   omega
 ·have hgo:dyG l o = W:=by
   unfold dC at hc;rw [decide_eq_true hW,Bool.and_true] at hc
   have:=of_decide_eq_false hc
   have:=h.g o ho;omega
  obtain ⟨a1,a2,a3,_,b,k2,c⟩:=cnt_E hL hD.K ho hs (hb.trans e) hE
  have hvm:v ∈ viewsU l ∧ (dyV l o v).isSome = false:=by
   unfold dyE at hE;rw [entV_find] at hE
   cases hf:(viewsU l).reverse.find? (fun v=>!ctE l o v) with
   | none=>rw [hf] at hE;cases hE
   | some u =>
    rw [hf] at hE;have hE:(if exE l o u = true then none else some u) = some v:=hE;by_cases hx:exE l o u = true
    ·rw [if_pos hx] at hE;cases hE
    ·rw [if_neg hx] at hE;cases hE
     refine ⟨List.mem_reverse.1 (List.mem_of_find?_eq_some hf),?_⟩
     cases ev:(dyV l o v).isSome with
     | false=>rfl
     | true=>exfalso;apply hx;unfold exE;rw [ev,Bool.or_true]
  have hvW:v = W:=by
   have:=h.top hL (by omega) v hvm.1;omega
  subst hvW;obtain ⟨g1,g2,g3⟩:=gset c;have g1:dyG l' o = v:=g1;have hvw:∀ u,l'.vw u = l.vw u:=vw_congr (hvs'.trans b)
  have hRI:RI v q l':=by
   refine ⟨hds',hpv',fun r hr=>?_,fun r hr hgr=>?_,fun w hw=>h.one w (by rw [← hvw];exact hw)⟩
   ·exact qbF
   ·rw [hchk (by rw [hb,e];show (5:UInt8) ≠ 3;decide)];exact qbv
  refine ⟨hRI,?_⟩
  have hno:dyV l o v = none:=by
   cases ev:dyV l o v with
   | none=>rfl
   | some x=>have:=hvm.2;rw [ev] at this;cases this
  have hmo2:mR l v o = 2:=by unfold mR;rw [if_neg (by omega),hno]
  have hso:(dyV l' o v).isSome = true:=by
   rw [g2];show (PM.voted ((l.past o).all ++ [(v,k2)]) v).isSome = true;rw [zbw];have:PM.voted (l.past o).all v = none:=hno;rw [this]
   simp
  have hmo:=(hRI.mR_le hL' (r:=o) (by omega)).2.2 hso (by rw [g1];exact Int.le_refl _);have hh:heldB l' v q = heldB l v q:=by unfold heldB;rw [hvw]
  have:=sumN_lt (g:=mR l v) (g':=mR l' v) (n:=l.n) (o:=o) ho (fun r hr er=>by unfold mR;rw [(g3 r er).1,(g3 r er).2,hvw];exact Nat.le_refl _) (by omega);unfold mT
  rw [hh,hn'];omega
 ·have hgo:dyG l o = W:=by
   unfold dC at hc;rw [decide_eq_true hW,Bool.and_true] at hc
   have:=of_decide_eq_false hc
   have:=h.g o ho;omega
  have hrq:r = q:=List.mem_singleton.1 hr;subst hrq
  obtain ⟨_,⟨i,w,b1,b2,b3⟩,c⟩:=cnt_P hL ho hs (hb.trans e) hN hpr hd;obtain ⟨g1,g2,g3⟩:=gset c;have g1:dyG l' o = W:=by rw [g1];exact hgo
  rw [hgo] at b1;have hvw:=vw_set hL.rise b1 b2 (m.number,r) (hvs'.trans b3);have hw:=vw_of b1 b2
  have hwv:=(vw_v hw).1;have hput:putV W (m.number,r) w = { w with p:=w.p ++ [(m.number,r)] }:=by unfold putV;rw [if_pos hwv]
  have hwW:l'.vw W = some { w with p:=w.p ++ [(m.number,r)] }:=by rw [hvw,hw];show some (putV _ _ w) = _;rw [hput]
  have hall:({ w with p:=w.p ++ [(m.number,r)] }:Vw).all = w.all ++ [r]:=by
   show w.s ++ (w.p ++ [_]).map Prod.snd = (w.s ++ w.p.map Prod.snd) ++ [r];rw [List.map_append,List.append_assoc];rfl
  have hdd:=hd;unfold dyP at hdd
  have hA:dyA l o = w.all:=by unfold dyA;rw [hgo,hw];rfl
  rw [Bool.and_eq_true,hA] at hdd;have hnh:holdsB w.all r.client r.time = false:=by cases ev:holdsB w.all r.client r.time with | false=>rfl | true=>rw [ev] at hdd;exact absurd hdd.2 (by decide)
  have hp0:w.p = []:=by
   cases ep:w.p with
   | nil=>rfl
   | cons y t =>
    have:=(h.one w hw).2 (by rw [ep];exact List.cons_ne_nil _ _);rw [hnh] at this;cases this
  have hh2:holdsB (w.all ++ [r]) r.client r.time = true:=by
   unfold holdsB;rw [List.any_append];simp
  have hRI:RI W r l':=by
   refine ⟨hds',hpv',fun s hs'=>?_,fun s hs' hgr=>?_,fun w1 hw1=>?_⟩
   ·by_cases er:s = o
    ·rw [er,g1];exact Int.le_refl _
    ·rw [(g3 s er).1];exact h.g s (by omega)
   ·rw [hchk (by rw [hb,e];show (1:UInt8) ≠ 3;decide)];by_cases er:s = o
    ·rw [er];exact h.c o ho hgo
    ·exact h.c s (by omega) (by rw [← (g3 s er).1];exact hgr)
   ·rw [hwW] at hw1;cases hw1
    refine ⟨?_,fun _=>by rw [hall];exact hh2⟩;rw [Vw.all_len];show w.s.length + (w.p ++ [_]).length ≤ w.s.length + 1;rw [hp0];exact Nat.le_refl _
  refine ⟨hRI,?_⟩;have hheld:heldB l W r = false:=by unfold heldB;rw [hw];exact hnh
  have hheld':heldB l' W r = true:=by unfold heldB;rw [hwW];show holdsB (Vw.all _) _ _ = true;rw [hall];exact hh2
  have hle:∀ s,s < l.n→mR l' W s ≤ mR l W s + 1:=fun s hs'=>by
   have hb1:=(hRI.mR_le hL' (r:=s) (by omega));by_cases er:s = o
   ·subst er;obtain ⟨_,hvo⟩:=zbi hL ho hN
    have hso:(dyV l' s W).isSome = true:=by
     rw [g2]
     have:=(hL.wf s ho).bump;show (PM.voted ((l.past s).init ++ [((l.past s).lv,(l.past s).ln + 1)]) W).isSome = true
     obtain ⟨hlv,_⟩:=zbi hL ho hN;rw [zbw,hlv,hgo];cases PM.voted (l.past s).init W <;> simp
    have:=hb1.2.2 hso (by rw [g1];exact Int.le_refl _);omega
   ·have hlw:(allO (l.vw W)).length = w.all.length:=by rw [hw];rfl
    have hlw':(allO (l'.vw W)).length = w.all.length + 1:=by rw [hwW];show (Vw.all _).length = _;rw [hall,List.length_append];rfl
    unfold mR;rw [(g3 s er).1,(g3 s er).2,hlw,hlw'];split
    ·omega
    ·cases dyV l s W with
     | none=>show 2 ≤ 2 + 1;omega
     | some x=>show w.all.length + 1 - x.toNat ≤ w.all.length - x.toNat + 1;omega
  have:=sumN_add (g:=mR l W) (g':=mR l' W) l.n hle;have hm1:mT l W r = sumN (mR l W) l.n + (l.n + 1):=by unfold mT;rw [hheld,if_neg (by decide)]
  have hm2:mT l' W r = sumN (mR l' W) l.n:=by unfold mT;rw [hheld',hn',if_pos rfl];rfl
  omega
 ·have hgo:dyG l o = W:=by
   unfold dC at hc;rw [decide_eq_true hW,Bool.and_true] at hc
   have:=of_decide_eq_false hc
   have:=h.g o ho;omega
  obtain ⟨_,b,c⟩:=cnt_K hL hD.K ho hs (hb.trans e) hN hpr hlt;obtain ⟨g1,g2,g3⟩:=gset c;have g1:dyG l' o = W:=by rw [g1];exact hgo
  have hvw:∀ u,l'.vw u = l.vw u:=vw_congr (hvs'.trans b)
  have hRI:RI W q l':=by
   refine ⟨hds',hpv',fun r hr=>?_,fun r hr hgr=>?_,fun w hw=>h.one w (by rw [← hvw];exact hw)⟩
   ·exact qbF
   ·rw [hchk (by rw [hb,e];show (2:UInt8) ≠ 3;decide)];exact qbv
  refine ⟨hRI,?_⟩;obtain ⟨hlv,hvo⟩:=zbi hL ho hN
  have hvo':dyV l' o W = some ((l.past o).ln + 1):=by
   rw [g2];have h1:=PM.voted_last (PM.WF.bump (hL.wf o ho));rw [← hgo,← hlv]
   exact h1
  rw [hvo] at hlt;have hlt:(l.past o).ln < ((dyA l o).length:Int):=hlt;have hA:(allO (l.vw W)).length = (dyA l o).length:=by unfold dyA;rw [hgo]
  have hln:=(hL.wf o ho).last;rw [hgo] at hvo
  have hmo:mR l' W o < mR l W o:=by
   unfold mR;rw [if_neg (by rw [g1];omega),if_neg (by omega),hvo,hvo',hvw,hA];show (dyA l o).length - ((l.past o).ln + 1).toNat < (dyA l o).length - (l.past o).ln.toNat;omega
  have hh:heldB l' W q = heldB l W q:=by unfold heldB;rw [hvw]
  have:=sumN_lt (g:=mR l W) (g':=mR l' W) (n:=l.n) (o:=o) ho (fun r hr er=>by unfold mR;rw [(g3 r er).1,(g3 r er).2,hvw];exact Nat.le_refl _) hmo;unfold mT
  rw [hh,hn'];omega
def othG (l:Lgs) (o:Nat):Nat→List Int
 | 0=>[]
 | r + 1=>if r = o then othG l o r else othG l o r ++ [dyG l r]
theorem othG_len (l:Lgs) (o:Nat):∀ r,(othG l o r).length + (if o < r then 1 else 0) = r
 | 0=>rfl
 | r + 1 => by
  have ih:=othG_len l o r
  show (if r = o then othG l o r else othG l o r ++ [dyG l r]).length + _ = _
  by_cases e:r = o
  ·rw [if_pos e,if_pos (by omega)];rw [if_neg (by omega)] at ih;omega
  ·rw [if_neg e,List.length_append]
   show _ + 1 + _ = _
   by_cases h:o < r
   ·rw [if_pos h] at ih;rw [if_pos (by omega)];omega
   ·rw [if_neg h] at ih;rw [if_neg (by omega)];omega
def JV (l:Lgs) (o:Nat) (z:Int):Prop:=∃ s:List Int,s.Perm (othG l o l.n) ∧ s.Pairwise (· ≤ ·) ∧ s[l.n / 2 - 1]? = some z
theorem JV.mem {z:Int} (h:JV l o z):z ∈ othG l o l.n:=by
 obtain ⟨s,h1,_,h3⟩:=h;exact h1.mem_iff.1 (List.mem_of_getElem? h3)
theorem othG_mem {l:Lgs} {o:Nat} {z:Int}:∀ {r},z ∈ othG l o r→∃ i,i < r ∧ i ≠ o ∧ z = dyG l i
 | 0,h=>by cases h
 | r + 1, h => by
  have h:z ∈ (if r = o then othG l o r else othG l o r ++ [dyG l r]):=h
  split at h
  ·obtain ⟨i,h1,h2⟩:=othG_mem h;exact ⟨i,by omega,h2⟩
  ·rename_i hne
   rcases List.mem_append.1 h with h | h
   ·obtain ⟨i,h1,h2⟩:=othG_mem h;exact ⟨i,by omega,h2⟩
   ·exact ⟨r,by omega,hne,List.mem_singleton.1 h⟩
theorem dyP_new (h:r.auth = true):dyP (Lgs.new 3) 0 r = true:=by
 show (r.auth && !holdsB [] r.client r.time) = true;rw [h];rfl
theorem sayX_ex1 (h:r.auth = true):sayX (Lgs.new 3) 0 [r] 0 = (⟨1,0,0,r,[],noTag⟩,true):=by
 have hP:sayP (Lgs.new 3) 0 [r] = (⟨1,0,0,r,[],noTag⟩,true):=by
  show (match [r].find? (dyP (Lgs.new 3) 0) with | none=>sayZ | some r=>((⟨1,0,0,r,[],noTag⟩:Bod),true)) = _;rw [List.find?_cons,dyP_new h]
 rw [sayX_pick (j:=3) (by decide) (fun i hi=>by
  match i,hi with
  | 0,_=>rfl
  | 1,_=>rfl
  | 2,_=>rfl) (by show (sayP (Lgs.new 3) 0 [r]).2 = true;rw [hP])]
 exact hP
theorem sayX_ex2 (r:Req):sayX (Lgs.new 3) 1 [r] 0 = sayZ:=sayX_none fun i hi=>by
 match i,hi with
 | 0,_=>rfl
 | 1,_=>rfl
 | 2,_=>rfl
 | 3,_=>rfl
 | 4,_=>rfl
theorem sayX_ex3:sayX (Lgs.new 3) 1 [] 1 = (bodW 3 1 0,true):=sayX_pick (j:=0) (by decide) (fun i hi=>by omega) rfl
section
variable (f:Frag) (F:List HP)
theorem djoin_fn (hfl:Le fl f) (hn:3 ≤ l.n ∧ l.n ≤ 11) (hodd:l.n % 2 = 1) (ho:o < l.n) :
  Fn Tryz.prog 46 [.pointer (some ⟨lb,0,none⟩),.int .i64 (l.n:Int),.int .i64 ((o + 1:Nat):Int)] f (plogH fl lb l::F) (RetP (JV l o) (fun z=>.int .u64 z) f (fun _=>plogH fl lb l::F)):=by
 have hgr:=fun G r (hr:r < l.n)=>plgreat_fn f G hfl (lb:=lb) (l:=l) (by omega) (o:=r) hr (r:=((r + 1:Nat):Int)) rfl;have hgr:∀ G r (hr:r < l.n),Fn Tryz.prog 22 [.pointer (some ⟨lb,0,none⟩),.int .i64 ((r + 1:Nat):Int)] f (plogH fl lb l::G) (Ret (.int .u64 (dyG l r)) f (plogH fl lb l::G)):=hgr
 have hlen:=othG_len l o;refine Fn.e3 Tryz.func46 Tryz.ntmps46 fun base=>?_
 refine gL ?_;refine H.Ag rfl rfl rfl (dfew_fn f _ hn hodd ho) ?_;refine gV ?_;refine H.slc0 24 1 ?_
 refine H.lo (ι:=Nat × Option Addr × Nat) (fun s=>[(8,.int .i64 ((s.1 + 1:Nat):Int)),(7,.slice s.2.1 (othG l o s.1).length s.2.2),(2,.int .i64 ((o + 1:Nat):Int)),(1,.int .i64 (l.n:Int)),(0,.pointer (some ⟨lb,0,none⟩))]) (fun _=>f)
  (fun s=>slc s.2.1 (othG l o s.1).length s.2.2 24 1 ((othG l o s.1).flatMap uV)::plogH fl lb l::F) (fun s=>s.1 ≤ l.n) (fun s=>l.n - s.1)
  (0,none,0) (Nat.zero_le _) fun s hs=>?_
 obtain ⟨r,qp,qc⟩:=s;have hr:r ≤ l.n:=hs;show H _ _ _ [(8,.int .i64 ((r + 1:Nat):Int)),(7,.slice qp (othG l o r).length qc),_,_,_] f (slc qp (othG l o r).length qc _ 1 ((othG l o r).flatMap uV)::_::F) _
 have hql:=hlen r;by_cases hrn:r < l.n
 ·have h1:=fun G=>hgr G r hrn;by_cases hro:r = o
  ·have hno:othG l o (r + 1) = othG l o r:=if_pos hro;have hz:((r + 1:Nat):Int) = ((o + 1:Nat):Int):=by rw [hro]
   refine gQ ?_;refine H.Ax (r + 1,qp,qc) (by show r + 1 ≤ l.n;omega) (by show l.n - (r + 1) < l.n - r;omega) ⟨rfl,by show _ = some (Value.slice qp (othG l o (r + 1)).length qc);rw [hno];rfl,rfl,rfl,rfl,trivial⟩ rfl ?_;show _ = slc qp (othG l o (r + 1)).length qc _ 1 ((othG l o (r + 1)).flatMap uV)::_;rw [hno]
  ·have hyes:othG l o (r + 1) = othG l o r ++ [dyG l r]:=if_neg hro;have hz:¬ ((r + 1:Nat):Int) = ((o + 1:Nat):Int):=by omega
   generalize dyG l r = g at h1 hyes;refine gI ?_;refine qdO ?_;refine H.cr (h1 _) ?_;refine H.Ar (out:=uV g) rfl rfl rfl rfl (by decide) (by decide) rfl rfl fun eb=>?_;refine H.Av (sz:=1) (p:=qp) (n0:=(othG l o r).length) (c:=qc) (xs:=(othG l o r).flatMap uV) (m:=1) (news:=uV g) rfl rfl rfl rfl rfl (fun p' c'=>(by repeat constructor)) (Src.slice (Rd.ofRow (by repeat constructor)) rfl) (zaa rfl) rfl (by omega) (by omega) fun p2 c2=>?_;refine gX ?_;refine qgq ?_;refine qdO ?_;refine H.pf (x:=slc p2 _ c2 _ _ _) ?_;have hl2:(othG l o (r + 1)).length = (othG l o r).length + 1:=by rw [hyes,List.length_append];rfl
   refine H.Ax (r + 1,p2,c2) (by show r + 1 ≤ l.n;omega) (by show l.n - (r + 1) < l.n - r;omega) ⟨rfl,by show _ = some (Value.slice p2 (othG l o (r + 1)).length c2);rw [hl2];rfl,rfl,rfl,rfl,trivial⟩ rfl ?_;show _ = slc p2 (othG l o (r + 1)).length c2 _ 1 ((othG l o (r + 1)).flatMap uV)::_;rw [hl2,hyes,List.flatMap_append];rfl
 ·have e:r = l.n:=by omega
  subst e;rw [if_pos ho] at hql;have hJ:∀ s:List Int,s.Perm (othG l o l.n)→s.Pairwise (· ≤ ·)→∀ z,s[l.n / 2 - 1]? = some z→JV l o z:=fun s h1 h2 z h3=>⟨s,h1,h2,h3⟩;generalize othG l o l.n = xs at hql hJ ⊢
  refine gF ?_;refine H.Al rfl rfl rfl (sortU_fn f _ (p:=qp) (n:=xs.length) (c:=qc) (xs:=xs) rfl (by omega)) fun v f' A' hR=>?_;obtain ⟨ys,hy1,hy2,rfl,hff,rfl⟩:=hR;rw [hff];have hyl:=hy1.length_eq;obtain ⟨z,hz⟩:∃ z,ys[l.n / 2 - 1]? = some z:=⟨_,List.getElem?_eq_getElem (by omega)⟩
  refine H.Ay (p:=qp) (n0:=xs.length) (c:=qc) (T:=24) (sz:=1) (xs:=ys.flatMap uV) (.here _ _ _) (by omega) fun sb hp=>?_;subst hp;refine gL ?_;refine qfa ?_;refine gK ?_;refine H.Ak (i:=l.n / 2 - 1) rfl rfl rfl (by omega) (by omega) rfl ?_;refine H.Ab rfl rfl rfl (rd_uV (.here _ _ _) hz) rfl ?_;refine qfk ?_;exact H.r1 ⟨z,hJ ys hy1 hy2 z hz,rfl,rfl,rfl⟩
theorem works19_fn (htab:TabAt f):Fn Tryz.prog 15 [] f F (Ret (.bool true) f F):=by
 have hau0:=(signed_auth r15_asked).1;have hsg:=fun e G=>rsigned_fn e G r15u
 have hau:r15.auth = true:=hau0;clear hau0
 have hr15:r15u.signed = r15:=by unfold r15;rfl
 rw [hr15] at hsg;clear hr15;generalize r15 = r at *;have he:eqC r.vals r.vals = true:=eqC_refl rfl;refine Fn.e0 Tryz.func15 Tryz.ntmps15 fun base=>?_
 refine gL ?_;refine H.Al rfl rfl rfl (plnew_fn f _ (n:=3) (by decide)) fun v f' A' hr=>?_;obtain ⟨g0,lb,hd0,rfl,rfl,rfl⟩:=hr;have hle:=Le.un f g0;generalize un f g0 = f1 at *
 have hLI:LI (Lgs.new 3) 0:=LI.new (by decide) (by decide);repeat (first | (refine H.Au (t:=44) (out:=r15u.vals) rfl rfl rfl (by kernel_rfl) rfl ?_) | (refine gh ?_))
 refine H.cr (hsg _ _) ?_;refine qep fun rb=>?_;refine H.Af (ls:=Req.zero.vals) (vs:=r.vals) (ls':=r.vals) rfl rfl rfl (zaa rfl) rfl rfl (Nat.le_refl 40) (.here _ _ _) ?_;refine gL ?_;refine qfC ?_;refine qhw fun e1=>?_;refine qhe fun ga hga hda=>?_;have hpa:ListAt (un f1 ga) (some ⟨e1,0,none⟩) 40 Req.vals [r]:=(zbs (vals:=Req.vals) (xs:=[r]) Req.len hga).mono (Le.right hda);have hup1:=Le.un f1 ga
 have hle1:=hle.trans hup1;generalize un f1 ga = f2 at *
 have hN:=fun G=>dnext_fn f2 G (tab_mono htab hle1) (lb:=lb) (o:=0) hup1 hLI (by decide) rfl (show 0 < 3 by decide) (pc:=1) (wish:=0) hpa (show 1 ≤ 1000000 by decide);rw [sayX_ex1 hau] at hN
 clear hau;refine qdO ?_;refine H.cl (hN _) fun v' f' A' hR=>?_;obtain ⟨gb,p,c,hdb,hv',hqb,rfl,rfl⟩:=hR;have hv':v' = .tuple #[.agg ((⟨1,0,0,r,[],noTag⟩:Bod).vals p c).toArray,.bool true]:=hv';subst hv'
 have hup2:=Le.un f2 gb;have hle2:=hle1.trans hup2
 have hup12:=hup1.trans hup2;clear hN hpa hqb hda hga hdb hd0
 generalize un f2 gb = f3 at *;refine gV ?_;refine qdf fun b1=>?_;refine H.Af (ls:=(Bod.zero 0).vals none 0) (vs:=(⟨1,0,0,r,[],noTag⟩:Bod).vals p c) (ls':=(⟨1,0,0,r,[],noTag⟩:Bod).vals p c) rfl rfl rfl (zaa rfl) rfl rfl (Nat.le_refl 76) (.here _ _ _) ?_;refine gL ?_;refine qfC ?_;refine qhw fun e2=>?_;refine qhe fun ga hga hda=>?_;have hpa:ListAt (un f3 ga) (some ⟨e2,0,none⟩) 40 Req.vals [r]:=(zbs (vals:=Req.vals) (xs:=[r]) Req.len hga).mono (Le.right hda);have hup3:=hup12.trans (Le.un f3 ga)
 have hle3:=hle2.trans (Le.un f3 ga);generalize un f3 ga = f4 at *
 have hN:=fun G=>dnext_fn f4 G (tab_mono htab hle3) (lb:=lb) (o:=1) hup3 hLI (by decide) rfl (show 1 < 3 by decide) (pc:=1) (wish:=0) hpa (show 1 ≤ 1000000 by decide);rw [sayX_ex2 r] at hN
 refine qdO ?_;refine H.cl (hN _) fun v' f' A' hR=>?_;obtain ⟨gb,p2,c2,hdb,hv',hqb,rfl,rfl⟩:=hR;have hv':v' = .tuple #[.agg ((Bod.zero 0).vals p2 c2).toArray,.bool false]:=hv';subst hv'
 have hup4:=hup3.trans (Le.un f4 gb);have hle4:=hle3.trans (Le.un f4 gb)
 clear hN hpa hqb hda hga hdb;generalize un f4 gb = f5 at *;refine gV ?_;refine qdf fun b2=>?_;refine H.Af (ls:=(Bod.zero 0).vals none 0) (vs:=(Bod.zero 0).vals p2 c2) (ls':=(Bod.zero 0).vals p2 c2) rfl rfl rfl (zaa rfl) rfl rfl (Nat.le_refl 76) (.here _ _ _) ?_;refine gL ?_;have hN:=fun G=>dnext_fn f5 G (tab_mono htab hle4) (lb:=lb) (o:=1) hup4 hLI (by decide) rfl (show 1 < 3 by decide) (pp:=none) (pc:=0) (wish:=1) (pend:=[]) (fun i x h=>by simp at h) (by decide);rw [sayX_ex3] at hN
 refine qdO ?_;refine H.cl (hN _) fun v' f' A' hR=>?_;obtain ⟨gb,p3,c3,hdb,hv',hqb,rfl,rfl⟩:=hR;have hv':v' = .tuple #[.agg ((bodW 3 1 0).vals p3 c3).toArray,.bool true]:=hv';subst hv'
 have hup5:=hup4.trans (Le.un f5 gb);have hle5:=hle4.trans (Le.un f5 gb)
 clear hN hqb hdb;generalize un f5 gb = f6 at *;refine gV ?_;refine qdf fun b3=>?_;refine H.Af (ls:=(Bod.zero 0).vals none 0) (vs:=(bodW 3 1 0).vals p3 c3) (ls':=(bodW 3 1 0).vals p3 c3) rfl rfl rfl (zaa rfl) rfl rfl (Nat.le_refl 76) (.here _ _ _) ?_;have hk1:(((⟨1,0,0,r,[],noTag⟩:Bod).kind.toNat:Nat):Int) = 1:=rfl;have hk3:(((bodW 3 1 0).kind.toNat:Nat):Int) = 3:=rfl
 have hv3:(bodW 3 1 0).view = 1:=rfl;refine gg ?_
 refine H.Ae (ls:=r.vals) rfl rfl rfl (body_req (x:=(⟨1,0,0,r,[],noTag⟩:Bod)) (by repeat constructor)) rfl rfl ?_;refine qfC ?_;refine H.aggEq (xs:=r.vals) (ys:=r.vals) (D:=4) (b:=true) rfl rfl rfl rfl (by kernel_rfl) (by kernel_rfl) (by kernel_rfl) (by kernel_rfl) (by decide) he rfl ?_;refine gY ?_;refine qdO ?_;refine H.callP rfl rfl rfl (djoin_fn f6 _ (lb:=lb) (o:=0) (l:=Lgs.new 3) hup5 (by decide) rfl (show 0 < 3 by decide)) fun z hz=>?_
 have hz0:z = 0:=by
  obtain ⟨i,_,_,e⟩:=othG_mem hz.mem;exact e
 subst hz0;refine gS ?_;refine H.pd (x:=plogH _ lb _) ?_;refine H.pd (x:=row rb _ _) ?_;refine H.pd (x:=row b1 _ _) ?_;refine H.pd (x:=row b2 _ _) ?_;refine H.pd (x:=row b3 _ _) ?_;refine H.weakL hle5 ?_;exact qap
end
def sub (k:Nat→Int) (all:List Msg):List Msg:=all.filter fun m=>decide (m.number ≤ k (orgI m))
theorem sub_mem {k:Nat→Int} {l:List Msg}:m ∈ sub k l ↔ m ∈ l ∧ m.number ≤ k (orgI m):=by unfold sub;rw [List.mem_filter,decide_eq_true_eq]
theorem sub_yes {k:Nat→Int} {l:List Msg} (h:m.number ≤ k (orgI m)):sub k (l ++ [m]) = sub k l ++ [m]:=by
 unfold sub;rw [List.filter_append];congr 1;simp [h]
theorem sub_no {k:Nat→Int} {l:List Msg} (h:¬ m.number ≤ k (orgI m)):sub k (l ++ [m]) = sub k l:=by
 unfold sub;rw [List.filter_append];simp [h]
theorem sub_len (k:Nat→Int) (l:List Msg):(sub k l).length ≤ l.length:=List.length_filter_le _ _
theorem cnt_sub {k:Nat→Int} (h0:∀ i,0 ≤ k i) (l:List Msg):WOK n l→∀ i,((cnt (sub k l) i:Nat):Int) = minU k l i:=by
 refine snocInd (p:=fun l=>WOK n l→∀ i,((cnt (sub k l) i:Nat):Int) = minU k l i) (fun _ i=>?_) (fun l m ih hW i=>?_) l
 ·rw [minU_nil h0];rfl
 ·have hm:=WOK.at (post:=[]) hW;have hl:WOK n l:=by have:=hW.take l.length;rwa [List.take_left] at this
  have ih:=ih hl i;have hnum:=hm.num
  have hc:=cnt_snoc l m i;by_cases hk:m.number ≤ k (orgI m)
  ·rw [sub_yes hk,cnt_snoc];unfold minU at ih ⊢;rw [hc];by_cases e:i = orgI m
   ·subst e;rw [if_pos rfl];split at ih <;> split <;> omega
   ·rw [if_neg e];exact ih
  ·rw [sub_no hk,ih];unfold minU;rw [hc];by_cases e:i = orgI m
   ·subst e;rw [if_pos rfl];split <;> split <;> omega
   ·rw [if_neg e];rfl
theorem WOK.sub {n:Nat} {k:Nat→Int} (h0:∀ i,0 ≤ k i) (l:List Msg):WOK n l→(∀ x ∈ l,x.number ≤ k (orgI x)→∀ i,i < 11→x.deps i ≤ k i)→WOK n (sub k l):=by
 refine snocInd (p:=fun l=>WOK n l→(∀ x ∈ l,x.number ≤ k (orgI x)→∀ i,i < 11→x.deps i ≤ k i)→WOK n (Go.Proofs.YtminmjlfmolfeaaGreatDoor.sub k l)) (fun h _=>h) (fun l m ih hW hc=>?_) l;have hm:=WOK.at (post:=[]) hW;have hl:WOK n l:=by have:=hW.take l.length;rwa [List.take_left] at this
 have ih:=ih hl fun x hx=>hc x (List.mem_append_left _ hx);by_cases hk:m.number ≤ k (orgI m)
 ·rw [sub_yes hk];refine ih.snoc ⟨hm.org,hm.fits,hm.right,?_,fun i hi=>?_,fun x hx=>hm.mono x (sub_mem.1 hx).1⟩
  ·have h1:=cnt_sub (n:=n) h0 l hl (orgI m);have h2:=hm.num
   unfold minU at h1;split at h1 <;> omega
  ·have h1:=cnt_sub (n:=n) h0 l hl i;have h2:=hm.dep i hi
   have h3:=hc m (by simp) hk i hi;unfold minU at h1
   split at h1 <;> omega
 ·rw [sub_no hk];exact ih
theorem sub_step2 {k:Nat→Int} (h0:∀ i,0 ≤ k i) {all:List Msg} (hW:WOK n all) (hc:∀ x ∈ all,x.number ≤ k (orgI x)→∀ i,i < 11→x.deps i ≤ k i) {i:Nat} (hm:all[i]? = some m) :
  (m.number ≤ k (orgI m)→∃ b,(lgsOf n (sub k (all.take i))).take m = ((b,0),lgsOf n (sub k (all.take (i + 1))))) ∧ (¬ m.number ≤ k (orgI m)→sub k (all.take (i + 1)) = sub k (all.take i)):=by
 rw [zbk hm];refine ⟨fun hk=>?_,fun hk=>sub_no hk⟩;have h1:WOK n (sub k (all.take i ++ [m])):=WOK.sub h0 _ (by rw [← zbk hm];exact hW.take _) fun x hx=>hc x (by rw [← zbk hm] at hx;exact List.mem_of_mem_take hx);rw [sub_yes hk] at h1 ⊢
 have h2:(sub k (all.take i) ++ [m])[(sub k (all.take i)).length]? = some m:=List.getElem?_concat_length;obtain ⟨h3,_⟩:=world_take h1 h2
 have e1:(sub k (all.take i) ++ [m]).take (sub k (all.take i)).length = sub k (all.take i):=List.take_left;have e2:(sub k (all.take i) ++ [m]).take ((sub k (all.take i)).length + 1) = sub k (all.take i) ++ [m]:=by rw [List.take_of_length_le];rw [List.length_append];exact Nat.le_refl _
 rw [e1,e2] at h3;exact ⟨_,h3⟩
structure KOK (n:Nat) (all:List Msg) (k:Nat→Int):Prop where
 w:WOK n all
 n3:3 ≤ n
 n11:n ≤ 11
 v:∀ m ∈ all,0 ≤ m.body.view
 z:∀ i,0 ≤ k i
 c:∀ x ∈ all,x.number ≤ k (orgI x)→∀ i,i < 11→x.deps i ≤ k i
theorem KOK.li {all:List Msg} {k:Nat→Int} (h:KOK n all k) (i:Nat):LI (lgsOf n (sub k (all.take i))) (sub k (all.take i)).length:=lgsOf_LI h.n3 h.n11 _ fun m hm=>h.v m (List.mem_of_mem_take (sub_mem.1 hm).1)
def AtP (f:Frag) (F:List HP) (n:Nat) (all:List Msg):Value→Frag→List HP→Prop:=fun v f' A'=>∃ (g:Frag) (lb:Nat),Dj f g ∧ v = .tuple #[.pointer (some ⟨lb,0,none⟩),.bool true] ∧ f' = un f g ∧ A' = plogH f' lb (lgsOf n all)::F
section
variable (f:Frag) (F:List HP)
theorem at16_fn (htab:TabAt f) {n8:UInt8} (hn8:n = 3 + 2 * (n8.toNat % 5)) {W:W12} {kb:Nat} {ap:Option Addr} {ac lb0:Nat} {l:List MV} (hwat:WAt f n W kb ap l) {k:Nat→Int} (hK:KOK n W.all k) (hl:W.all.length ≤ 1000) {wb:Nat} :
  Fn Tryz.prog 17 [.pointer (some ⟨wb,0,none⟩),.agg (v11 k).toArray] f (row wb 34 (w15C kb n ap l.length ac lb0)::F) (AtP f (row wb 34 (w15C kb n ap l.length ac lb0)::F) n (sub k W.all)):=by
 have hn3:3 ≤ n ∧ n ≤ 11:=by omega
 have hodd:n % 2 = 1:=by omega
 have hlm:=hwat.m;have hll:l.length = W.all.length:=by rw [← hlm,List.length_map]
 refine Fn.e2 Tryz.func17 Tryz.ntmps17 fun base=>?_;refine gA ?_;refine H.box (ls:=v11 k) rfl rfl rfl rfl fun xb=>?_;refine gH ?_;refine H.Al rfl rfl rfl (plnew_fn f _ (n:=n) (fewz_odd hn8)) fun v f' A' hr=>?_;obtain ⟨g,lb,hd,rfl,rfl,rfl⟩:=hr;have hle:=Le.un f g;obtain ⟨f1,hf1⟩:∃ f1,f1 = un f g:=⟨_,rfl⟩
 rw [← hf1] at hle ⊢;have hta:=tab_mono htab hle;have hwa1:=hwat.mono hle
 refine gY ?_;refine qdr ?_
 refine H.lo (ι:=Nat) (fun i=>[(8,.int .i64 (i:Int)),(6,.pointer (some ⟨lb,0,none⟩)),(3,.pointer (some ⟨xb,0,none⟩)),(0,.pointer (some ⟨wb,0,none⟩))]) (fun _=>f1)
  (fun i=>row xb 36 (v11 k)::plogH f1 lb (lgsOf n (sub k (W.all.take i)))::row wb 34 (w15C kb n ap l.length ac lb0)::F) (fun i=>i ≤ W.all.length) (fun i=>W.all.length - i)
  0 (Nat.zero_le _) fun i hi=>?_
 have hi:i ≤ W.all.length:=hi;by_cases hlt:i < W.all.length
 ·obtain ⟨b,off,rfl,rdA⟩:=hwa1.a.all MV.len (by decide) (by omega);obtain ⟨y,hy⟩:∃ y,l[i]? = some y:=⟨_,List.getElem?_eq_getElem (by omega)⟩;have hym:W.all[i]? = some y.m:=by rw [← hlm,List.getElem?_map,hy];rfl
  have hyg:=hwa1.g y (List.mem_of_getElem? hy);have hmo:=(hK.w i y.m hym).org
  have hoz:y.m.origin - 1 = (orgI y.m:Nat):=by unfold orgI;omega
  have hon:orgI y.m < 11:=by unfold orgI;omega
  have hLI:=hK.li i;have hLl:(sub k (W.all.take i)).length ≤ 1000:=Nat.le_trans (sub_len _ _) (by rw [List.length_take];omega)
  have htk:=fun G=>pltakeA_fn f1 G hta (Le.refl f1) (lb:=lb) hLI (by omega) (lgsOf_NI _ _) (by rw [lgsOf_n];exact hodd) hyg;obtain ⟨hyes,hno⟩:=sub_step2 hK.z hK.w hK.c hym
  have hrdk:∀ {G:List HP},Rd1 f1 (row xb 36 (v11 k)::G) xb (orgI y.m) (.int .u64 (k (orgI y.m))):=fun {G}=>Rd1.ofRow (.here _ _ _) (by rw [nthV_eq];exact zay k hon);by_cases hk:y.m.number ≤ k (orgI y.m)
  ·obtain ⟨cb,hcb⟩:=hyes hk;rw [hcb] at htk;refine gM ?_;refine qdX ?_;refine gW ?_;refine gM ?_;refine H.Ak (i:=i) rfl rfl rfl rfl (by omega) rfl ?_;refine H.Ae (ls:=y.vals) rfl rfl rfl (rdA _ _ _ _ (Le.refl f1) hy) rfl rfl ?_;refine qdO ?_;refine H.cr (htk _) ?_;refine gQ ?_;refine qdr ?_;exact qcz
  ·rw [← hno hk];refine gM ?_;refine qdX ?_;refine gW ?_;refine gO ?_;exact qcz
 ·have e:i = W.all.length:=by omega
  subst e;rw [List.take_length];refine gM ?_;refine qdx ?_;subst hf1;exact qcl
end
section
variable (f:Frag) (F:List HP)
end
section
variable (f:Frag) (F:List HP)
end
section
variable (f:Frag) (F:List HP)
end
section
variable (f:Frag) (F:List HP)
end
theorem say_ok (hL:LI l T) (hT:T ≤ 60000) (ho:o < l.n) (hpk:∀ r ∈ pend,r.Ok) (ht:(sayX l o pend wish).2 = true) (hv:(sayX l o pend wish).1.view < 1073741824):(sayX l o pend wish).1.Ok:=by
 have hv0:=(say_view hL ho ht).1;have hz:Req.zero.Ok:=by unfold Req.Ok;decide
 have hlast:=(hL.wf o ho).last;refine ⟨⟨hv0,by omega⟩,?_⟩
 rcases say_cases ht with ⟨hc,e⟩ | ⟨hc,hN,hpr,hq,e⟩ | ⟨hc,v,hE,e⟩ | ⟨hc,hE,hN,hpr,r,hr,hd,e⟩ | ⟨hc,hE,hN,hpr,hlt,e⟩
 ·exact qbX
 ·exact qbX
 ·exact qbX
 ·rw [e];exact ⟨⟨Int.le_refl 0,by show (0:Int) ≤ _;decide⟩,hpk r hr⟩
 ·rw [e];obtain ⟨_,h2⟩:=zbi hL ho hN;rw [h2];exact ⟨⟨by show 0 ≤ (l.past o).ln + 1;omega,by show (l.past o).ln + 1 ≤ _;omega⟩,hz⟩
theorem KOK.di {all:List Msg} {k:Nat→Int} (h:KOK n all k) (hk:∀ i,k i ≤ (cnt all i:Nat)):DI n (sub k all).length (lgsOf n (sub k all)) k:=by
 have hv:∀ m ∈ sub k all,0 ≤ m.body.view:=fun m hm=>h.v m (sub_mem.1 hm).1;have hW:=WOK.sub h.z all h.w h.c
 refine ⟨lgsOf_LI h.n3 h.n11 _ hv,lgsOf_KI h.n3 h.n11 _ hv,lgsOf_NI _ _,lgsOf_n _ _,fun i _=>?_⟩;have h1:=lgsOf_known hW (sub k all).length (Nat.le_refl _);rw [List.take_length] at h1
 rw [h1];show ((cnt (sub k all) i:Nat):Int) = k i;rw [cnt_sub h.z all h.w i];unfold minU
 have:=hk i;split <;> omega
theorem orS_q {b:Bod × Bool} (h1:a.1.q.length ≤ 12) (h2:b.1.q.length ≤ 12):(orS a b).1.q.length ≤ 12:=by unfold orS;split <;> assumption
theorem sayX_q (l:Lgs) (o:Nat) (pend:List Req) (wish:Int) (hn:l.n ≤ 11):(sayX l o pend wish).1.q.length ≤ 12:=by
 refine orS_q (Nat.zero_le _) (orS_q ?_ (orS_q ?_ (orS_q ?_ (orS_q (Nat.zero_le _) (Nat.zero_le _)))))
 ·have:=chgQ_half l (dyG l o) l.n;show (chgQ l (dyG l o) l.n).length ≤ 12
  omega
 ·unfold sayE;split <;> exact Nat.zero_le _
 ·unfold sayP;split
  ·split <;> exact Nat.zero_le _
  ·exact Nat.zero_le _
section
variable (f:Frag) (F:List HP)
end
end Go.Proofs.YtminmjlfmolfeaaGreatDoor
