/- Parts of the proof. No conditions. -/
import Derived.Test.YtkaknokcbhiigaaGreatDoorZ08
import Derived.Test.YtkaknokcbhiigaaGreatDoorRows
import Derived.Test.YtkaknokcbhiigaaGreatDoorCards
import Derived.Test.YtkaknokcbhiigaaGreatDoorTie
set_option linter.unusedSectionVars false
set_option linter.unusedSimpArgs false
set_option linter.unusedVariables false
/- Layer 29: Prove. Condition: the table of the standard stands in the fragment. (Printed by gen_jh.py.) -/
set_option maxHeartbeats 6400000
set_option maxRecDepth 20000
namespace Go.Proofs.YtkaknokcbhiigaaGreatDoor
open Go Go.Proofs.Tryz
/-! ### What an audit comes to: invariants -/
theorem AuM.runP_I{n N:Nat}{ms:List Msg}(hv:∀m∈ms,0≤m.body.view)(hN:N≤254):∀(k:Nat) {A:AuM},AuI n N A→ZC N A→AuI n N (AuM.runP n ms N k A)∧ZC N (AuM.runP n ms N k A)
 |0,_,h,z=>⟨h,z⟩
 | k + 1, A, h, z => by
  have h1:=(h.passTo hv N (by have:=z.1;omega) (by have:=z.2;omega)).1
  have h2:=(AuM.passTo_zc (n:=n) (ms:=ms) z N).1
  unfold AuM.runP
  split
  ·exact AuM.runP_I hv hN k h1 h2
  ·exact⟨h1,h2⟩
def TkQ(n:Nat)(ms:List Msg)(A:AuM):Prop:=∀i∈A.tk,∃m,ms[i]?=some m∧1≤m.origin∧m.origin≤(n:Int)
variable {n:Nat} {m:Msg}
theorem chk_fits{S:Strm}(h:chk n S m=0):fitsB n m=true:=by
 cases hf:fitsB n m with
 |true=>rfl
 | false =>
  unfold chk at h;rw[if_pos hf]at h;cases h
variable {ms:List Msg} {A:AuM}
theorem AuM.meet_tk(h:TkQ n ms A){k:Nat}(hm:ms[k]?=some m):TkQ n ms (A.meet n m k).1:=by
 unfold AuM.meet;split
 ·exact h
 ·split
  ·rename_i h0
   have hf:=fits_org (chk_fits h0);intro i hi
   rcases List.mem_append.1 hi with h1|h1
   ·exact h i h1
   ·rw[List.mem_singleton.1 h1];exact⟨m,hm,hf.1,hf.2.1⟩
  ·exact h
theorem AuM.passTo_tk{n:Nat}{ms:List Msg}{A:AuM}(h:TkQ n ms A):∀k,TkQ n ms (A.passTo n ms k).1
 |0=>h
 | k + 1 => by
  have i1:=AuM.passTo_tk h k
  unfold AuM.passTo
  cases hm:ms[k]? with
  |none=>exact i1
  | some m =>
   show TkQ n ms (if _ then _ else _:AuM×Bool).1
   split
   ·exact AuM.meet_tk i1 hm
   ·exact i1
theorem AuM.runP_tk{n N:Nat}{ms:List Msg}:∀(k:Nat) {A:AuM},TkQ n ms A→TkQ n ms (AuM.runP n ms N k A)
 |0,_,h=>h
 | k + 1, A, h => by
  have h1:=AuM.passTo_tk h N
  unfold AuM.runP
  split
  ·exact AuM.runP_tk k h1
  ·exact h1
theorem audR_I(hfz:fewZ (n:Int))(hv:∀m∈ms,0≤m.body.view)(hN:ms.length≤254):AuI n ms.length (audR n ms)∧(audR n ms).M.length≤ms.length∧(audR n ms).tk.length≤ms.length∧TkQ n ms (audR n ms):=by
 have h3:3≤n∧n≤11:=⟨by have:=hfz.1;omega,by have:=hfz.2.1;omega⟩
 have hodd:n % 2=1:=qbq
 have hI:=nwM_I h3 hodd (show ms.length≤4096 by omega);obtain⟨hIs,hMs,hTs,_,_⟩:=AuM.siftTo_I (n:=n) hI rfl rfl (ms:=ms) ms.length
 have hzc:ZC ms.length ((nwM n ms.length).siftTo n ms ms.length).1:=by
  have h1:((nwM n ms.length).siftTo n ms ms.length).1.vd.count 0≤((nwM n ms.length).siftTo n ms ms.length).1.vd.length:=List.count_le_length;rw[hIs.vl]at h1
  exact⟨by rw[hMs];show 0+_≤_;omega,by rw[hTs];show 0+_≤_;omega⟩
 have htk:TkQ n ms ((nwM n ms.length).siftTo n ms ms.length).1:=fun i hi=>by rw[hTs]at hi;cases hi
 obtain⟨r1,r2⟩:=AuM.runP_I hv hN (ms.length+1) hIs hzc;exact⟨r1.wt _,by show(AuM.runP n ms ms.length (ms.length+1) _).M.length≤_;have:=r2.1;omega,by show(AuM.runP n ms ms.length (ms.length+1) _).tk.length≤_;have:=r2.2;omega,AuM.runP_tk (ms.length+1) htk⟩
variable {ml:List MV}
theorem audR_tk(hfz:fewZ (n:Int))(hv:∀x∈ml,0≤x.m.body.view)(hN:ml.length≤254):TkI n ml (audR n (ml.map MV.m)).tk:=fun i hi=>by
 obtain⟨m,hm,h1,h2⟩:=(audR_I hfz (ms:=ml.map MV.m) (fun m hm=>by obtain⟨x,hx,rfl⟩:=List.mem_map.1 hm;exact hv x hx) (by rw[List.length_map];exact hN)).2.2.2 i hi
 rw[List.getElem?_map]at hm
 cases hx:ml[i]? with
 |none=>rw[hx]at hm;cases hm
 | some x =>
  rw[hx]at hm
  cases hm
  exact⟨x,rfl,h1,h2⟩
/-! ### What a proof needs -/
def mxI(a b:Int):Int:=if a<b then b else a
def dpsN(need d:Nat→Int)(j:Nat):Nat→Int:=fun i=>if i<j then mxI (need i) (d i)else need i
def need1(r:Nat)(m:Msg)(S:Nat×(Nat→Int)):Nat×(Nat→Int):=(S.1+1,updF (dpsN S.2 m.deps 11) r (mxI (dpsN S.2 m.deps 11 r) m.number))
def needTo(n:Nat)(ms:List Msg)(M:VtM):Nat→Nat×(Nat→Int)
 |0=>(0,fun _=>0)
 | k + 1 => if (needTo n ms M k).1 ≤ n / 2 then match (vtG M ((k + 1 : Nat) : Int)).bind fun i => ms[i]? with
  |none=>needTo n ms M k
  |some m=>need1 k m (needTo n ms M k)
  else needTo n ms M k
theorem needTo_stop{n:Nat}{ms:List Msg}{M:VtM}{k:Nat}(h:¬(needTo n ms M k).1≤n / 2):∀d,needTo n ms M (k+d)=needTo n ms M k
 |0=>rfl
 | d + 1 => by
  have i:=needTo_stop h d
  show(if(needTo n ms M (k+d)).1≤n / 2 then _ else needTo n ms M (k+d))=_
  rw[if_neg (by rw[i];exact h),i]
theorem needTo_le(n:Nat)(ms:List Msg)(M:VtM):∀k,(needTo n ms M k).1≤k
 |0=>Nat.le_refl _
 | k + 1 => by
  have i:=needTo_le n ms M k
  unfold needTo
  split
  ·split
   ·omega
   ·show(needTo n ms M k).1+1≤_;omega
  ·omega
def prvM(ml:List MV)(need:Nat→Int)(tk:List Nat):List MV:=tk.filterMap fun i=>ml[i]?.bind fun x=>if x.m.number≤need (orgI x.m)then some x else none
def prvV(n:Nat)(ms:List Msg)(A:AuM)(t:Int):VtM:=(votTo n ms A.tk (viewF A.l t (viewsU A.l)) t A.tk.length).2
def prvL(n:Nat)(ml:List MV)(t:Int):List MV:=prvM ml (needTo n (ml.map MV.m) (prvV n (ml.map MV.m) (audR n (ml.map MV.m)) t) n).2 (audR n (ml.map MV.m)).tk
def prvB(n:Nat)(ms:List Msg)(t:Int):Prop:=(audR n ms).fk.length=0∧1≤t∧t≤((decL (audR n ms).l).length:Nat)
def PrvP(f:Frag)(F:List HP)(L:List MV):Value→Frag→List HP→Prop:=fun v f' A'=>∃(g:Frag) (p:Option Addr) (c:Nat),Dj f g∧v= .tuple #[.slice p L.length c,.bool true]∧f'=un f g∧A'=slc p L.length c 54 121 (L.flatMap MV.vals)::F
def PrvN(f:Frag)(F:List HP):Value→Frag→List HP→Prop:=fun v f' A'=>∃g,Dj f g∧v= .tuple #[.slice none 0 0,.bool false]∧f'=un f g∧A'=F
variable {ap:Option Addr} {c:Nat} {t:Int}
section
variable (f:Frag) (F:List HP)
theorem prove_no(htab:TabAt f)(hfz:fewZ (n:Int))(hat:ListAt f ap 121 MV.vals ml)(hg:∀x∈ml,x.Good f)(hN:ml.length≤254)(hno:¬prvB n (ml.map MV.m) t):Fn prog 12 [.int .i64 (n:Nat),.slice ap ml.length c,.int .i64 t] f F (PrvN f F):=by
 have h3:3≤n∧n≤11:=⟨by have:=hfz.1;omega,by have:=hfz.2.1;omega⟩
 have hodd:n % 2=1:=qbq
 have hI:=nwM_I h3 hodd (show ml.length≤4096 by omega);have haud:audR n (ml.map MV.m)=(nwM n ml.length).run n (ml.map MV.m) ml.length:=by unfold audR;rw[List.length_map]
 have hbeg:=fun G=>begin_fn f G hfz (ap:=ap) (N:=ml.length) (c:=c) jA;refine Fn.e3 func12 ntmps12 fun base=>?_
 refine gK ?_;refine H.cl (hbeg _) fun v f' A' hr=>?_;obtain⟨g,ab,vp,hd,rfl,rfl,rfl⟩:=hr;have hup:Le f (un f g):=Le.un f g;have hrun:=fun G=>run_fn (un f g) G (zbc htab hup) (Le.refl _) (ab:=ab) (c:=c) (vp:=vp) (vc:=ml.length) (hat.mono hup) (fun y hy=>(hg y hy).mono hup) hN hI rfl rfl rfl
 rw[←haud]at hrun;unfold prvB at hno;generalize audR n (ml.map MV.m)=R at *;refine gY ?_;refine H.cl (hrun _) fun v f' A' hr=>?_;obtain⟨g2,hd2,rfl,rfl,rfl⟩:=hr;have hua:un (un f g) g2=un f (un g g2):=zba _ _ _;have hdj:=Dj.un3' hd hd2
 have hle:Le f (un (un f g) g2):=hup.trans (Le.un _ _);generalize un (un f g) g2=f2 at *
 refine H.Bw fun q hq=>?_;obtain⟨⟨lo,lg,L,fp,fc,tp,tc⟩,dp,dc⟩:=q;refine qeI ?_;by_cases h1:R.fk.length=0
 ·by_cases h2:t<1
  ·refine gg ?_;exact qaE
  ·have h3:((decL R.l).length:Int)<t:=jA
   refine gU ?_;exact qaE
 ·have h0:(0:Int)<(R.fk.length:Nat):=jA
  refine gg ?_;exact qaE
theorem dpsN_succ(need d:Nat→Int)(j:Nat):updF (dpsN need d j) j (mxI (dpsN need d j j) (d j))=dpsN need d (j+1):=by
 funext i;unfold updF dpsN;rw[if_neg (Nat.lt_irrefl j)];by_cases h1:i=j
 ·subst h1;rw[if_pos rfl,if_pos (Nat.lt_succ_self i)]
 ·rw[if_neg h1];by_cases h2:i<j
  ·rw[if_pos h2,if_pos jA]
  ·rw[if_neg h2,if_neg jA]
theorem prove_yes(htab:TabAt f)(hfz:fewZ (n:Int))(hat:ListAt f ap 121 MV.vals ml)(hg:∀x∈ml,x.Good f)(hN:ml.length≤254)(hyes:prvB n (ml.map MV.m) t):Fn prog 12 [.int .i64 (n:Nat),.slice ap ml.length c,.int .i64 t] f F (PrvP f F (prvL n ml t)):=by
 have hvw:∀x∈ml,0≤x.m.body.view:=fun x hx=>(hg x hx).2.2.1.1;have htkI:=audR_tk hfz hvw hN
 obtain⟨hRI,hRM,hRt,_⟩:=audR_I hfz (ms:=ml.map MV.m) (fun m hm=>by obtain⟨x,hx,rfl⟩:=List.mem_map.1 hm;exact hvw x hx) (by rw[List.length_map];exact hN);rw[List.length_map]at hRI hRM hRt;have h3:3≤n∧n≤11:=⟨by have:=hfz.1;omega,by have:=hfz.2.1;omega⟩
 have hodd:n % 2=1:=qbq
 have hI:=nwM_I h3 hodd (show ml.length≤4096 by omega);have haud:audR n (ml.map MV.m)=(nwM n ml.length).run n (ml.map MV.m) ml.length:=by unfold audR;rw[List.length_map]
 have hbeg:=fun G=>begin_fn f G hfz (ap:=ap) (N:=ml.length) (c:=c) jA;refine Fn.e3 func12 ntmps12 fun base=>?_
 refine gK ?_;refine H.cl (hbeg _) fun v f' A' hr=>?_;obtain⟨g,ab,vp,hd,rfl,rfl,rfl⟩:=hr;have hup:Le f (un f g):=Le.un f g;have hrun:=fun G=>run_fn (un f g) G (zbc htab hup) (Le.refl _) (ab:=ab) (c:=c) (vp:=vp) (vc:=ml.length) (hat.mono hup) (fun y hy=>(hg y hy).mono hup) hN hI rfl rfl rfl
 rw[←haud]at hrun;obtain⟨h1,h2,h3⟩:=hyes;unfold prvL;generalize audR n (ml.map MV.m)=R at *;refine gY ?_;refine H.cl (hrun _) fun v f' A' hr=>?_;obtain⟨g2,hd2,rfl,rfl,rfl⟩:=hr;have hua:un (un f g) g2=un f (un g g2):=zba _ _ _;have hdj:=Dj.un3' hd hd2
 have hle:Le f (un (un f g) g2):=hup.trans (Le.un _ _);generalize un (un f g) g2=f2 at *
 refine H.Bw fun q hq=>?_;obtain⟨⟨lo,lg,L,fp,fc,tp,tc⟩,dp,dc⟩:=q;refine qeI ?_;have h1':¬(0:Int)<(R.fk.length:Nat):=jA
 have h2':¬t<1:=jA
 have h3':¬((decL R.l).length:Int)<t:=jA
 have hvf:=fun G=>auview_fn f2 G (fl:=f2) (Le.refl _) (ab:=ab) (ap:=ap) (m:=ml.length) (c:=c) (vp:=vp) (vc:=ml.length) hRI jA t;have hvo:=fun G v=>votes_au_fn f2 G (zbc htab hle) (fl:=f2) (Le.refl _) (ab:=ab) (c:=c) (vp:=vp) (vc:=ml.length) (hat.mono hle) (fun y hy=>(hg y hy).mono hle) hfz hRI htkI v t
 unfold VotP at hvo;have hpl:=(votTo_I hRI.n3 hvw htkI (viewF R.l t (viewsU R.l)) t R.tk.length (Nat.le_refl _)).pl;have hV:prvV n (ml.map MV.m) R t=(votTo n (ml.map MV.m) R.tk (viewF R.l t (viewsU R.l)) t R.tk.length).2:=rfl
 rw[hV];refine gJ ?_;refine H.pf (x:=slc dp _ _ 49 _ _) ?_;refine qjH ?_;refine qhm ?_;refine qeT ?_;refine H.imp (auD_fold (A:=R) ⟨⟨lo,lg,L,fp,fc,tp,tc⟩,dp,dc⟩ hq) ?_;refine H.cr (hvf _) ?_;refine gK ?_;refine H.cl (hvo _ _) fun v3 f3 A' hr=>?_;obtain⟨g3,mb,hd3,rfl,rfl,rfl⟩:=hr;have hua3:un f2 g3=un f (un (un g g2) g3):=by rw[hua,zba]
 have hdj3:Dj f (un (un g g2) g3):=by rw[hua]at hd3;exact Dj.un3' hdj hd3
 have hle3:Le f (un f2 g3):=hle.trans (Le.un _ _);clear hvf hvo hV
 generalize(votTo n (ml.map MV.m) R.tk (viewF R.l t (viewsU R.l)) t R.tk.length).2=V at *;obtain⟨f3,hf3⟩:∃f3,un f2 g3=f3:=⟨_,rfl⟩;rw[hf3]at hua3 hle3⊢;have hat3:=hat.mono hle3;have hg3:∀x∈ml,x.Good f3:=fun y hy=>(hg y hy).mono hle3
 refine H.pf (x:=auD _ _ _ _ _ _ _ _ _) ?_;refine H.Bw fun q hq=>?_;obtain⟨⟨lo,lg,L,fp,fc,tp,tc⟩,dp,dc⟩:=q;show H _ _ _ _ _ (row ab 82 (auCD n ap ml.length c lo lg vp R.vd.length ml.length fp R.fk.length fc (knownS (strm R.M)) dp (decL R.l).length dc (decB R.l).1 tp R.tk.length tc)::slc vp R.vd.length ml.length 56 1 (R.vd.flatMap vdV)::slc fp R.fk.length fc 68 4 (R.fk.flatMap fkV)::slc tp R.tk.length tc 3 1 (R.tk.flatMap nV)::loreH f2 lo n L::plogH f2 lg R.l::slc dp (decL R.l).length dc 49 40 ((decL R.l).flatMap Req.vals)::mp mb keyIn (vtV ml V)::F) _;refine H.pd (x:=slc vp _ _ 56 _ _) ?_;refine H.pd (x:=slc fp _ _ 68 _ _) ?_;refine qgl ?_;refine H.pd (x:=slc dp _ _ 49 _ _) ?_;have hstop:=fun k=>needTo_stop (n:=n) (ms:=ml.map MV.m) (M:=V) (k:=k);have hnle:=needTo_le n (ml.map MV.m) V
 have hrow:∀k,needTo n (ml.map MV.m) V (k+1)=if(needTo n (ml.map MV.m) V k).1≤n / 2 then match(vtG V ((k+1:Nat):Int)).bind fun i=>(ml.map MV.m)[i]? with|none=>needTo n (ml.map MV.m) V k|some m=>need1 k m (needTo n (ml.map MV.m) V k)else needTo n (ml.map MV.m) V k:=fun k=>rfl
 have h0row:needTo n (ml.map MV.m) V 0=(0,fun _=>0):=rfl;generalize needTo n (ml.map MV.m) V=S at *
 refine gK ?_;refine H.Aj (ls:=v11 fun _=>0) rfl rfl rfl fun nb=>?_;refine gT ?_;refine H.pf (x:=slc tp _ _ 3 _ _) ?_;refine qeT ?_;refine qkU ?_;refine qjX ?_
 refine H.loop (ι:=Nat) (fun k=>[(13,.int .i64 ((k+1:Nat):Int)),(12,.int .i64 ((S k).1:Nat)),(11,.pointer (some ⟨nb,0,none⟩)),(10,.map (some mb)),(8,.pointer (some ⟨ab,0,none⟩)),(6,.slice none 0 0),(1,.slice ap ml.length c),(0,.int .i64 (n:Nat))]) (fun _=>f3)
  (fun k=>row nb 37 (v11 (S k).2)::mp mb keyIn (vtV ml V)::row ab 82 (auCD n ap ml.length c lo lg vp R.vd.length ml.length fp R.fk.length fc (knownS (strm R.M)) dp (decL R.l).length dc (decB R.l).1 tp R.tk.length tc)::slc tp R.tk.length tc 3 1 (R.tk.flatMap nV)::F) (fun k=>k≤n) (fun k=>n-k)
  0 (Nat.zero_le _) ⟨rfl,by show _=some (Value.int .i64 ((S 0).1:Nat));rw[h0row];rfl,rfl,rfl,rfl,rfl,rfl,rfl,trivial⟩ rfl (by show row nb _ _::_=row nb _ (v11 (S 0).2)::_;rw[h0row]) fun k hk=>?_
 have hk:k≤n:=hk;show H _ _ _ [(13,.int .i64 ((k+1:Nat):Int)),(12,.int .i64 ((S k).1:Nat)),_,_,_,_,_,_] f3 (row nb _ (v11 (S k).2)::mp mb keyIn (vtV ml V)::row ab _ _::slc tp R.tk.length tc _ 1 _::F) _
 have hq2:((n:Nat):Int).tdiv 2=((n / 2:Nat):Int):=by rw[show(2:Int)=((2:Nat):Int)from rfl,tdiv64]
 have hSk:=hnle k;by_cases hin:k<n∧(S k).1≤n / 2
 ·obtain⟨hkn,hsm⟩:=hin;have hk1:((k+1:Nat):Int)≤(n:Nat):=jA
  have hs1:(((S k).1:Nat):Int)≤((n / 2:Nat):Int):=jA
  have hr1:=hrow k;rw[if_pos hsm]at hr1
  cases hs:vtG V ((k+1:Nat):Int)with
  | none =>
   rw[hs]at hr1;have hr1:S (k+1)=S k:=hr1;have hgv:getKV (vtV ml V) ((k+1:Nat):Int)=none:=by rw[getKV_vtV,hs];rfl
   have hg1:(getKV (vtV ml V) ((k+1:Nat):Int)).getD (.agg (msgZ.vals none 0).toArray)= .agg (msgZ.vals none 0).toArray:=by rw[hgv];rfl
   have hg2:(getKV (vtV ml V) ((k+1:Nat):Int)).isSome=false:=by rw[hgv];rfl
   clear hgv hs hrow hstop;refine qgv fun xb=>?_;refine qfz ?_;refine gc ?_;refine qgV ?_;exact H.Av (k+1) (by show k+1≤n;omega) (by show n-(k+1)<n-k;omega) ⟨rfl,by show _=some (Value.int .i64 ((S (k+1)).1:Nat));rw[hr1];rfl,rfl,rfl,rfl,rfl,rfl,rfl,trivial⟩ rfl (by show _=row nb _ (v11 (S (k+1)).2)::_;rw[hr1])
  | some i =>
   obtain⟨x,hx,_⟩:=hpl _ (vtG_mem hs);have hx:ml[i]?=some x:=hx;rw[hs]at hr1
   have hxm:(ml.map MV.m)[i]?=some x.m:=by rw[List.getElem?_map,hx];rfl
   have hr1:S (k+1)=need1 k x.m (S k):=by
    rw[hr1];show(match(ml.map MV.m)[i]? with|none=>_|some m=>_)=_;rw[hxm]
   have hgv:getKV (vtV ml V) ((k+1:Nat):Int)=some (.agg x.vals.toArray):=by rw[getKV_vtV,hs];show some (vtX ml i)=_;unfold vtX;rw[hx];rfl
   have hg1:(getKV (vtV ml V) ((k+1:Nat):Int)).getD (.agg (msgZ.vals none 0).toArray)= .agg x.vals.toArray:=by rw[hgv];rfl
   have hg2:(getKV (vtV ml V) ((k+1:Nat):Int)).isSome=true:=by rw[hgv];rfl
   unfold need1 at hr1;clear hgv hs hrow hstop hxm;generalize S k=T at *;obtain⟨so,nd⟩:=T;have hsm:so≤n / 2:=hsm;have hs1:((so:Nat):Int)≤((n / 2:Nat):Int):=hs1
   have hSk:so≤k:=hSk;refine qkN ?_
   have hr1:S (k+1)=(so+1,updF (dpsN nd x.m.deps 11) k (mxI (dpsN nd x.m.deps 11 k) x.m.number)):=hr1;refine qgv fun xb=>?_
   refine qeX ?_;refine qfl ?_;refine gc ?_;refine qjL ?_
   refine H.lo (ι:=Nat) (fun j=>[(81,.int .i64 (j:Int)),(80,.agg (v11 x.m.deps).toArray),(14,.pointer (some ⟨xb,0,none⟩)),(13,.int .i64 ((k+1:Nat):Int)),(12,.int .i64 ((so+1:Nat):Int)),(11,.pointer (some ⟨nb,0,none⟩)),(10,.map (some mb)),(8,.pointer (some ⟨ab,0,none⟩)),(6,.slice none 0 0),(1,.slice ap ml.length c),(0,.int .i64 (n:Nat))]) (fun _=>f3)
    (fun j=>row xb 54 x.vals::row nb 37 (v11 (dpsN nd x.m.deps j))::mp mb keyIn (vtV ml V)::row ab 82 (auCD n ap ml.length c lo lg vp R.vd.length ml.length fp R.fk.length fc (knownS (strm R.M)) dp (decL R.l).length dc (decB R.l).1 tp R.tk.length tc)::slc tp R.tk.length tc 3 1 (R.tk.flatMap nV)::F) (fun j=>j≤11) (fun j=>11-j)
    0 (Nat.zero_le _) fun j hj=>?_
   have hj:j≤11:=hj;show H _ _ _ [(81,.int .i64 (j:Int)),_,_,_,_,_,_,_,_,_,_] f3 (row xb _ x.vals::row nb _ (v11 (dpsN nd x.m.deps j))::_::_::_::F) _
   by_cases hj11:j<11
   ·have hset:=v11_upd (dpsN nd x.m.deps j) (mxI (dpsN nd x.m.deps j j) (x.m.deps j)) hj11;rw[dpsN_succ]at hset
    refine gG ?_;refine H.indexV (xs:=v11 x.m.deps) (i:=j) rfl rfl rfl rfl hj11 rfl (zav x.m.deps hj11) rfl ?_;refine gK ?_;refine H.Ao (i:=j) rfl rfl rfl rfl hj11 rfl ?_;refine H.Ad rfl rfl rfl (by rw[Nat.zero_add,Nat.mul_one];exact Rd1.ofRow (.there _ (.here _ _ _)) (by rw[nthV_eq];exact zav _ hj11)) rfl ?_;refine gK ?_;refine H.max2 (z:=mxI (dpsN nd x.m.deps j j) (x.m.deps j)) rfl rfl rfl rfl rfl ?_;refine H.Ao (i:=j) rfl rfl rfl rfl hj11 rfl ?_;refine H.Bb rfl rfl rfl rfl jB jb ?_;refine gV ?_;exact H.ag (j+1) (by show j+1≤11;omega) (by show 11-(j+1)<11-j;omega)
   ·have e:j=11:=jA
    subst e;have hk11:k<11:=jA
    have hset:=v11_upd (dpsN nd x.m.deps 11) (mxI (dpsN nd x.m.deps 11 k) x.m.number) hk11;generalize dpsN nd x.m.deps 11=nd2 at *
    refine gY ?_;refine H.dc [0,1,2,3,4,5,6,7,8,9] (S:=[_,_]) rfl ?_;refine HB.qu [0,1,2,3,4,5,6,7] 3 ?_;refine gL ?_;refine HQ.Ao (i:=k) rfl rfl rfl jA hk11 rfl ?_;refine HQ.Ad rfl rfl rfl (by rw[Nat.zero_add,Nat.mul_one];exact Rd1.ofRow (.there _ (.here _ _ _)) (by rw[nthV_eq];exact zav _ hk11)) rfl ?_;refine qfu ?_;refine HB.ev 8 ?_;refine H.max2 (z:=mxI (nd2 k) x.m.number) rfl rfl rfl rfl rfl ?_;refine qed ?_;refine HB.qu [9] 1 ?_;refine HQ.Ao (i:=k) rfl rfl rfl jA hk11 rfl ?_;skip;refine qeC ?_;refine HB.ev 10 ?_;refine H.Bb rfl rfl rfl rfl jB jb ?_;refine qjh ?_;refine qgV ?_;exact H.Av (k+1) (by show k+1≤n;omega) (by show n-(k+1)<n-k;omega) ⟨rfl,by show _=some (Value.int .i64 ((S (k+1)).1:Nat));rw[hr1];rfl,rfl,rfl,rfl,rfl,rfl,rfl,trivial⟩ rfl (by show _=row nb _ (v11 (S (k+1)).2)::_;rw[hr1];rfl)
 ·have hSn:S n=S k:=by
   by_cases hkn:k<n
   ·have:=hstop k jA (n-k);rwa [show k+(n-k)=n from by omega]at this
   ·rw[show k=n from by omega]
  rw[hSn];have hor:¬k<n∨¬(S k).1≤n / 2:=jA
  clear hSn hrow hstop;generalize S k=T at *;obtain⟨so,nd⟩:=T;have hSk:so≤k:=hSk;refine qkN ?_
  refine(fun(tail:True→?T)=>?main) ?pf
  case main=>
   by_cases hkn:k<n
   ·have hs2:¬((so:Nat):Int)≤((n / 2:Nat):Int):=by
     rcases hor with h|h
     ·exact absurd hkn h
     ·have h:¬so≤n / 2:=h;omega
    have hk1:((k+1:Nat):Int)≤(n:Nat):=jA
    refine qkf ?_;refine gJ ?_;exact qbG
   ·have hk1:¬((k+1:Nat):Int)≤(n:Nat):=jA
    refine gU ?_;exact qbG
  case pf=>
   intro _;refine qiq ?_;refine H.pd (x:=mp mb _ _) ?_;refine H.slc0 54 121 ?_
   refine H.lo (ι:=Nat×(Option Addr×Nat)) (fun s=>[(108,.int .i64 (s.1:Int)),(107,.int .i64 (R.tk.length:Nat)),(106,.slice tp R.tk.length tc),(11,.pointer (some ⟨nb,0,none⟩)),(6,.slice s.2.1 (prvM ml nd (R.tk.take s.1)).length s.2.2),(1,.slice ap ml.length c)]) (fun _=>f3)
    (fun s=>slc s.2.1 (prvM ml nd (R.tk.take s.1)).length s.2.2 54 121 ((prvM ml nd (R.tk.take s.1)).flatMap MV.vals)::row nb 37 (v11 nd)::slc tp R.tk.length tc 3 1 (R.tk.flatMap nV)::F) (fun s=>s.1≤R.tk.length) (fun s=>R.tk.length-s.1)
    (0,(none,0)) (Nat.zero_le _) fun s hs=>?_
   obtain⟨k,p,pc⟩:=s;have hk:k≤R.tk.length:=hs;show H _ _ _ [(108,.int .i64 (k:Int)),_,_,_,(6,.slice p (prvM ml nd (R.tk.take k)).length pc),_] f3 (slc p (prvM ml nd (R.tk.take k)).length pc _ 121 ((prvM ml nd (R.tk.take k)).flatMap MV.vals)::row nb _ (v11 nd)::slc tp R.tk.length tc _ 1 _::F) _
   have hpl2:(prvM ml nd (R.tk.take k)).length≤k:=Nat.le_trans (List.length_filterMap_le _ _) jl;by_cases hkl:k<R.tk.length
   ·obtain⟨i,hi⟩:∃i,R.tk[k]?=some i:=⟨_,List.getElem?_eq_getElem hkl⟩;obtain⟨x,hx,ho1,ho2⟩:=htkI i (List.mem_of_getElem? hi);have hil:i<ml.length:=(List.getElem?_eq_some_iff.1 hx).1;obtain⟨o,hoo,hon,hor⟩:∃o:Nat,orgI x.m=o∧o<n∧x.m.origin=((o+1:Nat):Int):=⟨(x.m.origin-1).toNat,rfl,by omega,by omega⟩
    have ho11:o<11:=by have:=hRI.n3;omega
    have hsn:prvM ml nd (R.tk.take (k+1))=prvM ml nd (R.tk.take k)++(if x.m.number≤nd o then [x]else []):=by
     unfold prvM;rw[take_snoc hi,List.filterMap_append];congr 1;by_cases hc:x.m.number≤nd o
     ·rw[if_pos hc];simp[hx,hoo,hc]
     ·rw[if_neg hc];simp[hx,hoo,hc]
    obtain⟨ba,off,rfl,rdA⟩:=hat3.all MV.len jC jA;generalize prvM ml nd (R.tk.take k)=Q at *;refine H.Au (p:=tp) (n0:=R.tk.length) (c:=tc) (T:=3) (sz:=1) (xs:=R.tk.flatMap nV) jB jA fun sb hp=>?_;subst hp;have hrd:∀ {G:List HP} {x0 x1:HP},Rd1 f3 (x0::x1::slc (some ⟨sb,0,none⟩) R.tk.length tc 3 1 (R.tk.flatMap nV)::G) sb (k*1) (.int .i64 (i:Nat)):=fun {G x0 x1}=>Rd1.of (i:=0) (Rd.slcElem (vals:=nV) (xs:=R.tk) nV_len jC (.there _ (.there _ (.here _ _ _))) hi) rfl;refine qgu ?_
    refine gK ?_;refine H.Ak (i:=i) rfl rfl rfl rfl hil rfl ?_;refine qfX fun zb=>?_;skip;refine qeX ?_;refine gA ?_;refine qjX ?_;refine H.pf (x:=row zb _ _) ?_;refine qkH ?_;refine HQ.Ao (i:=o) rfl rfl rfl jA ho11 rfl ?_;refine HQ.Ad rfl rfl rfl (by rw[Nat.zero_add,Nat.mul_one];exact Rd1.ofRow (.there _ (.here _ _ _)) (by rw[nthV_eq];exact zav _ ho11)) rfl ?_;refine gI ?_;by_cases hb:x.m.number≤nd o
    ·rw[if_pos hb]at hsn;refine gG ?_;refine qfq ?_;refine H.Am (out:=x.vals) rfl rfl rfl rfl jC jC rfl rfl fun eb=>?_;refine H.Ar (sz:=121) (p:=p) (n0:=Q.length) (c:=pc) (xs:=Q.flatMap MV.vals) (m:=1) (news:=x.vals) rfl rfl rfl rfl rfl (fun p' c'=>jB) (Src.slice (Rd.ofRow jB) rfl) (zaa rfl) rfl jA jA fun p2 pc2=>?_;refine gV ?_;refine qgI ?_;refine H.pd (x:=row zb _ _) ?_;refine H.pf (x:=slc _ _ _ 3 _ _) ?_;refine qjX ?_;refine H.pf (x:=slc p2 _ _ _ _ _) ?_;have e2:Q.length+1=(prvM ml nd (R.tk.take (k+1))).length:=by rw[hsn,List.length_append];rfl
     have e3:Q.flatMap MV.vals++x.vals=(prvM ml nd (R.tk.take (k+1))).flatMap MV.vals:=by rw[hsn,List.flatMap_append];simp
     rw[e2,e3];exact H.ag (k+1,p2,pc2) (by show k+1≤R.tk.length;omega) jv
    ·rw[if_neg hb,List.append_nil]at hsn;refine gZ ?_;refine H.pd (x:=row zb _ _) ?_;refine H.pf (x:=slc _ _ _ 3 _ _) ?_;refine qjX ?_;refine H.pf (x:=slc p _ _ _ _ _) ?_;rw[←hsn];exact H.ag (k+1,p,pc) (by show k+1≤R.tk.length;omega) jv
   ·have e:k=R.tk.length:=jA
    subst e;rw[List.take_length];refine gZ ?_;refine H.pd (x:=row nb _ _) ?_;refine H.pd (x:=slc tp _ _ _ _ _) ?_;exact H.Ba rfl rfl rfl iD ⟨_,p,pc,hdj3,rfl,hua3,rfl⟩
end
def accTo(n:Nat)(ms:List Msg):Nat→List Msg×Lgs×Int
 |0=>([],Lgs.new n,0)
 | k + 1 => match ms[k]? with
  |none=>accTo n ms k
  | some m => if (accTo n ms k).2.2 = 0 then
    (if chk n (strm (accTo n ms k).1) m=0 then((accTo n ms k).1++[m],((accTo n ms k).2.1.take m).2,0)else((accTo n ms k).1,(accTo n ms k).2.1,chk n (strm (accTo n ms k).1) m))
   else accTo n ms k
theorem accTo_stop{n:Nat}{ms:List Msg}{k:Nat}(h:¬(accTo n ms k).2.2=0):∀d,accTo n ms (k+d)=accTo n ms k
 |0=>rfl
 | d + 1 => by
  have i:=accTo_stop h d
  show(match ms[k+d]? with|none=>accTo n ms (k+d)|some m=>_)=_
  cases ms[k+d]? with
  |none=>exact i
  | some m =>
   show(if(accTo n ms (k+d)).2.2=0 then _ else accTo n ms (k+d))=_
   rw[if_neg (by rw[i];exact h),i]
structure AcI(n k:Nat)(S:List Msg×Lgs×Int):Prop where
 ln:S.2.1.n=n
 li:∃T,T≤k∧LI S.2.1 T
 ni:NI S.2.1
 ml:S.1.length≤k
theorem accTo_I{n:Nat}(h3:3≤n∧n≤11){ms:List Msg}(hv:∀m∈ms,0≤m.body.view):∀k,AcI n k (accTo n ms k)
 |0=>⟨rfl,⟨0,Nat.le_refl _,LI.new h3.1 h3.2⟩,NI.new n,Nat.le_refl _⟩
 | k + 1 => by
  obtain⟨i1,⟨T,hT,i2⟩,i3,i4⟩:=accTo_I (n:=n) h3 hv k
  unfold accTo
  cases hm:ms[k]? with
  |none=>exact⟨i1,⟨T,by omega,i2⟩,i3,by show(accTo n ms k).1.length≤_;omega⟩
  | some m =>
   show AcI n (k+1) (if _ then _ else _:List Msg×Lgs×Int)
   split
   ·split
    ·exact⟨by show((accTo n ms k).2.1.take m).2.n=n;rw[Lgs.take_n];exact i1,⟨T+1,by omega,i2.take (hv m (List.mem_of_getElem? hm))⟩,i3.take m,by show((accTo n ms k).1++[m]).length≤_;rw[List.length_append];show _+1≤_;omega⟩
    ·exact⟨i1,⟨T,by omega,i2⟩,i3,by show(accTo n ms k).1.length≤_;omega⟩
   ·exact⟨i1,⟨T,by omega,i2⟩,i3,by show(accTo n ms k).1.length≤_;omega⟩
def accR(n:Nat)(ms:List Msg)(t:Int):List Req×Int:=
 if t<1 then([],1)
 else if¬(accTo n ms ms.length).2.2=0 then([],(accTo n ms ms.length).2.2)
 else if((decL (accTo n ms ms.length).2.1).length:Int)<t then([],4)
 else((decL (accTo n ms ms.length).2.1).take t.toNat,0)
def AccP(f:Frag)(F:List HP)(R:List Req×Int):Value→Frag→List HP→Prop:=fun v f' A'=>∃(g:Frag) (p:Option Addr) (c:Nat),Dj f g∧v= .tuple #[.slice p R.1.length c,.int .i64 R.2]∧f'=un f g∧A'=slc p R.1.length c 49 40 (R.1.flatMap Req.vals)::F
section
variable (f:Frag) (F:List HP)
theorem accepts_fn(htab:TabAt f)(hfz:fewZ (n:Int))(hat:ListAt f ap 121 MV.vals ml)(hg:∀x∈ml,x.Good f)(hN:ml.length≤254)(t:Int):Fn prog 13 [.int .i64 (n:Nat),.slice ap ml.length c,.int .i64 t] f F (AccP f F (accR n (ml.map MV.m) t)):=by
 have h3:3≤n∧n≤11:=⟨by have:=hfz.1;omega,by have:=hfz.2.1;omega⟩
 have hodd:n % 2=1:=qbq
 have hvw:∀m∈ml.map MV.m,0≤m.body.view:=fun m hm=>by
  exact qcv
 have hbeg:=fun G=>begin_fn f G hfz (ap:=ap) (N:=ml.length) (c:=c) jA
 have hacc:accR n (ml.map MV.m) t=if t<1 then([],1)else if¬(accTo n (ml.map MV.m) ml.length).2.2=0 then([],(accTo n (ml.map MV.m) ml.length).2.2)else if((decL (accTo n (ml.map MV.m) ml.length).2.1).length:Int)<t then([],4)else((decL (accTo n (ml.map MV.m) ml.length).2.1).take t.toNat,0):=by
  unfold accR;rw[List.length_map]
 refine Fn.e3 func13 ntmps13 fun base=>?_;refine gK ?_;refine H.cl (hbeg _) fun v f' A' hr=>?_;obtain⟨g,ab,vp,hd,rfl,rfl,rfl⟩:=hr;have hup:Le f (un f g):=Le.un f g;have htab1:=zbc htab hup
 have hat1:=hat.mono hup;have hg1:∀x∈ml,x.Good (un f g):=fun y hy=>(hg y hy).mono hup
 obtain⟨f1,hf1⟩:∃f1,un f g=f1:=⟨_,rfl⟩;rw[hf1]at htab1 hat1 hg1 hup⊢;refine H.Bw fun i hi=>?_;obtain⟨lo,lg,L0,fp,fc,tp,tc⟩:=i;have hi:L0.map MV.m=[]:=hi;show H _ _ _ _ _ (row ab 82 (auC n ap ml.length c lo lg vp (nwM n ml.length).vd.length ml.length fp 0 fc tp 0 tc)::slc vp (nwM n ml.length).vd.length ml.length 56 1 ((nwM n ml.length).vd.flatMap vdV)::slc fp 0 fc 68 4 []::slc tp 0 tc 3 1 []::loreH f1 lo n L0::plogH f1 lg (Lgs.new n)::F) _
 refine H.pd (x:=slc vp _ _ 56 _ _) ?_;refine H.pd (x:=slc fp _ _ 68 _ _) ?_;refine H.pd (x:=slc tp _ _ 3 _ _) ?_;generalize(nwM n ml.length).vd.length=vl at *;by_cases ht:t<1
 ·rw[hacc,if_pos ht];refine gO ?_;refine qiq ?_;refine qgl ?_;refine H.slc0 49 40 ?_;exact H.Ba rfl rfl rfl iD ⟨g,none,0,hd,rfl,hf1.symm,rfl⟩
 ·rw[if_neg ht]at hacc;refine gO ?_
  refine H.loop (ι:=Nat×Frag×List MV) (fun s=>[(27,.int .i64 (s.1:Int)),(26,.int .i64 (ml.length:Nat)),(25,.slice ap ml.length c),(8,.pointer (some ⟨ab,0,none⟩)),(2,.int .i64 t),(0,.int .i64 (n:Nat))]) (fun s=>un f1 s.2.1)
   (fun s=>row ab 82 (auC n ap ml.length c lo lg vp vl ml.length fp 0 fc tp 0 tc)::loreH (un f1 s.2.1) lo n s.2.2::plogH (un f1 s.2.1) lg (accTo n (ml.map MV.m) s.1).2.1::F)
   (fun s=>s.1≤ml.length∧Dj f1 s.2.1∧s.2.2.map MV.m=(accTo n (ml.map MV.m) s.1).1∧(accTo n (ml.map MV.m) s.1).2.2=0) (fun s=>ml.length-s.1)
   (0,nil0,L0) ⟨Nat.zero_le _,Dj.nil _,hi,rfl⟩ ⟨rfl,rfl,rfl,rfl,rfl,rfl,trivial⟩ (un_nil _).symm (by show row ab _ _::loreH f1 lo n L0::plogH f1 lg (Lgs.new n)::F=row ab _ _::loreH (un f1 nil0) lo n L0::plogH (un f1 nil0) lg (Lgs.new n)::F;rw[un_nil]) fun s hs=>?_
  obtain⟨k,g2,L⟩:=s;obtain⟨hk,hd2,hLm,he0⟩:k≤ml.length∧Dj f1 g2∧L.map MV.m=(accTo n (ml.map MV.m) k).1∧(accTo n (ml.map MV.m) k).2.2=0:=hs;show H _ _ _ [(27,.int .i64 (k:Int)),_,_,_,_,_] (un f1 g2) (row ab _ _::loreH (un f1 g2) lo n L::plogH (un f1 g2) lg (accTo n (ml.map MV.m) k).2.1::F) _;obtain⟨hSn,⟨T,hT,hLI⟩,hNI,hSl⟩:=accTo_I h3 hvw k;have hLl:L.length≤k:=by rw[←hLm,List.length_map]at hSl;exact hSl
  by_cases hkl:k<ml.length
  ·obtain⟨x,hx⟩:∃x,ml[k]?=some x:=⟨_,List.getElem?_eq_getElem hkl⟩;have hxm:(ml.map MV.m)[k]?=some x.m:=by rw[List.getElem?_map,hx];rfl
   have hst:=fun(h:¬(accTo n (ml.map MV.m) (k+1)).2.2=0)=>accTo_stop h (ml.length-(k+1));rw[show k+1+(ml.length-(k+1))=ml.length from by omega]at hst
   have hrow:accTo n (ml.map MV.m) (k+1)=if chk n (strm (accTo n (ml.map MV.m) k).1) x.m=0 then((accTo n (ml.map MV.m) k).1++[x.m],((accTo n (ml.map MV.m) k).2.1.take x.m).2,0)else((accTo n (ml.map MV.m) k).1,(accTo n (ml.map MV.m) k).2.1,chk n (strm (accTo n (ml.map MV.m) k).1) x.m):=by
    show(match(ml.map MV.m)[k]? with|none=>_|some m=>_)=_;rw[hxm];show(if(accTo n (ml.map MV.m) k).2.2=0 then _ else _)=_;rw[if_pos he0]
   have hup2:Le f1 (un f1 g2):=Le.un f1 g2;have hxg:=(hg1 x (List.mem_of_getElem? hx)).mono hup2
   have hta:=zbc htab1 hup2;have hat2:=hat1.mono hup2
   obtain⟨ba,off,rfl,rdA⟩:=hat2.all MV.len jC jA;have hadd:=fun G=>ladd_fn (un f1 g2) G hta (Le.refl _) (lb:=lo) (n:=n) (l:=L) (x:=x) hxg jA;unfold AddP at hadd
   rw[hLm]at hadd;generalize hS:accTo n (ml.map MV.m) k=S at *;generalize hck:chk n (strm S.1) x.m=ck at *;refine gG ?_;refine qiU ?_;refine qfX fun mb=>?_;refine qeX ?_;refine qja ?_;refine qeT ?_;refine qgm ?_;refine HB.qu [0,1,2,3,4] 2 ?_;refine qfy ?_;refine qiQ ?_;refine H.cl (hadd _) fun v f' A' hr=>?_;obtain⟨g3,qp,qc,rfl,hd3,rfl,rfl⟩:=hr;have hup3:=Le.un (un f1 g2) g3;have hxg3:=hxg.mono hup3
   have hta3:=zbc hta hup3;have hua:un (un f1 g2) g3=un f1 (un g2 g3):=zba _ _ _
   have hdj:=Dj.un3' hd2 hd3;obtain⟨f3,hf3⟩:∃f3,un (un f1 g2) g3=f3:=⟨_,rfl⟩
   rw[hf3]at hup3 hxg3 hta3 hua⊢;clear hadd;refine qja ?_;refine qeT ?_;refine H.on [] hup3 rfl ?_;refine HB.qu [6] 0 ?_;refine qgq ?_;by_cases h0:ck=0
   ·rw[if_pos h0]at hrow⊢;have htake:=fun G=>pltakeA_fn f3 G hta3 (lb:=lg) hup3 hLI jA hNI (by rw[hSn];exact hodd) hxg3;subst h0
    refine gY ?_;refine qer ?_;refine qeT ?_;refine qgm ?_;refine HB.qu [0,1,2,3,4] 1 ?_;refine qkQ ?_;refine qjh ?_;refine qeD ?_;refine qfc ?_;refine qeT ?_;exact H.Av (k+1,un g2 g3,L++[⟨x.m,qp,qc⟩]) ⟨by show k+1≤ml.length;omega,hdj,by show(L++[_]).map MV.m=(accTo n (ml.map MV.m) (k+1)).1;rw[hrow,List.map_append,hLm];rfl,by show(accTo n (ml.map MV.m) (k+1)).2.2=0;rw[hrow]⟩ jS ⟨rfl,rfl,rfl,rfl,rfl,rfl,trivial⟩ hua (by show row ab _ _::loreH f3 lo n _::plogH f3 lg (S.2.1.take x.m).2::F=row ab _ _::loreH (un f1 (un g2 g3)) lo n (L++[⟨x.m,qp,qc⟩])::plogH (un f1 (un g2 g3)) lg (accTo n (ml.map MV.m) (k+1)).2.1::F;rw[hua,hrow])
   ·rw[if_neg h0]at hrow⊢;have hne:¬(accTo n (ml.map MV.m) (k+1)).2.2=0:=by rw[hrow];exact h0
    have hR:accTo n (ml.map MV.m) ml.length=(S.1,S.2.1,ck):=by rw[hst hne,hrow]
    rw[hR,if_pos h0]at hacc;rw[hacc];refine gG ?_;refine qeD ?_;refine qiq ?_;refine qgl ?_;refine H.slc0 49 40 ?_;exact H.Ba rfl rfl rfl iD ⟨un g (un g2 g3),none,0,Dj.un3' hd (by rw[hf1];exact hdj),rfl,by rw[hua,←hf1,zba],rfl⟩
  ·have e:k=ml.length:=jA
   subst e;clear hkl;generalize accTo n (ml.map MV.m) ml.length=S at *;have hdec:=fun G=>decided_fn (un f1 g2) G (Le.refl _) (lb:=lg) hLI jA (by rw[hSn];exact hodd);rw[hSn]at hdec
   unfold DecP at hdec;rw[if_neg (by rw[he0];exact fun h=>h rfl)]at hacc;refine gN ?_;refine qgy ?_;refine H.Al rfl rfl rfl (hdec _) fun dp dc=>?_;have hua:un f1 g2=un f (un g g2):=by rw[←hf1,zba]
   have hdj:Dj f (un g g2):=Dj.un3' hd (by rw[hf1];exact hd2);by_cases hl:((decL S.2.1).length:Int)<t
   ·rw[if_pos hl]at hacc;rw[hacc];refine gG ?_;refine qiq ?_;refine qgl ?_;refine H.pd (x:=slc dp _ _ _ _ _) ?_;refine H.slc0 49 40 ?_;exact H.Ba rfl rfl rfl iD ⟨_,none,0,hdj,rfl,hua,rfl⟩
   ·rw[if_neg hl]at hacc;rw[hacc];obtain⟨m,rfl⟩:∃m:Nat,t=(m:Int):=⟨t.toNat,by omega⟩;have hml:m≤(decL S.2.1).length:=jA
    have htl:((decL S.2.1).take ((m:Int)).toNat).length=m:=by rw[Int.toNat_natCast,List.length_take];omega
    refine H.pf (x:=slc dp _ _ _ _ _) ?_;refine qia fun hcap _ hpl=>?_;refine gZ ?_;refine H.sliceTo (hv:=m) rfl rfl rfl rfl jA rfl ?_;refine H.pf (x:=slc dp _ _ _ _ _) ?_;refine H.slc_trunc (m':=m) (ys:=((decL S.2.1).take ((m:Int)).toNat).flatMap Req.vals) hml hcap (by rw[Int.toNat_natCast,flat_take Req.len]) ?_;refine gT ?_;refine qiq ?_;refine qgl ?_;exact H.Ba rfl rfl rfl iD ⟨_,dp,dc,hdj,by rw[htl],hua,by rw[htl]⟩
end
def L4(r:Req):Lgs:=⟨3,updF (updF (fun _=>0) 0 1) 1 1,[⟨0,0,[],[(1,r)]⟩],updF (updF (fun _=>PM.new) 0 (PM.new.prepare 0)) 1 (PM.new.commit 0 1 1),fun _=>[]⟩
variable {r:Req}
theorem t16c{t:Nat→UInt8}(hm:(d15 t).may=true):(L1 r).take (d15 t)=((true,0),L4 r):=by
 rw[tk_ok hm (by show(2:Int)≤3;decide) rfl rfl rfl,Lgs.counts_2 (i:=0) (w:=⟨0,0,[],[(1,r)]⟩) rfl rfl rfl,if_neg]
 ·rfl
 ·exact fun h=>Bool.noConfusion (show false=true from h)
theorem dec16b(r:Req):decL (L4 r)=[r]:=by kernel_rfl
theorem dec16c(r:Req):(decB (L4 r)).1=0:=by kernel_rfl
section
variable (f:Frag) (F:List HP)
end
def A29(p d:Msg)(r:Req):AuM:=⟨[p,d],L4 r,[6,6],[],[1,0]⟩
variable {t3:Nat→UInt8}
theorem chk29{t1:Nat→UInt8}(hr1:(p15 r t1).right=true)(hr3:(d15 t3).right=true)(hf1:fitsB 3 (p15 r t1)=true)(hf3:fitsB 3 (d15 t3)=true):chk 3 (strm []) (d15 t3)=12∧chk 3 (strm []) (p15 r t1)=0∧chk 3 (strm [p15 r t1]) (d15 t3)=0:=by
 have s1:∀i,strm [p15 r t1] i=if i=0 then [p15 r t1]else []:=fun i=>by
  unfold strm;rw[List.filter_cons,show orgI (p15 r t1)=0 from rfl,List.filter_nil];by_cases h:i=0
  ·subst h;rfl
  ·rw[if_neg h,if_neg (by rw[decide_eq_false (fun e=>h e.symm)];decide)]
 refine⟨?_,?_,?_⟩
 ·rw[chk_as hf3 hr3 (o:=1) rfl (z:=1) rfl (d:=(d15 t3).deps) rfl (k:=0) rfl];rw[if_neg jC,if_neg kU,if_pos (.inr (show aboveB (fun i=>if i=0 then 1 else 0) (knownS (strm []))=true by decide))]
 ·rw[chk_as hf1 hr1 (o:=0) rfl (z:=1) rfl (d:=fun _=>0) rfl (k:=0) rfl];rw[if_neg jC,if_neg kU,if_neg jC]
 ·rw[chk_as hf3 hr3 (o:=1) rfl (z:=1) rfl (d:=(d15 t3).deps) rfl (k:=0) (by rw[s1];rfl)]
  have hk:aboveB (d15 t3).deps (knownS (strm [p15 r t1]))=false:=by
   refine zbm.2 fun i hi=>?_;show(if i=0 then 1 else 0:Int)≤(((strm [p15 r t1] i).length:Nat):Int);rw[s1]
   match i with
   |0=>exact Int.le_refl 1
   |i+1=>exact Int.le_refl 0
  rw[if_neg jC,if_neg kU,if_neg jt]
variable {p d:Msg}
theorem aud29(h0:chk 3 (strm []) d=12)(h1:chk 3 (strm []) p=0)(h2:chk 3 (strm [p]) d=0)(k1:(Lgs.new 3).take p=((true,0),L1 r))(k4:(L1 r).take d=((true,0),L4 r))(hn:¬(p.origin,p.number)=(d.origin,d.number)):audR 3 [d,p]=A29 p d r:=by
 have e1:(nwM 3 2).siftTo 3 [d,p] 2=(nwM 3 2,[((d.origin,d.number),0),((p.origin,p.number),1)]):=by
  have a1:(nwM 3 2).siftTo 3 [d,p] 1=(nwM 3 2,[((d.origin,d.number),0)]):=by
   show AuM.sift1 3 [d,p] 0 d (nwM 3 2,[])=_;unfold AuM.sift1;rw[h0,if_neg jC];rfl
  show AuM.sift1 3 [d,p] 1 p ((nwM 3 2).siftTo 3 [d,p] 1)=_;rw[a1];unfold AuM.sift1;rw[h1,if_neg jC];have:sfG [((d.origin,d.number),0)] (p.origin,p.number)=none:=if_neg hn;show(match sfG [((d.origin,d.number),0)] (p.origin,p.number)with|none=>_|some j=>_)=_
  rw[this];rfl
 have e2:(nwM 3 2).passTo 3 [d,p] 2=(⟨[p],L1 r,[0,6],[],[1]⟩,true):=by
  have a1:(nwM 3 2).passTo 3 [d,p] 1=(nwM 3 2,false):=by
   show((if [0,0][0]?=some 0 then(((nwM 3 2).meet 3 d 0).1,false||((nwM 3 2).meet 3 d 0).2)else(nwM 3 2,false)):AuM×Bool)=_
   have hm:(nwM 3 2).meet 3 d 0=(nwM 3 2,false):=by
    unfold AuM.meet;rw[show(nwM 3 2).M=[]from rfl,h0,if_neg jC,if_neg jC]
   rw[hm];rfl
  show((if((nwM 3 2).passTo 3 [d,p] 1).1.vd[1]?=some 0 then((((nwM 3 2).passTo 3 [d,p] 1).1.meet 3 p 1).1,((nwM 3 2).passTo 3 [d,p] 1).2||(((nwM 3 2).passTo 3 [d,p] 1).1.meet 3 p 1).2)else(nwM 3 2).passTo 3 [d,p] 1):AuM×Bool)=_;rw[a1]
  have hm:(nwM 3 2).meet 3 p 1=(⟨[p],L1 r,[0,6],[],[1]⟩,true):=by
   unfold AuM.meet;rw[show(nwM 3 2).M=[]from rfl,h1,if_neg jC,if_pos rfl,show(nwM 3 2).l=Lgs.new 3 from rfl,k1];rfl
  rw[show((nwM 3 2,false):AuM×Bool).1=nwM 3 2 from rfl,hm];rfl
 have e3:(⟨[p],L1 r,[0,6],[],[1]⟩:AuM).passTo 3 [d,p] 2=(A29 p d r,true):=by
  have hm:(⟨[p],L1 r,[0,6],[],[1]⟩:AuM).meet 3 d 0=(A29 p d r,true):=by
   unfold AuM.meet;show(if chk 3 (strm [p]) d=1 then _ else if chk 3 (strm [p]) d=0 then _ else _:AuM×Bool)=_;rw[h2,if_neg jC,if_pos rfl,k4];rfl
  have a1:(⟨[p],L1 r,[0,6],[],[1]⟩:AuM).passTo 3 [d,p] 1=(A29 p d r,true):=by
   show((if [0,6][0]?=some 0 then(((⟨[p],L1 r,[0,6],[],[1]⟩:AuM).meet 3 d 0).1,false||((⟨[p],L1 r,[0,6],[],[1]⟩:AuM).meet 3 d 0).2)else(⟨[p],L1 r,[0,6],[],[1]⟩,false)):AuM×Bool)=_;rw[hm];rfl
  show((if((⟨[p],L1 r,[0,6],[],[1]⟩:AuM).passTo 3 [d,p] 1).1.vd[1]?=some 0 then _ else(⟨[p],L1 r,[0,6],[],[1]⟩:AuM).passTo 3 [d,p] 1):AuM×Bool)=_;rw[a1];rfl
 have e4:(A29 p d r).passTo 3 [d,p] 2=(A29 p d r,false):=rfl;show(AuM.runP 3 [d,p] 2 3 ((nwM 3 2).siftTo 3 [d,p] 2).1).wt 2=_
 rw[e1]
 have f1:AuM.runP 3 [d,p] 2 3 (nwM 3 2)=A29 p d r:=by
  unfold AuM.runP;rw[e2,if_pos rfl];unfold AuM.runP;rw[e3,if_pos rfl];unfold AuM.runP;rw[e4];rfl
 show(AuM.runP 3 [d,p] 2 3 (nwM 3 2)).wt 2=_;rw[f1];rfl
theorem acc29(h1:chk 3 (strm []) p=0)(h2:chk 3 (strm [p]) d=0)(k1:(Lgs.new 3).take p=((true,0),L1 r))(k4:(L1 r).take d=((true,0),L4 r)):accR 3 [p,d] 1=([r],0):=by
 have a1:accTo 3 [p,d] 1=([p],L1 r,0):=by
  show(if(0:Int)=0 then(if chk 3 (strm []) p=0 then([]++[p],((Lgs.new 3).take p).2,0)else([],Lgs.new 3,chk 3 (strm []) p))else([],Lgs.new 3,0):List Msg×Lgs×Int)=_;rw[if_pos rfl,h1,if_pos rfl,k1];rfl
 have a2:accTo 3 [p,d] 2=([p,d],L4 r,0):=by
  show(if(accTo 3 [p,d] 1).2.2=0 then(if chk 3 (strm (accTo 3 [p,d] 1).1) d=0 then((accTo 3 [p,d] 1).1++[d],((accTo 3 [p,d] 1).2.1.take d).2,0)else((accTo 3 [p,d] 1).1,(accTo 3 [p,d] 1).2.1,chk 3 (strm (accTo 3 [p,d] 1).1) d))else accTo 3 [p,d] 1:List Msg×Lgs×Int)=_;rw[a1,if_pos rfl,h2,if_pos rfl,k4];rfl
 unfold accR;show(if(1:Int)<1 then _ else if¬(accTo 3 [p,d] 2).2.2=0 then _ else if((decL (accTo 3 [p,d] 2).2.1).length:Int)<1 then _ else((decL (accTo 3 [p,d] 2).2.1).take 1,0))=_;rw[a2,if_neg jC,if_neg (fun h=>h rfl),dec16b,if_neg (by show¬(1:Int)<1;decide)];rfl
theorem prv29{t1:Nat→UInt8}{qx qy:Option Addr}{cx cy:Nat}(ha:audR 3 [d15 t3,p15 r t1]=A29 (p15 r t1) (d15 t3) r)(k1:(Lgs.new 3).take (p15 r t1)=((true,0),L1 r))(k4:(L1 r).take (d15 t3)=((true,0),L4 r)):prvB 3 [d15 t3,p15 r t1] 1∧prvL 3 [⟨d15 t3,qx,cx⟩,⟨p15 r t1,qy,cy⟩] 1=[⟨p15 r t1,qy,cy⟩,⟨d15 t3,qx,cx⟩]:=by
 constructor
 ·unfold prvB;rw[ha];exact⟨rfl,Int.le_refl 1,by show(1:Int)≤((decL (L4 r)).length:Nat);rw[dec16b];exact Int.le_refl 1⟩
 ·have hv:viewF (L4 r) 1 (viewsU (L4 r))=0:=by
   show(if(1:Int)≤(cmt (L4 r) 0:Nat)then(0:Int)else 0)=0;split<;>rfl
  have v1:votTo 3 [d15 t3,p15 r t1] [1,0] 0 1 1=(L1 r,[(1,1)]):=by
   show vot1 0 1 1 (p15 r t1) (Lgs.new 3,[])=_;unfold vot1;rw[show((Lgs.new 3,([]:VtM)):Lgs×VtM).1=Lgs.new 3 from rfl,k1];rfl
  have v2:votTo 3 [d15 t3,p15 r t1] [1,0] 0 1 2=(L4 r,[(1,1),(2,0)]):=by
   show vot1 0 1 0 (d15 t3) (votTo 3 [d15 t3,p15 r t1] [1,0] 0 1 1)=_;rw[v1];unfold vot1;rw[show((L1 r,[(1,1)]):Lgs×VtM).1=L1 r from rfl,k4];rfl
  have hV:prvV 3 [d15 t3,p15 r t1] (A29 (p15 r t1) (d15 t3) r) 1=[(1,1),(2,0)]:=by
   unfold prvV;show(votTo 3 [d15 t3,p15 r t1] [1,0] (viewF (L4 r) 1 (viewsU (L4 r))) 1 2).2=_;rw[hv,v2]
  unfold prvL;show prvM _ (needTo 3 [d15 t3,p15 r t1] (prvV 3 [d15 t3,p15 r t1] (audR 3 [d15 t3,p15 r t1]) 1) 3).2 (audR 3 [d15 t3,p15 r t1]).tk=_;rw[ha,hV];have n0:(needTo 3 [d15 t3,p15 r t1] [(1,1),(2,0)] 3).2 0=1:=by rfl
  have n1:(needTo 3 [d15 t3,p15 r t1] [(1,1),(2,0)] 3).2 1=1:=by rfl
  generalize(needTo 3 [d15 t3,p15 r t1] [(1,1),(2,0)] 3).2=need at *;show prvM _ need [1,0]=_;unfold prvM;have q1:(1:Int)≤need (orgI (p15 r t1)):=by show(1:Int)≤need 0;rw[n0];exact Int.le_refl 1
  have q2:(1:Int)≤need (orgI (d15 t3)):=by show(1:Int)≤need 1;rw[n1];exact Int.le_refl 1
  have q1:(p15 r t1).number≤need (orgI (p15 r t1)):=q1;have q2:(d15 t3).number≤need (orgI (d15 t3)):=q2
  simp[q1,q2]
section
variable (f:Frag) (F:List HP)
theorem works29_fn(htab:TabAt f):Fn prog 8 [] f F (Ret (.bool true) f F):=by
 obtain⟨hau,hcl,hti⟩:=signed_auth r15_asked;have hp0:=p15_may
 have hokr:r15.Ok:=by
  unfold r15;unfold Req.signed;rw[if_pos r15_asked];exact⟨⟨by show(0:Int)≤1;decide,by show(1:Int)≤18446744073709551615;decide⟩,⟨by show(0:Int)≤0;decide,by show(0:Int)≤18446744073709551615;decide⟩⟩
 have hau:r15.auth=true:=hau;have hsg:=fun e G=>rsigned_fn e G r15u
 have hr15:r15u.signed=r15:=by unfold r15;rfl
 rw[hr15]at hsg
 have hfp:fitsB 3 (p15 r15 noTag)=true:=by
  unfold fitsB;rw[hp0];rfl
 have hfd:fitsB 3 (d15 noTag)=true:=by
  unfold fitsB;rw[d15_may];rfl
 clear hr15 hcl hti;generalize r15=r at *;have rr1:=Msg.signed_isright hp0;have rr3:=Msg.signed_isright d15_may
 obtain⟨t1,e1⟩:=signed_is hp0;obtain⟨t3,e3⟩:=signed_is d15_may;have h1:=fun f G=>rtagged_fn f G (m:=p15 r noTag) (q:=none) (qc:=0) (QAt.nil _ none) (Nat.zero_le _);have h3:=fun f G=>rtagged_fn f G (m:=d15 noTag) (q:=none) (qc:=0) (QAt.nil _ none) (Nat.zero_le _)
 rw[e1]at h1 rr1;rw[e3]at h3 rr3;have m1:(p15 r t1).may=true:=hp0;have m3:(d15 t3).may=true:=d15_may
 have g1:∀f,(⟨p15 r t1,none,0⟩:MV).Good f:=fun f=>⟨QAt.nil f none,Nat.zero_le _,⟨Int.le_refl _,by show(0:Int)≤_;decide⟩,⟨Int.le_refl _,by show(0:Int)≤_;decide⟩,hokr⟩;have g3:∀f,(⟨d15 t3,none,0⟩:MV).Good f:=fun f=>⟨QAt.nil f none,Nat.zero_le _,⟨Int.le_refl _,by show(0:Int)≤_;decide⟩,⟨by show(0:Int)≤1;decide,by show(1:Int)≤_;decide⟩,⟨Int.le_refl _,by show(0:Int)≤_;decide⟩,⟨Int.le_refl _,by show(0:Int)≤_;decide⟩⟩
 have k1:=t15a (r:=r) (t:=t1) m1 hau;have k3:=t16c (r:=r) (t:=t3) m3
 obtain⟨c1,c2,c3⟩:=chk29 (r:=r) (t1:=t1) (t3:=t3) rr1 rr3 hfp hfd;have ha:=aud29 c1 c2 c3 k1 k3 (by intro h;cases h);have hacc:=acc29 c2 c3 k1 k3
 obtain⟨hpb,hpl⟩:=prv29 (qx:=none) (qy:=none) (cx:=0) (cy:=0) ha k1 k3;have hfz:fewZ ((3:Nat):Int):=jC
 have hgl:∀f,∀x∈([⟨d15 t3,none,0⟩,⟨p15 r t1,none,0⟩]:List MV),x.Good f:=fun f x hx=>by
  rcases List.mem_cons.1 hx with h|h
  ·rw[h];exact g3 f
  ·rw[List.mem_singleton.1 h];exact g1 f
 have hgl2:∀f,∀x∈([⟨p15 r t1,none,0⟩,⟨d15 t3,none,0⟩]:List MV),x.Good f:=fun f x hx=>by
  rcases List.mem_cons.1 hx with h|h
  ·rw[h];exact g1 f
  ·rw[List.mem_singleton.1 h];exact g3 f
 have hRun:=fun(e:Frag) (he:Le f e) (p:Option Addr) (hat:ListAt e p 121 MV.vals [⟨d15 t3,none,0⟩,⟨p15 r t1,none,0⟩]) G=>audRun_fn e G (zbc htab he) (n:=3) hfz (c:=2) hat (hgl e) (show 2≤254 by decide);have hPrv:=fun(e:Frag) (he:Le f e) (p:Option Addr) (hat:ListAt e p 121 MV.vals [⟨d15 t3,none,0⟩,⟨p15 r t1,none,0⟩]) G=>prove_yes e G (zbc htab he) (n:=3) hfz (c:=2) hat (hgl e) (show 2≤254 by decide) (t:=1) hpb
 have hAcc:=fun(e:Frag) (he:Le f e) (p:Option Addr) (c:Nat) (hat:ListAt e p 121 MV.vals [⟨p15 r t1,none,0⟩,⟨d15 t3,none,0⟩]) G=>accepts_fn e G (zbc htab he) (n:=3) hfz (c:=c) hat (hgl2 e) (show 2≤254 by decide) 1;have hdl:=dec16b r
 have hdv:=dec16c r;have ha':audR 3 (([⟨d15 t3,none,0⟩,⟨p15 r t1,none,0⟩]:List MV).map MV.m)=A29 (p15 r t1) (d15 t3) r:=ha
 have hacc':accR 3 (([⟨p15 r t1,none,0⟩,⟨d15 t3,none,0⟩]:List MV).map MV.m) 1=([r],0):=hacc;rw[ha']at hRun
 rw[hpl]at hPrv;rw[hacc']at hAcc;unfold A29 RunP repA repC at hRun;rw[show(⟨[p15 r t1,d15 t3],L4 r,[6,6],[],[1,0]⟩:AuM).l=L4 r from rfl,hdl,hdv]at hRun;clear ha ha' hacc hacc' hpl hpb hdl hdv k1 k3 c1 c2 c3 m1 m3 g1 g3 hgl hgl2 rr1 rr3 hfp hfd e1 e3 hau hp0 hokr;have h1:∀f G,Fn prog 14 [.agg ((p15 r noTag).vals none 0).toArray] f G (Ret (.agg ((p15 r t1).vals none 0).toArray) f G):=h1;have h3:∀f G,Fn prog 14 [.agg ((d15 noTag).vals none 0).toArray] f G (Ret (.agg ((d15 t3).vals none 0).toArray) f G):=h3
 obtain⟨kn,hkn⟩:∃kn,knownS (strm [p15 r t1,d15 t3])=kn:=⟨_,rfl⟩
 have hRun:∀(e:Frag),Le f e→∀(p:Option Addr),ListAt e p 121 MV.vals [⟨d15 t3,none,0⟩,⟨p15 r t1,none,0⟩]→∀G,Fn prog 10 [.int .i64 3,.slice p 2 2] e G (fun v f' A'=>∃(g:Frag) (vp:Option Addr) (vc:Nat) (fp:Option Addr) (fc:Nat) (dp:Option Addr) (dc:Nat),Dj e g∧v= .tuple #[.agg (repV vp 2 vc fp 0 fc kn dp 1 dc 0).toArray,.int .i64 0]∧f'=un e g∧A'=slc vp 2 vc 56 1 ([6,6].flatMap vdV)::slc fp 0 fc 68 4 []::slc dp 1 dc 49 40 ([r].flatMap Req.vals)::G):=by
  rw[←hkn];exact hRun
 have hPrv:∀(e:Frag),Le f e→∀(p:Option Addr),ListAt e p 121 MV.vals [⟨d15 t3,none,0⟩,⟨p15 r t1,none,0⟩]→∀G,Fn prog 12 [.int .i64 3,.slice p 2 2,.int .i64 1] e G (PrvP e G [⟨p15 r t1,none,0⟩,⟨d15 t3,none,0⟩]):=hPrv;have hAcc:∀(e:Frag),Le f e→∀(p:Option Addr) (c:Nat),ListAt e p 121 MV.vals [⟨p15 r t1,none,0⟩,⟨d15 t3,none,0⟩]→∀G,Fn prog 13 [.int .i64 3,.slice p 2 c,.int .i64 1] e G (AccP e G ([r],0)):=hAcc
 clear hkn;clear hau;obtain⟨d,hdd⟩:∃d,d15 t3=d:=⟨_,rfl⟩;obtain⟨p,hpp⟩:∃p,p15 r t1=p:=⟨_,rfl⟩;rw[hdd]at h3;rw[hpp]at h1;rw[hdd,hpp]at hRun hPrv hAcc;have hno:=fun e G=>audRun_no e G (z:=4) jC (ap:=none) (N:=0) (c:=0);clear hdd hpp
 refine Fn.e0 func8 ntmps8 fun base=>?_;repeat(first|(refine H.Ax (t:=49) (out:=r15u.vals) rfl rfl rfl jD rfl ?_)|(refine gh ?_))
 refine H.cr (hsg _ _) ?_;refine qgK fun rb=>?_;refine qjS ?_;repeat(first|(refine H.Ax (t:=52) (out:=({Bod.zero 1 with req:=r}:Bod).vals none 0) rfl rfl rfl jD rfl ?_)|(refine H.Ax (t:=54) (out:=(p15 r noTag).vals none 0) rfl rfl rfl jD rfl ?_)|(refine gh ?_)|(refine H.Ab (ls:=r.vals) rfl rfl rfl (Rd.ofRow jB) rfl rfl ?_))
 refine H.Af rfl rfl rfl (h1 f _) ?_;refine qfe fun pb=>?_;refine H.Ag (ls:=msgZ.vals none 0) (vs:=p.vals none 0) (ls':=p.vals none 0) rfl rfl rfl (zaa rfl) rfl rfl (Nat.le_refl 121) (.here _ _ _) ?_;repeat(first|(refine H.buildA (t:=37) (out:=v11 fun i=>if i=0 then 1 else 0) rfl rfl rfl jD rfl ?_)|(refine H.Ax (t:=52) (out:=({Bod.zero 2 with k:=1}:Bod).vals none 0) rfl rfl rfl jD rfl ?_)|(refine H.Ax (t:=54) (out:=(d15 noTag).vals none 0) rfl rfl rfl jD rfl ?_)|(refine gh ?_))
 refine H.Af rfl rfl rfl (h3 f _) ?_;refine qfe fun db=>?_;refine H.Ag (ls:=msgZ.vals none 0) (vs:=d.vals none 0) (ls':=d.vals none 0) rfl rfl rfl (zaa rfl) rfl rfl (Nat.le_refl 121) (.here _ _ _) ?_;refine gA ?_;refine qgC fun sb=>?_;refine H.asSlc (k:=2) (sz:=121) rfl jC ?_;refine qkk fun ga hga hda=>?_;have hat1:ListAt (un f ga) (some ⟨sb,0,none⟩) 121 MV.vals [⟨d,none,0⟩,⟨p,none,0⟩]:=(zbi (vals:=MV.vals) (xs:=[⟨d,none,0⟩,⟨p,none,0⟩]) MV.len hga).mono (Le.right hda);have le1:=Le.un f ga
 clear hga hda;generalize un f ga=f1 at *;skip;refine H.Aq rfl rfl rfl (hRun f1 le1 _ hat1 _) fun v f' A' hr=>?_;obtain⟨gb,vp,vc,fp,fc,dp,dc,hdb,rfl,rfl,rfl⟩:=hr;have le2:=le1.trans (Le.un f1 gb);clear hdb
 generalize un f1 gb=f2 at *;refine gY ?_;refine qkp fun rp=>?_;refine H.Ag (ls:=repZ) (vs:=repV vp 2 vc fp 0 fc kn dp 1 dc 0) (ls':=repV vp 2 vc fp 0 fc kn dp 1 dc 0) rfl rfl rfl (zaa rfl) rfl rfl (Nat.le_refl 15) (.here _ _ _) ?_;refine H.pf (x:=row pb _ _) ?_;refine H.pf (x:=row db _ _) ?_;refine gK ?_;refine qgC fun sb2=>?_;refine H.asSlc (k:=2) (sz:=121) rfl jC ?_;refine qkk fun ga hga hda=>?_;have hat2:ListAt (un f2 ga) (some ⟨sb2,0,none⟩) 121 MV.vals [⟨d,none,0⟩,⟨p,none,0⟩]:=(zbi (vals:=MV.vals) (xs:=[⟨d,none,0⟩,⟨p,none,0⟩]) MV.len hga).mono (Le.right hda);have le3:=le2.trans (Le.un f2 ga)
 clear hga hda;generalize un f2 ga=f3 at *;skip;refine H.Aq rfl rfl rfl (hPrv f3 le3 _ hat2 _) fun v f' A' hr=>?_;obtain⟨gb,pq,pc,hdb,rfl,rfl,rfl⟩:=hr;have le4:=le3.trans (Le.un f3 gb);clear hdb
 generalize un f3 gb=f4 at *;refine qkk fun ga hga hda=>?_;have hat3:ListAt (un f4 ga) pq 121 MV.vals [⟨p,none,0⟩,⟨d,none,0⟩]:=(zbi (vals:=MV.vals) (xs:=[⟨p,none,0⟩,⟨d,none,0⟩]) MV.len hga).mono (Le.right hda);have le5:=le4.trans (Le.un f4 ga)
 clear hga hda;generalize un f4 ga=f5 at *;refine gY ?_;refine H.Aq rfl rfl rfl (hAcc f5 le5 _ pc hat3 _) fun v f' A' hr=>?_;obtain⟨gb,aq,ac,hdb,rfl,rfl,rfl⟩:=hr;have le6:=le5.trans (Le.un f5 gb);clear hdb
 generalize un f5 gb=f6 at *;show H _ _ _ ((_,.tuple #[.slice aq 1 ac,.int .i64 0])::_) _ (slc aq 1 ac _ 40 ([r].flatMap Req.vals)::_) _;refine gY ?_;refine H.Af rfl rfl rfl (hno f6 _) ?_;refine gY ?_;refine qkp fun rq=>?_;refine H.Ag (ls:=repZ) (vs:=repZ) (ls':=repZ) rfl rfl rfl (zaa rfl) rfl rfl (Nat.le_refl 15) (.here _ _ _) ?_;refine qeJ ?_;refine H.pd (x:=row db _ _) ?_;refine H.pd (x:=row pb _ _) ?_;clear hAcc hPrv hRun h1 h3 hsg hno;refine H.pf (x:=row rb _ _) ?_;refine H.pf (x:=slc vp _ _ _ _ _) ?_;refine H.pf (x:=slc aq _ _ _ _ _) ?_;refine H.pf (x:=row rp _ _) ?_;refine H.Au (p:=vp) (n0:=2) (c:=vc) (T:=56) (sz:=1) (xs:=[6,6].flatMap vdV) (.there _ (.there _ (.here _ _ _))) jA fun sv hp=>?_;subst hp;refine H.Au (p:=aq) (n0:=1) (c:=ac) (T:=49) (sz:=40) (xs:=[r].flatMap Req.vals) (.there _ (.here _ _ _)) jA fun sq hp=>?_;subst hp;have hv0:∀ {G:List HP} {x0 x1:HP},Rd1 f6 (x0::x1::slc (some ⟨sv,0,none⟩) 2 vc 56 1 ([6,6].flatMap vdV)::G) sv (0*1) (.int .u8 6):=fun {G x0 x1}=>Rd1.of (i:=0) (Rd.slcElem (vals:=vdV) (xs:=[6,6]) vdV_len jC (.there _ (.there _ (.here _ _ _))) (show([6,6]:List Nat)[0]?=some 6 from rfl)) rfl;have hv1:∀ {G:List HP} {x0 x1:HP},Rd1 f6 (x0::x1::slc (some ⟨sv,0,none⟩) 2 vc 56 1 ([6,6].flatMap vdV)::G) sv (1*1) (.int .u8 6):=fun {G x0 x1}=>Rd1.of (i:=0) (Rd.slcElem (vals:=vdV) (xs:=[6,6]) vdV_len jC (.there _ (.there _ (.here _ _ _))) (show([6,6]:List Nat)[1]?=some 6 from rfl)) rfl
 have hrq:∀ {G:List HP} {x0:HP},Rd f6 (x0::slc (some ⟨sq,0,none⟩) 1 ac 49 40 ([r].flatMap Req.vals)::G) sq (0*40) r.vals:=fun {G x0}=>Rd.slcElem (vals:=Req.vals) (xs:=[r]) Req.len jC (.there _ (.here _ _ _)) (show([r]:List Req)[0]?=some r from rfl);refine gK ?_
 refine H.dq ?_;refine gP ?_;refine HQ.Ak (i:=0) rfl rfl rfl rfl jA rfl ?_;refine HQ.Ad rfl rfl rfl (by rw[Nat.zero_add];exact hv0) rfl ?_;refine gP ?_;refine HQ.Ak (i:=1) rfl rfl rfl rfl jA rfl ?_;refine HQ.Ad rfl rfl rfl (by rw[Nat.zero_add];exact hv1) rfl ?_;refine gP ?_;refine HQ.Ak (i:=0) rfl rfl rfl rfl jA rfl ?_;refine HQ.Ab (ls:=r.vals) rfl rfl rfl (by rw[Nat.zero_add];exact hrq) rfl rfl ?_;refine HQ.Ab (ls:=r.vals) rfl rfl rfl (Rd.ofRow (.there _ (.there _ (.there _ (.here _ _ _))))) rfl rfl ?_;refine HQ.aggEq (xs:=r.vals) (ys:=r.vals) (D:=4) (b:=true) rfl rfl rfl rfl jD jD jD jD jC (eqC_refl rfl) rfl ?_;refine gP ?_;refine gT ?_;refine H.pd (x:=row rp _ _) ?_;refine H.pd (x:=slc _ _ _ 49 _ _) ?_;refine H.pd (x:=slc _ _ _ 56 _ _) ?_;refine H.pd (x:=row rb _ _) ?_;refine H.pd (x:=slc fp _ _ _ _ _) ?_;refine H.pd (x:=slc dp _ _ _ _ _) ?_;refine H.weakL le6 ?_;exact qam
end
variable {x y:Msg}
theorem wuniq{all:List Msg}(hW:WOK n all)(hx:x∈all)(hy:y∈all)(ho:orgI x=orgI y)(hn:x.number=y.number):x=y:=by
 obtain⟨p,hp⟩:=strm_mem hx;obtain⟨q,hq⟩:=strm_mem hy;rw[←ho]at hq;have h1:=strm_numA hW hp;have h2:=strm_numA hW hq
 have:p=q:=jA
 subst this;rw[hp]at hq;exact Option.some.inj hq
variable {u:Nat→Int}
theorem upto_at{pre post:List Msg}(hW:WOK n (pre++m::post))(hn:m.number=u (orgI m)+1):uptoS (pre++m::post) u (orgI m)=strm pre (orgI m)∧strm (pre++m::post) (orgI m)=strm pre (orgI m)++m::strm post (orgI m):=by
 have hnum:=hW.at.num
 have hall:strm (pre++m::post) (orgI m)=strm pre (orgI m)++m::strm post (orgI m):=by
  rw[strm_app,strm_cons,if_pos rfl];rfl
 refine⟨?_,hall⟩;unfold uptoS;have hu:(u (orgI m)).toNat=cnt pre (orgI m):=jA
 rw[hu,hall];unfold cnt;exact List.take_left
theorem wchk0{all:List Msg}(hW:WOK n all)(hu:Knw all u)(hm:m∈all)(hn:m.number=u (orgI m)+1)(hd:∀i,i<11→m.deps i≤u i):chk n (uptoS all u) m=0:=by
 obtain⟨pre,post,rfl⟩:=List.append_of_mem hm;have hok:=hW.at;obtain⟨h1,_⟩:=upto_at hW hn
 refine chk_ok hok.fits hok.right ?_ (fun hp i hi=>?_) fun i hi=>?_
 ·rw[h1];exact hok.num
 ·rw[h1]at hp⊢;obtain⟨x,hx,e⟩:=lastD_mem hp;rw[e];unfold strm at hx;rw[List.mem_filter]at hx;exact hok.mono x hx.1 (of_decide_eq_true hx.2) i hi
 ·rw[knownS_uptoS hu];exact hd i hi
theorem wchk{all:List Msg}(hW:WOK n all)(hu:Knw all u)(hm:m∈all):(m.number≤u (orgI m)∧chk n (uptoS all u) m=13)∨(u (orgI m)<m.number∧chk n (uptoS all u) m=12)∨(m.number=u (orgI m)+1∧(∀i,i<11→m.deps i≤u i)∧chk n (uptoS all u) m=0):=by
 have hk:=knownS_uptoS hu;have hlen:(((uptoS all u (orgI m)).length:Nat):Int)=u (orgI m):=hk (orgI m)
 have hfr:fitsB n m=true∧m.right=true:=by
  obtain⟨pre,post,rfl⟩:=List.append_of_mem hm;exact⟨hW.at.fits,hW.at.right⟩
 by_cases h1:m.number≤u (orgI m)
 ·refine .inl ⟨h1,?_⟩;unfold chk;rw[if_neg (by rw[hfr.1];decide),if_neg (by rw[hfr.2];decide),if_pos jA]
 ·by_cases h2 : m.number = u (orgI m) + 1 ∧ ∀ i, i < 11 → m.deps i ≤ u i
  ·exact .inr (.inr ⟨h2.1,h2.2,wchk0 hW hu hm h2.1 h2.2⟩)
  ·refine .inr (.inl ⟨by omega,?_⟩);unfold chk;rw[if_neg (by rw[hfr.1];decide),if_neg (by rw[hfr.2];decide),if_neg jA,if_neg,if_pos]
   ·by_cases h3 : m.number = u (orgI m) + 1
    ·right
     cases ha:aboveB m.deps (knownS (uptoS all u))with
     |true=>rfl
     | false =>
      refine absurd ⟨h3,fun i hi=>?_⟩ h2
      have:=zbm.1 ha i hi;rwa [hk]at this
    ·left;omega
   ·rintro⟨e,hp,ha⟩;obtain⟨pre,post,rfl⟩:=List.append_of_mem hm;obtain⟨g1,_⟩:=upto_at (u:=u) hW jA;rw[g1]at hp ha;obtain⟨x,hx,e2⟩:=lastD_mem hp;unfold strm at hx;rw[List.mem_filter]at hx;rw[e2,zbm.2 fun i hi=>hW.at.mono x hx.1 (of_decide_eq_true hx.2) i hi]at ha;cases ha
/-! ### Sifted -/
variable {U:List Msg}
theorem Knw.zero(hW:WOK n U):Knw U fun _=>0:=
 ⟨fun i => ⟨Int.le_refl _, by omega⟩, fun x hx h => by
  obtain⟨i,hi⟩:=List.getElem?_of_mem hx
  have:=(hW i x hi).num
  omega⟩
theorem uptoS_zero(U:List Msg):strm []=uptoS U fun _=>0:=by
 funext i;show []=(strm U i).take 0;rw[List.take_zero]
theorem chk_sift(hW:WOK n U)(hm:m∈U):¬(chk n (strm []) m=1∨chk n (strm []) m=11):=by
 rw[uptoS_zero U];rcases wchk hW (Knw.zero hW) hm with⟨_,e⟩|⟨_,e⟩|⟨_,_,e⟩<;>rw[e]<;>decide
theorem sfG_app:∀(M:SfM) (k k':Int×Int) (d:Nat),sfG (M++[(k,d)]) k'=match sfG M k' with|some x=>some x|none=>if k'=k then some d else none
 | [],k,k',d=>rfl
 | (a, x) :: r, k, k', d => by
  show(if k'=a then some x else sfG (r++[(k,d)]) k')=match(if k'=a then some x else sfG r k')with|some x=>some x|none=>_
  rw[sfG_app r k k' d]
  split
  ·rfl
  ·rfl
theorem wname(hW:WOK n U)(hx:x∈U)(hy:y∈U)(ho:x.origin=y.origin)(hn:x.number=y.number):x=y:=
 wuniq hW hx hy (by unfold orgI;rw[ho]) hn
/-! ### A world's messages in order -/
variable {j:Nat}
theorem wplace(hW:WOK n U){i:Nat}(hi:U[i]?=some m)(hj:U[j]?=some m):i=j:=by
 have key:∀a b:Nat,a<b→U[a]?=some m→U[b]?=some m→False:=fun a b hab ha hb=>by
  have h1:=(hW a m ha).num;have h2:=(hW b m hb).num
  have e:U.take b=U.take (a+1)++(U.take b).drop (a+1):=by
   have:=List.take_append_drop (a+1) (U.take b);rw[List.take_take,show min (a+1) b=a+1 by omega]at this
   exact this.symm
  have h3:cnt (U.take b) (orgI m)=cnt (U.take a) (orgI m)+1+cnt ((U.take b).drop (a+1)) (orgI m):=by
   rw[e,cnt_app,take_snoc ha,cnt_snoc,if_pos rfl]
   have e2:((U.take a++[m]++List.drop (a+1) (List.take b U)).drop (a+1))=List.drop (a+1) (List.take b U):=by
    rw[←take_snoc ha,←e]
   rw[e2]
  omega
 rcases Nat.lt_trichotomy i j with h|h|h
 ·exact absurd (key i j h hi hj) id
 ·exact h
 ·exact absurd (key j i h hj hi) id
/-! ### What a message knows -/
/-! ### Votes -/
/-! ### What a proof needs -/
/-! ### Worlds -/
def m8:Msg:=⟨2,1,fun _=>0,{Bod.zero 2 with k:=1},noTag⟩
section
variable (f:Frag) (F:List HP)
end
/-! ### What is put is got -/
variable {mv:Nat}
theorem req_backG{q:Req}(h:q.Ok)(ha:q.asked){mk:Nat}(hmk:32≤mk∧mk<65536)(hmv:128≤mv∧mv<65536)(r:List UInt8):((⟨q.bytes++b32L q.tag++r,false⟩:Cs).req mk mv).vals=q.vals∧(⟨q.bytes++b32L q.tag++r,false⟩:Cs).reqS mk mv=⟨r,false⟩:=by
 obtain⟨ht,hm⟩:=h;obtain⟨c1,c2,_,_,⟨k1,k2⟩,k3,k4⟩:=ha
 have e:q.bytes++b32L q.tag++r=b8 q.client::q.kind::(be 8 q.time++(be 8 q.amount++(textB q.key++(textB q.val++(textB q.old++(textB q.to++(b32L q.tag++r))))))):=by
  unfold Req.bytes Req.head;simp only[List.append_assoc,List.cons_append,List.nil_append];rfl
 rw[e];unfold Cs.req Cs.reqS;dsimp only;have t1:=Cs.text_app (s:=q.key) (most:=mk) (r:=textB q.val++(textB q.old++(textB q.to++(b32L q.tag++r)))) jA hmk.2;have t2:=Cs.text_app (s:=q.val) (most:=mv) (r:=textB q.old++(textB q.to++(b32L q.tag++r))) jA hmv.2
 have t3:=Cs.text_app (s:=q.old) (most:=mv) (r:=textB q.to++(b32L q.tag++r)) jA hmv.2;have t4:=Cs.text_app (s:=q.to) (most:=mk) (r:=b32L q.tag++r) jA hmk.2
 exact qbl
section
variable (mk mv:Nat) (k8:UInt8) (s:Cs)
theorem bodyK_1:s.bodyK mk mv k8 1=({Bod.zero k8 with view:=(s.num 8:Nat),req:=(s.skip 8).req mk mv},(s.skip 8).reqS mk mv):=rfl
theorem bodyK_2:s.bodyK mk mv k8 2=({Bod.zero k8 with view:=(s.num 8:Nat),k:=((s.skip 8).num 8:Nat)},(s.skip 8).skip 8):=rfl
theorem bodyK_3:s.bodyK mk mv k8 3=({Bod.zero k8 with view:=(s.num 8:Nat)},s.skip 8):=rfl
theorem bodyK_4:s.bodyK mk mv k8 4=({Bod.zero k8 with view:=(s.num 8:Nat),q:=(Cs.pairs ((s.skip 8).num 1) ((s.skip 8).skip 1) []).1},(Cs.pairs ((s.skip 8).num 1) ((s.skip 8).skip 1) []).2):=rfl
theorem bodyK_5:s.bodyK mk mv k8 5=({Bod.zero k8 with view:=(s.num 8:Nat)},s.skip 8):=rfl
theorem bodyK_6:s.bodyK mk mv k8 6=({Bod.zero k8 with k:=(s.num 8:Nat),dig:=(s.skip 8).hash},(s.skip 8).skip 32):=rfl
end
theorem body_backG{x:Bod}(hx:x.Ok)(hm:x.mayK x.kind.toNat=true){mk:Nat}(hmk:32≤mk∧mk<65536)(hmv:128≤mv∧mv<65536)(r:List UInt8):Bod.E (((⟨x.put++r,false⟩:Cs).bodyK mk mv x.kind x.kind.toNat).1) x.own∧((⟨x.put++r,false⟩:Cs).bodyK mk mv x.kind x.kind.toNat).2=⟨r,false⟩:=by
 obtain⟨hv,hk,hr⟩:=hx;unfold Bod.put Bod.own;generalize x.kind.toNat=k at hm
 match k,hm with
 |0,hm=>exact absurd hm jU
 |k+7,hm=>exact absurd hm jU
 | 1, hm =>
  have ha:x.req.asked:=of_decide_eq_true hm;have e:x.putK 1++r=be 8 x.view++(x.req.bytes++b32L x.req.tag++r):=by simp[Bod.putK]
  have h1:=req_backG hr ha hmk hmv r;rw[e,bodyK_1,Cs.skip_app (be_len _ _)]
  dsimp only;refine⟨⟨rfl,Cs.num8_be hv,rfl,?_,rfl,rfl⟩,?_⟩
  ·exact h1.1
  ·with_reducible exact h1.2
 | 2, _ =>
  have e:x.putK 2++r=be 8 x.view++(be 8 x.k++r):=by simp[Bod.putK]
  rw[e,bodyK_2,Cs.skip_app (be_len _ _),Cs.skip_app (be_len _ _)];exact⟨⟨rfl,Cs.num8_be hv,Cs.num8_be hk,rfl,rfl,rfl⟩,rfl⟩
 | 3, _ =>
  have e:x.putK 3++r=be 8 x.view++r:=by simp[Bod.putK]
  rw[e,bodyK_3,Cs.skip_app (be_len _ _)];exact qcR
 | 5, _ =>
  have e:x.putK 5++r=be 8 x.view++r:=by simp[Bod.putK]
  rw[e,bodyK_5,Cs.skip_app (be_len _ _)];exact qcR
 | 6, _ =>
  have e:x.putK 6++r=be 8 x.k++(b32L x.dig++r):=by simp[Bod.putK]
  have h1:(⟨b32L x.dig++r,false⟩:Cs).skip 32=⟨r,false⟩:=Cs.skip_app (a:=b32L x.dig) rfl;rw[e,bodyK_6,Cs.skip_app (be_len _ _),h1]
  exact⟨⟨rfl,rfl,Cs.num8_be hk,rfl,rfl,Cs.hash_app⟩,rfl⟩
 | 4, hm =>
  simp only[Bod.mayK,Bool.and_eq_true,decide_eq_true_eq]at hm;have hlen:=quo_len x.q 0 jA hm.2.1;have e:x.putK 4++r=be 8 x.view++(b8 x.q.length::(x.q.flatMap pairB++r)):=by simp[Bod.putK]
  have hn:(b8 x.q.length).toNat=x.q.length:=by have:=b8_small (z:=(x.q.length:Int)) jA;omega
  have hp:=pairs_back x.q 0 r [] (Int.le_refl 0) hm.2.1;rw[e,bodyK_4,Cs.skip_app (be_len _ _),Cs.num1_b,Cs.skip1_b,hn,hp]
  exact qcR
theorem body_backR{x:Bod}(hx:x.Ok)(hm:x.mayK x.kind.toNat=true)(r:List UInt8):Bod.E (((⟨x.put++r,false⟩:Cs).bodyK 32 128 x.kind x.kind.toNat).1) x.own∧((⟨x.put++r,false⟩:Cs).bodyK 32 128 x.kind x.kind.toNat).2=⟨r,false⟩:=
 body_backG hx hm jC jC r
theorem deps_back(d:Nat→Int):∀n (r:List UInt8),(∀i,i<n→0≤d i∧d i≤18446744073709551615)→((⟨depsB d n++r,false⟩:Cs).deps n).2=⟨r,false⟩∧∀i,i<n→((⟨depsB d n++r,false⟩:Cs).deps n).1 i=d i
 |0,r,_=>⟨rfl,fun i hi=>by omega⟩
 | n + 1, r, h => by
  have e:depsB d (n+1)++r=depsB d n++(be 8 (d n)++r):=by simp[depsB]
  rw[e]
  obtain⟨h1,h2⟩:=deps_back d n (be 8 (d n)++r) fun i hi=>h i jA
  constructor
  ·show(Cs.deps _ n).2.skip 8=_
   rw[h1,Cs.skip_app (be_len _ _)]
  ·intro i hi
   show setD (Cs.deps _ n).1 n ((Cs.deps _ n).2.num 8:Nat) i=_
   rw[h1,Cs.num8_be (h n jA)]
   unfold setD
   by_cases hi2:i=n
   ·rw[if_pos hi2,hi2]
   ·rw[if_neg hi2,h2 i jA]
theorem tagged_parse(hm:m.may=true)(ht:m.Typ)(r:List UInt8):orgOf (m.tagged++r)=m.origin∧v11 (Cs.headD (m.tagged++r))=v11 m.deps∧kindOf (m.tagged++r)=m.body.kind∧Bod.E (bodyOf (m.tagged++r)).1 m.body∧(bodyOf (m.tagged++r)).2=⟨r,false⟩:=by
 obtain⟨ho,hn,hd,he,hk⟩:=Msg.may_facts hm ht;have e:m.tagged++r=b8 m.origin::(depsB m.deps 11++(m.body.kind::(m.body.put++r))):=by simp[Msg.tagged]
 have hdb:=deps_back m.deps 11 (m.body.kind::(m.body.put++r)) fun i hi=>⟨(hd i hi).1,by have:=(hd i hi).2;omega⟩
 have hS:Cs.headS (m.tagged++r)=⟨m.body.kind::(m.body.put++r),false⟩:=by
  unfold Cs.headS;rw[e,Cs.skip1_b];exact hdb.1
 have hK:kindOf (m.tagged++r)=m.body.kind:=by
  unfold kindOf Cs.byte;rw[hS,Cs.num1_b];simp
 have hB:bodyOf (m.tagged++r)=(⟨m.body.put++r,false⟩:Cs).bodyK 32 128 m.body.kind m.body.kind.toNat:=by
  unfold bodyOf;rw[hK,hS,Cs.skip1_b]
 have hb:=body_backR ht.1 hk r;rw[←hB]at hb
 refine⟨?_,?_,hK,hb.1.trans he,hb.2⟩
 ·unfold orgOf;rw[e,Cs.num1_b];exact b8_small jA
 ·refine v11_iff.2 fun i hi=>?_;unfold Cs.headD;rw[e,Cs.skip1_b];exact hdb.2 i hi
variable {s:List UInt8}
theorem tagged_cancel{k:Msg}(hm:m.may=true)(ht:m.Typ)(hk:k.may=true)(htk:k.Typ){r:List UInt8}(h:m.tagged++r=k.tagged++s):r=s∧m.origin=k.origin∧v11 m.deps=v11 k.deps∧Bod.E m.body k.body:=by
 obtain⟨a1,a2,a3,a4,a5⟩:=tagged_parse hm ht r;obtain⟨b1,b2,b3,b4,b5⟩:=tagged_parse hk htk s;rw[h]at a1 a2 a3 a4 a5;rw[a5]at b5;simp only[Cs.mk.injEq,and_true]at b5;exact⟨b5,a1.symm.trans b1,a2.symm.trans b2,a4.symm.trans b4⟩
theorem putB_may(hm:m.may=true):m.putB=be 8 m.number++m.tagged++b32L m.tag:=by unfold Msg.putB;exact if_pos hm
/-! ### What is got is put as it stood -/
theorem b32L_len(t:Nat→UInt8):(b32L t).length=32:=rfl
theorem putB_cancel{k:Msg}(hm:m.may=true)(ht:m.Typ)(hk:k.may=true)(htk:k.Typ){r:List UInt8}(h:m.putB++r=k.putB++s):r=s∧Msg.E m k:=by
 rw[putB_may hm,putB_may hk]at h;simp only[List.append_assoc]at h;have h1:=List.append_inj h (by rw[be_len,be_len]);obtain⟨_,hn,_⟩:=Msg.may_facts hm ht
 obtain⟨_,hn2,_⟩:=Msg.may_facts hk htk;obtain⟨h2,h3,h4,h5⟩:=tagged_cancel hm ht hk htk h1.2;have h6:=List.append_inj h2 (by rw[b32L_len,b32L_len]);refine⟨h6.2,h3,?_,h4,h5,?_⟩
 ·have a1:=numB_be8 (z:=m.number) jA;have a2:=numB_be8 (z:=k.number) jA
  rw[h1.1,a2]at a1;exact a1.symm
 ·rw[b32_bytes,b32_bytes,h6.1]
theorem put_same{k:Msg}(hm:m.may=true)(ht:m.Typ)(hk:k.may=true)(htk:k.Typ):m.putB=k.putB↔Msg.eqB m k=true:=by
 rw[Msg.eqB_iff];exact⟨fun h=>(putB_cancel hm ht hk htk (r:=[]) (s:=[]) (by rw[h])).2,fun h=>Msg.putB_congr h⟩
def PairN(ms:List Msg)(a b:Nat):Prop:=∀(i j:Nat) (x y:Msg),i<j→ms[i]?=some x→ms[j]?=some y→x.origin=y.origin→x.number=y.number→i=a∧j=b
structure SN(ms:List Msg)(a b:Nat)(x y:Msg)(k:Nat)(S:AuM×SfM):Prop where
 vl:S.1.vd.length=ms.length
 so:∀(o z:Int) (j:Nat),sfG S.2 (o,z)=some j→j<k∧∃m,ms[j]?=some m∧m.origin=o∧m.number=z
 no:∀(o z:Int),sfG S.2 (o,z)=none→∀(j:Nat) (m:Msg),j<k→ms[j]?=some m→¬(m.origin=o∧m.number=z)
 fk:S.1.fk=if b<k∧x.putB≠y.putB then [⟨y.origin,y.number,a,b⟩]else []
 vb:b<k→x.putB≠y.putB→S.1.vd[b]?=some 3
theorem SN.to{n:Nat}{ms:List Msg}{a b:Nat}{x y:Msg}(hp:PairN ms a b)(hab:a<b)(hx:ms[a]?=some x)(hy:ms[b]?=some y)(ho:x.origin=y.origin)(hz:x.number=y.number)(hok:∀m∈ms,¬(chk n (strm []) m=1∨chk n (strm []) m=11)):∀k,k≤ms.length→SN ms a b x y k ((nwM n ms.length).siftTo n ms k)
 |0,_=>⟨List.length_replicate,fun o z j hj=>(by cases hj),fun o z _ j m hj=>absurd hj (Nat.not_lt_zero j),by rw[if_neg (fun h=>absurd h.1 (Nat.not_lt_zero b))];rfl,fun h=>absurd h (Nat.not_lt_zero b)⟩
 | k + 1, hk => by
  have ih:=SN.to hp hab hx hy ho hz hok k jA
  unfold AuM.siftTo
  cases hm:ms[k]? with
  |none=>rw[List.getElem?_eq_none_iff]at hm;omega
  | some m =>
   show SN ms a b x y (k+1) (AuM.sift1 n ms k m ((nwM n ms.length).siftTo n ms k))
   generalize(nwM n ms.length).siftTo n ms k=S at *
   have hkl:k<S.1.vd.length:=by rw[ih.vl];exact(List.getElem?_eq_some_iff.1 hm).1
   unfold AuM.sift1
   rw[if_neg (hok m (List.mem_of_getElem? hm))]
   cases hg:sfG S.2 (m.origin,m.number)with
   | none =>
    have hkb:k≠b:=fun e=>by
     subst e
     rw[hy]at hm
     cases hm
     exact ih.no _ _ hg a x hab hx ⟨ho,hz⟩
    have hlt:b<k+1↔b<k:=jA
    refine⟨ih.vl,fun o z j hj=>?_,fun o z hzz j w hjk hjx=>?_,?_,fun h=>ih.vb jA⟩
    ·have hj:sfG (S.2++[((m.origin,m.number),k)]) (o,z)=some j:=hj
     rw[sfG_app]at hj
     cases hg2:sfG S.2 (o,z)with
     | some q =>
      rw[hg2]at hj
      cases hj
      obtain⟨h1,h2⟩:=ih.so _ _ _ hg2
      exact⟨by omega,h2⟩
     | none =>
      rw[hg2]at hj
      have hj:(if(o,z)=(m.origin,m.number)then some k else none)=some j:=hj
      split at hj
      ·rename_i e
       cases hj
       cases e
       exact⟨by omega,m,hm,rfl,rfl⟩
      ·cases hj
    ·have hzz:sfG (S.2++[((m.origin,m.number),k)]) (o,z)=none:=hzz
     rw[sfG_app]at hzz
     cases hg2:sfG S.2 (o,z)with
     |some q=>rw[hg2]at hzz;cases hzz
     | none =>
      rw[hg2]at hzz
      have hzz:(if(o,z)=(m.origin,m.number)then some k else none)=none:=hzz
      split at hzz
      ·cases hzz
      ·rename_i e
       by_cases ek:j=k
       ·subst ek
        rw[hm]at hjx
        cases hjx
        rintro⟨h1,h2⟩
        exact e (by rw[h1,h2])
       ·exact ih.no _ _ hg2 j w jA hjx
    ·show S.1.fk=_
     rw[ih.fk]
     simp only[hlt]
   | some p =>
    obtain⟨hpk,w,hpw,how,hnw⟩:=ih.so _ _ _ hg
    obtain⟨e1,e2⟩:=hp p k w m hpk hpw hm how hnw
    subst e1
    subst e2
    rw[hx]at hpw
    cases hpw
    rw[hy]at hm
    cases hm
    have hfk:S.1.fk=[]:=by rw[ih.fk,if_neg (fun h=>absurd h.1 (Nat.lt_irrefl _))]
    have hso:∀(o z:Int) (j:Nat),sfG S.2 (o,z)=some j→j<k+1∧∃m,ms[j]?=some m∧m.origin=o∧m.number=z:=fun o z j hj=>by
     obtain⟨h1,h2⟩:=ih.so _ _ _ hj
     exact⟨by omega,h2⟩
    have hno:∀(o z:Int),sfG S.2 (o,z)=none→∀(j:Nat) (m:Msg),j<k+1→ms[j]?=some m→¬(m.origin=o∧m.number=z):=fun o z hz' j v hjk hjx=>by
     by_cases ek:j=k
     ·subst ek
      rw[hy]at hjx
      cases hjx
      rintro⟨h1,h2⟩
      exact ih.no o z hz' p x hpk hx ⟨by rw[ho,h1],by rw[hz,h2]⟩
     ·exact ih.no o z hz' j v jA hjx
    have hput:(ms[p]?.map Msg.putB=some y.putB)↔x.putB=y.putB:=by
     rw[hx];show some x.putB=some y.putB↔_;exact⟨fun h=>Option.some.inj h,fun h=>by rw[h]⟩
    by_cases he:x.putB=y.putB
    ·show SN ms p k x y (k+1) (if ms[p]?.map Msg.putB=some y.putB then({S.1 with vd:=S.1.vd.set k 2},S.2)else _)
     rw[if_pos (hput.2 he)]
     exact⟨by show(S.1.vd.set k 2).length=_;rw[List.length_set];exact ih.vl,hso,hno,by show S.1.fk=_;rw[hfk,if_neg (fun h=>h.2 he)],fun _ h=>absurd he h⟩
    ·show SN ms p k x y (k+1) (if ms[p]?.map Msg.putB=some y.putB then _ else({S.1 with vd:=S.1.vd.set k 3,fk:=S.1.fk++[⟨y.origin,y.number,p,k⟩]},S.2))
     rw[if_neg (fun h=>he (hput.1 h))]
     exact⟨by show(S.1.vd.set k 3).length=_;rw[List.length_set];exact ih.vl,hso,hno,by show S.1.fk++_=_;rw[hfk,if_pos ⟨Nat.lt_succ_self k,he⟩];rfl,fun _ _=>List.getElem?_set_self hkl⟩
/-! ### What stays -/
structure Keep(A B:AuM):Prop where
 fk:B.fk=A.fk
 vd:∀(i v:Nat),A.vd[i]?=some v→v≠0→B.vd[i]?=some v
theorem Keep.refl(A:AuM):Keep A A:=⟨rfl,fun _ _ h _=>h⟩
theorem Keep.trans{B C:AuM}(h:Keep A B)(h2:Keep B C):Keep A C:=⟨by rw[h2.fk,h.fk],fun i v a b=>h2.vd i v (h.vd i v a b) b⟩
theorem set_keep{vd:List Nat}{k:Nat}(hz:vd[k]?=some 0)(i v:Nat)(h:vd[i]?=some v)(hv:v≠0):(vd.set k c)[i]?=some v:=by
 rw[List.getElem?_set_ne (fun e=>by subst e;rw[hz]at h;cases h;exact hv rfl)];exact h
theorem meet_keep{k:Nat}(hz:A.vd[k]?=some 0):Keep A (A.meet n m k).1:=by
 unfold AuM.meet;split
 ·exact qec
 ·split
  ·exact qec
  ·exact Keep.refl A
theorem pass_keep{n:Nat}{ms:List Msg}{A:AuM}:∀k,Keep A (A.passTo n ms k).1
 |0=>Keep.refl A
 | k + 1 => by
  have ih:=pass_keep (n:=n) (ms:=ms) (A:=A) k
  unfold AuM.passTo
  cases ms[k]? with
  |none=>exact ih
  | some m =>
   show Keep A (if _ then _ else _:AuM×Bool).1
   split
   ·rename_i h
    exact ih.trans (meet_keep h)
   ·exact ih
theorem runP_keep{n N:Nat}{ms:List Msg}:∀(k:Nat) (A:AuM),Keep A (AuM.runP n ms N k A)
 |0,A=>Keep.refl A
 | k + 1, A => by
  unfold AuM.runP
  split
  ·exact(pass_keep N).trans (runP_keep k _)
  ·exact pass_keep N
theorem waits_keep(A:AuM):∀k,Keep A (A.wt k)
 |0=>Keep.refl A
 | k + 1 => by
  have ih:=waits_keep A k
  refine⟨rfl,fun i v h hv=>?_⟩
  have h1:(waitsTo A.vd k)[i]?=some v:=ih.vd i v h hv
  show(waitsTo A.vd (k+1))[i]?=some v
  unfold waitsTo
  split
  ·rename_i hz
   exact set_keep hz i v h1 hv
  ·exact h1
theorem audR_pair{a b:Nat}(hp:PairN ms a b)(hab:a<b)(hx:ms[a]?=some x)(hy:ms[b]?=some y)(ho:x.origin=y.origin)(hz:x.number=y.number)(hok:∀m∈ms,¬(chk n (strm []) m=1∨chk n (strm []) m=11)):(x.putB=y.putB→(audR n ms).fk=[])∧(x.putB≠y.putB→(audR n ms).fk=[⟨y.origin,y.number,a,b⟩]∧(audR n ms).vd[b]?=some 3):=by
 have hS:=SN.to (n:=n) hp hab hx hy ho hz hok ms.length (Nat.le_refl _);have hk:=(runP_keep (n:=n) (N:=ms.length) (ms:=ms) (ms.length+1) ((nwM n ms.length).siftTo n ms ms.length).1).trans (waits_keep _ ms.length)
 have hbl:=(List.getElem?_eq_some_iff.1 hy).1;have haud:audR n ms=(AuM.runP n ms ms.length (ms.length+1) ((nwM n ms.length).siftTo n ms ms.length).1).wt ms.length:=rfl
 rw[←haud]at hk;refine⟨fun e=>?_,fun e=>⟨?_,?_⟩⟩
 ·rw[hk.fk,hS.fk,if_neg (fun h=>h.2 e)]
 ·rw[hk.fk,hS.fk,if_pos ⟨hbl,e⟩]
 ·exact hk.vd b 3 (hS.vb hbl e) jC
theorem chk_other(hf:fitsB n x=true)(hr:x.right=true)(hn:1≤x.number):¬(chk n (strm []) x=1∨chk n (strm []) x=11):=by
 have h:chk n (strm []) x=12∨chk n (strm []) x=0:=by
  unfold chk;rw[if_neg (by rw[hf];decide),if_neg (by rw[hr];decide),if_neg (by show¬x.number≤((0:Nat):Int);omega),if_neg (by rintro⟨_,h,_⟩;exact absurd h (by show¬0<0;omega))];split
  ·exact .inl rfl
  ·exact .inr rfl
 rcases h with e|e<;>rw[e]<;>decide
theorem pair_back(hW:WOK n U)(hj:U[j]?=some m)(ho:x.origin=m.origin)(hz:x.number=m.number):PairN (U++[x]) j U.length:=fun i k u w hik hu hw e1 e2=>by
 have hjl:=(List.getElem?_eq_some_iff.1 hj).1
 have hkl:=(List.getElem?_eq_some_iff.1 hw).1
 rw[List.length_append]at hkl
 have hkl:k<U.length+1:=hkl
 rw[List.getElem?_append_left jA]at hu
 by_cases h:k<U.length
 ·rw[List.getElem?_append_left h]at hw
  have:=wname hW (List.mem_of_getElem? hu) (List.mem_of_getElem? hw) e1 e2
  subst this
  have:=wplace hW hu hw
  omega
 ·have e:k=U.length:=jA
  subst e
  rw[List.getElem?_append_right (Nat.le_refl _),Nat.sub_self]at hw
  have hw:some x=some w:=hw
  cases hw
  have:=wname hW (List.mem_of_getElem? hu) (List.mem_of_getElem? hj) (by rw[e1,ho]) (by rw[e2,hz])
  subst this
  exact⟨wplace hW hu hj,rfl⟩
theorem pair_front(hW:WOK n U)(hj:U[j]?=some m)(ho:x.origin=m.origin)(hz:x.number=m.number):PairN (x::U) 0 (j+1):=fun i k u w hik hu hw e1 e2=>by
 obtain⟨k,rfl⟩:∃q,k=q+1:=⟨k-1,by omega⟩
 have hw:U[k]?=some w:=hw
 match i,hu,hik with
 | 0, hu, hik =>
  have hu:some x=some u:=hu
  cases hu
  have:=wname hW (List.mem_of_getElem? hw) (List.mem_of_getElem? hj) (by rw[←e1,ho]) (by rw[←e2,hz])
  subst this
  exact⟨rfl,by rw[wplace hW hw hj]⟩
 | i + 1, hu, hik =>
  have hu:U[i]?=some u:=hu
  have:=wname hW (List.mem_of_getElem? hu) (List.mem_of_getElem? hw) e1 e2
  subst this
  have:=wplace hW hu hw
  omega
def othB(v:Nat):Bod:={Bod.zero 3 with view:=1+(v:Int)}
def othM(m:Msg)(v:Nat):Msg:=({m with body:=othB v}:Msg).signed
variable {v:Nat}
theorem othB_may(hv:v<256):(othB v).may=true:=by
 have e:Bod.eqB (othB v).own (othB v)=true:=Bod.eqB_refl _;unfold Bod.may
 rw[e];have h1:decide ((othB v).view<1073741824)=true:=decide_eq_true (by show 1+(v:Int)<_;omega);rw[h1]
 exact decide_eq_true (by show(1:Int)≤1+(v:Int);omega)
theorem othB_ok(hv:v<256):(othB v).Ok:=⟨⟨by show(0:Int)≤1+(v:Int);omega,by show 1+(v:Int)≤_;omega⟩,⟨by show(0:Int)≤0;decide,by show(0:Int)≤_;decide⟩,reqz_ok⟩
theorem othM_facts(hf:fitsB n m=true)(hv:v<256):(othM m v).origin=m.origin∧(othM m v).number=m.number∧(othM m v).deps=m.deps∧(othM m v).body=othB v∧fitsB n (othM m v)=true∧(othM m v).right=true:=by
 obtain⟨e1,e2,e3,e4⟩:=({m with body:=othB v}:Msg).signed_parts;have e1:(othM m v).origin=m.origin:=e1;have e2:(othM m v).number=m.number:=e2
 have e3:(othM m v).deps=m.deps:=e3;have e4:(othM m v).body=othB v:=e4
 have hmay:({m with body:=othB v}:Msg).may=true:=by
  unfold fitsB at hf;simp only[Bool.and_eq_true]at hf;have h1:=hf.1;unfold Msg.may at h1⊢
  rw[Bool.and_eq_true]at h1⊢;exact⟨h1.1,othB_may hv⟩
 have hmay2:(othM m v).may=true:=by
  have:=({m with body:=othB v}:Msg).signed_may;rw[hmay]at this
  exact this
 refine⟨e1,e2,e3,e4,?_,Msg.signed_isright hmay⟩;unfold fitsB at hf⊢;simp only[Bool.and_eq_true]at hf⊢;rw[hmay2,e1,e3,e4];exact⟨rfl,hf.2.1,rfl,hf.2.2.2⟩
theorem tail2{T:Option Addr→Nat→Prop}{G:Prop}(main:(∀(p:Option Addr) (c:Nat),T p c)→G)(pf:∀(p:Option Addr) (c:Nat),T p c):G:=main pf
structure FkR(R:AuM)(ml:List MV)(a b:Nat)(m:Msg)(s:Bool):Prop where
 ab:a<b∧b<ml.length
 vl:R.vd.length=ml.length
 yes:s=true→R.fk=[]
 no:s=false→R.fk=[⟨m.origin,m.number,a,b⟩]∧R.vd[b]?=some 3
 un:s=false→∃xa xb,ml[a]?=some xa∧ml[b]?=some xb∧Msg.eqB xa.m xb.m=false
theorem typ_of(hW:WOK n U)(hm:m∈U)(ho:m.body.Ok):m.Typ∧m.may=true:=by
 obtain⟨i,hi⟩:=List.getElem?_of_mem hm;exact⟨⟨ho,fun j hj=>((hW i m hi).dep j hj).1⟩,(fits_org (hW i m hi).fits).2.2⟩
theorem fork_law(hfz:fewZ (n:Int)){l:List MV}(hW:WOK n (l.map MV.m))(hg:∀x∈l,x.m.body.Ok){y:MV}(hj:l[j]?=some y)(hv:v<256)(hl:l.length≤100){ox:MV}(hox:ox.m=othM y.m v)(ml:List MV)(a b:Nat)
  (h:(ml=l++[ox]∧a=j∧b=l.length)∨(ml=ox::l∧a=0∧b=j+1)):FkR (audR n (ml.map MV.m)) ml a b y.m (Msg.eqB y.m ox.m):=by
 have hjU:(l.map MV.m)[j]?=some y.m:=by rw[List.getElem?_map,hj];rfl
 have hmU:=List.mem_of_getElem? hjU;have hjl:=(List.getElem?_eq_some_iff.1 hj).1
 have hok:=hW j y.m hjU;obtain⟨o1,o2,o3,o4,o5,o6⟩:=othM_facts hok.fits hv
 rw[←hox]at o1 o2 o3 o4 o5 o6;have hyo:y.m.body.Ok:=hg y (List.mem_of_getElem? hj);obtain⟨ty,my⟩:=typ_of hW hmU hyo
 have tx:ox.m.Typ:=⟨by rw[o4];exact othB_ok hv,fun i hi=>by rw[o3];exact ty.2 i hi⟩;have mx:ox.m.may=true:=(fits_org o5).2.2
 have hps:=put_same my ty mx tx;have hps2:=put_same mx tx my ty
 have hnum:1≤y.m.number:=by have:=hok.num;omega
 have hsame:(y.m.putB=ox.m.putB→Msg.eqB y.m ox.m=true)∧(Msg.eqB y.m ox.m=false→y.m.putB≠ox.m.putB)∧(Msg.eqB y.m ox.m=false→Msg.eqB ox.m y.m=false):=by
  refine⟨hps.1,fun e h=>(by rw[hps.1 h]at e;cases e),fun e=>?_⟩
  cases e2:Msg.eqB ox.m y.m with
  |false=>rfl
  |true=>rw[hps.1 (hps2.2 e2).symm]at e;cases e
 have hUl:(l.map MV.m).length=l.length:=List.length_map ..;have hokU:∀m∈l.map MV.m,¬(chk n (strm []) m=1∨chk n (strm []) m=11):=fun m hm=>chk_sift hW hm
 have hvU:∀m∈l.map MV.m,0≤m.body.view:=fun m hm=>by
  obtain⟨x,hx,rfl⟩:=List.mem_map.1 hm;exact(hg x hx).1.1
 have hvx:0≤ox.m.body.view:=by rw[o4];exact(othB_ok hv).1.1
 have hokx:=chk_other o5 o6 (by rw[o2];exact hnum);rcases h with⟨rfl,rfl,rfl⟩|⟨rfl,rfl,rfl⟩
 ·have hms:(l++[ox]).map MV.m=l.map MV.m++[ox.m]:=by rw[List.map_append];rfl
  have hpr:=pair_back hW hjU o1 o2;rw[hUl]at hpr
  rw[hms];have ha:(l.map MV.m++[ox.m])[a]?=some y.m:=by rw[List.getElem?_append_left (by rw[hUl];exact hjl)];exact hjU
  have hb:(l.map MV.m++[ox.m])[l.length]?=some ox.m:=by rw[List.getElem?_append_right (by rw[hUl];exact Nat.le_refl _),hUl,Nat.sub_self];rfl
  obtain⟨r1,r2⟩:=audR_pair (n:=n) hpr hjl ha hb o1.symm o2.symm (fun m hm=>by
   rcases List.mem_append.1 hm with h|h
   ·exact hokU m h
   ·rw[List.mem_singleton.1 h];exact hokx)
  rw[o1,o2]at r2;refine⟨⟨hjl,by rw[List.length_append];exact Nat.lt_succ_self _⟩,?_,fun e=>r1 (hps.2 e),fun e=>r2 (hsame.2.1 e),fun e=>⟨y,ox,by rw[List.getElem?_append_left hjl];exact hj,by rw[List.getElem?_append_right (Nat.le_refl _),Nat.sub_self];rfl,e⟩⟩
  have:=(audR_I hfz (ms:=l.map MV.m++[ox.m]) (fun m hm=>by
   rcases List.mem_append.1 hm with h|h
   ·exact hvU m h
   ·rw[List.mem_singleton.1 h];exact hvx) (by rw[List.length_append,hUl];show l.length+1≤254;omega)).1.vl
  rw[this,List.length_append,hUl,List.length_append];rfl
 ·have hms:(ox::l).map MV.m=ox.m::l.map MV.m:=rfl;have hpr:=pair_front hW hjU o1 o2
  rw[hms];have ha:(ox.m::l.map MV.m)[0]?=some ox.m:=rfl;have hb:(ox.m::l.map MV.m)[j+1]?=some y.m:=hjU
  obtain⟨r1,r2⟩:=audR_pair (n:=n) hpr (Nat.succ_pos j) ha hb o1 o2 (fun m hm=>by
   rcases List.mem_cons.1 hm with h|h
   ·rw[h];exact hokx
   ·exact hokU m h)
  refine⟨⟨Nat.succ_pos j,by rw[List.length_cons];omega⟩,?_,fun e=>r1 (hps.2 e).symm,fun e=>r2 (fun h=>hsame.2.1 e h.symm),fun e=>⟨ox,y,rfl,hj,hsame.2.2 e⟩⟩
  have:=(audR_I hfz (ms:=ox.m::l.map MV.m) (fun m hm=>by
   rcases List.mem_cons.1 hm with h|h
   ·rw[h];exact hvx
   ·exact hvU m h) (by rw[List.length_cons,hUl];omega)).1.vl
  rw[this,List.length_cons,hUl,List.length_cons]
section
variable (f:Frag) (F:List HP)
theorem auditForks_fn(htab:TabAt f){n8:UInt8}{p:Option Addr}{xs:List A15}(hat:ListAt f p 12 A15.vals xs)(hh:∀x∈xs,x.Has f)(hxl:xs.length≤9223372036854775807)(w8 v8:UInt8)(fr:Bool):Fn prog 6 [.int .u8 (n8.toNat:Nat),.slice p xs.length c,.int .u8 (w8.toNat:Nat),.int .u8 (v8.toNat:Nat),.bool fr] f F (Ret (.bool true) f F):=by
 have hfew:=few15_fn f F (c:=c) hat hxl
 cases hf:few15 xs with
 | false =>
  rw[hf]at hfew;refine Fn.e5 func6 ntmps6 fun base=>?_;refine qkm ?_;refine gX ?_;exact qdB
 | true =>
  rw[hf]at hfew;obtain⟨hl100,hq20⟩:=few15_all hf;by_cases h70:xs.length≤70
  ·obtain⟨n,hn8⟩:∃n,n=3+2*(n8.toNat % 5):=⟨_,rfl⟩;have hn3:3≤n∧n≤11:=jA
   have hfz:=fewz_odd hn8;have hv8:=v8.toNat_lt
   have hacts:=fun G=>acts15_fn f G hn8 (c:=c) hat (fun x hx=>⟨hh x hx,hq20 x hx⟩) hl100;have hinv:WOK n (world15 n xs).w.all:=by have:=(world15_inv hn3.1 hn3.2 xs xs.length jA).w.ok;rwa [List.take_length]at this
   have hwl:(world15 n xs).w.all.length≤70:=by have:=world15_len n xs xs.length;rw[List.take_length]at this;omega
   generalize world15 n xs=W15' at *;refine Fn.e5 func6 ntmps6 fun base=>?_;refine qkm ?_;refine gU ?_;refine H.cl (hacts _) fun v f' A' hr=>?_;obtain⟨g,wb,rfl,hd,rfl,rfl⟩:=hr;have le0:=Le.un f g;generalize un f g=f0 at *
   refine H.world15 fun g1 kb ap ac lb l hd1 hwat=>?_;have le1:=le0.trans (Le.un f0 g1);generalize un f0 g1=f1 at *
   have hta:=zbc htab le1;clear hacts hfew hd hd1
   have hlm:l.map MV.m=W15'.w.all:=hwat.m;rw[←hlm]at hinv hwl
   rw[List.length_map]at hwl;have hlg:=hwat.g;have hla:=hwat.a
   clear hwat;by_cases h0:l.length=0
   ·have h0:(l.length:Int)=0:=jA
    refine gN ?_;refine H.Af rfl rfl rfl (works29_fn f1 _ hta) ?_;refine gT ?_;refine H.pd (x:=row wb _ _) ?_;refine H.weakL le1 ?_;exact qam
   ·have h0':¬(l.length:Int)=0:=jA
    obtain⟨q,hq⟩:∃q,q=w8.toNat % l.length:=⟨_,rfl⟩;have hqN:q<l.length:=by rw[hq];exact Nat.mod_lt _ jA
    have hrem:((w8.toNat:Nat):Int).tmod (l.length:Int)=((q:Nat):Int):=zak (a:=w8.toNat) (b:=l.length) hq.symm;have hw8:=w8.toNat_lt
    obtain⟨y,hy⟩:∃y,l[q]?=some y:=⟨_,List.getElem?_eq_getElem hqN⟩;have hgy:=hlg y (List.mem_of_getElem? hy);obtain⟨ba,off,hap,rdA⟩:=hla.all MV.len jC jA
    have hsrc:∀G,Src prog f1 G (.slice ap l.length ac) 121 l.length (l.flatMap MV.vals):=fun G=>hla.src MV.len jC;subst hap
    refine gN ?_;refine qeH ?_;refine HB.qu [0,1,2,3,4,5,6,7,8,9,10,11,12,13] 2 ?_;refine gW ?_;refine HQ.rem (z:=((q:Nat):Int)) rfl rfl rfl jA hrem rfl ?_;skip;refine HQ.Ak (i:=q) rfl rfl rfl rfl hqN rfl ?_;refine HQ.Ab (ls:=y.vals) rfl rfl rfl (rdA _ _ _ _ (Le.refl _) hy) rfl rfl ?_;refine qel ?_;refine HB.ev 14 ?_;refine qfe fun mb=>?_;refine gA ?_;refine qfv ?_;refine qeM ?_;refine HB.ev 15 ?_;refine qgF ?_;refine gA ?_;refine qfv ?_;refine qeM ?_;refine HB.dn ?_;refine gA ?_;refine H.Ab (ls:=y.vals) rfl rfl rfl (Rd.ofRow jB) rfl rfl ?_;refine qfe fun ob=>?_;refine qgF ?_;repeat(first|(refine H.Ax (t:=52) (out:=(othB v8.toNat).vals none 0) rfl rfl rfl jD rfl ?_)|(refine gh ?_))
    refine H.Ag (ls:=y.vals) (vs:=(othB v8.toNat).vals none 0) (ls':=({y.m with body:=othB v8.toNat}:Msg).vals none 0) rfl rfl rfl (zaa rfl) rfl rfl (by show 89≤121;decide) jB ?_;refine gA ?_;refine H.Ab (ls:=({y.m with body:=othB v8.toNat}:Msg).vals none 0) rfl rfl rfl (Rd.ofRow jB) rfl rfl ?_;refine H.Af rfl rfl rfl (rtagged_fn f1 _ (m:={y.m with body:=othB v8.toNat}) (q:=none) (qc:=0) (QAt.nil _ none) (Nat.zero_le _)) ?_;obtain⟨ox,hoxd⟩:∃ox:MV,ox=⟨othM y.m v8.toNat,none,0⟩:=⟨_,rfl⟩;have hoxv:({y.m with body:=othB v8.toNat}:Msg).signed.vals none 0=ox.vals:=by rw[hoxd];rfl
    have hoxm:ox.m=othM y.m v8.toNat:=by rw[hoxd]
    have hob:=(othM_facts (hinv q y.m (by rw[List.getElem?_map,hy];rfl)).fits hv8).2.2.2.1
    have hgo:∀e,ox.Good e:=fun e=>by
     rw[hoxd];refine⟨?_,?_,?_⟩
     ·show QAt e none (othM y.m v8.toNat).body.q;rw[hob];exact QAt.nil _ none
     ·show(othM y.m v8.toNat).body.q.length≤_;rw[hob];exact Nat.zero_le _
     ·show(othM y.m v8.toNat).body.Ok;rw[hob];exact othB_ok hv8
    have hlaw:=fork_law hfz hinv (fun x hx=>(hlg x hx).2.2) hy hv8 jA hoxm;rw[hoxv]
    clear hoxv hoxm hoxd hob;refine H.Ag (ls:=({y.m with body:=othB v8.toNat}:Msg).vals none 0) (vs:=ox.vals) (ls':=ox.vals) rfl rfl rfl (zaa rfl) rfl rfl (Nat.le_refl 121) jB ?_;refine qfv ?_;refine qip ?_;refine gA ?_;refine tail2 (T:=?T) (fun tail=>?main) ?pf
    case main=>
     refine qgm ?_;refine HB.qu [1,2,3,4,6] 5 ?_;refine gR ?_;refine HQ.Ab (ls:=ox.vals) rfl rfl rfl (Rd.ofRow (.here _ _ _)) rfl rfl ?_;refine qel ?_;refine HB.ev2 (i:=0) (j:=7) jD rfl rfl ?_ ?_
     ·refine qhB fun eb=>?_;refine H.asSlc (k:=0) (sz:=121) rfl jC ?_;refine qga ?_;refine HB.ev2 (i:=5) (j:=7) jD rfl rfl ?_ ?_
      ·skip;refine H.Ar (sz:=121) (xs:=[]) (news:=l.flatMap MV.vals) (m:=l.length) rfl rfl rfl rfl rfl (fun p' c'=>jB) (hsrc _) (MVs_one l) rfl jA jA fun p3 c3=>?_;rw[List.nil_append,Nat.zero_add];refine qga ?_;refine HB.ev 7 ?_;refine qhs fun sb=>?_;exact qag
      ·refine qhs fun sb=>?_;exact qaX
     ·refine qhs fun sb=>?_;refine qga ?_;refine HB.ev 0 ?_;refine qhB fun eb=>?_;refine H.asSlc (k:=0) (sz:=121) rfl jC ?_;exact qaX
    case pf=>
     intro p4 c4;have hfl:l.flatMap MV.vals++ox.vals=(l++[ox]).flatMap MV.vals:=by rw[List.flatMap_append];simp
     cases fr with
     | false =>
      refine gc ?_;refine H.pf (x:=slc p4 _ _ _ _ _) ?_;rw[hfl];refine qkk fun g2 hg2 hd2=>?_;obtain⟨ml,hmld⟩:∃ml,ml=l++[ox]:=⟨_,rfl⟩;obtain⟨a,b,hR⟩:∃a b,FkR (audR n (ml.map MV.m)) ml a b y.m (Msg.eqB y.m ox.m):=⟨_,_,hlaw ml q l.length (.inl ⟨hmld,rfl,rfl⟩)⟩;have hml1:ml.length=l.length+1:=by rw[hmld];simp
      have hgm:∀z∈ml,z.Good f1:=fun z hz=>by
       rw[hmld]at hz;rcases List.mem_append.1 hz with h|h
       ·exact hlg z h
       ·rw[List.mem_singleton.1 h];exact hgo f1
      rw[←hmld,←hml1]at hg2;have hat2:ListAt (un f1 g2) p4 121 MV.vals ml:=(zbi MV.len hg2).mono (Le.right hd2);have le2:=le1.trans (Le.un f1 g2)
      have hgy2:=hgy.mono (Le.un f1 g2);have hg3:∀z∈ml,z.Good (un f1 g2):=fun z hz=>(hgm z hz).mono (Le.un f1 g2)
      clear hg2 hd2 hgm hlaw hla hsrc rdA hlg hmld hfl;generalize un f1 g2=f2 at *;have hta2:=zbc htab le2;have hrun:=fun G=>audRun_fn f2 G hta2 hfz (c:=c4) hat2 hg3 jA
      have hno:Msg.eqB y.m ox.m=false→∀e,Le f2 e→∀G,Fn prog 12 [.int .i64 (n:Nat),.slice p4 ml.length c4,.int .i64 1] e G (PrvN e G):=fun hne e he G=>prove_no e G (zbc hta2 he) hfz (c:=c4) (hat2.mono he) (fun z hz=>(hg3 z hz).mono he) jA (t:=1) (fun h=>by
       have h1:=h.1;rw[(hR.no hne).1]at h1
       cases h1)
      have hwk:=fun e (he:Le f2 e) G=>works29_fn e G (zbc hta2 he);have hsm:∀e,Le f2 e→∀G,Fn prog 15 [.agg y.vals.toArray,.agg ox.vals.toArray] e G (Ret (.bool (Msg.eqB y.m ox.m)) e G):=fun e he G=>rsameM_fn e G (hgy2.mono he) (hgo e)
      unfold RunP repA repC at hrun;generalize audR n (ml.map MV.m)=R at *;generalize Msg.eqB y.m ox.m=sm at *;obtain⟨hab,hvl,hyes,hnoo,hun⟩:=hR;rw[hml1]at hrun hno hvl hab;generalize knownS (strm R.M)=kn at *;generalize(decB R.l).1=dv at *;generalize decL R.l=D at *;rw[hvl]at hrun;try rw[hml1]
      skip;refine H.cl (hrun _) fun v f' A' hr=>?_;obtain⟨g3,vp,vc,fp,fc,dp,dc,hd3,rfl,rfl,rfl⟩:=hr;have le3:=Le.un f2 g3;clear hrun hd3
      generalize un f2 g3=f3 at *;refine qgO fun rb=>?_;refine qfm ?_
      cases sm with
      | true =>
       exact qaN
      | false =>
       exact qaa
     | true =>
      refine gD ?_;refine qfv ?_;refine qip ?_;refine qgm ?_;refine HB.qu [0,2,3,4,5] 3 ?_;skip;refine HQ.Ab (ls:=ox.vals) rfl rfl rfl (Rd.ofRow (.here _ _ _)) rfl rfl ?_;refine qfu ?_;refine HB.ev 1 ?_;refine qhs fun sb=>?_;refine H.asSlc (k:=1) (sz:=121) rfl jC ?_;refine qga ?_;refine HB.ev 6 ?_;refine H.Ar (sz:=121) (xs:=ox.vals) (news:=l.flatMap MV.vals) (m:=l.length) rfl rfl rfl rfl rfl (fun p' c'=>jB) (hsrc _) (MVs_one l) rfl jA jA fun p5 c5=>?_;refine qga ?_;refine HB.qu [7] 0 ?_;refine qgq ?_;have hfl2:ox.vals++l.flatMap MV.vals=(ox::l).flatMap MV.vals:=rfl;rw[hfl2]
      refine H.pd (x:=slc p4 _ _ _ _ _) ?_;refine H.pf (x:=slc p5 _ _ _ _ _) ?_;refine qkk fun g2 hg2 hd2=>?_;obtain⟨ml,hmld⟩:∃ml,ml=ox::l:=⟨_,rfl⟩;obtain⟨a,b,hR⟩:∃a b,FkR (audR n (ml.map MV.m)) ml a b y.m (Msg.eqB y.m ox.m):=⟨_,_,hlaw ml 0 (q+1) (.inr ⟨hmld,rfl,rfl⟩)⟩;have hml1:ml.length=1+l.length:=by rw[hmld,List.length_cons];omega
      have hgm:∀z∈ml,z.Good f1:=fun z hz=>by
       rw[hmld]at hz;rcases List.mem_cons.1 hz with h|h
       ·rw[h];exact hgo f1
       ·exact hlg z h
      rw[←hmld,←hml1]at hg2;have hat2:ListAt (un f1 g2) p5 121 MV.vals ml:=(zbi MV.len hg2).mono (Le.right hd2);obtain⟨p4,hp4⟩:∃q,q=p5:=⟨_,rfl⟩
      obtain⟨c4,hc4⟩:∃q,q=c5:=⟨_,rfl⟩;rw[←hp4,←hc4,←hml1];rw[←hp4]at hat2;have hml1:ml.length=l.length+1:=jA
      have le2:=le1.trans (Le.un f1 g2);have hgy2:=hgy.mono (Le.un f1 g2)
      have hg3:∀z∈ml,z.Good (un f1 g2):=fun z hz=>(hgm z hz).mono (Le.un f1 g2);clear hg2 hd2 hgm hlaw hla hsrc rdA hlg hmld hfl
      generalize un f1 g2=f2 at *;have hta2:=zbc htab le2;have hrun:=fun G=>audRun_fn f2 G hta2 hfz (c:=c4) hat2 hg3 jA
      have hno:Msg.eqB y.m ox.m=false→∀e,Le f2 e→∀G,Fn prog 12 [.int .i64 (n:Nat),.slice p4 ml.length c4,.int .i64 1] e G (PrvN e G):=fun hne e he G=>prove_no e G (zbc hta2 he) hfz (c:=c4) (hat2.mono he) (fun z hz=>(hg3 z hz).mono he) jA (t:=1) (fun h=>by
       have h1:=h.1;rw[(hR.no hne).1]at h1
       cases h1)
      have hwk:=fun e (he:Le f2 e) G=>works29_fn e G (zbc hta2 he);have hsm:∀e,Le f2 e→∀G,Fn prog 15 [.agg y.vals.toArray,.agg ox.vals.toArray] e G (Ret (.bool (Msg.eqB y.m ox.m)) e G):=fun e he G=>rsameM_fn e G (hgy2.mono he) (hgo e)
      unfold RunP repA repC at hrun;generalize audR n (ml.map MV.m)=R at *;generalize Msg.eqB y.m ox.m=sm at *;obtain⟨hab,hvl,hyes,hnoo,hun⟩:=hR;rw[hml1]at hrun hno hvl hab;generalize knownS (strm R.M)=kn at *;generalize(decB R.l).1=dv at *;generalize decL R.l=D at *;rw[hvl]at hrun;try rw[hml1]
      refine gF ?_;refine H.cl (hrun _) fun v f' A' hr=>?_;obtain⟨g3,vp,vc,fp,fc,dp,dc,hd3,rfl,rfl,rfl⟩:=hr;have le3:=Le.un f2 g3;clear hrun hd3
      generalize un f2 g3=f3 at *;refine qgO fun rb=>?_;refine qfm ?_
      cases sm with
      | true =>
       exact qaN
      | false =>
       exact qaa
  ·skip;refine Fn.e5 func6 ntmps6 fun base=>?_;refine qkm ?_;refine gU ?_;exact qdB
end
end Go.Proofs.YtkaknokcbhiigaaGreatDoor

namespace Go.Proofs.YtkaknokcbhiigaaGreatDoor
open Go Go.Proofs.Tryz Go.ChangeShapes Go.WideShapes Go.RowKit Go.Deep
theorem and_t{a b:Bool}(ha:a=true)(hb:b=true):(a&&b)=true:=by rw[ha,hb];rfl
theorem Tryz.own:ownKnob prog.godebug=none:=by kernel_rfl
theorem Tryz.laidOut:laidOutB prog=true:=by kernel_rfl
abbrev laidL : List (String × DataW Unit) := [("ratchet/sha.table", Rows.laid_ratchet_sha_table)]
theorem door_met(os:Os)(args:Array Value):laidMetH prog laidL ((World.doorLaid prog 400 os).forCall (fun _ _=>0) ⟨#[],args,[]⟩).memory:=
 laidMetH_of_parts3 (fuel:=8) (laidMet_of_run' 8 jD jD) jD jD
theorem tab_eq:(Rows.laid_ratchet_sha_table:DataW Unit)= .agg ((Sha.k.map fun x=>((x.toNat:Nat):Int)).map fun z=>.lit (.int .u32 z)):=by kernel_rfl
theorem tab_of{W:World}(h:laidMetH prog laidL W):TabAt (memOf W):=by
 have h2 : laidMetH prog [("ratchet/sha.table", .agg ((Sha.k.map fun x => ((x.toNat : Nat) : Int)).map fun z => .lit (.int .u32 z)))] W := by rw [← tab_eq]; exact h
 exact laid_ints h2 jD jD (t:=235) (e:=183) underlying235 underlying183 jD
end Go.Proofs.YtkaknokcbhiigaaGreatDoor
