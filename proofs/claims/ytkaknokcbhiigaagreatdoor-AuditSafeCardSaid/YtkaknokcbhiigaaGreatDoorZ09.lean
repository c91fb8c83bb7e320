/- Parts of the proof. No conditions. -/
import Derived.Test.YtkaknokcbhiigaaGreatDoorZ08
set_option linter.unusedSectionVars false
set_option linter.unusedSimpArgs false
set_option linter.unusedVariables false
set_option maxHeartbeats 6400000
set_option maxRecDepth 20000
namespace Go.Proofs.YtkaknokcbhiigaaGreatDoor
open Go Go.Proofs.Tryz
variable {f:Frag} {n:Nat} {l:List MV}
theorem lore_upJ{g:Frag}(h:Le f g){lb:Nat}{A:List HP}:∀x,stars (loreH f lb n l::A) x→stars (loreH g lb n l::A) x:=fun _ ⟨h1,h2,hd,he,ha,hr⟩=>⟨h1,h2,hd,he,loreH_mono h _ ha,hr⟩
structure Frk where
 o:Int
 num:Int
 a:Nat
 b:Nat
def fkV(x:Frk):List Value:=[.int .i64 x.o,.int .u64 x.num,.int .i64 (x.a:Nat),.int .i64 (x.b:Nat)]
def vdV(v:Nat):List Value:=[.int .u8 (v:Nat)]
theorem vdV_len(v:Nat):(vdV v).length=1:=rfl
def nV(v:Nat):List Value:=[.int .i64 (v:Nat)]
theorem nV_len(v:Nat):(nV v).length=1:=rfl
structure AuM where
 M:List Msg
 l:Lgs
 vd:List Nat
 fk:List Frk
 tk:List Nat
def AuM.meet(n:Nat)(m:Msg)(i:Nat)(A:AuM):AuM×Bool:=
 if chk n (strm A.M) m=1 then({A with vd:=A.vd.set i 1},true)
 else if chk n (strm A.M) m=0 then({A with M:=A.M++[m],l:=(A.l.take m).2,vd:=A.vd.set i (if(A.l.take m).1.1=true then 6 else 5),tk:=A.tk++[i]},true)
 else(A,false)
def AuM.passTo(n:Nat)(ms:List Msg)(A:AuM):Nat→AuM×Bool
 |0=>(A,false)
 | k + 1 => match ms[k]? with
  |none=>A.passTo n ms k
  |some m=>if(A.passTo n ms k).1.vd[k]?=some 0 then(((A.passTo n ms k).1.meet n m k).1,(A.passTo n ms k).2||((A.passTo n ms k).1.meet n m k).2)else A.passTo n ms k
def auC(n:Nat)(ap:Option Addr)(m c lo lg:Nat)(vp:Option Addr)(vl vc:Nat)(fp:Option Addr)(fl fc:Nat)(tp:Option Addr)(tl tc:Nat):List Value:=
 [.int .i64 (n:Nat),.slice ap m c,.pointer (some ⟨lo,0,none⟩),.pointer (some ⟨lg,0,none⟩),.slice vp vl vc,.slice fp fl fc]++v11 (fun _=>0)++[.slice none 0 0,.int .u64 0,.slice tp tl tc]
structure AuP where
 lo:Nat
 lg:Nat
 L:List MV
 fp:Option Addr
 fc:Nat
 tp:Option Addr
 tc:Nat
def auB(fl:Frag)(ab n:Nat)(ap:Option Addr)(m c:Nat)(vp:Option Addr)(vc:Nat)(A:AuM)(i:AuP):List HP:=
 [row ab 82 (auC n ap m c i.lo i.lg vp A.vd.length vc i.fp A.fk.length i.fc i.tp A.tk.length i.tc),slc vp A.vd.length vc 56 1 (A.vd.flatMap vdV),slc i.fp A.fk.length i.fc 68 4 (A.fk.flatMap fkV),slc i.tp A.tk.length i.tc 3 1 (A.tk.flatMap nV),loreH fl i.lo n i.L,plogH fl i.lg A.l]
def auH(fl:Frag)(ab n:Nat)(ap:Option Addr)(m c:Nat)(vp:Option Addr)(vc:Nat)(A:AuM):HP:=pack (fun i:AuP=>i.L.map MV.m=A.M) (auB fl ab n ap m c vp vc A)
variable {fl:Frag} {F:List HP} {ab c vc:Nat} {ap vp:Option Addr} {A:AuM}
theorem zce{m:Nat}(i:AuP)(h:i.L.map MV.m=A.M):∀x,stars (auB fl ab n ap m c vp vc A i++F) x→stars (auH fl ab n ap m c vp vc A::F) x:=fun x hx=>pack_fold (φ:=fun i:AuP=>i.L.map MV.m=A.M) (B:=auB fl ab n ap m c vp vc A) i h x hx
structure AuI(n N:Nat)(A:AuM):Prop where
 n3:3≤n∧n≤11
 odd:n % 2=1
 ln:A.l.n=n
 vl:A.vd.length=N
 nl:N≤4096
 li:LI A.l A.M.length
 ni:NI A.l
 ml:A.M.length≤20000
 tl:A.tk.length≤20000
def nwM(n N:Nat):AuM:=⟨[],Lgs.new n,List.replicate N 0,[],[]⟩
variable {vd:List Nat}
theorem vd_set{i:Nat}(h:i<vd.length)(v:Nat):SetV (vd.flatMap vdV) (i*1) (.int .u8 (v:Nat)) ((vd.set i v).flatMap vdV):=by
 have e:∀l:List Nat,l.flatMap vdV=l.map fun z:Nat=>Value.int .u8 (z:Nat):=fun l=>by
  induction l with
  |nil=>rfl
  |cons x r ih=>rw[List.flatMap_cons,ih];rfl
 rw[Nat.mul_one,e,e,List.map_set];exact SetV.mk _ (by rw[List.length_map];exact h)
def MeetP(f:Frag)(F:List HP)(ab n:Nat)(ap:Option Addr)(m c:Nat)(vp:Option Addr)(vc:Nat)(R:AuM×Bool):Value→Frag→List HP→Prop:=fun v f' A'=>∃g,Dj f g∧v= .bool R.2∧f'=un f g∧A'=auH f' ab n ap m c vp vc R.1::F
variable {ml:List MV}
section
variable (f:Frag) (F:List HP)
theorem meet_fn(htab:TabAt f)(hfl:Le fl f)(hat:ListAt f ap 121 MV.vals ml)(hg:∀x∈ml,x.Good f)(hI:AuI n ml.length A){k:Nat}{x:MV}(hx:ml[k]?=some x):Fn prog 75 [.pointer (some ⟨ab,0,none⟩),.int .i64 (k:Int)] f (auH fl ab n ap ml.length c vp vc A::F) (MeetP f F ab n ap ml.length c vp vc (A.meet n x.m k)):=by
 have hkl:k<ml.length:=(List.getElem?_eq_some_iff.1 hx).1;have hxg:=hg x (List.mem_of_getElem? hx)
 have hNl:=hI.nl;have hvl:=hI.vl
 obtain⟨ba,off,rfl,rdA⟩:=hat.all MV.len jC jA;refine qjX fun i hi=>?_;obtain⟨lo,lg,L,fp,fc,tp,tc⟩:=i;have hi:L.map MV.m=A.M:=hi;have hLl:L.length=A.M.length:=by rw[←hi,List.length_map]
 have hadd:=fun G=>ladd_fn f G htab hfl (lb:=lo) (n:=n) (l:=L) (x:=x) hxg (by have:=hI.ml;omega);unfold AddP at hadd
 rw[hi]at hadd;have hmt:A.meet n x.m k=if chk n (strm A.M) x.m=1 then({A with vd:=A.vd.set k 1},true)else if chk n (strm A.M) x.m=0 then({A with M:=A.M++[x.m],l:=(A.l.take x.m).2,vd:=A.vd.set k (if(A.l.take x.m).1.1=true then 6 else 5),tk:=A.tk++[k]},true)else(A,false):=rfl
 generalize chk n (strm A.M) x.m=ck at *;show Fn _ _ _ f (row ab 82 (auC n (some ⟨ba,off,none⟩) ml.length c lo lg vp A.vd.length vc fp A.fk.length fc tp A.tk.length tc)::slc vp A.vd.length vc 56 1 (A.vd.flatMap vdV)::slc fp A.fk.length fc 68 4 (A.fk.flatMap fkV)::slc tp A.tk.length tc 3 1 (A.tk.flatMap nV)::loreH fl lo n L::plogH fl lg A.l::F) _;refine Fn.e2 func75 ntmps75 fun base=>?_;refine gF ?_;refine qiR ?_;refine qfY fun mb=>?_;refine qf ?_;refine qjB ?_;refine qgu ?_;refine HB.qu [0,1,2,3,4] 1 ?_;refine qfu ?_;refine qiO ?_;refine H.cl (hadd _) fun v f' A' hr=>?_;obtain⟨g,qp,qc,rfl,hd,rfl,rfl⟩:=hr;have hup:=Le.un f g;have hxg2:=hxg.mono hup
 have hta:=zbg htab hup;have hfl2:=hfl.trans hup
 have hdj:=hd;clear hd hadd
 generalize hf2:un f g=f2 at *;have hf2:=hf2.symm;refine qjB ?_
 refine H.on [] hup rfl ?_;refine HB.dn ?_;refine H.Au (p:=vp) (n0:=A.vd.length) (c:=vc) (T:=56) (sz:=1) (xs:=A.vd.flatMap vdV) jB jA fun sv hp=>?_;subst hp;by_cases h1:ck=1
 ·rw[if_neg jA];rw[if_pos h1]at hmt;subst h1;rw[hmt];refine gR ?_;refine qgK ?_;refine H.Az rfl rfl rfl rfl jB (by rw[Nat.zero_add];exact vd_set (vd:=A.vd) (i:=k) jA 1) ?_;refine qhh ?_;refine qgA ?_;refine H.imp (plog_up hfl2) ?_;refine qeE ?_;have hle:A.vd.length=(A.vd.set k 1).length:=by rw[List.length_set]
  rw[hle];refine H.imp (zce (A:={A with vd:=A.vd.set k 1}) ⟨lo,lg,L,fp,fc,tp,tc⟩ hi) ?_;exact qcY
 ·rw[if_neg h1]at hmt;by_cases h0:ck=0
  ·rw[if_pos h0]at hmt⊢;subst h0;have htk0:=hI.li;have htake:=fun e (he:Le f2 e) G=>pltakeA_fn e G (zbg hta he) (lb:=lg) (hfl2.trans he) hI.li (by have:=hI.ml;omega) hI.ni (by rw[hI.ln];exact hI.odd) (hxg2.mono he)
   have htake:=fun G=>htake f2 (Le.refl _) G;have htl:=hI.tl
   have hls:(A.vd.set k 5).length=A.vd.length:=List.length_set;have hss:(A.vd.set k 5).set k 6=A.vd.set k 6:=List.set_set ..
   refine gR ?_;refine H.Aq (out:=nV k) rfl rfl rfl rfl jC jC rfl rfl fun eb=>?_;refine H.Av (sz:=1) (p:=tp) (n0:=A.tk.length) (c:=tc) (xs:=A.tk.flatMap nV) (m:=1) (news:=nV k) rfl rfl rfl rfl rfl (fun p' c'=>jB) (Src.slice (Rd.ofRow jB) rfl) (zaa rfl) rfl jA jA fun p2 c2=>?_;refine qgJ ?_;refine gR ?_;refine qgK ?_;refine H.Az rfl rfl rfl rfl jB (by rw[Nat.zero_add];exact vd_set (vd:=A.vd) (i:=k) jA 5) ?_;refine qjB ?_;refine qgu ?_;refine HB.qu [0,1,2,3,4] 6 ?_;refine qkT ?_;refine qeg ?_;refine HB.qu [6,7,8,9,10] 0 ?_;refine qfh ?_;have e2:A.tk.length+1=(A.tk++[k]).length:=by rw[lnA];rfl
   have e3:A.tk.flatMap nV++nV k=(A.tk++[k]).flatMap nV:=by rw[List.flatMap_append];rfl
   cases hb:(A.l.take x.m).1.1 with
   | false =>
    rw[hb,if_neg jC]at hmt;rw[hmt];have e1:A.vd.length=(A.vd.set k 5).length:=List.length_set.symm;refine gW ?_
    refine qeH ?_;refine qfd ?_;refine H.pf (x:=slc p2 _ _ 3 _ _) ?_;refine qhN ?_;rw[e1,e2,e3];refine H.imp (zce (A:={A with M:=A.M++[x.m],l:=(A.l.take x.m).2,vd:=A.vd.set k 5,tk:=A.tk++[k]}) ⟨lo,lg,L++[⟨x.m,qp,qc⟩],fp,fc,p2,c2⟩ (by rw[List.map_append,hi];rfl)) ?_;exact qcY
   | true =>
    rw[hb,if_pos rfl]at hmt;rw[hmt];have e1:A.vd.length=(A.vd.set k 6).length:=List.length_set.symm;refine gU ?_
    refine qgK ?_;refine H.Az rfl rfl rfl rfl jB (by rw[Nat.zero_add];exact vd_set (vd:=A.vd.set k 5) (i:=k) jA 6) ?_;refine qhh ?_;refine qfd ?_;refine H.pf (x:=slc p2 _ _ 3 _ _) ?_;refine qhN ?_;rw[hss,e1,e2,e3];refine H.imp (zce (A:={A with M:=A.M++[x.m],l:=(A.l.take x.m).2,vd:=A.vd.set k 6,tk:=A.tk++[k]}) ⟨lo,lg,L++[⟨x.m,qp,qc⟩],fp,fc,p2,c2⟩ (by rw[List.map_append,hi];rfl)) ?_;exact qcY
  ·rw[if_neg h0]at hmt⊢;rw[hmt];refine gc ?_;refine qeH ?_;refine qgA ?_;refine H.imp (plog_up hfl2) ?_;refine qiS ?_;exact qcY
theorem AuI.meet{n N:Nat}{A:AuM}(h:AuI n N A){m:Msg}(hv:0≤m.body.view)(k:Nat)(hM:A.M.length<20000)(hT:A.tk.length<20000):AuI n N (A.meet n m k).1∧(A.meet n m k).1.M.length≤A.M.length+1∧(A.meet n m k).1.tk.length≤A.tk.length+1∧(A.meet n m k).1.fk=A.fk:=by
 unfold AuM.meet;split
 ·exact⟨⟨h.n3,h.odd,h.ln,by show(A.vd.set k 1).length=N;rw[List.length_set];exact h.vl,h.nl,h.li,h.ni,h.ml,h.tl⟩,Nat.le_succ _,Nat.le_succ _,rfl⟩
 ·split
  ·refine⟨⟨h.n3,h.odd,by show(A.l.take m).2.n=n;rw[Lgs.take_n];exact h.ln,by show(A.vd.set k _).length=N;rw[List.length_set];exact h.vl,h.nl,by show LI _ (A.M++[m]).length;rw[lnA];exact h.li.take hv,h.ni.take m,by show(A.M++[m]).length≤_;rw[lnA];show _+1≤_;omega,by show(A.tk++[k]).length≤_;rw[lnA];show _+1≤_;omega⟩,by show(A.M++[m]).length≤_;rw[lnA];exact Nat.le_refl _,by show(A.tk++[k]).length≤_;rw[lnA];exact Nat.le_refl _,rfl⟩
  ·exact⟨h,Nat.le_succ _,Nat.le_succ _,rfl⟩
theorem AuI.passTo{n N:Nat}{A:AuM}(h:AuI n N A){ms:List Msg}(hv:∀m∈ms,0≤m.body.view):∀k,A.M.length+k<20000→A.tk.length+k<20000→AuI n N (A.passTo n ms k).1∧(A.passTo n ms k).1.M.length≤A.M.length+k∧(A.passTo n ms k).1.tk.length≤A.tk.length+k∧(A.passTo n ms k).1.fk=A.fk
 |0,_,_=>⟨h,Nat.le_refl _,Nat.le_refl _,rfl⟩
 | k + 1, h1, h2 => by
  obtain⟨i1,i2,i3,i4⟩:=AuI.passTo h hv k jA jA
  unfold AuM.passTo
  cases hm:ms[k]? with
  |none=>exact⟨i1,by show(A.passTo n ms k).1.M.length≤_;omega,by show(A.passTo n ms k).1.tk.length≤_;omega,i4⟩
  | some m =>
   show AuI n N (if _ then _ else _:AuM×Bool).1∧_
   split
   ·obtain⟨j1,j2,j3,j4⟩:=i1.meet (hv m (List.mem_of_getElem? hm)) k jA jA
    exact⟨j1,by show((A.passTo n ms k).1.meet n m k).1.M.length≤_;omega,by show((A.passTo n ms k).1.meet n m k).1.tk.length≤_;omega,j4.trans i4⟩
   ·exact⟨i1,by show(A.passTo n ms k).1.M.length≤_;omega,by show(A.passTo n ms k).1.tk.length≤_;omega,i4⟩
theorem pass_fn(htab:TabAt f)(hfl:Le fl f)(hat:ListAt f ap 121 MV.vals ml)(hg:∀x∈ml,x.Good f)(hI:AuI n ml.length A)(hM:A.M.length+ml.length<20000)(hT:A.tk.length+ml.length<20000):Fn prog 41 [.pointer (some ⟨ab,0,none⟩)] f (auH fl ab n ap ml.length c vp vc A::F) (MeetP f F ab n ap ml.length c vp vc (A.passTo n (ml.map MV.m) ml.length)):=by
 have hvw:∀m∈ml.map MV.m,0≤m.body.view:=fun m hm=>by
  exact qcm
 have hNl:=hI.nl;have hvl:=hI.vl
 refine qjX fun i hi=>?_;obtain⟨lo,lg,L,fp,fc,tp,tc⟩:=i;refine qgr ?_;refine Fn.e1 func41 ntmps41 fun base=>?_;refine gM ?_;refine qgA ?_;refine H.imp (plog_up hfl) ?_;refine qiO ?_;refine H.imp (lore_upJ hfl) ?_;refine qgA ?_;refine qiS ?_
 refine H.loop (ι:=Nat×Frag) (fun s=>[(11,.int .i64 (s.1:Int)),(10,.int .i64 (ml.length:Nat)),(9,.slice vp ml.length vc),(2,.bool (A.passTo n (ml.map MV.m) s.1).2),(0,.pointer (some ⟨ab,0,none⟩))]) (fun s=>un f s.2)
  (fun s=>auH (un f s.2) ab n ap ml.length c vp vc (A.passTo n (ml.map MV.m) s.1).1::F) (fun s=>s.1≤ml.length∧Dj f s.2) (fun s=>ml.length-s.1)
  (0,nil0) ⟨Nat.zero_le _,Dj.nil _⟩ ⟨rfl,by show _=some (Value.int .i64 (ml.length:Nat));rw[←hvl];rfl,by show _=some (Value.slice vp ml.length vc);rw[←hvl];rfl,rfl,rfl,trivial⟩ (un_nil _).symm (by show auH f ab n ap ml.length c vp vc A::F=auH (un f nil0) ab n ap ml.length c vp vc A::F;rw[un_nil]) fun s hs=>?_
 obtain⟨k,g⟩:=s;obtain⟨hk,hd⟩:k≤ml.length∧Dj f g:=hs;show H _ _ _ [(11,.int .i64 (k:Int)),_,_,(2,.bool (A.passTo n (ml.map MV.m) k).2),_] (un f g) (auH (un f g) ab n ap ml.length c vp vc (A.passTo n (ml.map MV.m) k).1::F) _;obtain⟨hIk,hMk,hTk,_⟩:=hI.passTo hvw k jA jA;by_cases hkl:k<ml.length
 ·obtain⟨x,hx⟩:∃x,ml[k]?=some x:=⟨_,lgE hkl⟩;have hxm:(ml.map MV.m)[k]?=some x.m:=by rw[List.getElem?_map,hx];rfl
  have hps:A.passTo n (ml.map MV.m) (k+1)=if(A.passTo n (ml.map MV.m) k).1.vd[k]?=some 0 then(((A.passTo n (ml.map MV.m) k).1.meet n x.m k).1,(A.passTo n (ml.map MV.m) k).2||((A.passTo n (ml.map MV.m) k).1.meet n x.m k).2)else A.passTo n (ml.map MV.m) k:=qdv
  have hmeet:=fun G=>meet_fn (un f g) G (zbg htab (Le.un f g)) (Le.refl _) (ab:=ab) (ap:=ap) (c:=c) (vp:=vp) (vc:=vc) (hat.mono (Le.un f g)) (fun y hy=>(hg y hy).mono (Le.un f g)) hIk hx;have hvk:=hIk.vl
  obtain⟨z,hz⟩:∃z,(A.passTo n (ml.map MV.m) k).1.vd[k]?=some z:=⟨_,lgE jA⟩;rw[hz]at hps;generalize A.passTo n (ml.map MV.m) k=B at *;refine H.Bz fun j hj=>?_;obtain⟨lo,lg,L,fp,fc,tp,tc⟩:=j;have hj:L.map MV.m=B.1.M:=hj;show H _ _ _ _ _ (row ab 82 (auC n ap ml.length c lo lg vp B.1.vd.length vc fp B.1.fk.length fc tp B.1.tk.length tc)::slc vp B.1.vd.length vc 56 1 (B.1.vd.flatMap vdV)::slc fp B.1.fk.length fc 68 4 (B.1.fk.flatMap fkV)::slc tp B.1.tk.length tc 3 1 (B.1.tk.flatMap nV)::loreH (un f g) lo n L::plogH (un f g) lg B.1.l::F) _
  refine qjx fun sv hp=>?_;subst hp;have hrd:∀ {G:List HP} {x0:HP},Rd1 (un f g) (x0::slc (some ⟨sv,0,none⟩) B.1.vd.length vc 56 1 (B.1.vd.flatMap vdV)::G) sv (k*1) (.int .u8 (z:Nat)):=fun {G x0}=>Rd1.of (i:=0) (Rd.slcElem (vals:=vdV) (xs:=B.1.vd) vdV_len jC at1 hz) rfl;by_cases hz0:z=0
  ·subst hz0;rw[if_pos rfl]at hps;refine qfO ?_;refine gO ?_;refine H.imp (zce (A:=B.1) ⟨lo,lg,L,fp,fc,tp,tc⟩ hj) ?_;refine H.cl (hmeet _) fun v f' A' hr=>?_;obtain⟨g2,hd2,rfl,rfl,rfl⟩:=hr;generalize B.1.meet n x.m k=C at *
   cases hb:C.2 with
   | true =>
    have hb2:(A.passTo n (ml.map MV.m) (k+1)).2=true:=by rw[hps];show(B.2||C.2)=true;rw[hb,Bool.or_true]
    exact qaH
   | false =>
    have hb2:(A.passTo n (ml.map MV.m) (k+1)).2=B.2:=by rw[hps];show(B.2||C.2)=B.2;rw[hb,Bool.or_false]
    exact qaH
  ·rw[if_neg (by intro h;exact hz0 (Option.some.inj h))]at hps;have hz1:¬((z:Nat):Int)=0:=jA
   refine qfO ?_;refine gX ?_;refine H.imp (zce (A:=B.1) ⟨lo,lg,L,fp,fc,tp,tc⟩ hj) ?_;exact H.Ar (k+1,g) ⟨by show k+1≤ml.length;omega,hd⟩ jS ⟨rfl,rfl,jh,(by show _=some (Value.bool (A.passTo n (ml.map MV.m) (k+1)).2);rw[hps];rfl),rfl,trivial⟩ rfl (by show auH (un f g) ab n ap ml.length c (some ⟨sv,0,none⟩) vc B.1::F=auH (un f g) ab n ap ml.length c (some ⟨sv,0,none⟩) vc (A.passTo n (ml.map MV.m) (k+1)).1::F;rw[hps])
 ·have e:k=ml.length:=jA
  subst e;refine gc ?_;exact H.r1 ⟨g,hd,rfl,rfl,rfl⟩
end
def auZero(n:Nat)(ap:Option Addr)(m c:Nat):List Value:=
 [.int .i64 (n:Nat),.slice ap m c,.pointer none,.pointer none,.slice none 0 0,.slice none 0 0]++v11 (fun _=>0)++[.slice none 0 0,.int .u64 0,.slice none 0 0]
def BegP(f:Frag)(F:List HP)(n:Nat)(ap:Option Addr)(N c:Nat):Value→Frag→List HP→Prop:=fun v f' A'=>∃(g:Frag) (ab:Nat) (vp:Option Addr),Dj f g∧v= .tuple #[.pointer (some ⟨ab,0,none⟩),.int .i64 0]∧f'=un f g∧A'=auH f' ab n ap N c vp N (nwM n N)::F
variable {N:Nat}
theorem nwM_I(h3:3≤n∧n≤11)(ho:n % 2=1)(hN:N≤4096):AuI n N (nwM n N):=
 ⟨h3,ho,rfl,List.length_replicate,hN,LI.new h3.1 h3.2,NI.new n,Nat.zero_le _,Nat.zero_le _⟩
theorem vd_zeros(N:Nat):zeros [.int .u8 0] N=(List.replicate N 0).flatMap vdV:=by
 induction N with
 |zero=>rfl
 | succ N ih =>
  show [Value.int .u8 0]++zeros [.int .u8 0] N=vdV 0++(List.replicate N 0).flatMap vdV;rw[ih];rfl
section
variable (f:Frag) (F:List HP)
theorem begin_fn(hfz:fewZ (n:Int))(hN:N≤4096):Fn prog 20 [.int .i64 (n:Nat),.slice ap N c] f F (BegP f F n ap N c):=by
 refine Fn.e2 func20 ntmps20 fun base=>?_;repeat(first|(refine H.Ay (t:=82) (out:=auZero n ap N c) rfl rfl rfl jE rfl ?_)|(refine gh ?_))
 refine H.box (ls:=auZero n ap N c) rfl rfl rfl rfl fun ab=>?_;refine gI ?_;refine H.callE rfl rfl rfl (lnew_fn f _ (n:=n) hfz) fun lo=>?_;refine gX ?_;refine H.Ap rfl rfl rfl (plnew_fn f _ (n:=n) hfz) fun v f' A' hr=>?_;obtain⟨g,lg,hd,rfl,rfl,rfl⟩:=hr;refine gX ?_;refine H.makeS (m:=N) (zs:=[.int .u8 0]) rfl rfl rfl rfl rfl rfl rfl jC jA jA rfl fun vb=>?_;rw[vd_zeros];refine H.asSlc (k:=N) (sz:=1) (by rw[←vd_zeros,zeros_length];exact Nat.mul_comm 1 N▸rfl) jA ?_;refine gR ?_;refine H.slc0 68 4 ?_;refine H.slc0 3 1 ?_;refine qfd ?_;refine H.imp (lore_upJ (Le.un f g)) ?_;refine H.pf (x:=slc none 0 0 3 1 []) ?_;refine H.pf (x:=slc none 0 0 68 4 []) ?_;refine H.pf (x:=slc (some ⟨vb,0,none⟩) _ _ _ _ _) ?_;refine qeV ?_;have hNl:(nwM n N).vd.length=N:=List.length_replicate
 refine H.imp (A':=auH (un f g) ab n ap N c (some ⟨vb,0,none⟩) N (nwM n N)::F) (fun x hx=>zce (fl:=un f g) (ab:=ab) (n:=n) (ap:=ap) (m:=N) (c:=c) (vp:=some ⟨vb,0,none⟩) (vc:=N) (A:=nwM n N) ⟨lo,lg,[],none,0,none,0⟩ rfl x (by
  show stars (row ab _ (auC n ap N c lo lg (some ⟨vb,0,none⟩) (nwM n N).vd.length N none 0 0 none 0 0)::slc (some ⟨vb,0,none⟩) (nwM n N).vd.length N _ 1 _::_) x;rw[hNl]
  exact hx)) ?_
 exact H.Bb rfl rfl rfl iD ⟨g,ab,some ⟨vb,0,none⟩,hd,rfl,rfl,rfl⟩
def encAu(k:Int×Int):Value:=.agg ([.int .i64 k.1,.int .u64 k.2]:List Value).toArray
instance keyAu:KeyT prog 166 encAu:=keyT_agg (cellsK:=fun k:Int×Int=>[.int .i64 k.1,.int .u64 k.2]) (D:=4) jE (fun k=>by kernel_rfl) jC (fun a b=>by
  obtain⟨a1,a2⟩:=a
  obtain⟨b1,b2⟩:=b
  show(a1 == b1&&(a2 == b2&&true))=_
  by_cases h1:a1=b1<;>by_cases h2:a2=b2<;>simp[h1,h2]) (fun k=>rfl)
abbrev SfM:=List ((Int×Int)×Nat)
def sfV(M:SfM):List ((Int×Int)×Value):=M.map fun e=>(e.1,.int .i64 (e.2:Nat))
def sfG:SfM→Int×Int→Option Nat
 | [],_=>none
 |(k',d)::r,k=>if k=k' then some d else sfG r k
theorem getKV_sfV:∀(M:SfM) (k:Int×Int),getKV (sfV M) k=(sfG M k).map fun i:Nat=>Value.int .i64 (i:Nat)
 | [],_=>rfl
 | (k', d) :: r, k => by
  show(if k=k' then some (Value.int .i64 (d:Nat))else getKV (sfV r) k)=(if k=k' then some d else sfG r k).map _
  rw[getKV_sfV r k]
  split<;>rfl
theorem putKV_sfV:∀(M:SfM) (k:Int×Int) (d:Nat),sfG M k=none→putKV (sfV M) k (.int .i64 (d:Nat))=sfV (M++[(k,d)])
 | [],_,_,_=>rfl
 | (k', u) :: r, k, d, h => by
  have h1:¬k=k':=fun e=>by
   have:sfG ((k',u)::r) k=some u:=if_pos e
   rw[this]at h;cases h
  have h2:sfG r k=none:=by
   have:sfG ((k',u)::r) k=sfG r k:=if_neg h1;rw[this]at h;exact h
  show(if k=k' then _ else(k',Value.int .i64 (u:Nat))::putKV (sfV r) k _)=_
  rw[if_neg h1,putKV_sfV r k d h2]
  rfl
def AuM.sift1(n:Nat)(ms:List Msg)(i:Nat)(m:Msg)(S:AuM×SfM):AuM×SfM:=
 if chk n (strm []) m=1∨chk n (strm []) m=11 then({S.1 with vd:=S.1.vd.set i 1},S.2)
 else match sfG S.2 (m.origin,m.number)with
  |none=>(S.1,S.2++[((m.origin,m.number),i)])
  |some j=>if ms[j]?.map Msg.putB=some m.putB then({S.1 with vd:=S.1.vd.set i 2},S.2)else({S.1 with vd:=S.1.vd.set i 3,fk:=S.1.fk++[⟨m.origin,m.number,j,i⟩]},S.2)
def AuM.siftTo(n:Nat)(ms:List Msg)(A:AuM):Nat→AuM×SfM
 |0=>(A,[])
 | k + 1 => match ms[k]? with
  |none=>A.siftTo n ms k
  |some m=>AuM.sift1 n ms k m (A.siftTo n ms k)
structure SfI(n N:Nat)(M:List Msg)(k:Nat)(S:AuM×SfM):Prop where
 ai:AuI n N S.1
 M0:S.1.M=M
 t0:S.1.tk=[]
 fl:S.1.fk.length≤k
 lt:∀e∈S.2,e.2<k
theorem sfG_mem:∀ {M:SfM} {k:Int×Int} {d:Nat},sfG M k=some d→(k,d)∈M
 | (k', u) :: r, k, d, h => by
  by_cases e:k=k'
  ·have:sfG ((k',u)::r) k=some u:=if_pos e
   rw[this]at h
   cases h
   rw[e]
   exact List.mem_cons_self
  ·have:sfG ((k',u)::r) k=sfG r k:=if_neg e
   rw[this]at h
   exact List.mem_cons_of_mem _ (sfG_mem h)
theorem AuI.vset(h:AuI n N A)(i v:Nat)(fk:List Frk):AuI n N {A with vd:=A.vd.set i v,fk:=fk}:=
 ⟨h.n3,h.odd,h.ln,by show(A.vd.set i v).length=N;rw[List.length_set];exact h.vl,h.nl,h.li,h.ni,h.ml,h.tl⟩
theorem AuM.siftTo_I{n N:Nat}{A:AuM}(h:AuI n N A)(h0:A.tk=[])(hf:A.fk=[]){ms:List Msg}:∀k,SfI n N A.M k (A.siftTo n ms k)
 |0=>⟨h,rfl,h0,by show A.fk.length≤0;rw[hf];exact Nat.le_refl _,fun e he=>absurd he List.not_mem_nil⟩
 | k + 1 => by
  obtain⟨i1,i2,i3,i4,i5⟩:=AuM.siftTo_I (n:=n) h h0 hf (ms:=ms) k
  unfold AuM.siftTo
  cases hm:ms[k]? with
  |none=>exact⟨i1,i2,i3,by show(A.siftTo n ms k).1.fk.length≤_;omega,fun e he=>Nat.lt_succ_of_lt (i5 e he)⟩
  | some m =>
   show SfI n N A.M (k+1) (AuM.sift1 n ms k m (A.siftTo n ms k))
   unfold AuM.sift1
   split
   ·exact⟨i1.vset k 1 _,i2,i3,by show(A.siftTo n ms k).1.fk.length≤_;omega,fun e he=>Nat.lt_succ_of_lt (i5 e he)⟩
   ·split
    ·refine⟨i1,i2,i3,by show(A.siftTo n ms k).1.fk.length≤_;omega,fun e he=>?_⟩
     rcases List.mem_append.1 he with h1|h1
     ·exact Nat.lt_succ_of_lt (i5 e h1)
     ·rw[List.mem_singleton.1 h1]
      exact Nat.lt_succ_self k
    ·split
     ·exact⟨i1.vset k 2 _,i2,i3,by show(A.siftTo n ms k).1.fk.length≤_;omega,fun e he=>Nat.lt_succ_of_lt (i5 e he)⟩
     ·exact⟨i1.vset k 3 _,i2,i3,by show((A.siftTo n ms k).1.fk++[_]).length≤_;rw[lnA];show _+1≤_;omega,fun e he=>Nat.lt_succ_of_lt (i5 e he)⟩
theorem sift_fn(htab:TabAt f)(hat:ListAt f ap 121 MV.vals ml)(hg:∀x∈ml,x.Good f)(hI:AuI n ml.length A)(hM:A.M=[])(hT:A.tk=[])(hF:A.fk=[]):Fn prog 40 [.pointer (some ⟨ab,0,none⟩)] f (auH fl ab n ap ml.length c vp vc A::F) (Ret (.tuple #[]) f (auH fl ab n ap ml.length c vp vc (A.siftTo n (ml.map MV.m) ml.length).1::F)):=by
 have hNl:=hI.nl;refine qjX fun i hi=>?_
 obtain⟨lo,lg,L,fp,fc,tp,tc⟩:=i;refine qgr ?_;refine Fn.e1 func40 ntmps40 fun base=>?_;refine gA ?_;refine H.makeMap encAu rfl rfl fun mb=>?_;refine gM ?_;refine qkY ?_;refine qiS ?_
 refine H.lo (ι:=Nat) (fun k=>[(15,.int .i64 (k:Int)),(14,.int .i64 (ml.length:Nat)),(13,.slice ap ml.length c),(2,.map (some mb)),(0,.pointer (some ⟨ab,0,none⟩))]) (fun _=>f)
  (fun k=>auH fl ab n ap ml.length c vp vc (A.siftTo n (ml.map MV.m) k).1::mp mb encAu (sfV (A.siftTo n (ml.map MV.m) k).2)::F) (fun k=>k≤ml.length) (fun k=>ml.length-k)
  0 (Nat.zero_le _) fun k hk=>?_
 show H _ _ _ [(15,.int .i64 (k:Int)),_,_,_,_] f (auH fl ab n ap ml.length c vp vc (A.siftTo n (ml.map MV.m) k).1::mp mb encAu (sfV (A.siftTo n (ml.map MV.m) k).2)::F) _;obtain⟨hIk,hMk,hTk,hFk,hlt⟩:=AuM.siftTo_I (n:=n) hI hT hF (ms:=ml.map MV.m) k;by_cases hkl:k<ml.length
 ·obtain⟨x,hx⟩:∃x,ml[k]?=some x:=⟨_,lgE hkl⟩;have hxg:=hg x (List.mem_of_getElem? hx);have hxm:(ml.map MV.m)[k]?=some x.m:=by rw[List.getElem?_map,hx];rfl
  have hps:A.siftTo n (ml.map MV.m) (k+1)=AuM.sift1 n (ml.map MV.m) k x.m (A.siftTo n (ml.map MV.m) k):=qdv
  have hvl:=hIk.vl;obtain⟨ba,off,rfl,rdA⟩:=hat.all MV.len jC jA
  generalize A.siftTo n (ml.map MV.m) k=B at *;refine H.Bz fun j hj=>?_;obtain⟨lo,lg,L,fp,fc,tp,tc⟩:=j;have hj:L.map MV.m=B.1.M:=hj;have hL:L.map MV.m=[]:=by rw[hj,hMk,hM]
  have hck:=fun G=>lcheck_fn f G htab (fl:=fl) (lb:=lo) (n:=n) (l:=L) (x:=x) hxg;rw[hL]at hck
  unfold AuM.sift1 at hps;generalize chk n (strm []) x.m=ck at *;show H _ _ _ _ _ (row ab 82 (auC n (some ⟨ba,off,none⟩) ml.length c lo lg vp B.1.vd.length vc fp B.1.fk.length fc tp B.1.tk.length tc)::slc vp B.1.vd.length vc 56 1 (B.1.vd.flatMap vdV)::slc fp B.1.fk.length fc 68 4 (B.1.fk.flatMap fkV)::slc tp B.1.tk.length tc 3 1 (B.1.tk.flatMap nV)::loreH fl lo n L::plogH fl lg B.1.l::mp mb encAu (sfV B.2)::F) _;refine qjx fun sv hp=>?_;subst hp;refine gG ?_;refine qiR ?_;refine qfY fun xb=>?_;refine gI ?_;refine qf ?_;refine gA ?_;refine qfm ?_;refine qeV ?_;refine qgu ?_;refine HB.qu [0,1,2,3,4] 2 ?_;refine qfu ?_;refine qiO ?_;refine H.cr (hck _) ?_;refine qhv ?_;refine HB.qu [6] 0 ?_;refine qgv ?_;by_cases h1:ck=1
  ·rw[if_pos (.inl h1)]at hps;subst h1;obtain⟨fp2,hfp2⟩:∃q,q=fp:=⟨_,rfl⟩;subst hfp2;refine gX ?_;exact qaA
  ·by_cases h11 : ck = 11
   ·rw[if_pos (.inr h11)]at hps;subst h11;obtain⟨fp2,hfp2⟩:∃q,q=fp:=⟨_,rfl⟩;subst hfp2;refine gR ?_;exact qaA
   ·rw[if_neg jA]at hps;refine gg ?_;refine H.Aj (ls:=[.int .i64 0,.int .u64 0]) rfl rfl rfl fun kb=>?_;skip;refine H.Ag (ls:=[.int .i64 0,.int .u64 0]) (vs:=[.int .i64 x.m.origin,.int .u64 x.m.number]) (ls':=[.int .i64 x.m.origin,.int .u64 x.m.number]) rfl rfl rfl (zaa rfl) rfl rfl (Nat.le_refl 2) jB ?_;refine gI ?_;refine qkg ?_
    cases hs:sfG B.2 (x.m.origin,x.m.number)with
    | none =>
     rw[hs]at hps;have hget:getKV (sfV B.2) (x.m.origin,x.m.number)=none:=by rw[getKV_sfV,hs];rfl
     have hput:=putKV_sfV B.2 (x.m.origin,x.m.number) k hs;have hg1:(getKV (sfV B.2) (x.m.origin,x.m.number)).getD (Value.int .i64 0)=Value.int .i64 0:=by rw[hget];rfl
     have hg2:(getKV (sfV B.2) (x.m.origin,x.m.number)).isSome=false:=by rw[hget];rfl
     clear hget hs;refine qjA ?_;refine qkg ?_;refine gI ?_;refine H.mapUpdate (enc:=encAu) (k:=(x.m.origin,x.m.number)) (v:=.int .i64 (k:Nat)) rfl rfl rfl rfl jB rfl ?_;rw[hput];refine qjy ?_;obtain⟨fp2,hfp2⟩:∃q,q=fp:=⟨_,rfl⟩;subst hfp2;refine qfG ?_;refine H.imp (zce (A:=B.1) ⟨lo,lg,L,fp2,fc,tp,tc⟩ hj) ?_;exact qaq
    | some j =>
     rw[hs]at hps;have hjk:j<k:=hlt _ (sfG_mem hs);have hjl:j<ml.length:=jA
     obtain⟨y,hy⟩:∃y,ml[j]?=some y:=⟨_,lgE hjl⟩;have hyg:=hg y (List.mem_of_getElem? hy)
     have hps:A.siftTo n (ml.map MV.m) (k+1)=if y.m.putB=x.m.putB then({B.1 with vd:=B.1.vd.set k 2},B.2)else({B.1 with vd:=B.1.vd.set k 3,fk:=B.1.fk++[⟨x.m.origin,x.m.number,j,k⟩]},B.2):=by
      rw[hps];show(if(ml.map MV.m)[j]?.map Msg.putB=some x.m.putB then _ else _)=_;rw[List.getElem?_map,hy];show(if some y.m.putB=some x.m.putB then _ else _)=_;by_cases he:y.m.putB=x.m.putB
      ·rw[if_pos he,if_pos (congrArg some he)]
      ·rw[if_neg he,if_neg (fun h=>he (Option.some.inj h))]
     have hget:getKV (sfV B.2) (x.m.origin,x.m.number)=some (Value.int .i64 (j:Nat)):=by rw[getKV_sfV,hs];rfl
     have hg1:(getKV (sfV B.2) (x.m.origin,x.m.number)).getD (Value.int .i64 0)=Value.int .i64 (j:Nat):=by rw[hget];rfl
     have hg2:(getKV (sfV B.2) (x.m.origin,x.m.number)).isSome=true:=by rw[hget];rfl
     have hpy:=fun G=>mput_fn f G hyg;have hpx:=fun G=>mput_fn f G hxg
     have hbq:=fun G {p r:Option Addr} {c d:Nat}=>bequal_fn f G (p:=p) (r:=r) (c:=c) (d:=d) (a:=y.m.putB) (b:=x.m.putB);clear hget hs hck
     generalize y.m.putB=yb at *;generalize x.m.putB=xbs at *;refine qjA ?_;refine qfm ?_;refine qeV ?_;refine qgu ?_;refine HB.qu [0,1,2,3,4,5,6,8] 4 ?_;refine qkc ?_;refine HQ.Ad (ls:=y.vals) rfl rfl rfl (rdA _ _ _ _ (Le.refl _) hy) rfl rfl ?_;refine qkV ?_;refine HB.ev 7 ?_;refine H.Am rfl rfl rfl (hpy _) fun p1 c1=>?_;refine H.slc_none aP0 fun hp1=>?_;refine qhv ?_;refine HB.ev 9 ?_;refine H.Am rfl rfl rfl (hpx _) fun p2 c2=>?_;refine H.slc_none aP0 fun hp2=>?_;refine qhv ?_;refine HB.ev 10 ?_;refine H.Af rfl rfl rfl (hbq _ (Src.slcS jB jG) (Src.slcS jB jG) (fun h=>List.eq_nil_of_length_eq_zero (hp1 h)) (fun h=>List.eq_nil_of_length_eq_zero (hp2 h))) ?_;refine H.pd (x:=slc p1 _ _ _ _ _) ?_;refine H.pd (x:=slc p2 _ _ _ _ _) ?_;refine qhv ?_;refine HB.qu [11] 0 ?_;refine qgv ?_;by_cases he:yb=xbs
     ·rw[if_pos he]at hps;rw[decide_eq_true he];clear hbq hpy hpx;obtain⟨fp2,hfp2⟩:∃q,q=fp:=⟨_,rfl⟩;subst hfp2;refine gU ?_;refine qgK ?_;refine H.Az rfl rfl rfl rfl jB (by rw[Nat.zero_add];exact vd_set (vd:=B.1.vd) (i:=k) jA 2) ?_;refine qjy ?_;refine qfG ?_;have hle:B.1.vd.length=(B.1.vd.set k 2).length:=by rw[List.length_set]
      rw[hle];refine H.imp (zce (A:={B.1 with vd:=B.1.vd.set k 2}) ⟨lo,lg,L,fp2,fc,tp,tc⟩ hj) ?_;exact qaq
     ·rw[if_neg he]at hps;rw[decide_eq_false he];clear hbq hpy hpx;refine gU ?_;refine qgK ?_;refine H.Az rfl rfl rfl rfl jB (by rw[Nat.zero_add];exact vd_set (vd:=B.1.vd) (i:=k) jA 3) ?_;refine gA ?_;refine qfm ?_;refine qeV ?_;refine H.dc [0,1,2,3,4,5,6,7,8,9,10,11,12,13,14,15,16,17] (S:=[_,_]) rfl ?_;refine HB.qu [0,1,2,3,4,5,6,7,8,9,10,11,12] 6 ?_;refine gV ?_;refine qhA ?_;refine H.Aq (out:=fkV ⟨x.m.origin,x.m.number,j,k⟩) rfl rfl rfl rfl jC jC rfl rfl fun eb=>?_;refine qhv ?_;refine HB.ev 14 ?_;refine H.Av (sz:=4) (p:=fp) (n0:=B.1.fk.length) (c:=fc) (xs:=B.1.fk.flatMap fkV) (m:=1) (news:=fkV ⟨x.m.origin,x.m.number,j,k⟩) rfl rfl rfl rfl rfl (fun p' c'=>jB) (Src.slice (Rd.ofRow jB) rfl) (zaa rfl) rfl jA jA fun fp2 fc2=>?_;refine qgJ ?_;refine qhv ?_;refine HB.qu [15,16,17] 1 ?_;refine gP ?_;refine qeA ?_;refine HB.ev 18 ?_;refine gR ?_;refine qeS ?_;refine HB.dn ?_;refine qjy ?_;refine qfG ?_;have hle:B.1.vd.length=(B.1.vd.set k 3).length:=by rw[List.length_set]
      have e2:B.1.fk.length+1=(B.1.fk++[(⟨x.m.origin,x.m.number,j,k⟩:Frk)]).length:=by rw[lnA];rfl
      have e3:B.1.fk.flatMap fkV++fkV ⟨x.m.origin,x.m.number,j,k⟩=(B.1.fk++[(⟨x.m.origin,x.m.number,j,k⟩:Frk)]).flatMap fkV:=by rw[List.flatMap_append];rfl
      rw[hle,e2,e3];refine H.imp (zce (A:={B.1 with vd:=B.1.vd.set k 3,fk:=B.1.fk++[⟨x.m.origin,x.m.number,j,k⟩]}) ⟨lo,lg,L,fp2,fc2,tp,tc⟩ hj) ?_;exact qaq
 ·have e:k=ml.length:=jA
  subst e;refine gc ?_;refine H.pd (x:=mp _ _ _) ?_;first|exact H.end0 rfl iD ⟨rfl,rfl,rfl⟩|exact H.ret0 rfl iD ⟨rfl,rfl,rfl⟩
end
theorem zc_set{k v:Nat}(h:vd[k]?=some 0)(hv:v≠0):(vd.set k v).count 0+1=vd.count 0:=by
 obtain⟨hk,e⟩:=List.getElem?_eq_some_iff.1 h;have h1:0<vd.count 0:=List.count_pos_iff.2 (e▸List.getElem_mem hk);rw[List.count_set hk,e,if_pos jC,if_neg (by simpa using hv)]
 omega
def ZC(N:Nat)(A:AuM):Prop:=A.M.length+A.vd.count 0≤N∧A.tk.length+A.vd.count 0≤N
variable {m:Msg}
theorem AuM.meet_zc{k:Nat}(hz:A.vd[k]?=some 0)(h:ZC N A):ZC N (A.meet n m k).1∧(A.meet n m k).1.vd.count 0≤A.vd.count 0∧((A.meet n m k).2=true→(A.meet n m k).1.vd.count 0+1≤A.vd.count 0):=by
 obtain⟨h1,h2⟩:=h;unfold AuM.meet;split
 ·have e:=zc_set (v:=1) hz jC;exact⟨⟨by show A.M.length+(A.vd.set k 1).count 0≤N;omega,by show A.tk.length+(A.vd.set k 1).count 0≤N;omega⟩,by show(A.vd.set k 1).count 0≤_;omega,fun _=>by show(A.vd.set k 1).count 0+1≤_;omega⟩
 ·split
  ·have e:=zc_set (v:=if(A.l.take m).1.1=true then 6 else 5) hz (by split<;>decide);generalize(if(A.l.take m).1.1=true then 6 else 5)=v at e
   exact⟨⟨by show(A.M++[m]).length+(A.vd.set k v).count 0≤N;rw[lnA];show _+1+_≤_;omega,by show(A.tk++[k]).length+(A.vd.set k v).count 0≤N;rw[lnA];show _+1+_≤_;omega⟩,by show(A.vd.set k v).count 0≤_;omega,fun _=>by show(A.vd.set k v).count 0+1≤_;omega⟩
  ·exact⟨⟨h1,h2⟩,Nat.le_refl _,fun h=>by cases h⟩
theorem AuM.passTo_zc{n N:Nat}{A:AuM}{ms:List Msg}(h:ZC N A):∀k,ZC N (A.passTo n ms k).1∧(A.passTo n ms k).1.vd.count 0≤A.vd.count 0∧((A.passTo n ms k).2=true→(A.passTo n ms k).1.vd.count 0+1≤A.vd.count 0)
 |0=>⟨h,Nat.le_refl _,fun h=>by cases h⟩
 | k + 1 => by
  obtain⟨i1,i2,i3⟩:=AuM.passTo_zc (n:=n) (ms:=ms) h k
  unfold AuM.passTo
  cases hm:ms[k]? with
  |none=>exact⟨i1,i2,i3⟩
  | some m =>
   show ZC N (if _ then _ else _:AuM×Bool).1∧_
   split
   ·rename_i hz
    obtain⟨j1,j2,j3⟩:=AuM.meet_zc (n:=n) (m:=m) hz i1
    refine⟨j1,Nat.le_trans j2 i2,fun hb=>?_⟩
    have hb:((A.passTo n ms k).2||((A.passTo n ms k).1.meet n m k).2)=true:=hb
    show((A.passTo n ms k).1.meet n m k).1.vd.count 0+1≤_
    rcases Bool.or_eq_true _ _▸hb with h1|h1
    ·have:=i3 h1
     omega
    ·have:=j3 h1
     omega
   ·exact⟨i1,i2,i3⟩
def AuM.runP(n:Nat)(ms:List Msg)(N:Nat):Nat→AuM→AuM
 |0,A=>A
 |k+1,A=>if(A.passTo n ms N).2=true then AuM.runP n ms N k (A.passTo n ms N).1 else(A.passTo n ms N).1
def waitsTo(vd:List Nat):Nat→List Nat
 |0=>vd
 |k+1=>if(waitsTo vd k)[k]?=some 0 then(waitsTo vd k).set k 4 else waitsTo vd k
theorem waitsTo_len(vd:List Nat):∀k,(waitsTo vd k).length=vd.length
 |0=>rfl
 | k + 1 => by
  unfold waitsTo
  split
  ·rw[List.length_set];exact waitsTo_len vd k
  ·exact waitsTo_len vd k
def AuM.wt(A:AuM)(k:Nat):AuM:={A with vd:=waitsTo A.vd k}
def AuM.run(n:Nat)(ms:List Msg)(N:Nat)(A:AuM):AuM:=(AuM.runP n ms N (N+1) (A.siftTo n ms N).1).wt N
theorem AuI.wt(h:AuI n N A)(k:Nat):AuI n N (A.wt k):=
 ⟨h.n3,h.odd,h.ln,by show(waitsTo A.vd k).length=N;rw[waitsTo_len];exact h.vl,h.nl,h.li,h.ni,h.ml,h.tl⟩
def auCD(n:Nat)(ap:Option Addr)(m c lo lg:Nat)(vp:Option Addr)(vl vc:Nat)(fp:Option Addr)(fl fc:Nat)(kn:Nat→Int)(dp:Option Addr)(dn dc:Nat)(dv:Int)(tp:Option Addr)(tl tc:Nat):List Value:=
 [.int .i64 (n:Nat),.slice ap m c,.pointer (some ⟨lo,0,none⟩),.pointer (some ⟨lg,0,none⟩),.slice vp vl vc,.slice fp fl fc]++v11 kn++[.slice dp dn dc,.int .u64 dv,.slice tp tl tc]
structure AuQ where
 i:AuP
 dp:Option Addr
 dc:Nat
def auDB(fl:Frag)(ab n:Nat)(ap:Option Addr)(m c:Nat)(vp:Option Addr)(vc:Nat)(A:AuM)(q:AuQ):List HP:=
 [row ab 82 (auCD n ap m c q.i.lo q.i.lg vp A.vd.length vc q.i.fp A.fk.length q.i.fc (knownS (strm A.M)) q.dp (decL A.l).length q.dc (decB A.l).1 q.i.tp A.tk.length q.i.tc),slc vp A.vd.length vc 56 1 (A.vd.flatMap vdV),slc q.i.fp A.fk.length q.i.fc 68 4 (A.fk.flatMap fkV),slc q.i.tp A.tk.length q.i.tc 3 1 (A.tk.flatMap nV),loreH fl q.i.lo n q.i.L,plogH fl q.i.lg A.l,slc q.dp (decL A.l).length q.dc 49 40 ((decL A.l).flatMap Req.vals)]
def auD(fl:Frag)(ab n:Nat)(ap:Option Addr)(m c:Nat)(vp:Option Addr)(vc:Nat)(A:AuM):HP:=pack (fun q:AuQ=>q.i.L.map MV.m=A.M) (auDB fl ab n ap m c vp vc A)
theorem auD_fold{m:Nat}(q:AuQ)(h:q.i.L.map MV.m=A.M):∀x,stars (auDB fl ab n ap m c vp vc A q++F) x→stars (auD fl ab n ap m c vp vc A::F) x:=fun x hx=>pack_fold (φ:=fun q:AuQ=>q.i.L.map MV.m=A.M) (B:=auDB fl ab n ap m c vp vc A) q h x hx
def RunQ(f:Frag)(F:List HP)(ab n:Nat)(ap:Option Addr)(m c:Nat)(vp:Option Addr)(vc:Nat)(R:AuM):Value→Frag→List HP→Prop:=fun v f' A'=>∃g,Dj f g∧v= .tuple #[]∧f'=un f g∧A'=auD f' ab n ap m c vp vc R::F
section
variable (f:Frag) (F:List HP)
theorem run_fn(htab:TabAt f)(hfl:Le fl f)(hat:ListAt f ap 121 MV.vals ml)(hg:∀x∈ml,x.Good f)(hN:ml.length≤254)(hI:AuI n ml.length A)(hM:A.M=[])(hT:A.tk=[])(hF:A.fk=[]):Fn prog 21 [.pointer (some ⟨ab,0,none⟩)] f (auH fl ab n ap ml.length c vp vc A::F) (RunQ f F ab n ap ml.length c vp vc (A.run n (ml.map MV.m) ml.length)):=by
 have hvw:∀m∈ml.map MV.m,0≤m.body.view:=fun m hm=>by
  exact qcm
 have hsift:=fun G=>sift_fn f G htab (fl:=fl) (ab:=ab) (c:=c) (vp:=vp) (vc:=vc) hat hg hI hM hT hF;obtain⟨hIs,hMs,hTs,_,_⟩:=AuM.siftTo_I (n:=n) hI hT hF (ms:=ml.map MV.m) ml.length
 unfold AuM.run;generalize(A.siftTo n (ml.map MV.m) ml.length).1=B at *
 have hzc:ZC ml.length B:=by
  have h1:B.vd.count 0≤B.vd.length:=List.count_le_length;rw[hIs.vl]at h1
  exact⟨by rw[hMs,hM];show 0+_≤_;omega,by rw[hTs];show 0+_≤_;omega⟩
 have hz0:B.vd.count 0≤ml.length:=by have h1:B.vd.count 0≤B.vd.length:=List.count_le_length;rw[hIs.vl]at h1;exact h1
 refine Fn.e1 func21 ntmps21 fun base=>?_;refine gI ?_;refine H.cr (hsift _) ?_;refine H.Bz fun i hi=>?_;obtain⟨lo,lg,L,fp,fc,tp,tc⟩:=i;show H _ _ _ _ _ (row ab 82 (auC n ap ml.length c lo lg vp B.vd.length vc fp B.fk.length fc tp B.tk.length tc)::slc vp B.vd.length vc 56 1 (B.vd.flatMap vdV)::slc fp B.fk.length fc 68 4 (B.fk.flatMap fkV)::slc tp B.tk.length tc 3 1 (B.tk.flatMap nV)::loreH fl lo n L::plogH fl lg B.l::F) _;refine gT ?_;refine qgA ?_;refine H.imp (plog_up hfl) ?_;refine qiO ?_;refine H.imp (lore_upJ hfl) ?_;refine qeE ?_;refine H.imp (zce (A:=B) ⟨lo,lg,L,fp,fc,tp,tc⟩ hi) ?_
 refine H.loop (ι:=AuM×Frag×Nat) (fun s=>[(0,.pointer (some ⟨ab,0,none⟩))]) (fun s=>un f s.2.1) (fun s=>auH (un f s.2.1) ab n ap ml.length c vp vc s.1::F)
  (fun s=>AuI n ml.length s.1∧Dj f s.2.1∧ZC ml.length s.1∧s.1.vd.count 0+s.2.2≤ml.length∧AuM.runP n (ml.map MV.m) ml.length (ml.length+1) B=AuM.runP n (ml.map MV.m) ml.length (ml.length+1-s.2.2) s.1) (fun s=>s.1.vd.count 0)
  (B,nil0,0) ⟨hIs,Dj.nil _,hzc,hz0,rfl⟩ ⟨rfl,trivial⟩ (un_nil _).symm (by show auH f ab n ap ml.length c vp vc B::F=auH (un f nil0) ab n ap ml.length c vp vc B::F;rw[un_nil]) fun s hs=>?_
 obtain⟨C,g,k⟩:=s;obtain⟨hIC,hd,hzC,hzk,hrun⟩:=hs;have hIC:AuI n ml.length C:=hIC;have hd:Dj f g:=hd
 have hzC:ZC ml.length C:=hzC;have hzk:C.vd.count 0+k≤ml.length:=hzk
 have hrun:AuM.runP n (ml.map MV.m) ml.length (ml.length+1) B=AuM.runP n (ml.map MV.m) ml.length (ml.length+1-k) C:=hrun;show H _ _ _ _ (un f g) (auH (un f g) ab n ap ml.length c vp vc C::F) _
 obtain⟨p1,p2,p3⟩:=AuM.passTo_zc (n:=n) (ms:=ml.map MV.m) hzC ml.length;have hIp:=(hIC.passTo hvw ml.length (by have:=hzC.1;omega) (by have:=hzC.2;omega)).1;have hpass:=fun G=>pass_fn (un f g) G (zbg htab (Le.un f g)) (Le.refl _) (ab:=ab) (ap:=ap) (c:=c) (vp:=vp) (vc:=vc) (hat.mono (Le.un f g)) (fun y hy=>(hg y hy).mono (Le.un f g)) hIC (by have:=hzC.1;omega) (by have:=hzC.2;omega)
 have hstep:AuM.runP n (ml.map MV.m) ml.length (ml.length+1-k) C=if(C.passTo n (ml.map MV.m) ml.length).2=true then AuM.runP n (ml.map MV.m) ml.length (ml.length-k) (C.passTo n (ml.map MV.m) ml.length).1 else(C.passTo n (ml.map MV.m) ml.length).1:=by
  rw[show ml.length+1-k=ml.length-k+1 from by omega];rfl
 rw[hstep]at hrun;generalize C.passTo n (ml.map MV.m) ml.length=D at *;refine gI ?_;refine H.cl (hpass _) fun v f' A' hr=>?_;obtain⟨g2,hd2,rfl,rfl,rfl⟩:=hr
 cases hb:D.2 with
 | true =>
  rw[if_pos hb]at hrun
  have:=p3 hb;refine gL ?_
  exact H.Ar (D.1,un g g2,k+1) ⟨hIp,Dj.un3' hd hd2,p1,by show D.1.vd.count 0+(k+1)≤_;omega,by show _=AuM.runP n (ml.map MV.m) ml.length (ml.length+1-(k+1)) D.1;rw[hrun,show ml.length+1-(k+1)=ml.length-k from by omega]⟩ (by show D.1.vd.count 0<C.vd.count 0;omega) ⟨rfl,trivial⟩ (zbc _ _ _) (by show auH (un (un f g) g2) ab n ap ml.length c vp vc D.1::F=auH (un f (un g g2)) ab n ap ml.length c vp vc D.1::F;rw[zbc])
 | false =>
  rw[if_neg (by rw[hb];decide)]at hrun;rw[hrun];have hdj:=Dj.un3' hd hd2;have hup:Le f (un (un f g) g2):=(Le.un f g).trans (Le.un _ _)
  have hua:un (un f g) g2=un f (un g g2):=zbc _ _ _;clear hpass hrun hstep p3 hsift
  generalize un (un f g) g2=f2 at *;generalize D.1=E at *;have hvl:=hIp.vl;refine H.Bz fun j hj=>?_
  obtain⟨lo,lg,L,fp,fc,tp,tc⟩:=j;have hj:L.map MV.m=E.M:=hj;show H _ _ _ _ _ (row ab 82 (auC n ap ml.length c lo lg vp E.vd.length vc fp E.fk.length fc tp E.tk.length tc)::slc vp E.vd.length vc 56 1 (E.vd.flatMap vdV)::slc fp E.fk.length fc 68 4 (E.fk.flatMap fkV)::slc tp E.tk.length tc 3 1 (E.tk.flatMap nV)::loreH f2 lo n L::plogH f2 lg E.l::F) _
  refine gU ?_
  refine H.loop (ι:=Nat) (fun k=>[(14,.int .i64 (k:Int)),(13,.int .i64 (ml.length:Nat)),(12,.slice vp ml.length vc),(0,.pointer (some ⟨ab,0,none⟩))]) (fun _=>f2)
   (fun k=>row ab 82 (auC n ap ml.length c lo lg vp ml.length vc fp E.fk.length fc tp E.tk.length tc)::slc vp ml.length vc 56 1 ((waitsTo E.vd k).flatMap vdV)::slc fp E.fk.length fc 68 4 (E.fk.flatMap fkV)::slc tp E.tk.length tc 3 1 (E.tk.flatMap nV)::loreH f2 lo n L::plogH f2 lg E.l::F) (fun k=>k≤ml.length) (fun k=>ml.length-k)
   0 (Nat.zero_le _) ⟨rfl,by show _=some (Value.int .i64 (ml.length:Nat));rw[←hvl];rfl,by show _=some (Value.slice vp ml.length vc);rw[←hvl];rfl,rfl,trivial⟩ rfl (by rw[hvl];rfl) fun k hk=>?_
  have hk:k≤ml.length:=hk;show H _ _ _ [(14,.int .i64 (k:Int)),_,_,_] f2 (row ab 82 (auC n ap ml.length c lo lg vp ml.length vc fp E.fk.length fc tp E.tk.length tc)::slc vp ml.length vc 56 1 ((waitsTo E.vd k).flatMap vdV)::slc fp E.fk.length fc 68 4 (E.fk.flatMap fkV)::slc tp E.tk.length tc 3 1 (E.tk.flatMap nV)::loreH f2 lo n L::plogH f2 lg E.l::F) _
  by_cases hkl:k<ml.length
  ·have hwl:(waitsTo E.vd k).length=ml.length:=by rw[waitsTo_len,hvl]
   have hws:waitsTo E.vd (k+1)=if(waitsTo E.vd k)[k]?=some 0 then(waitsTo E.vd k).set k 4 else waitsTo E.vd k:=rfl
   obtain⟨z,hz⟩:∃z,(waitsTo E.vd k)[k]?=some z:=⟨_,lgE jA⟩;rw[hz]at hws;generalize waitsTo E.vd k=W at *;refine H.Au (p:=vp) (n0:=ml.length) (c:=vc) (T:=56) (sz:=1) (xs:=W.flatMap vdV) jB jA fun sv hp=>?_;subst hp;have hrd:∀ {G:List HP} {x0:HP},Rd1 f2 (x0::slc (some ⟨sv,0,none⟩) ml.length vc 56 1 (W.flatMap vdV)::G) sv (k*1) (.int .u8 (z:Nat)):=fun {G x0}=>Rd1.of (i:=0) (Rd.slcElem (vals:=vdV) (xs:=W) vdV_len jC (by rw[←hwl];exact .there _ (.here _ _ _)) hz) rfl;by_cases hz0:z=0
   ·subst hz0;rw[if_pos rfl]at hws;refine qfO ?_;refine gR ?_;refine qiR ?_;refine H.Az rfl rfl rfl rfl jB (by rw[Nat.zero_add];exact vd_set (vd:=W) (i:=k) jA 4) ?_;refine gW ?_;exact qbT
   ·rw[if_neg (by intro h;exact hz0 (Option.some.inj h))]at hws;have hz1:¬((z:Nat):Int)=0:=jA
    refine qfO ?_;refine gc ?_;exact qbT
  ·have e:k=ml.length:=jA
   subst e;clear hkl;have hIw:=hIp.wt ml.length;have hwl:(E.wt ml.length).vd.length=ml.length:=hIw.vl
   have hTl:E.M.length≤254:=by have:=p1.1;omega
   have hodd:E.l.n % 2=1:=by rw[hIp.ln];exact hIp.odd
   have hdec:=fun G=>decided_fn f2 G (Le.refl _) (lb:=lg) hIp.li hTl hodd;have hvw2:=fun G=>dview_fn f2 G (Le.refl _) (lb:=lg) hIp.li hTl hodd
   have hkn:=fun G=>known_fn f2 G (fl:=f2) (lb:=lo) (n:=n) (l:=L);rw[hIp.ln]at hdec hvw2
   rw[hj]at hkn;refine gM ?_;refine qiO ?_;refine H.cr (hkn _) ?_;refine qeV ?_;refine gF ?_;refine H.Ag (ls:=auC n ap ml.length c lo lg vp ml.length vc fp E.fk.length fc tp E.tk.length tc) (vs:=v11 (knownS (strm E.M))) (ls':=auCD n ap ml.length c lo lg vp ml.length vc fp E.fk.length fc (knownS (strm E.M)) none 0 0 0 tp E.tk.length tc) rfl rfl rfl (zaa rfl) rfl rfl (show 6+11≤20 by decide) jB ?_;refine qhq ?_;refine H.Am rfl rfl rfl (hdec _) fun dp dc=>?_;refine qhR ?_;refine qhq ?_;refine H.cr (hvw2 _) ?_;refine qhR ?_;skip;refine H.pf (x:=slc dp _ _ _ _ _) ?_;refine qeE ?_
   refine H.imp (A':=auD f2 ab n ap ml.length c vp vc (E.wt ml.length)::F) (fun x hx=>auD_fold (A:=E.wt ml.length) ⟨⟨lo,lg,L,fp,fc,tp,tc⟩,dp,dc⟩ hj x (by
    show stars (row ab _ (auCD n ap ml.length c lo lg vp (E.wt ml.length).vd.length vc fp E.fk.length fc (knownS (strm E.M)) dp (decL E.l).length dc (decB E.l).1 tp E.tk.length tc)::slc vp (E.wt ml.length).vd.length vc _ 1 _::_) x;rw[hwl]
    exact hx)) ?_
   exact H.end0 rfl iD ⟨_,hdj,rfl,hua,rfl⟩
end
def repV(vp:Option Addr)(vl vc:Nat)(fp:Option Addr)(fl fc:Nat)(kn:Nat→Int)(dp:Option Addr)(dn dc:Nat)(dv:Int):List Value:=
 [.slice vp vl vc,.slice fp fl fc]++v11 kn++[.slice dp dn dc,.int .u64 dv]
def repZ:List Value:=repV none 0 0 none 0 0 (fun _=>0) none 0 0 0
def audR(n:Nat)(ms:List Msg):AuM:=(nwM n ms.length).run n ms ms.length
def repA(vp:Option Addr)(vc:Nat)(fp:Option Addr)(fc:Nat)(dp:Option Addr)(dc:Nat)(A:AuM):List HP:=
 [slc vp A.vd.length vc 56 1 (A.vd.flatMap vdV),slc fp A.fk.length fc 68 4 (A.fk.flatMap fkV),slc dp (decL A.l).length dc 49 40 ((decL A.l).flatMap Req.vals)]
def repC(vp:Option Addr)(vc:Nat)(fp:Option Addr)(fc:Nat)(dp:Option Addr)(dc:Nat)(A:AuM):List Value:=repV vp A.vd.length vc fp A.fk.length fc (knownS (strm A.M)) dp (decL A.l).length dc (decB A.l).1
def RunP(f:Frag)(F:List HP)(A:AuM):Value→Frag→List HP→Prop:=fun v f' A'=>∃(g:Frag) (vp:Option Addr) (vc:Nat) (fp:Option Addr) (fc:Nat) (dp:Option Addr) (dc:Nat),Dj f g∧v= .tuple #[.agg (repC vp vc fp fc dp dc A).toArray,.int .i64 0]∧f'=un f g∧A'=repA vp vc fp fc dp dc A++F
variable {z:Int}
section
variable (f:Frag) (F:List HP)
theorem audRun_fn(htab:TabAt f)(hfz:fewZ (n:Int))(hat:ListAt f ap 121 MV.vals ml)(hg:∀x∈ml,x.Good f)(hN:ml.length≤254):Fn prog 10 [.int .i64 (n:Nat),.slice ap ml.length c] f F (RunP f F (audR n (ml.map MV.m))):=by
 have h3:3≤n∧n≤11:=⟨by have:=hfz.1;omega,by have:=hfz.2.1;omega⟩
 have hodd:n % 2=1:=qbo
 have hI:=nwM_I h3 hodd (show ml.length≤4096 by omega);have haud:audR n (ml.map MV.m)=(nwM n ml.length).run n (ml.map MV.m) ml.length:=by unfold audR;rw[List.length_map]
 rw[haud];have hbeg:=fun G=>begin_fn f G hfz (ap:=ap) (N:=ml.length) (c:=c) jA;refine Fn.e2 func10 ntmps10 fun base=>?_
 refine gA ?_;refine qjn fun rb=>?_;refine gI ?_;refine H.cl (hbeg _) fun v f' A' hr=>?_;obtain⟨g,ab,vp,hd,rfl,rfl,rfl⟩:=hr;have hup:Le f (un f g):=Le.un f g;have hrun:=fun G=>run_fn (un f g) G (zbg htab hup) (Le.refl _) (ab:=ab) (c:=c) (vp:=vp) (vc:=ml.length) (hat.mono hup) (fun y hy=>(hg y hy).mono hup) hN hI rfl rfl rfl
 generalize(nwM n ml.length).run n (ml.map MV.m) ml.length=R at *;refine gY ?_;refine H.cl (hrun _) fun v f' A' hr=>?_;obtain⟨g2,hd2,rfl,rfl,rfl⟩:=hr;have hua:un (un f g) g2=un f (un g g2):=zbc _ _ _;have hdj:=Dj.un3' hd hd2
 generalize un (un f g) g2=f2 at *;refine H.Bz fun q hq=>?_;obtain⟨⟨lo,lg,L,fp,fc,tp,tc⟩,dp,dc⟩:=q;have hrd:∀ {G:List HP},Rd f2 (row ab 82 (auCD n ap ml.length c lo lg vp R.vd.length ml.length fp R.fk.length fc (knownS (strm R.M)) dp (decL R.l).length dc (decB R.l).1 tp R.tk.length tc)::G) ab (0+4) (repC vp ml.length fp fc dp dc R):=fun {G}=>Rd.sub (f:=f2) (b:=ab) (off:=0) (k:=4) (pre:=[.int .i64 (n:Nat),.slice ap ml.length c,.pointer (some ⟨lo,0,none⟩),.pointer (some ⟨lg,0,none⟩)]) (l:=repC vp ml.length fp fc dp dc R) (post:=[.slice tp R.tk.length tc]) (Rd.ofRow aP0) rfl;refine qfC ?_
 refine gF ?_;refine H.Ad (ls:=repC vp ml.length fp fc dp dc R) rfl rfl rfl hrd rfl rfl ?_;refine H.Ag (ls:=repZ) (vs:=repC vp ml.length fp fc dp dc R) (ls':=repC vp ml.length fp fc dp dc R) rfl rfl rfl (zaa rfl) rfl rfl (Nat.le_refl 15) jB ?_;refine gT ?_;refine qin ?_;refine H.pd (x:=slc tp _ _ 3 _ _) ?_;refine qgm ?_;refine H.pf (x:=slc dp _ _ 49 _ _) ?_;refine qhp ?_;refine H.pf (x:=row rb _ _) ?_;exact H.retCT rfl rfl rfl rfl (Rd.ofRow aP0) rfl (fun _ s=>s.drop (.here _ _)) ⟨_,vp,ml.length,fp,fc,dp,dc,hdj,rfl,hua,rfl⟩
theorem begin_no(h:¬fewZ z):Fn prog 20 [.int .i64 z,.slice ap N c] f F (Ret (.tuple #[.pointer none,.int .i64 1]) f F):=by
 have hno:=fun G=>lnew_no f G h;refine Fn.e2 func20 ntmps20 fun base=>?_
 repeat(first|(refine H.Ay (t:=82) (out:=[.int .i64 z,.slice ap N c,.pointer none,.pointer none,.slice none 0 0,.slice none 0 0]++v11 (fun _=>0)++[.slice none 0 0,.int .u64 0,.slice none 0 0]) rfl rfl rfl jE rfl ?_)|(refine gh ?_))
 refine H.box (ls:=[.int .i64 z,.slice ap N c,.pointer none,.pointer none,.slice none 0 0,.slice none 0 0]++v11 (fun _=>0)++[.slice none 0 0,.int .u64 0,.slice none 0 0]) rfl rfl rfl rfl fun ab=>?_;refine gI ?_;refine H.cr (hno _) ?_;refine gX ?_;refine qin ?_;exact qaV
theorem audRun_no(h:¬fewZ z):Fn prog 10 [.int .i64 z,.slice ap N c] f F (Ret (.tuple #[.agg repZ.toArray,.int .i64 1]) f F):=by
 have hno:=fun G=>begin_no f G h (ap:=ap) (N:=N) (c:=c);refine Fn.e2 func10 ntmps10 fun base=>?_
 refine gA ?_;refine qjn fun rb=>?_;refine gI ?_;refine H.cr (hno _) ?_;repeat(first|(refine H.Ay (t:=40) (out:=repZ) rfl rfl rfl jE rfl ?_)|(refine gh ?_))
 refine H.Ag (ls:=repZ) (vs:=repZ) (ls':=repZ) rfl rfl rfl (zaa rfl) rfl rfl (Nat.le_refl 15) jB ?_;refine gT ?_;refine H.pf (x:=row rb _ _) ?_;exact H.retCT rfl rfl rfl rfl (Rd.ofRow aP0) rfl (fun _ s=>s.drop (.here _ _)) ⟨rfl,rfl,rfl⟩
def viewF(l:Lgs)(t:Int):List Int→Int
 | []=>0
 |v::r=>if t≤(cmt l v:Int)then v else viewF l t r
theorem auview_fn(hfl:Le fl f){m:Nat}(hI:AuI n N A)(hT:A.M.length≤254)(t:Int):Fn prog 23 [.pointer (some ⟨ab,0,none⟩),.int .i64 t] f (auD fl ab n ap m c vp vc A::F) (Ret (.int .u64 (viewF A.l t (viewsU A.l))) f (auD fl ab n ap m c vp vc A::F)):=by
 have hodd:A.l.n % 2=1:=by rw[hI.ln];exact hI.odd
 have hvl:=hI.li.vl;have hul:(viewsU A.l).length=A.l.vs.length:=by unfold viewsU;rw[List.length_map]
 refine qjX fun q hq=>?_;obtain⟨⟨lo,lg,L,fp,fc,tp,tc⟩,dp,dc⟩:=q;have hcm:=fun G v=>committed_fn f G hfl (lb:=lg) hI.li jA hodd v;rw[hI.ln]at hcm
 have hvs:=fun G=>plviews_fn f G (fl:=fl) (lb:=lg) hI.li hT;unfold ViewsP at hvs
 show Fn _ _ _ f (row ab 82 (auCD n ap m c lo lg vp A.vd.length vc fp A.fk.length fc (knownS (strm A.M)) dp (decL A.l).length dc (decB A.l).1 tp A.tk.length tc)::slc vp A.vd.length vc 56 1 (A.vd.flatMap vdV)::slc fp A.fk.length fc 68 4 (A.fk.flatMap fkV)::slc tp A.tk.length tc 3 1 (A.tk.flatMap nV)::loreH fl lo n L::plogH fl lg A.l::slc dp (decL A.l).length dc 49 40 ((decL A.l).flatMap Req.vals)::F) _;refine Fn.e2 func23 ntmps23 fun base=>?_;refine gF ?_;refine qgA ?_;refine H.Am rfl rfl rfl (hvs _) fun p pc=>?_;obtain⟨vs,hvsd⟩:∃vs,vs=viewsU A.l:=⟨_,rfl⟩;rw[←hvsd]at hul⊢;refine gT ?_
 refine H.lo (ι:=Nat) (fun k=>[(13,.int .i64 (k:Int)),(12,.int .i64 (vs.length:Nat)),(11,.slice p vs.length pc),(1,.int .i64 t),(0,.pointer (some ⟨ab,0,none⟩))]) (fun _=>f)
  (fun _=>slc p vs.length pc 35 1 (vs.flatMap uV)::plogH fl lg A.l::row ab 82 (auCD n ap m c lo lg vp A.vd.length vc fp A.fk.length fc (knownS (strm A.M)) dp (decL A.l).length dc (decB A.l).1 tp A.tk.length tc)::slc vp A.vd.length vc 56 1 (A.vd.flatMap vdV)::slc fp A.fk.length fc 68 4 (A.fk.flatMap fkV)::slc tp A.tk.length tc 3 1 (A.tk.flatMap nV)::loreH fl lo n L::slc dp (decL A.l).length dc 49 40 ((decL A.l).flatMap Req.vals)::F) (fun k=>k≤vs.length∧viewF A.l t vs=viewF A.l t (vs.drop k)) (fun k=>vs.length-k)
  0 ⟨Nat.zero_le _,rfl⟩ fun k hk=>?_
 obtain⟨hk,hvf⟩:k≤vs.length∧viewF A.l t vs=viewF A.l t (vs.drop k):=hk;rw[hvf];by_cases hkl:k<vs.length
 ·obtain⟨v,hv⟩:∃v,vs[k]?=some v:=⟨_,lgE hkl⟩
  have hdr:viewF A.l t (vs.drop k)=if t≤(cmt A.l v:Int)then v else viewF A.l t (vs.drop (k+1)):=by
   rw[List.drop_eq_getElem_cons hkl,show vs[k]=v from(List.getElem?_eq_some_iff.1 hv).2];rfl
  rw[hdr]at hvf⊢;refine H.Au (p:=p) (n0:=vs.length) (c:=pc) (T:=35) (sz:=1) (xs:=vs.flatMap uV) aP0 jA fun sb hp=>?_;subst hp;have hrd:∀ {G},Rd1 f (slc (some ⟨sb,0,none⟩) vs.length pc 35 1 (vs.flatMap uV)::G) sb (k*1) (.int .u64 v):=fun {G}=>Rd1.of (i:=0) (Rd.slcElem (vals:=uV) (xs:=vs) uV_len jC aP0 hv) rfl;clear hdr
  refine qgt ?_;refine gI ?_;refine qeV ?_;refine qeJ ?_;refine HB.qu [0,1,2,3,4,5,6,7,8,10] 2 ?_;refine qfw ?_;refine HB.ev 9 ?_;refine qgA ?_;refine H.Af rfl rfl rfl (hcm _ v) ?_;refine qeV ?_;refine qeg ?_;refine HB.qu [11] 0 ?_;refine qju ?_;by_cases hb:t≤(cmt A.l v:Int)
  ·rw[if_pos hb];refine gG ?_;exact qaS
  ·rw[if_neg hb]at hvf⊢;refine gc ?_;refine qgA ?_;refine H.pf (x:=slc _ _ _ 35 _ _) ?_;exact H.ag (k+1) ⟨by show k+1≤vs.length;omega,rfl⟩ kK
 ·have e:k=vs.length:=jA
  subst e;rw[List.drop_length];refine gc ?_;exact qaS
end
abbrev keyIn(k:Int):Value:=.int .i64 k
instance:KeyT prog 3 keyIn:=keyT_int ⟨underlying3⟩
abbrev VtM:=List (Int×Nat)
def vtX(ml:List MV)(i:Nat):Value:=.agg ((ml[i]?.map MV.vals).getD (msgZ.vals none 0)).toArray
def vtV(ml:List MV)(M:VtM):List (Int×Value):=M.map fun e=>(e.1,vtX ml e.2)
def vtG:VtM→Int→Option Nat
 | [],_=>none
 |(k',d)::r,k=>if k=k' then some d else vtG r k
theorem getKV_vtV(ml:List MV):∀(M:VtM) (k:Int),getKV (vtV ml M) k=(vtG M k).map (vtX ml)
 | [],_=>rfl
 | (k', d) :: r, k => by
  show(if k=k' then some (vtX ml d)else getKV (vtV ml r) k)=(if k=k' then some d else vtG r k).map _
  rw[getKV_vtV ml r k]
  split<;>rfl
theorem putKV_vtV(ml:List MV):∀(M:VtM) (k:Int) (d:Nat),vtG M k=none→putKV (vtV ml M) k (vtX ml d)=vtV ml (M++[(k,d)])
 | [],_,_,_=>rfl
 | (k', u) :: r, k, d, h => by
  have h1:¬k=k':=fun e=>by
   have:vtG ((k',u)::r) k=some u:=if_pos e
   rw[this]at h;cases h
  have h2:vtG r k=none:=by
   have:vtG ((k',u)::r) k=vtG r k:=if_neg h1;rw[this]at h;exact h
  show(if k=k' then _ else(k',vtX ml u)::putKV (vtV ml r) k _)=_
  rw[if_neg h1,putKV_vtV ml r k d h2]
  rfl
theorem vtG_mem:∀ {M:VtM} {k:Int} {d:Nat},vtG M k=some d→(k,d)∈M
 | (k', u) :: r, k, d, h => by
  by_cases e:k=k'
  ·have:vtG ((k',u)::r) k=some u:=if_pos e
   rw[this]at h
   cases h
   rw[e]
   exact List.mem_cons_self
  ·have:vtG ((k',u)::r) k=vtG r k:=if_neg e
   rw[this]at h
   exact List.mem_cons_of_mem _ (vtG_mem h)
def vot1(v t:Int)(i:Nat)(m:Msg)(S:Lgs×VtM):Lgs×VtM:=
 match vtG S.2 m.origin with
 |some _=>((S.1.take m).2,S.2)
 |none=>if t≤(PM.voted ((S.1.take m).2.past (orgI m)).all v).getD 0 then((S.1.take m).2,S.2++[(m.origin,i)])else((S.1.take m).2,S.2)
def votTo(n:Nat)(ms:List Msg)(tk:List Nat)(v t:Int):Nat→Lgs×VtM
 |0=>(Lgs.new n,[])
 | k + 1 => match tk[k]?.bind fun i => ms[i]?.map fun m => (i, m) with
  |none=>votTo n ms tk v t k
  |some x=>vot1 v t x.1 x.2 (votTo n ms tk v t k)
def TkI(n:Nat)(ml:List MV)(tk:List Nat):Prop:=∀i∈tk,∃x,ml[i]?=some x∧1≤x.m.origin∧x.m.origin≤(n:Int)
structure VtI(n:Nat)(ml:List MV)(k:Nat)(S:Lgs×VtM):Prop where
 ln:S.1.n=n
 li:LI S.1 k
 ni:NI S.1
 pl:∀e∈S.2,∃x,ml[e.2]?=some x∧x.m.origin=e.1
theorem vot1_I{k:Nat}{S:Lgs×VtM}(h:VtI n ml k S){v t:Int}{i:Nat}{x:MV}(hx:ml[i]?=some x)(hv:0≤x.m.body.view):VtI n ml (k+1) (vot1 v t i x.m S):=by
 have h1:((S.1.take x.m).2).n=n:=by rw[Lgs.take_n];exact h.ln
 have h2:LI (S.1.take x.m).2 (k+1):=h.li.take hv;have h3:NI (S.1.take x.m).2:=h.ni.take x.m
 unfold vot1;split
 ·exact⟨h1,h2,h3,h.pl⟩
 ·split
  ·refine⟨h1,h2,h3,fun e he=>?_⟩;rcases List.mem_append.1 he with h4|h4
   ·exact h.pl e h4
   ·rw[List.mem_singleton.1 h4];exact⟨x,hx,rfl⟩
  ·exact⟨h1,h2,h3,h.pl⟩
theorem votTo_I{n:Nat}(h3:3≤n∧n≤11){ml:List MV}(hvw:∀x∈ml,0≤x.m.body.view){tk:List Nat}(htk:TkI n ml tk)(v t:Int):∀k,k≤tk.length→VtI n ml k (votTo n (ml.map MV.m) tk v t k)
 |0,_=>⟨rfl,LI.new h3.1 h3.2,NI.new n,fun e he=>absurd he List.not_mem_nil⟩
 | k + 1, hk => by
  have hi:tk[k]?=some tk[k]:=lgE hk
  obtain⟨x,hx,_,_⟩:=htk tk[k] (List.getElem_mem hk)
  have hxm:(ml.map MV.m)[tk[k]]?=some x.m:=by rw[List.getElem?_map,hx];rfl
  unfold votTo
  rw[hi]
  show VtI n ml (k+1) (match(ml.map MV.m)[tk[k]]?.map fun m=>(tk[k],m)with|none=>_|some y=>_)
  rw[hxm]
  exact vot1_I (votTo_I h3 hvw htk v t k jA) hx (hvw x (List.mem_of_getElem? hx))
def VotP(f:Frag)(A:List HP)(ml:List MV)(M:VtM):Value→Frag→List HP→Prop:=fun v f' A'=>∃(g:Frag) (mb:Nat),Dj f g∧v= .map (some mb)∧f'=un f g∧A'=mp mb keyIn (vtV ml M)::A
section
variable (f:Frag) (F:List HP)
theorem votes_au_fn(htab:TabAt f)(hfl:Le fl f)(hat:ListAt f ap 121 MV.vals ml)(hg:∀x∈ml,x.Good f)(hfz:fewZ (n:Int))(hI:AuI n ml.length A)(htk:TkI n ml A.tk)(v t:Int):Fn prog 22 [.pointer (some ⟨ab,0,none⟩),.int .u64 v,.int .i64 t] f (auD fl ab n ap ml.length c vp vc A::F) (VotP f (auD fl ab n ap ml.length c vp vc A::F) ml (votTo n (ml.map MV.m) A.tk v t A.tk.length).2):=by
 have hNl:=hI.nl;have htl:=hI.tl
 have h3:=hI.n3;have hnew:=fun G=>plnew_fn f G hfz
 refine qjX fun q hq=>?_;obtain⟨⟨lo,lg,L,fp,fc,tp,tc⟩,dp,dc⟩:=q;show Fn _ _ _ f (row ab 82 (auCD n ap ml.length c lo lg vp A.vd.length vc fp A.fk.length fc (knownS (strm A.M)) dp (decL A.l).length dc (decB A.l).1 tp A.tk.length tc)::slc vp A.vd.length vc 56 1 (A.vd.flatMap vdV)::slc fp A.fk.length fc 68 4 (A.fk.flatMap fkV)::slc tp A.tk.length tc 3 1 (A.tk.flatMap nV)::loreH fl lo n L::plogH fl lg A.l::slc dp (decL A.l).length dc 49 40 ((decL A.l).flatMap Req.vals)::F) _;refine Fn.e3 func22 ntmps22 fun base=>?_;refine gI ?_;refine H.makeMap keyIn rfl rfl fun mb=>?_;refine gF ?_;refine H.cl (hnew _) fun v1 f1 A' hr=>?_;obtain⟨g,lb,hd,rfl,rfl,rfl⟩:=hr;have hup:Le f (un f g):=Le.un f g;have htab2:=zbg htab hup
 have hat2:=hat.mono hup;have hg2:∀x∈ml,x.Good (un f g):=fun y hy=>(hg y hy).mono hup
 obtain⟨f2,hf2⟩:∃f2,un f g=f2:=⟨_,rfl⟩;rw[hf2]at htab2 hat2 hg2⊢;clear hnew;refine gR ?_;refine H.pf (x:=slc dp _ _ 49 _ _) ?_;refine qfd ?_;refine qhp ?_;refine qko ?_;refine qkY ?_;refine H.pf (x:=slc _ _ _ 3 _ _) ?_;refine qeV ?_
 refine H.lo (ι:=Nat) (fun k=>[(33,.int .i64 (k:Int)),(32,.int .i64 (A.tk.length:Nat)),(31,.slice tp A.tk.length tc),(8,.pointer (some ⟨lb,0,none⟩)),(7,.map (some mb)),(2,.int .i64 t),(1,.int .u64 v),(0,.pointer (some ⟨ab,0,none⟩))]) (fun _=>f2)
  (fun k=>row ab 82 (auCD n ap ml.length c lo lg vp A.vd.length vc fp A.fk.length fc (knownS (strm A.M)) dp (decL A.l).length dc (decB A.l).1 tp A.tk.length tc)::slc tp A.tk.length tc 3 1 (A.tk.flatMap nV)::mp mb keyIn (vtV ml (votTo n (ml.map MV.m) A.tk v t k).2)::plogH f2 lb (votTo n (ml.map MV.m) A.tk v t k).1::slc vp A.vd.length vc 56 1 (A.vd.flatMap vdV)::slc fp A.fk.length fc 68 4 (A.fk.flatMap fkV)::loreH fl lo n L::plogH fl lg A.l::slc dp (decL A.l).length dc 49 40 ((decL A.l).flatMap Req.vals)::F) (fun k=>k≤A.tk.length) (fun k=>A.tk.length-k)
  0 (Nat.zero_le _) fun k hk=>?_
 have hk:k≤A.tk.length:=hk;show H _ _ _ [(33,.int .i64 (k:Int)),_,_,_,_,_,_,_] f2 (row ab 82 (auCD n ap ml.length c lo lg vp A.vd.length vc fp A.fk.length fc (knownS (strm A.M)) dp (decL A.l).length dc (decB A.l).1 tp A.tk.length tc)::slc tp A.tk.length tc 3 1 (A.tk.flatMap nV)::mp mb keyIn (vtV ml (votTo n (ml.map MV.m) A.tk v t k).2)::plogH f2 lb (votTo n (ml.map MV.m) A.tk v t k).1::slc vp A.vd.length vc 56 1 (A.vd.flatMap vdV)::slc fp A.fk.length fc 68 4 (A.fk.flatMap fkV)::loreH fl lo n L::plogH fl lg A.l::slc dp (decL A.l).length dc 49 40 ((decL A.l).flatMap Req.vals)::F) _
 have hvw:∀x∈ml,0≤x.m.body.view:=fun x hx=>(hg x hx).2.2.1.1;have hS:=votTo_I h3 hvw htk v t k hk
 by_cases hkl:k<A.tk.length
 ·obtain⟨i,hi⟩:∃i,A.tk[k]?=some i:=⟨_,lgE hkl⟩;obtain⟨x,hx,ho1,ho2⟩:=htk i (List.mem_of_getElem? hi);have hxg:=hg2 x (List.mem_of_getElem? hx);have hil:i<ml.length:=(List.getElem?_eq_some_iff.1 hx).1
  have hxm:(ml.map MV.m)[i]?=some x.m:=by rw[List.getElem?_map,hx];rfl
  have hvs:votTo n (ml.map MV.m) A.tk v t (k+1)=vot1 v t i x.m (votTo n (ml.map MV.m) A.tk v t k):=by
   show(match A.tk[k]?.bind fun i=>(ml.map MV.m)[i]?.map fun m=>(i,m)with|none=>_|some y=>_)=_;rw[hi];show(match(ml.map MV.m)[i]?.map fun m=>(i,m)with|none=>_|some y=>_)=_;rw[hxm];rfl
  obtain⟨ba,off,rfl,rdA⟩:=hat2.all MV.len jC jA;generalize votTo n (ml.map MV.m) A.tk v t k=S at *;have hodd:S.1.n % 2=1:=by rw[hS.ln];exact hI.odd
  have htake:=fun G=>pltakeA_fn f2 G htab2 (fl:=f2) (Le.refl _) (lb:=lb) hS.li jA hS.ni hodd hxg;obtain⟨o,hoo,hon,hor⟩:∃o:Nat,orgI x.m=o∧o<n∧x.m.origin=((o+1:Nat):Int):=⟨(x.m.origin-1).toNat,rfl,by omega,by omega⟩
  have hln:(S.1.take x.m).2.n=n:=by rw[Lgs.take_n];exact hS.ln
  have hvoted:=fun G=>plvoted_fn f2 G (fl:=f2) (Le.refl _) (lb:=lb) (l:=(S.1.take x.m).2) jA (o:=o) jA (v:=v) hor;unfold vot1 at hvs
  rw[hoo]at hvs;generalize(PM.voted ((S.1.take x.m).2.past o).all v)=vd at hvs hvoted;generalize hT2:(S.1.take x.m).2=l2 at *;generalize(S.1.take x.m).1=b2 at *;refine H.Au (p:=tp) (n0:=A.tk.length) (c:=tc) (T:=3) (sz:=1) (xs:=A.tk.flatMap nV) jB jA fun sb hp=>?_;subst hp;have hrd:∀ {G:List HP} {x0:HP},Rd1 f2 (x0::slc (some ⟨sb,0,none⟩) A.tk.length tc 3 1 (A.tk.flatMap nV)::G) sb (k*1) (.int .i64 (i:Nat)):=fun {G x0}=>Rd1.of (i:=0) (Rd.slcElem (vals:=nV) (xs:=A.tk) nV_len jC at1 hi) rfl;refine qgt ?_
  refine gF ?_;refine H.Ak (i:=i) rfl rfl rfl rfl hil rfl ?_;refine qfY fun xb=>?_;skip;refine qf ?_;refine gI ?_;refine qfq ?_;refine qko ?_;refine H.cr (htake _) ?_;refine qfm ?_
  cases hs:vtG S.2 x.m.origin with
  | some i' =>
   rw[hs]at hvs;obtain⟨y,hy,_⟩:=hS.pl _ (vtG_mem hs);have hgv:getKV (vtV ml S.2) x.m.origin=some (.agg y.vals.toArray):=by rw[getKV_vtV,hs];show some (vtX ml i')=_;unfold vtX;rw[hy];rfl
   have hg1:(getKV (vtV ml S.2) x.m.origin).getD (.agg (msgZ.vals none 0).toArray)= .agg y.vals.toArray:=by rw[hgv];rfl
   have hg2:(getKV (vtV ml S.2) x.m.origin).isSome=true:=by rw[hgv];rfl
   clear hgv hs htake hvoted;refine qiH fun zb=>?_;refine H.Ag (ls:=msgZ.vals none 0) (vs:=y.vals) (ls':=y.vals) rfl rfl rfl (zaa rfl) rfl rfl (Nat.le_refl 121) jB ?_;refine gL ?_;exact qan
  | none =>
   rw[hs]at hvs;have hget:getKV (vtV ml S.2) x.m.origin=none:=by rw[getKV_vtV,hs];rfl
   have hput:=putKV_vtV ml S.2 x.m.origin i hs;have hvx:vtX ml i= .agg x.vals.toArray:=by unfold vtX;rw[hx];rfl
   rw[hvx]at hput;have hg1:(getKV (vtV ml S.2) x.m.origin).getD (.agg (msgZ.vals none 0).toArray)= .agg (msgZ.vals none 0).toArray:=by rw[hget];rfl
   have hg2:(getKV (vtV ml S.2) x.m.origin).isSome=false:=by rw[hget];rfl
   clear hget hs htake;have hvs:votTo n (ml.map MV.m) A.tk v t (k+1)=if t≤vd.getD 0 then(l2,S.2++[(x.m.origin,i)])else(l2,S.2):=hvs
   refine qiH fun zb=>?_;refine qfz ?_;refine qfm ?_;refine gU ?_;refine qko ?_;refine H.cr (hvoted _) ?_;refine qfm ?_;by_cases hb:t≤vd.getD 0
   ·rw[if_pos hb]at hvs;refine gg ?_;refine qfq ?_;refine H.mapUpdate (enc:=keyIn) (k:=x.m.origin) (v:=.agg x.vals.toArray) rfl rfl rfl rfl jB rfl ?_;rw[hput];refine gW ?_;exact qan
   ·rw[if_neg hb]at hvs;refine gN ?_;exact qan
 ·have e:k=A.tk.length:=jA
  subst e;refine gc ?_;refine H.pd (x:=plogH _ lb _) ?_;refine qkY ?_;refine H.pf (x:=slc dp _ _ 49 _ _) ?_;refine qjI ?_;refine qhp ?_;refine qeV ?_;refine H.imp (auD_fold (A:=A) ⟨⟨lo,lg,L,fp,fc,tp,tc⟩,dp,dc⟩ hq) ?_;refine qkY ?_;exact H.r1 ⟨g,mb,hd,rfl,hf2.symm,rfl⟩
end
/-! ### What an audit comes to: invariants -/
theorem AuM.runP_I{n N:Nat}{ms:List Msg}(hv:∀m∈ms,0≤m.body.view)(hN:N≤254):∀(k:Nat) {A:AuM},AuI n N A→ZC N A→AuI n N (AuM.runP n ms N k A)∧ZC N (AuM.runP n ms N k A)
 |0,_,h,z=>⟨h,z⟩
 | k + 1, A, h, z => by
  have h1:=(h.passTo hv N (by have:=z.1;omega) (by have:=z.2;omega)).1
  have h2:=(AuM.passTo_zc (n:=n) (ms:=ms) z N).1
  unfold AuM.runP
  split
  ·exact AuM.runP_I hv hN k h1 h2
  ·exact⟨h1,h2⟩
def TkQ(n:Nat)(ms:List Msg)(A:AuM):Prop:=∀i∈A.tk,∃m,ms[i]?=some m∧1≤m.origin∧m.origin≤(n:Int)
theorem chk_fits{S:Strm}(h:chk n S m=0):fitsB n m=true:=by
 cases hf:fitsB n m with
 |true=>rfl
 | false =>
  unfold chk at h;rw[if_pos hf]at h;cases h
variable {ms:List Msg}
theorem AuM.meet_tk(h:TkQ n ms A){k:Nat}(hm:ms[k]?=some m):TkQ n ms (A.meet n m k).1:=by
 unfold AuM.meet;split
 ·exact h
 ·split
  ·rename_i h0
   have hf:=fits_org (chk_fits h0);intro i hi
   rcases List.mem_append.1 hi with h1|h1
   ·exact h i h1
   ·rw[List.mem_singleton.1 h1];exact⟨m,hm,hf.1,hf.2.1⟩
  ·exact h
theorem AuM.passTo_tk{n:Nat}{ms:List Msg}{A:AuM}(h:TkQ n ms A):∀k,TkQ n ms (A.passTo n ms k).1
 |0=>h
 | k + 1 => by
  have i1:=AuM.passTo_tk h k
  unfold AuM.passTo
  cases hm:ms[k]? with
  |none=>exact i1
  | some m =>
   show TkQ n ms (if _ then _ else _:AuM×Bool).1
   split
   ·exact AuM.meet_tk i1 hm
   ·exact i1
theorem AuM.runP_tk{n N:Nat}{ms:List Msg}:∀(k:Nat) {A:AuM},TkQ n ms A→TkQ n ms (AuM.runP n ms N k A)
 |0,_,h=>h
 | k + 1, A, h => by
  have h1:=AuM.passTo_tk h N
  unfold AuM.runP
  split
  ·exact AuM.runP_tk k h1
  ·exact h1
theorem audR_I(hfz:fewZ (n:Int))(hv:∀m∈ms,0≤m.body.view)(hN:ms.length≤254):AuI n ms.length (audR n ms)∧(audR n ms).M.length≤ms.length∧(audR n ms).tk.length≤ms.length∧TkQ n ms (audR n ms):=by
 have h3:3≤n∧n≤11:=⟨by have:=hfz.1;omega,by have:=hfz.2.1;omega⟩
 have hodd:n % 2=1:=qbo
 have hI:=nwM_I h3 hodd (show ms.length≤4096 by omega);obtain⟨hIs,hMs,hTs,_,_⟩:=AuM.siftTo_I (n:=n) hI rfl rfl (ms:=ms) ms.length
 have hzc:ZC ms.length ((nwM n ms.length).siftTo n ms ms.length).1:=by
  have h1:((nwM n ms.length).siftTo n ms ms.length).1.vd.count 0≤((nwM n ms.length).siftTo n ms ms.length).1.vd.length:=List.count_le_length;rw[hIs.vl]at h1
  exact⟨by rw[hMs];show 0+_≤_;omega,by rw[hTs];show 0+_≤_;omega⟩
 have htk:TkQ n ms ((nwM n ms.length).siftTo n ms ms.length).1:=fun i hi=>by rw[hTs]at hi;cases hi
 obtain⟨r1,r2⟩:=AuM.runP_I hv hN (ms.length+1) hIs hzc;exact⟨r1.wt _,by show(AuM.runP n ms ms.length (ms.length+1) _).M.length≤_;have:=r2.1;omega,by show(AuM.runP n ms ms.length (ms.length+1) _).tk.length≤_;have:=r2.2;omega,AuM.runP_tk (ms.length+1) htk⟩
theorem audR_tk(hfz:fewZ (n:Int))(hv:∀x∈ml,0≤x.m.body.view)(hN:ml.length≤254):TkI n ml (audR n (ml.map MV.m)).tk:=fun i hi=>by
 obtain⟨m,hm,h1,h2⟩:=(audR_I hfz (ms:=ml.map MV.m) (fun m hm=>by obtain⟨x,hx,rfl⟩:=List.mem_map.1 hm;exact hv x hx) (by rw[List.length_map];exact hN)).2.2.2 i hi
 rw[List.getElem?_map]at hm
 cases hx:ml[i]? with
 |none=>rw[hx]at hm;cases hm
 | some x =>
  rw[hx]at hm
  cases hm
  exact⟨x,rfl,h1,h2⟩
/-! ### What a proof needs -/
def mxI(a b:Int):Int:=if a<b then b else a
def dpsN(need d:Nat→Int)(j:Nat):Nat→Int:=fun i=>if i<j then mxI (need i) (d i)else need i
def need1(r:Nat)(m:Msg)(S:Nat×(Nat→Int)):Nat×(Nat→Int):=(S.1+1,updF (dpsN S.2 m.deps 11) r (mxI (dpsN S.2 m.deps 11 r) m.number))
def needTo(n:Nat)(ms:List Msg)(M:VtM):Nat→Nat×(Nat→Int)
 |0=>(0,fun _=>0)
 | k + 1 => if (needTo n ms M k).1 ≤ n / 2 then match (vtG M ((k + 1 : Nat) : Int)).bind fun i => ms[i]? with
  |none=>needTo n ms M k
  |some m=>need1 k m (needTo n ms M k)
  else needTo n ms M k
theorem needTo_stop{n:Nat}{ms:List Msg}{M:VtM}{k:Nat}(h:¬(needTo n ms M k).1≤n / 2):∀d,needTo n ms M (k+d)=needTo n ms M k
 |0=>rfl
 | d + 1 => by
  have i:=needTo_stop h d
  show(if(needTo n ms M (k+d)).1≤n / 2 then _ else needTo n ms M (k+d))=_
  rw[if_neg (by rw[i];exact h),i]
theorem needTo_le(n:Nat)(ms:List Msg)(M:VtM):∀k,(needTo n ms M k).1≤k
 |0=>Nat.le_refl _
 | k + 1 => by
  have i:=needTo_le n ms M k
  unfold needTo
  split
  ·split
   ·omega
   ·show(needTo n ms M k).1+1≤_;omega
  ·omega
def prvM(ml:List MV)(need:Nat→Int)(tk:List Nat):List MV:=tk.filterMap fun i=>ml[i]?.bind fun x=>if x.m.number≤need (orgI x.m)then some x else none
def prvV(n:Nat)(ms:List Msg)(A:AuM)(t:Int):VtM:=(votTo n ms A.tk (viewF A.l t (viewsU A.l)) t A.tk.length).2
def prvL(n:Nat)(ml:List MV)(t:Int):List MV:=prvM ml (needTo n (ml.map MV.m) (prvV n (ml.map MV.m) (audR n (ml.map MV.m)) t) n).2 (audR n (ml.map MV.m)).tk
def prvB(n:Nat)(ms:List Msg)(t:Int):Prop:=(audR n ms).fk.length=0∧1≤t∧t≤((decL (audR n ms).l).length:Nat)
def PrvP(f:Frag)(F:List HP)(L:List MV):Value→Frag→List HP→Prop:=fun v f' A'=>∃(g:Frag) (p:Option Addr) (c:Nat),Dj f g∧v= .tuple #[.slice p L.length c,.bool true]∧f'=un f g∧A'=slc p L.length c 54 121 (L.flatMap MV.vals)::F
section
variable (f:Frag) (F:List HP)
theorem dpsN_succ(need d:Nat→Int)(j:Nat):updF (dpsN need d j) j (mxI (dpsN need d j j) (d j))=dpsN need d (j+1):=by
 funext i;unfold updF dpsN;rw[if_neg (Nat.lt_irrefl j)];by_cases h1:i=j
 ·subst h1;rw[if_pos rfl,if_pos (Nat.lt_succ_self i)]
 ·rw[if_neg h1];by_cases h2:i<j
  ·rw[if_pos h2,if_pos jA]
  ·rw[if_neg h2,if_neg jA]
theorem prove_yes(htab:TabAt f)(hfz:fewZ (n:Int))(hat:ListAt f ap 121 MV.vals ml)(hg:∀x∈ml,x.Good f)(hN:ml.length≤254){t:Int}(hyes:prvB n (ml.map MV.m) t):Fn prog 12 [.int .i64 (n:Nat),.slice ap ml.length c,.int .i64 t] f F (PrvP f F (prvL n ml t)):=by
 have hvw:∀x∈ml,0≤x.m.body.view:=fun x hx=>(hg x hx).2.2.1.1;have htkI:=audR_tk hfz hvw hN
 obtain⟨hRI,hRM,hRt,_⟩:=audR_I hfz (ms:=ml.map MV.m) (fun m hm=>by obtain⟨x,hx,rfl⟩:=List.mem_map.1 hm;exact hvw x hx) (by rw[List.length_map];exact hN);rw[List.length_map]at hRI hRM hRt;have h3:3≤n∧n≤11:=⟨by have:=hfz.1;omega,by have:=hfz.2.1;omega⟩
 have hodd:n % 2=1:=qbo
 have hI:=nwM_I h3 hodd (show ml.length≤4096 by omega);have haud:audR n (ml.map MV.m)=(nwM n ml.length).run n (ml.map MV.m) ml.length:=by unfold audR;rw[List.length_map]
 have hbeg:=fun G=>begin_fn f G hfz (ap:=ap) (N:=ml.length) (c:=c) jA;refine Fn.e3 func12 ntmps12 fun base=>?_
 refine gI ?_;refine H.cl (hbeg _) fun v f' A' hr=>?_;obtain⟨g,ab,vp,hd,rfl,rfl,rfl⟩:=hr;have hup:Le f (un f g):=Le.un f g;have hrun:=fun G=>run_fn (un f g) G (zbg htab hup) (Le.refl _) (ab:=ab) (c:=c) (vp:=vp) (vc:=ml.length) (hat.mono hup) (fun y hy=>(hg y hy).mono hup) hN hI rfl rfl rfl
 rw[←haud]at hrun;obtain⟨h1,h2,h3⟩:=hyes;unfold prvL;generalize audR n (ml.map MV.m)=R at *;refine gY ?_;refine H.cl (hrun _) fun v f' A' hr=>?_;obtain⟨g2,hd2,rfl,rfl,rfl⟩:=hr;have hua:un (un f g) g2=un f (un g g2):=zbc _ _ _;have hdj:=Dj.un3' hd hd2
 have hle:Le f (un (un f g) g2):=hup.trans (Le.un _ _);generalize un (un f g) g2=f2 at *
 refine H.Bz fun q hq=>?_;obtain⟨⟨lo,lg,L,fp,fc,tp,tc⟩,dp,dc⟩:=q;refine qfC ?_;have h1':¬(0:Int)<(R.fk.length:Nat):=jA
 have h2':¬t<1:=jA
 have h3':¬((decL R.l).length:Int)<t:=jA
 have hvf:=fun G=>auview_fn f2 G (fl:=f2) (Le.refl _) (ab:=ab) (ap:=ap) (m:=ml.length) (c:=c) (vp:=vp) (vc:=ml.length) hRI jA t;have hvo:=fun G v=>votes_au_fn f2 G (zbg htab hle) (fl:=f2) (Le.refl _) (ab:=ab) (c:=c) (vp:=vp) (vc:=ml.length) (hat.mono hle) (fun y hy=>(hg y hy).mono hle) hfz hRI htkI v t
 unfold VotP at hvo;have hpl:=(votTo_I hRI.n3 hvw htkI (viewF R.l t (viewsU R.l)) t R.tk.length (Nat.le_refl _)).pl;have hV:prvV n (ml.map MV.m) R t=(votTo n (ml.map MV.m) R.tk (viewF R.l t (viewsU R.l)) t R.tk.length).2:=rfl
 rw[hV];refine gg ?_;refine H.pf (x:=slc dp _ _ 49 _ _) ?_;refine qjI ?_;refine qhp ?_;refine qeV ?_;refine H.imp (auD_fold (A:=R) ⟨⟨lo,lg,L,fp,fc,tp,tc⟩,dp,dc⟩ hq) ?_;refine H.cr (hvf _) ?_;refine gI ?_;refine H.cl (hvo _ _) fun v3 f3 A' hr=>?_;obtain⟨g3,mb,hd3,rfl,rfl,rfl⟩:=hr;have hua3:un f2 g3=un f (un (un g g2) g3):=by rw[hua,zbc]
 have hdj3:Dj f (un (un g g2) g3):=by rw[hua]at hd3;exact Dj.un3' hdj hd3
 have hle3:Le f (un f2 g3):=hle.trans (Le.un _ _);clear hvf hvo hV
 generalize(votTo n (ml.map MV.m) R.tk (viewF R.l t (viewsU R.l)) t R.tk.length).2=V at *;obtain⟨f3,hf3⟩:∃f3,un f2 g3=f3:=⟨_,rfl⟩;rw[hf3]at hua3 hle3⊢;have hat3:=hat.mono hle3;have hg3:∀x∈ml,x.Good f3:=fun y hy=>(hg y hy).mono hle3
 refine H.pf (x:=auD _ _ _ _ _ _ _ _ _) ?_;refine H.Bz fun q hq=>?_;obtain⟨⟨lo,lg,L,fp,fc,tp,tc⟩,dp,dc⟩:=q;show H _ _ _ _ _ (row ab 82 (auCD n ap ml.length c lo lg vp R.vd.length ml.length fp R.fk.length fc (knownS (strm R.M)) dp (decL R.l).length dc (decB R.l).1 tp R.tk.length tc)::slc vp R.vd.length ml.length 56 1 (R.vd.flatMap vdV)::slc fp R.fk.length fc 68 4 (R.fk.flatMap fkV)::slc tp R.tk.length tc 3 1 (R.tk.flatMap nV)::loreH f2 lo n L::plogH f2 lg R.l::slc dp (decL R.l).length dc 49 40 ((decL R.l).flatMap Req.vals)::mp mb keyIn (vtV ml V)::F) _;refine qhk ?_;refine qgm ?_;refine H.pd (x:=slc dp _ _ 49 _ _) ?_;have hstop:=fun k=>needTo_stop (n:=n) (ms:=ml.map MV.m) (M:=V) (k:=k);have hnle:=needTo_le n (ml.map MV.m) V
 have hrow:∀k,needTo n (ml.map MV.m) V (k+1)=if(needTo n (ml.map MV.m) V k).1≤n / 2 then match(vtG V ((k+1:Nat):Int)).bind fun i=>(ml.map MV.m)[i]? with|none=>needTo n (ml.map MV.m) V k|some m=>need1 k m (needTo n (ml.map MV.m) V k)else needTo n (ml.map MV.m) V k:=fun k=>rfl
 have h0row:needTo n (ml.map MV.m) V 0=(0,fun _=>0):=rfl;generalize needTo n (ml.map MV.m) V=S at *
 refine gI ?_;refine H.Aj (ls:=v11 fun _=>0) rfl rfl rfl fun nb=>?_;refine gT ?_;refine H.pf (x:=slc tp _ _ 3 _ _) ?_;refine qeV ?_;refine qkY ?_;refine qjY ?_
 refine H.loop (ι:=Nat) (fun k=>[(13,.int .i64 ((k+1:Nat):Int)),(12,.int .i64 ((S k).1:Nat)),(11,.pointer (some ⟨nb,0,none⟩)),(10,.map (some mb)),(8,.pointer (some ⟨ab,0,none⟩)),(6,.slice none 0 0),(1,.slice ap ml.length c),(0,.int .i64 (n:Nat))]) (fun _=>f3)
  (fun k=>row nb 37 (v11 (S k).2)::mp mb keyIn (vtV ml V)::row ab 82 (auCD n ap ml.length c lo lg vp R.vd.length ml.length fp R.fk.length fc (knownS (strm R.M)) dp (decL R.l).length dc (decB R.l).1 tp R.tk.length tc)::slc tp R.tk.length tc 3 1 (R.tk.flatMap nV)::F) (fun k=>k≤n) (fun k=>n-k)
  0 (Nat.zero_le _) ⟨rfl,by show _=some (Value.int .i64 ((S 0).1:Nat));rw[h0row];rfl,rfl,rfl,rfl,rfl,rfl,rfl,trivial⟩ rfl (by show row nb _ _::_=row nb _ (v11 (S 0).2)::_;rw[h0row]) fun k hk=>?_
 have hk:k≤n:=hk;show H _ _ _ [(13,.int .i64 ((k+1:Nat):Int)),(12,.int .i64 ((S k).1:Nat)),_,_,_,_,_,_] f3 (row nb _ (v11 (S k).2)::mp mb keyIn (vtV ml V)::row ab _ _::slc tp R.tk.length tc _ 1 _::F) _
 have hq2:((n:Nat):Int).tdiv 2=((n / 2:Nat):Int):=by rw[show(2:Int)=((2:Nat):Int)from rfl,tdiv64]
 have hSk:=hnle k;by_cases hin:k<n∧(S k).1≤n / 2
 ·obtain⟨hkn,hsm⟩:=hin;have hk1:((k+1:Nat):Int)≤(n:Nat):=jA
  have hs1:(((S k).1:Nat):Int)≤((n / 2:Nat):Int):=jA
  have hr1:=hrow k;rw[if_pos hsm]at hr1
  cases hs:vtG V ((k+1:Nat):Int)with
  | none =>
   rw[hs]at hr1;have hr1:S (k+1)=S k:=hr1;have hgv:getKV (vtV ml V) ((k+1:Nat):Int)=none:=by rw[getKV_vtV,hs];rfl
   have hg1:(getKV (vtV ml V) ((k+1:Nat):Int)).getD (.agg (msgZ.vals none 0).toArray)= .agg (msgZ.vals none 0).toArray:=by rw[hgv];rfl
   have hg2:(getKV (vtV ml V) ((k+1:Nat):Int)).isSome=false:=by rw[hgv];rfl
   clear hgv hs hrow hstop;refine qgx fun xb=>?_;refine qfz ?_;refine gS ?_;refine qgW ?_;exact H.Ar (k+1) (by show k+1≤n;omega) (by show n-(k+1)<n-k;omega) ⟨rfl,by show _=some (Value.int .i64 ((S (k+1)).1:Nat));rw[hr1];rfl,rfl,rfl,rfl,rfl,rfl,rfl,trivial⟩ rfl (by show _=row nb _ (v11 (S (k+1)).2)::_;rw[hr1])
  | some i =>
   obtain⟨x,hx,_⟩:=hpl _ (vtG_mem hs);have hx:ml[i]?=some x:=hx;rw[hs]at hr1
   have hxm:(ml.map MV.m)[i]?=some x.m:=by rw[List.getElem?_map,hx];rfl
   have hr1:S (k+1)=need1 k x.m (S k):=by
    rw[hr1];show(match(ml.map MV.m)[i]? with|none=>_|some m=>_)=_;rw[hxm]
   have hgv:getKV (vtV ml V) ((k+1:Nat):Int)=some (.agg x.vals.toArray):=by rw[getKV_vtV,hs];show some (vtX ml i)=_;unfold vtX;rw[hx];rfl
   have hg1:(getKV (vtV ml V) ((k+1:Nat):Int)).getD (.agg (msgZ.vals none 0).toArray)= .agg x.vals.toArray:=by rw[hgv];rfl
   have hg2:(getKV (vtV ml V) ((k+1:Nat):Int)).isSome=true:=by rw[hgv];rfl
   unfold need1 at hr1;clear hgv hs hrow hstop hxm;generalize S k=T at *;obtain⟨so,nd⟩:=T;have hsm:so≤n / 2:=hsm;have hs1:((so:Nat):Int)≤((n / 2:Nat):Int):=hs1
   have hSk:so≤k:=hSk;refine qkQ ?_
   have hr1:S (k+1)=(so+1,updF (dpsN nd x.m.deps 11) k (mxI (dpsN nd x.m.deps 11 k) x.m.number)):=hr1;refine qgx fun xb=>?_
   refine qf ?_;refine qfm ?_;refine gR ?_;refine qjN ?_
   refine H.lo (ι:=Nat) (fun j=>[(81,.int .i64 (j:Int)),(80,.agg (v11 x.m.deps).toArray),(14,.pointer (some ⟨xb,0,none⟩)),(13,.int .i64 ((k+1:Nat):Int)),(12,.int .i64 ((so+1:Nat):Int)),(11,.pointer (some ⟨nb,0,none⟩)),(10,.map (some mb)),(8,.pointer (some ⟨ab,0,none⟩)),(6,.slice none 0 0),(1,.slice ap ml.length c),(0,.int .i64 (n:Nat))]) (fun _=>f3)
    (fun j=>row xb 54 x.vals::row nb 37 (v11 (dpsN nd x.m.deps j))::mp mb keyIn (vtV ml V)::row ab 82 (auCD n ap ml.length c lo lg vp R.vd.length ml.length fp R.fk.length fc (knownS (strm R.M)) dp (decL R.l).length dc (decB R.l).1 tp R.tk.length tc)::slc tp R.tk.length tc 3 1 (R.tk.flatMap nV)::F) (fun j=>j≤11) (fun j=>11-j)
    0 (Nat.zero_le _) fun j hj=>?_
   have hj:j≤11:=hj;show H _ _ _ [(81,.int .i64 (j:Int)),_,_,_,_,_,_,_,_,_,_] f3 (row xb _ x.vals::row nb _ (v11 (dpsN nd x.m.deps j))::_::_::_::F) _
   by_cases hj11:j<11
   ·have hset:=v11_upd (dpsN nd x.m.deps j) (mxI (dpsN nd x.m.deps j j) (x.m.deps j)) hj11;rw[dpsN_succ]at hset
    refine gG ?_;refine H.indexV (xs:=v11 x.m.deps) (i:=j) rfl rfl rfl rfl hj11 rfl (zau x.m.deps hj11) rfl ?_;refine gI ?_;refine H.Al (i:=j) rfl rfl rfl rfl hj11 rfl ?_;refine H.Ab rfl rfl rfl (by rw[Nat.zero_add,Nat.mul_one];exact Rd1.ofRow at1 (by rw[nthV_eq];exact zau _ hj11)) rfl ?_;refine gI ?_;refine H.max2 (z:=mxI (dpsN nd x.m.deps j j) (x.m.deps j)) rfl rfl rfl rfl rfl ?_;refine H.Al (i:=j) rfl rfl rfl rfl hj11 rfl ?_;refine H.Ba rfl rfl rfl rfl jB ja ?_;refine gW ?_;exact H.ag (j+1) (by show j+1≤11;omega) (by show 11-(j+1)<11-j;omega)
   ·have e:j=11:=jA
    subst e;have hk11:k<11:=jA
    have hset:=v11_upd (dpsN nd x.m.deps 11) (mxI (dpsN nd x.m.deps 11 k) x.m.number) hk11;generalize dpsN nd x.m.deps 11=nd2 at *
    refine gY ?_;refine H.dc [0,1,2,3,4,5,6,7,8,9] (S:=[_,_]) rfl ?_;refine HB.qu [0,1,2,3,4,5,6,7] 3 ?_;refine gK ?_;refine HQ.Al (i:=k) rfl rfl rfl jA hk11 rfl ?_;refine HQ.Ab rfl rfl rfl (by rw[Nat.zero_add,Nat.mul_one];exact Rd1.ofRow at1 (by rw[nthV_eq];exact zau _ hk11)) rfl ?_;refine qfw ?_;refine HB.ev 8 ?_;refine H.max2 (z:=mxI (nd2 k) x.m.number) rfl rfl rfl rfl rfl ?_;refine qeg ?_;refine HB.qu [9] 1 ?_;refine HQ.Al (i:=k) rfl rfl rfl jA hk11 rfl ?_;skip;refine qeA ?_;refine HB.ev 10 ?_;refine H.Ba rfl rfl rfl rfl jB ja ?_;refine qje ?_;refine qgW ?_;exact H.Ar (k+1) (by show k+1≤n;omega) (by show n-(k+1)<n-k;omega) ⟨rfl,by show _=some (Value.int .i64 ((S (k+1)).1:Nat));rw[hr1];rfl,rfl,rfl,rfl,rfl,rfl,rfl,trivial⟩ rfl (by show _=row nb _ (v11 (S (k+1)).2)::_;rw[hr1];rfl)
 ·have hSn:S n=S k:=by
   by_cases hkn:k<n
   ·have:=hstop k jA (n-k);rwa [show k+(n-k)=n from by omega]at this
   ·rw[show k=n from by omega]
  rw[hSn];have hor:¬k<n∨¬(S k).1≤n / 2:=jA
  clear hSn hrow hstop;generalize S k=T at *;obtain⟨so,nd⟩:=T;have hSk:so≤k:=hSk;refine qkQ ?_
  refine(fun(tail:True→?T)=>?main) ?pf
  case main=>
   by_cases hkn:k<n
   ·have hs2:¬((so:Nat):Int)≤((n / 2:Nat):Int):=by
     rcases hor with h|h
     ·exact absurd hkn h
     ·have h:¬so≤n / 2:=h;omega
    have hk1:((k+1:Nat):Int)≤(n:Nat):=jA
    refine qkh ?_;refine gg ?_;exact qbv
   ·have hk1:¬((k+1:Nat):Int)≤(n:Nat):=jA
    refine gX ?_;exact qbv
  case pf=>
   intro _;refine qin ?_;refine H.pd (x:=mp mb _ _) ?_;refine H.slc0 54 121 ?_
   refine H.lo (ι:=Nat×(Option Addr×Nat)) (fun s=>[(108,.int .i64 (s.1:Int)),(107,.int .i64 (R.tk.length:Nat)),(106,.slice tp R.tk.length tc),(11,.pointer (some ⟨nb,0,none⟩)),(6,.slice s.2.1 (prvM ml nd (R.tk.take s.1)).length s.2.2),(1,.slice ap ml.length c)]) (fun _=>f3)
    (fun s=>slc s.2.1 (prvM ml nd (R.tk.take s.1)).length s.2.2 54 121 ((prvM ml nd (R.tk.take s.1)).flatMap MV.vals)::row nb 37 (v11 nd)::slc tp R.tk.length tc 3 1 (R.tk.flatMap nV)::F) (fun s=>s.1≤R.tk.length) (fun s=>R.tk.length-s.1)
    (0,(none,0)) (Nat.zero_le _) fun s hs=>?_
   obtain⟨k,p,pc⟩:=s;have hk:k≤R.tk.length:=hs;show H _ _ _ [(108,.int .i64 (k:Int)),_,_,_,(6,.slice p (prvM ml nd (R.tk.take k)).length pc),_] f3 (slc p (prvM ml nd (R.tk.take k)).length pc _ 121 ((prvM ml nd (R.tk.take k)).flatMap MV.vals)::row nb _ (v11 nd)::slc tp R.tk.length tc _ 1 _::F) _
   have hpl2:(prvM ml nd (R.tk.take k)).length≤k:=Nat.le_trans (List.length_filterMap_le _ _) jd;by_cases hkl:k<R.tk.length
   ·obtain⟨i,hi⟩:∃i,R.tk[k]?=some i:=⟨_,lgE hkl⟩;obtain⟨x,hx,ho1,ho2⟩:=htkI i (List.mem_of_getElem? hi);have hil:i<ml.length:=(List.getElem?_eq_some_iff.1 hx).1;obtain⟨o,hoo,hon,hor⟩:∃o:Nat,orgI x.m=o∧o<n∧x.m.origin=((o+1:Nat):Int):=⟨(x.m.origin-1).toNat,rfl,by omega,by omega⟩
    have ho11:o<11:=by have:=hRI.n3;omega
    have hsn:prvM ml nd (R.tk.take (k+1))=prvM ml nd (R.tk.take k)++(if x.m.number≤nd o then [x]else []):=by
     unfold prvM;rw[zax hi,List.filterMap_append];congr 1;by_cases hc:x.m.number≤nd o
     ·rw[if_pos hc];simp[hx,hoo,hc]
     ·rw[if_neg hc];simp[hx,hoo,hc]
    obtain⟨ba,off,rfl,rdA⟩:=hat3.all MV.len jC jA;generalize prvM ml nd (R.tk.take k)=Q at *;refine H.Au (p:=tp) (n0:=R.tk.length) (c:=tc) (T:=3) (sz:=1) (xs:=R.tk.flatMap nV) jB jA fun sb hp=>?_;subst hp;have hrd:∀ {G:List HP} {x0 x1:HP},Rd1 f3 (x0::x1::slc (some ⟨sb,0,none⟩) R.tk.length tc 3 1 (R.tk.flatMap nV)::G) sb (k*1) (.int .i64 (i:Nat)):=fun {G x0 x1}=>Rd1.of (i:=0) (Rd.slcElem (vals:=nV) (xs:=R.tk) nV_len jC at2 hi) rfl;refine qgt ?_
    refine gI ?_;refine H.Ak (i:=i) rfl rfl rfl rfl hil rfl ?_;refine qfY fun zb=>?_;skip;refine qf ?_;refine gA ?_;refine qjY ?_;refine H.pf (x:=row zb _ _) ?_;refine qkH ?_;refine HQ.Al (i:=o) rfl rfl rfl jA ho11 rfl ?_;refine HQ.Ab rfl rfl rfl (by rw[Nat.zero_add,Nat.mul_one];exact Rd1.ofRow at1 (by rw[nthV_eq];exact zau _ ho11)) rfl ?_;refine gZ ?_;by_cases hb:x.m.number≤nd o
    ·rw[if_pos hb]at hsn;refine gG ?_;refine qfq ?_;refine H.Aq (out:=x.vals) rfl rfl rfl rfl jC jC rfl rfl fun eb=>?_;refine H.Av (sz:=121) (p:=p) (n0:=Q.length) (c:=pc) (xs:=Q.flatMap MV.vals) (m:=1) (news:=x.vals) rfl rfl rfl rfl rfl (fun p' c'=>jB) (Src.slice (Rd.ofRow jB) rfl) (zaa rfl) rfl jA jA fun p2 pc2=>?_;refine gW ?_;refine qgJ ?_;refine H.pd (x:=row zb _ _) ?_;refine H.pf (x:=slc _ _ _ 3 _ _) ?_;refine qjY ?_;refine qky ?_;have e2:Q.length+1=(prvM ml nd (R.tk.take (k+1))).length:=by rw[hsn,lnA];rfl
     have e3:Q.flatMap MV.vals++x.vals=(prvM ml nd (R.tk.take (k+1))).flatMap MV.vals:=by rw[hsn,List.flatMap_append];simp
     rw[e2,e3];exact H.ag (k+1,p2,pc2) (by show k+1≤R.tk.length;omega) jw
    ·rw[if_neg hb,List.append_nil]at hsn;refine gc ?_;refine H.pd (x:=row zb _ _) ?_;refine H.pf (x:=slc _ _ _ 3 _ _) ?_;refine qjY ?_;refine H.pf (x:=slc p _ _ _ _ _) ?_;rw[←hsn];exact H.ag (k+1,p,pc) (by show k+1≤R.tk.length;omega) jw
   ·have e:k=R.tk.length:=jA
    subst e;rw[List.take_length];refine gc ?_;refine H.pd (x:=row nb _ _) ?_;refine H.pd (x:=slc tp _ _ _ _ _) ?_;exact H.Bb rfl rfl rfl iD ⟨_,p,pc,hdj3,rfl,hua3,rfl⟩
end
def accTo(n:Nat)(ms:List Msg):Nat→List Msg×Lgs×Int
 |0=>([],Lgs.new n,0)
 | k + 1 => match ms[k]? with
  |none=>accTo n ms k
  | some m => if (accTo n ms k).2.2 = 0 then
    (if chk n (strm (accTo n ms k).1) m=0 then((accTo n ms k).1++[m],((accTo n ms k).2.1.take m).2,0)else((accTo n ms k).1,(accTo n ms k).2.1,chk n (strm (accTo n ms k).1) m))
   else accTo n ms k
theorem accTo_stop{n:Nat}{ms:List Msg}{k:Nat}(h:¬(accTo n ms k).2.2=0):∀d,accTo n ms (k+d)=accTo n ms k
 |0=>rfl
 | d + 1 => by
  have i:=accTo_stop h d
  show(match ms[k+d]? with|none=>accTo n ms (k+d)|some m=>_)=_
  cases ms[k+d]? with
  |none=>exact i
  | some m =>
   show(if(accTo n ms (k+d)).2.2=0 then _ else accTo n ms (k+d))=_
   rw[if_neg (by rw[i];exact h),i]
structure AcI(n k:Nat)(S:List Msg×Lgs×Int):Prop where
 ln:S.2.1.n=n
 li:∃T,T≤k∧LI S.2.1 T
 ni:NI S.2.1
 ml:S.1.length≤k
theorem accTo_I{n:Nat}(h3:3≤n∧n≤11){ms:List Msg}(hv:∀m∈ms,0≤m.body.view):∀k,AcI n k (accTo n ms k)
 |0=>⟨rfl,⟨0,Nat.le_refl _,LI.new h3.1 h3.2⟩,NI.new n,Nat.le_refl _⟩
 | k + 1 => by
  obtain⟨i1,⟨T,hT,i2⟩,i3,i4⟩:=accTo_I (n:=n) h3 hv k
  unfold accTo
  cases hm:ms[k]? with
  |none=>exact⟨i1,⟨T,by omega,i2⟩,i3,by show(accTo n ms k).1.length≤_;omega⟩
  | some m =>
   show AcI n (k+1) (if _ then _ else _:List Msg×Lgs×Int)
   split
   ·split
    ·exact⟨by show((accTo n ms k).2.1.take m).2.n=n;rw[Lgs.take_n];exact i1,⟨T+1,by omega,i2.take (hv m (List.mem_of_getElem? hm))⟩,i3.take m,by show((accTo n ms k).1++[m]).length≤_;rw[lnA];show _+1≤_;omega⟩
    ·exact⟨i1,⟨T,by omega,i2⟩,i3,by show(accTo n ms k).1.length≤_;omega⟩
   ·exact⟨i1,⟨T,by omega,i2⟩,i3,by show(accTo n ms k).1.length≤_;omega⟩
def accR(n:Nat)(ms:List Msg)(t:Int):List Req×Int:=
 if t<1 then([],1)
 else if¬(accTo n ms ms.length).2.2=0 then([],(accTo n ms ms.length).2.2)
 else if((decL (accTo n ms ms.length).2.1).length:Int)<t then([],4)
 else((decL (accTo n ms ms.length).2.1).take t.toNat,0)
def AccP(f:Frag)(F:List HP)(R:List Req×Int):Value→Frag→List HP→Prop:=fun v f' A'=>∃(g:Frag) (p:Option Addr) (c:Nat),Dj f g∧v= .tuple #[.slice p R.1.length c,.int .i64 R.2]∧f'=un f g∧A'=slc p R.1.length c 49 40 (R.1.flatMap Req.vals)::F
section
variable (f:Frag) (F:List HP)
theorem accepts_fn(htab:TabAt f)(hfz:fewZ (n:Int))(hat:ListAt f ap 121 MV.vals ml)(hg:∀x∈ml,x.Good f)(hN:ml.length≤254)(t:Int):Fn prog 13 [.int .i64 (n:Nat),.slice ap ml.length c,.int .i64 t] f F (AccP f F (accR n (ml.map MV.m) t)):=by
 have h3:3≤n∧n≤11:=⟨by have:=hfz.1;omega,by have:=hfz.2.1;omega⟩
 have hodd:n % 2=1:=qbo
 have hvw:∀m∈ml.map MV.m,0≤m.body.view:=fun m hm=>by
  exact qcm
 have hbeg:=fun G=>begin_fn f G hfz (ap:=ap) (N:=ml.length) (c:=c) jA
 have hacc:accR n (ml.map MV.m) t=if t<1 then([],1)else if¬(accTo n (ml.map MV.m) ml.length).2.2=0 then([],(accTo n (ml.map MV.m) ml.length).2.2)else if((decL (accTo n (ml.map MV.m) ml.length).2.1).length:Int)<t then([],4)else((decL (accTo n (ml.map MV.m) ml.length).2.1).take t.toNat,0):=by
  unfold accR;rw[List.length_map]
 refine Fn.e3 func13 ntmps13 fun base=>?_;refine gI ?_;refine H.cl (hbeg _) fun v f' A' hr=>?_;obtain⟨g,ab,vp,hd,rfl,rfl,rfl⟩:=hr;have hup:Le f (un f g):=Le.un f g;have htab1:=zbg htab hup
 have hat1:=hat.mono hup;have hg1:∀x∈ml,x.Good (un f g):=fun y hy=>(hg y hy).mono hup
 obtain⟨f1,hf1⟩:∃f1,un f g=f1:=⟨_,rfl⟩;rw[hf1]at htab1 hat1 hg1 hup⊢;refine H.Bz fun i hi=>?_;obtain⟨lo,lg,L0,fp,fc,tp,tc⟩:=i;have hi:L0.map MV.m=[]:=hi;show H _ _ _ _ _ (row ab 82 (auC n ap ml.length c lo lg vp (nwM n ml.length).vd.length ml.length fp 0 fc tp 0 tc)::slc vp (nwM n ml.length).vd.length ml.length 56 1 ((nwM n ml.length).vd.flatMap vdV)::slc fp 0 fc 68 4 []::slc tp 0 tc 3 1 []::loreH f1 lo n L0::plogH f1 lg (Lgs.new n)::F) _
 refine qhk ?_;refine H.pd (x:=slc tp _ _ 3 _ _) ?_;generalize(nwM n ml.length).vd.length=vl at *;by_cases ht:t<1
 ·rw[hacc,if_pos ht];refine gN ?_;refine qin ?_;refine qgm ?_;refine H.slc0 49 40 ?_;exact H.Bb rfl rfl rfl iD ⟨g,none,0,hd,rfl,hf1.symm,rfl⟩
 ·rw[if_neg ht]at hacc;refine gN ?_
  refine H.loop (ι:=Nat×Frag×List MV) (fun s=>[(27,.int .i64 (s.1:Int)),(26,.int .i64 (ml.length:Nat)),(25,.slice ap ml.length c),(8,.pointer (some ⟨ab,0,none⟩)),(2,.int .i64 t),(0,.int .i64 (n:Nat))]) (fun s=>un f1 s.2.1)
   (fun s=>row ab 82 (auC n ap ml.length c lo lg vp vl ml.length fp 0 fc tp 0 tc)::loreH (un f1 s.2.1) lo n s.2.2::plogH (un f1 s.2.1) lg (accTo n (ml.map MV.m) s.1).2.1::F)
   (fun s=>s.1≤ml.length∧Dj f1 s.2.1∧s.2.2.map MV.m=(accTo n (ml.map MV.m) s.1).1∧(accTo n (ml.map MV.m) s.1).2.2=0) (fun s=>ml.length-s.1)
   (0,nil0,L0) ⟨Nat.zero_le _,Dj.nil _,hi,rfl⟩ ⟨rfl,rfl,rfl,rfl,rfl,rfl,trivial⟩ (un_nil _).symm (by show row ab _ _::loreH f1 lo n L0::plogH f1 lg (Lgs.new n)::F=row ab _ _::loreH (un f1 nil0) lo n L0::plogH (un f1 nil0) lg (Lgs.new n)::F;rw[un_nil]) fun s hs=>?_
  obtain⟨k,g2,L⟩:=s;obtain⟨hk,hd2,hLm,he0⟩:k≤ml.length∧Dj f1 g2∧L.map MV.m=(accTo n (ml.map MV.m) k).1∧(accTo n (ml.map MV.m) k).2.2=0:=hs;show H _ _ _ [(27,.int .i64 (k:Int)),_,_,_,_,_] (un f1 g2) (row ab _ _::loreH (un f1 g2) lo n L::plogH (un f1 g2) lg (accTo n (ml.map MV.m) k).2.1::F) _;obtain⟨hSn,⟨T,hT,hLI⟩,hNI,hSl⟩:=accTo_I h3 hvw k;have hLl:L.length≤k:=by rw[←hLm,List.length_map]at hSl;exact hSl
  by_cases hkl:k<ml.length
  ·obtain⟨x,hx⟩:∃x,ml[k]?=some x:=⟨_,lgE hkl⟩;have hxm:(ml.map MV.m)[k]?=some x.m:=by rw[List.getElem?_map,hx];rfl
   have hst:=fun(h:¬(accTo n (ml.map MV.m) (k+1)).2.2=0)=>accTo_stop h (ml.length-(k+1));rw[show k+1+(ml.length-(k+1))=ml.length from by omega]at hst
   have hrow:accTo n (ml.map MV.m) (k+1)=if chk n (strm (accTo n (ml.map MV.m) k).1) x.m=0 then((accTo n (ml.map MV.m) k).1++[x.m],((accTo n (ml.map MV.m) k).2.1.take x.m).2,0)else((accTo n (ml.map MV.m) k).1,(accTo n (ml.map MV.m) k).2.1,chk n (strm (accTo n (ml.map MV.m) k).1) x.m):=by
    show(match(ml.map MV.m)[k]? with|none=>_|some m=>_)=_;rw[hxm];show(if(accTo n (ml.map MV.m) k).2.2=0 then _ else _)=_;rw[if_pos he0]
   have hup2:Le f1 (un f1 g2):=Le.un f1 g2;have hxg:=(hg1 x (List.mem_of_getElem? hx)).mono hup2
   have hta:=zbg htab1 hup2;have hat2:=hat1.mono hup2
   obtain⟨ba,off,rfl,rdA⟩:=hat2.all MV.len jC jA;have hadd:=fun G=>ladd_fn (un f1 g2) G hta (Le.refl _) (lb:=lo) (n:=n) (l:=L) (x:=x) hxg jA;unfold AddP at hadd
   rw[hLm]at hadd;generalize hS:accTo n (ml.map MV.m) k=S at *;generalize hck:chk n (strm S.1) x.m=ck at *;refine gG ?_;refine qiR ?_;refine qfY fun mb=>?_;refine qf ?_;refine qjB ?_;refine qgu ?_;refine HB.qu [0,1,2,3,4] 2 ?_;refine qfu ?_;refine qiO ?_;refine H.cl (hadd _) fun v f' A' hr=>?_;obtain⟨g3,qp,qc,rfl,hd3,rfl,rfl⟩:=hr;have hup3:=Le.un (un f1 g2) g3;have hxg3:=hxg.mono hup3
   have hta3:=zbg hta hup3;have hua:un (un f1 g2) g3=un f1 (un g2 g3):=zbc _ _ _
   have hdj:=Dj.un3' hd2 hd3;obtain⟨f3,hf3⟩:∃f3,un (un f1 g2) g3=f3:=⟨_,rfl⟩
   rw[hf3]at hup3 hxg3 hta3 hua⊢;clear hadd;refine qjB ?_;refine H.on [] hup3 rfl ?_;refine HB.qu [6] 0 ?_;refine qgv ?_;by_cases h0:ck=0
   ·rw[if_pos h0]at hrow⊢;have htake:=fun G=>pltakeA_fn f3 G hta3 (lb:=lg) hup3 hLI jA hNI (by rw[hSn];exact hodd) hxg3;subst h0
    refine gY ?_;refine qeu ?_;refine qeV ?_;refine qgu ?_;refine HB.qu [0,1,2,3,4] 1 ?_;refine qkT ?_;refine qje ?_;refine qeH ?_;refine qfd ?_;refine qeV ?_;exact H.Ar (k+1,un g2 g3,L++[⟨x.m,qp,qc⟩]) ⟨by show k+1≤ml.length;omega,hdj,by show(L++[_]).map MV.m=(accTo n (ml.map MV.m) (k+1)).1;rw[hrow,List.map_append,hLm];rfl,by show(accTo n (ml.map MV.m) (k+1)).2.2=0;rw[hrow]⟩ jS ⟨rfl,rfl,rfl,rfl,rfl,rfl,trivial⟩ hua (by show row ab _ _::loreH f3 lo n _::plogH f3 lg (S.2.1.take x.m).2::F=row ab _ _::loreH (un f1 (un g2 g3)) lo n (L++[⟨x.m,qp,qc⟩])::plogH (un f1 (un g2 g3)) lg (accTo n (ml.map MV.m) (k+1)).2.1::F;rw[hua,hrow])
   ·rw[if_neg h0]at hrow⊢;have hne:¬(accTo n (ml.map MV.m) (k+1)).2.2=0:=by rw[hrow];exact h0
    have hR:accTo n (ml.map MV.m) ml.length=(S.1,S.2.1,ck):=by rw[hst hne,hrow]
    rw[hR,if_pos h0]at hacc;rw[hacc];refine gG ?_;refine qeH ?_;refine qin ?_;refine qgm ?_;refine H.slc0 49 40 ?_;exact H.Bb rfl rfl rfl iD ⟨un g (un g2 g3),none,0,Dj.un3' hd (by rw[hf1];exact hdj),rfl,by rw[hua,←hf1,zbc],rfl⟩
  ·have e:k=ml.length:=jA
   subst e;clear hkl;generalize accTo n (ml.map MV.m) ml.length=S at *;have hdec:=fun G=>decided_fn (un f1 g2) G (Le.refl _) (lb:=lg) hLI jA (by rw[hSn];exact hodd);rw[hSn]at hdec
   unfold DecP at hdec;rw[if_neg (by rw[he0];exact fun h=>h rfl)]at hacc;refine gM ?_;refine qgA ?_;refine H.Am rfl rfl rfl (hdec _) fun dp dc=>?_;have hua:un f1 g2=un f (un g g2):=by rw[←hf1,zbc]
   have hdj:Dj f (un g g2):=Dj.un3' hd (by rw[hf1];exact hd2);by_cases hl:((decL S.2.1).length:Int)<t
   ·rw[if_pos hl]at hacc;rw[hacc];refine gG ?_;refine qin ?_;refine qgm ?_;refine H.pd (x:=slc dp _ _ _ _ _) ?_;refine H.slc0 49 40 ?_;exact H.Bb rfl rfl rfl iD ⟨_,none,0,hdj,rfl,hua,rfl⟩
   ·rw[if_neg hl]at hacc;rw[hacc];obtain⟨m,rfl⟩:∃m:Nat,t=(m:Int):=⟨t.toNat,by omega⟩;have hml:m≤(decL S.2.1).length:=jA
    have htl:((decL S.2.1).take ((m:Int)).toNat).length=m:=by rw[Int.toNat_natCast,List.length_take];omega
    refine H.pf (x:=slc dp _ _ _ _ _) ?_;refine qjH fun hcap _ hpl=>?_;refine gc ?_;refine H.sliceTo (hv:=m) rfl rfl rfl rfl jA rfl ?_;refine H.pf (x:=slc dp _ _ _ _ _) ?_;refine H.slc_trunc (m':=m) (ys:=((decL S.2.1).take ((m:Int)).toNat).flatMap Req.vals) hml hcap (by rw[Int.toNat_natCast,flat_take Req.len]) ?_;refine gT ?_;refine qin ?_;refine qgm ?_;exact H.Bb rfl rfl rfl iD ⟨_,dp,dc,hdj,by rw[htl],hua,by rw[htl]⟩
end
def L4(r:Req):Lgs:=⟨3,updF (updF (fun _=>0) 0 1) 1 1,[⟨0,0,[],[(1,r)]⟩],updF (updF (fun _=>PM.new) 0 (PM.new.prepare 0)) 1 (PM.new.commit 0 1 1),fun _=>[]⟩
variable {r:Req}
theorem t16c{t:Nat→UInt8}(hm:(d15 t).may=true):(L1 r).take (d15 t)=((true,0),L4 r):=by
 rw[tk_ok hm (by show(2:Int)≤3;decide) rfl rfl rfl,Lgs.counts_2 (i:=0) (w:=⟨0,0,[],[(1,r)]⟩) rfl rfl rfl,if_neg]
 ·rfl
 ·exact fun h=>Bool.noConfusion (show false=true from h)
theorem dec16b(r:Req):decL (L4 r)=[r]:=by kernel_rfl
theorem dec16c(r:Req):(decB (L4 r)).1=0:=by kernel_rfl
theorem ListAt.take{α:Type}{p:Option Addr}{sz:Nat}{vals:α→List Value}{xs:List α}(h:ListAt f p sz vals xs)(k:Nat):ListAt f p sz vals (xs.take k):=fun i x hi=>by
 rw[List.getElem?_take]at hi
 split at hi
 ·exact h i x hi
 ·cases hi
section
variable (f:Frag) (F:List HP)
end
def A29(p d:Msg)(r:Req):AuM:=⟨[p,d],L4 r,[6,6],[],[1,0]⟩
variable {t3:Nat→UInt8}
theorem chk29{t1:Nat→UInt8}(hr1:(p15 r t1).right=true)(hr3:(d15 t3).right=true)(hf1:fitsB 3 (p15 r t1)=true)(hf3:fitsB 3 (d15 t3)=true):chk 3 (strm []) (d15 t3)=12∧chk 3 (strm []) (p15 r t1)=0∧chk 3 (strm [p15 r t1]) (d15 t3)=0:=by
 have s1:∀i,strm [p15 r t1] i=if i=0 then [p15 r t1]else []:=fun i=>by
  unfold strm;rw[List.filter_cons,show orgI (p15 r t1)=0 from rfl,List.filter_nil];by_cases h:i=0
  ·subst h;rfl
  ·rw[if_neg h,if_neg (by rw[decide_eq_false (fun e=>h e.symm)];decide)]
 refine⟨?_,?_,?_⟩
 ·rw[chk_as hf3 hr3 (o:=1) rfl (z:=1) rfl (d:=(d15 t3).deps) rfl (k:=0) rfl];rw[if_neg jC,if_neg kW,if_pos (.inr (show aboveB (fun i=>if i=0 then 1 else 0) (knownS (strm []))=true by decide))]
 ·rw[chk_as hf1 hr1 (o:=0) rfl (z:=1) rfl (d:=fun _=>0) rfl (k:=0) rfl];rw[if_neg jC,if_neg kW,if_neg jC]
 ·rw[chk_as hf3 hr3 (o:=1) rfl (z:=1) rfl (d:=(d15 t3).deps) rfl (k:=0) (by rw[s1];rfl)]
  have hk:aboveB (d15 t3).deps (knownS (strm [p15 r t1]))=false:=by
   refine zbq.2 fun i hi=>?_;show(if i=0 then 1 else 0:Int)≤(((strm [p15 r t1] i).length:Nat):Int);rw[s1]
   match i with
   |0=>exact Int.le_refl 1
   |i+1=>exact Int.le_refl 0
  rw[if_neg jC,if_neg kW,if_neg ju]
variable {p d:Msg}
theorem aud29(h0:chk 3 (strm []) d=12)(h1:chk 3 (strm []) p=0)(h2:chk 3 (strm [p]) d=0)(k1:(Lgs.new 3).take p=((true,0),L1 r))(k4:(L1 r).take d=((true,0),L4 r))(hn:¬(p.origin,p.number)=(d.origin,d.number)):audR 3 [d,p]=A29 p d r:=by
 have e1:(nwM 3 2).siftTo 3 [d,p] 2=(nwM 3 2,[((d.origin,d.number),0),((p.origin,p.number),1)]):=by
  have a1:(nwM 3 2).siftTo 3 [d,p] 1=(nwM 3 2,[((d.origin,d.number),0)]):=by
   show AuM.sift1 3 [d,p] 0 d (nwM 3 2,[])=_;unfold AuM.sift1;rw[h0,if_neg jC];rfl
  show AuM.sift1 3 [d,p] 1 p ((nwM 3 2).siftTo 3 [d,p] 1)=_;rw[a1];unfold AuM.sift1;rw[h1,if_neg jC];have:sfG [((d.origin,d.number),0)] (p.origin,p.number)=none:=if_neg hn;show(match sfG [((d.origin,d.number),0)] (p.origin,p.number)with|none=>_|some j=>_)=_
  rw[this];rfl
 have e2:(nwM 3 2).passTo 3 [d,p] 2=(⟨[p],L1 r,[0,6],[],[1]⟩,true):=by
  have a1:(nwM 3 2).passTo 3 [d,p] 1=(nwM 3 2,false):=by
   show((if [0,0][0]?=some 0 then(((nwM 3 2).meet 3 d 0).1,false||((nwM 3 2).meet 3 d 0).2)else(nwM 3 2,false)):AuM×Bool)=_
   have hm:(nwM 3 2).meet 3 d 0=(nwM 3 2,false):=by
    unfold AuM.meet;rw[show(nwM 3 2).M=[]from rfl,h0,if_neg jC,if_neg jC]
   rw[hm];rfl
  show((if((nwM 3 2).passTo 3 [d,p] 1).1.vd[1]?=some 0 then((((nwM 3 2).passTo 3 [d,p] 1).1.meet 3 p 1).1,((nwM 3 2).passTo 3 [d,p] 1).2||(((nwM 3 2).passTo 3 [d,p] 1).1.meet 3 p 1).2)else(nwM 3 2).passTo 3 [d,p] 1):AuM×Bool)=_;rw[a1]
  have hm:(nwM 3 2).meet 3 p 1=(⟨[p],L1 r,[0,6],[],[1]⟩,true):=by
   unfold AuM.meet;rw[show(nwM 3 2).M=[]from rfl,h1,if_neg jC,if_pos rfl,show(nwM 3 2).l=Lgs.new 3 from rfl,k1];rfl
  rw[show((nwM 3 2,false):AuM×Bool).1=nwM 3 2 from rfl,hm];rfl
 have e3:(⟨[p],L1 r,[0,6],[],[1]⟩:AuM).passTo 3 [d,p] 2=(A29 p d r,true):=by
  have hm:(⟨[p],L1 r,[0,6],[],[1]⟩:AuM).meet 3 d 0=(A29 p d r,true):=by
   unfold AuM.meet;show(if chk 3 (strm [p]) d=1 then _ else if chk 3 (strm [p]) d=0 then _ else _:AuM×Bool)=_;rw[h2,if_neg jC,if_pos rfl,k4];rfl
  have a1:(⟨[p],L1 r,[0,6],[],[1]⟩:AuM).passTo 3 [d,p] 1=(A29 p d r,true):=by
   show((if [0,6][0]?=some 0 then(((⟨[p],L1 r,[0,6],[],[1]⟩:AuM).meet 3 d 0).1,false||((⟨[p],L1 r,[0,6],[],[1]⟩:AuM).meet 3 d 0).2)else(⟨[p],L1 r,[0,6],[],[1]⟩,false)):AuM×Bool)=_;rw[hm];rfl
  show((if((⟨[p],L1 r,[0,6],[],[1]⟩:AuM).passTo 3 [d,p] 1).1.vd[1]?=some 0 then _ else(⟨[p],L1 r,[0,6],[],[1]⟩:AuM).passTo 3 [d,p] 1):AuM×Bool)=_;rw[a1];rfl
 have e4:(A29 p d r).passTo 3 [d,p] 2=(A29 p d r,false):=rfl;show(AuM.runP 3 [d,p] 2 3 ((nwM 3 2).siftTo 3 [d,p] 2).1).wt 2=_
 rw[e1]
 have f1:AuM.runP 3 [d,p] 2 3 (nwM 3 2)=A29 p d r:=by
  unfold AuM.runP;rw[e2,if_pos rfl];unfold AuM.runP;rw[e3,if_pos rfl];unfold AuM.runP;rw[e4];rfl
 show(AuM.runP 3 [d,p] 2 3 (nwM 3 2)).wt 2=_;rw[f1];rfl
theorem acc29(h1:chk 3 (strm []) p=0)(h2:chk 3 (strm [p]) d=0)(k1:(Lgs.new 3).take p=((true,0),L1 r))(k4:(L1 r).take d=((true,0),L4 r)):accR 3 [p,d] 1=([r],0):=by
 have a1:accTo 3 [p,d] 1=([p],L1 r,0):=by
  show(if(0:Int)=0 then(if chk 3 (strm []) p=0 then([]++[p],((Lgs.new 3).take p).2,0)else([],Lgs.new 3,chk 3 (strm []) p))else([],Lgs.new 3,0):List Msg×Lgs×Int)=_;rw[if_pos rfl,h1,if_pos rfl,k1];rfl
 have a2:accTo 3 [p,d] 2=([p,d],L4 r,0):=by
  show(if(accTo 3 [p,d] 1).2.2=0 then(if chk 3 (strm (accTo 3 [p,d] 1).1) d=0 then((accTo 3 [p,d] 1).1++[d],((accTo 3 [p,d] 1).2.1.take d).2,0)else((accTo 3 [p,d] 1).1,(accTo 3 [p,d] 1).2.1,chk 3 (strm (accTo 3 [p,d] 1).1) d))else accTo 3 [p,d] 1:List Msg×Lgs×Int)=_;rw[a1,if_pos rfl,h2,if_pos rfl,k4];rfl
 unfold accR;show(if(1:Int)<1 then _ else if¬(accTo 3 [p,d] 2).2.2=0 then _ else if((decL (accTo 3 [p,d] 2).2.1).length:Int)<1 then _ else((decL (accTo 3 [p,d] 2).2.1).take 1,0))=_;rw[a2,if_neg jC,if_neg (fun h=>h rfl),dec16b,if_neg (by show¬(1:Int)<1;decide)];rfl
theorem prv29{t1:Nat→UInt8}{qx qy:Option Addr}{cx cy:Nat}(ha:audR 3 [d15 t3,p15 r t1]=A29 (p15 r t1) (d15 t3) r)(k1:(Lgs.new 3).take (p15 r t1)=((true,0),L1 r))(k4:(L1 r).take (d15 t3)=((true,0),L4 r)):prvB 3 [d15 t3,p15 r t1] 1∧prvL 3 [⟨d15 t3,qx,cx⟩,⟨p15 r t1,qy,cy⟩] 1=[⟨p15 r t1,qy,cy⟩,⟨d15 t3,qx,cx⟩]:=by
 constructor
 ·unfold prvB;rw[ha];exact⟨rfl,Int.le_refl 1,by show(1:Int)≤((decL (L4 r)).length:Nat);rw[dec16b];exact Int.le_refl 1⟩
 ·have hv:viewF (L4 r) 1 (viewsU (L4 r))=0:=by
   show(if(1:Int)≤(cmt (L4 r) 0:Nat)then(0:Int)else 0)=0;split<;>rfl
  have v1:votTo 3 [d15 t3,p15 r t1] [1,0] 0 1 1=(L1 r,[(1,1)]):=by
   show vot1 0 1 1 (p15 r t1) (Lgs.new 3,[])=_;unfold vot1;rw[show((Lgs.new 3,([]:VtM)):Lgs×VtM).1=Lgs.new 3 from rfl,k1];rfl
  have v2:votTo 3 [d15 t3,p15 r t1] [1,0] 0 1 2=(L4 r,[(1,1),(2,0)]):=by
   show vot1 0 1 0 (d15 t3) (votTo 3 [d15 t3,p15 r t1] [1,0] 0 1 1)=_;rw[v1];unfold vot1;rw[show((L1 r,[(1,1)]):Lgs×VtM).1=L1 r from rfl,k4];rfl
  have hV:prvV 3 [d15 t3,p15 r t1] (A29 (p15 r t1) (d15 t3) r) 1=[(1,1),(2,0)]:=by
   unfold prvV;show(votTo 3 [d15 t3,p15 r t1] [1,0] (viewF (L4 r) 1 (viewsU (L4 r))) 1 2).2=_;rw[hv,v2]
  unfold prvL;show prvM _ (needTo 3 [d15 t3,p15 r t1] (prvV 3 [d15 t3,p15 r t1] (audR 3 [d15 t3,p15 r t1]) 1) 3).2 (audR 3 [d15 t3,p15 r t1]).tk=_;rw[ha,hV];have n0:(needTo 3 [d15 t3,p15 r t1] [(1,1),(2,0)] 3).2 0=1:=by rfl
  have n1:(needTo 3 [d15 t3,p15 r t1] [(1,1),(2,0)] 3).2 1=1:=by rfl
  generalize(needTo 3 [d15 t3,p15 r t1] [(1,1),(2,0)] 3).2=need at *;show prvM _ need [1,0]=_;unfold prvM;have q1:(1:Int)≤need (orgI (p15 r t1)):=by show(1:Int)≤need 0;rw[n0];exact Int.le_refl 1
  have q2:(1:Int)≤need (orgI (d15 t3)):=by show(1:Int)≤need 1;rw[n1];exact Int.le_refl 1
  have q1:(p15 r t1).number≤need (orgI (p15 r t1)):=q1;have q2:(d15 t3).number≤need (orgI (d15 t3)):=q2
  simp[q1,q2]
section
variable (f:Frag) (F:List HP)
theorem works29_fn(htab:TabAt f):Fn prog 8 [] f F (Ret (.bool true) f F):=by
 obtain⟨hau,hcl,hti⟩:=signed_auth r15_asked;have hp0:=p15_may
 have hokr:r15.Ok:=by
  unfold r15;unfold Req.signed;rw[if_pos r15_asked];exact⟨⟨by show(0:Int)≤1;decide,by show(1:Int)≤18446744073709551615;decide⟩,⟨by show(0:Int)≤0;decide,by show(0:Int)≤18446744073709551615;decide⟩⟩
 have hau:r15.auth=true:=hau;have hsg:=fun e G=>rsigned_fn e G r15u
 have hr15:r15u.signed=r15:=by unfold r15;rfl
 rw[hr15]at hsg
 have hfp:fitsB 3 (p15 r15 noTag)=true:=by
  unfold fitsB;rw[hp0];rfl
 have hfd:fitsB 3 (d15 noTag)=true:=by
  unfold fitsB;rw[d15_may];rfl
 clear hr15 hcl hti;generalize r15=r at *;have rr1:=Msg.signed_isright hp0;have rr3:=Msg.signed_isright d15_may
 obtain⟨t1,e1⟩:=signed_is hp0;obtain⟨t3,e3⟩:=signed_is d15_may;have h1:=fun f G=>rtagged_fn f G (m:=p15 r noTag) (q:=none) (qc:=0) (QAt.nil _ none) (Nat.zero_le _);have h3:=fun f G=>rtagged_fn f G (m:=d15 noTag) (q:=none) (qc:=0) (QAt.nil _ none) (Nat.zero_le _)
 rw[e1]at h1 rr1;rw[e3]at h3 rr3;have m1:(p15 r t1).may=true:=hp0;have m3:(d15 t3).may=true:=d15_may
 have g1:∀f,(⟨p15 r t1,none,0⟩:MV).Good f:=fun f=>⟨QAt.nil f none,Nat.zero_le _,⟨Int.le_refl _,by show(0:Int)≤_;decide⟩,⟨Int.le_refl _,by show(0:Int)≤_;decide⟩,hokr⟩;have g3:∀f,(⟨d15 t3,none,0⟩:MV).Good f:=fun f=>⟨QAt.nil f none,Nat.zero_le _,⟨Int.le_refl _,by show(0:Int)≤_;decide⟩,⟨by show(0:Int)≤1;decide,by show(1:Int)≤_;decide⟩,⟨Int.le_refl _,by show(0:Int)≤_;decide⟩,⟨Int.le_refl _,by show(0:Int)≤_;decide⟩⟩
 have k1:=t15a (r:=r) (t:=t1) m1 hau;have k3:=t16c (r:=r) (t:=t3) m3
 obtain⟨c1,c2,c3⟩:=chk29 (r:=r) (t1:=t1) (t3:=t3) rr1 rr3 hfp hfd;have ha:=aud29 c1 c2 c3 k1 k3 (by intro h;cases h);have hacc:=acc29 c2 c3 k1 k3
 obtain⟨hpb,hpl⟩:=prv29 (qx:=none) (qy:=none) (cx:=0) (cy:=0) ha k1 k3;have hfz:fewZ ((3:Nat):Int):=jC
 have hgl:∀f,∀x∈([⟨d15 t3,none,0⟩,⟨p15 r t1,none,0⟩]:List MV),x.Good f:=fun f x hx=>by
  rcases List.mem_cons.1 hx with h|h
  ·rw[h];exact g3 f
  ·rw[List.mem_singleton.1 h];exact g1 f
 have hgl2:∀f,∀x∈([⟨p15 r t1,none,0⟩,⟨d15 t3,none,0⟩]:List MV),x.Good f:=fun f x hx=>by
  rcases List.mem_cons.1 hx with h|h
  ·rw[h];exact g1 f
  ·rw[List.mem_singleton.1 h];exact g3 f
 have hRun:=fun(e:Frag) (he:Le f e) (p:Option Addr) (hat:ListAt e p 121 MV.vals [⟨d15 t3,none,0⟩,⟨p15 r t1,none,0⟩]) G=>audRun_fn e G (zbg htab he) (n:=3) hfz (c:=2) hat (hgl e) (show 2≤254 by decide);have hPrv:=fun(e:Frag) (he:Le f e) (p:Option Addr) (hat:ListAt e p 121 MV.vals [⟨d15 t3,none,0⟩,⟨p15 r t1,none,0⟩]) G=>prove_yes e G (zbg htab he) (n:=3) hfz (c:=2) hat (hgl e) (show 2≤254 by decide) (t:=1) hpb
 have hAcc:=fun(e:Frag) (he:Le f e) (p:Option Addr) (c:Nat) (hat:ListAt e p 121 MV.vals [⟨p15 r t1,none,0⟩,⟨d15 t3,none,0⟩]) G=>accepts_fn e G (zbg htab he) (n:=3) hfz (c:=c) hat (hgl2 e) (show 2≤254 by decide) 1;have hdl:=dec16b r
 have hdv:=dec16c r;have ha':audR 3 (([⟨d15 t3,none,0⟩,⟨p15 r t1,none,0⟩]:List MV).map MV.m)=A29 (p15 r t1) (d15 t3) r:=ha
 have hacc':accR 3 (([⟨p15 r t1,none,0⟩,⟨d15 t3,none,0⟩]:List MV).map MV.m) 1=([r],0):=hacc;rw[ha']at hRun
 rw[hpl]at hPrv;rw[hacc']at hAcc;unfold A29 RunP repA repC at hRun;rw[show(⟨[p15 r t1,d15 t3],L4 r,[6,6],[],[1,0]⟩:AuM).l=L4 r from rfl,hdl,hdv]at hRun;clear ha ha' hacc hacc' hpl hpb hdl hdv k1 k3 c1 c2 c3 m1 m3 g1 g3 hgl hgl2 rr1 rr3 hfp hfd e1 e3 hau hp0 hokr;have h1:∀f G,Fn prog 14 [.agg ((p15 r noTag).vals none 0).toArray] f G (Ret (.agg ((p15 r t1).vals none 0).toArray) f G):=h1;have h3:∀f G,Fn prog 14 [.agg ((d15 noTag).vals none 0).toArray] f G (Ret (.agg ((d15 t3).vals none 0).toArray) f G):=h3
 obtain⟨kn,hkn⟩:∃kn,knownS (strm [p15 r t1,d15 t3])=kn:=⟨_,rfl⟩
 have hRun:∀(e:Frag),Le f e→∀(p:Option Addr),ListAt e p 121 MV.vals [⟨d15 t3,none,0⟩,⟨p15 r t1,none,0⟩]→∀G,Fn prog 10 [.int .i64 3,.slice p 2 2] e G (fun v f' A'=>∃(g:Frag) (vp:Option Addr) (vc:Nat) (fp:Option Addr) (fc:Nat) (dp:Option Addr) (dc:Nat),Dj e g∧v= .tuple #[.agg (repV vp 2 vc fp 0 fc kn dp 1 dc 0).toArray,.int .i64 0]∧f'=un e g∧A'=slc vp 2 vc 56 1 ([6,6].flatMap vdV)::slc fp 0 fc 68 4 []::slc dp 1 dc 49 40 ([r].flatMap Req.vals)::G):=by
  rw[←hkn];exact hRun
 have hPrv:∀(e:Frag),Le f e→∀(p:Option Addr),ListAt e p 121 MV.vals [⟨d15 t3,none,0⟩,⟨p15 r t1,none,0⟩]→∀G,Fn prog 12 [.int .i64 3,.slice p 2 2,.int .i64 1] e G (PrvP e G [⟨p15 r t1,none,0⟩,⟨d15 t3,none,0⟩]):=hPrv;have hAcc:∀(e:Frag),Le f e→∀(p:Option Addr) (c:Nat),ListAt e p 121 MV.vals [⟨p15 r t1,none,0⟩,⟨d15 t3,none,0⟩]→∀G,Fn prog 13 [.int .i64 3,.slice p 2 c,.int .i64 1] e G (AccP e G ([r],0)):=hAcc
 clear hkn;clear hau;obtain⟨d,hdd⟩:∃d,d15 t3=d:=⟨_,rfl⟩;obtain⟨p,hpp⟩:∃p,p15 r t1=p:=⟨_,rfl⟩;rw[hdd]at h3;rw[hpp]at h1;rw[hdd,hpp]at hRun hPrv hAcc;have hno:=fun e G=>audRun_no e G (z:=4) jC (ap:=none) (N:=0) (c:=0);clear hdd hpp
 refine Fn.e0 func8 ntmps8 fun base=>?_;repeat(first|(refine H.Ay (t:=49) (out:=r15u.vals) rfl rfl rfl jE rfl ?_)|(refine gh ?_))
 refine H.cr (hsg _ _) ?_;refine qgN fun rb=>?_;refine qjT ?_;repeat(first|(refine H.Ay (t:=52) (out:=({Bod.zero 1 with req:=r}:Bod).vals none 0) rfl rfl rfl jE rfl ?_)|(refine H.Ay (t:=54) (out:=(p15 r noTag).vals none 0) rfl rfl rfl jE rfl ?_)|(refine gh ?_)|(refine H.Ad (ls:=r.vals) rfl rfl rfl (Rd.ofRow jB) rfl rfl ?_))
 refine H.Af rfl rfl rfl (h1 f _) ?_;refine qfl fun pb=>?_;refine H.Ag (ls:=msgZ.vals none 0) (vs:=p.vals none 0) (ls':=p.vals none 0) rfl rfl rfl (zaa rfl) rfl rfl (Nat.le_refl 121) aP0 ?_;repeat(first|(refine H.buildA (t:=37) (out:=v11 fun i=>if i=0 then 1 else 0) rfl rfl rfl jE rfl ?_)|(refine H.Ay (t:=52) (out:=({Bod.zero 2 with k:=1}:Bod).vals none 0) rfl rfl rfl jE rfl ?_)|(refine H.Ay (t:=54) (out:=(d15 noTag).vals none 0) rfl rfl rfl jE rfl ?_)|(refine gh ?_))
 refine H.Af rfl rfl rfl (h3 f _) ?_;refine qfl fun db=>?_;refine H.Ag (ls:=msgZ.vals none 0) (vs:=d.vals none 0) (ls':=d.vals none 0) rfl rfl rfl (zaa rfl) rfl rfl (Nat.le_refl 121) aP0 ?_;refine gA ?_;refine qgD fun sb=>?_;refine H.asSlc (k:=2) (sz:=121) rfl jC ?_;refine qjm fun ga hga hda=>?_;have hat1:ListAt (un f ga) (some ⟨sb,0,none⟩) 121 MV.vals [⟨d,none,0⟩,⟨p,none,0⟩]:=(zbh (vals:=MV.vals) (xs:=[⟨d,none,0⟩,⟨p,none,0⟩]) MV.len hga).mono (Le.right hda);have le1:=Le.un f ga
 clear hga hda;generalize un f ga=f1 at *;skip;refine H.Ap rfl rfl rfl (hRun f1 le1 _ hat1 _) fun v f' A' hr=>?_;obtain⟨gb,vp,vc,fp,fc,dp,dc,hdb,rfl,rfl,rfl⟩:=hr;have le2:=le1.trans (Le.un f1 gb);clear hdb
 generalize un f1 gb=f2 at *;refine gO ?_;refine qjn fun rp=>?_;refine H.Ag (ls:=repZ) (vs:=repV vp 2 vc fp 0 fc kn dp 1 dc 0) (ls':=repV vp 2 vc fp 0 fc kn dp 1 dc 0) rfl rfl rfl (zaa rfl) rfl rfl (Nat.le_refl 15) aP0 ?_;refine H.pf (x:=row pb _ _) ?_;refine H.pf (x:=row db _ _) ?_;refine gI ?_;refine qgD fun sb2=>?_;refine H.asSlc (k:=2) (sz:=121) rfl jC ?_;refine qjm fun ga hga hda=>?_;have hat2:ListAt (un f2 ga) (some ⟨sb2,0,none⟩) 121 MV.vals [⟨d,none,0⟩,⟨p,none,0⟩]:=(zbh (vals:=MV.vals) (xs:=[⟨d,none,0⟩,⟨p,none,0⟩]) MV.len hga).mono (Le.right hda);have le3:=le2.trans (Le.un f2 ga)
 clear hga hda;generalize un f2 ga=f3 at *;skip;refine H.Ap rfl rfl rfl (hPrv f3 le3 _ hat2 _) fun v f' A' hr=>?_;obtain⟨gb,pq,pc,hdb,rfl,rfl,rfl⟩:=hr;have le4:=le3.trans (Le.un f3 gb);clear hdb
 generalize un f3 gb=f4 at *;refine qjm fun ga hga hda=>?_;have hat3:ListAt (un f4 ga) pq 121 MV.vals [⟨p,none,0⟩,⟨d,none,0⟩]:=(zbh (vals:=MV.vals) (xs:=[⟨p,none,0⟩,⟨d,none,0⟩]) MV.len hga).mono (Le.right hda);have le5:=le4.trans (Le.un f4 ga)
 clear hga hda;generalize un f4 ga=f5 at *;refine gO ?_;refine H.Ap rfl rfl rfl (hAcc f5 le5 _ pc hat3 _) fun v f' A' hr=>?_;obtain⟨gb,aq,ac,hdb,rfl,rfl,rfl⟩:=hr;have le6:=le5.trans (Le.un f5 gb);clear hdb
 generalize un f5 gb=f6 at *;show H _ _ _ ((_,.tuple #[.slice aq 1 ac,.int .i64 0])::_) _ (slc aq 1 ac _ 40 ([r].flatMap Req.vals)::_) _;refine gO ?_;refine H.Af rfl rfl rfl (hno f6 _) ?_;refine gO ?_;refine qjn fun rq=>?_;refine H.Ag (ls:=repZ) (vs:=repZ) (ls':=repZ) rfl rfl rfl (zaa rfl) rfl rfl (Nat.le_refl 15) aP0 ?_;refine qeK ?_;refine H.pd (x:=row db _ _) ?_;refine H.pd (x:=row pb _ _) ?_;clear hAcc hPrv hRun h1 h3 hsg hno;refine H.pf (x:=row rb _ _) ?_;refine H.pf (x:=slc vp _ _ _ _ _) ?_;refine H.pf (x:=slc aq _ _ _ _ _) ?_;refine H.pf (x:=row rp _ _) ?_;refine H.Au (p:=vp) (n0:=2) (c:=vc) (T:=56) (sz:=1) (xs:=[6,6].flatMap vdV) at2 jA fun sv hp=>?_;subst hp;refine H.Au (p:=aq) (n0:=1) (c:=ac) (T:=49) (sz:=40) (xs:=[r].flatMap Req.vals) at1 jA fun sq hp=>?_;subst hp;have hv0:∀ {G:List HP} {x0 x1:HP},Rd1 f6 (x0::x1::slc (some ⟨sv,0,none⟩) 2 vc 56 1 ([6,6].flatMap vdV)::G) sv (0*1) (.int .u8 6):=fun {G x0 x1}=>Rd1.of (i:=0) (Rd.slcElem (vals:=vdV) (xs:=[6,6]) vdV_len jC at2 (show([6,6]:List Nat)[0]?=some 6 from rfl)) rfl;have hv1:∀ {G:List HP} {x0 x1:HP},Rd1 f6 (x0::x1::slc (some ⟨sv,0,none⟩) 2 vc 56 1 ([6,6].flatMap vdV)::G) sv (1*1) (.int .u8 6):=fun {G x0 x1}=>Rd1.of (i:=0) (Rd.slcElem (vals:=vdV) (xs:=[6,6]) vdV_len jC at2 (show([6,6]:List Nat)[1]?=some 6 from rfl)) rfl
 have hrq:∀ {G:List HP} {x0:HP},Rd f6 (x0::slc (some ⟨sq,0,none⟩) 1 ac 49 40 ([r].flatMap Req.vals)::G) sq (0*40) r.vals:=fun {G x0}=>Rd.slcElem (vals:=Req.vals) (xs:=[r]) Req.len jC at1 (show([r]:List Req)[0]?=some r from rfl);refine gI ?_
 refine H.dq ?_;refine gZ ?_;refine HQ.Ak (i:=0) rfl rfl rfl rfl jA rfl ?_;refine HQ.Ab rfl rfl rfl (by rw[Nat.zero_add];exact hv0) rfl ?_;refine gZ ?_;refine HQ.Ak (i:=1) rfl rfl rfl rfl jA rfl ?_;refine HQ.Ab rfl rfl rfl (by rw[Nat.zero_add];exact hv1) rfl ?_;refine gZ ?_;refine HQ.Ak (i:=0) rfl rfl rfl rfl jA rfl ?_;refine HQ.Ad (ls:=r.vals) rfl rfl rfl (by rw[Nat.zero_add];exact hrq) rfl rfl ?_;refine HQ.Ad (ls:=r.vals) rfl rfl rfl (Rd.ofRow at3) rfl rfl ?_;refine HQ.aggEq (xs:=r.vals) (ys:=r.vals) (D:=4) (b:=true) rfl rfl rfl rfl jE jE jE jE jC (eqC_refl rfl) rfl ?_;refine gZ ?_;refine gT ?_;refine H.pd (x:=row rp _ _) ?_;refine H.pd (x:=slc _ _ _ 49 _ _) ?_;refine H.pd (x:=slc _ _ _ 56 _ _) ?_;refine H.pd (x:=row rb _ _) ?_;refine H.pd (x:=slc fp _ _ _ _ _) ?_;refine H.pd (x:=slc dp _ _ _ _ _) ?_;refine H.weakL le6 ?_;exact qaj
end
variable {x y:Msg}
theorem wuniq{all:List Msg}(hW:WOK n all)(hx:x∈all)(hy:y∈all)(ho:orgI x=orgI y)(hn:x.number=y.number):x=y:=by
 obtain⟨p,hp⟩:=strm_mem hx;obtain⟨q,hq⟩:=strm_mem hy;rw[←ho]at hq;have h1:=zcc hW hp;have h2:=zcc hW hq
 have:p=q:=jA
 subst this;rw[hp]at hq;exact Option.some.inj hq
variable {u:Nat→Int}
theorem upto_at{pre post:List Msg}(hW:WOK n (pre++m::post))(hn:m.number=u (orgI m)+1):uptoS (pre++m::post) u (orgI m)=strm pre (orgI m)∧strm (pre++m::post) (orgI m)=strm pre (orgI m)++m::strm post (orgI m):=by
 have hnum:=hW.at.num
 have hall:strm (pre++m::post) (orgI m)=strm pre (orgI m)++m::strm post (orgI m):=by
  rw[strm_app,strm_cons,if_pos rfl];rfl
 refine⟨?_,hall⟩;unfold uptoS;have hu:(u (orgI m)).toNat=cnt pre (orgI m):=jA
 rw[hu,hall];unfold cnt;exact List.take_left
theorem wchk0{all:List Msg}(hW:WOK n all)(hu:Knw all u)(hm:m∈all)(hn:m.number=u (orgI m)+1)(hd:∀i,i<11→m.deps i≤u i):chk n (uptoS all u) m=0:=by
 obtain⟨pre,post,rfl⟩:=List.append_of_mem hm;have hok:=hW.at;obtain⟨h1,_⟩:=upto_at hW hn
 refine chk_ok hok.fits hok.right ?_ (fun hp i hi=>?_) fun i hi=>?_
 ·rw[h1];exact hok.num
 ·rw[h1]at hp⊢;exact qbW
 ·rw[knownS_uptoS hu];exact hd i hi
theorem wchk{all:List Msg}(hW:WOK n all)(hu:Knw all u)(hm:m∈all):(m.number≤u (orgI m)∧chk n (uptoS all u) m=13)∨(u (orgI m)<m.number∧chk n (uptoS all u) m=12)∨(m.number=u (orgI m)+1∧(∀i,i<11→m.deps i≤u i)∧chk n (uptoS all u) m=0):=by
 have hk:=knownS_uptoS hu;have hlen:(((uptoS all u (orgI m)).length:Nat):Int)=u (orgI m):=hk (orgI m)
 have hfr:fitsB n m=true∧m.right=true:=by
  obtain⟨pre,post,rfl⟩:=List.append_of_mem hm;exact⟨hW.at.fits,hW.at.right⟩
 by_cases h1:m.number≤u (orgI m)
 ·refine .inl ⟨h1,?_⟩;unfold chk;rw[if_neg (by rw[hfr.1];decide),if_neg (by rw[hfr.2];decide),if_pos jA]
 ·by_cases h2 : m.number = u (orgI m) + 1 ∧ ∀ i, i < 11 → m.deps i ≤ u i
  ·exact .inr (.inr ⟨h2.1,h2.2,wchk0 hW hu hm h2.1 h2.2⟩)
  ·refine .inr (.inl ⟨by omega,?_⟩);unfold chk;rw[if_neg (by rw[hfr.1];decide),if_neg (by rw[hfr.2];decide),if_neg jA,if_neg,if_pos]
   ·by_cases h3 : m.number = u (orgI m) + 1
    ·right
     cases ha:aboveB m.deps (knownS (uptoS all u))with
     |true=>rfl
     | false =>
      refine absurd ⟨h3,fun i hi=>?_⟩ h2
      have:=zbq.1 ha i hi;rwa [hk]at this
    ·left;omega
   ·rintro⟨e,hp,ha⟩;obtain⟨pre,post,rfl⟩:=List.append_of_mem hm;obtain⟨g1,_⟩:=upto_at (u:=u) hW jA;rw[g1]at hp ha;obtain⟨x,hx,e2⟩:=lastD_mem hp;unfold strm at hx;rw[List.mem_filter]at hx;rw[e2,zbq.2 fun i hi=>hW.at.mono x hx.1 (of_decide_eq_true hx.2) i hi]at ha;cases ha
theorem wtake{all:List Msg}(hW:WOK n all)(hu:Knw all u)(hm:m∈all)(h0:chk n (uptoS all u) m=0):addS (uptoS all u) m=uptoS all (nextU u m)∧Knw all (nextU u m):=by
 obtain⟨hn,hd⟩:m.number=u (orgI m)+1∧∀i,i<11→m.deps i≤u i:=by
  rcases wchk hW hu hm with⟨_,h⟩|⟨_,h⟩|⟨a,b,_⟩
  ·rw[h]at h0;cases h0
  ·rw[h]at h0;cases h0
  ·exact⟨a,b⟩
 have hun:∀x∈all,orgI x=orgI m→x.number=m.number→x=m:=fun x hx e1 e2=>wuniq hW hx hm e1 e2;obtain⟨pre,post,rfl⟩:=List.append_of_mem hm
 obtain⟨g1,g2⟩:=upto_at hW hn;have hnum:=hW.at.num;have hle:=hu.le (orgI m)
 have hge:∀i,u i≤nextU u m i:=fun i=>by
  unfold nextU updF;split
  ·rename_i e;rw[e];omega
  ·exact Int.le_refl _
 constructor
 ·funext i;unfold addS updF;by_cases e:i=orgI m
  ·subst e;rw[if_pos rfl,g1];have e1:nextU u m (orgI m)=u (orgI m)+1:=by unfold nextU updF;rw[if_pos rfl]
   unfold uptoS;rw[e1,g2,show(u (orgI m)+1).toNat=(strm pre (orgI m)).length+1 by unfold cnt at hnum;omega];rw[List.take_append,List.take_of_length_le jA,Nat.add_sub_cancel_left];rfl
  ·rw[if_neg e];have e1:nextU u m i=u i:=by unfold nextU updF;rw[if_neg e]
   unfold uptoS;rw[e1]
 ·refine⟨fun i=>?_,fun x hx hxn i hi=>?_⟩
  ·by_cases e : i = orgI m
   ·subst e;have e1:nextU u m (orgI m)=u (orgI m)+1:=by unfold nextU updF;rw[if_pos rfl]
    have e2:cnt (pre++m::post) (orgI m)=cnt pre (orgI m)+1+cnt post (orgI m):=by
     unfold cnt;rw[g2,lnA,List.length_cons];omega
    rw[e1,e2];omega
   ·have e1:nextU u m i=u i:=by unfold nextU updF;rw[if_neg e]
    rw[e1];exact hu.le i
  ·refine Int.le_trans ?_ (hge i);by_cases e:orgI x=orgI m
   ·have e1:nextU u m (orgI m)=u (orgI m)+1:=by unfold nextU updF;rw[if_pos rfl]
    rw[e,e1]at hxn;by_cases h:x.number≤u (orgI m)
    ·exact hu.closed x hx (by rw[e];exact h) i hi
    ·rw[hun x hx e jA];exact hd i hi
   ·have e1:nextU u m (orgI x)=u (orgI x):=by unfold nextU updF;rw[if_neg e]
    rw[e1]at hxn;exact hu.closed x hx hxn i hi
structure WR(n:Nat)(U ms:List Msg)(u:Nat→Int)(A:AuM):Prop where
 knw:Knw U u
 st:strm A.M=uptoS U u
 run:RunF (Lgs.new n) A.M
 lg:A.l=lgsOf n A.M
 vl:A.vd.length=ms.length
 v0:∀(i:Nat) (m:Msg),ms[i]?=some m→(∀j,j<i→ms[j]?≠some m)→(A.vd[i]?=some 0∧u (orgI m)<m.number)∨(∃c,(m,c)∈outF (Lgs.new n) A.M∧A.vd[i]?=some (if c=true then 6 else 5))
 v2:∀(i j:Nat) (m:Msg),ms[i]?=some m→j<i→ms[j]?=some m→A.vd[i]?=some 2
 fk:A.fk=[]
variable {U:List Msg}
theorem WR.known(h:WR n U ms u A)(r:Nat):A.l.known r=u r:=by
 have h1:=run_known h.run r;have h2:stF (Lgs.new n) A.M=A.l:=by rw[h.lg];exact zbo n A.M _
 rw[h2]at h1;rw[h1];have h3:=knownS_uptoS h.knw r;rw[←h.st]at h3
 show(0:Int)+((cnt A.M r:Nat):Int)=u r;rw[←h3];unfold knownS cnt;omega
theorem WR.rdy(hW:WOK n U)(hv:∀m∈U,0≤m.body.view)(h:WR n U ms u A)(hm:m∈U)(hn:m.number=u (orgI m)+1)(hd:∀i,i<11→m.deps i≤u i):Rdy A.l m:=by
 obtain⟨i,hi⟩:=List.getElem?_of_mem hm;have hf:=(hW i m hi).fits;unfold fitsB at hf
 simp only[Bool.and_eq_true]at hf;obtain⟨h1,h2,h3,_⟩:=hf;have hln:A.l.n=n:=by rw[h.lg];exact lgsOf_n _ _
 exact⟨h1,by rw[hln];exact of_decide_eq_true h2,by rw[hln];exact h3,hv m hm,by rw[h.known];exact hn,fun j hj=>by rw[h.known];exact hd j hj⟩
theorem WR.meet{n:Nat}{U ms:List Msg}{u:Nat→Int}{A:AuM}(hW:WOK n U)(hv:∀m∈U,0≤m.body.view)(h:WR n U ms u A)(hs:∀m∈ms,m∈U){k:Nat}{m:Msg}(hm:ms[k]?=some m)(hz:A.vd[k]?=some 0):(A.meet n m k=(A,false)∧chk n (uptoS U u) m≠0)∨((A.meet n m k).2=true∧WR n U ms (nextU u m) (A.meet n m k).1):=by
 have hmU:=hs m (List.mem_of_getElem? hm);rcases wchk hW h.knw hmU with⟨_,e⟩|⟨_,e⟩|⟨hn,hdp,h0⟩
 ·exact qcD
 ·exact qcD
 ·right
  have hd:A.meet n m k=({A with M:=A.M++[m],l:=(A.l.take m).2,vd:=A.vd.set k (if(A.l.take m).1.1=true then 6 else 5),tk:=A.tk++[k]},true):=by
   unfold AuM.meet;rw[h.st,h0,if_neg jC,if_pos rfl]
  rw[hd];refine⟨rfl,?_⟩;have hrd:=h.rdy hW hv hmU hn hdp;obtain⟨t1,t2⟩:=wtake hW h.knw hmU h0
  have hkl:k<A.vd.length:=(List.getElem?_eq_some_iff.1 hz).1;have hst:stF (Lgs.new n) A.M=A.l:=by rw[h.lg];exact zbo n A.M _
  have hout:outF (Lgs.new n) (A.M++[m])=outF (Lgs.new n) A.M++[(m,(A.l.counts m).1)]:=by
   rw[outF_app,hst];rfl
  have hfirst:∀j,j<k→ms[j]?≠some m:=fun j hj e=>by
   have:=h.v2 k j m hm hj e;rw[hz]at this
   cases this
  have hnx:nextU u m (orgI m)=u (orgI m)+1:=by unfold nextU;rw[zae]
  refine⟨t2,by show strm (A.M++[m])=_;rw[strm_snoc,h.st,t1],RunF.app.2 ⟨h.run,by rw[hst];exact⟨hrd,trivial⟩⟩,by show(A.l.take m).2=lgsOf n (A.M++[m]);rw[lgsOf_snoc,h.lg],by show(A.vd.set k _).length=_;rw[List.length_set];exact h.vl,fun i x hi hf=>?_,fun i j x hi hj hjx=>?_,h.fk⟩
  ·show((A.vd.set k _)[i]?=some 0∧_)∨∃c,(x,c)∈outF (Lgs.new n) (A.M++[m])∧(A.vd.set k _)[i]?=_;rw[hout];by_cases e:i=k
   ·subst e;rw[hm]at hi;cases hi
    right;refine⟨(A.l.counts m).1,List.mem_append.2 (.inr (List.mem_singleton.2 rfl)),?_⟩;rw[List.getElem?_set_self hkl,hrd.take]
   ·rw[List.getElem?_set_ne (fun e2=>e e2.symm)];rcases h.v0 i x hi hf with⟨a,b⟩|⟨c,a,b⟩
    ·left;refine⟨a,?_⟩;by_cases ho:orgI x=orgI m
     ·rw[ho,hnx];rw[ho]at b;by_cases e2:x.number=u (orgI m)+1
      ·have:=wuniq hW (hs x (List.mem_of_getElem? hi)) hmU ho jA;subst this
       rcases Nat.lt_or_gt_of_ne e with h1|h1
       ·exact absurd hi (hfirst i h1)
       ·exact absurd hm (hf k h1)
      ·omega
     ·unfold nextU;rw[zag _ _ ho];exact b
    ·right;exact⟨c,List.mem_append.2 (.inl a),b⟩
  ·show(A.vd.set k _)[i]?=some 2;have h2:=h.v2 i j x hi hj hjx;rw[List.getElem?_set_ne (fun e=>by subst e;rw[hz]at h2;cases h2)]
   exact h2
theorem WR.pass{n:Nat}{U ms:List Msg}(hW:WOK n U)(hv:∀m∈U,0≤m.body.view)(hs:∀m∈ms,m∈U){u:Nat→Int}{A:AuM}(h:WR n U ms u A):∀k,
  (∃ u', WR n U ms u' (A.passTo n ms k).1) ∧ (A.passTo n ms k = (A, false) ∨ (A.passTo n ms k).2 = true) ∧
   (∀p m,p<k→ms[p]?=some m→A.vd[p]?=some 0→chk n (uptoS U u) m=0→(A.passTo n ms k).2=true)
 |0=>⟨⟨u,h⟩,.inl rfl,fun p m hp=>absurd hp (Nat.not_lt_zero p)⟩
 | k + 1 => by
  obtain⟨⟨u',i1⟩,i2,i3⟩:=WR.pass hW hv hs h k
  have hst:A.passTo n ms (k+1)=(match ms[k]? with|none=>A.passTo n ms k|some m=>if(A.passTo n ms k).1.vd[k]?=some 0 then(((A.passTo n ms k).1.meet n m k).1,(A.passTo n ms k).2||((A.passTo n ms k).1.meet n m k).2)else A.passTo n ms k):=rfl
  rw[hst]
  clear hst
  cases hm:ms[k]? with
  | none =>
   refine⟨⟨u',i1⟩,i2,fun p m hp hpm=>?_⟩
   by_cases e:p=k
   ·subst e;rw[hm]at hpm;cases hpm
   ·exact i3 p m jA hpm
  | some m =>
   show(∃u',WR n U ms u' (if(A.passTo n ms k).1.vd[k]?=some 0 then(((A.passTo n ms k).1.meet n m k).1,(A.passTo n ms k).2||((A.passTo n ms k).1.meet n m k).2)else A.passTo n ms k).1)∧((if(A.passTo n ms k).1.vd[k]?=some 0 then(((A.passTo n ms k).1.meet n m k).1,(A.passTo n ms k).2||((A.passTo n ms k).1.meet n m k).2)else A.passTo n ms k)=(A,false)∨(if(A.passTo n ms k).1.vd[k]?=some 0 then(((A.passTo n ms k).1.meet n m k).1,(A.passTo n ms k).2||((A.passTo n ms k).1.meet n m k).2)else A.passTo n ms k).2=true)∧(∀(p:Nat) (x:Msg),p<k+1→ms[p]?=some x→A.vd[p]?=some 0→chk n (uptoS U u) x=0→(if(A.passTo n ms k).1.vd[k]?=some 0 then(((A.passTo n ms k).1.meet n m k).1,(A.passTo n ms k).2||((A.passTo n ms k).1.meet n m k).2)else A.passTo n ms k).2=true)
   by_cases hz:(A.passTo n ms k).1.vd[k]?=some 0
   ·simp only[if_pos hz]
    rcases i1.meet hW hv hs hm hz with⟨e1,e2⟩|⟨e1,e2⟩
    ·rw [e1]
     refine⟨⟨u',i1⟩,?_,fun p x hp hpx hpz hpc=>?_⟩
     ·rcases i2 with e|e
      ·rw[e];exact .inl rfl
      ·rw[e];exact .inr rfl
     ·by_cases e : p = k
      ·subst e
       rw[hm]at hpx
       cases hpx
       rcases i2 with e|e
       ·rw[e]at e1
        exfalso
        rw[e]at i1
        have hh:=h.meet hW hv hs hm hpz
        rcases hh with⟨_,b⟩|⟨b,_⟩
        ·exact b hpc
        ·have e1:A.meet n m p=(A,false):=e1
         rw[e1]at b;cases b
       ·show((A.passTo n ms p).2||false)=true
        rw[e];rfl
      ·show((A.passTo n ms k).2||false)=true
       rw[i3 p x jA hpx hpz hpc];rfl
    ·rw[e1]
     refine⟨⟨_,e2⟩,.inr (Bool.or_true _),fun p x hp hpx hpz hpc=>Bool.or_true _⟩
   ·simp only[if_neg hz]
    refine⟨⟨u',i1⟩,i2,fun p x hp hpx hpz hpc=>?_⟩
    by_cases e:p=k
    ·subst e
     rcases i2 with e|e
     ·rw[e]at hz;exact absurd hpz hz
     ·exact e
    ·exact i3 p x jA hpx hpz hpc
theorem WR.runP{n:Nat}{U ms:List Msg}(hW:WOK n U)(hv:∀m∈U,0≤m.body.view)(hs:∀m∈ms,m∈U)(ha:∀m∈U,m∈ms):∀(k:Nat) {u:Nat→Int} {A:AuM},WR n U ms u A→ZC ms.length A→A.vd.count 0<k→
  ∃u',WR n U ms u' (AuM.runP n ms ms.length k A)∧unk u' U=[]
 |0,_,_,_,_,hk=>absurd hk (Nat.not_lt_zero _)
 | k + 1, u, A, h, hz, hk => by
  obtain⟨⟨u',i1⟩,i2,i3⟩:=h.pass hW hv hs ms.length
  obtain⟨z1,z2,z3⟩:=AuM.passTo_zc (n:=n) (ms:=ms) hz ms.length
  unfold AuM.runP
  by_cases hb:(A.passTo n ms ms.length).2=true
  ·rw[if_pos hb]
   exact WR.runP hW hv hs ha k i1 z1 (by have:=z3 hb;omega)
  ·rw [if_neg hb]
   rcases i2 with e|e
   ·refine⟨u,by rw[e];exact h,?_⟩
    cases hun:unk u U with
    |nil=>rfl
    | cons m rest =>
     exfalso
     obtain⟨c0,_⟩:=unk_first hW h.knw hun
     have hmu:m∈unk u U:=by rw[hun];simp
     unfold unk at hmu
     obtain⟨hmU,hlt⟩:=List.mem_filter.1 hmu
     have hlt:u (orgI m)<m.number:=of_decide_eq_true hlt
     have hmm:=ha m hmU
     obtain⟨q,hq⟩:=List.getElem?_of_mem hmm
     obtain⟨p,hp,hpf⟩:∃p:Nat,ms[p]?=some m∧∀j:Nat,j<p→ms[j]?≠some m:=by
      have:∀(N q:Nat),q≤N→ms[q]?=some m→∃p:Nat,ms[p]?=some m∧∀j:Nat,j<p→ms[j]?≠some m:=by
       intro N
       induction N with
       |zero=>intro q hq h;exact⟨q,h,fun j hj=>by omega⟩
       | succ N ih =>
        intro q hq h;by_cases hx:∃j,j<q∧ms[j]?=some m
        ·obtain⟨j,hj,hjm⟩:=hx;exact ih j jA hjm
        ·exact⟨q,h,fun j hj e=>hx ⟨j,hj,e⟩⟩
      exact this q q (Nat.le_refl _) hq
     have hpl:=(List.getElem?_eq_some_iff.1 hp).1
     rcases h.v0 p m hp hpf with⟨a,_⟩|⟨c,a,_⟩
     ·exact hb (i3 p m hpl hp a c0)
     ·have hmM:=outF_mem a
      obtain⟨x,hx⟩:∃x:Nat,(strm A.M (orgI m))[x]?=some m:=strm_mem hmM
      rw[h.st]at hx
      unfold uptoS at hx
      have hx2:=List.getElem?_eq_some_iff.1 hx
      obtain⟨hxl,_⟩:=hx2
      rw[List.length_take]at hxl
      rw[List.getElem?_take_of_lt jA]at hx
      have:=zcc hW hx
      have:=(h.knw.le (orgI m)).1
      omega
   ·exact absurd e hb
theorem waitsTo_same{vd:List Nat}(h:∀i:Nat,vd[i]?≠some 0):∀k,waitsTo vd k=vd
 |0=>rfl
 | k + 1 => by
  unfold waitsTo
  rw[waitsTo_same h k,if_neg (h k)]
/-! ### Sifted -/
structure WS(n:Nat)(ms:List Msg)(k:Nat)(S:AuM×SfM):Prop where
 l:S.1.l=Lgs.new n
 M:S.1.M=[]
 fk:S.1.fk=[]
 tk:S.1.tk=[]
 vl:S.1.vd.length=ms.length
 v0:∀(i:Nat) (m:Msg),ms[i]?=some m→(k≤i∨∀j,j<i→ms[j]?≠some m)→S.1.vd[i]?=some 0
 v2:∀(i j:Nat) (m:Msg),ms[i]?=some m→i<k→j<i→ms[j]?=some m→S.1.vd[i]?=some 2
 so:∀(o z:Int) (j:Nat),sfG S.2 (o,z)=some j→j<k∧∃m,ms[j]?=some m∧m.origin=o∧m.number=z
 no:∀(o z:Int),sfG S.2 (o,z)=none→∀(j:Nat) (m:Msg),j<k→ms[j]?=some m→¬(m.origin=o∧m.number=z)
theorem Knw.zero(hW:WOK n U):Knw U fun _=>0:=
 ⟨fun i => ⟨Int.le_refl _, by omega⟩, fun x hx h => by
  obtain⟨i,hi⟩:=List.getElem?_of_mem hx
  have:=(hW i x hi).num
  omega⟩
theorem uptoS_zero(U:List Msg):strm []=uptoS U fun _=>0:=by
 funext i;show []=(strm U i).take 0;rw[List.take_zero]
theorem chk_sift(hW:WOK n U)(hm:m∈U):¬(chk n (strm []) m=1∨chk n (strm []) m=11):=by
 rw[uptoS_zero U];rcases wchk hW (Knw.zero hW) hm with⟨_,e⟩|⟨_,e⟩|⟨_,_,e⟩<;>rw[e]<;>decide
theorem sfG_app:∀(M:SfM) (k k':Int×Int) (d:Nat),sfG (M++[(k,d)]) k'=match sfG M k' with|some x=>some x|none=>if k'=k then some d else none
 | [],k,k',d=>rfl
 | (a, x) :: r, k, k', d => by
  show(if k'=a then some x else sfG (r++[(k,d)]) k')=match(if k'=a then some x else sfG r k')with|some x=>some x|none=>_
  rw[sfG_app r k k' d]
  split
  ·rfl
  ·rfl
theorem wname(hW:WOK n U)(hx:x∈U)(hy:y∈U)(ho:x.origin=y.origin)(hn:x.number=y.number):x=y:=
 wuniq hW hx hy (by unfold orgI;rw[ho]) hn
theorem WS.next(hW:WOK n U)(hs:∀m∈ms,m∈U){k:Nat}{S:AuM×SfM}(h:WS n ms k S)(hm:ms[k]?=some m):WS n ms (k+1) (AuM.sift1 n ms k m S):=by
 have hmU:=hs m (List.mem_of_getElem? hm);have hkl:k<S.1.vd.length:=by rw[h.vl];exact(List.getElem?_eq_some_iff.1 hm).1
 unfold AuM.sift1;rw[if_neg (chk_sift hW hmU)]
 cases hg:sfG S.2 (m.origin,m.number)with
 | none =>
  have hno:=h.no _ _ hg;refine⟨h.l,h.M,h.fk,h.tk,h.vl,fun i x hi hf=>?_,fun i j x hi hik hj hjx=>?_,fun o z j hj=>?_,fun o z hz j x hjk hjx=>?_⟩
  ·refine h.v0 i x hi ?_;exact qdB
  ·by_cases e:i=k
   ·subst e;rw[hm]at hi;cases hi
    exact absurd ⟨rfl,rfl⟩ (hno j m hj hjx)
   ·exact h.v2 i j x hi jA hj hjx
  ·have hj:sfG (S.2++[((m.origin,m.number),k)]) (o,z)=some j:=hj;rw[sfG_app]at hj
   cases hg2:sfG S.2 (o,z)with
   | some y =>
    rw[hg2]at hj;cases hj
    obtain⟨a,b⟩:=h.so _ _ _ hg2;exact⟨by omega,b⟩
   | none =>
    rw[hg2]at hj;have hj:(if(o,z)=(m.origin,m.number)then some k else none)=some j:=hj;split at hj
    ·rename_i e
     cases hj
     cases e
     exact⟨by omega,m,hm,rfl,rfl⟩
    ·cases hj
  ·have hz:sfG (S.2++[((m.origin,m.number),k)]) (o,z)=none:=hz;rw[sfG_app]at hz
   cases hg2:sfG S.2 (o,z)with
   |some y=>rw[hg2]at hz;cases hz
   | none =>
    rw[hg2]at hz;have hz:(if(o,z)=(m.origin,m.number)then some k else none)=none:=hz;split at hz
    ·cases hz
    ·rename_i e
     by_cases ek:j=k
     ·subst ek;rw[hm]at hjx;cases hjx
      rintro⟨a,b⟩;exact e (by rw[a,b])
     ·exact h.no _ _ hg2 j x jA hjx
 | some p =>
  obtain⟨hpk,x,hpx,ho,hn⟩:=h.so _ _ _ hg;have hx:x=m:=wname hW (hs x (List.mem_of_getElem? hpx)) hmU ho hn;subst hx
  have hput:ms[p]?.map Msg.putB=some x.putB:=by rw[hpx];rfl
  show WS n ms (k+1) (if ms[p]?.map Msg.putB=some x.putB then({S.1 with vd:=S.1.vd.set k 2},S.2)else _);rw[if_pos hput];refine⟨h.l,h.M,h.fk,h.tk,by show(S.1.vd.set k 2).length=_;rw[List.length_set];exact h.vl,fun i y hi hf=>?_,fun i j y hi hik hj hjx=>?_,fun o z j hj=>?_,fun o z hz j y hjk hjx=>?_⟩
  ·show(S.1.vd.set k 2)[i]?=some 0;rw[List.getElem?_set_ne (fun e=>?_)]
   ·refine h.v0 i y hi ?_;exact qdB
   ·subst e;rw[hm]at hi;cases hi
    rcases hf with hf|hf
    ·omega
    ·exact hf p hpk hpx
  ·show(S.1.vd.set k 2)[i]?=some 2;by_cases e:i=k
   ·subst e;exact List.getElem?_set_self hkl
   ·rw[List.getElem?_set_ne (fun e2=>e e2.symm)];exact h.v2 i j y hi jA hj hjx
  ·obtain⟨a,b⟩:=h.so _ _ _ hj;exact⟨by omega,b⟩
  ·by_cases ek:j=k
   ·subst ek;rw[hm]at hjx;cases hjx
    rintro⟨a,b⟩;exact h.no o z hz p x hpk hpx ⟨a,b⟩
   ·exact h.no o z hz j y jA hjx
theorem WS.to{n:Nat}{U ms:List Msg}(hW:WOK n U)(hs:∀m∈ms,m∈U):∀k,k≤ms.length→WS n ms k ((nwM n ms.length).siftTo n ms k)
 | 0, _ => by
  refine⟨rfl,rfl,rfl,rfl,List.length_replicate,fun i m hi _=>?_,fun i j m _ hi=>absurd hi (Nat.not_lt_zero i),fun o z j hj=>(by cases hj),fun o z _ j m hj=>absurd hj (Nat.not_lt_zero j)⟩
  show(List.replicate ms.length 0)[i]?=some 0
  rw[List.getElem?_replicate,if_pos (List.getElem?_eq_some_iff.1 hi).1]
 | k + 1, hk => by
  have ih:=WS.to (n:=n) hW hs k jA
  unfold AuM.siftTo
  cases hm:ms[k]? with
  |none=>rw[List.getElem?_eq_none_iff]at hm;omega
  |some m=>exact ih.next hW hs hm
structure AW(n:Nat)(U ms:List Msg)(A:AuM):Prop where
 fk:A.fk=[]
 lg:A.l=lgsOf n U
 kn:∀i,knownS (strm A.M) i=((cnt U i:Nat):Int)
 vl:A.vd.length=ms.length
 v1:∀(i:Nat) (m:Msg),ms[i]?=some m→(∀j,j<i→ms[j]?≠some m)→∃c,(m,c)∈outF (Lgs.new n) U∧A.vd[i]?=some (if c=true then 6 else 5)
 v2:∀(i j:Nat) (m:Msg),ms[i]?=some m→j<i→ms[j]?=some m→A.vd[i]?=some 2
theorem perm_of_strm{a b:List Msg}(h:∀i,strm a i=strm b i):a.Perm b:=by
 letI:DecidableEq Msg:=fun a b=>Classical.propDecidable (a=b)
 rw[List.perm_iff_count];intro m
 have e:∀l:List Msg,l.count m=(strm l (orgI m)).count m:=fun l=>by
  unfold strm;rw[List.count_filter jK]
 rw[e a,e b,h]
theorem audR_world(h3:3≤n)(h11:n≤11)(hW:WOK n U)(hv:∀m∈U,0≤m.body.view)(hs:∀m∈ms,m∈U)(ha:∀m∈U,m∈ms):AW n U ms (audR n ms):=by
 have hS:=WS.to (n:=n) hW hs ms.length (Nat.le_refl _)
 have h0:WR n U ms (fun _=>0) ((nwM n ms.length).siftTo n ms ms.length).1:=by
  refine⟨Knw.zero hW,by rw[hS.M];exact uptoS_zero U,by rw[hS.M];exact trivial,by rw[hS.M,hS.l];rfl,hS.vl,fun i m hi hf=>.inl ⟨hS.v0 i m hi (.inr hf),?_⟩,fun i j m hi hj hjm=>hS.v2 i j m hi (List.getElem?_eq_some_iff.1 hi).1 hj hjm,hS.fk⟩;obtain⟨p,hp⟩:=List.getElem?_of_mem (hs m (List.mem_of_getElem? hi))
  have:=(hW p m hp).num;omega
 have hcl:((nwM n ms.length).siftTo n ms ms.length).1.vd.count 0≤ms.length:=by
  have:=List.count_le_length (a:=0) (l:=((nwM n ms.length).siftTo n ms ms.length).1.vd);rw[hS.vl]at this
  exact this
 have hz:ZC ms.length ((nwM n ms.length).siftTo n ms ms.length).1:=⟨by rw[hS.M];show 0+_≤_;omega,by rw[hS.tk];show 0+_≤_;omega⟩;obtain⟨u,hR,hun⟩:=WR.runP hW hv hs ha (ms.length+1) h0 hz jA
 have haud:audR n ms=(AuM.runP n ms ms.length (ms.length+1) ((nwM n ms.length).siftTo n ms ms.length).1).wt ms.length:=rfl;rw[haud]
 generalize AuM.runP n ms ms.length (ms.length+1) ((nwM n ms.length).siftTo n ms ms.length).1=R at *;have huc:=unk_nil hW hR.knw hun
 have hst:∀i,strm R.M i=strm U i:=fun i=>by
  rw[hR.st];show(strm U i).take (u i).toNat=_;rw[huc i,Int.toNat_natCast];exact List.take_length
 have hp:=perm_of_strm hst;have hI:Inv (Lgs.new n):=⟨⟨0,LI.new h3 h11⟩,CI.new n⟩
 have hru:=world_run hW hv U.length (Nat.le_refl _);rw[List.take_length]at hru
 obtain⟨e1,e2⟩:=run_order hI hR.run hru hp
 have hfirst:∀i m,ms[i]?=some m→(∀j,j<i→ms[j]?≠some m)→∃c,(m,c)∈outF (Lgs.new n) U∧R.vd[i]?=some (if c=true then 6 else 5):=fun i m hi hf=>by
  rcases hR.v0 i m hi hf with⟨_,b⟩|⟨c,a,b⟩
  ·exfalso;obtain⟨x,hx⟩:=strm_mem (hs m (List.mem_of_getElem? hi));have h1:=zcc hW hx;have h2:=(List.getElem?_eq_some_iff.1 hx).1
   rw[huc]at b;unfold cnt at b;omega
  ·exact⟨c,e2.mem_iff.1 a,b⟩
 have hnz:∀i:Nat,R.vd[i]?≠some 0:=fun i hi=>by
  have hil:=(List.getElem?_eq_some_iff.1 hi).1;rw[hR.vl]at hil
  obtain⟨m,hm⟩:∃m,ms[i]?=some m:=⟨_,lgE hil⟩;by_cases hx:∃j,j<i∧ms[j]?=some m
  ·obtain⟨j,hj,hjm⟩:=hx
   have:=hR.v2 i j m hm hj hjm;rw[hi]at this
   cases this
  ·obtain⟨c,_,e⟩:=hfirst i m hm fun j hj e=>hx ⟨j,hj,e⟩;rw[hi]at e;split at e<;>cases e
 have hwt:R.wt ms.length=R:=by
  unfold AuM.wt;rw[waitsTo_same hnz]
 rw[hwt];refine⟨hR.fk,?_,fun i=>?_,hR.vl,hfirst,hR.v2⟩
 ·rw[hR.lg];rw[zbo n R.M,zbo n U]at e1;exact e1
 ·show(((strm R.M i).length:Nat):Int)=_;rw[hst];rfl
/-! ### A world's messages in order -/
theorem wplace(hW:WOK n U){i j:Nat}(hi:U[i]?=some m)(hj:U[j]?=some m):i=j:=by
 have key:∀a b:Nat,a<b→U[a]?=some m→U[b]?=some m→False:=fun a b hab ha hb=>by
  have h1:=(hW a m ha).num;have h2:=(hW b m hb).num
  have e:U.take b=U.take (a+1)++(U.take b).drop (a+1):=by
   have:=List.take_append_drop (a+1) (U.take b);rw[List.take_take,show min (a+1) b=a+1 by omega]at this
   exact this.symm
  have h3:cnt (U.take b) (orgI m)=cnt (U.take a) (orgI m)+1+cnt ((U.take b).drop (a+1)) (orgI m):=by
   rw[e,cnt_app,zax ha,cnt_snoc,if_pos rfl]
   have e2:((U.take a++[m]++List.drop (a+1) (List.take b U)).drop (a+1))=List.drop (a+1) (List.take b U):=by
    rw[←zax ha,←e]
   rw[e2]
  omega
 rcases Nat.lt_trichotomy i j with h|h|h
 ·exact absurd (key i j h hi hj) id
 ·exact h
 ·exact absurd (key j i h hj hi) id
structure OR(n:Nat)(U:List Msg)(k:Nat)(A:AuM):Prop where
 M:A.M=U.take k
 lg:A.l=lgsOf n (U.take k)
 tk:A.tk=List.range k
 vl:A.vd.length=U.length
 hi:∀i,k≤i→i<U.length→A.vd[i]?=some 0
 lo:∀i,i<k→A.vd[i]?≠some 0
theorem OR.pass{n:Nat}{U:List Msg}(hW:WOK n U){A:AuM}(h:OR n U 0 A):∀k,k≤U.length→OR n U k (A.passTo n U k).1
 |0,_=>h
 | k + 1, hk => by
  have ih:=OR.pass hW h k jA
  unfold AuM.passTo
  cases hm:U[k]? with
  |none=>rw[List.getElem?_eq_none_iff]at hm;omega
  | some m =>
   show OR n U (k+1) (if _ then _ else _:AuM×Bool).1
   rw[if_pos (ih.hi k (Nat.le_refl _) jA)]
   have h0:=(hW k m hm).chk
   have hd:(A.passTo n U k).1.meet n m k=({(A.passTo n U k).1 with M:=(A.passTo n U k).1.M++[m],l:=((A.passTo n U k).1.l.take m).2,vd:=(A.passTo n U k).1.vd.set k (if((A.passTo n U k).1.l.take m).1.1=true then 6 else 5),tk:=(A.passTo n U k).1.tk++[k]},true):=by
    unfold AuM.meet;rw[ih.M,h0,if_neg jC,if_pos rfl]
   show OR n U (k+1) ((A.passTo n U k).1.meet n m k).1
   rw[hd]
   generalize(A.passTo n U k).1=B at *
   have hkl:k<B.vd.length:=by rw[ih.vl];omega
   refine⟨by show B.M++[m]=_;rw[ih.M,zax hm],by show(B.l.take m).2=_;rw[zax hm,lgsOf_snoc,ih.lg],by show B.tk++[k]=_;rw[ih.tk,List.range_succ],by show(B.vd.set k _).length=_;rw[List.length_set];exact ih.vl,fun i hi hl=>?_,fun i hi=>?_⟩
   ·show(B.vd.set k _)[i]?=_
    rw[List.getElem?_set_ne jA]
    exact ih.hi i jA hl
   ·show(B.vd.set k _)[i]?≠_
    by_cases e:i=k
    ·subst e
     rw[List.getElem?_set_self hkl]
     split<;>decide
    ·rw[List.getElem?_set_ne (fun e2=>e e2.symm)]
     exact ih.lo i jA
theorem pass_none{n:Nat}{ms:List Msg}{A:AuM}(h:∀i:Nat,A.vd[i]?≠some 0):∀k,A.passTo n ms k=(A,false)
 |0=>rfl
 | k + 1 => by
  have ih:=pass_none (n:=n) (ms:=ms) h k
  unfold AuM.passTo
  rw[ih]
  cases ms[k]? with
  |none=>rfl
  |some m=>exact if_neg (h k)
theorem runP_stop(h:A.passTo n ms N=(A,false)):∀k,AuM.runP n ms N k A=A
 |0=>rfl
 | k + 1 => by
  unfold AuM.runP
  rw[h]
  rfl
theorem audR_order(hW:WOK n U):(audR n U).M=U∧(audR n U).tk=List.range U.length∧(audR n U).l=lgsOf n U∧(audR n U).fk=[]:=by
 have hS:=WS.to (n:=n) hW (ms:=U) (fun m h=>h) U.length (Nat.le_refl _)
 have h0:OR n U 0 ((nwM n U.length).siftTo n U U.length).1:=
  ⟨by rw [hS.M]; rfl, by rw [hS.l]; rfl, by rw [hS.tk]; rfl, hS.vl, fun i _ hl => by
   obtain⟨m,hm⟩:∃m,U[i]?=some m:=⟨_,lgE hl⟩
   exact hS.v0 i m hm (.inr fun j hj e=>absurd (wplace hW hm e) jA),fun i hi=>absurd hi (Nat.not_lt_zero i)⟩
 have h1:=OR.pass hW h0 U.length (Nat.le_refl _)
 have hfk:∀k,(((nwM n U.length).siftTo n U U.length).1.passTo n U k).1.fk=[]:=fun k=>by
  have:∀k,(((nwM n U.length).siftTo n U U.length).1.passTo n U k).1.fk=((nwM n U.length).siftTo n U U.length).1.fk:=fun k=>by
   induction k with
   |zero=>rfl
   | succ k ih =>
    unfold AuM.passTo;split
    ·exact ih
    ·split
     ·show(AuM.meet _ _ _ _).1.fk=_;unfold AuM.meet;split
      ·exact ih
      ·split
       ·exact ih
       ·exact ih
     ·exact ih
  rw[this,hS.fk]
 have hnz:∀i:Nat,(((nwM n U.length).siftTo n U U.length).1.passTo n U U.length).1.vd[i]?≠some 0:=fun i=>by
  by_cases hl:i<U.length
  ·exact h1.lo i hl
  ·rw[List.getElem?_eq_none (by rw[h1.vl];omega)];exact fun e=>by cases e
 have haud:audR n U=(AuM.runP n U U.length (U.length+1) ((nwM n U.length).siftTo n U U.length).1).wt U.length:=rfl
 have hrun:AuM.runP n U U.length (U.length+1) ((nwM n U.length).siftTo n U U.length).1=(((nwM n U.length).siftTo n U U.length).1.passTo n U U.length).1:=by
  have hst:=runP_stop (N:=U.length) (pass_none (n:=n) (ms:=U) hnz U.length);unfold AuM.runP
  split
  ·exact hst _
  ·rfl
 rw[haud,hrun];exact⟨by show(AuM.passTo _ _ _ _).1.M=_;rw[h1.M];exact List.take_length,h1.tk,by show(AuM.passTo _ _ _ _).1.l=_;rw[h1.lg,List.take_length],hfk _⟩
/-! ### What a message knows -/
def CLO(U:List Msg):Prop:=∀m∈U,∀x∈U,x.number≤m.deps (orgI x)→∀i,i<11→x.deps i≤m.deps i
def vecK(m:Msg):Nat→Int:=fun i=>if i<11 then(if i=orgI m then m.number else m.deps i)else 0
theorem orgI_lt(h11:n≤11)(hW:WOK n U)(hm:m∈U):orgI m<n∧1≤m.number:=by
 obtain⟨i,hi⟩:=List.getElem?_of_mem hm;have h1:=(hW i m hi).org;have h2:=(hW i m hi).num
 unfold orgI;omega
theorem vecK_knw(h11:n≤11)(hW:WOK n U)(hC:CLO U){i:Nat}(hm:U[i]?=some m):Knw (U.take (i+1)) (vecK m)∧vecK m (orgI m)=((cnt (U.take (i+1)) (orgI m):Nat):Int):=by
 have hok:=hW i m hm;have ho:=orgI_lt h11 hW (List.mem_of_getElem? hm)
 have hself:vecK m (orgI m)=m.number:=by unfold vecK;rw[if_pos jA,if_pos rfl]
 have hcn:∀j,cnt (U.take (i+1)) j=cnt (U.take i) j+(if j=orgI m then 1 else 0):=fun j=>by rw[zax hm,cnt_snoc]
 have hown:vecK m (orgI m)=((cnt (U.take (i+1)) (orgI m):Nat):Int):=by
  rw[hself,hok.num,hcn,if_pos rfl]
 refine⟨⟨fun j=>?_,fun x hx hxn j hj=>?_⟩,hown⟩
 ·by_cases e:j=orgI m
  ·subst e;rw[hown];exact⟨by omega,Int.le_refl _⟩
  ·unfold vecK;by_cases h:j<11
   ·rw[if_pos h,if_neg e,hcn,if_neg e];exact hok.dep j h
   ·rw[if_neg h];omega
 ·have hd:x.deps j≤m.deps j:=by
   rw[zax hm]at hx;rcases List.mem_append.1 hx with h1|h1
   ·by_cases e:orgI x=orgI m
    ·exact hok.mono x h1 e j hj
    ·have hxU:x∈U:=List.mem_of_mem_take h1;have hxo:=orgI_lt h11 hW hxU
     unfold vecK at hxn;rw[if_pos jA,if_neg e]at hxn;exact hC m (List.mem_of_getElem? hm) x hxU hxn j hj
   ·rw[List.mem_singleton.1 h1];exact Int.le_refl _
  have hd2:m.deps j≤vecK m j:=by
   by_cases e:j=orgI m
   ·have:=(hok.dep j hj).2;subst e
    rw[hself,hok.num];omega
   ·unfold vecK;rw[if_pos hj,if_neg e];exact Int.le_refl _
  omega
theorem sub_run{all:List Msg}{k:Nat→Int}(hW:WOK n all)(hk:Knw all k)(hv:∀m∈all,0≤m.body.view)(h3:3≤n)(h11:n≤11):RunF (lgsOf n (sub k all)) (unk k all)∧stF (lgsOf n (sub k all)) (unk k all)=lgsOf n all:=by
 have h0:∀i,0≤k i:=fun i=>(hk.le i).1;have hW1:WOK n (sub k all):=WOK.sub h0 all hW hk.closed
 have hv1:∀m∈sub k all,0≤m.body.view:=fun m hm=>hv m (zbp.1 hm).1;have hr1:=world_run hW1 hv1 (sub k all).length (Nat.le_refl _)
 rw[List.take_length]at hr1
 have hkn:∀i,(lgsOf n (sub k all)).known i=k i:=fun i=>by
  exact qbL
 have hr2:=unk_run hW hv (unk k all) k (lgsOf n (sub k all)) hk rfl (lgsOf_n _ _) hkn
 have hr3:RunF (Lgs.new n) (sub k all++unk k all):=qdZ
 have hr4:=world_run hW hv all.length (Nat.le_refl _);rw[List.take_length]at hr4
 have hI:Inv (Lgs.new n):=⟨⟨0,LI.new h3 h11⟩,CI.new n⟩;have e:=(run_order hI hr3 hr4 (sub_unk_perm k all)).1
 rw[stF_app,zbo n (sub k all),zbo n all]at e;exact⟨hr2,e⟩
theorem take_past{l:Lgs}{T:Nat}(hL:LI l T)(hm:Rdy l m){r:Nat}(hr:r≠orgI m):(l.take m).2.past r=l.past r:=by
 rw[hm.take];exact(near hL hm.min).past r hr
theorem run_past:∀ {a:List Msg} {L:Lgs} {r:Nat},(∃T,LI L T)→RunF L a→(∀x∈a,orgI x≠r)→(stF L a).past r=L.past r
 | [],_,_,_,_,_=>rfl
 | m :: a, L, r, ⟨T, hL⟩, hr, hx => by
  have ih:=run_past (a:=a) (L:=(L.take m).2) (r:=r) ⟨T+1,hL.take hr.1.v⟩ hr.2 fun x h=>hx x (List.mem_cons_of_mem _ h)
  show(stF (L.take m).2 a).past r=_
  rw[ih]
  exact take_past hL hr.1 fun e=>hx m jK e.symm
theorem num_le_cntJ{all:List Msg}(hW:WOK n all)(hx:x∈all):x.number≤((cnt all (orgI x):Nat):Int):=by
 obtain⟨p,hp⟩:=strm_mem hx;have h1:=zcc hW hp;have h2:=(List.getElem?_eq_some_iff.1 hp).1
 unfold cnt;omega
theorem vot_vecK(h3:3≤n)(h11:n≤11)(hW:WOK n U)(hv:∀m∈U,0≤m.body.view)(hC:CLO U){i:Nat}(hm:U[i]?=some m)(v:Int):vot (lgsOf n (sub (vecK m) U)) (orgI m) v=vot (lgsOf n (U.take (i+1))) (orgI m) v:=by
 obtain⟨hK,hown⟩:=vecK_knw h11 hW hC hm;have hWt:=hW.take (i+1);have hvt:∀x∈U.take (i+1),0≤x.body.view:=fun x hx=>hv x (List.mem_of_mem_take hx)
 have hsub:sub (vecK m) U=sub (vecK m) (U.take (i+1)):=by
  have e:=List.take_append_drop (i+1) U
  have h1:sub (vecK m) U=sub (vecK m) (U.take (i+1))++sub (vecK m) (U.drop (i+1)):=by
   conv=>lhs;rw[←e]
   exact List.filter_append ..
  rw[h1]
  have h2:sub (vecK m) (U.drop (i+1))=[]:=by
   unfold sub;rw[List.filter_eq_nil_iff];intro x hx;obtain⟨j,hj⟩:=List.getElem?_of_mem hx;rw[List.getElem?_drop]at hj;have hn:=(hW _ x hj).num;have hle:=(hK.le (orgI x)).2
   have e3:U.take (i+1+j)=U.take (i+1)++(U.take (i+1+j)).drop (i+1):=by
    have:=List.take_append_drop (i+1) (U.take (i+1+j));rw[List.take_take,show min (i+1) (i+1+j)=i+1 by omega]at this
    exact this.symm
   have h4:=cnt_app (U.take (i+1)) ((U.take (i+1+j)).drop (i+1)) (orgI x);rw[←e3]at h4
   simp only[decide_eq_true_eq];omega
  rw[h2,List.append_nil]
 rw[hsub];obtain⟨r1,r2⟩:=sub_run hWt hK hvt h3 h11;have hW1:WOK n (sub (vecK m) (U.take (i+1))):=WOK.sub (fun j=>(hK.le j).1) _ hWt hK.closed;have hL:=lgsOf_LI h3 h11 (sub (vecK m) (U.take (i+1))) fun x hx=>hvt x (zbp.1 hx).1
 have hp:=run_past (r:=orgI m) ⟨_,hL⟩ r1 fun x hx e=>by
  unfold unk at hx;obtain⟨a,b⟩:=List.mem_filter.1 hx;have b:vecK m (orgI x)<x.number:=of_decide_eq_true b
  have:=num_le_cntJ hWt a;rw[e]at b this
  omega
 rw[r2]at hp;unfold vot;rw[hp]
/-! ### Votes -/
theorem viewF_ok{l:Lgs}{t:Int}:∀ {vs:List Int},(∃v∈vs,t≤(cmt l v:Int))→t≤(cmt l (viewF l t vs):Int)
 | [],⟨v,h,_⟩=>by cases h
 | v :: r, ⟨w, h, hw⟩ => by
  unfold viewF
  split
  ·assumption
  ·rename_i hn
   refine viewF_ok ⟨w,?_,hw⟩
   rcases List.mem_cons.1 h with e|e
   ·subst e;exact absurd hw hn
   ·exact e
theorem vot_new(n r:Nat)(v:Int):vot (Lgs.new n) r v≤0:=by
 show(PM.voted [(0,0)] v).getD 0≤0;show((if v=0 then some 0 else none:Option Int)).getD 0≤0;split<;>exact Int.le_refl 0
theorem vtG_app:∀(M:VtM) (k k':Int) (d:Nat),vtG (M++[(k,d)]) k'=match vtG M k' with|some x=>some x|none=>if k'=k then some d else none
 | [],k,k',d=>rfl
 | (a, x) :: r, k, k', d => by
  show(if k'=a then some x else vtG (r++[(k,d)]) k')=match(if k'=a then some x else vtG r k')with|some x=>some x|none=>_
  rw[vtG_app r k k' d]
  split
  ·rfl
  ·rfl
structure VO(n:Nat)(U:List Msg)(v t:Int)(k:Nat)(S:Lgs×VtM):Prop where
 lg:S.1=lgsOf n (U.take k)
 so:∀o i,vtG S.2 o=some i→∃m,U[i]?=some m∧m.origin=o∧t≤vot (lgsOf n (U.take (i+1))) (orgI m) v
 no:∀r,r<n→t≤vot (lgsOf n (U.take k)) r v→vtG S.2 ((r+1:Nat):Int)≠none
theorem VO.to{n:Nat}(h3:3≤n)(h11:n≤11){U:List Msg}(hW:WOK n U)(hv:∀m∈U,0≤m.body.view){v t:Int}(ht:1≤t):∀k,k≤U.length→VO n U v t k (votTo n U (List.range U.length) v t k)
 |0,_=>⟨rfl,fun o i h=>(by cases h),fun r _ h=>by have:=vot_new n r v;have h:t≤vot (Lgs.new n) r v:=h;omega⟩
 | k + 1, hk => by
  have ih:=VO.to h3 h11 hW hv (v:=v) ht k jA
  obtain⟨m,hm⟩:∃m,U[k]?=some m:=⟨_,lgE jA⟩
  have hb:((List.range U.length)[k]?.bind fun i=>U[i]?.map fun m=>(i,m))=some (k,m):=by
   rw[List.getElem?_range jA];show(U[k]?.map fun m=>(k,m))=_;rw[hm];rfl
  unfold votTo
  rw[hb]
  show VO n U v t (k+1) (vot1 v t k m (votTo n U (List.range U.length) v t k))
  generalize votTo n U (List.range U.length) v t k=S at *
  have hlg:(S.1.take m).2=lgsOf n (U.take (k+1)):=by rw[ih.lg,zax hm,lgsOf_snoc]
  have hrd:=world_rdy hW hv hm
  have hL:=lgsOf_LI h3 h11 (U.take k) fun x hx=>hv x (List.mem_of_mem_take hx)
  have hoth:∀r,r≠orgI m→vot (lgsOf n (U.take (k+1))) r v=vot (lgsOf n (U.take k)) r v:=fun r hr=>by
   unfold vot
   rw[←hlg,ih.lg,take_past hL hrd hr]
  have horg:=(hW k m hm).org
  have hself:m.origin=((orgI m+1:Nat):Int):=by unfold orgI;omega
  unfold vot1
  cases hg:vtG S.2 m.origin with
  | some i =>
   refine⟨hlg,ih.so,fun r hr h=>?_⟩
   by_cases e:r=orgI m
   ·subst e
    show vtG S.2 _≠none
    rw[←hself,hg]
    exact fun e=>by cases e
   ·rw[hoth r e]at h
    exact ih.no r hr h
  | none =>
   have hvt:(PM.voted ((S.1.take m).2.past (orgI m)).all v).getD 0=vot (lgsOf n (U.take (k+1))) (orgI m) v:=by rw[hlg];rfl
   show VO n U v t (k+1) (if t≤(PM.voted ((S.1.take m).2.past (orgI m)).all v).getD 0 then((S.1.take m).2,S.2++[(m.origin,k)])else((S.1.take m).2,S.2))
   rw[hvt]
   split
   ·rename_i hle
    refine⟨hlg,fun o i h=>?_,fun r hr h=>?_⟩
    ·have h:vtG (S.2++[(m.origin,k)]) o=some i:=h
     rw[vtG_app]at h
     cases hg2:vtG S.2 o with
     |some y=>rw[hg2]at h;cases h;exact ih.so _ _ hg2
     | none =>
      rw[hg2]at h
      have h:(if o=m.origin then some k else none)=some i:=h
      split at h
      ·rename_i e
       cases h
       exact⟨m,hm,e.symm,hle⟩
      ·cases h
    ·show vtG (S.2++[(m.origin,k)]) _≠none
     rw[vtG_app]
     by_cases e:r=orgI m
     ·subst e
      rw[←hself,hg]
      show(if m.origin=m.origin then some k else none)≠none
      rw[if_pos rfl]
      exact fun e=>by cases e
     ·rw[hoth r e]at h
      have:=ih.no r hr h
      cases hg2:vtG S.2 ((r+1:Nat):Int)with
      |some y=>exact fun e=>by cases e
      |none=>exact absurd hg2 this
   ·rename_i hle
    refine⟨hlg,ih.so,fun r hr h=>?_⟩
    by_cases e:r=orgI m
    ·subst e;exact absurd h hle
    ·rw[hoth r e]at h
     exact ih.no r hr h
/-! ### What a proof needs -/
structure ND(U:List Msg)(Q:List Nat)(k:Nat)(M:VtM)(need:Nat→Int):Prop where
 nd:Q.Nodup
 lt:∀r∈Q,r<k
 at':∀r∈Q,∃i m,vtG M ((r+1:Nat):Int)=some i∧U[i]?=some m∧orgI m=r∧∀j,vecK m j≤need j
 up:∀j,0≤need j∧(need j=0∨∃r∈Q,∃i m,vtG M ((r+1:Nat):Int)=some i∧U[i]?=some m∧need j=vecK m j)
theorem mxI_ge(a b:Int):a≤mxI a b∧b≤mxI a b∧(mxI a b=a∨mxI a b=b):=by
 unfold mxI;split
 ·exact⟨by omega,Int.le_refl _,.inr rfl⟩
 ·exact⟨Int.le_refl _,by omega,.inl rfl⟩
theorem need1_at{need:Nat→Int}{r:Nat}(hr:r<11)(ho:orgI m=r)(hd:m.deps r≤m.number)(hp:0≤m.number)(i:Nat):updF (dpsN need m.deps 11) r (mxI (dpsN need m.deps 11 r) m.number) i=if i<11 then mxI (need i) (vecK m i)else need i:=by
 by_cases e:i=r
 ·subst e;rw[zae,if_pos hr];unfold dpsN vecK;rw[if_pos hr,if_pos hr,if_pos ho.symm];unfold mxI
  (repeat' split)<;>omega
 ·rw[zag _ _ e];unfold dpsN;by_cases h:i<11
  ·rw[if_pos h,if_pos h];unfold vecK;rw[if_pos h,if_neg (by rw[ho];exact e)]
  ·rw[if_neg h,if_neg h]
theorem ND.to{n:Nat}(h11:n≤11){U:List Msg}(hW:WOK n U){M:VtM}(hM:∀o i,vtG M o=some i→∃m,U[i]?=some m∧m.origin=o){p:Nat→Bool}(hp:∀r,r<n→p r=true→vtG M ((r+1:Nat):Int)≠none):∀k,k≤n→
  ∃Q:List Nat,Q.length=(needTo n U M k).1∧ND U Q k M (needTo n U M k).2∧(n / 2<Q.length∨((List.range k).filter p).length≤Q.length)
 |0,_=>⟨[],rfl,⟨List.nodup_nil,fun r h=>(by cases h),fun r h=>(by cases h),fun j=>⟨Int.le_refl _,.inl rfl⟩⟩,.inr (Nat.le_refl _)⟩
 | k + 1, hk => by
  obtain⟨Q,q1,q2,q3⟩:=ND.to h11 hW hM hp k jA
  have q2':ND U Q (k+1) M (needTo n U M k).2:=⟨q2.nd,fun r h=>Nat.lt_succ_of_lt (q2.lt r h),q2.at',q2.up⟩
  unfold needTo
  by_cases hs:(needTo n U M k).1≤n / 2
  ·rw [if_pos hs]
   have hcnt:((List.range k).filter p).length≤Q.length:=by
    rcases q3 with h|h
    ·omega
    ·exact h
   have hrg:((List.range (k+1)).filter p).length=((List.range k).filter p).length+(if p k=true then 1 else 0):=by
    rw[List.range_succ,List.filter_append,lnA]
    cases hpk:p k<;>simp[hpk]
   cases hg:vtG M ((k+1:Nat):Int)with
   | none =>
    refine⟨Q,q1,q2',.inr ?_⟩
    have hpk:¬p k=true:=fun e=>hp k jA e hg
    rw[hrg,if_neg hpk]
    exact hcnt
   | some i =>
    obtain⟨m,hm,ho⟩:=hM _ _ hg
    have hom:orgI m=k:=by unfold orgI;rw[ho];omega
    have hok:=hW i m hm
    have hdm:m.deps k≤m.number:=by
     have h1:=(hok.dep k jA).2
     have h2:=hok.num
     rw[hom]at h2
     omega
    have hnp:=(orgI_lt h11 hW (List.mem_of_getElem? hm)).2
    have hat:=need1_at (need:=(needTo n U M k).2) (m:=m) (r:=k) jA hom hdm jA
    have hred:((some i).bind fun i=>U[i]?)=some m:=hm
    rw[hred]
    show∃Q:List Nat,Q.length=(needTo n U M k).1+1∧ND U Q (k+1) M (updF (dpsN (needTo n U M k).2 m.deps 11) k (mxI (dpsN (needTo n U M k).2 m.deps 11 k) m.number))∧_
    have hk11:∀j,¬j<11→vecK m j=0:=fun j h=>by unfold vecK;rw[if_neg h]
    have hge:∀j,(needTo n U M k).2 j≤updF (dpsN (needTo n U M k).2 m.deps 11) k (mxI (dpsN (needTo n U M k).2 m.deps 11 k) m.number) j:=fun j=>by
     rw[hat]
     split
     ·exact(mxI_ge _ _).1
     ·exact Int.le_refl _
    refine⟨Q++[k],by rw[lnA,q1];rfl,⟨?_,fun r h=>?_,fun r h=>?_,fun j=>?_⟩,.inr ?_⟩
    ·rw[List.nodup_append]
     refine⟨q2.nd,by simp,fun a ha b hb=>?_⟩
     rw[List.mem_singleton.1 hb]
     have:=q2.lt a ha
     omega
    ·rcases List.mem_append.1 h with h|h
     ·have:=q2.lt r h;omega
     ·rw[List.mem_singleton.1 h];omega
    ·rcases List.mem_append.1 h with h|h
     ·obtain⟨a,b,c1,c2,c3,c4⟩:=q2.at' r h
      exact⟨a,b,c1,c2,c3,fun j=>Int.le_trans (c4 j) (hge j)⟩
     ·rw[List.mem_singleton.1 h]
      refine⟨i,m,hg,hm,hom,fun j=>?_⟩
      rw[hat]
      split
      ·exact(mxI_ge _ _).2.1
      ·rename_i hj
       rw[hk11 j hj]
       exact(q2.up j).1
    ·have hu:=q2.up j
     rw[hat]
     split
     ·have h1:=mxI_ge ((needTo n U M k).2 j) (vecK m j)
      refine⟨Int.le_trans hu.1 h1.1,?_⟩
      rcases h1.2.2 with e|e
      ·rw[e]
       rcases hu.2 with h|⟨r,hr,a,b,c1,c2,c3⟩
       ·exact .inl h
       ·exact .inr ⟨r,List.mem_append_left _ hr,a,b,c1,c2,c3⟩
      ·rw[e]
       exact .inr ⟨k,List.mem_append_right _ jK,i,m,hg,hm,rfl⟩
     ·refine⟨hu.1,?_⟩
      rcases hu.2 with h|⟨r,hr,a,b,c1,c2,c3⟩
      ·exact .inl h
      ·exact .inr ⟨r,List.mem_append_left _ hr,a,b,c1,c2,c3⟩
    ·rw[hrg,lnA]
     show _+_≤Q.length+1
     split<;>omega
  ·rw[if_neg hs]
   exact⟨Q,q1,q2',.inl jA⟩
def needV(n:Nat)(U:List Msg)(t:Int):Nat→Int:=(needTo n U (prvV n U (audR n U) t) n).2
theorem filterMap_take{α β:Type}(l:List α)(g:α→Option β):∀k,k≤l.length→((List.range k).filterMap fun i=>l[i]?.bind g)=(l.take k).filterMap g
 |0,_=>rfl
 | k + 1, hk => by
  obtain⟨x,hx⟩:∃x,l[k]?=some x:=⟨_,lgE jA⟩
  rw[List.range_succ,List.filterMap_append,filterMap_take l g k jA,zax hx,List.filterMap_append]
  congr 1
  rw[List.filterMap_cons,List.filterMap_cons,hx]
  rfl
theorem prvL_eq(hW:WOK n (ml.map MV.m))(t:Int):prvL n ml t=ml.filter (fun x=>decide (x.m.number≤needV n (ml.map MV.m) t (orgI x.m)))∧(prvL n ml t).map MV.m=sub (needV n (ml.map MV.m) t) (ml.map MV.m):=by
 have h1:prvL n ml t=ml.filter (fun x=>decide (x.m.number≤needV n (ml.map MV.m) t (orgI x.m))):=by
  unfold prvL;show prvM ml (needV n (ml.map MV.m) t) (audR n (ml.map MV.m)).tk=_;rw[(audR_order hW).2.1,List.length_map];generalize needV n (ml.map MV.m) t=need;unfold prvM;rw[filterMap_take ml _ ml.length (Nat.le_refl _),List.take_length]
  induction ml with
  |nil=>rfl
  | cons x r ih =>
   have ih:∀r:List MV,r.filterMap (fun x=>if x.m.number≤need (orgI x.m)then some x else none)=r.filter fun x=>decide (x.m.number≤need (orgI x.m)):=fun r=>by
    induction r with
    |nil=>rfl
    | cons y s ih =>
     rw[List.filter_cons];by_cases h:y.m.number≤need (orgI y.m)
     ·rw[List.filterMap_cons_some (b:=y) (by rw[if_pos h]),if_pos (decide_eq_true h),ih]
     ·rw[List.filterMap_cons_none (by rw[if_neg h]),if_neg (by rw[decide_eq_false h];decide),ih]
   exact ih (x::r)
 refine⟨h1,?_⟩;rw[h1];unfold sub;rw[List.filter_map];rfl
variable {t:Nat}
theorem proof_law(h3:3≤n)(h11:n≤11)(hodd:n % 2=1)(hW:WOK n U)(hv:∀m∈U,0≤m.body.view)(hC:CLO U)(ht:1≤t)(htd:t≤(decL (lgsOf n U)).length):Knw U (needV n U (t:Int))∧0<(sub (needV n U (t:Int)) U).length∧t≤(decL (lgsOf n (sub (needV n U (t:Int)) U))).length∧(decL (lgsOf n (sub (needV n U (t:Int)) U))).take t=(decL (lgsOf n U)).take t:=by
 obtain⟨hM,hT,hlg,_⟩:=audR_order hW;have hD:=DS.world hW hv h3 h11
 have hdb:∃v∈viewsU (lgsOf n U),(t:Int)≤(cmt (lgsOf n U) v:Int):=by
  rw[decL_len]at htd;unfold decB at htd;rcases bestC_mem (cmt (lgsOf n U)) (viewsU (lgsOf n U)) (0,0)with e|⟨a,b⟩
  ·rw[e]at htd;have htd:t≤0:=htd;omega
  ·exact⟨_,a,by rw[←b];omega⟩
 have hvw:=viewF_ok hdb;obtain⟨v,hvdef⟩:∃v,v=viewF (lgsOf n U) (t:Int) (viewsU (lgsOf n U)):=⟨_,rfl⟩
 rw[←hvdef]at hvw;have hcv:=cmt_ok (l:=lgsOf n U) (v:=v) jA;have hcv:(n-1) / 2<cntV (lgsOf n U) v (cmt (lgsOf n U) v):=by rw[lgsOf_n]at hcv;exact hcv
 have hct:cntV (lgsOf n U) v (cmt (lgsOf n U) v)≤cntV (lgsOf n U) v t:=by
  unfold cntV;rw[←List.countP_eq_length_filter,←List.countP_eq_length_filter];exact List.countP_mono_left fun r _ hr=>decide_eq_true (by have:=of_decide_eq_true hr;omega)
 have hVO:=VO.to h3 h11 hW hv (v:=v) (t:=(t:Int)) jA U.length (Nat.le_refl _)
 have hV:prvV n U (audR n U) (t:Int)=(votTo n U (List.range U.length) v (t:Int) U.length).2:=by
  unfold prvV;rw[hT,hlg,←hvdef,List.length_range]
 have hso:∀(o:Int) (i:Nat),vtG (prvV n U (audR n U) (t:Int)) o=some i→∃m,U[i]?=some m∧m.origin=o∧(t:Int)≤vot (lgsOf n (U.take (i+1))) (orgI m) v:=fun o i h=>hVO.so o i (by rw[←hV];exact h)
 have hno:∀r,r<n→(t:Int)≤vot (lgsOf n U) r v→vtG (prvV n U (audR n U) (t:Int)) ((r+1:Nat):Int)≠none:=fun r hr h=>by
  have h2:=hVO.no r hr;rw[List.take_length]at h2
  rw[hV];exact h2 h
 generalize hMd:prvV n U (audR n U) (t:Int)=M at *;obtain⟨Q,q1,q2,q3⟩:=ND.to h11 hW (M:=M) (fun o i h=>by obtain⟨m,a,b,_⟩:=hso o i h;exact⟨m,a,b⟩) (p:=fun r=>decide ((t:Int)≤vot (lgsOf n U) r v)) (fun r hr h=>hno r hr (of_decide_eq_true h)) n (Nat.le_refl _);have hnv:needV n U (t:Int)=(needTo n U M n).2:=by unfold needV;rw[hMd]
 rw[←hnv]at q2;generalize needV n U (t:Int)=need at *
 have hQl:(n-1) / 2<Q.length:=by
  have hcn:cntV (lgsOf n U) v t=((List.range n).filter fun r=>decide ((t:Int)≤vot (lgsOf n U) r v)).length:=by
   unfold cntV;rw[lgsOf_n]
  rcases q3 with h|h
  ·omega
  ·rw[←hcn]at h;omega
 have hvk:∀i m,U[i]?=some m→Knw U (vecK m):=fun i m hm=>by
  obtain⟨hK,_⟩:=vecK_knw h11 hW hC hm;refine⟨fun j=>⟨(hK.le j).1,?_⟩,fun x hx hxn j hj=>?_⟩
  ·have h1:=(hK.le j).2;have h2:=cnt_app (U.take (i+1)) (U.drop (i+1)) j
   rw[List.take_append_drop]at h2;omega
  ·refine hK.closed x ?_ hxn j hj;obtain⟨p,hp⟩:=List.getElem?_of_mem hx;by_cases h:p<i+1
   ·exact List.mem_of_getElem? (by rw[List.getElem?_take_of_lt h];exact hp)
   ·exfalso;have hn:=(hW p x hp).num;have h1:=(hK.le (orgI x)).2
    have e3:U.take p=U.take (i+1)++(U.take p).drop (i+1):=by
     have:=List.take_append_drop (i+1) (U.take p);rw[List.take_take,show min (i+1) p=i+1 by omega]at this
     exact this.symm
    have h4:=cnt_app (U.take (i+1)) ((U.take p).drop (i+1)) (orgI x);rw[←e3]at h4
    omega
 have hK:Knw U need:=by
  refine⟨fun j=>⟨(q2.up j).1,?_⟩,fun x hx hxn j hj=>?_⟩
  ·rcases(q2.up j).2 with h|⟨r,hr,i,m,c1,c2,c3⟩
   ·rw[h];omega
   ·rw[c3];exact((hvk i m c2).le j).2
  ·have hxp:=(orgI_lt h11 hW hx).2;rcases(q2.up (orgI x)).2 with h|⟨r,hr,i,m,c1,c2,c3⟩
   ·omega
   ·rw[c3]at hxn;have h1:=(hvk i m c2).closed x hx hxn j hj;obtain⟨i2,m2,d1,d2,d3,d4⟩:=q2.at' r hr
    rw[c1]at d1;cases d1
    rw[c2]at d2;cases d2
    exact Int.le_trans h1 (d4 j)
 have h0:∀i,0≤need i:=fun i=>(hK.le i).1;have hWP:WOK n (sub need U):=WOK.sub h0 U hW hK.closed
 have hvP:∀m∈sub need U,0≤m.body.view:=fun m hm=>hv m (zbp.1 hm).1;have hDP:=DS.world hWP hvP h3 h11
 have hvt:∀r∈Q,(t:Int)≤vot (lgsOf n (sub need U)) r v:=fun r hr=>by
  obtain⟨i,m,c1,c2,c3,c4⟩:=q2.at' r hr;obtain⟨m2,e1,e2,e3⟩:=hso _ _ c1;rw[c2]at e1;cases e1
  rw[←vot_vecK h3 h11 hW hv hC c2 v,c3]at e3
  have hss:sub (vecK m) (sub need U)=sub (vecK m) U:=by
   unfold sub;rw[List.filter_filter];refine List.filter_congr fun x hx=>?_;by_cases h:x.number≤vecK m (orgI x)
   ·rw[decide_eq_true h,decide_eq_true (Int.le_trans h (c4 _))];rfl
   ·rw[decide_eq_false h];rfl
  have hKP:Knw (sub need U) (vecK m):=by
   refine⟨fun j=>⟨((hvk i m c2).le j).1,?_⟩,fun x hx hxn j hj=>(hvk i m c2).closed x (zbp.1 hx).1 hxn j hj⟩;rw[cnt_sub h0 U hW j,minU_all hK];exact c4 j
  have hMo:=(sub_all hWP hKP hvP h3 h11).2.2;rw[hss]at hMo
  exact Int.le_trans e3 (hMo.vo r v)
 have hQn:∀r∈Q,r<n:=q2.lt
 have hcP:(n-1) / 2<cntV (lgsOf n (sub need U)) v t:=by
  unfold cntV;rw[lgsOf_n];refine Nat.lt_of_lt_of_le hQl (nodup_le q2.nd fun r hr=>?_);rw[List.mem_filter];exact⟨List.mem_range.2 (hQn r hr),decide_eq_true (hvt r hr)⟩
 obtain⟨r,hr⟩:∃r,r∈Q:=by
  cases Q with
  |nil=>exact absurd hQl (Nat.not_lt_zero _)
  |cons a b=>exact⟨a,by simp⟩
 obtain⟨T,hLP⟩:=hDP.li;obtain⟨k',hk1,hk2⟩:=vot_pos jA (hvt r hr);obtain⟨w,hw,hwv,hwl⟩:=hLP.log r (by rw[lgsOf_n];exact hQn r hr) _ hk1;have hwv:w.v=v:=hwv;have hwl:k'≤(w.all.length:Int):=hwl
 have hvwP:(lgsOf n (sub need U)).vw v=some w:=by rw[←hwv];exact vw_mem hLP.rise hw
 have hpre:=dec_has hDP (by rw[lgsOf_n];exact hodd) hvwP (j:=t) jA (fun _=>by rw[lgsOf_n];exact hcP)
 have hlen:t≤(decL (lgsOf n (sub need U))).length:=by
  have:=hpre.length_le;exact qdA
 refine⟨hK,?_,hlen,?_⟩
 ·obtain⟨i,m,c1,c2,c3,c4⟩:=q2.at' r hr
  have hmem:m∈sub need U:=by
   refine zbp.2 ⟨List.mem_of_getElem? c2,?_⟩
   have:=c4 (orgI m);have ho:=orgI_lt h11 hW (List.mem_of_getElem? c2)
   unfold vecK at this;rw[if_pos jA,if_pos rfl]at this;exact this
  exact List.length_pos_of_mem hmem
 ·have hp:=dec_sub hW hK hv h3 h11 hodd;obtain⟨s,hs⟩:=hp
  rw[←hs,List.take_append_of_le_length hlen]
theorem accTo_world{n:Nat}{P:List Msg}(hW:WOK n P):∀k,k≤P.length→accTo n P k=(P.take k,lgsOf n (P.take k),0)
 |0,_=>rfl
 | k + 1, hk => by
  obtain⟨m,hm⟩:∃m,P[k]?=some m:=⟨_,lgE jA⟩
  unfold accTo
  rw[hm,accTo_world hW k jA]
  have h0:=(hW k m hm).chk
  show(if(0:Int)=0 then(if chk n (strm (P.take k)) m=0 then(P.take k++[m],((lgsOf n (P.take k)).take m).2,(0:Int))else _)else _)=_
  rw[if_pos rfl,if_pos h0,zax hm,lgsOf_snoc]
theorem accR_world{P:List Msg}(hW:WOK n P)(ht:1≤t)(hd:t≤(decL (lgsOf n P)).length):accR n P (t:Int)=((decL (lgsOf n P)).take t,0):=by
 have h:=accTo_world hW P.length (Nat.le_refl _);rw[List.take_length]at h
 unfold accR;rw[h,if_neg jA,if_neg (fun e=>e rfl),if_neg (by show¬((decL (lgsOf n P)).length:Int)<t;omega)];rfl
/-! ### Worlds -/
theorem world_clo{n:Nat}(h3:3≤n)(h11:n≤11)(l:List A15):∀k,k≤1000→CLO (world15 n (l.take k)).w.all
 |0,_=>fun m hm=>by cases hm
 | k + 1, hk => by
  have ih:=world_clo h3 h11 l k jA
  have hinv:=world15_inv h3 h11 l k jA
  cases h:l[k]? with
  | none =>
   have e:l.take (k+1)=l.take k:=by rw[List.take_add_one,h];simp
   rw[e]
   exact ih
  | some x =>
   rw[zax h,world15_snoc]
   generalize world15 n (l.take k)=W at *
   unfold W15.act
   split
   ·exact ih
   ·split
    ·have ho:x.who.toNat % n<n:=Nat.mod_lt _ jA
     generalize x.who.toNat % n=o at *
     obtain⟨e1,e2,e3,e4⟩:=(W.next n o x).signed_parts
     have hK:=hinv.w.knw o ho
     have hown:=hinv.w.own o ho
     generalize hm':(W.next n o x).signed=m' at *
     have hd:m'.deps=W.w.kv o:=e3
     have hn:m'.number=W.w.kv o o+1:=e2
     have horg:orgI m'=o:=by unfold orgI;rw[e1];show(((o+1:Nat):Int)-1).toNat=o;omega
     show CLO (W.w.all++[m'])
     intro m hm y hy hyn i hi
     rcases List.mem_append.1 hm with a|a
     ·rcases List.mem_append.1 hy with b|b
      ·exact ih m a y b hyn i hi
      ·exfalso
       rw[List.mem_singleton.1 b,horg]at hyn
       obtain⟨p,hp⟩:=List.getElem?_of_mem a
       have h1:=(hinv.w.ok p m hp).dep o jA
       have h2:=cnt_app (W.w.all.take p) (W.w.all.drop p) o
       rw[List.take_append_drop]at h2
       omega
     ·rw[List.mem_singleton.1 a,hd]at hyn
      rw[List.mem_singleton.1 a,hd]
      rcases List.mem_append.1 hy with b|b
      ·exact hK.closed y b hyn i hi
      ·exfalso
       rw[List.mem_singleton.1 b,horg]at hyn
       omega
    ·exact ih
theorem CLO_sub(h:CLO U)(k:Nat→Int):CLO (sub k U):=fun m hm x hx=>h m (zbp.1 hm).1 x (zbp.1 hx).1
structure PrS(n:Nat)(l L:List MV)(D:List Req)(t:Nat):Prop where
 sub:∀x∈L,x∈l
 pos:0<L.length
 le:L.length≤l.length
 acc:accR n (L.map MV.m) (t:Int)=(D.take t,0)
 ok:WOK n (L.map MV.m)
theorem prove_law0(h3:3≤n)(h11:n≤11)(hodd:n % 2=1)(hW:WOK n (l.map MV.m))(hv:∀m∈l.map MV.m,0≤m.body.view)(hC:CLO (l.map MV.m))(ht:1≤t)(htd:t≤(decL (audR n (l.map MV.m)).l).length):prvB n (l.map MV.m) (t:Int)∧PrS n l (prvL n l (t:Int)) (decL (audR n (l.map MV.m)).l) t:=by
 obtain⟨_,_,hlg,hfk⟩:=audR_order hW;refine⟨⟨by rw[hfk];rfl,by omega,by omega⟩,?_⟩;rw[hlg]at htd⊢;obtain⟨p1,p2,p3,p4⟩:=proof_law h3 h11 hodd hW hv hC ht htd;obtain⟨e1,e2⟩:=prvL_eq (ml:=l) hW (t:Int);have hWP:WOK n ((prvL n l (t:Int)).map MV.m):=by rw[e2];exact WOK.sub (fun i=>(p1.le i).1) _ hW p1.closed
 have hlen:(prvL n l (t:Int)).length=(sub (needV n (l.map MV.m) (t:Int)) (l.map MV.m)).length:=by rw[←e2,List.length_map]
 refine⟨fun x hx=>by rw[e1]at hx;exact(List.mem_filter.1 hx).1,by rw[hlen];exact p2,by rw[e1];exact List.length_filter_le _ _,?_,hWP⟩;rw[e2,accR_world (by rw[←e2];exact hWP) ht p3,p4]
section
variable (f:Frag) (F:List HP)
end
end Go.Proofs.YtkaknokcbhiigaaGreatDoor
