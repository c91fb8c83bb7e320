/- Parts of the proof. No conditions. -/
import Derived.Test.YtdpgpmbebbaoiaaGreatDoorZ13
set_option linter.unusedSectionVars false
set_option linter.unusedSimpArgs false
set_option linter.unusedVariables false
set_option maxHeartbeats 3200000
set_option maxRecDepth 20000
namespace Go.Proofs.YtdpgpmbebbaoiaaGreatDoor
open Go Go.Proofs.Tryz
theorem qnew_asks(n:Nat):qasks 0 (qnew n)=qnew n:=rfl
theorem rep_max(r:QR)(h:r.cm=0):∀n,(List.replicate n r).foldl (fun m r=>max m r.cm) 0=0
 |0=>rfl
 | n + 1 => by
  show(List.replicate n r).foldl (fun m r=>max m r.cm) (max 0 r.cm)=0
  rw[h]
  exact rep_max r h n
variable {n:Nat}
theorem qasks_cl{k:Nat}(hk:k<8):(qasks k (qnew n)).cl.set k (true,List.replicate 11 false)=(qasks (k+1) (qnew n)).cl∧cF (qasks k (qnew n)).cl k=(false,List.replicate 11 false):=by
 match k,hk with
 |0,_=>exact⟨rfl,rfl⟩
 |1,_=>exact⟨rfl,rfl⟩
 |2,_=>exact⟨rfl,rfl⟩
 |3,_=>exact⟨rfl,rfl⟩
 |4,_=>exact⟨rfl,rfl⟩
 |5,_=>exact⟨rfl,rfl⟩
 |6,_=>exact⟨rfl,rfl⟩
 |7,_=>exact⟨rfl,rfl⟩
theorem qasks_next{k:Nat}(hk:k<8):({qasks k (qnew n)with cl:=(qasks k (qnew n)).cl.set k (true,List.replicate 11 false)}:QW).fin=qasks (k+1) (qnew n):=by
 rw[(qasks_cl hk).1];show({qasks (k+1) (qnew n)with lon:=(List.replicate n (qrep n)).foldl (fun m r=>max m r.cm) 0}:QW)=_;rw[rep_max _ rfl];rfl
theorem qw2_is:∃w1 w2,qcalm 100 (qasks 4 (qnew 3))=some w1∧qcalm 100 w1=some w2∧w2.lon=4∧(∀m∈(rF w2.rs 0).l,m.k=6→m.a=4)∧(∃m∈(rF w2.rs 0).l,m.k=6∧m.o=1)∧(∃m∈(rF w2.rs 0).l,m.k=6∧m.o=2):=by
 have h:=qw2_yes;unfold qw2 at h
 split at h
 ·rename_i w1 h1
  split at h
  ·rename_i w2 h2
   rw[Bool.and_eq_true]at h;obtain⟨hl,h⟩:=h;split at h
   ·rename_i r l hr
    rw[Bool.and_eq_true,Bool.and_eq_true,List.all_eq_true,List.any_eq_true,List.any_eq_true]at h;have e:rF w2.rs 0=r:=by unfold rF;rw[hr];rfl
    have k1:∀(m:QM) (o:Nat),(m.k == 6&&m.o == o)=true→m.k=6∧m.o=o:=fun m o h=>by
     rw[Bool.and_eq_true,beq_iff_eq,beq_iff_eq]at h;exact h
    obtain⟨⟨h3,m1,hm1,h4⟩,m2,hm2,h5⟩:=h;refine⟨w1,w2,h1,h2,eq_of_beq hl,?_⟩;rw[e]
    exact⟨fun m hm hk=>by
     have h6:=h3 m hm;rw[hk]at h6
     exact eq_of_beq h6,⟨m1,hm1,k1 m1 1 h4⟩,m2,hm2,k1 m2 2 h5⟩
   ·cases h
  ·cases h
 ·cases h
theorem ask_u8{k:Nat}(hk:k<8):IntKind.u8.wrap ((k+1:Nat):Int)=((k+1:Nat):Int)∧IntKind.u8.wrap (48+((k+1:Nat):Int))=(((yv (k+1)).toNat:Nat):Int):=by
 match k,hk with
 |0,_=>exact⟨rfl,rfl⟩
 |1,_=>exact⟨rfl,rfl⟩
 |2,_=>exact⟨rfl,rfl⟩
 |3,_=>exact⟨rfl,rfl⟩
 |4,_=>exact⟨rfl,rfl⟩
 |5,_=>exact⟨rfl,rfl⟩
 |6,_=>exact⟨rfl,rfl⟩
 |7,_=>exact⟨rfl,rfl⟩
section
variable (f:Frag) (F:List HP)
theorem wAskQ_fn(htab:TabAt f){wb k:Nat}{x:UInt8}(h3:3≤n)(h11:n≤11)(hodd:n % 2=1)(hk:k<8):Fn prog 7 [pv wb,.agg (stpL 1 ((k+1:Nat):Int) 0 0 (opL x (yv (k+1)))).toArray] f (worH wb n k x (qasks k (qnew n))::F) (WoP f F wb n (k+1) x (qasks (k+1) (qnew n)) 0):=by
 have h:=wAsk_fn f F htab (wb:=wb) (x:=x) (w:=qasks k (qnew n)) h3 h11 hodd hk (qasks_cl hk).2;rw[qasks_next hk]at h
 exact h
theorem tworks_fn(htab:TabAt f):Fn prog 13 [] f F (Ret (.bool true) f F):=by
 have h11:3≤11:=jE
 have hlt:0<3:=jE
 obtain⟨w1,w2,hq1,hq2,hlon,hst⟩:=qw2_is;have hne:=fun G=>wnew_fn' f G htab (n:=3) 97 jE jE rfl;rw[←qnew_asks]at hne
 obtain⟨u,hu⟩:∃u,u=qasks 0 (qnew 3):=⟨_,rfl⟩;rw[←hu]at hne;unfold pv at hne;refine BX func13 ntmps13 fun base=>?_;apply (gG);refine C3 (hne _) fun wb=>?_;have hcl:=fun cb lp j lc ap na ac G=>wclus_fn f G (wb:=wb) (n:=3) (asked:=0) (x:=97) (w:=u) (cb:=cb) (lp:=lp) (ap:=ap) (j:=j) (lc:=lc) (na:=na) (ac:=ac);unfold pv at hcl
 refine AM fun s hwa=>?_;obtain⟨cb,ap,ac⟩:=s;show H _ _ _ _ f (lonH wb 3 cb 97 u.lon ap u.acc.length ac::accH ap ac u.acc::cluH cb 3 0 97 u::_) _;refine AM fun s hl=>?_;obtain⟨lp,lc⟩:=s;show H _ _ _ _ f (row wb _ (worC 3 cb lp u.lon lc ap u.acc.length ac)::slc lp u.lon lc _ 40 _::accH ap ac u.acc::cluH cb 3 0 97 u::_) _;apply (gS);apply (qhA);apply (gR);apply (qfk);subst hu;refine AF (ι:=Nat) (fun k=>[(3,.int .i64 ((k+1:Nat):Int)),(1,.pointer (some ⟨wb,0,none⟩))]) (fun _=>f) (fun k=>worH wb 3 k 97 (qasks k (qnew 3))::F) (fun k=>k≤4) (fun k=>4-k) 0 (Nat.zero_le _) fun k hk=>?_;have hk:k≤4:=hk;show H _ _ _ [(3,.int .i64 ((k+1:Nat):Int)),_] f (worH wb 3 k 97 (qasks k (qnew 3))::F) _
 by_cases hk4:k<4
 ·have hu8:=ask_u8 (k:=k) jB;have has:=fun G=>wAskQ_fn f G htab (wb:=wb) (n:=3) (k:=k) (x:=97) jE jE rfl jB
  unfold pv at has;refine (qfX) fun eb=>?_;apply (qjz);refine AT (out:=opL 97 (yv (k+1))) rfl rfl rfl jD rfl ?_;refine AT (out:=stpL 1 ((k+1:Nat):Int) 0 0 (opL 97 (yv (k+1)))) rfl rfl rfl jD rfl ?_;apply (qeZ);refine H.cl (has _) fun v f' A' hr=>?_;obtain⟨ls,p,k',c,hls,rfl,hff,rfl⟩:=hr;rw[hff];clear hff hls has;apply (gD);exact AI (k+1) (show k+1≤4 from hk4) (by show 4-(k+1)<4-k;omega)
 ·obtain rfl:k=4:=jB
  have hc1:=fun G=>wcalm_fn f G htab (wb:=wb) (n:=3) (asked:=4) (m:=100) (x:=97) jE jE rfl jE jE hq1;have hc2:=fun G=>wcalm_fn f G htab (wb:=wb) (n:=3) (asked:=4) (m:=100) (x:=97) jE jE rfl jE jE hq2
  have hlo:=fun G=>wlong_fn f G (wb:=wb) (n:=3) (asked:=4) (x:=97) (w:=w2);unfold pv at hc1 hc2 hlo
  apply (gE);refine H.cl (hc1 _) fun v f' A' hr=>?_;obtain⟨j1,rfl,hff,rfl⟩:=hr;rw[hff];clear hff hc1;apply (gO);refine H.cl (hc2 _) fun v f' A' hr=>?_;obtain⟨j2,rfl,hff,rfl⟩:=hr;rw[hff];clear hff hc2;obtain⟨u,hu⟩:∃u,u=w2:=⟨_,rfl⟩;rw[←hu]at hlon hst hlo⊢;clear hcl;have hcl:=fun cb lp j lc ap na ac G=>wclus_fn f G (wb:=wb) (n:=3) (asked:=0) (x:=97) (w:=u) (cb:=cb) (lp:=lp) (ap:=ap) (j:=j) (lc:=lc) (na:=na) (ac:=ac);unfold pv at hcl
  refine AM fun s hwa=>?_;obtain⟨cb,ap,ac⟩:=s;show H _ _ _ _ f (lonH wb 3 cb 97 u.lon ap u.acc.length ac::accH ap ac u.acc::cluH cb 3 4 97 u::_) _;refine AM fun s hl=>?_;obtain⟨lp,lc⟩:=s;show H _ _ _ _ f (row wb _ (worC 3 cb lp u.lon lc ap u.acc.length ac)::slc lp u.lon lc _ 40 _::accH ap ac u.acc::cluH cb 3 4 97 u::_) _;apply (gO);apply (qhA);apply (qfb);refine AM fun i hw=>?_;show H _ _ _ _ f (row cb _ (cluC 3 i u.now)::sitL 3 i::fam (siteF 3 97 i.sb u.rs) 3::fam (cliF 3 97 i.ca 4 u.cl) 8::netQ i.nb _::_) _;apply (qgw);refine CA (i:=0) hlt ?_;rw[cF_site];refine AM fun⟨db,du⟩ _=>?_;show H _ _ _ _ f (row (i.sb 0) _ [pv db,pv du]::durH du db 3 0 97 _::fam (updF (siteF 3 97 i.sb u.rs) 0 emp) 3::_) _;apply (qeV);refine AM fun k hφ=>?_;have hI:=hφ.inv;have hrp:=fun G=>clrep_fn f G (cb:=cb) (now:=u.now) (db:=db) (du:=du) (x:=97) (r:=rF u.rs 0) (i:=i) (k:=k) h11 hlt
  obtain⟨rb,ub,kb,bb,sv,csv,wk,z,nx,life,m⟩:=k;show H _ _ _ _ f (row du _ (durC 3 0 rb ub bb)::repH rb 3 0 97 _ []::row ub _ _::row kb _ _::row bb _ _::diskH db z m::row (i.sb 0) _ _::fam (updF (siteF 3 97 i.sb u.rs) 0 emp) 3::row cb _ _::sitL 3 i::fam (cliF 3 97 i.ca 4 u.cl) 8::netQ i.nb _::_) _;unfold pv at hrp;apply A3 (row (i.sb 0) _ _);apply (qhK);apply A5 (hrp _);show H _ _ _ _ f (row cb _ _::sitL 3 i::row (i.sb 0) _ _::row du _ (durC 3 0 rb ub bb)::repH rb 3 0 97 _ []::row ub _ _::row kb _ _::row bb _ _::diskH db z m::_) _;have hsb:=fun G=>rstable_fn f G (rb:=rb) (o:=0) (x:=97) (r:=rF u.rs 0) (ws:=[]) h11;apply (gR)
  apply (qec);refine DG rfl rfl rfl (hsb _) fun r hr=>?_;have hr4:=stable_four hI.ok hst.1 hst.2.1 hst.2.2 hr;obtain⟨k4,dg⟩:=r
  obtain rfl:k4=4:=hr4;clear hr;rw[hlon]at hlo;rw[show stV (4,dg)= .tuple #[.int .u64 4,.agg (dV dg).toArray]from rfl];apply (gO);refine (qfv) fun tg=>?_;apply (gG)
  refine AC (ls:=zb 32) (vs:=dV dg) (ls':=dV dg) rfl rfl rfl (dV_one dg) (dV_len dg) (by
   unfold splice
   rw[List.take_zero,List.drop_eq_nil_of_le (by rw[dV_len];exact Nat.le_refl 32)];simp) (by rw[dV_len];decide) aP0 ?_
  apply (qjY);refine H.imp (zbt (r:=rF u.rs 0) ⟨rb,ub,kb,bb,sv,csv,wk,z,nx,life,m⟩ hφ) ?_;apply A3 (row (i.sb 0) _ _);apply (qeA);refine CH (g:=siteF 3 97 i.sb u.rs) hlt ?_;apply (qej);refine H.imp (zbc (asked:=4) (w:=u) i hw) ?_;apply (qfk);apply A4 (row tg _ _);apply (gJ);refine H.cl (hlo _) fun v f' A' hr=>?_;obtain⟨lp2,lc2,rfl,hff,rfl⟩:=hr;rw[hff];clear hff;apply (gJ);exact qce
end
variable {c:Nat}
theorem qgood_all(h3:3≤n)(h11:n≤11)(hodd:n % 2=1)(hc:c<8):qgood n (c+1)=true:=by
 have h:n=3∨n=5∨n=7∨n=9∨n=11:=jB
 rcases h with rfl|rfl|rfl|rfl|rfl
 ·exact qgood3 c hc
 ·exact qgood5 c hc
 ·exact qgood7 c hc
 ·exact qgood9 c hc
 ·by_cases h:c<4
  ·exact qgood11a c h
  ·have h2:=qgood11b (c-4) jB;rw[show c-4+5=c+1 by omega]at h2
   exact h2
theorem qgood_is(h:qgood n c=true):∃w,qcalm 60 (qasks c (qnew n))=some w∧w.lon=c∧w.acc.length=c:=by
 unfold qgood at h;split at h
 ·rename_i w hw
  rw[Bool.and_eq_true,beq_iff_eq,beq_iff_eq]at h;exact⟨w,hw,h.1,h.2⟩
 ·cases h
section
variable (f:Frag) (F:List HP)
theorem oddT_fn{z:Int}(h0:0≤z∧z≤255):∃n:Nat,3≤n∧n≤11∧n % 2=1∧∀F,Fn prog 4 [.int .u8 z] f F (Ret (.int .i64 (n:Nat)) f F):=by
 have hz:z.tmod 5=((z.toNat % 5:Nat):Int):=by rw[←tmod64,Int.toNat_of_nonneg h0.1];rfl
 refine⟨3+2*(z.toNat % 5),by omega,by omega,by omega,fun F=>?_⟩;generalize hr:z.toNat % 5=r at hz;have hr5:r<5:=by rw[←hr];omega
 have e1:IntKind.i64.wrap (2*(r:Int))=((2*r:Nat):Int):=by rw[wr_i64 jB];omega
 have e2:IntKind.i64.wrap (3+((2*r:Nat):Int))=((3+2*r:Nat):Int):=by rw[wr_i64 jB];omega
 have e3:IntKind.i64.wrap ((r:Nat):Int)=(r:Int):=wr_i64 jB;refine AB func4 ntmps4 fun base=>?_
 repeat(first|(apply BC;(iterate 4 exact rfl);exact e1;exact rfl)|(apply BC;(iterate 4 exact rfl);exact e2;exact rfl)|(apply (gU))|(refine H.rem rfl rfl rfl jE hz rfl ?_))
 exact qad
theorem topQuiet_fn(htab:TabAt f){zn zc:Int}(h0:0≤zn∧zn≤255)(hc0:0≤zc∧zc≤255):Fn prog 3 [.int .u8 zn,.int .u8 zc] f F (Ret (.bool true) f F):=by
 obtain⟨n,h3,h11,hodd,hod⟩:=oddT_fn f h0;have hz:zc.tmod 8=((zc.toNat % 8:Nat):Int):=by rw[←tmod64,Int.toNat_of_nonneg hc0.1];rfl
 obtain⟨C,hC⟩:∃C:Nat,C=zc.toNat % 8:=⟨_,rfl⟩;have hC8:C<8:=jB
 rw[←hC]at hz;clear hC;have e1:IntKind.i64.wrap (1+(C:Int))=((C+1:Nat):Int):=by rw[wr_i64 jB];omega
 obtain⟨w2,hq1,hlon,hacl⟩:=qgood_is (qgood_all h3 h11 hodd hC8);have hne:=fun G=>wnew_fn' f G htab (n:=n) 107 h3 h11 hodd;have hwo:=fun G=>tworks_fn f G htab
 rw[←qnew_asks]at hne;obtain⟨u,hu⟩:∃u,u=qasks 0 (qnew n):=⟨_,rfl⟩;rw[←hu]at hne;unfold pv at hne;refine A9 func3 ntmps3 fun base=>?_;apply (gG);apply A5 (hod _);apply (gG);refine C3 (hne _) fun wb=>?_;have hcl:=fun cb lp j lc ap na ac G=>wclus_fn f G (wb:=wb) (n:=n) (asked:=0) (x:=107) (w:=u) (cb:=cb) (lp:=lp) (ap:=ap) (j:=j) (lc:=lc) (na:=na) (ac:=ac);unfold pv at hcl
 refine AM fun s hwa=>?_;obtain⟨cb,ap,ac⟩:=s;show H _ _ _ _ f (lonH wb n cb 107 u.lon ap u.acc.length ac::accH ap ac u.acc::cluH cb n 0 107 u::_) _;refine AM fun s hl=>?_;obtain⟨lp,lc⟩:=s;show H _ _ _ _ f (row wb _ (worC n cb lp u.lon lc ap u.acc.length ac)::slc lp u.lon lc _ 40 _::accH ap ac u.acc::cluH cb n 0 107 u::_) _;apply (gS);apply (qhA);repeat(first|(refine H.rem rfl rfl rfl jE hz rfl ?_)|(apply BC;(iterate 4 exact rfl);exact e1;exact rfl)|(apply (gU)))
 apply (qfk);subst hu;refine AF (ι:=Nat) (fun k=>[(9,.int .i64 ((k+1:Nat):Int)),(6,.pointer (some ⟨wb,0,none⟩)),(8,.int .i64 ((C+1:Nat):Int)),(5,.int .i64 (n:Nat))]) (fun _=>f) (fun k=>worH wb n k 107 (qasks k (qnew n))::F) (fun k=>k≤C+1) (fun k=>C+1-k) 0 (Nat.zero_le _) fun k hk=>?_;have hk:k≤C+1:=hk;show H _ _ _ [(9,.int .i64 ((k+1:Nat):Int)),_,_,_] f (worH wb n k 107 (qasks k (qnew n))::F) _
 by_cases hkC:k<C+1
 ·have hu8:=ask_u8 (k:=k) jB;have has:=fun G=>wAskQ_fn f G htab (wb:=wb) (n:=n) (k:=k) (x:=107) h3 h11 hodd jB
  unfold pv at has;refine (qfX) fun eb=>?_;apply (qjz);refine AT (out:=opL 107 (yv (k+1))) rfl rfl rfl jD rfl ?_;refine AT (out:=stpL 1 ((k+1:Nat):Int) 0 0 (opL 107 (yv (k+1)))) rfl rfl rfl jD rfl ?_;apply (qeZ);refine H.cl (has _) fun v f' A' hr=>?_;obtain⟨ls,p,k',c,hls,rfl,hff,rfl⟩:=hr;rw[hff];clear hff hls has;apply (gD);exact AI (k+1) (show k+1≤C+1 from hkC) (by show C+1-(k+1)<C+1-k;omega)
 ·obtain rfl:k=C+1:=jB
  have hc1:=fun G=>wcalm_fn f G htab (wb:=wb) (n:=n) (asked:=C+1) (m:=60) (x:=107) h3 h11 hodd jE jE hq1;obtain⟨u,hu⟩:∃u,u=w2:=⟨_,rfl⟩
  rw[←hu]at hlon hacl hc1;clear hcl hq1;have hlo:=fun G=>wlong_fn f G (wb:=wb) (n:=n) (asked:=C+1) (x:=107) (w:=u);have hac:=fun G=>wacc_fn f G (wb:=wb) (n:=n) (asked:=C+1) (x:=107) (w:=u)
  rw[hlon]at hlo;rw[hacl]at hac;unfold pv at hc1 hlo hac;apply (gN);refine H.cl (hc1 _) fun v f' A' hr=>?_;obtain⟨j1,rfl,hff,rfl⟩:=hr;rw[hff];clear hff hc1;apply (gO);refine H.cl (hlo _) fun v f' A' hr=>?_;obtain⟨lp2,lc2,rfl,hff,rfl⟩:=hr;rw[hff];clear hff hlo;apply (gS);apply (qjp);refine H.cl (hac _) fun v f' A' hr=>?_;obtain⟨ap2,ac2,rfl,hff,rfl⟩:=hr;rw[hff];clear hff hac;apply (gS);refine AF (ι:=Nat) (fun j=>[(13,.int .i64 (j:Nat)),(12,.slice lp2 (C+1) lc2),(6,.pointer (some ⟨wb,0,none⟩)),(8,.int .i64 ((C+1:Nat):Int)),(5,.int .i64 (n:Nat))]) (fun _=>f) (fun _=>worH wb n (C+1) 107 u::slc lp2 (C+1) lc2 34 40 ((qrow 107 (C+1)).flatMap Req.vals)::F) (fun j=>j≤C+1) (fun j=>C+1-j) 0 (Nat.zero_le _) fun j hj=>?_;have hj:j≤C+1:=hj;by_cases hjC:j<C+1
  ·refine AO (p:=lp2) (n0:=C+1) (c:=lc2) (T:=34) (sz:=40) jA jB fun pa hp=>?_;subst hp;have hat:=qrow_at 107 hjC;apply (gN)
   refine B7 (i:=j) rfl rfl rfl rfl hjC rfl ?_;apply (gL);refine AL (v:=.int .i64 ((j+1:Nat):Int)) rfl rfl rfl (by rw[Nat.zero_add];exact Rd1.of (i:=0) (off:=j*40) (Rd.slcElem (sz:=40) (vals:=Req.vals) (xs:=qrow 107 (C+1)) req40 jE jA hat) rfl) rfl ?_;apply (gS);refine B7 (i:=j) rfl rfl rfl rfl hjC rfl ?_;apply (gL);refine AL (v:=.int .u64 1) rfl rfl rfl (by rw[Nat.zero_add];exact Rd1.of (i:=1) (off:=j*40) (Rd.slcElem (sz:=40) (vals:=Req.vals) (xs:=qrow 107 (C+1)) req40 jE jA hat) rfl) rfl ?_;apply (gS);exact AI (j+1) (show j+1≤C+1 from hjC) (by show C+1-(j+1)<C+1-j;omega)
  ·obtain rfl:j=C+1:=jB
   apply (gN);apply A4 (slc lp2 _ _ _ _ _);refine AF (ι:=Nat) (fun o=>[(14,.int .i64 ((o+1:Nat):Int)),(6,.pointer (some ⟨wb,0,none⟩)),(5,.int .i64 (n:Nat))]) (fun _=>f) (fun _=>worH wb n (C+1) 107 u::F) (fun o=>o≤n) (fun o=>n-o) 0 (Nat.zero_le _) fun o ho=>?_;have ho:o≤n:=ho;by_cases hlt:o<n
   ·have hcl:=fun cb lp j lc ap na ac G=>wclus_fn f G (wb:=wb) (n:=n) (asked:=0) (x:=107) (w:=u) (cb:=cb) (lp:=lp) (ap:=ap) (j:=j) (lc:=lc) (na:=na) (ac:=ac);unfold pv at hcl
    refine AM fun s hwa=>?_;obtain⟨cb,ap,ac⟩:=s;show H _ _ _ _ f (lonH wb n cb 107 u.lon ap u.acc.length ac::accH ap ac u.acc::cluH cb n (C+1) 107 u::_) _;refine AM fun s hl=>?_;obtain⟨lp,lc⟩:=s;show H _ _ _ _ f (row wb _ (worC n cb lp u.lon lc ap u.acc.length ac)::slc lp u.lon lc _ 40 _::accH ap ac u.acc::cluH cb n (C+1) 107 u::_) _;apply (gN);apply (qhA);apply (gG);apply (qfb);refine AM fun i hw=>?_;show H _ _ _ _ f (row cb _ (cluC n i u.now)::sitL n i::fam (siteF n 107 i.sb u.rs) n::fam (cliF n 107 i.ca (C+1) u.cl) 8::netQ i.nb _::_) _;apply (qgw);refine CA (i:=o) hlt ?_;rw[cF_site];refine AM fun⟨db,du⟩ _=>?_;show H _ _ _ _ f (row (i.sb o) _ [pv db,pv du]::durH du db n o 107 _::fam (updF (siteF n 107 i.sb u.rs) o emp) n::_) _;apply (qeV);refine AM fun k hφ=>?_;have hI:=hφ.inv;have hrp:=fun G=>clrep_fn f G (cb:=cb) (now:=u.now) (db:=db) (du:=du) (x:=107) (r:=rF u.rs o) (i:=i) (k:=k) h11 hlt
    obtain⟨rb,ub,kb,bb,sv,csv,wk,z,nx,life,m⟩:=k;show H _ _ _ _ f (row du _ (durC n o rb ub bb)::repH rb n o 107 _ []::row ub _ _::row kb _ _::row bb _ _::diskH db z m::row (i.sb o) _ _::fam (updF (siteF n 107 i.sb u.rs) o emp) n::row cb _ _::sitL n i::fam (cliF n 107 i.ca (C+1) u.cl) 8::netQ i.nb _::_) _;unfold pv at hrp;apply (qfL);apply A5 (hrp _);show H _ _ _ _ f (row cb _ _::sitL n i::row (i.sb o) _ _::row du _ (durC n o rb ub bb)::repH rb n o 107 _ []::row ub _ _::row kb _ _::row bb _ _::diskH db z m::_) _;have hgr:=fun G=>rgreatH_fn f G (rb:=rb) (o:=o) (x:=107) (r:=rF u.rs o) (ws:=[]) h11 hlt;apply (qdI)
    apply (qec);apply A5 (hgr _);apply (qjY);refine H.imp (zbt (r:=rF u.rs o) ⟨rb,ub,kb,bb,sv,csv,wk,z,nx,life,m⟩ hφ) ?_;apply (qhp);apply (qeA);refine CH (g:=siteF n 107 i.sb u.rs) hlt ?_;apply (qej);refine H.imp (zbc (asked:=(C+1)) (w:=u) i hw) ?_;apply (qfk);apply (gS);exact AI (o+1) (show o+1≤n from hlt) jw
   ·obtain rfl:n=o:=jB
    apply (gN);apply A4 (worH _ _ _ _ _);apply A5 (hwo _);apply (gK);exact qad
end
end Go.Proofs.YtdpgpmbebbaoiaaGreatDoor
