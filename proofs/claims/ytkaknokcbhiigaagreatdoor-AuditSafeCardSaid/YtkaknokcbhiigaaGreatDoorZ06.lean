/- Parts of the proof. No conditions. -/
import Derived.Test.YtkaknokcbhiigaaGreatDoorZ05
set_option linter.unusedSectionVars false
set_option linter.unusedSimpArgs false
set_option linter.unusedVariables false
set_option maxHeartbeats 6400000
set_option maxRecDepth 20000
namespace Go.Proofs.YtkaknokcbhiigaaGreatDoor
open Go Go.Proofs.Tryz
variable {f:Frag} {F:List HP} {lb:Nat} {l:Lgs}
theorem LgP.yes{r:Bool×Lgs}{b:Bool}(h:r=(b,l)):LgP f F lb r (.bool b) f (logsH f lb l::F):=by
 exact qcI
variable {m:Msg}
theorem Lgs.counts_3(h:m.body.kind=3):l.counts m=if(l.past (orgI m)).changeOk m.body.view=true then(true,{l with past:=updF l.past (orgI m) ((l.past (orgI m)).change m.body.view),ch:=updF l.ch (orgI m) (l.ch (orgI m)++[(m.body.view,m.number)])})else(false,l):=by
 unfold Lgs.counts;rw[if_pos h]
theorem Lgs.counts_4(h:m.body.kind=4):l.counts m=if decide (primZ l.n m.body.view=m.origin)=true then l.begins m else(false,l):=by
 unfold Lgs.counts;rw[if_neg jO,if_pos h]
theorem Lgs.counts_5n(h:m.body.kind=5)(hat:vwAt l.vs m.body.view=none):l.counts m=(false,l):=by
 unfold Lgs.counts;rw[if_neg jO,if_neg jO,if_pos h];simp only[hat]
variable {w:Vw}
theorem Lgs.counts_5{i:Nat}(h:m.body.kind=5)(hat:vwAt l.vs m.body.view=some i)(hw:l.vs[i]?=some w):l.counts m=if m.deps (primI l.n m.body.view)<w.num then(false,l)else((l.past (orgI m)).enterOk m.body.view (w.s.length:Nat),l.doPast (orgI m) ((l.past (orgI m)).enter m.body.view (w.s.length:Nat))):=by
 unfold Lgs.counts;rw[if_neg jO,if_neg jO,if_pos h];simp only[hat,hw]
theorem Lgs.counts_1n(h:m.body.kind=1)(hat:vwAt l.vs m.body.view=none):l.counts m=(false,l):=by
 unfold Lgs.counts;rw[if_neg jO,if_neg jO,if_neg jO,if_pos h];simp only[hat]
theorem Lgs.counts_1{i:Nat}(h:m.body.kind=1)(hat:vwAt l.vs m.body.view=some i)(hw:l.vs[i]?=some w):l.counts m=if decide (primZ l.n m.body.view=m.origin)=false∨m.body.req.auth=false∨holdsB w.all m.body.req.client m.body.req.time=true∨(l.past (orgI m)).isOpen m.body.view=false then(false,l)else
  (true,{l with past:=updF l.past (orgI m) ((l.past (orgI m)).prepare m.body.view),vs:=l.vs.set i {w with p:=w.p++[(m.number,m.body.req)]} }):=by
 unfold Lgs.counts;rw[if_neg jO,if_neg jO,if_neg jO,if_pos h];simp only[hat,hw]
variable {A A':List HP} {q:Option Addr} {qc:Nat}
theorem body_req{bb:Nat}{T:TypeId}{x:Bod}(h:At A (row bb T (x.vals q qc)) A' (row bb T (x.vals q qc))):Rd f A bb (0+3) x.req.vals:=by
 have h1:=Rd.ofRow (f:=f) h;have e:x.vals q qc=[.int .u8 (x.kind.toNat:Nat),.int .u64 x.view,.int .u64 x.k]++x.req.vals++([.slice q x.q.length qc]++b32 x.dig):=by unfold Bod.vals;simp only[List.append_assoc]
 exact qbF
variable {α:Type} {sz j:Nat}
theorem flat_setV{vals:α→List Value}(hv:∀x,(vals x).length=sz){xs:List α}{i:Nat}{x z:α}{v:Value}(hx:xs[i]?=some x)(hz:SetV (vals x) j v (vals z)):SetV (xs.flatMap vals) (i*sz+j) v ((xs.set i z).flatMap vals):=by
 have hi:=(List.getElem?_eq_some_iff.1 hx).1;have h2:(xs.set i z)[i]?=some z:=by rw[List.getElem?_set_self hi]
 have e1:(xs.set i z).take i=xs.take i:=by rw[List.take_set_of_le (Nat.le_refl _)]
 have e2:(xs.set i z).drop (i+1)=xs.drop (i+1):=by rw[List.drop_set_of_lt jA]
 have hl:((xs.take i).flatMap vals).length=i*sz:=by rw[zbr hv,List.length_take,Nat.min_eq_left jA]
 rw[flat_split xs hx,flat_split (xs.set i z) h2,e1,e2,←hl];exact hz.mid' _ _
theorem Lgs.counts_2n(h:m.body.kind=2)(hat:vwAt l.vs m.body.view=none):l.counts m=(false,l):=by
 unfold Lgs.counts;rw[if_neg jO,if_neg jO,if_neg jO,if_neg jO,if_pos h];simp only[hat]
theorem Lgs.counts_2{i:Nat}(h:m.body.kind=2)(hat:vwAt l.vs m.body.view=some i)(hw:l.vs[i]?=some w):l.counts m=if decide (primZ l.n m.body.view=m.origin)=true then(false,l)else((l.past (orgI m)).commitOk m.body.view m.body.k (knowsV w (m.deps (primI l.n m.body.view)):Nat),l.doPast (orgI m) ((l.past (orgI m)).commit m.body.view m.body.k (knowsV w (m.deps (primI l.n m.body.view)):Nat))):=by
 unfold Lgs.counts;rw[if_neg jO,if_neg jO,if_neg jO,if_neg jO,if_pos h];simp only[hat,hw]
theorem Lgs.counts_x(h3:¬m.body.kind=3)(h4:¬m.body.kind=4)(h5:¬m.body.kind=5)(h1:¬m.body.kind=1)(h2:¬m.body.kind=2):l.counts m=(decide (m.body.kind=6),l):=by
 unfold Lgs.counts;rw[if_neg h3,if_neg h4,if_neg h5,if_neg h1,if_neg h2]
theorem chFam_upd(l:Lgs)(cs:Nat→Option Addr×Nat)(r:Nat)(p:Option Addr)(c:Nat)(y:Int×Int)(past:Nat→PM):updF (chFam l cs) r (slc p ((l.ch r).length+1) c 197 2 ((l.ch r).flatMap chV++chV y))=chFam {l with past:=past,ch:=updF l.ch r (l.ch r++[y])} (updF cs r (p,c)):=by
 funext j;unfold chFam;exact qaW
theorem chRow_upd(l:Lgs)(cs:Nat→Option Addr×Nat)(r:Nat)(p:Option Addr)(c:Nat)(y:Int×Int)(past:Nat→PM):rngV l.n (updF (fun r=>Value.slice (cs r).1 (l.ch r).length (cs r).2) r (.slice p ((l.ch r).length+1) c))=chRow {l with past:=past,ch:=updF l.ch r (l.ch r++[y])} (updF cs r (p,c)):=by
 unfold chRow;refine rngV_congr fun j _=>?_;by_cases h:j=r
 ·subst h;rw[zae];show _=Value.slice (updF cs j (p,c) j).1 (updF l.ch j _ j).length (updF cs j (p,c) j).2;rw[zae,zae,lnA];rfl
 ·rw[zag _ _ h];show _=Value.slice (updF cs r (p,c) j).1 (updF l.ch r _ j).length (updF cs r (p,c) j).2;rw[zag _ _ h,zag _ _ h]
variable {T:Nat} {fl:Frag} {x:MV}
section
variable (f:Frag) (F:List HP)
theorem counts_fn(hfl:Le fl f)(hL:LI l T)(hT:T≤50000)(hx:x.Good f)(hm:MIn l.n x.m):Fn prog 69 [.pointer (some ⟨lb,0,none⟩),.agg x.vals.toArray] f (logsH fl lb l::F) (LgP f F lb (l.counts x.m)):=by
 refine qjX fun i0 hi=>?_;obtain⟨V,vp,vc,pp,pc,cp,cc,pb,cs⟩:=i0;have hiF:=hi.mono hfl;have hn:=hL.n3
 obtain⟨pbb,poff,hpp0,rdp0⟩:=hiF.past (by show 0<l.n;omega);have hpp:pp=some ⟨pbb,poff,none⟩:=hpp0;have rdp:∀ {A:List HP} {r:Nat},r<l.n→Rd1 f A pbb (poff+r) (.pointer (some ⟨pb r,0,none⟩)):=fun {A r} hr=>rdp0 (Le.refl f) hr
 clear hpp0 rdp0;obtain⟨r,hre⟩:∃r,r=orgI x.m:=⟨_,rfl⟩;have hor:=hm.o;have hr:r<l.n:=by rw[hre];unfold orgI;omega
 have hrz:x.m.origin-1=(r:Nat):=by rw[hre];unfold orgI;omega
 have hwf:=hL.wf r hr;have hil:=hL.il r hr
 have hvs:V.map VV.w=l.vs:=hi.vs;have hVl:V.length=l.vs.length:=hi.len
 have hvl:=hL.vl;have hv0:=hm.v
 have hprim:=fun G=>prim_fn f G (n:=l.n) jA hv0;have hview:=fun G=>lgview_fn f G (lb:=lb) (n:=l.n) (kn:=l.known) (V:=V) (vp:=vp) (vc:=vc) (pp:=pp) (pc:=pc) (cp:=cp) (cc:=cc) jA x.m.body.view
 rw[hvs]at hview;refine qfs ?_;refine Fn.e2 func69 ntmps69 fun base=>?_;refine qem fun mb=>?_;refine gI ?_;refine qkH ?_;refine qhS ?_;refine qkl fun bb=>?_;refine qhK ?_;refine qke ?_;refine HB.qu [0,1,2,3,4,5,7,8] 3 ?_;refine qfw ?_;refine HB.ev 6 ?_;refine H.cr (hprim _) ?_;refine qeg ?_;refine HB.qu [9,10] 0 ?_;refine gJ ?_;refine qey ?_;refine gF ?_;refine qfI ?_;refine H.cr (hview _) ?_;refine qeu ?_;refine qfF ?_;refine gM ?_;clear hprim hview;have hku:=x.m.body.kind.toNat_lt;by_cases k3:x.m.body.kind.toNat=3
 ·have k3':x.m.body.kind=3:=UInt8.toNat_inj.1 k3;rw[Lgs.counts_3 k3',←hre]
  have hch:=fun G=>pst_change f G (pb r) (l.past r) x.m.body.view;refine gg ?_
  refine qkx ?_;refine H.cr (hch _) ?_
  cases hck:(l.past r).changeOk x.m.body.view with
  | false =>
   rw[show(l.past r).change x.m.body.view=l.past r by unfold PM.change;rw[hck];rfl];refine H.By (g:=fun r=>pstH (pb r) (l.past r)) hr ?_;refine gY ?_;refine qfR ?_;refine qeh ?_;refine qfb ?_;refine H.Ae rfl rfl iD (LgP.no ?_);rw[if_neg jC]
  | true =>
   refine qiI ?_;rw[pst_updF];refine gY ?_;refine qkj fun cb hcb=>?_;subst hcb;refine qfp ?_;refine qfF ?_;refine H.dc [0,1,2,3,4,5,6,7,8,9,10,11,12,13,14,15,16,17,18,19,20,21,22] (S:=[_,_,_,_]) rfl ?_;refine HB.qu [0,1,2,3,4,5,6,7,8,9,10,11,12,13,14,15,16,17,18,19,20] 4 ?_;refine gV ?_;refine qgS ?_;refine HB.ev 21 ?_;refine ql fun eb=>?_;refine gA ?_;refine qfp ?_;refine qfF ?_;refine qeS ?_;refine HB.ev 22 ?_;refine H.pf (x:=row eb _ _) ?_;refine qhW ?_;refine H.Bq hr ?_;have hcl:=hL.cl r;refine qgq fun p2 c2=>?_
   refine H.famPut (g:=chFam l cs) hr ?_;rw[chFam_upd l cs r p2 c2 (x.m.body.view,x.m.number) (updF l.past r ((l.past r).change x.m.body.view))];refine qkL ?_;refine qfp ?_;refine qfF ?_;refine qgV ?_;refine HB.qu [23] 1 ?_;refine qku ?_;refine qeo ?_;refine HB.ev 24 ?_;refine qkB ?_;rw[chRow_upd l cs r p2 c2 (x.m.body.view,x.m.number) (updF l.past r ((l.past r).change x.m.body.view))];refine qeR ?_;refine gT ?_;refine qfR ?_;refine H.pf (x:=fam (chFam _ (updF cs r (p2,c2))) _) ?_;refine qkJ ?_;refine qfU ?_;refine qiX ?_;refine qfI ?_;refine H.imp (zai (l:={l with past:=updF l.past r ((l.past r).change x.m.body.view),ch:=updF l.ch r (l.ch r++[(x.m.body.view,x.m.number)])}) ⟨V,vp,vc,pp,pc,some ⟨cb,0,none⟩,cc,pb,updF cs r (p2,c2)⟩ ⟨hiF.vs,hiF.s,hiF.p⟩) ?_;refine H.Ae rfl rfl iD (LgP.yes ?_);rw[if_pos rfl]
 ·by_cases k4 : x.m.body.kind.toNat = 4
  ·have k4':x.m.body.kind=4:=UInt8.toNat_inj.1 k4;rw[Lgs.counts_4 k4']
   by_cases hp:primZ l.n x.m.body.view=x.m.origin
   ·rw[decide_eq_true hp,if_pos rfl];refine gc ?_;refine qhc ?_;refine qeh ?_;refine qfb ?_;refine H.Ap rfl rfl rfl (begins_fn f _ (Le.refl f) hL hT hx hm) fun v f' A' hr=>?_;obtain⟨g,hd,rfl,rfl,rfl⟩:=hr;refine gY ?_;refine qfR ?_;exact H.r1 ⟨g,hd,rfl,rfl,rfl⟩
   ·rw[decide_eq_false hp,if_neg jC];refine gX ?_;exact qa
  ·have hpz:primZ l.n x.m.body.view=1+((primI l.n x.m.body.view:Nat):Int):=rfl
   have hp11:primI l.n x.m.body.view<11:=by
    have h1:x.m.body.view % (l.n:Int)<l.n:=Int.emod_lt_of_pos _ jA;have h2:0≤x.m.body.view % (l.n:Int):=Int.emod_nonneg _ jA
    unfold primI;omega
   have hprim:∀G,Fn prog 102 [.int .i64 (l.n:Int),.int .u64 x.m.body.view] f G (Ret (.int .i64 (1+((primI l.n x.m.body.view:Nat):Int))) f G):=fun G=>prim_fn f G (n:=l.n) jA hv0;obtain⟨pI,hpI⟩:∃pI,pI=primI l.n x.m.body.view:=⟨_,rfl⟩
   rw[←hpI]at hprim hp11 hpz;by_cases k5:x.m.body.kind.toNat=5
   ·have k5':x.m.body.kind=5:=UInt8.toNat_inj.1 k5
    cases hat:vwAt l.vs x.m.body.view with
    | none =>
     rw[Lgs.counts_5n k5' hat];rw[show vwZ l.vs x.m.body.view= -1 by unfold vwZ;rw[hat]];refine qhm ?_;refine HB.qu [0,1,2,3,4,5,6,7,8,9,10,11,12,13,14,15,16,19] 6 ?_;refine gJ ?_;refine qjd ?_;refine qgH ?_;refine HB.qu [18,20,21,22,23] 0 ?_;exact qbz
    | some i =>
     obtain⟨⟨w,hw,hwv⟩,_⟩:=zaq.1 hat;obtain⟨X,hX,rfl⟩:=hiF.of hw;have hX:V[i]?=some X:=hX;have hilt:=(List.getElem?_eq_some_iff.1 hX).1
     have hXl:=hL.al X.w (List.mem_of_getElem? hw);have hXa:=X.w.all_len
     refine qfP fun vb hvb=>?_;have hVd:∀ {A A':List HP},At A (slc vp V.length vc 147 4 (V.flatMap VV.vals)) A' (slc vp V.length vc 147 4 (V.flatMap VV.vals))→Rd f A vb (i*4) X.vals:=fun {A A'} h=>Rd.slcElem (n:=V.length) (c:=vc) (T:=147) (xs:=V) VV.len jC kp hX;rw[Lgs.counts_5 k5' hat hw,←hpI,←hre]
     rw[show vwZ l.vs x.m.body.view=(i:Int) by unfold vwZ;rw[hat]];refine qhm ?_;refine HB.qu [0,1,2,3,4,5,6,7,8,9,10,11,12,13,14,15,16,19] 6 ?_;refine gZ ?_;refine qfK ?_;refine gP ?_;refine HQ.Ab rfl rfl rfl (Rd1.of (i:=1) jN rfl) rfl ?_;refine qfw ?_;refine HB.ev 17 ?_;refine H.cr (hprim _) ?_;refine qeg ?_;refine HB.qu [18,20,21,22,23] 0 ?_;refine gK ?_;refine HQ.Al (i:=pI) rfl rfl rfl jA hp11 rfl ?_;refine HQ.Ab rfl rfl rfl (by rw[Nat.mul_one];exact Rd1.of (zaz (m:=x.m) (q:=x.qp) (qc:=x.qc) at1) (zau x.m.deps hp11)) rfl ?_;refine qju ?_;by_cases hd:x.m.deps pI<X.w.num
     ·rw[if_pos hd];refine gG ?_;exact qa
     ·rw[if_neg hd];refine gc ?_;have hent:=fun G=>pst_enter f G (pb r) (l.past r) hwf jA x.m.body.view ((X.w.s.length:Nat):Int);refine H.db (S:=[_,_,_,_]) rfl ?_
      refine qjt ?_;refine qkz ?_;refine HQ.Ab rfl rfl rfl (Rd1.of (i:=2) jN rfl) rfl ?_;refine gB ?_;refine qhf ?_;refine qkx ?_;refine H.cr (hent _) ?_;refine qiI ?_;rw[pst_updF];refine qkt ?_;refine HB.qu [13] 0 ?_;refine qgv ?_;exact qaE
   ·by_cases k1 : x.m.body.kind.toNat = 1
    ·have k1':x.m.body.kind=1:=UInt8.toNat_inj.1 k1
     cases hat:vwAt l.vs x.m.body.view with
     | none =>
      rw[Lgs.counts_1n k1' hat];rw[show vwZ l.vs x.m.body.view= -1 by unfold vwZ;rw[hat]]
      cases hpd:decide (primZ l.n x.m.body.view=x.m.origin)with
      | true =>
       refine qhm ?_;refine HB.qu [0,1,2,3,4,5,6,7,8] 27 ?_;refine gZ ?_;refine qhH ?_;refine gC ?_;exact qag
      | false =>
       exact qaP
     | some i =>
      obtain⟨⟨w,hw,hwv⟩,_⟩:=zaq.1 hat;obtain⟨X,hX,rfl⟩:=hiF.of hw;have hX:V[i]?=some X:=hX;have hilt:=(List.getElem?_eq_some_iff.1 hX).1
      have hXl:=hL.al X.w (List.mem_of_getElem? hw);have hXa:=X.w.all_len
      refine qfP fun vb hvb=>?_;have hVd:∀ {A A':List HP},At A (slc vp V.length vc 147 4 (V.flatMap VV.vals)) A' (slc vp V.length vc 147 4 (V.flatMap VV.vals))→Rd f A vb (i*4) X.vals:=fun {A A'} h=>Rd.slcElem (n:=V.length) (c:=vc) (T:=147) (xs:=V) VV.len jC kp hX;rw[Lgs.counts_1 k1' hat hw,←hre]
      rw[show vwZ l.vs x.m.body.view=(i:Int) by unfold vwZ;rw[hat]];by_cases hp:primZ l.n x.m.body.view=x.m.origin
      ·have hpd:decide (primZ l.n x.m.body.view=x.m.origin)=true:=decide_eq_true hp;rw[hpd]
       have hau:=fun G=>rauth_fn f G x.m.body.req;refine qhm ?_
       refine HB.qu [0,1,2,3,4,5,6,7,8] 27 ?_;refine gZ ?_;refine HQ.Ad (ls:=x.m.body.req.vals) rfl rfl rfl (body_req aP0) rfl rfl ?_;refine qhH ?_;refine H.cr (hau _) ?_
       cases hauv:x.m.body.req.auth with
       | false =>
        rw[if_pos (.inr (.inl rfl))];refine gA ?_;exact qag
       | true =>
        refine qeg ?_;refine HB.qu [10,11,12,13,14,15,16,17,18,19,21,22,23,24,25,26] 10 ?_;refine gV ?_;refine qfK ?_;refine HQ.Ad (ls:=X.vals) rfl rfl rfl jN rfl rfl ?_;refine qfw ?_;refine HB.ev 20 ?_;refine qiX ?_;refine H.Ci (x:=X.own) (i:=i) jH ?_;refine H.callE rfl rfl rfl (all_fn f _ hfl (hi.s X (List.mem_of_getElem? hX)) jA) fun ap=>?_;obtain⟨qp,qc⟩:=ap;have hhol:=fun G=>holds_fn f G (p:=qp) (c:=qc) (R:=X.w.all) x.m.body.req.client x.m.body.req.time jA;refine gA ?_
        refine H.pf (x:=lst ((V.map VV.own).set i emp)) ?_;refine H.pf (x:=X.own) ?_;refine H.Cl (xs:=V.map VV.own) (i:=i) jH ?_;refine qep ?_;refine qeS ?_;refine HB.ev 27 ?_;refine H.pf (x:=slc qp _ qc _ _ _) ?_;refine H.cr (hhol _) ?_
        cases hhv:holdsB X.w.all x.m.body.req.client x.m.body.req.time with
        | true =>
         rw[if_pos (.inr (.inr (.inl rfl)))];refine qiF ?_;refine qhY ?_;refine HB.ev 33 ?_;refine gC ?_;exact qdj
        | false =>
         have hpre:=fun G=>pst_prepare f G (pb r) (l.past r) hwf jA jA x.m.body.view;refine qiF ?_
         refine gV ?_;refine qeo ?_;refine HB.ev 33 ?_;refine qkx ?_;refine H.cr (hpre _) ?_
         cases hop:(l.past r).isOpen x.m.body.view with
         | false =>
          rw[if_pos (.inr (.inr (.inr rfl)))];rw[show(l.past r).prepare x.m.body.view=l.past r by unfold PM.prepare;rw[hop];rfl];refine H.By (g:=fun r=>pstH (pb r) (l.past r)) hr ?_;refine gA ?_;refine qep ?_;exact qdj
         | true =>
          rw[if_neg (by rintro(h|h|h|h)<;>cases h)];refine qiI ?_;rw[pst_updF];refine qkt ?_;refine HB.qu [34,35] 0 ?_;refine qfh ?_;refine gW ?_;obtain⟨X2,hX2⟩:∃X2:Option Addr→Nat→VV,X2=fun p c=>⟨{X.w with p:=X.w.p++[(x.m.number,x.m.body.req)]},X.sp,X.sc,p,c⟩:=⟨_,rfl⟩;refine H.dc [0,1,2,3,4,5,6,7,8,9,10,11,12,13,14,15,16,17,18,19] (S:=[_,_,_,_]) rfl ?_;refine HB.qu [0,1,2,3,4,5,6,7,8,9,10,11,12,13,14,15,16,17] 5 ?_;refine qkz ?_;refine HQ.Ab rfl rfl rfl (Rd1.of (i:=3) jN rfl) rfl ?_;refine gP ?_;refine HQ.Ad (ls:=x.m.body.req.vals) rfl rfl rfl (body_req aP0) rfl rfl ?_;refine HQ.Ay (t:=205) (out:=prepV (x.m.number,x.m.body.req)) rfl rfl rfl jE rfl ?_;refine qkD ?_;refine H.Aq (out:=prepV (x.m.number,x.m.body.req)) rfl rfl rfl rfl jC jC rfl rfl fun eb=>?_;refine qkt ?_;refine HB.ev 19 ?_;refine H.pf (x:=row eb _ _) ?_;refine qiX ?_;refine H.Ci (x:=X.own) (i:=i) jH ?_;refine H.Av (sz:=41) (p:=X.pp) (n0:=X.w.p.length) (c:=X.pc) (xs:=X.w.p.flatMap prepV) (m:=1) (news:=prepV (x.m.number,x.m.body.req)) rfl rfl rfl rfl rfl (fun p' c'=>.here _ _ _) (Src.slice (Rd.ofRow at2) rfl) (zaa rfl) rfl jA jA fun p2 c2=>?_
          rw[show slc p2 (X.w.p.length+1) c2 205 41 (X.w.p.flatMap prepV++prepV (x.m.number,x.m.body.req))=(X2 p2 c2).own by
           rw[hX2];show _=slc p2 (X.w.p++[(x.m.number,x.m.body.req)]).length c2 _ 41 ((X.w.p++[(x.m.number,x.m.body.req)]).flatMap prepV);rw[lnA,List.flatMap_append]
           simp]
          refine H.lstPut (x0:=X.own) (xs:=V.map VV.own) (i:=i) jH ?_;rw[←List.map_set];refine qkL ?_;refine qep ?_;refine qgV ?_;refine HB.qu [20,21] 1 ?_;refine qfK ?_;refine qfw ?_;refine HB.ev 22 ?_
          have hsv:SetV X.vals 3 (.slice p2 (X.w.p.length+1) c2) (X2 p2 c2).vals:=by
           rw[hX2];show SetV _ 3 _ [_,_,_,Value.slice p2 (X.w.p++[(x.m.number,x.m.body.req)]).length c2];rw[lnA];exact .there _ (.there _ (.there _ (.here _ _ _)))
          refine H.Az (xs':=(V.set i (X2 p2 c2)).flatMap VV.vals) rfl rfl rfl rfl (by rw[←hvb];exact jB) (by rw[Nat.zero_add];exact flat_setV VV.len hX hsv) ?_;refine qeR ?_;refine gT ?_;refine qfR ?_;refine qhW ?_;refine qkr ?_;refine qfU ?_;refine H.pf (x:=lst ((V.set i (X2 p2 c2)).map VV.own)) ?_;refine qfI ?_;have hX2w:(X2 p2 c2).w= {X.w with p:=X.w.p++[(x.m.number,x.m.body.req)]}:=by rw[hX2]
          refine H.imp (A':=logsH f lb {l with past:=updF l.past r ((l.past r).prepare x.m.body.view),vs:=l.vs.set i {X.w with p:=X.w.p++[(x.m.number,x.m.body.req)]} }::F) (fun z hz=>zai (l:={l with past:=updF l.past r ((l.past r).prepare x.m.body.view),vs:=l.vs.set i {X.w with p:=X.w.p++[(x.m.number,x.m.body.req)]} }) ⟨V.set i (X2 p2 c2),vp,vc,pp,pc,cp,cc,pb,cs⟩ ⟨?_,fun y hy=>?_,hiF.p⟩ z ?_) ?_
          ·show(V.set i (X2 p2 c2)).map VV.w=l.vs.set i _;rw[List.map_set,hX2w,hvs]
          ·rcases List.mem_or_eq_of_mem_set hy with h|h
           ·exact hiF.s y h
           ·rw[h,hX2];exact hiF.s X (List.mem_of_getElem? hX)
          ·show stars (row lb _ (lgC l.n l.known vp (V.set i (X2 p2 c2)).length vc pp pc cp cc)::slc vp (V.set i (X2 p2 c2)).length vc _ 4 _::_) z;rw[List.length_set];exact hz
          ·exact qdo
      ·have hpd:decide (primZ l.n x.m.body.view=x.m.origin)=false:=decide_eq_false hp;rw[hpd,if_pos (.inl rfl)]
       exact qaP
    ·by_cases k2 : x.m.body.kind.toNat = 2
     ·have k2':x.m.body.kind=2:=UInt8.toNat_inj.1 k2
      cases hat:vwAt l.vs x.m.body.view with
      | none =>
       rw[Lgs.counts_2n k2' hat];rw[show vwZ l.vs x.m.body.view= -1 by unfold vwZ;rw[hat]];by_cases hp:primZ l.n x.m.body.view=x.m.origin
       ·skip;refine gS ?_;exact qa
       ·skip;refine gX ?_;exact qa
      | some i =>
       obtain⟨⟨w,hw,hwv⟩,_⟩:=zaq.1 hat;obtain⟨X,hX,rfl⟩:=hiF.of hw;have hX:V[i]?=some X:=hX;have hilt:=(List.getElem?_eq_some_iff.1 hX).1
       have hXl:=hL.al X.w (List.mem_of_getElem? hw);have hXa:=X.w.all_len
       refine qfP fun vb hvb=>?_;have hVd:∀ {A A':List HP},At A (slc vp V.length vc 147 4 (V.flatMap VV.vals)) A' (slc vp V.length vc 147 4 (V.flatMap VV.vals))→Rd f A vb (i*4) X.vals:=fun {A A'} h=>Rd.slcElem (n:=V.length) (c:=vc) (T:=147) (xs:=V) VV.len jC kp hX;rw[Lgs.counts_2 k2' hat hw,←hpI,←hre]
       rw[show vwZ l.vs x.m.body.view=(i:Int) by unfold vwZ;rw[hat]];by_cases hp:primZ l.n x.m.body.view=x.m.origin
       ·rw[if_pos (decide_eq_true hp)];refine gS ?_;exact qa
       ·rw[if_neg (by rw[decide_eq_false hp];decide)];refine gX ?_;refine qkO ?_;refine H.pf (x:=slc vp _ vc _ _ _) ?_;refine H.Ab rfl rfl rfl (Rd1.of (i:=2) (by rw[Nat.zero_add];exact hVd aP0) rfl) rfl ?_;refine gT ?_;refine qhQ ?_
        refine H.lo (ι:=Nat×Nat) (fun s=>[(10,.int .i64 (s.1:Int)),(9,.int .i64 ((X.w.s.length+s.2:Nat):Int)),(8,.int .i64 (i:Int)),(5,.pointer (some ⟨pb r,0,none⟩)),(0,.pointer (some ⟨lb,0,none⟩)),(3,.pointer (some ⟨mb,0,none⟩)),(6,.pointer (some ⟨bb,0,none⟩))]) (fun _=>f) (fun _=>row bb 52 (x.m.body.vals x.qp x.qc)::row mb 54 x.vals::row lb 152 (lgC l.n l.known vp V.length vc pp pc cp cc)::slc vp V.length vc 147 4 (V.flatMap VV.vals)::lst (V.map VV.own)::fam (fun r=>pstH (pb r) (l.past r)) l.n::slc cp l.n cc 195 1 (chRow l cs)::fam (chFam l cs) l.n::F)
         (fun s=>s.1≤X.w.p.length∧s.2=((X.w.p.take s.1).filter fun y=>decide (y.1≤x.m.deps pI)).length) (fun s=>X.w.p.length-s.1) (0,0) ⟨Nat.zero_le _,rfl⟩ fun s hs=>?_
        obtain⟨j,k⟩:=s;obtain⟨hj,hk⟩:j≤X.w.p.length∧k=((X.w.p.take j).filter fun y=>decide (y.1≤x.m.deps pI)).length:=hs
        have hkl:k≤X.w.p.length:=by
         rw[hk];exact qdb
        show H _ _ _ [(10,.int .i64 (j:Int)),(9,.int .i64 ((X.w.s.length+k:Nat):Int)),_,_,_,_,_] f (row bb 52 (x.m.body.vals x.qp x.qc)::row mb 54 x.vals::row lb 152 (lgC l.n l.known vp V.length vc pp pc cp cc)::slc vp V.length vc 147 4 (V.flatMap VV.vals)::lst (V.map VV.own)::fam (fun r=>pstH (pb r) (l.past r)) l.n::slc cp l.n cc 195 1 (chRow l cs)::fam (chFam l cs) l.n::F) _;by_cases hjl:j<X.w.p.length
        ·obtain⟨y,hy⟩:∃y,X.w.p[j]?=some y:=⟨_,lgE hjl⟩;have hfil:=filt_take (p:=fun y:Int×Req=>decide (y.1≤x.m.deps pI)) hy;refine qgs ?_
         refine gG ?_;refine qiX ?_;refine H.Ci (x:=X.own) (i:=i) jH ?_;refine H.Au (p:=X.pp) (n0:=X.w.p.length) (c:=X.pc) (T:=205) (sz:=41) (xs:=X.w.p.flatMap prepV) aP0 jA fun xb hxb=>?_;have rdP:∀ {A:List HP},Rd f (X.own::A) xb (j*41) (prepV y):=fun {A}=>Rd.slcElem (vals:=prepV) (xs:=X.w.p) (n:=X.w.p.length) (c:=X.pc) (T:=205) prepV_len jC (by rw[←hxb];exact .here _ _ _) hy;refine qep ?_
         refine H.pf (x:=X.own) ?_;refine H.db (S:=[_,_,_,_,_]) rfl ?_;refine HB.qu [0,1,2,3,4,5,6,7,8,9,10,11,12,13,14,15,16,17,20] 5 ?_;refine qkz ?_;refine HQ.Ab rfl rfl rfl (Rd1.of (i:=3) (by rw[Nat.zero_add];exact hVd at4) rfl) rfl ?_;refine gB ?_;refine HQ.Ak (b:=xb) (off:=0) (i:=j) rfl (by rw[←hxb];rfl) rfl rfl hjl rfl ?_;refine gP ?_;refine HQ.Ab rfl rfl rfl (Rd1.of (i:=0) (by rw[Nat.zero_add];exact rdP) rfl) rfl ?_;refine qfw ?_;refine HB.ev 18 ?_;refine H.cr (hprim _) ?_;refine qeg ?_;refine HB.qu [19,21,22,23] 0 ?_;refine gK ?_;refine HQ.Al (i:=pI) rfl rfl rfl jA hp11 rfl ?_;refine HQ.Ab rfl rfl rfl (by rw[Nat.mul_one];exact Rd1.of (zaz (m:=x.m) (q:=x.qp) (qc:=x.qc) at2) (zau x.m.deps hp11)) rfl ?_;refine qju ?_;refine H.pf (x:=lst ((V.map VV.own).set i emp)) ?_;refine H.pf (x:=X.own) ?_;refine H.Cl (xs:=V.map VV.own) (i:=i) jH ?_;refine qhQ ?_;by_cases hle:y.1≤x.m.deps pI
         ·rw[decide_eq_true hle,if_pos rfl]at hfil;refine gc ?_;exact H.ag (j+1,k+1) ⟨by show j+1≤X.w.p.length;omega,by rw[hfil,lnA,←hk];rfl⟩ jt
         ·rw[decide_eq_false hle,if_neg jC,List.append_nil]at hfil;refine gc ?_;exact H.ag (j+1,k) ⟨by show j+1≤X.w.p.length;omega,by rw[hfil,←hk]⟩ jt
        ·have e:j=X.w.p.length:=jA
         subst e;rw[List.take_length]at hk;have hkk:knowsV X.w (x.m.deps pI)=X.w.s.length+k:=by unfold knowsV;rw[hk]
         rw[hkk];have hkr:0≤x.m.body.k∧x.m.body.k≤18446744073709551615:=hx.2.2.2.1;have hcom:=fun G=>pst_commit f G (pb r) (l.past r) hwf jA jA x.m.body.view x.m.body.k ((X.w.s.length+k:Nat):Int) hkr jA
         refine qgs ?_;refine gM ?_;refine qkx ?_;refine H.cr (hcom _) ?_;refine qiI ?_;rw[pst_updF];exact qaE
     ·have hk:l.counts x.m=(decide (x.m.body.kind=6),l):=Lgs.counts_x (fun h=>k3 kZ) (fun h=>k4 kZ) (fun h=>k5 kZ) (fun h=>k1 kZ) (fun h=>k2 kZ);rw[hk]
      by_cases k6:x.m.body.kind.toNat=6
      ·have k6':x.m.body.kind=6:=UInt8.toNat_inj.1 k6;rw[decide_eq_true k6']
       refine gM ?_;refine qfR ?_;refine qeh ?_;refine qfb ?_;refine H.Bh (d:=4) (u:=.bool true) rfl (by rw[decide_eq_true (by omega:((x.m.body.kind.toNat:Nat):Int)=6)]) ?_;exact qdo
      ·have e6:decide (x.m.body.kind=6)=false:=decide_eq_false (fun h=>k6 kZ);rw[e6]
       refine gM ?_;refine qfR ?_;refine qeh ?_;refine qfb ?_;refine H.Bh (d:=4) (u:=.bool false) rfl (by rw[decide_eq_false (by omega:¬((x.m.body.kind.toNat:Nat):Int)=6)]) ?_;exact qdo
end
theorem quo_low:∀(q:List (Int×Int)) (w:Int),0≤w→quo w q=true→∀p∈q,1≤p.1
 | [],_,_,_,p,hp=>by cases hp
 | y :: r, w, hw, h, p, hp => by
  unfold quo at h
  split at h
  ·cases h
  ·rename_i hno
   rcases List.mem_cons.1 hp with e|e
   ·rw[e];omega
   ·exact quo_low r y.1 jA h p e
theorem may_q1(h:m.may=true):∀p∈m.body.q,1≤p.1:=by
 obtain⟨h1,h2,h3⟩:=Bod.may_spec (Msg.may_body h);have hq:=Bod.eqB_q h1;by_cases h4:m.body.kind.toNat=4
 ·rw[h4]at h3;have h3:(decide (1≤m.body.view)&&(quo 0 m.body.q&&decide (0<m.body.q.length)))=true:=h3;simp only[Bool.and_eq_true]at h3
  exact quo_low _ 0 (Int.le_refl 0) h3.2.1
 ·rw[own_q h4]at hq;rw[←hq];intro p hp;cases hp
variable {n:Nat}
theorem may_MIn(h:m.may=true)(ho:m.origin≤(n:Int))(hq:qIn n m=true)(hv:0≤m.body.view):MIn n m:=
 ⟨⟨(Msg.may_outer h).1,ho⟩,fun p hp=>⟨may_q1 h p hp,by have:=List.all_eq_true.1 hq p hp;exact of_decide_eq_true this⟩,hv⟩
theorem Lgs.begins_nk(l:Lgs)(m:Msg):(l.begins m).2.n=l.n∧(l.begins m).2.known=l.known:=by
 unfold Lgs.begins;split
 ·exact⟨rfl,rfl⟩
 ·split
  ·exact⟨rfl,rfl⟩
  ·split
   ·exact⟨rfl,rfl⟩
   ·exact⟨rfl,rfl⟩
theorem Lgs.counts_nk(l:Lgs)(m:Msg):(l.counts m).2.n=l.n∧(l.counts m).2.known=l.known:=by
 by_cases h3:m.body.kind=3
 ·rw[Lgs.counts_3 h3];exact qda
 ·by_cases h4 : m.body.kind = 4
  ·rw[Lgs.counts_4 h4];split
   ·exact l.begins_nk m
   ·exact⟨rfl,rfl⟩
  ·by_cases h5 : m.body.kind = 5
   ·cases hat:vwAt l.vs m.body.view with
    |none=>rw[Lgs.counts_5n h5 hat];exact⟨rfl,rfl⟩
    | some i =>
     obtain⟨⟨w,hw,_⟩,_⟩:=zaq.1 hat;rw[Lgs.counts_5 h5 hat hw];exact qda
   ·by_cases h1 : m.body.kind = 1
    ·cases hat:vwAt l.vs m.body.view with
     |none=>rw[Lgs.counts_1n h1 hat];exact⟨rfl,rfl⟩
     | some i =>
      obtain⟨⟨w,hw,_⟩,_⟩:=zaq.1 hat;rw[Lgs.counts_1 h1 hat hw];exact qda
    ·by_cases h2 : m.body.kind = 2
     ·cases hat:vwAt l.vs m.body.view with
      |none=>rw[Lgs.counts_2n h2 hat];exact⟨rfl,rfl⟩
      | some i =>
       obtain⟨⟨w,hw,_⟩,_⟩:=zaq.1 hat;rw[Lgs.counts_2 h2 hat hw];exact qda
     ·rw[Lgs.counts_x h3 h4 h5 h1 h2];exact⟨rfl,rfl⟩
def TkP(f:Frag)(F:List HP)(lb:Nat)(r:(Bool×Int)×Lgs):Value→Frag→List HP→Prop:=fun v f' A'=>∃g,Dj f g∧v= .tuple #[.bool r.1.1,.int .i64 r.1.2]∧f'=un f g∧A'=logsH f' lb r.2::F
theorem TkP.no{r:(Bool×Int)×Lgs}{e:Int}(h:r=((false,e),l)):TkP f F lb r (.tuple #[.bool false,.int .i64 e]) f (logsH f lb l::F):=by
 exact qcI
variable {o:Nat}
theorem lgC_set(n:Nat)(kn:Nat→Int)(vp:Option Addr)(vl vc:Nat)(pp:Option Addr)(pc:Nat)(cp:Option Addr)(cc:Nat)(z:Int)(h:o<11):SetV (lgC n kn vp vl vc pp pc cp cc) (0+1+o*1) (.int .u64 z) (lgC n (updF kn o z) vp vl vc pp pc cp cc):=by
 have h1:=(v11_upd kn z h).mid [.int .i64 (n:Int)] [.slice vp vl vc,.slice pp n pc,.slice cp n cc];rw[Nat.mul_one]
 exact h1
section
variable (f:Frag) (F:List HP)
theorem take_fn(hfl:Le fl f)(hL:LI l T)(hT:T≤40000)(hx:x.Good f):Fn prog 37 [.pointer (some ⟨lb,0,none⟩),.agg x.vals.toArray] f (logsH fl lb l::F) (TkP f F lb (l.take x.m)):=by
 refine qjX fun i0 hi=>?_;obtain⟨V,vp,vc,pp,pc,cp,cc,pb,cs⟩:=i0;have hiF:=hi.mono hfl;have hn:=hL.n3
 have hmay:=fun G=>rmmay_fn f G hx;have hqat:ListAt f x.qp 2 pairV x.m.body.q:=hx.1
 have hql:x.m.body.q.length≤1000000:=hx.2.1;refine qfs ?_
 refine Fn.e2 func37 ntmps37 fun base=>?_;refine qem fun mb=>?_;refine gI ?_;refine qgu ?_;refine HB.qu [0] 11 ?_;refine qgI ?_;refine qio ?_;refine H.cr (hmay _) ?_
 cases hm:x.m.may with
 | false =>
  refine qeg ?_;refine HB.qu [2,3,4,5,6,7,8,9,10,11] 0 ?_;refine qfh ?_;refine gD ?_;refine qeH ?_;refine qfb ?_;refine H.Bb rfl rfl rfl iD (TkP.no ?_);unfold Lgs.take;rw[if_pos (.inl hm)]
 | true =>
  have hou:=Msg.may_outer hm;unfold Msg.outer at hou
  refine qeg ?_;refine HB.qu [2,3,4,5,6,7,8,9,10,11] 0 ?_;refine gV ?_;refine qey ?_;by_cases ho:(l.n:Int)<x.m.origin
  ·skip;refine gG ?_;refine qeH ?_;refine qfb ?_;refine H.Bb rfl rfl rfl iD (TkP.no ?_);unfold Lgs.take;rw[if_pos (.inr (.inl ho))]
  ·skip;refine gc ?_
   refine H.lo (ι:=Nat) (fun i=>[(6,.int .i64 (i:Int)),(0,.pointer (some ⟨lb,0,none⟩)),(3,.pointer (some ⟨mb,0,none⟩))]) (fun _=>f) (fun _=>row mb 54 x.vals::row lb 152 (lgC l.n l.known vp V.length vc pp pc cp cc)::slc vp V.length vc 147 4 (V.flatMap VV.vals)::lst (V.map VV.own)::fam (fun r=>pstH (pb r) (l.past r)) l.n::slc cp l.n cc 195 1 (chRow l cs)::fam (chFam l cs) l.n::F)
    (fun i=>i≤x.m.body.q.length∧∀(j:Nat) y,j<i→x.m.body.q[j]?=some y→y.1≤(l.n:Int)) (fun i=>x.m.body.q.length-i) 0 ⟨Nat.zero_le _,fun j y hj=>by omega⟩ fun i hi2=>?_
   obtain⟨hi2,hb⟩:i≤x.m.body.q.length∧∀(j:Nat) y,j<i→x.m.body.q[j]?=some y→y.1≤(l.n:Int):=hi2;by_cases hlt:i<x.m.body.q.length
   ·obtain⟨y,hy⟩:∃y,x.m.body.q[i]?=some y:=⟨_,lgE hlt⟩;obtain⟨qb,qoff,qcs,qT,qfr,hqp,hqfb,hqcs⟩:=hqat i y hy;have rd:∀A,Rd f A qb (qoff+i*2) (pairV y):=fun A=>Rd.imm hqfb hqcs;refine gM ?_
    refine H.dq ?_;refine gP ?_;refine qgP ?_;refine qjo ?_;refine gV ?_;by_cases hyn:y.1≤(l.n:Int)
    ·skip;refine gc ?_;refine H.ag (i+1) ⟨by show i+1≤x.m.body.q.length;omega,fun j z hj hz=>?_⟩ jW;by_cases e:j=i
     ·subst e;rw[hy]at hz;cases hz;exact hyn
     ·exact hb j z jA hz
    ·skip;refine gG ?_;refine qeH ?_;refine qfb ?_;refine H.Bb rfl rfl rfl iD (TkP.no ?_);unfold Lgs.take;rw[if_pos (.inr (.inr (List.all_eq_false.2 ⟨y,List.mem_of_getElem? hy,by rw[decide_eq_false hyn];decide⟩)))]
   ·have hqin:qIn l.n x.m=true:=List.all_eq_true.2 fun y hy=>by
     obtain⟨j,hj⟩:=List.getElem?_of_mem hy;have hjl:=(List.getElem?_eq_some_iff.1 hj).1;exact decide_eq_true (hb j y jA hj)
    have hmi:MIn l.n x.m:=may_MIn hm jA hqin hx.2.2.1.1
    have hno:¬(x.m.may=false∨(l.n:Int)<x.m.origin∨qIn l.n x.m=false):=qcN
    clear hb;obtain⟨o,hoe⟩:∃o,o=orgI x.m:=⟨_,rfl⟩;have hoz:x.m.origin-1=(o:Nat):=by rw[hoe];unfold orgI;omega
    have ho11:o<11:=jA
    have hkn:=hL.kn o;refine gM ?_
    refine H.dq ?_;refine qga ?_;refine HQ.Ab rfl rfl rfl (by rw[Nat.mul_one];exact Rd1.of (lgC_kn at1) (zau l.known ho11)) rfl ?_;refine gZ ?_;refine gA ?_;by_cases hnum:x.m.number=l.known o+1
    ·refine H.Cj rfl (fun h=>h hnum) ?_;refine gT ?_
     refine H.lo (ι:=Nat) (fun i=>[(7,.int .i64 (i:Int)),(0,.pointer (some ⟨lb,0,none⟩)),(3,.pointer (some ⟨mb,0,none⟩))]) (fun _=>f) (fun _=>row mb 54 x.vals::row lb 152 (lgC l.n l.known vp V.length vc pp pc cp cc)::slc vp V.length vc 147 4 (V.flatMap VV.vals)::lst (V.map VV.own)::fam (fun r=>pstH (pb r) (l.past r)) l.n::slc cp l.n cc 195 1 (chRow l cs)::fam (chFam l cs) l.n::F)
      (fun i=>i≤11∧∀j,j<i→x.m.deps j≤l.known j) (fun i=>11-i) 0 ⟨Nat.zero_le _,fun j hj=>by omega⟩ fun i hi3=>?_
     obtain⟨hi3,hdn⟩:i≤11∧∀j,j<i→x.m.deps j≤l.known j:=hi3;by_cases hi11:i<11
     ·skip;refine qks ?_;refine gP ?_;refine qiA ?_;refine HQ.Ab rfl rfl rfl (by rw[Nat.mul_one];exact Rd1.of (zaz (m:=x.m) (q:=x.qp) (qc:=x.qc) aP0) (zau x.m.deps hi11)) rfl ?_;refine gP ?_;refine qiA ?_;refine HQ.Ab rfl rfl rfl (by rw[Nat.mul_one];exact Rd1.of (lgC_kn at1) (zau l.known hi11)) rfl ?_;refine gZ ?_;by_cases hdt:x.m.deps i≤l.known i
      ·exact qbn
      ·skip;refine gG ?_;refine qeH ?_;refine qfb ?_;refine H.Bb rfl rfl rfl iD (TkP.no ?_);unfold Lgs.take;rw[if_neg hno,if_pos (.inr (List.all_eq_false.2 ⟨i,List.mem_range.2 hi11,by rw[decide_eq_false hdt];decide⟩))]
     ·have hdin:depsIn x.m l.known=true:=List.all_eq_true.2 fun j hj=>decide_eq_true (hdn j kC)
      have htk:l.take x.m=(((l.counts x.m).1,0),{(l.counts x.m).2 with known:=updF (l.counts x.m).2.known (orgI x.m) ((l.counts x.m).2.known (orgI x.m)+1)}):=qcj
      have hnk:=l.counts_nk x.m;refine gc ?_
      refine qfq ?_;refine qeh ?_;refine qfb ?_;refine H.Ap rfl rfl rfl (counts_fn f _ (Le.refl f) hL jA hx hmi) fun v f' A' hr=>?_;obtain⟨g,hd,rfl,rfl,rfl⟩:=hr;generalize hl2:(l.counts x.m).2=l2 at htk hnk⊢;obtain⟨hn2,hk2⟩:=hnk;refine H.Bz fun i4 hi4=>?_;obtain⟨V4,vp4,vc4,pp4,pc4,cp4,cc4,pb4,cs4⟩:=i4;refine qeu ?_;refine qew ?_;refine gI ?_;refine H.dc [0,1,2,3,4,5,6,7,8,9,10,11] (S:=[_,_]) rfl ?_;refine HB.qu [0,1,2,3,4,5,6,7,8,9,10,11] 1 ?_;refine qga ?_;refine HQ.Ab rfl rfl rfl (by rw[Nat.mul_one];exact Rd1.of (lgC_kn aP0) (zau l2.known ho11)) rfl ?_;rw[hk2];refine qga ?_;refine qeA ?_;refine HB.ev 12 ?_;refine H.Ba (ls:=lgC l2.n l.known vp4 V4.length vc4 pp4 pc4 cp4 cc4) (ls':=lgC l2.n (updF l.known o (l.known o+1)) vp4 V4.length vc4 pp4 pc4 cp4 cc4) rfl rfl rfl rfl aP0 (lgC_set _ _ _ _ _ _ _ _ _ _ ho11) ?_;refine qeR ?_;refine qhh ?_;rw[hk2,←hoe]at htk;refine H.imp (zai (f:=un f g) (l:={l2 with known:=updF l.known o (l.known o+1)}) ⟨V4,vp4,vc4,pp4,pc4,cp4,cc4,pb4,cs4⟩ ⟨hi4.vs,hi4.s,hi4.p⟩) ?_;exact H.Bb rfl rfl rfl iD ⟨g,hd,by rw[htk],rfl,by rw[htk]⟩
    ·refine H.Ch rfl hnum ?_;refine qhh ?_;refine qfb ?_;refine H.Bb rfl rfl rfl iD (TkP.no ?_);unfold Lgs.take;rw[if_neg hno,if_pos (.inl kd)]
end
theorem LI.mono{l:Lgs}{T T':Nat}(h:LI l T)(hT:T≤T'):LI l T':=
 ⟨h.n3,fun i=>by have:=h.kn i;omega,fun r hr=>(h.wf r hr).mono jA,fun r hr=>Nat.le_trans (h.il r hr) hT,by have:=h.vl;omega,fun r=>Nat.le_trans (h.cl r) hT,fun w hw=>Nat.le_trans (h.al w hw) hT,h.log,h.zero,h.rise,h.begun,h.gb⟩
theorem LI.new(h3:3≤n)(h11:n≤11):LI (Lgs.new n) 0:=
 ⟨⟨h3, h11⟩, fun _ => ⟨Int.le_refl 0, Int.le_refl 0⟩, fun _ _ => PM.new_wf, fun _ _ => Nat.le_refl 0, Nat.le_refl 1, fun _ => Nat.le_refl 0,
  fun w hw=>by rw[List.mem_singleton.1 hw];exact Nat.le_refl 0,
  fun _ _ p hp=>by
   rw[List.mem_singleton.1 hp]
   exact⟨_,List.mem_singleton.2 rfl,rfl,Int.le_refl 0⟩,
  ⟨_,List.mem_singleton.2 rfl,rfl⟩,List.pairwise_singleton _ _,fun w hw h0=>by rw[List.mem_singleton.1 hw]at h0;exact absurd rfl h0,fun _ _=>by show(0:Int)<_;decide⟩
variable {r:Nat}
theorem LI.upd(h:LI l T){p':PM}{vs':List Vw}{ch':Nat→List (Int×Int)}(hwf:PM.WF p' ((T:Int)+1))(hil:p'.init.length≤T+1)(hvl:vs'.length≤T+2)(hal:∀w∈vs',w.all.length≤T+1)
  (hup:∀w∈l.vs,∃w'∈vs',w'.v=w.v∧w.all.length≤w'.all.length) (hlog:∀p∈p'.all,∃w∈vs',w.v=p.1∧p.2≤(w.all.length:Int)) (hrise:(vs'.map Vw.v).Pairwise (· < ·))
  (hbeg:∀w'∈vs',w'.v≠0→(∃w∈l.vs,w.v=w'.v)∨(primI l.n w'.v=r∧∃p∈p'.all,p.1=w'.v)) (hgr:∀p∈(l.past r).all,∃p2∈p'.all,p2.1=p.1) (hg:p'.g<1073741824) (hcl:∀r,(ch' r).length≤T+1) :
  LI {l with past:=updF l.past r p',vs:=vs',ch:=ch'} (T+1):=by
 have hm:=h.mono (Nat.le_succ T);refine⟨h.n3,hm.kn,fun s hs=>?_,fun s hs=>?_,hvl,hcl,hal,fun s hs p hp=>?_,?_,hrise,fun w hw h0=>?_,fun s hs=>?_⟩
 ·show PM.WF (updF l.past r p' s) _;by_cases e:s=r
  ·rw[e,zae];exact hwf
  ·rw[zag _ _ e];exact hm.wf s hs
 ·show(updF l.past r p' s).init.length≤_;by_cases e:s=r
  ·rw[e,zae];exact hil
  ·rw[zag _ _ e];exact hm.il s hs
 ·have hp:p∈(updF l.past r p' s).all:=hp;by_cases e:s=r
  ·rw[e,zae]at hp;exact hlog p hp
  ·rw[zag _ _ e]at hp;obtain⟨w,hw,h1,h2⟩:=h.log s hs p hp;obtain⟨w',hw',h3,h4⟩:=hup w hw;exact⟨w',hw',h3.trans h1,by omega⟩
 ·obtain⟨w,hw,h1⟩:=h.zero;obtain⟨w',hw',h3,_⟩:=hup w hw;exact⟨w',hw',h3.trans h1⟩
 ·show∃p∈(updF l.past r p' (primI l.n w.v)).all,p.1=w.v;rcases hbeg w hw h0 with⟨w0,hw0,e0⟩|⟨e0,p,hp,e1⟩
  ·obtain⟨p,hp,e1⟩:=h.begun w0 hw0 (by rw[e0];exact h0);rw[e0]at hp e1;by_cases e:primI l.n w.v=r
   ·rw[e]at hp;obtain⟨p2,hp2,e2⟩:=hgr p hp;rw[e,zae];exact⟨p2,hp2,e2.trans e1⟩
   ·rw[zag _ _ e];exact⟨p,hp,e1⟩
  ·rw[e0,zae];exact⟨p,hp,e1⟩
 ·show(updF l.past r p' s).g<_;by_cases e:s=r
  ·rw[e,zae];exact hg
  ·rw[zag _ _ e];exact h.gb s hs
variable {vs:List Vw}
theorem Vw.uniq(h:(vs.map Vw.v).Pairwise (· < ·)){a b:Vw}(ha:a∈vs)(hb:b∈vs)(e:a.v=b.v):a=b:=by
 obtain⟨i,h1,h2⟩:=vwAt_mem h ha;obtain⟨j,h3,h4⟩:=vwAt_mem h hb;rw[e,h3]at h1;cases h1
 rw[h4]at h2;cases h2
 rfl
variable {s:PM} {B:Int}
theorem PM.WF.mem_le(h:PM.WF s B){p:Int×Int}(hp:p∈s.all):p.1≤s.lv:=by
 unfold PM.all at hp;rcases List.mem_append.1 hp with h1|h1
 ·exact Int.le_of_lt (h.below p h1)
 ·rw[List.mem_singleton.1 h1];exact Int.le_refl _
theorem PM.change_all(s:PM)(v:Int):(s.change v).all=s.all∧(s.change v).init=s.init:=by
 unfold PM.change;exact qda
variable {v:Int}
theorem PM.enter_all{k:Int}(h:s.enterOk v k=true):(s.enter v k).all=s.all++[(v,k)]∧(s.enter v k).init=s.all:=by
 unfold PM.enter;rw[if_pos h];exact⟨rfl,rfl⟩
theorem PM.enter_g{k:Int}(h:s.enterOk v k=true):(s.enter v k).g<1073741824:=by
 unfold PM.enter;rw[if_pos h];unfold PM.enterOk at h;exact(of_decide_eq_true h).2.2.1
theorem PM.change_gb(h:s.g<1073741824):(s.change v).g<1073741824:=by
 unfold PM.change;split
 ·rename_i hc
  unfold PM.changeOk at hc;exact(of_decide_eq_true hc).2
 ·exact h
theorem PM.init_len(s:PM):s.all.length=s.init.length+1:=by unfold PM.all;rw[lnA];rfl
theorem LI.step(h:LI l T):LI l (T+1):=h.mono (Nat.le_succ T)
theorem LI.enter{l:Lgs}{T:Nat}(h:LI l T){r:Nat}(hr:r<l.n){w:Vw}(hw:w∈l.vs){k:Int}(hk:k≤(w.all.length:Int)):LI (l.doPast r ((l.past r).enter w.v k)) (T+1):=by
 cases hok:(l.past r).enterOk w.v k with
 | false =>
  have e:(l.past r).enter w.v k=l.past r:=by unfold PM.enter;rw[hok];rfl
  unfold Lgs.doPast;rw[e,updF_self];exact h.step
 | true =>
  obtain⟨e1,e2⟩:=PM.enter_all hok;have hwf:=h.wf r hr;have hal:=h.al w hw
  have hil:=h.il r hr;have hlen:=(l.past r).init_len
  refine h.upd (hwf.mono (B':=(T:Int)+1) jA |>.enter w.v k jA) (by rw[e2];omega) (by have:=h.vl;omega) h.step.al (fun w hw=>⟨w,hw,rfl,Nat.le_refl _⟩) (fun p hp=>?_) h.rise (fun w' hw' _=>.inl ⟨w',hw',rfl⟩) (fun p hp=>⟨p,by rw[e1];exact List.mem_append_left _ hp,rfl⟩) (PM.enter_g hok) (h.step.cl);rw[e1]at hp;rcases List.mem_append.1 hp with h1|h1
  ·exact h.log r hr p h1
  ·rw[List.mem_singleton.1 h1];exact⟨w,hw,rfl,hk⟩
theorem LI.begins{l:Lgs}{T:Nat}(h:LI l T){m:Msg}(hm:MIn l.n m)(hp:primZ l.n m.body.view=m.origin):LI (l.begins m).2 (T+1):=by
 unfold Lgs.begins;split
 ·exact h.step
 ·split
  ·exact h.step
  ·split
   ·exact h.step
   ·rename_i _ _ hok
    obtain⟨i,w,hv1,hv2,hlo,hhi⟩:=h.best hm
    have hok:(l.past (orgI m)).enterOk m.body.view (bestQ l.past m.body.view m.body.q (0,0)).2=true:=by
     cases e:(l.past (orgI m)).enterOk m.body.view (bestQ l.past m.body.view m.body.q (0,0)).2 with
     |true=>rfl
     |false=>exact absurd e hok
    generalize bestQ l.past m.body.view m.body.q (0,0)=b at hv1 hlo hhi hok⊢;have hwm:=List.mem_of_getElem? hv2;rw[hv1]
    show LI {l with past:=_,vs:=insV ⟨m.body.view,m.number,((l.vs[i]?.map Vw.all).getD []).take b.2.toNat,[]⟩ l.vs} (T+1);rw[hv2];show LI {l with past:=_,vs:=insV ⟨m.body.view,m.number,w.all.take b.2.toNat,[]⟩ l.vs} (T+1);obtain⟨N,hN⟩:∃N:Vw,N=⟨m.body.view,m.number,w.all.take b.2.toNat,[]⟩:=⟨_,rfl⟩;rw[←hN];have hNv:N.v=m.body.view:=by rw[hN]
    have hNl:N.all.length=b.2.toNat:=by
     rw[Vw.all_len,hN];show(w.all.take b.2.toNat).length+0=_;rw[List.length_take];omega
    have hor:=hm.o;have hr:orgI m<l.n:=by unfold orgI;omega
    have hpr:primI l.n m.body.view=orgI m:=by unfold primZ at hp;unfold orgI;omega
    have hwf:=h.wf _ hr;have hal:=h.al w hwm
    obtain⟨e1,e2⟩:=PM.enter_all hok;have hlast:=hwf.last
    have hlv:(l.past (orgI m)).lv<m.body.view:=by
     unfold PM.enterOk at hok
     have:=of_decide_eq_true hok;omega
    have hperm:=zbk N l.vs
    have hnew:∀x∈l.vs,x.v≠N.v:=fun x hx e=>by
     rw[hNv]at e;obtain⟨p,hpm,e3⟩:=h.begun x hx jA;rw[e,hpr]at hpm
     have:=hwf.mem_le hpm;omega
    refine h.upd (hwf.mono (B':=(T:Int)+1) jA |>.enter m.body.view b.2 jA) (by rw[e2,PM.init_len];have:=h.il _ hr;omega) (by rw[←hperm.length_eq];have:=h.vl;show l.vs.length+1≤_;omega)
     (fun x hx=>?_) (fun x hx=>⟨x,hperm.mem_iff.1 (List.mem_cons_of_mem _ hx),rfl,Nat.le_refl _⟩) (fun p hpm=>?_) ?_ (fun x hx h0=>?_) (fun p hpm=>⟨p,by rw[e1];exact List.mem_append_left _ hpm,rfl⟩) (PM.enter_g hok) h.step.cl
    ·rcases List.mem_cons.1 (hperm.mem_iff.2 hx)with e|e
     ·rw[e,hNl];omega
     ·have:=h.al x e;omega
    ·rw[e1]at hpm;rcases List.mem_append.1 hpm with h1|h1
     ·obtain⟨x,hx,h2⟩:=h.log _ hr p h1;exact⟨x,hperm.mem_iff.1 (List.mem_cons_of_mem _ hx),h2⟩
     ·rw[List.mem_singleton.1 h1];exact⟨N,hperm.mem_iff.1 (List.mem_cons_self),hNv,by rw[hNl];show b.2≤_;omega⟩
    ·have hrise:=h.rise;have hab:=insKF_above N.v l.vs l.vs.length
     have hbe:=insKF_below N.v l.vs l.vs.length;have hle:=insKF_le N.v l.vs l.vs.length
     unfold insV insK;generalize insKF N.v l.vs l.vs.length=k at hab hbe hle;rw[←List.take_append_drop k l.vs,List.map_append,List.pairwise_append]at hrise;obtain⟨hr1,hr2,hr3⟩:=hrise;rw[List.map_append,List.map_cons,List.pairwise_append];refine⟨hr1,List.pairwise_cons.2 ⟨fun a ha=>?_,hr2⟩,fun a ha c hc=>?_⟩
     ·obtain⟨x,hx,rfl⟩:=List.mem_map.1 ha;obtain⟨j,hj⟩:=List.getElem?_of_mem hx;rw[List.getElem?_drop]at hj;exact hab (k+j) x jA (List.getElem?_eq_some_iff.1 hj).1 hj
     ·obtain⟨x,hx,rfl⟩:=List.mem_map.1 ha
      have hxN:x.v<N.v:=by
       have hk0:0<k:=by
        rcases Nat.eq_zero_or_pos k with e|e
        ·rw[e]at hx;simp at hx
        ·exact e
       obtain⟨y,hy⟩:∃y,l.vs[k-1]?=some y:=⟨_,lgE jA⟩;have h1:=hbe y hk0 hy;have h2:=hnew y (List.mem_of_getElem? hy)
       obtain⟨j,hj⟩:=List.getElem?_of_mem hx
       have hjk:j<k:=by
        have:=(List.getElem?_eq_some_iff.1 hj).1;exact qdA
       rw[List.getElem?_take_of_lt hjk]at hj;by_cases e:j=k-1
       ·rw[e,hy]at hj;cases hj;omega
       ·have h3:=List.pairwise_iff_getElem.1 h.rise j (k-1) jo jo jA;rw[List.getElem_map,List.getElem_map,(List.getElem?_eq_some_iff.1 hj).2,(List.getElem?_eq_some_iff.1 hy).2]at h3
        omega
      rcases List.mem_cons.1 hc with e|e
      ·rw[e];exact hxN
      ·exact hr3 _ ha _ e
    ·rcases List.mem_cons.1 (hperm.mem_iff.2 hx)with e|e
     ·refine .inr ⟨by rw[e,hNv];exact hpr,(m.body.view,b.2),by rw[e1];simp,by rw[e,hNv]⟩
     ·exact .inl ⟨x,e,rfl⟩
theorem PM.bump_all(s:PM):({s with ln:=s.ln+1}:PM).all=s.init++[(s.lv,s.ln+1)]:=rfl
theorem LI.bump{l:Lgs}{T:Nat}(h:LI l T){r:Nat}(hr:r<l.n){vs':List Vw}(hvl:vs'.length=l.vs.length)(hal:∀w∈vs',w.all.length≤T+1)
  (hup:∀w∈l.vs,∃w'∈vs',w'.v=w.v∧w.all.length≤w'.all.length) (hlast:∃w∈vs',w.v=(l.past r).lv∧(l.past r).ln+1≤(w.all.length:Int)) (hv:vs'.map Vw.v=l.vs.map Vw.v) :
  LI {l with past:=updF l.past r {l.past r with ln:=(l.past r).ln+1},vs:=vs'} (T+1):=by
 have hwf:=h.wf r hr;have hil:=h.il r hr
 refine h.upd hwf.bump (by show(l.past r).init.length≤_;omega) (by rw[hvl];have:=h.vl;omega) hal hup (fun p hp=>?_) (by rw[hv];exact h.rise) (fun w' hw' _=>.inl ?_) (fun p hp=>?_) (h.gb r hr) h.step.cl
 ·rw[PM.bump_all]at hp;rcases List.mem_append.1 hp with h1|h1
  ·obtain⟨w,hw,h2,h3⟩:=h.log r hr p (List.mem_append_left _ h1);obtain⟨w',hw',h4,h5⟩:=hup w hw;exact⟨w',hw',h4.trans h2,by omega⟩
  ·rw[List.mem_singleton.1 h1];exact hlast
 ·have:w'.v∈l.vs.map Vw.v:=by rw[←hv];exact List.mem_map_of_mem hw'
  obtain⟨w,hw,e⟩:=List.mem_map.1 this;exact⟨w,hw,e⟩
 ·rw[PM.bump_all];rcases List.mem_append.1 (show p∈(l.past r).init++[((l.past r).lv,(l.past r).ln)]from hp)with h1|h1
  ·exact⟨p,List.mem_append_left _ h1,rfl⟩
  ·rw[List.mem_singleton.1 h1];exact⟨((l.past r).lv,(l.past r).ln+1),by simp,rfl⟩
theorem knowsV_le(w:Vw)(d:Int):knowsV w d≤w.all.length:=by
 rw[w.all_len];unfold knowsV
 have:=List.length_filter_le (fun x:Int×Req=>decide (x.1≤d)) w.p;omega
theorem LI.counts(h:LI l T)(hm:MIn l.n m):LI (l.counts m).2 (T+1):=by
 have hor:=hm.o;have hr:orgI m<l.n:=by unfold orgI;omega
 have hwf:=h.wf _ hr;by_cases h3:m.body.kind=3
 ·rw[Lgs.counts_3 h3];split
  ·obtain⟨e1,e2⟩:=(l.past (orgI m)).change_all m.body.view;refine h.upd ((hwf.mono (B':=(T:Int)+1) jA).change m.body.view) (by rw[e2];have:=h.il _ hr;omega) (by have:=h.vl;omega) h.step.al (fun w hw=>⟨w,hw,rfl,Nat.le_refl _⟩) (fun p hp=>h.log _ hr p (by rw[e1]at hp;exact hp)) h.rise (fun w' hw' _=>.inl ⟨w',hw',rfl⟩) (fun p hp=>⟨p,by rw[e1];exact hp,rfl⟩) (PM.change_gb (h.gb _ hr)) fun r=>?_
   have:=h.cl r;by_cases e:r=orgI m
   ·rw[e,zae,lnA];rw[e]at this;show _+1≤_;omega
   ·rw[zag _ _ e];omega
  ·exact h.step
 ·by_cases h4 : m.body.kind = 4
  ·rw[Lgs.counts_4 h4];split
   ·rename_i hp
    exact h.begins hm (of_decide_eq_true hp)
   ·exact h.step
  ·by_cases h5 : m.body.kind = 5
   ·cases hat:vwAt l.vs m.body.view with
    |none=>rw[Lgs.counts_5n h5 hat];exact h.step
    | some i =>
     obtain⟨⟨w,hw,hwv⟩,_⟩:=zaq.1 hat;rw[Lgs.counts_5 h5 hat hw];split
     ·exact h.step
     ·have:=h.enter hr (List.mem_of_getElem? hw) (k:=(w.s.length:Nat)) (by rw[w.all_len];omega);rw[hwv]at this
      exact this
   ·by_cases h1 : m.body.kind = 1
    ·cases hat:vwAt l.vs m.body.view with
     |none=>rw[Lgs.counts_1n h1 hat];exact h.step
     | some i =>
      obtain⟨⟨w,hw,hwv⟩,_⟩:=zaq.1 hat;have hwm:=List.mem_of_getElem? hw;have hi:=(List.getElem?_eq_some_iff.1 hw).1
      rw[Lgs.counts_1 h1 hat hw];split
      ·exact h.step
      ·rename_i hno
       have hop:(l.past (orgI m)).isOpen m.body.view=true:=by
        cases e:(l.past (orgI m)).isOpen m.body.view with
        |true=>rfl
        |false=>exact absurd (.inr (.inr (.inr e))) hno
       have hlv:m.body.view=(l.past (orgI m)).lv:=by
        unfold PM.isOpen at hop;exact(of_decide_eq_true hop).2
       have hpr:(l.past (orgI m)).prepare m.body.view= {l.past (orgI m)with ln:=(l.past (orgI m)).ln+1}:=by unfold PM.prepare;rw[if_pos hop]
       obtain⟨w2,hw2⟩:∃w2:Vw,w2= {w with p:=w.p++[(m.number,m.body.req)]}:=⟨_,rfl⟩;have h2v:w2.v=w.v:=by rw[hw2]
       have h2l:w2.all.length=w.all.length+1:=by
        rw[w2.all_len,w.all_len,hw2];show _+(w.p++_).length=_;rw[lnA];show w.s.length+(w.p.length+1)=_;omega
       rw[←hw2,hpr];have hset:(l.vs.set i w2)[i]?=some w2:=by rw[List.getElem?_set_self hi]
       refine h.bump hr List.length_set (fun x hx=>?_) (fun x hx=>?_) ⟨w2,List.mem_of_getElem? hset,by rw[h2v,hwv,hlv],?_⟩ ?_
       ·rcases List.mem_or_eq_of_mem_set hx with e|e
        ·have:=h.al x e;omega
        ·have:=h.al w hwm;rw[e,h2l];omega
       ·by_cases e:x=w
        ·exact⟨w2,List.mem_of_getElem? hset,by rw[h2v,e],by rw[e,h2l];omega⟩
        ·obtain⟨j,hj⟩:=List.getElem?_of_mem hx;refine⟨x,?_,rfl,Nat.le_refl _⟩;refine List.mem_of_getElem? (i:=j) ?_;rw[List.getElem?_set_ne (fun e2=>e (by rw[←e2,hw]at hj;cases hj;rfl))];exact hj
       ·obtain⟨x,hx,e1,e2⟩:=h.log _ hr ((l.past (orgI m)).lv,(l.past (orgI m)).ln) (by unfold PM.all;simp);have e1:x.v=(l.past (orgI m)).lv:=e1;have e3:x=w:=Vw.uniq h.rise hx hwm (by rw[e1,hwv,hlv])
        rw[e3]at e2;have e2:(l.past (orgI m)).ln≤_:=e2;rw[h2l]
        omega
       ·rw[List.map_set,h2v];have e:(l.vs.map Vw.v)[i]?=some w.v:=by rw[List.getElem?_map,hw];rfl
        exact set_self e
    ·by_cases h2 : m.body.kind = 2
     ·cases hat:vwAt l.vs m.body.view with
      |none=>rw[Lgs.counts_2n h2 hat];exact h.step
      | some i =>
       obtain⟨⟨w,hw,hwv⟩,_⟩:=zaq.1 hat;have hwm:=List.mem_of_getElem? hw;rw[Lgs.counts_2 h2 hat hw]
       split
       ·exact h.step
       ·show LI (l.doPast _ _) _;have hkn:=knowsV_le w (m.deps (primI l.n m.body.view));generalize knowsV w (m.deps (primI l.n m.body.view))=most at hkn⊢
        unfold PM.commit Lgs.doPast;split
        ·rename_i hok
         unfold PM.commitOk at hok;have hok:=of_decide_eq_true hok;exact h.bump hr rfl h.step.al (fun w hw=>⟨w,hw,rfl,Nat.le_refl _⟩) ⟨w,hwm,by rw[hwv];exact hok.1.2,by omega⟩ rfl
        ·rw[updF_self];exact h.step
     ·rw[Lgs.counts_x h3 h4 h5 h1 h2];exact h.step
theorem LI.take{l:Lgs}{T:Nat}(h:LI l T){m:Msg}(hv:0≤m.body.view):LI (l.take m).2 (T+1):=by
 unfold Lgs.take;split
 ·exact h.step
 ·rename_i hno
  split
  ·exact h.step
  ·have hm:MIn l.n m:=may_MIn (by
    cases e:m.may with
    |true=>rfl
    |false=>exact absurd (.inl e) hno) (by
    by_cases e:(l.n:Int)<m.origin
    ·exact absurd (.inr (.inl e)) hno
    ·omega) (by
    cases e:qIn l.n m with
    |true=>rfl
    |false=>exact absurd (.inr (.inr e)) hno) hv
   have hc:=h.counts hm;have hk:=(l.counts_nk m).2
   refine⟨hc.n3,fun i=>?_,hc.wf,hc.il,hc.vl,hc.cl,hc.al,hc.log,hc.zero,hc.rise,hc.begun,hc.gb⟩;show 0≤updF (l.counts m).2.known (orgI m) _ i∧updF (l.counts m).2.known (orgI m) _ i≤_;rw[hk]
   have:=h.kn i;exact qdl
structure A15 where
 who:UInt8
 other:UInt8
 meet:Bool
 raw:Bool
 kind:UInt8
 view:UInt8
 k:UInt8
 client:UInt8
 time:UInt8
 key:UInt8
 q:List UInt8
 no:Bool
 qp:Option Addr
 qc:Nat
def A15.vals(x:A15):List Value:=[.int .u8 (x.who.toNat:Nat),.int .u8 (x.other.toNat:Nat),.bool x.meet,.bool x.raw,.int .u8 (x.kind.toNat:Nat),.int .u8 (x.view.toNat:Nat),.int .u8 (x.k.toNat:Nat),.int .u8 (x.client.toNat:Nat),.int .u8 (x.time.toNat:Nat),.int .u8 (x.key.toNat:Nat),.slice x.qp x.q.length x.qc,.bool x.no]
def byteS(b:UInt8):ByteArray:=⟨#[b]⟩
def A15.req0(x:A15):Req:={Req.zero with client:=1+((x.client.toNat % 3:Nat):Int),time:=1+((x.time.toNat:Nat):Int),kind:=2,key:=byteS (UInt8.ofNat (97+x.key.toNat % 4)),val:=byteS (UInt8.ofNat (48+x.time.toNat % 10))}
def A15.req(x:A15):Req:=if x.no then x.req0 else x.req0.signed
def qRow(ch:Nat→List (Int×Int))(kv:Nat→Int)(v:Int)(raw:Bool)(r:Nat):List (Int×Int):=((ch r).filter fun c=>decide (c.1=v)&&decide (c.2≤kv r)&& !raw).map fun c=>(((r+1:Nat):Int),c.2)
def qAcc(row:Nat→List (Int×Int))(half:Nat):Nat→List (Int×Int)
 |0=>[]
 |k+1=>if(qAcc row half k).length≤half then qAcc row half k++row k else qAcc row half k
def qNum(q:List UInt8):Nat→List (Int×Int)
 |0=>[]
 |r+1=>qNum q r++[(((r+1:Nat):Int),1+(((q.getD r 0).toNat % 8:Nat):Int))]
def A15.qs(x:A15)(n:Nat)(ch:Nat→List (Int×Int))(kv:Nat→Int)(v:Int):List (Int×Int):=
 if 0<(qAcc (qRow ch kv v x.raw) ((n-1) / 2) n).length∨x.q.length=0 then qAcc (qRow ch kv v x.raw) ((n-1) / 2) n else qNum x.q (if n≤x.q.length then n else x.q.length)
def fix1(v:Int):Int:=if v=0 then 1 else v
structure W15 where
 w:W12
 l:Lgs
def lastV(vs:List Vw):Int:=match vs[vs.length-1]? with
 |none=>0
 |some w=>w.v
def votedZ(s:PM)(v:Int):Int:=(PM.voted s.all v).getD 0
def A15.bodK(W:W15)(n o:Nat)(x:A15):Nat→Bod
 |0=>{Bod.zero 1 with view:=if x.raw then((x.view.toNat % 6:Nat):Int)else(W.l.past o).g,req:=x.req}
 |1=>{Bod.zero 2 with view:=if x.raw then((x.view.toNat % 6:Nat):Int)else(W.l.past o).g,k:=if x.raw then 1+((x.k.toNat % 6:Nat):Int)else votedZ (W.l.past o) (W.l.past o).g+1}
 |2=>{Bod.zero 3 with view:=fix1 (if x.raw then((x.view.toNat % 6:Nat):Int)else(W.l.past o).g+1+((x.view.toNat % 2:Nat):Int))}
 |3=>{Bod.zero 4 with view:=fix1 (if x.raw then((x.view.toNat % 6:Nat):Int)else(W.l.past o).g),q:=x.qs n W.l.ch (W.w.kv o) (W.l.past o).g}
 |4=>{Bod.zero 5 with view:=fix1 (if x.raw then((x.view.toNat % 6:Nat):Int)else lastV W.l.vs)}
 |_=>{Bod.zero 6 with k:=1+((x.k.toNat % 6:Nat):Int),dig:=dig0 x.key}
def A15.bod(W:W15)(n o:Nat)(x:A15):Bod:=x.bodK W n o (x.kind.toNat % 6)
def W15.next(W:W15)(n o:Nat)(x:A15):Msg:=⟨((o+1:Nat):Int),W.w.kv o o+1,W.w.kv o,x.bod W n o,noTag⟩
def W15.act(n:Nat)(W:W15)(x:A15):W15:=
 if x.meet=true then {W with w:=W.w.meet (x.who.toNat % n) (x.other.toNat % n)}else
 if(W.next n (x.who.toNat % n) x).may=true then⟨W.w.say (x.who.toNat % n) (W.next n (x.who.toNat % n) x).signed,(W.l.take (W.next n (x.who.toNat % n) x).signed).2⟩else W
def W15.zero(n:Nat):W15:=⟨W12.zero,Lgs.new n⟩
def world15(n:Nat)(xs:List A15):W15:=xs.foldl (W15.act n) (W15.zero n)
variable {ch:Nat→List (Int × Int)}
theorem qRow_all{kv:Nat→Int}{raw:Bool}{p:Int×Int}(h:p∈qRow ch kv v raw r):p.1=((r+1:Nat):Int):=by
 unfold qRow at h;obtain⟨c,_,rfl⟩:=List.mem_map.1 h;rfl
theorem qRow_len(ch:Nat→List (Int×Int))(kv:Nat→Int)(v:Int)(raw:Bool)(r:Nat):(qRow ch kv v raw r).length≤(ch r).length:=by
 unfold qRow;rw[List.length_map];exact List.length_filter_le _ _
theorem qAcc_all{row:Nat→List (Int×Int)}{half:Nat}(h:∀r p,p∈row r→p.1=((r+1:Nat):Int)):∀k p,p∈qAcc row half k→p.1≤(k:Int)
 |0,p,hp=>by cases hp
 | k + 1, p, hp => by
  unfold qAcc at hp
  split at hp
  ·rcases List.mem_append.1 hp with h1|h1
   ·have:=qAcc_all h k p h1;omega
   ·have:=h k p h1;omega
  ·have:=qAcc_all h k p hp;omega
theorem qAcc_len{row:Nat→List (Int×Int)}{half T:Nat}(h:∀r,(row r).length≤T):∀k,(qAcc row half k).length≤half+T
 |0=>Nat.zero_le _
 | k + 1 => by
  unfold qAcc
  have:=h k
  split
  ·rw[lnA];omega
  ·exact qAcc_len h k
theorem qNum_len(q:List UInt8):∀r,(qNum q r).length=r
 |0=>rfl
 |r+1=>by unfold qNum;rw[lnA,qNum_len q r];rfl
theorem qNum_all(q:List UInt8):∀r p,p∈qNum q r→p.1≤(r:Int)
 |0,p,h=>by cases h
 | r + 1, p, h => by
  unfold qNum at h
  rcases List.mem_append.1 h with h|h
  ·have:=qNum_all q r p h;omega
  ·rw[List.mem_singleton.1 h];exact Int.le_refl _
theorem A15.qs_all(x:A15)(ch:Nat→List (Int×Int))(kv:Nat→Int)(v:Int):∀p∈x.qs n ch kv v,p.1≤(n:Int):=by
 intro p hp;unfold A15.qs at hp;split at hp
 ·exact qAcc_all (fun r p h=>qRow_all h) n p hp
 ·have:=qNum_all _ _ p hp;split at this<;>omega
theorem A15.qs_len(hn:n≤11)(x:A15)(hc:∀r,(ch r).length≤T)(kv:Nat→Int)(v:Int):(x.qs n ch kv v).length≤11+T:=by
 unfold A15.qs;split
 ·have:=qAcc_len (row:=qRow ch kv v x.raw) (half:=(n-1) / 2) (fun r=>Nat.le_trans (qRow_len ch kv v x.raw r) (hc r)) n;omega
 ·rw[qNum_len];split<;>omega
theorem A15.req_ok(x:A15):x.req.Ok:=by
 have h:=x.time.toNat_lt
 have h0:x.req0.Ok:=by
  refine⟨⟨?_,?_⟩,by show(0:Int)≤0;decide,by show(0:Int)≤_;decide⟩
  ·show(0:Int)≤1+((x.time.toNat:Nat):Int);omega
  ·show 1+((x.time.toNat:Nat):Int)≤_;omega
 unfold A15.req;split
 ·exact h0
 ·exact signed_ok h0
theorem voted_mem:∀(l:List (Int×Int)) (v k:Int),PM.voted l v=some k→(v,k)∈l
 | [],v,k,h=>by cases h
 | (w, n) :: r, v, k, h => by
  unfold PM.voted at h
  split at h
  ·rename_i e;cases h;rw[e];simp
  ·exact List.mem_cons_of_mem _ (voted_mem r v k h)
theorem votedZ_le(h:PM.WF s B)(hB:0≤B)(v:Int):0≤votedZ s v∧votedZ s v≤B:=by
 unfold votedZ
 cases e:PM.voted s.all v with
 |none=>exact⟨Int.le_refl 0,hB⟩
 | some k =>
  have:=h.low _ (voted_mem _ _ _ e);exact⟨this.2.2.1,this.2.2.2⟩
structure WI(n:Nat)(W:W15)(T:Nat):Prop where
 w:WInv n W.w
 l:LI W.l T
 n:W.l.n=n
theorem fix1_rng(h:0≤v∧v≤18446744073709551615):0≤fix1 v∧fix1 v≤18446744073709551615:=by
 unfold fix1;split<;>omega
theorem lastV_rng(h:LI l T):0≤lastV l.vs∧lastV l.vs<1073741824:=by
 unfold lastV
 cases e:l.vs[l.vs.length-1]? with
 |none=>exact⟨Int.le_refl 0,by decide⟩
 | some w =>
  have hw:=List.mem_of_getElem? e;show 0≤w.v∧w.v<_
  by_cases h0:w.v=0
  ·rw[h0];decide
  ·obtain⟨p,hp,e1⟩:=h.begun w hw h0
   have hr:primI l.n w.v<l.n:=by
    have h1:w.v % (l.n:Int)<l.n:=Int.emod_lt_of_pos _ (by have:=h.n3;omega);unfold primI
    have:=h.n3;omega
   have:=(h.wf _ hr).low p hp;omega
variable {W:W15}
theorem A15.bod_ok(h:WI n W T)(hT:T≤1000)(ho:o<n)(x:A15):(x.bod W n o).Ok:=by
 have hk:=x.k.toNat_lt;have hor:o<W.l.n:=by rw[h.n];exact ho
 have hwf:=h.l.wf o hor;have hg0:=hwf.g0
 have hg1:=h.l.gb o hor;have hvt:=votedZ_le hwf jA (W.l.past o).g
 have hlv:=lastV_rng h.l;have h0:(0:Int)≤0∧(0:Int)≤18446744073709551615:=jA
 unfold A15.bod;generalize x.kind.toNat % 6=j
 match j with
 |0=>exact⟨by show 0≤(if x.raw then _ else _)∧(if x.raw then _ else _)≤_;split<;>omega,h0,x.req_ok⟩
 |1=>exact⟨by show 0≤(if x.raw then _ else _)∧(if x.raw then _ else _)≤_;split<;>omega,by show 0≤(if x.raw then _ else _)∧(if x.raw then _ else _)≤_;split<;>omega,reqz_ok⟩
 |2=>exact⟨fix1_rng jl,h0,reqz_ok⟩
 |3=>exact⟨fix1_rng jl,h0,reqz_ok⟩
 |4=>exact⟨fix1_rng jl,h0,reqz_ok⟩
 |j+5=>exact⟨h0,by show 0≤1+((x.k.toNat % 6:Nat):Int)∧1+((x.k.toNat % 6:Nat):Int)≤_;omega,reqz_ok⟩
theorem A15.bod_q(h:WI n W T)(hn:n≤11)(x:A15):(x.bod W n o).q.length≤11+T∧(x.bod W n o).q.all (fun p=>decide (p.1≤(n:Int)))=true:=by
 unfold A15.bod;generalize x.kind.toNat % 6=j;have h0:([]:List (Int×Int)).length≤11+T∧([]:List (Int×Int)).all (fun p=>decide (p.1≤(n:Int)))=true:=⟨Nat.zero_le _,rfl⟩
 match j with
 |0=>exact h0
 |1=>exact h0
 |2=>exact h0
 |3=>exact⟨x.qs_len hn h.l.cl _ _,List.all_eq_true.2 fun p hp=>decide_eq_true (x.qs_all _ _ _ p hp)⟩
 |4=>exact h0
 |j+5=>exact h0
theorem WI.zero{n:Nat}(h3:3≤n)(h11:n≤11):WI n (W15.zero n) 0:=⟨WInv.zero n,LI.new h3 h11,rfl⟩
theorem Lgs.take_n(l:Lgs)(m:Msg):(l.take m).2.n=l.n:=by
 unfold Lgs.take;split
 ·rfl
 ·split
  ·rfl
  ·exact(l.counts_nk m).1
theorem WI.act{n T:Nat}{W:W15}(h:WI n W T)(h3:3≤n)(h11:n≤11)(hT:T≤1000)(x:A15):WI n (W.act n x) (T+1):=by
 have ho:x.who.toNat % n<n:=Nat.mod_lt _ jA;have hj:x.other.toNat % n<n:=Nat.mod_lt _ jA
 unfold W15.act;split
 ·exact⟨h.w.meet ho hj,h.l.step,h.n⟩
 ·split
  ·rename_i hm
   obtain⟨e1,e2,e3,e4⟩:=(W.next n (x.who.toNat % n) x).signed_parts;refine⟨(h.w.say h11 ho (m:=W.next n (x.who.toNat % n) x) rfl rfl (fun i _=>rfl) (x.bod_q h h11).2 hm).2,h.l.take ?_,by show(W.l.take _).2.n=n;rw[Lgs.take_n,h.n]⟩;have hb:=(A15.bod_ok h hT ho x).1.1;first|(rw[e4];exact hb)|(rw[e3];exact hb)|(rw[e2];exact hb)|(rw[e1];exact hb)
  ·exact⟨h.w,h.l.step,h.n⟩
theorem world15_snoc(n:Nat)(l:List A15)(x:A15):world15 n (l++[x])=(world15 n l).act n x:=by
 unfold world15;rw[List.foldl_append];rfl
theorem world15_inv{n:Nat}(h3:3≤n)(h11:n≤11)(l:List A15):∀k,k≤1000→WI n (world15 n (l.take k)) k
 |0,_=>WI.zero h3 h11
 | k + 1, hk => by
  have ih:=world15_inv h3 h11 l k jA
  cases h:l[k]? with
  | none =>
   have e:l.take (k+1)=l.take k:=by rw[List.take_add_one,h];simp
   rw[e]
   exact⟨ih.w,ih.l.step,ih.n⟩
  | some x =>
   rw[zax h,world15_snoc]
   exact ih.act h3 h11 jA x
theorem world15_len(n:Nat)(l:List A15):∀k,(world15 n (l.take k)).w.all.length≤k
 |0=>Nat.le_refl 0
 | k + 1 => by
  have ih:=world15_len n l k
  cases h:l[k]? with
  | none =>
   have e:l.take (k+1)=l.take k:=by rw[List.take_add_one,h];simp
   rw[e]
   omega
  | some x =>
   rw[zax h,world15_snoc]
   unfold W15.act
   split
   ·exact Nat.le_succ_of_le ih
   ·split
    ·show(_++[_]).length≤_
     rw[lnA]
     show _+1≤_
     omega
    ·exact Nat.le_succ_of_le ih
theorem snocInd{p:List α→Prop}(h0:p [])(h1:∀l x,p l→p (l++[x]))(l:List α):p l:=by
 have:∀(n:Nat) (l:List α),l.length=n→p l:=by
  intro n
  induction n with
  |zero=>intro l h;rw[List.eq_nil_of_length_eq_zero h];exact h0
  | succ n ih =>
   intro l h;have hne:l≠[]:=fun e=>by rw[e]at h;cases h
   rw[←List.dropLast_concat_getLast hne];exact h1 _ _ (ih _ (by rw[List.length_dropLast,h];rfl))
 exact this _ l rfl
theorem PM.enterOk_lt{k:Int}(h:s.enterOk v k=true):s.lv<v∧s.g≤v:=by
 unfold PM.enterOk at h
 have:=of_decide_eq_true h;exact⟨this.1,this.2.1⟩
theorem PM.open_g(h:s.isOpen v=true):v=s.g∧v=s.lv:=of_decide_eq_true (show decide _=true from h)
theorem voted_app:∀(l r:List (Int×Int)) (v k:Int),PM.voted l v=some k→PM.voted (l++r) v=some k
 | [],_,_,_,h=>by cases h
 | p :: l, r, v, k, h => by
  unfold PM.voted at h
  show PM.voted (p::(l++r)) v=some k
  unfold PM.voted
  split
  ·rename_i e;rwa [if_pos e]at h
  ·rename_i e;rw[if_neg e]at h;exact voted_app l r v k h
def lgsOf(n:Nat)(l:List Msg):Lgs:=l.foldl (fun L m=>(L.take m).2) (Lgs.new n)
theorem lgsOf_snoc(n:Nat)(l:List Msg)(m:Msg):lgsOf n (l++[m])=((lgsOf n l).take m).2:=by unfold lgsOf;rw[List.foldl_append];rfl
theorem lgsOf_n(n:Nat)(l:List Msg):(lgsOf n l).n=n:=by
 refine snocInd (p:=fun l=>(lgsOf n l).n=n) rfl (fun l m ih=>?_) l;show(lgsOf n (l++[m])).n=n;rw[lgsOf_snoc,Lgs.take_n,ih]
theorem lgsOf_LI(h3:3≤n)(h11:n≤11):∀l:List Msg,(∀m∈l,0≤m.body.view)→LI (lgsOf n l) l.length:=fun l=>by
 refine snocInd (p:=fun l:List Msg=>(∀m∈l,0≤m.body.view)→LI (lgsOf n l) l.length) (fun _=>LI.new h3 h11) (fun l m ih h=>?_) l
 rw[lgsOf_snoc,lnA]
 exact(ih fun x hx=>h x (List.mem_append_left _ hx)).take (h m jK)
theorem Lgs.take_ok{pre:List Msg}(h:MOK n pre m)(hn:l.n=n)(hk:l.known=fun r=>((cnt pre r:Nat):Int)):l.take m=(((l.counts m).1,0),{(l.counts m).2 with known:=updF (l.counts m).2.known (orgI m) ((l.counts m).2.known (orgI m)+1)}):=by
 have hf:=h.fits;unfold fitsB at hf
 simp only[Bool.and_eq_true]at hf;obtain⟨h1,h2,h3,_⟩:=hf;unfold Lgs.take;rw[if_neg,if_neg]
 ·rintro(e|e)
  ·exact e (by rw[hk,h.num];show((cnt pre (orgI m)+1:Nat):Int)=((cnt pre (orgI m):Nat):Int)+1;omega)
  ·have:depsIn m l.known=true:=by
    unfold depsIn;rw[List.all_eq_true];intro i hi;rw[List.mem_range]at hi;exact decide_eq_true (by rw[hk];exact(h.dep i hi).2)
   rw[this]at e;cases e
 ·rw[hn];rintro(e|e|e)
  ·rw[h1]at e;cases e
  ·have:=of_decide_eq_true h2;omega
  ·have:qIn n m=true:=h3;rw[this]at e;cases e
theorem lgsOf_known{n:Nat}{all:List Msg}(hW:WOK n all):∀i,i≤all.length→(lgsOf n (all.take i)).known=fun r=>((cnt (all.take i) r:Nat):Int)
 |0,_=>by rw[List.take_zero];rfl
 | i + 1, hi => by
  obtain⟨m,hm⟩:∃m,all[i]?=some m:=⟨_,lgE jA⟩
  have ih:=lgsOf_known hW i jA
  rw[zax hm,lgsOf_snoc,Lgs.take_ok (hW i m hm) (lgsOf_n _ _) ih]
  show updF ((lgsOf n (all.take i)).counts m).2.known (orgI m) _=_
  rw[(Lgs.counts_nk _ _).2,ih]
  funext r
  rw[cnt_snoc]
  by_cases e:r=orgI m
  ·subst e;rw[zae,if_pos rfl];rfl
  ·rw[zag _ _ e,if_neg e];rfl
def encA(k:Int×Int):Value:=.agg ([.int .i64 k.1,.int .u64 k.2]:List Value).toArray
instance keyAs:KeyT prog 234 encA:=keyT_agg (cellsK:=fun k:Int×Int=>[.int .i64 k.1,.int .u64 k.2]) (D:=4) jE (fun k=>by kernel_rfl) jC (fun a b=>by
  obtain⟨a1,a2⟩:=a
  obtain⟨b1,b2⟩:=b
  show(a1 == b1&&(a2 == b2&&true))=_
  by_cases h1:a1=b1<;>by_cases h2:a2=b2<;>simp[h1,h2]) (fun k=>rfl)
def heldKV(l:List Req):List ((Int×Int)×Value):=l.foldl (fun m r=>putKV m (r.client,r.time) (.bool true)) []
theorem heldKV_snoc(l:List Req)(r:Req):heldKV (l++[r])=putKV (heldKV l) (r.client,r.time) (.bool true):=by
 unfold heldKV;rw[List.foldl_append];rfl
theorem held_get(l:List Req)(c t:Int):getKV (heldKV l) (c,t)=if holdsB l c t=true then some (.bool true)else none:=by
 refine snocInd (p:=fun l=>getKV (heldKV l) (c,t)=if holdsB l c t=true then some (.bool true)else none) rfl (fun l r ih=>?_) l
 ·show getKV (heldKV (l++[r])) (c,t)=if holdsB (l++[r]) c t=true then some (.bool true)else none
  rw[heldKV_snoc]
  have e:holdsB (l++[r]) c t=(holdsB l c t||(decide (r.client=c)&&decide (r.time=t))):=by
   unfold holdsB;rw[List.any_append];simp
  rw[e];by_cases h:r.client=c∧r.time=t
  ·rw[←h.1,←h.2,getKV_put_same,if_pos jK]
  ·rw[getKV_put_ne _ _ _ _ (fun h2=>h ⟨(congrArg Prod.fst h2).symm,(congrArg Prod.snd h2).symm⟩),ih]
   have:(decide (r.client=c)&&decide (r.time=t))=false:=by
    rw[Bool.and_eq_false_iff,decide_eq_false_iff_not,decide_eq_false_iff_not];by_cases h1:r.client=c
    ·exact .inr fun h2=>h ⟨h1,h2⟩
    ·exact .inl h1
   rw[this,Bool.or_false]
structure PV where
 w:Vw
 b:Nat
 lp:Option Addr
 lc:Nat
 np:Option Addr
 nc:Nat
 hb:Nat
def PV.cells(x:PV):List Value:=[.int .u64 x.w.num,.int .i64 (x.w.s.length:Nat),.slice x.lp x.w.all.length x.lc,.slice x.np x.w.p.length x.nc,.map (some x.hb)]
def numV(y:Int×Req):List Value:=[.int .u64 y.1]
def PV.parts(x:PV):List HP:=[row x.b 162 x.cells,slc x.lp x.w.all.length x.lc 49 40 (x.w.all.flatMap Req.vals),slc x.np x.w.p.length x.nc 35 1 (x.w.p.flatMap numV),mp x.hb encA (heldKV x.w.all)]
def PV.own(x:PV):HP:=fun h=>stars x.parts h
def PV.ent(x:PV):Int×Value:=(x.w.v,.pointer (some ⟨x.b,0,none⟩))
structure PPt where
 V:List PV
 vb:Nat
 pp:Option Addr
 pc:Nat
 cp:Option Addr
 cc:Nat
 pb:Nat→Nat
 cs:Nat→Option Addr×Nat
def plC(n:Nat)(kn:Nat→Int)(vb:Nat)(pp:Option Addr)(pc:Nat)(cp:Option Addr)(cc:Nat):List Value:=[.int .i64 (n:Int)]++v11 kn++[.map (some vb),.slice pp n pc,.slice cp n cc]
variable {b vb pc cc:Nat} {pp cp:Option Addr}
theorem plC_kn{T:TypeId}{kn:Nat→Int}
  (h:At A (row b T (plC n kn vb pp pc cp cc)) A' (row b T (plC n kn vb pp pc cp cc))):Rd f A b (0+1) (v11 kn):=
 (Rd.ofRow (f:=f) h).sub rfl
structure plφ(f:Frag)(l:Lgs)(i:PPt):Prop where
 vs:(i.V.map PV.w).Perm l.vs
 p:ListAt f i.pp 1 addrV ((List.range l.n).map i.pb)
def pcFam(l:Lgs)(cs:Nat→Option Addr×Nat)(r:Nat):HP:=slc (cs r).1 (l.ch r).length (cs r).2 228 2 ((l.ch r).flatMap chV)
def plB(lb:Nat)(l:Lgs)(i:PPt):List HP:=[row lb 124 (plC l.n l.known i.vb i.pp i.pc i.cp i.cc),mp i.vb keyU (i.V.map PV.ent),lst (i.V.map PV.own),
 fam (fun r=>pastH (i.pb r) (l.past r)) l.n,slc i.cp l.n i.cc 226 1 (chRow l i.cs),fam (pcFam l i.cs) l.n]
def plogH(f:Frag)(lb:Nat)(l:Lgs):HP:=pack (plφ f l) (plB lb l)
theorem plφ.mono{f g:Frag}(h:Le f g){l:Lgs}{i:PPt}(hl:plφ f l i):plφ g l i:=⟨hl.vs,hl.p.mono h⟩
variable {g:Frag}
theorem plogH_mono(h:Le f g):∀x,plogH f lb l x→plogH g lb l x:=fun _ ⟨i,hi,hx⟩=>⟨i,hi.mono h,hx⟩
theorem plog_up(h:Le f g):∀x,stars (plogH f lb l::A) x→stars (plogH g lb l::A) x:=
 fun _ ⟨h1,h2,hd,he,ha,hr⟩=>⟨h1,h2,hd,he,plogH_mono h _ ha,hr⟩
theorem zam(i:PPt)(h:plφ f l i):∀x,stars (plB lb l i++F) x→stars (plogH f lb l::F) x:=fun x hx=>
 pack_fold (φ:=plφ f l) (B:=plB lb l) i h x hx
theorem plφ.past{i:PPt}(h:plφ f l i)(hn:0<l.n):∃b off,i.pp=some ⟨b,off,none⟩∧∀ {e:Frag} {A:List HP} {r:Nat},Le f e→r<l.n→Rd1 e A b (off+r) (.pointer (some ⟨i.pb r,0,none⟩)):=by
 exact qaT
variable {V:List PV}
theorem perm_len(h:(V.map PV.w).Perm l.vs):V.length=l.vs.length:=by rw[←h.length_eq,List.length_map]
theorem ent_get:∀(V:List PV) (v:Int),getKV (V.map PV.ent) v=((V.find? fun x=>decide (x.w.v=v)).map fun x=>Value.pointer (some ⟨x.b,0,none⟩))
 | [],_=>rfl
 | x :: V, v => by
  show(if v=x.w.v then some _ else getKV (V.map PV.ent) v)=_
  rw[List.find?_cons,ent_get V v]
  by_cases h:v=x.w.v
  ·rw[if_pos h,decide_eq_true h.symm];rfl
  ·rw[if_neg h,decide_eq_false (fun e=>h e.symm)]
theorem view_none(h:(V.map PV.w).Perm vs)(hv:vwAt vs v=none):getKV (V.map PV.ent) v=none:=by
 rw[ent_get,List.find?_eq_none.2]
 ·rfl
 ·intro x hx
  have:=vwAt_none.1 hv x.w (h.mem_iff.1 (List.mem_map.2 ⟨x,hx,rfl⟩));simpa using this
theorem view_some(h:(V.map PV.w).Perm vs){i:Nat}(hr:(vs.map Vw.v).Pairwise (· < ·))(hv:vwAt vs v=some i)(hw:vs[i]?=some w):∃(j:Nat) (x:PV),V[j]?=some x∧x.w=w∧getKV (V.map PV.ent) v=some (.pointer (some ⟨x.b,0,none⟩)):=by
 obtain⟨⟨w',hw',e⟩,_⟩:=zaq.1 hv;rw[hw]at hw';cases hw'
 have hwm:=h.mem_iff.2 (List.mem_of_getElem? hw);obtain⟨y,hy,hyw⟩:=List.mem_map.1 hwm
 cases hf:V.find? fun x=>decide (x.w.v=v)with
 | none =>
  have:=List.find?_eq_none.1 hf y hy;rw[hyw,e]at this
  exact absurd (decide_eq_true rfl) this
 | some x =>
  have h1:=List.find?_some hf;have h1:x.w.v=v:=of_decide_eq_true h1
  have h2:=List.mem_of_find?_eq_some hf;obtain⟨j,hj⟩:=List.getElem?_of_mem h2
  refine⟨j,x,hj,?_,by rw[ent_get,hf];rfl⟩;exact Vw.uniq hr (h.mem_iff.1 (List.mem_map.2 ⟨x,h2,rfl⟩)) (List.mem_of_getElem? hw) (by rw[h1,e])
theorem perm_set{A B:List α}{i:Nat}{x y:α}(h:A.Perm B)(hi:A[i]?=some x)(hj:B[j]?=some x):(A.set i y).Perm (B.set j y):=by
 have hA:=List.getElem?_eq_some_iff.1 hi;have hB:=List.getElem?_eq_some_iff.1 hj
 have a1:=List.take_append_drop i A
 have e1:A=A.take i++x::A.drop (i+1):=by
  conv=>lhs;rw[←List.take_append_drop i A]
  rw[List.drop_eq_getElem_cons hA.1,hA.2]
 have e2:B=B.take j++x::B.drop (j+1):=by
  conv=>lhs;rw[←List.take_append_drop j B]
  rw[List.drop_eq_getElem_cons hB.1,hB.2]
 have s1:A.set i y=A.take i++y::A.drop (i+1):=List.set_eq_take_append_cons_drop .. |>.trans (by rw[if_pos hA.1]);have s2:B.set j y=B.take j++y::B.drop (j+1):=List.set_eq_take_append_cons_drop .. |>.trans (by rw[if_pos hB.1])
 rw[e1,e2]at h;have h2:(x::(A.take i++A.drop (i+1))).Perm (x::(B.take j++B.drop (j+1))):=List.perm_middle.symm.trans (h.trans List.perm_middle);have h3:=(List.perm_cons x).1 h2
 rw[s1,s2];exact List.perm_middle.trans (((List.perm_cons y).2 h3).trans List.perm_middle.symm)
def lgN(n:Nat)(vp:Option Addr)(pp:Option Addr)(pl pc:Nat)(cp:Option Addr):List Value:=[.int .i64 (n:Int)]++(v11 fun _=>0)++[.slice vp 1 1,.slice pp pl pc,.slice cp n n]
theorem fam_more(g:Nat→HP)(k:Nat)(A:List HP):stars (g k::fam g k::A)=stars (fam g (k+1)::A):=by
 show star (g k) (star (stars (rngH g k)) (stars A))=star (star (g k) (stars (rngH g k))) (stars A);rw[zbz]
theorem fam_congr{g g':Nat→HP}{k:Nat}(h:∀j,j<k→g j=g' j):fam g k=fam g' k:=by
 unfold fam;rw[rngH_congr k h]
theorem fam_zero(g:Nat→HP)(A:List HP):stars (fam g 0::A)=stars A:=zcl _
theorem fam_emp{g:Nat→HP}(A:List HP):∀ {k:Nat},(∀j,j<k→g j=emp)→stars (fam g k::A)=stars A
 |0,_=>zcl _
 | k + 1, h => by
  rw[←fam_more,h k jA]
  show star emp (stars (fam g k::A))=_
  rw[zcl]
  exact fam_emp A fun j hj=>h j jA
theorem lst_emp1(A:List HP):stars (lst [emp]::A)=stars A:=by
 show star (star emp emp) (stars A)=stars A;rw[zcl,zcl]
def vz:VV:=⟨⟨0,0,[],[]⟩,none,0,none,0⟩
theorem zeros_rng(n:Nat):zeros [Value.slice none 0 0] n=chRow (Lgs.new n) fun _=>(none,0):=by
 rw[zeros_one];unfold chRow rngV;apply List.ext_getElem?;intro i;rw[List.getElem?_map];show _=(List.range n)[i]?.map _;by_cases h:i<n
 ·rw[List.getElem?_replicate,if_pos h,List.getElem?_range h];rfl
 ·rw[List.getElem?_eq_none (by rw[List.length_replicate];omega),List.getElem?_eq_none (by rw[List.length_range];omega)];rfl
theorem pbs_snoc(pb:Nat→Nat)(i b:Nat):((List.range (i+1)).map (updF pb i b)).flatMap addrV=((List.range i).map pb).flatMap addrV++addrV b:=by
 rw[List.range_succ,List.map_append,List.flatMap_append];congr 1
 ·congr 1;exact List.map_congr_left fun j hj=>zag _ _ kC
 ·simp[zae]
def LgNewP(f:Frag)(F:List HP)(n:Nat):Value→Frag→List HP→Prop:=fun v f' A'=>∃(g:Frag) (lb:Nat),Dj f g∧v= .tuple #[.pointer (some ⟨lb,0,none⟩),.int .i64 0]∧f'=un f g∧A'=logsH f' lb (Lgs.new n)::F
section
variable (f:Frag) (F:List HP)
theorem lgnew_fn(h:fewZ (n:Int)):Fn prog 35 [.int .i64 (n:Int)] f F (LgNewP f F n):=by
 obtain⟨h1,h2,h3⟩:=h;have hn:n≤11:=jA
 refine Fn.e1 func35 ntmps35 fun base=>?_;repeat(first|(refine H.rem (z:=1) rfl rfl rfl jC h3 rfl ?_)|(refine gh ?_))
 refine H.Aq (out:=vz.vals) rfl rfl rfl rfl jC jC rfl rfl fun vb=>?_;refine qjJ fun cb=>?_;refine H.Ay (t:=152) (out:=lgN n (some ⟨vb,0,none⟩) none 0 0 (some ⟨cb,0,none⟩)) rfl rfl rfl jE rfl ?_;refine H.box (ls:=lgN n (some ⟨vb,0,none⟩) none 0 0 (some ⟨cb,0,none⟩)) rfl rfl rfl rfl fun lb=>?_;refine gT ?_;refine H.slc0 153 1 ?_;refine H.conv (fam_zero (fun r=>pstH (0*r) PM.new) _).symm ?_;refine H.pf (x:=slc none 0 0 _ _ _) ?_;refine qew ?_
 refine H.lo (ι:=Nat×Option Addr×Nat×(Nat→Nat)) (fun s=>[(5,.int .i64 (s.1:Int)),(4,.pointer (some ⟨lb,0,none⟩)),(0,.int .i64 (n:Int))]) (fun _=>f)
  (fun s=>row lb 152 (lgN n (some ⟨vb,0,none⟩) s.2.1 s.1 s.2.2.1 (some ⟨cb,0,none⟩))::slc s.2.1 s.1 s.2.2.1 153 1 (((List.range s.1).map s.2.2.2).flatMap addrV)::fam (fun r=>pstH (s.2.2.2 r) PM.new) s.1::row cb 195 (zeros [.slice none 0 0] n)::row vb 147 vz.vals::F)
  (fun s=>s.1≤n) (fun s=>n-s.1) (0,none,0,fun r=>0*r) (Nat.zero_le _) fun s hs=>?_
 obtain⟨i,pp,pc,pb⟩:=s;have hi:i≤n:=hs;show H _ _ _ [(5,.int .i64 (i:Int)),_,_] f (row lb _ (lgN n _ pp i pc _)::slc pp i pc _ 1 (((List.range i).map pb).flatMap addrV)::fam (fun r=>pstH (pb r) PM.new) i::_::_::F) _
 by_cases hlt:i<n
 ·skip;refine qjs ?_;refine H.Ap rfl rfl rfl (pst_new f _) fun v f' A' hr=>?_;obtain⟨b,rfl,hff,rfl⟩:=hr;rw[hff];refine qjf fun eb=>?_;refine qfW fun p2 c2=>?_;refine qeW ?_;refine H.Ba (ls:=lgN n (some ⟨vb,0,none⟩) pp i pc (some ⟨cb,0,none⟩)) (ls':=lgN n (some ⟨vb,0,none⟩) p2 (i+1) c2 (some ⟨cb,0,none⟩)) rfl rfl rfl rfl aP0 jJ ?_;refine qje ?_;refine H.pf (x:=fam _ _) ?_;refine H.pf (x:=pstH b PM.new) ?_
  have e1:fam (fun r=>pstH (pb r) PM.new) i=fam (fun r=>pstH (updF pb i b r) PM.new) i:=fam_congr fun j hj=>by
   show _=pstH (updF pb i b j) PM.new;rw[zag _ _ jA]
  have e2:pstH b PM.new=pstH (updF pb i b i) PM.new:=by rw[zae]
  rw[e1,e2];refine H.conv (fam_more (fun r=>pstH (updF pb i b r) PM.new) i _) ?_;exact qba
 ·have e:i=n:=jA
  subst e;refine gc ?_;refine H.Bw (x:=slc pp _ pc _ _ _) jB fun g hg hd=>?_;have hl:((List.range i).map pb).length=i:=by rw[List.length_map,List.length_range]
  have hpa:ListAt (un f g) pp 1 addrV ((List.range i).map pb):=(zbh (xs:=(List.range i).map pb) (vals:=addrV) (c:=pc) (T:=153) (fun _=>rfl) (by rw[hl];exact hg)).mono (Le.right hd);refine qkG ?_
  refine H.pf (x:=row vb _ _) ?_;refine H.asSlc (k:=1) (sz:=4) rfl jC ?_;refine H.pf (x:=slc (some ⟨cb,0,none⟩) _ _ _ _ _) ?_;refine H.pf (x:=fam _ _) ?_;refine H.pf (x:=slc (some ⟨vb,0,none⟩) _ _ _ _ _) ?_;refine qew ?_;refine H.imp (A':=logsH (un f g) lb (Lgs.new i)::F) (fun z hz=>zai (l:=Lgs.new i) ⟨[vz],some ⟨vb,0,none⟩,1,pp,pc,some ⟨cb,0,none⟩,i,pb,fun _=>(none,0)⟩ ⟨rfl,fun x hx=>?_,hpa⟩ z ?_) ?_
  ·rw[List.mem_singleton.1 hx];exact ListAt.nil _ _
  ·have e:[vz].map VV.own=[emp]:=by
    show [slc none 0 0 _ 41 []]=[emp];rw[slc_emp]
   show star _ (star _ (stars (lst ([vz].map VV.own)::fam (fun r=>pstH (pb r) PM.new) i::slc (some ⟨cb,0,none⟩) i i _ 1 (chRow (Lgs.new i) fun _=>(none,0))::fam (chFam (Lgs.new i) fun _=>(none,0)) i::F))) z;rw[e,lst_emp1];show star _ (star _ (star _ (star _ (stars (fam (chFam (Lgs.new i) fun _=>(none,0)) i::F))))) z;rw[fam_emp (g:=chFam (Lgs.new i) fun _=>(none,0)) F fun j _=>slc_emp 197 2,←zeros_rng];exact hz
  ·exact qdJ
end
theorem zcd{x:PV}:∀h,stars (x.parts++A) h→stars (x.own::A) h:=fold_stars fun _ h=>h
variable {base:World} {L:Env} {K:Kont}
theorem H.ownOpen{P:Program}{x:PV}(k:H P base n L f (x.parts++A) K):H P base n L f (x.own::A) K:=
 H.unfold (p:=x.own) (B:=fun _:Unit=>x.parts) (fun _ hh=>⟨(),hh⟩) fun _=>k
theorem lst_one(x:HP)(A:List HP):stars (x::A)=stars (lst [x]::A):=by
 rw[←lst_moreA A (xs:=[]) (ys:=[x]) (List.Perm.refl _)];show star x (stars A)=star x (star emp (stars A));rw[zcl]
def pnC(n vb:Nat)(pp:Option Addr)(pl pc:Nat)(cp:Option Addr):List Value:=[.int .i64 (n:Int)]++(v11 fun _=>0)++[.map (some vb),.slice pp pl pc,.slice cp n n]
def pz(wb hb:Nat):PV:=⟨⟨0,0,[],[]⟩,wb,none,0,none,0,hb⟩
def vwC(num:Int)(s:Nat)(lp:Option Addr)(m lc:Nat)(np:Option Addr)(k nc hb:Nat):List Value:=[.int .u64 num,.int .i64 (s:Nat),.slice lp m lc,.slice np k nc,.map (some hb)]
def PlNewP(f:Frag)(F:List HP)(n:Nat):Value→Frag→List HP→Prop:=fun v f' A'=>∃(g:Frag) (lb:Nat),Dj f g∧v= .tuple #[.pointer (some ⟨lb,0,none⟩),.int .i64 0]∧f'=un f g∧A'=plogH f' lb (Lgs.new n)::F
variable {lp np:Option Addr} {lc nc hb:Nat} {R:List Req}
section
variable (f:Frag) (F:List HP)
theorem plfew_fn(z:Int):Fn prog 71 [.int .i64 z] f F (Ret (.bool (decide (fewZ z))) f F):=by
 by_cases h1:3≤z
 ·by_cases h2:z≤11
  ·skip;refine Fn.e1 func71 ntmps71 fun base=>?_;exact qcJ
  ·exact qdd
 ·exact qdd
theorem plnew_fn(h:fewZ (n:Int)):Fn prog 39 [.int .i64 (n:Int)] f F (PlNewP f F n):=by
 have hf:=fun G=>plfew_fn f G (n:Int);rw[decide_eq_true h]at hf
 have hn:n≤11:=by have:=h.2.1;omega
 refine Fn.e1 func39 ntmps39 fun base=>?_;refine gI ?_;refine H.cr (hf _) ?_;refine qhO ?_;refine gW ?_;refine H.makeMap keyU rfl rfl fun vb=>?_;refine H.makeMap encA rfl rfl fun hb=>?_;refine H.Ay (t:=162) (out:=vwC 0 0 none 0 0 none 0 0 hb) rfl rfl rfl jE rfl ?_;refine H.box (ls:=vwC 0 0 none 0 0 none 0 0 hb) rfl rfl rfl rfl fun wb=>?_;refine H.mapInsert (enc:=keyU) (k:=0) (m:=[]) rfl rfl rfl rfl jB rfl ?_;refine qjJ fun cb=>?_;refine H.Ay (t:=124) (out:=pnC n vb none 0 0 (some ⟨cb,0,none⟩)) rfl rfl rfl jE rfl ?_;refine H.box (ls:=pnC n vb none 0 0 (some ⟨cb,0,none⟩)) rfl rfl rfl rfl fun lb=>?_;refine gT ?_;refine H.slc0 131 1 ?_;refine H.conv (fam_zero (fun r=>pastH (0*r) PM.new) _).symm ?_;refine H.pf (x:=slc none 0 0 _ _ _) ?_;refine qew ?_
 refine H.lo (ι:=Nat×Option Addr×Nat×(Nat→Nat)) (fun s=>[(19,.int .i64 (s.1:Int)),(18,.int .i64 (n:Int)),(4,.pointer (some ⟨lb,0,none⟩))]) (fun _=>f)
  (fun s=>row lb 124 (pnC n vb s.2.1 s.1 s.2.2.1 (some ⟨cb,0,none⟩))::slc s.2.1 s.1 s.2.2.1 131 1 (((List.range s.1).map s.2.2.2).flatMap addrV)::fam (fun r=>pastH (s.2.2.2 r) PM.new) s.1::row cb 226 (zeros [.slice none 0 0] n)::row wb 162 (vwC 0 0 none 0 0 none 0 0 hb)::mp hb encA []::mp vb keyU [(0,.pointer (some ⟨wb,0,none⟩))]::F)
  (fun s=>s.1≤n) (fun s=>n-s.1) (0,none,0,fun r=>0*r) (Nat.zero_le _) fun s hs=>?_
 obtain⟨i,pp,pc,pb⟩:=s;have hi:i≤n:=hs;show H _ _ _ [(19,.int .i64 (i:Int)),_,_] f (row lb _ (pnC n vb pp i pc _)::slc pp i pc _ 1 (((List.range i).map pb).flatMap addrV)::fam (fun r=>pastH (pb r) PM.new) i::_::_::_::_::F) _
 by_cases hlt:i<n
 ·skip;refine qjs ?_;refine H.Ap rfl rfl rfl (new_fn f _) fun v f' A' hr=>?_;obtain⟨b,rfl,hff,rfl⟩:=hr;rw[hff];refine qjf fun eb=>?_;refine qfW fun p2 c2=>?_;refine qeW ?_;refine H.Ba (ls:=pnC n vb pp i pc (some ⟨cb,0,none⟩)) (ls':=pnC n vb p2 (i+1) c2 (some ⟨cb,0,none⟩)) rfl rfl rfl rfl aP0 jJ ?_;refine qje ?_;refine H.pf (x:=fam _ _) ?_;refine H.pf (x:=pastH b PM.new) ?_
  have e1:fam (fun r=>pastH (pb r) PM.new) i=fam (fun r=>pastH (updF pb i b r) PM.new) i:=fam_congr fun j hj=>by
   show _=pastH (updF pb i b j) PM.new;rw[zag _ _ jA]
  have e2:pastH b PM.new=pastH (updF pb i b i) PM.new:=by rw[zae]
  rw[e1,e2];refine H.conv (fam_more (fun r=>pastH (updF pb i b r) PM.new) i _) ?_;exact qba
 ·have e:i=n:=jA
  subst e;refine gc ?_;refine H.Bw (x:=slc pp _ pc _ _ _) jB fun g hg hd=>?_;have hl:((List.range i).map pb).length=i:=by rw[List.length_map,List.length_range]
  have hpa:ListAt (un f g) pp 1 addrV ((List.range i).map pb):=(zbh (xs:=(List.range i).map pb) (vals:=addrV) (c:=pc) (T:=131) (fun _=>rfl) (by rw[hl];exact hg)).mono (Le.right hd);refine qkG ?_
  refine H.pf (x:=mp hb _ _) ?_;refine H.slc0 35 1 ?_;refine H.slc0 49 40 ?_;refine qg ?_;refine H.imp (zcd (x:=pz wb hb)) ?_;refine H.conv (lst_one _ _) ?_;refine H.pf (x:=slc (some ⟨cb,0,none⟩) _ _ _ _ _) ?_;refine H.pf (x:=fam _ _) ?_;refine H.pf (x:=lst [(pz wb hb).own]) ?_;refine qkf ?_;refine H.imp (A':=plogH (un f g) lb (Lgs.new i)::F) (fun z hz=>zam (l:=Lgs.new i) ⟨[pz wb hb],vb,pp,pc,some ⟨cb,0,none⟩,i,pb,fun _=>(none,0)⟩ ⟨List.Perm.refl _,hpa⟩ z ?_) ?_
  ·show star _ (star _ (star _ (star _ (star _ (stars (fam (pcFam (Lgs.new i) fun _=>(none,0)) i::F)))))) z;rw[fam_emp (g:=pcFam (Lgs.new i) fun _=>(none,0)) F fun j _=>slc_emp 228 2,←zeros_rng];exact hz
  ·exact qdJ
theorem plprim_fn{kn:Nat→Int}(hn:1≤n∧n≤11)(hv:0≤v):Fn prog 129 [.pointer (some ⟨lb,0,none⟩),.int .u64 v] f (row lb 124 (plC n kn vb pp pc cp cc)::F) (Ret (.int .i64 (primZ n v)) f (row lb 124 (plC n kn vb pp pc cp cc)::F)):=by
 have h1:v % (n:Int)<n:=Int.emod_lt_of_pos v jA;have h2:0≤v % (n:Int):=Int.emod_nonneg v jA
 have e:v.tmod (n:Int)=((primI n v:Nat):Int):=qdW
 have hl:primI n v<11:=by unfold primI;omega
 refine Fn.e2 func129 ntmps129 fun base=>?_;refine gU ?_;exact qcS
theorem plpast_fn(hfl:Le fl f){i:PPt}(hi:plφ fl l i)(hn:l.n≤11)(ho:o<l.n){r:Int}(hr:r=((o+1:Nat):Int)):Fn prog 53 [.pointer (some ⟨lb,0,none⟩),.int .i64 r] f (row lb 124 (plC l.n l.known i.vb i.pp i.pc i.cp i.cc)::F) (Ret (.pointer (some ⟨i.pb o,0,none⟩)) f (row lb 124 (plC l.n l.known i.vb i.pp i.pc i.cp i.cc)::F)):=by
 obtain⟨pb,off,hpp,rd⟩:=hi.past jA;rw[hpp];have hr1:r-1=(o:Int):=jA
 refine Fn.e2 func53 ntmps53 fun base=>?_;refine gX ?_;refine H.Ak (i:=o) rfl rfl rfl hr1 ho rfl ?_;refine H.Ab rfl rfl rfl (by rw[Nat.mul_one];exact rd hfl ho) rfl ?_;refine gT ?_;exact qaj
def PutR(f:Frag)(F:List HP)(b:Nat)(num:Int)(s:Nat)(R:List Req)(np:Option Addr)(k nc hb:Nat):Value→Frag→List HP→Prop:=fun _ f' A'=>
 ∃(lp:Option Addr) (lc:Nat),f'=f∧A'=row b 162 (vwC num s lp R.length lc np k nc hb)::slc lp R.length lc 49 40 (R.flatMap Req.vals)::mp hb encA (heldKV R)::F
theorem vput_fn{num:Int}{s:Nat}{k:Nat}(hl:R.length≤100000)(r:Req):Fn prog 133 [.pointer (some ⟨b,0,none⟩),.agg r.vals.toArray] f (row b 162 (vwC num s lp R.length lc np k nc hb)::slc lp R.length lc 49 40 (R.flatMap Req.vals)::mp hb encA (heldKV R)::F)
   (PutR f F b num s (R++[r]) np k nc hb):=by
 refine Fn.e2 func133 ntmps133 fun base=>?_;refine qeM fun xb=>?_;refine gA ?_;refine qhw ?_;refine qfo ?_;refine qjw ?_;refine H.Aq (out:=r.vals) rfl rfl rfl rfl jC jC rfl rfl fun eb=>?_;refine gA ?_;refine H.pf (x:=row b _ _) ?_;refine qfm ?_;refine qeS ?_;refine HB.ev 7 ?_;refine H.Av (p:=lp) (n0:=R.length) (c:=lc) (xs:=R.flatMap Req.vals) (m:=1) (news:=r.vals) rfl rfl rfl rfl rfl (fun p' c'=>jB) (Src.slice (Rd.ofRow jB) rfl) (zaa rfl) rfl jA jA fun p2 c2=>?_;refine qeW ?_;refine H.Ba (ls:=vwC num s lp R.length lc np k nc hb) (ls':=vwC num s p2 (R.length+1) c2 np k nc hb) rfl rfl rfl rfl at1 jJ ?_;refine qjr ?_;refine qkR ?_;refine HB.qu [0,1,2,3,4,5,6,7,8] 1 ?_;refine gV ?_;refine qeA ?_;refine HB.ev 9 ?_;refine H.mapUpdate (enc:=encA) (k:=(r.client,r.time)) (v:=.bool true) rfl rfl rfl rfl jB rfl ?_;refine qeR ?_;skip;refine qgW ?_;have e1:(R++[r]).length=R.length+1:=by rw[lnA];rfl
 have e2:(R++[r]).flatMap Req.vals=R.flatMap Req.vals++r.vals:=by rw[List.flatMap_append];simp
 exact H.end0 rfl iD ⟨p2,c2,rfl,by rw[e1,e2,heldKV_snoc];rfl⟩
end
def lowN(P:List (Int×Req))(t:Int):Nat:=(P.filter fun y=>decide (y.1<t)).length
def RiseN(P:List (Int×Req)):Prop:=∀(i j:Nat) (y z:Int×Req),i<j→P[i]?=some y→P[j]?=some z→y.1<z.1
variable {P:List (Int × Req)}
theorem low_eq{t:Int}{k:Nat}(hk:k≤P.length)(h1:∀(j:Nat) (y:Int×Req),j<k→P[j]?=some y→y.1<t)(h2:∀(j:Nat) (y:Int×Req),k≤j→P[j]?=some y→t≤y.1):lowN P t=k:=by
 unfold lowN;conv=>lhs;rw[←List.take_append_drop k P]
 rw[List.filter_append,lnA]
 have e1:(P.take k).filter (fun y=>decide (y.1<t))=P.take k:=List.filter_eq_self.2 fun y hy=>by
  obtain⟨j,hj⟩:=List.getElem?_of_mem hy
  have hjk:j<k:=by
   have:=(List.getElem?_eq_some_iff.1 hj).1;exact qdA
  rw[List.getElem?_take_of_lt hjk]at hj;exact decide_eq_true (h1 j y hjk hj)
 have e2:(P.drop k).filter (fun y=>decide (y.1<t))=[]:=List.filter_eq_nil_iff.2 fun y hy=>by
  obtain⟨j,hj⟩:=List.getElem?_of_mem hy;rw[List.getElem?_drop]at hj
  have:=h2 (k+j) y jA hj;simp
  omega
 rw[e1,e2,List.length_take];show min k P.length+0=k;omega
theorem low_knows(hs:RiseN P)(t:Int):(P.filter fun y=>decide (y.1≤t)).length=lowN P t+(if P.any (fun y=>decide (y.1=t))=true then 1 else 0):=by
 induction P with
 |nil=>rfl
 | cons x P ih =>
  have hs2:RiseN P:=fun i j y z hij hy hz=>hs (i+1) (j+1) y z jA (by simpa using hy) (by simpa using hz)
  have hup:∀y∈P,x.1<y.1:=fun y hy=>by
   obtain⟨j,hj⟩:=List.getElem?_of_mem hy;exact hs 0 (j+1) x y jA rfl (by simpa using hj)
  have ih:=ih hs2;unfold lowN at ih⊢
  rw[List.filter_cons,List.filter_cons,List.any_cons];by_cases h1:x.1<t
  ·rw[if_pos (decide_eq_true jA),if_pos (decide_eq_true h1),decide_eq_false jA,Bool.false_or,List.length_cons,List.length_cons,ih];omega
  ·have e2:P.filter (fun y=>decide (y.1<t))=[]:=List.filter_eq_nil_iff.2 fun y hy=>by have:=hup y hy;simp;omega
   have e3:P.filter (fun y=>decide (y.1≤t))=[]:=List.filter_eq_nil_iff.2 fun y hy=>by have:=hup y hy;simp;omega
   have e4:P.any (fun y=>decide (y.1=t))=false:=List.any_eq_false.2 fun y hy=>by have:=hup y hy;simp;omega
   rw[e2,e3,e4,Bool.or_false,if_neg (show¬decide (x.1<t)=true by rw[decide_eq_false h1];decide)];by_cases h2:x.1=t
   ·rw[if_pos (decide_eq_true jA),decide_eq_true h2];rfl
   ·rw[if_neg (show¬decide (x.1≤t)=true by rw[decide_eq_false jA];decide),decide_eq_false h2];rfl
theorem shr1(m:Nat):shiftI .shr .u64 (m:Int) 1=some ((m / 2:Nat):Int):=by
 show some ((m:Int).fdiv 2)=some _;congr 1;rw[Int.fdiv_eq_ediv_of_nonneg _ jC];omega
theorem numV_len(y:Int×Req):(numV y).length=1:=rfl
variable {c:Nat}
theorem num_rd{T:TypeId}{i:Nat}{y:Int×Req}(h:At A (slc (some ⟨b,0,none⟩) P.length c T 1 (P.flatMap numV)) A' (slc (some ⟨b,0,none⟩) P.length c T 1 (P.flatMap numV)))(hy:P[i]?=some y):Rd1 f A b (0+i*1) (.int .u64 y.1):=by
 have h1:=Rd1.of (i:=0) (Rd.slcElem (f:=f) numV_len jC h hy) (v:=.int .u64 y.1) rfl;rw[Nat.add_zero]at h1
 rw[Nat.zero_add];exact h1
variable {p:Option Addr}
section
variable (f:Frag) (F:List HP)
theorem nan1_fn(x:Int):Fn prog 222 [.int .u64 x] f F (Ret (.bool false) f F):=by
 exact qdO
theorem nan2_fn(x:Int):Fn prog 218 [.int .u64 x] f F (Ret (.bool false) f F):=by
 refine Fn.e1 func218 ntmps218 fun base=>?_;exact qbG
theorem less64_fn(x y:Int):Fn prog 197 [.int .u64 x,.int .u64 y] f F (Ret (.bool (decide (x<y))) f F):=by
 refine Fn.e2 func197 ntmps197 fun base=>?_;refine gI ?_;refine H.Af rfl rfl rfl (nan1_fn f _ x) ?_;refine gg ?_;exact qaj
theorem bsearch_fn(hs:RiseN P)(hl:P.length≤100000)(t:Int):Fn prog 190 [.slice p P.length c,.int .u64 t] f (slc p P.length c 35 1 (P.flatMap numV)::F)
   (Ret (.tuple #[.int .i64 (lowN P t:Nat),.bool (P.any fun y=>decide (y.1=t))]) f (slc p P.length c 35 1 (P.flatMap numV)::F)):=by
 refine Fn.e2 func190 ntmps190 fun base=>?_;refine gT ?_
 refine H.lo (ι:=Nat×Nat) (fun s=>[(7,.int .i64 (s.1:Int)),(8,.int .i64 (s.2:Int)),(6,.int .i64 (P.length:Nat)),(0,.slice p P.length c),(1,.int .u64 t)]) (fun _=>f)
  (fun _=>slc p P.length c 35 1 (P.flatMap numV)::F)
  (fun s=>s.1≤s.2∧s.2≤P.length∧(∀(j:Nat) (y:Int×Req),j<s.1→P[j]?=some y→y.1<t)∧∀(j:Nat) (y:Int×Req),s.2≤j→P[j]?=some y→t≤y.1) (fun s=>s.2-s.1)
  (0,P.length) ⟨Nat.zero_le _,Nat.le_refl _,fun j y h=>absurd h (Nat.not_lt_zero _),fun j y h hy=>by have:=(List.getElem?_eq_some_iff.1 hy).1;have h:P.length≤j:=h;omega⟩ fun s hs2=>?_
 obtain⟨i,j⟩:=s;obtain⟨hij,hjl,hlo,hhi⟩:i≤j∧j≤P.length∧(∀(k:Nat) (y:Int×Req),k<i→P[k]?=some y→y.1<t)∧∀(k:Nat) (y:Int×Req),j≤k→P[k]?=some y→t≤y.1:=hs2;show H _ _ _ [(7,.int .i64 (i:Int)),(8,.int .i64 (j:Int)),_,_,_] _ _ _;by_cases hlt:i<j
 ·obtain⟨h,hh⟩:∃h,h=(i+j) / 2:=⟨_,rfl⟩;have hhl:h<P.length:=jA
  obtain⟨y,hy⟩:∃y,P[h]?=some y:=⟨_,lgE hhl⟩;refine H.Au (p:=p) (n0:=P.length) (c:=c) aP0 jA fun sb hp=>?_;subst hp;refine gc ?_;refine H.Bo (op:=.shr) rfl rfl rfl (shr1 (i+j)) jC (congrArg Nat.cast hh.symm) rfl ?_;refine gW ?_;refine H.Ak (i:=h) rfl rfl rfl rfl hhl rfl ?_;refine H.Ab rfl rfl rfl (num_rd aP0 hy) rfl ?_;refine gI ?_;refine H.Af rfl rfl rfl (less64_fn f _ _ _) ?_;by_cases hyt:y.1<t
  ·skip;refine gc ?_
   exact H.Ar (h+1,j) ⟨by show h+1≤j;omega,hjl,fun k z hk hz=>by
    have hk:k<h+1:=hk;by_cases e:k=h
    ·rw[e,hy]at hz;cases hz;exact hyt
    ·have:=hs k h z y jA hz hy;omega,hhi⟩ (by show j-(h+1)<j-i;omega) ⟨rfl,rfl,rfl,rfl,rfl,trivial⟩ rfl rfl
  ·skip;refine gc ?_
   exact H.Ar (i,h) ⟨by show i≤h;omega,by show h≤P.length;omega,hlo,fun k z hk hz=>by
    have hk:h≤k:=hk;by_cases e:k=h
    ·rw[e,hy]at hz;cases hz;omega
    ·have:=hs h k y z jA hy hz;omega⟩ (by show h-i<j-i;omega) ⟨rfl,rfl,rfl,rfl,rfl,trivial⟩ rfl rfl
 ·have hij2:i=j:=jA
  have hlow:lowN P t=i:=low_eq jA hlo (fun k y h=>hhi k y jA);rw[hlow]
  by_cases hin:i<P.length
  ·obtain⟨y,hy⟩:∃y,P[i]?=some y:=⟨_,lgE hin⟩;refine H.Au (p:=p) (n0:=P.length) (c:=c) aP0 jA fun sb hp=>?_;subst hp;by_cases hyt:y.1=t
   ·have hany:P.any (fun y=>decide (y.1=t))=true:=List.any_eq_true.2 ⟨y,List.mem_of_getElem? hy,decide_eq_true hyt⟩;rw[hany]
    refine gS ?_;refine qhy ?_;refine gS ?_;exact qaV
   ·have hany:P.any (fun y=>decide (y.1=t))=false:=List.any_eq_false.2 fun z hz=>by
     obtain⟨k,hk⟩:=List.getElem?_of_mem hz;rw[decide_eq_true_eq];intro e;rcases Nat.lt_trichotomy k i with h|h|h
     ·have:=hlo k z h hk;omega
     ·rw[h,hy]at hk;cases hk;exact hyt e
     ·have h1:=hs i k y z h hy hk;have h2:=hhi i y jA hy
      omega
    rw[hany];refine gS ?_;refine qhy ?_;refine gg ?_;refine qhy ?_;refine H.Af rfl rfl rfl (nan2_fn f _ _) ?_;refine gS ?_;exact qaV
  ·have hany:P.any (fun y=>decide (y.1=t))=false:=List.any_eq_false.2 fun z hz=>by
    obtain⟨k,hk⟩:=List.getElem?_of_mem hz;rw[decide_eq_true_eq];intro e
    have:=(List.getElem?_eq_some_iff.1 hk).1
    have:=hlo k z jA hk;omega
   rw[hany];refine gg ?_;exact qaV
theorem until_fn(hs:RiseN w.p)(hl:w.all.length≤100000)(t:Int):Fn prog 137 [.pointer (some ⟨b,0,none⟩),.int .u64 t] f (slc np w.p.length nc 35 1 (w.p.flatMap numV)::row b 162 (vwC w.num w.s.length lp w.all.length lc np w.p.length nc hb)::F)
   (Ret (.int .i64 (knowsV w t:Nat)) f (slc np w.p.length nc 35 1 (w.p.flatMap numV)::row b 162 (vwC w.num w.s.length lp w.all.length lc np w.p.length nc hb)::F)):=by
 have hal:=w.all_len;have hk:=low_knows hs t
 have hkl:knowsV w t=w.s.length+(lowN w.p t+(if w.p.any (fun y=>decide (y.1=t))=true then 1 else 0)):=by unfold knowsV;rw[hk]
 have hlow:lowN w.p t≤w.p.length:=List.length_filter_le _ _;have hbs:=fun G=>bsearch_fn f G (p:=np) (c:=nc) hs jA t
 rw[hkl];generalize lowN w.p t=k at *
 cases ha:w.p.any fun y=>decide (y.1=t)with
 | true =>
  rw[ha]at hbs;rw[if_pos rfl];exact qbP
 | false =>
  rw[ha]at hbs;rw[if_neg jC];exact qbP
theorem bequal_fn{r:Option Addr}{d:Nat}{a b:List UInt8}(ha:Src prog f F (.slice p a.length c) 1 a.length (bytesV a))(hb:Src prog f F (.slice r b.length d) 1 b.length (bytesV b))(hpa:p=none→a=[])(hrb:r=none→b=[]):Fn prog 73 [.slice p a.length c,.slice r b.length d] f F (Ret (.bool (decide (a=b))) f F):=by
 have e2:((⟨a.toArray⟩:ByteArray).toList == (⟨b.toArray⟩:ByteArray).toList)=decide (a=b):=by
  rw[ByteArray.toList_eq,ByteArray.toList_eq,Bool.eq_iff_iff,beq_iff_eq,decide_eq_true_eq]
 refine Fn.e2 func73 ntmps73 fun base=>?_;refine gI ?_;refine H.convBS rfl rfl ha hpa rfl ?_;refine gI ?_;refine H.convBS rfl rfl hb hrb rfl ?_;refine H.streq rfl rfl rfl rfl e2 rfl ?_;refine gT ?_;exact qaj
end
theorem H.slc_none{P:Program}{m:Nat}{T:TypeId}{xs:List Value}(h:At A (slc p m c T sz xs) A' (slc p m c T sz xs))(k:(p=none→m=0)→H P base n L f A K):H P base n L f A K:=.mk fun a w hf s=>by
 obtain⟨h1,h2,h3⟩:=s.slc_at h
 refine(k ?_).out a w hf s
 intro hp
 rcases h3 with⟨h0,_⟩|⟨b,sp,hb,_⟩
 ·exact h0
 ·rw[hp]at hb;cases hb
section
variable (f:Frag) (F:List HP)
theorem tclient_fn(htab:TabAt f){i:Int}(h1:1≤i)(h2:i≤8):Fn prog 217 [.int .i64 i] f F (BytesR (Sha.word32 clientW i) f F):=by
 refine Fn.e1 func217 ntmps217 fun base=>?_;refine gI ?_;refine H.Am rfl rfl rfl (tkey_fn (w:=⟨#[114,97,116,99,104,101,116,32,99,108,105,101,110,116]⟩) f _ htab h1 h2 jC jC) fun p1 c1=>?_;exact qbc
theorem sign_fn(htab:TabAt f){r:Req}(ha:r.asked):Fn prog 188 [.agg r.vals.toArray] f F (Ret (.agg (b32 r.sig).toArray) f F):=by
 have hbl:=Req.bytes_max ha;have hcl:=fun G=>tclient_fn f G htab ha.1 ha.2.1
 have hrq:=fun G p c=>request_fn f G (p:=p) (c:=c) (l:=[]) r ha jC;have hk:(Sha.word32 clientW r.client).length=32:=rfl
 unfold Req.sig;generalize Sha.word32 clientW r.client=key at hk hcl⊢;rw[show([]:List UInt8)++r.bytes=r.bytes from rfl]at hrq;generalize r.bytes=rb at hbl hrq⊢;refine Fn.e1 func188 ntmps188 fun base=>?_;refine qeM fun qb=>?_;refine qgB fun ob=>?_;refine gA ?_;refine qeC ?_;refine qeJ ?_;refine HB.qu [0,1,3] 4 ?_;refine gP ?_;refine qfo ?_;refine qeo ?_;refine HB.ev 2 ?_;refine H.Am rfl rfl rfl (hcl _) fun p1 c1=>?_;refine qfv ?_;refine HB.ev 4 ?_;refine H.slc0 5 1 ?_;refine H.Am rfl rfl rfl (hrq _ none 0) fun p2 c2=>?_;refine qjH fun hc2 _ _=>?_;refine gA ?_;refine qj ?_;refine qeS ?_;refine HB.ev 5 ?_;refine qky ?_;refine H.pf (x:=slc p1 _ _ _ _ _) ?_;refine H.Af rfl rfl rfl (thmac_ss f _ htab (key:=key) (b:=rb) hc2 jA jA) ?_;generalize Sha.hmac key rb=t;refine qjj ?_;refine qeg ?_;refine HB.ev 6 ?_;refine H.Ag (ls:=zb 32) (vs:=b32 t) (ls':=b32 t) rfl rfl rfl (zaa rfl) rfl rfl (Nat.le_refl 32) at1 ?_;refine qeR ?_;refine qiY ?_;exact qbI
theorem auth_fn(htab:TabAt f)(r:Req):Fn prog 134 [.agg r.vals.toArray] f F (Ret (.bool r.auth) f F):=by
 have has:=fun G=>asked_fn f G r;unfold Req.auth
 by_cases ha:r.asked
 ·have hsg:=fun G=>sign_fn f G htab ha;have hsm:=fun G=>tsame_fn f G (a:=r.tag) (b:=r.sig)
  rw[decide_eq_true ha,Bool.true_and];rw[decide_eq_true ha]at has;generalize eq32 r.tag r.sig=e at hsm⊢;generalize r.sig=t at hsg hsm;refine Fn.e1 func134 ntmps134 fun base=>?_;refine qeM fun qb=>?_;refine qik ?_;refine HB.qu [0] 9 ?_;refine qh ?_;refine HB.qu [2,3,4,5] 4 ?_;refine gP ?_;refine HQ.Ad (ls:=b32 r.tag) rfl rfl rfl (req_tag aP0) rfl rfl ?_;refine qfo ?_;refine qjw ?_;refine H.cr (hsg _) ?_;refine qeg ?_;refine HB.ev 7 ?_;refine H.cr (hsm _) ?_;refine gA ?_;exact qdY
 ·rw[decide_eq_false ha,Bool.false_and];rw[decide_eq_false ha]at has;refine Fn.e1 func134 ntmps134 fun base=>?_;refine qeM fun qb=>?_;refine qik ?_;refine HB.qu [0] 9 ?_;refine qh ?_;refine HB.qu [2,3,4,5] 4 ?_;refine qhY ?_;refine HB.ev 6 ?_;refine qgH ?_;refine HB.ev 7 ?_;refine gC ?_;exact qdY
end
theorem past_updF(pb:Nat→Nat)(past:Nat→PM)(r:Nat)(s:PM):updF (fun j=>pastH (pb j) (past j)) r (pastH (pb r) s)=fun j=>pastH (pb j) (updF past r s j):=by
 funext j;unfold updF;by_cases h:j=r
 ·subst h;rw[if_pos rfl,if_pos rfl]
 ·rw[if_neg h,if_neg h]
theorem ent_set{X Y:PV}(hX:V[j]?=some X)(h1:Y.w.v=X.w.v)(h2:Y.b=X.b):(V.set j Y).map PV.ent=V.map PV.ent:=by
 rw[List.map_set];refine set_self ?_;rw[List.getElem?_map,hX];show some X.ent=some Y.ent;unfold PV.ent;rw[h1,h2]
theorem msg_req{mb:Nat}{T:TypeId}(h:At A (row mb T (m.vals q qc)) A' (row mb T (m.vals q qc))):Rd f A mb (0+13+3) m.body.req.vals:=by
 have h1:=msg_body (f:=f) h;have e:m.body.vals q qc=[.int .u8 (m.body.kind.toNat:Nat),.int .u64 m.body.view,.int .u64 m.body.k]++m.body.req.vals++([.slice q m.body.q.length qc]++b32 m.body.dig):=by unfold Bod.vals;simp only[List.append_assoc]
 exact qbF
theorem Vw.put_all(w:Vw)(y:Int×Req):({w with p:=w.p++[y]}:Vw).all=w.all++[y.2]:=by
 unfold Vw.all;show w.s++(w.p++[y]).map Prod.snd=w.s++w.p.map Prod.snd++[y.2];rw[List.map_append,List.append_assoc];rfl
section
variable (f:Frag) (F:List HP)
theorem plprep_fn(htab:TabAt f)(hfl:Le fl f)(hL:LI l T)(hT:T≤50000)(hm:MIn l.n x.m)(hk:x.m.body.kind=1){i:PPt}(hi:plφ fl l i)(hre:r=orgI x.m):Fn prog 93 [.pointer (some ⟨lb,0,none⟩),.agg x.vals.toArray,.pointer (some ⟨i.pb r,0,none⟩)] f (plB lb l i++F) (Ret (.bool (l.counts x.m).1) f (plogH f lb (l.counts x.m).2::F)):=by
 have hiF:=hi.mono hfl;have hn:=hL.n3
 have hor:=hm.o;have hr:r<l.n:=by rw[hre];unfold orgI;omega
 have hwf:=hL.wf r hr;have hil:=hL.il r hr
 have hvl:=hL.vl;have hv0:=hm.v
 have hvs:=hi.vs;obtain⟨V,vb,pp,pc,cp,cc,pb,cs⟩:=i
 have hvs:(V.map PV.w).Perm l.vs:=hvs;have hprim:=fun G=>plprim_fn f G (lb:=lb) (n:=l.n) (kn:=l.known) (vb:=vb) (pp:=pp) (pc:=pc) (cp:=cp) (cc:=cc) jA hv0
 refine qen ?_
 cases hat:vwAt l.vs x.m.body.view with
 | none =>
  rw[Lgs.counts_1n hk hat];have hget:(getKV (V.map PV.ent) x.m.body.view).getD (.pointer none)= .pointer none:=by rw[view_none hvs hat];rfl
  by_cases hp:primZ l.n x.m.body.view=x.m.origin
  ·exact qaf
  ·exact qaf
 | some iv =>
  obtain⟨⟨w,hw,hwv⟩,_⟩:=zaq.1 hat;obtain⟨j,X,hX,hXw,hgetX⟩:=view_some hvs hL.rise hat hw;have hget:(getKV (V.map PV.ent) x.m.body.view).getD (.pointer none)= .pointer (some ⟨X.b,0,none⟩):=by rw[hgetX];rfl
  rw[Lgs.counts_1 hk hat hw,←hre];subst hXw;have hXl:=hL.al X.w (List.mem_of_getElem? hw);have hXa:=X.w.all_len
  by_cases hp:primZ l.n x.m.body.view=x.m.origin
  ·have hau:=fun G=>auth_fn f G htab x.m.body.req
   cases ha:x.m.body.req.auth with
   | false =>
    rw[if_pos (.inr (.inl rfl))];rw[ha]at hau;refine Fn.e3 func93 ntmps93 fun base=>?_;refine qem fun mb=>?_;refine qeQ fun qb=>?_;refine qev ?_;refine H.Ci (x:=X.own) (i:=j) jH ?_;refine qgw ?_;refine gA ?_;exact qbH
   | true =>
    rw[ha]at hau
    have hheld:(getKV (heldKV X.w.all) (x.m.body.req.client,x.m.body.req.time)).getD (.bool false)= .bool (holdsB X.w.all x.m.body.req.client x.m.body.req.time):=by
     rw[held_get];cases holdsB X.w.all x.m.body.req.client x.m.body.req.time<;>rfl
    cases hh:holdsB X.w.all x.m.body.req.client x.m.body.req.time with
    | true =>
     rw[hh]at hheld;rw[if_pos (.inr (.inr (.inl rfl)))];refine Fn.e3 func93 ntmps93 fun base=>?_;refine qem fun mb=>?_;refine qeQ fun qb=>?_;refine qev ?_;refine H.Ci (x:=X.own) (i:=j) jH ?_;refine qeX ?_;refine gC ?_;exact qak
    | false =>
     rw[hh]at hheld;have hpr:=fun G=>prepare_fn f G (pb r) (l.past r) (hwf.mono (B':=60000) jA) jC jA x.m.body.view;refine Fn.e3 func93 ntmps93 fun base=>?_
     refine qem fun mb=>?_;refine qeQ fun qb=>?_;refine qev ?_;refine H.Ci (x:=X.own) (i:=j) jH ?_;refine qeX ?_;refine qkk ?_;refine H.cr (hpr _) ?_
     cases hop:(l.past r).isOpen x.m.body.view with
     | false =>
      rw[if_pos (.inr (.inr (.inr rfl)))];rw[show(l.past r).prepare x.m.body.view=l.past r by unfold PM.prepare;rw[hop];rfl];refine qjh ?_;refine gA ?_;refine qgy ?_;refine qj ?_;exact qak
     | true =>
      rw[if_neg (by rintro(h|h|h|h)<;>first|exact of_decide_eq_false h hp|cases h)];refine qhB ?_;rw[past_updF];refine gA ?_;refine qgy ?_;refine qj ?_;refine qeS ?_;refine HB.qu [31,32] 0 ?_;refine qfh ?_;refine gW ?_;refine H.Ad (ls:=x.m.body.req.vals) rfl rfl rfl (Rd.ofRow aP0) rfl rfl ?_;refine H.pf (x:=mp X.hb _ _) ?_;refine H.pf (x:=slc X.lp _ X.lc _ _ _) ?_;refine qic ?_;refine H.Ap rfl rfl rfl (vput_fn f _ jA x.m.body.req) fun v f' A' hR=>?_;obtain⟨lp2,lc2,hff,rfl⟩:=hR;rw[hff];have hput:=X.w.put_all (x.m.number,x.m.body.req);show H _ _ _ _ _ (row X.b _ (vwC X.w.num X.w.s.length lp2 (X.w.all++[x.m.body.req]).length lc2 X.np X.w.p.length X.nc X.hb)::slc lp2 (X.w.all++[x.m.body.req]).length lc2 _ 40 ((X.w.all++[x.m.body.req]).flatMap Req.vals)::mp X.hb encA (heldKV (X.w.all++[x.m.body.req]))::_) _
      rw[←hput];clear hput;refine gA ?_;refine qic ?_;refine qeu ?_;refine qkR ?_;refine HB.qu [0,1,2,3,4,5,6] 5 ?_;refine qfw ?_;refine HB.ev 7 ?_;refine H.Aq (out:=numV (x.m.number,x.m.body.req)) rfl rfl rfl rfl jC jC rfl rfl fun eb=>?_;refine gA ?_;refine qic ?_;refine qiW ?_;refine HB.ev 8 ?_;refine H.Av (sz:=1) (p:=X.np) (n0:=X.w.p.length) (c:=X.nc) (xs:=X.w.p.flatMap numV) (m:=1) (news:=numV (x.m.number,x.m.body.req)) rfl rfl rfl rfl rfl (fun p' c'=>jB) (Src.slice (Rd.ofRow jB) rfl) (zaa rfl) rfl jA jA fun np2 nc2=>?_;refine qkL ?_;refine qgV ?_;refine HB.qu [9,10] 1 ?_;refine qfw ?_;refine HB.ev 11 ?_;refine H.Ba (ls:=vwC X.w.num X.w.s.length lp2 ({X.w with p:=X.w.p++[(x.m.number,x.m.body.req)]}:Vw).all.length lc2 X.np X.w.p.length X.nc X.hb) (ls':=vwC X.w.num X.w.s.length lp2 ({X.w with p:=X.w.p++[(x.m.number,x.m.body.req)]}:Vw).all.length lc2 np2 (X.w.p.length+1) nc2 X.hb) rfl rfl rfl rfl at1 jJ ?_;refine qeR ?_;refine gT ?_;have e1:X.w.p.length+1=(X.w.p++[(x.m.number,x.m.body.req)]).length:=by rw[lnA];rfl
      have e2:X.w.p.flatMap numV++numV (x.m.number,x.m.body.req)=(X.w.p++[(x.m.number,x.m.body.req)]).flatMap numV:=by rw[List.flatMap_append];rfl
      rw[e1,e2];refine H.pf (x:=mp X.hb _ _) ?_;refine H.pf (x:=slc np2 _ nc2 _ _ _) ?_;refine H.pf (x:=slc lp2 _ lc2 _ _ _) ?_;refine qic ?_;refine H.imp (zcd (x:=⟨{X.w with p:=X.w.p++[(x.m.number,x.m.body.req)]},X.b,lp2,lc2,np2,nc2,X.hb⟩)) ?_;obtain⟨Y,hY⟩:∃Y:PV,Y=⟨{X.w with p:=X.w.p++[(x.m.number,x.m.body.req)]},X.b,lp2,lc2,np2,nc2,X.hb⟩:=⟨_,rfl⟩;rw[←hY];refine H.pf (x:=lst ((V.map PV.own).set j emp)) ?_;refine H.pf (x:=Y.own) ?_;refine H.lstPut (x0:=X.own) jH ?_;rw[←List.map_set,←ent_set (Y:=Y) hX (by rw[hY]) (by rw[hY])];have hVw:(V.map PV.w)[j]?=some X.w:=by rw[List.getElem?_map,hX];rfl
      have hperm:((V.set j Y).map PV.w).Perm (l.vs.set iv {X.w with p:=X.w.p++[(x.m.number,x.m.body.req)]}):=by
       rw[List.map_set,show Y.w= {X.w with p:=X.w.p++[(x.m.number,x.m.body.req)]} by rw[hY]];exact perm_set hvs hVw hw
      refine qeH ?_;refine H.pd (x:=row qb _ _) ?_;refine qeO ?_;refine H.pf (x:=lst ((V.set j Y).map PV.own)) ?_;refine qkf ?_;refine H.imp (zam (l:={l with past:=updF l.past r ((l.past r).prepare x.m.body.view),vs:=l.vs.set iv {X.w with p:=X.w.p++[(x.m.number,x.m.body.req)]} }) ⟨V.set j Y,vb,pp,pc,cp,cc,pb,cs⟩ ⟨hperm,hiF.p⟩) ?_;exact qaj
  ·rw[if_pos (.inl (decide_eq_false hp))];refine Fn.e3 func93 ntmps93 fun base=>?_;refine qem fun mb=>?_;refine qeQ fun qb=>?_;refine qev ?_;refine H.Ci (x:=X.own) (i:=j) jH ?_;refine qkm ?_;refine qhf ?_;refine gC ?_;exact qbH
theorem plcommit_fn(hfl:Le fl f)(hL:LI l T)(hT:T≤50000)(hok:x.m.body.Ok)(hm:MIn l.n x.m)(hk:x.m.body.kind=2)(hR:∀w∈l.vs,RiseN w.p){i:PPt}(hi:plφ fl l i)(hre:r=orgI x.m):Fn prog 94 [.pointer (some ⟨lb,0,none⟩),.agg x.vals.toArray,.pointer (some ⟨i.pb r,0,none⟩)] f (plB lb l i++F) (Ret (.bool (l.counts x.m).1) f (plogH f lb (l.counts x.m).2::F)):=by
 have hiF:=hi.mono hfl;have hn:=hL.n3
 have hor:=hm.o;have hr:r<l.n:=by rw[hre];unfold orgI;omega
 have hwf:=hL.wf r hr;have hil:=hL.il r hr
 have hvl:=hL.vl;have hv0:=hm.v
 have hvs:=hi.vs;obtain⟨V,vb,pp,pc,cp,cc,pb,cs⟩:=i
 have hvs:(V.map PV.w).Perm l.vs:=hvs;have hprim:=fun G=>plprim_fn f G (lb:=lb) (n:=l.n) (kn:=l.known) (vb:=vb) (pp:=pp) (pc:=pc) (cp:=cp) (cc:=cc) jA hv0
 have hpl:primI l.n x.m.body.view<11:=qcU
 have hpz:primZ l.n x.m.body.view-1=(primI l.n x.m.body.view:Nat):=by unfold primZ;omega
 refine qen ?_
 cases hat:vwAt l.vs x.m.body.view with
 | none =>
  rw[Lgs.counts_2n hk hat];have hget:(getKV (V.map PV.ent) x.m.body.view).getD (.pointer none)= .pointer none:=by rw[view_none hvs hat];rfl
  by_cases hp:primZ l.n x.m.body.view=x.m.origin
  ·skip;exact qam
  ·skip;exact qam
 | some iv =>
  obtain⟨⟨w,hw,hwv⟩,_⟩:=zaq.1 hat;obtain⟨j,X,hX,hXw,hgetX⟩:=view_some hvs hL.rise hat hw;have hget:(getKV (V.map PV.ent) x.m.body.view).getD (.pointer none)= .pointer (some ⟨X.b,0,none⟩):=by rw[hgetX];rfl
  rw[Lgs.counts_2 hk hat hw,←hre];subst hXw;have hXl:=hL.al X.w (List.mem_of_getElem? hw);have hXa:=X.w.all_len
  have hXr:=hR X.w (List.mem_of_getElem? hw);by_cases hp:primZ l.n x.m.body.view=x.m.origin
  ·rw[decide_eq_true hp,if_pos rfl];exact qam
  ·rw[decide_eq_false hp,if_neg jC];have hkn:=knowsV_le X.w (x.m.deps (primI l.n x.m.body.view));have hun:=fun G=>until_fn f G (b:=X.b) (hb:=X.hb) (w:=X.w) (lp:=X.lp) (lc:=X.lc) (np:=X.np) (nc:=X.nc) hXr jA (x.m.deps (primI l.n x.m.body.view))
   have hvd:(v11 x.m.deps)[primI l.n x.m.body.view]?=some (.int .u64 (x.m.deps (primI l.n x.m.body.view))):=zau _ hpl;generalize hmo:(knowsV X.w (x.m.deps (primI l.n x.m.body.view)):Nat)=most at *
   have hcm:=fun G=>commit_fn f G (pb r) (l.past r) (hwf.mono (B':=60000) jA) jC jA x.m.body.view x.m.body.k (most:Int) hok.2.1 jA;refine Fn.e3 func94 ntmps94 fun base=>?_
   refine qem fun mb=>?_;refine qfx ?_;refine qew ?_;refine H.cr (hprim _) ?_;refine gI ?_;refine qeu ?_;refine qeJ ?_;refine HB.qu [0,1,2,3,4,5,6,7,8,9,10,11,12,13,14,15,16,17,18,19] 4 ?_;refine gZ ?_;refine HQ.Al (i:=primI l.n x.m.body.view) rfl rfl rfl hpz hpl rfl ?_;refine HQ.Ab rfl rfl rfl (by rw[Nat.mul_one];exact Rd1.of (zaz (m:=x.m) (q:=x.qp) (qc:=x.qc) aP0) hvd) rfl ?_;skip;refine qeo ?_;refine HB.ev 20 ?_;refine qhV ?_;refine H.Ci (x:=X.own) (i:=j) jH ?_;refine H.ownOpen ?_;refine qex ?_;refine H.pf (x:=slc X.np _ X.nc _ _ _) ?_;refine H.cr (hun _) ?_;refine qeD ?_;refine H.Cl jH ?_;refine qfM ?_;refine HB.ev 21 ?_;refine qkk ?_;refine H.cr (hcm _) ?_;refine qhB ?_;rw[past_updF];refine qfM ?_;refine HB.qu [22,23] 0 ?_;refine qkM ?_;exact qaU
theorem Lgs.begins_kn(l:Lgs)(k:Nat→Int)(m:Msg):({l with known:=k}:Lgs).begins m=((l.begins m).1,{(l.begins m).2 with known:=k}):=by
 unfold Lgs.begins;by_cases h1:m.body.q.length≠(l.n-1) / 2+1
 ·rw[if_pos h1,if_pos h1]
 ·rw[if_neg h1,if_neg h1];by_cases h2:(m.body.q.all fun q=>decide (q.2≤m.deps (q.1-1).toNat)&&chB l q m.body.view)=false
  ·rw[if_pos h2];rw[if_pos (show(m.body.q.all fun q=>decide (q.2≤m.deps (q.1-1).toNat)&&chB {l with known:=k} q m.body.view)=false from h2)]
  ·rw[if_neg h2];rw[if_neg (show¬(m.body.q.all fun q=>decide (q.2≤m.deps (q.1-1).toNat)&&chB {l with known:=k} q m.body.view)=false from h2)];show(if(l.past (orgI m)).enterOk m.body.view (bestQ l.past m.body.view m.body.q (0,0)).2=false then _ else _)=_;split<;>rfl
theorem Lgs.counts_kn(l:Lgs)(k:Nat→Int)(m:Msg):({l with known:=k}:Lgs).counts m=((l.counts m).1,{(l.counts m).2 with known:=k}):=by
 by_cases h3:m.body.kind=3
 ·rw[Lgs.counts_3 h3,Lgs.counts_3 h3];show(if(l.past (orgI m)).changeOk m.body.view=true then _ else _)=_;split<;>rfl
 ·by_cases h4 : m.body.kind = 4
  ·rw[Lgs.counts_4 h4,Lgs.counts_4 h4,Lgs.begins_kn];exact qcX
  ·by_cases h5 : m.body.kind = 5
   ·cases hat:vwAt l.vs m.body.view with
    |none=>rw[Lgs.counts_5n (l:={l with known:=k}) h5 hat,Lgs.counts_5n h5 hat]
    | some i =>
     obtain⟨⟨w,hw,_⟩,_⟩:=zaq.1 hat;rw[Lgs.counts_5 (l:={l with known:=k}) h5 hat hw,Lgs.counts_5 h5 hat hw];show(if m.deps (primI l.n m.body.view)<w.num then _ else _)=_;split<;>rfl
   ·by_cases h1 : m.body.kind = 1
    ·cases hat:vwAt l.vs m.body.view with
     |none=>rw[Lgs.counts_1n (l:={l with known:=k}) h1 hat,Lgs.counts_1n h1 hat]
     | some i =>
      obtain⟨⟨w,hw,_⟩,_⟩:=zaq.1 hat;rw[Lgs.counts_1 (l:={l with known:=k}) h1 hat hw,Lgs.counts_1 h1 hat hw];show(if decide (primZ l.n m.body.view=m.origin)=false∨m.body.req.auth=false∨holdsB w.all m.body.req.client m.body.req.time=true∨(l.past (orgI m)).isOpen m.body.view=false then _ else _)=_;split<;>rfl
    ·by_cases h2 : m.body.kind = 2
     ·cases hat:vwAt l.vs m.body.view with
      |none=>rw[Lgs.counts_2n (l:={l with known:=k}) h2 hat,Lgs.counts_2n h2 hat]
      | some i =>
       obtain⟨⟨w,hw,_⟩,_⟩:=zaq.1 hat;rw[Lgs.counts_2 (l:={l with known:=k}) h2 hat hw,Lgs.counts_2 h2 hat hw];exact qcX
     ·rw[Lgs.counts_x h3 h4 h5 h1 h2,Lgs.counts_x h3 h4 h5 h1 h2]
theorem plC_set(n:Nat)(kn:Nat→Int)(vb:Nat)(pp:Option Addr)(pc:Nat)(cp:Option Addr)(cc:Nat)(z:Int)(h:o<11):SetV (plC n kn vb pp pc cp cc) (0+1+o*1) (.int .u64 z) (plC n (updF kn o z) vb pp pc cp cc):=by
 have h1:=(v11_upd kn z h).mid [.int .i64 (n:Int)] [.map (some vb),.slice pp n pc,.slice cp n cc];rw[Nat.mul_one]
 exact h1
def Lgs.more(l:Lgs)(m:Msg):Lgs:={l with known:=updF l.known (orgI m) (l.known (orgI m)+1)}
theorem pltk1_fn{lv:Nat}{kn:Nat→Int}(x:Int×Int):Fn prog 51 ([]++[.agg (pairV x).toArray]++[.pointer (some ⟨lv,0,none⟩)]) f (row lv 80 [.pointer (some ⟨lb,0,none⟩)]::row lb 124 (plC n kn vb pp pc cp cc)::F)
  (Ret (.bool (decide ((n:Int)<x.1))) f (row lv 80 [.pointer (some ⟨lb,0,none⟩)]::row lb 124 (plC n kn vb pp pc cp cc)::F)):=by
 refine Fn.e2 func51 ntmps51 fun base=>?_;exact qcg
theorem pltake_fn(hfl:Le fl f)(hL:LI l T)(hT:T≤40000)(hx:x.Good f){fid:FuncId}[Fun prog fid]
  (hB:∀G,Fn prog 52 [.int .u8 (x.m.body.kind.toNat:Nat)] f G (Ret (.func (.func fid) #[] #[]) f G))
  (hC:x.m.may=true→MIn l.n x.m→∀(i:PPt) (G:List HP),plφ fl (l.more x.m) i→Fn prog fid [.pointer (some ⟨lb,0,none⟩),.agg x.vals.toArray,.pointer (some ⟨i.pb (orgI x.m),0,none⟩)] f (plB lb (l.more x.m) i++G) (Ret (.bool ((l.more x.m).counts x.m).1) f (plogH f lb ((l.more x.m).counts x.m).2::G))) :
  Fn prog 25 [.pointer (some ⟨lb,0,none⟩),.agg x.vals.toArray] f (plogH fl lb l::F) (Ret (.tuple #[.bool (l.take x.m).1.1,.int .i64 (l.take x.m).1.2]) f (plogH f lb (l.take x.m).2::F)):=by
 refine qjX fun i0 hi=>?_;obtain⟨V,vb,pp,pc,cp,cc,pb,cs⟩:=i0;have hiF:=hi.mono hfl;have hn:=hL.n3
 have hmay:=fun G=>mmay_fn f G hx;refine qen ?_
 refine Fn.e2 func25 ntmps25 fun base=>?_;refine qgi fun lv=>?_;refine qjg fun mb=>?_;refine gU ?_;refine qfq ?_;refine H.cr (hmay _) ?_
 cases hm:x.m.may with
 | false =>
  refine qjp ?_;refine gD ?_;refine qfE ?_;refine H.Bb rfl rfl rfl iD ⟨?_,rfl,?_⟩
  ·unfold Lgs.take;rw[if_pos (.inl hm)]
  ·unfold Lgs.take;rw[if_pos (.inl hm)]
 | true =>
  have hou:=Msg.may_outer hm;unfold Msg.outer at hou
  refine qhO ?_;by_cases ho:(l.n:Int)<x.m.origin
  ·skip;refine gW ?_;refine qkH ?_;refine gG ?_;refine qfE ?_;refine H.Bb rfl rfl rfl iD ⟨?_,rfl,?_⟩
   ·unfold Lgs.take;rw[if_pos (.inr (.inl ho))]
   ·unfold Lgs.take;rw[if_pos (.inr (.inl ho))]
  ·skip;refine gW ?_;refine qkH ?_;refine gg ?_;have hql : x.m.body.q.length≤1000000000 :=by have :=hx.2.1;omega
   have hcl:=fun G=>hasQ_fn f (row lv 80 [.pointer (some ⟨lb,0,none⟩)]::row lb 124 (plC l.n l.known vb pp pc cp cc)::G) (c:=x.qc) hx.1 hql (fun p=>decide ((l.n:Int)<p.1)) fun p _=>pltk1_fn f G p;refine qew ?_
   refine H.pf (x:=row lv _ _) ?_;refine H.cr (hcl _) ?_;clear hcl;refine qeu ?_
   cases hany:x.m.body.q.any fun p=>decide ((l.n:Int)<p.1)with
   | true =>
    have hqin:qIn l.n x.m=false:=by
     obtain⟨y,hy,h1⟩:=List.any_eq_true.1 hany;have h1:=of_decide_eq_true h1;exact List.all_eq_false.2 ⟨y,hy,by rw[decide_eq_false jA];decide⟩
    refine gD ?_;refine qfE ?_;refine H.Bb rfl rfl rfl iD ⟨?_,rfl,?_⟩
    ·unfold Lgs.take;rw[if_pos (.inr (.inr hqin))]
    ·unfold Lgs.take;rw[if_pos (.inr (.inr hqin))]
   | false =>
    have hqin:qIn l.n x.m=true:=List.all_eq_true.2 fun y hy=>by
     have h1:=List.any_eq_false.1 hany y hy;rw[decide_eq_true_eq]at h1
     exact decide_eq_true jA
    have hmi:MIn l.n x.m:=may_MIn hm jA hqin hx.2.2.1.1
    have hno:¬(x.m.may=false∨(l.n:Int)<x.m.origin∨qIn l.n x.m=false):=qcN
    obtain⟨o,hoe⟩:∃o,o=orgI x.m:=⟨_,rfl⟩;have hoz:x.m.origin-1=(o:Nat):=by rw[hoe];unfold orgI;omega
    have ho11:o<11:=jA
    have hon:o<l.n:=jA
    have hkn:=hL.kn o;have hCl:=hC hm hmi
    clear hany hmay hC;refine gW ?_;refine H.dq ?_;refine qiG ?_;refine gZ ?_;by_cases hnum:x.m.number=l.known o+1
    ·skip;refine gg ?_;refine qjN ?_
     refine H.lo (ι:=Nat) (fun i=>[(42,.int .i64 (i:Int)),(41,.agg (v11 x.m.deps).toArray),(2,.pointer (some ⟨lv,0,none⟩)),(3,.pointer (some ⟨mb,0,none⟩))]) (fun _=>f) (fun _=>row mb 54 x.vals::row lv 80 [.pointer (some ⟨lb,0,none⟩)]::row lb 124 (plC l.n l.known vb pp pc cp cc)::mp vb keyU (V.map PV.ent)::lst (V.map PV.own)::fam (fun r=>pastH (pb r) (l.past r)) l.n::slc cp l.n cc 226 1 (chRow l cs)::fam (pcFam l cs) l.n::F)
      (fun i=>i≤11∧∀j,j<i→x.m.deps j≤l.known j) (fun i=>11-i) 0 ⟨Nat.zero_le _,fun j hj=>by omega⟩ fun i hi3=>?_
     obtain⟨hi3,hdn⟩:i≤11∧∀j,j<i→x.m.deps j≤l.known j:=hi3;by_cases hi11:i<11
     ·skip;refine gG ?_;refine H.indexV (xs:=v11 x.m.deps) (i:=i) rfl rfl rfl rfl hi11 rfl (zau x.m.deps hi11) rfl ?_;refine gF ?_;refine H.Al (i:=i) rfl rfl rfl rfl hi11 rfl ?_;refine H.Ab rfl rfl rfl (by rw[Nat.mul_one];exact Rd1.of (plC_kn at2) (zau l.known hi11)) rfl ?_;by_cases hdt:x.m.deps i≤l.known i
      ·exact qbn
      ·have hdf:depsIn x.m l.known=false:=List.all_eq_false.2 ⟨i,List.mem_range.2 hi11,by rw[decide_eq_false hdt];decide⟩;refine gG ?_
       refine qfE ?_;refine H.Bb rfl rfl rfl iD ⟨?_,rfl,?_⟩
       ·unfold Lgs.take;rw[if_neg hno,if_pos (.inr hdf)]
       ·unfold Lgs.take;rw[if_neg hno,if_pos (.inr hdf)]
     ·have hdin:depsIn x.m l.known=true:=List.all_eq_true.2 fun j hj=>decide_eq_true (hdn j kC);have hnk:=l.counts_nk x.m
      have htk:l.take x.m=((((l.more x.m).counts x.m).1,0),((l.more x.m).counts x.m).2):=by
       have e1:=l.counts_kn (updF l.known (orgI x.m) (l.known (orgI x.m)+1)) x.m
       have e2:l.take x.m=(((l.counts x.m).1,0),{(l.counts x.m).2 with known:=updF (l.counts x.m).2.known (orgI x.m) ((l.counts x.m).2.known (orgI x.m)+1)}):=qcj
       unfold Lgs.more;rw[e1,e2,hnk.2]
      rw[htk];clear htk hnk;have hiM:plφ fl (l.more x.m) ⟨V,vb,pp,pc,cp,cc,pb,cs⟩:=⟨hi.vs,hi.p⟩;have hpa:=fun G=>plpast_fn f G hfl (lb:=lb) hiM (by show l.n≤11;omega) (o:=o) (by show o<l.n;exact hon) (r:=x.m.origin) jA
      have hpl:plB lb (l.more x.m) ⟨V,vb,pp,pc,cp,cc,pb,cs⟩=[row lb 124 (plC l.n (updF l.known o (l.known o+1)) vb pp pc cp cc),mp vb keyU (V.map PV.ent),lst (V.map PV.own),fam (fun r=>pastH (pb r) (l.past r)) l.n,slc cp l.n cc 226 1 (chRow l cs),fam (pcFam l cs) l.n]:=by
       rw[hoe];rfl
      have hrow:row lb 124 (plC (l.more x.m).n (l.more x.m).known vb pp pc cp cc)=row lb 124 (plC l.n (updF l.known o (l.known o+1)) vb pp pc cp cc):=by rw[hoe];rfl
      have hCi:=fun G=>hCl ⟨V,vb,pp,pc,cp,cc,pb,cs⟩ G hiM;rw[hpl,←hoe]at hCi
      have hpa:∀G,Fn prog 53 [.pointer (some ⟨lb,0,none⟩),.int .i64 x.m.origin] f (row lb 124 (plC l.n (updF l.known o (l.known o+1)) vb pp pc cp cc)::G) (Ret (.pointer (some ⟨pb o,0,none⟩)) f (row lb 124 (plC l.n (updF l.known o (l.known o+1)) vb pp pc cp cc)::G)):=fun G=>by
       have h:=hpa G;rw[show row lb 124 (plC (l.more x.m).n (l.more x.m).known (⟨V,vb,pp,pc,cp,cc,pb,cs⟩:PPt).vb (⟨V,vb,pp,pc,cp,cc,pb,cs⟩:PPt).pp (⟨V,vb,pp,pc,cp,cc,pb,cs⟩:PPt).pc (⟨V,vb,pp,pc,cp,cc,pb,cs⟩:PPt).cp (⟨V,vb,pp,pc,cp,cc,pb,cs⟩:PPt).cc)=_ from hrow]at h
       exact h
      generalize(l.more x.m).counts x.m=res at hCi⊢;clear hpl hrow hCl hiM;refine gc ?_;refine H.dc [0,1,2,3,4,5,6,7,8,9,10] (S:=[_,_,_]) rfl ?_;refine HB.qu [0,1,2,3,4,5,6,7,8,9,10] 2 ?_;refine qiG ?_;refine gV ?_;refine qeA ?_;refine HB.qu [11] 1 ?_;refine HQ.Al (i:=o) rfl rfl rfl hoz ho11 rfl ?_;refine qhf ?_;refine H.Ba (ls:=plC l.n l.known vb pp pc cp cc) (ls':=plC l.n (updF l.known o (l.known o+1)) vb pp pc cp cc) rfl rfl rfl rfl at2 (plC_set _ _ _ _ _ _ _ _ ho11) ?_;refine qjr ?_;refine qgu ?_;refine HB.qu [0,1,2,4,5,6,7,8] 5 ?_;refine gP ?_;refine qgI ?_;refine qfw ?_;refine HB.ev 3 ?_;refine H.cr (hB _) ?_;refine qeg ?_;refine HB.ev 9 ?_;refine qew ?_;refine H.cr (hpa _) ?_;refine gA ?_;refine qew ?_;refine H.pf (x:=row lv _ _) ?_;refine qiW ?_;refine HB.ev 10 ?_;refine qeO ?_;refine qge ?_;refine H.callVR (fs:=[]) (cs:=[]) rfl rfl rfl rfl (hCi _) ?_;refine gA ?_;refine H.pf (x:=row lv _ _) ?_;refine qiW ?_;refine HB.qu [11,12] 0 ?_;refine qgv ?_;refine qhh ?_;refine H.pd (x:=row lv _ _) ?_;exact qaV
    ·skip;refine gG ?_;refine qfE ?_;refine H.Bb rfl rfl rfl iD ⟨?_,rfl,?_⟩
     ·exact qdx
     ·exact qdx
theorem LI.more(h:LI l T)(m:Msg):LI (l.more m) (T+1):=by
 have hc:=h.step;refine⟨hc.n3,fun i=>?_,hc.wf,hc.il,hc.vl,hc.cl,hc.al,hc.log,hc.zero,hc.rise,hc.begun,hc.gb⟩
 show 0≤updF l.known (orgI m) _ i∧updF l.known (orgI m) _ i≤_
 have:=h.kn i;exact qdl
theorem by1_fn:Fn prog 52 [.int .u8 1] f F (Ret (.func (.func 93) #[] #[]) f F):=by
 exact qbl
theorem by2_fn:Fn prog 52 [.int .u8 2] f F (Ret (.func (.func 94) #[] #[]) f F):=by
 exact qbl
theorem pltake1_fn(htab:TabAt f)(hfl:Le fl f)(hL:LI l T)(hT:T≤40000)(hx:x.Good f)(hk:x.m.body.kind=1):Fn prog 25 [.pointer (some ⟨lb,0,none⟩),.agg x.vals.toArray] f (plogH fl lb l::F) (Ret (.tuple #[.bool (l.take x.m).1.1,.int .i64 (l.take x.m).1.2]) f (plogH f lb (l.take x.m).2::F)):=
 pltake_fn f F hfl hL hT hx (fid:=93) (fun G=>by rw[hk];exact by1_fn f G) fun _ hm i G hi=>plprep_fn f G htab hfl (hL.more x.m) jA hm hk hi rfl
theorem pltake2_fn(hfl:Le fl f)(hL:LI l T)(hT:T≤40000)(hR:∀w∈l.vs,RiseN w.p)(hx:x.Good f)(hk:x.m.body.kind=2):Fn prog 25 [.pointer (some ⟨lb,0,none⟩),.agg x.vals.toArray] f (plogH fl lb l::F) (Ret (.tuple #[.bool (l.take x.m).1.1,.int .i64 (l.take x.m).1.2]) f (plogH f lb (l.take x.m).2::F)):=
 pltake_fn f F hfl hL hT hx (fid:=94) (fun G=>by rw[hk];exact by2_fn f G) fun _ hm i G hi=>plcommit_fn f G hfl (hL.more x.m) jA hx.2.2 hm hk hR hi rfl
def LogR(f:Frag)(A:List HP)(R:List Req):Value→Frag→List HP→Prop:=fun v f' A'=>∃(p:Option Addr) (c:Nat),v= .tuple #[.slice p R.length c,.bool true]∧f'=f∧A'=slc p R.length c 49 40 (R.flatMap Req.vals)::A
theorem qclone_fn(hl:R.length≤100000):Fn prog 96 [.slice p R.length c] f (slc p R.length c 49 40 (R.flatMap Req.vals)::F)
   (fun v f' A'=>∃(p':Option Addr) (c':Nat),v= .slice p' R.length c'∧f'=f∧A'=slc p' R.length c' 49 40 (R.flatMap Req.vals)::slc p R.length c 49 40 (R.flatMap Req.vals)::F):=by
 cases p with
 | none =>
  by_cases h0:0<R.length
  ·refine Fn.e1 func96 ntmps96 fun base=>?_;refine H.Au (p:=none) (n0:=R.length) (c:=c) aP0 h0 fun sb hp=>?_;cases hp
  ·obtain rfl:R=[]:=List.eq_nil_of_length_eq_zero jA;refine Fn.e1 func96 ntmps96 fun base=>?_;refine gS ?_;refine H.slc0 49 40 ?_;exact qco
 | some a =>
  refine Fn.e1 func96 ntmps96 fun base=>?_;refine gU ?_;refine H.Aq (out:=[]) rfl rfl rfl rfl jC jC rfl rfl fun eb=>?_;refine H.asSlc (k:=0) (sz:=40) rfl jC ?_;refine gI ?_;refine H.Av (xs:=[]) (m:=R.length) (news:=R.flatMap Req.vals) rfl rfl rfl rfl rfl (fun p' c'=>.here _ _ _) (Src.slcS at1 (zbr Req.len R)) (Reqs_one R) rfl jA jA fun p2 c2=>?_;rw[Nat.zero_add,List.nil_append];refine gT ?_;exact H.r1 ⟨p2,c2,rfl,rfl,rfl⟩
theorem plvoted_fn(hfl:Le fl f)(hn:l.n≤11)(ho:o<l.n){r:Int}(hr:r=((o+1:Nat):Int)):Fn prog 44 [.pointer (some ⟨lb,0,none⟩),.int .i64 r,.int .u64 v] f (plogH fl lb l::F) (Ret (.tuple #[.int .i64 ((PM.voted (l.past o).all v).getD 0),.bool (PM.voted (l.past o).all v).isSome]) f (plogH fl lb l::F)):=by
 refine qjX fun i hi=>?_;have hpa:=fun G=>plpast_fn f G hfl (lb:=lb) hi hn ho hr;obtain⟨V,vb,pp,pc,cp,cc,pb,cs⟩:=i
 have hvo:=fun G=>voted_fn f G (pb o) (l.past o) v;refine qen ?_
 refine Fn.e3 func44 ntmps44 fun base=>?_;refine gI ?_;refine H.cr (hpa _) ?_;refine gI ?_;refine qgc ?_;refine H.Bq ho ?_;refine H.cr (hvo _) ?_;refine H.By (g:=fun r=>pastH (pb r) (l.past r)) ho ?_;refine gY ?_;exact qbO
theorem pllog_fn(hL:LI l T)(hT:T≤50000){iv:Nat}(hat:vwAt l.vs v=some iv)(hw:l.vs[iv]?=some w):Fn prog 55 [.pointer (some ⟨lb,0,none⟩),.int .u64 v] f (plogH fl lb l::F) (LogR f (plogH fl lb l::F) w.all):=by
 refine qjX fun i hi=>?_;have hvs:=hi.vs;obtain⟨V,vb,pp,pc,cp,cc,pb,cs⟩:=i
 have hvs:(V.map PV.w).Perm l.vs:=hvs;have hal:=hL.al w (List.mem_of_getElem? hw)
 obtain⟨j,X,hX,hXw,hgetX⟩:=view_some hvs hL.rise hat hw;have hget:(getKV (V.map PV.ent) v).getD (.pointer none)= .pointer (some ⟨X.b,0,none⟩):=by rw[hgetX];rfl
 subst hXw;refine qen ?_;refine Fn.e2 func55 ntmps55 fun base=>?_;refine qhV ?_;refine H.Ci (x:=X.own) (i:=j) jH ?_;refine H.ownOpen ?_;refine qex ?_;refine gU ?_;refine qiz ?_;refine gX ?_;refine qiz ?_;refine gF ?_;refine H.pf (x:=slc X.lp _ X.lc _ _ _) ?_;refine H.Ap rfl rfl rfl (qclone_fn f _ jA) fun v' f' A' hR=>?_;obtain⟨p2,c2,rfl,hff,rfl⟩:=hR;rw[hff];refine gT ?_;refine qeD ?_;refine H.Cl jH ?_;refine qjK ?_;exact H.Bb rfl rfl rfl iD ⟨p2,c2,rfl,rfl,rfl⟩
-- where there are no logs
def r15u:Req:={Req.zero with client:=1,time:=1,kind:=2,key:=byteS 97,val:=byteS 49}
def r15:Req:=r15u.signed
theorem r15_asked:r15u.asked:=by decide+kernel
theorem signed_auth{r:Req}(h:r.asked):r.signed.auth=true∧r.signed.client=r.client∧r.signed.time=r.time:=by
 unfold Req.signed;rw[if_pos h];refine⟨?_,rfl,rfl⟩;show(decide r.asked&&eq32 r.sig r.sig)=true;rw[decide_eq_true h,Bool.true_and];unfold eq32;exact eqC_refl rfl
def p15(r:Req)(t:Nat→UInt8):Msg:=⟨1,1,fun _=>0,{Bod.zero 1 with req:=r},t⟩
def d15(t:Nat→UInt8):Msg:=⟨2,1,fun i=>if i=0 then 1 else 0,{Bod.zero 2 with k:=1},t⟩
theorem p15_may:(p15 r15 noTag).may=true:=by decide+kernel
theorem d15_may:(d15 noTag).may=true:=by decide+kernel
theorem signed_is(h:m.may=true):∃t,m.signed= {m with tag:=t}:=by
 unfold Msg.signed;rw[if_pos h];exact⟨_,rfl⟩
theorem tk_ok(h1:m.may=true)(h2:m.origin≤(l.n:Int))(h3:qIn l.n m=true)(h4:m.number=l.known (orgI m)+1)(h5:depsIn m l.known=true):l.take m=((((l.more m).counts m).1,0),((l.more m).counts m).2):=by
 have e1:=l.counts_kn (updF l.known (orgI m) (l.known (orgI m)+1)) m;have hnk:=l.counts_nk m
 have e2:l.take m=(((l.counts m).1,0),{(l.counts m).2 with known:=updF (l.counts m).2.known (orgI m) ((l.counts m).2.known (orgI m)+1)}):=by
  unfold Lgs.take;rw[if_neg (by rintro(h|h|h);rw[h1]at h;cases h;omega;rw[h3]at h;cases h),if_neg (by rintro(h|h);exact h h4;rw[h5]at h;cases h)]
 unfold Lgs.more;rw[e1,e2,hnk.2]
def L1(r:Req):Lgs:=⟨3,updF (fun _=>0) 0 1,[⟨0,0,[],[(1,r)]⟩],updF (fun _=>PM.new) 0 (PM.new.prepare 0),fun _=>[]⟩
theorem t15a{r:Req}{t:Nat→UInt8}(hm:(p15 r t).may=true)(ha:r.auth=true):(Lgs.new 3).take (p15 r t)=((true,0),L1 r):=by
 rw[tk_ok hm (by show(1:Int)≤3;decide) rfl rfl rfl,Lgs.counts_1 (i:=0) (w:=⟨0,0,[],[]⟩) rfl rfl rfl,if_neg]
 ·rfl
 ·rintro(h|h|h|h)
  ·exact Bool.noConfusion (show true=false from h)
  ·have h:r.auth=false:=h;rw[ha]at h;cases h
  ·exact Bool.noConfusion (show false=true from h)
  ·exact Bool.noConfusion (show true=false from h)
theorem pcFam_upd(l:Lgs)(cs:Nat→Option Addr×Nat)(r:Nat)(p:Option Addr)(c:Nat)(y:Int×Int)(past:Nat→PM):updF (pcFam l cs) r (slc p ((l.ch r).length+1) c 228 2 ((l.ch r).flatMap chV++chV y))=pcFam {l with past:=past,ch:=updF l.ch r (l.ch r++[y])} (updF cs r (p,c)):=by
 funext j;unfold pcFam;exact qaW
theorem plcheck_fn(hfl:Le fl f)(hk:x.m.body.kind=6){i:PPt}(hi:plφ fl l i){pv:Value}:Fn prog 95 [.pointer (some ⟨lb,0,none⟩),.agg x.vals.toArray,pv] f (plB lb l i++F) (Ret (.bool (l.counts x.m).1) f (plogH f lb (l.counts x.m).2::F)):=by
 have hiF:=hi.mono hfl;have e:l.counts x.m=(true,l):=by rw[Lgs.counts_x ju ju ju ju ju,hk];rfl
 rw[e];obtain⟨V,vb,pp,pc,cp,cc,pb,cs⟩:=i;refine qen ?_;refine Fn.e3 func95 ntmps95 fun base=>?_;refine qem fun mb=>?_;refine qiY ?_;refine qkK ?_;exact qaj
theorem plchange_fn(hfl:Le fl f)(hL:LI l T)(hT:T≤50000)(hm:MIn l.n x.m)(hk:x.m.body.kind=3){i:PPt}(hi:plφ fl l i)(hre:r=orgI x.m):Fn prog 90 [.pointer (some ⟨lb,0,none⟩),.agg x.vals.toArray,.pointer (some ⟨i.pb r,0,none⟩)] f (plB lb l i++F) (Ret (.bool (l.counts x.m).1) f (plogH f lb (l.counts x.m).2::F)):=by
 have hiF:=hi.mono hfl;have hn:=hL.n3
 have hor:=hm.o;have hr:r<l.n:=by rw[hre];unfold orgI;omega
 have hrz:x.m.origin-1=(r:Nat):=by rw[hre];unfold orgI;omega
 have hcl:=hL.cl r;obtain⟨V,vb,pp,pc,cp,cc,pb,cs⟩:=i
 have hch:=fun G=>change_fn f G (pb r) (l.past r) x.m.body.view;rw[Lgs.counts_3 hk,←hre]
 refine qen ?_;refine Fn.e3 func90 ntmps90 fun base=>?_;refine qem fun mb=>?_;refine gF ?_;refine qkk ?_;refine H.cr (hch _) ?_
 cases hck:(l.past r).changeOk x.m.body.view with
 | false =>
  rw[show(l.past r).change x.m.body.view=l.past r by unfold PM.change;rw[hck];rfl];refine qjh ?_;refine qjp ?_;refine gD ?_;rw[if_neg jC];exact qds
 | true =>
  refine qhB ?_;rw[past_updF];refine qhO ?_;refine gW ?_;rw[if_pos rfl];refine qki fun cb hcb=>?_;subst hcb;refine qfp ?_;refine H.dc [0,1,2,3,4,5,6,7,8,9,10,11,12,13,14,15,16,17,18,19,20,21] (S:=[_,_,_]) rfl ?_;refine HB.qu [0,1,2,3,4,5,6,7,8,9,10,11,12,13,14,15,16,17,18,19] 4 ?_;refine qhj ?_;refine gV ?_;refine qeo ?_;refine HB.ev 20 ?_;refine ql fun eb=>?_;refine gA ?_;refine qfp ?_;refine qeS ?_;refine HB.ev 21 ?_;refine H.pf (x:=row eb _ _) ?_;refine H.pf (x:=fam (pcFam l cs) _) ?_;refine H.Bq hr ?_;refine qgq fun p2 c2=>?_;refine H.famPut (g:=pcFam l cs) hr ?_;rw[pcFam_upd l cs r p2 c2 (x.m.body.view,x.m.number) (updF l.past r ((l.past r).change x.m.body.view))];refine qkL ?_;refine qfp ?_;refine qgV ?_;refine HB.qu [22] 1 ?_;refine qku ?_;refine qeo ?_;refine HB.ev 23 ?_;refine qkB ?_;rw[chRow_upd l cs r p2 c2 (x.m.body.view,x.m.number) (updF l.past r ((l.past r).change x.m.body.view))];refine qeR ?_;refine qhh ?_;refine H.pf (x:=fam (pcFam _ (updF cs r (p2,c2))) _) ?_;refine qkJ ?_;refine qgc ?_;refine qge ?_;refine H.imp (zam (l:={l with past:=updF l.past r ((l.past r).change x.m.body.view),ch:=updF l.ch r (l.ch r++[(x.m.body.view,x.m.number)])}) ⟨V,vb,pp,pc,some ⟨cb,0,none⟩,cc,pb,updF cs r (p2,c2)⟩ ⟨hiF.vs,hiF.p⟩) ?_;exact qaj
end
end Go.Proofs.YtkaknokcbhiigaaGreatDoor
