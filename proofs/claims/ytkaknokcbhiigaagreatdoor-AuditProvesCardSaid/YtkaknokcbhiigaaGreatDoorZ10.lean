/- Parts of the proof. No conditions. -/
import Derived.Test.YtkaknokcbhiigaaGreatDoorZ09
import Derived.Test.YtkaknokcbhiigaaGreatDoorRows
import Derived.Test.YtkaknokcbhiigaaGreatDoorCards
import Derived.Test.YtkaknokcbhiigaaGreatDoorTie
set_option linter.unusedSectionVars false
set_option linter.unusedSimpArgs false
set_option linter.unusedVariables false
set_option maxHeartbeats 6400000
set_option maxRecDepth 20000
namespace Go.Proofs.YtkaknokcbhiigaaGreatDoor
open Go Go.Proofs.Tryz
theorem Msg.turned_rightW{m:Msg}(hr:m.right=true){k:Nat}(v:UInt8)(hk:k<32):({m with tag:=setT m.tag k (m.tag k ^^^ v)}:Msg).right=decide (v=0):=by
 have h:=Msg.right_tag m m.tag;have h1:(m.may&&eq32 m.tag (Sha.numbered m.origin m.number m.tagged))=true:=by rw[←h];exact hr
 rw[Bool.and_eq_true]at h1;rw[Msg.right_tag,h1.1,Bool.true_and,←eq32_turn m.tag v hk];have h2:=eq32_iff.1 h1.2;rw[Bool.eq_iff_iff]
 refine eq32_iff.trans (Iff.trans ?_ eq32_iff.symm);rw[h2]
theorem setT_zero(t:Nat→UInt8)(k:Nat):setT t k (t k ^^^ 0)=t:=by
 exact qdj
structure PrS(n:Nat)(l L:List MV)(D:List Req)(t:Nat):Prop where
 sub:∀x∈L,x∈l
 pos:0<L.length
 le:L.length≤l.length
 acc:accR n (L.map MV.m) (t:Int)=(D.take t,0)
 ok:WOK n (L.map MV.m)
structure PrR(n:Nat)(l L:List MV)(D:List Req)(t:Nat):Prop where
 s:PrS n l L D t
 bad:∀i x k v,L[i]?=some x→k<32→v≠0→accR n ((L.set i ⟨{x.m with tag:=setT x.m.tag k (x.m.tag k ^^^ v)},x.qp,x.qc⟩).map MV.m) (t:Int)=([],11)
variable {n t:Nat} {l:List MV}
theorem prove_law0(h3:3≤n)(h11:n≤11)(hodd:n % 2=1)(hW:WOK n (l.map MV.m))(hv:∀m∈l.map MV.m,0≤m.body.view)(hC:CLO (l.map MV.m))(ht:1≤t)(htd:t≤(decL (audR n (l.map MV.m)).l).length):prvB n (l.map MV.m) (t:Int)∧PrS n l (prvL n l (t:Int)) (decL (audR n (l.map MV.m)).l) t:=by
 obtain⟨_,_,hlg,hfk⟩:=audR_order hW;refine⟨⟨by rw[hfk];rfl,by omega,by omega⟩,?_⟩;rw[hlg]at htd⊢;obtain⟨p1,p2,p3,p4⟩:=proof_law h3 h11 hodd hW hv hC ht htd;obtain⟨e1,e2⟩:=prvL_eq (ml:=l) hW (t:Int);have hWP:WOK n ((prvL n l (t:Int)).map MV.m):=by rw[e2];exact WOK.sub (fun i=>(p1.le i).1) _ hW p1.closed
 have hlen:(prvL n l (t:Int)).length=(sub (needV n (l.map MV.m) (t:Int)) (l.map MV.m)).length:=by rw[←e2,List.length_map]
 refine⟨fun x hx=>by rw[e1]at hx;exact(List.mem_filter.1 hx).1,by rw[hlen];exact p2,by rw[e1];exact List.length_filter_le _ _,?_,hWP⟩;rw[e2,accR_world (by rw[←e2];exact hWP) ht p3,p4]
theorem prove_law(h3:3≤n)(h11:n≤11)(hodd:n % 2=1)(hW:WOK n (l.map MV.m))(hv:∀m∈l.map MV.m,0≤m.body.view)(hC:CLO (l.map MV.m))(ht:1≤t)(htd:t≤(decL (audR n (l.map MV.m)).l).length):prvB n (l.map MV.m) (t:Int)∧PrR n l (prvL n l (t:Int)) (decL (audR n (l.map MV.m)).l) t:=by
 obtain⟨h1,h2⟩:=prove_law0 h3 h11 hodd hW hv hC ht htd;refine⟨h1,h2,fun i x k v hx hk hv0=>?_⟩;have hWP:=h2.ok;generalize prvL n l (t:Int)=L at *
 have hxm:(L.map MV.m)[i]?=some x.m:=by rw[List.getElem?_map,hx];rfl
 have hok:=hWP i x.m hxm;rw[List.map_set]
 exact accR_bad hWP ht hxm rfl (by rw[Msg.turned_rightW hok.right v hk,decide_eq_false hv0])
section
variable (f:Frag) (F:List HP)
theorem auditProves_fn(htab:TabAt f){n8:UInt8}{p:Option Addr}{c:Nat}{xs:List A15}(hat:ListAt f p 12 A15.vals xs)(hh:∀x∈xs,x.Has f)(hxl:xs.length≤9223372036854775807)(a8 t8 b8:UInt8):Fn prog 4 [.int .u8 (n8.toNat:Nat),.slice p xs.length c,.int .u8 (a8.toNat:Nat),.int .u8 (t8.toNat:Nat),.int .u8 (b8.toNat:Nat)] f F (Ret (.bool true) f F):=by
 have hfew:=few15_fn f F (c:=c) hat hxl
 cases hf:few15 xs with
 | false =>
  rw[hf]at hfew;refine Fn.e5 func4 ntmps4 fun base=>?_;refine qkr ?_;refine gN ?_;exact qdv
 | true =>
  rw[hf]at hfew;obtain⟨hl100,hq20⟩:=few15_all hf;by_cases h70:xs.length≤70
  ·obtain⟨n,hn8⟩:∃n,n=3+2*(n8.toNat % 5):=⟨_,rfl⟩;have hn3:3≤n∧n≤11:=jA
   have hodd:n % 2=1:=jA
   have hfz:=fewz_odd hn8;have hacts:=fun G=>acts15_fn f G hn8 (c:=c) hat (fun x hx=>⟨hh x hx,hq20 x hx⟩) hl100
   have hinv:WOK n (world15 n xs).w.all:=by have:=(world15_inv hn3.1 hn3.2 xs xs.length jA).w.ok;rwa [List.take_length]at this
   have hwl:(world15 n xs).w.all.length≤70:=by have:=world15_len n xs xs.length;rw[List.take_length]at this;omega
   have hclo:CLO (world15 n xs).w.all:=by have:=world_clo hn3.1 hn3.2 xs xs.length jA;rwa [List.take_length]at this
   generalize world15 n xs=W15' at *;refine Fn.e5 func4 ntmps4 fun base=>?_;refine qkr ?_;refine gR ?_;refine H.cl (hacts _) fun v f' A' hr=>?_;obtain⟨g,wb,rfl,hd,rfl,rfl⟩:=hr;have le0:=Le.un f g;generalize un f g=f0 at *
   refine H.world15 fun g1 kb ap ac lb l hd1 hwat=>?_;have le1:=le0.trans (Le.un f0 g1);generalize un f0 g1=f1 at *
   have hta:=zbd htab le1;clear hacts hfew hd hd1
   have hlm:l.map MV.m=W15'.w.all:=hwat.m;rw[←hlm]at hinv hwl hclo
   rw[List.length_map]at hwl;have hlg:=hwat.g;have hla:=hwat.a
   have hvw:∀m∈l.map MV.m,0≤m.body.view:=fun m hm=>by
    obtain⟨x,hx,rfl⟩:=List.mem_map.1 hm;exact(hlg x hx).2.2.1.1
   clear hwat hlm;have hRI:=audR_I hfz (ms:=l.map MV.m) hvw jn;have hlaw:=fun t h1 h2=>prove_law hn3.1 hn3.2 hodd hinv hvw hclo (t:=t) h1 h2
   have hwk:=fun e (he:Le f1 e) G=>works29_fn e G (zbd hta he);have hrun:=fun G=>audRun_fn f1 G hta hfz (c:=ac) hla hlg jA
   have hpno:=fun e (he:Le f1 e) G t (h:¬prvB n (l.map MV.m) t)=>prove_no e G (zbd hta he) hfz (c:=ac) (hla.mono he) (fun z hz=>(hlg z hz).mono he) jA (t:=t) h;have hpyes:=fun e (he:Le f1 e) G t (h:prvB n (l.map MV.m) t)=>prove_yes e G (zbd hta he) hfz (c:=ac) (hla.mono he) (fun z hz=>(hlg z hz).mono he) jA (t:=t) h
   have hn1:¬prvB n (l.map MV.m) (((decL (audR n (l.map MV.m)).l).length:Nat)+1:Int):=fun h=>by have:=h.2.2;omega
   have hn2:¬prvB n (l.map MV.m) 0:=fun h=>by have:=h.2.1;omega
   have hvl:=hRI.1.vl;rw[List.length_map]at hvl
   have hDl:(decL (audR n (l.map MV.m)).l).length≤254:=by
    rw[decL_len];have h1:=decB_le (audR n (l.map MV.m)).l
    cases hv:(audR n (l.map MV.m)).l.vw (decB (audR n (l.map MV.m)).l).1 with
    |none=>rw[hv]at h1;exact Nat.le_trans h1 (Nat.zero_le _)
    | some w =>
     rw[hv]at h1;have h2:=hRI.1.li.al w (vw_v hv).2;have h3:=hRI.2.1
     rw[List.length_map]at h3;have h1:(decB (audR n (l.map MV.m)).l).2≤w.all.length:=h1;omega
   clear hRI;unfold RunP repA repC at hrun;obtain⟨pv,hpv⟩:∃pv:Int→Prop,pv=prvB n (l.map MV.m):=⟨_,rfl⟩;rw[←hpv]at hpno hpyes hn1 hn2 hlaw;clear hpv;generalize hRd:audR n (l.map MV.m)=R at *;generalize knownS (strm R.M)=kn at *;generalize(decB R.l).1=dv at *;generalize decL R.l=D at *;rw[hvl]at hrun;refine gE ?_;refine H.cl (hrun _) fun v f' A' hr=>?_;obtain⟨g3,vp,vc,fp,fc,dp,dc,hd3,rfl,rfl,rfl⟩:=hr;have le3:=Le.un f1 g3;clear hrun hd3
   generalize un f1 g3=f3 at *;show H _ _ _ _ _ (slc vp l.length vc 56 1 (R.vd.flatMap vdV)::slc fp R.fk.length fc 68 4 (R.fk.flatMap fkV)::slc dp D.length dc 49 40 (D.flatMap Req.vals)::_) _;refine H.Co (p:=dp) (m:=D.length) (c:=dc) (T:=49) (sz:=40) (xs:=D.flatMap Req.vals) (.there _ (.there _ (.here _ _ _))) fun hcap _ _=>?_;refine qiU ?_;refine qjk fun g4 hg4 hd4=>?_;have hatD:ListAt (un f3 g4) dp 40 Req.vals D:=(zbh Req.len hg4).mono (Le.right hd4);have le4:=le3.trans (Le.un f3 g4)
   clear hg4 hd4;generalize un f3 g4=f4 at *;have hp1:=fun G=>hpno f4 le4 G _ hn1;refine gW ?_
   refine qko fun rb=>?_;refine H.Ag (ls:=repZ) (vs:=repV vp l.length vc fp R.fk.length fc kn dp D.length dc dv) (ls':=repV vp l.length vc fp R.fk.length fc kn dp D.length dc dv) rfl rfl rfl (zaa rfl) rfl rfl (Nat.le_refl 15) jB ?_;refine qfZ ?_;refine H.pf (x:=row rb _ _) ?_;refine gG ?_;refine qgu ?_;refine HB.qu [0,1,2,3,4,5,6,7,8] 6 ?_;refine gT ?_;refine qjv ?_;refine H.cl (hp1 _) fun v f' A' hr=>?_;obtain⟨g5,hd5,rfl,rfl,rfl⟩:=hr;have le5:=le4.trans (Le.un f4 g5);have hatD5:=hatD.mono (Le.un f4 g5)
   clear hd5 hp1;refine gA ?_;refine H.on [] (Le.un f4 g5) rfl ?_;generalize un f4 g5=f5 at *;refine HB.qu [10,11,12,13,14] 0 ?_;refine qfh ?_;have hp2:=fun G=>hpno f5 le5 G _ hn2;clear hatD
   refine gE ?_;refine H.cl (hp2 _) fun v f' A' hr=>?_;obtain⟨g6,hd6,rfl,rfl,rfl⟩:=hr;have le6:=le5.trans (Le.un f5 g6);have hatD6:=hatD5.mono (Le.un f5 g6)
   clear hd6 hp2 hatD5;generalize un f5 g6=f6 at *;by_cases hD0:D.length=0
   ·have hD0:(D.length:Int)=0:=jA
    refine gV ?_;refine H.Af rfl rfl rfl (hwk f6 le6 _) ?_;refine gS ?_;refine H.pd (x:=row rb _ _) ?_;refine H.pd (x:=row wb _ _) ?_;refine H.weakL (le1.trans le6) ?_;exact qai
   ·have hD0':¬(D.length:Int)=0:=jA
    obtain⟨t0,ht0⟩:∃t0,t0=a8.toNat % D.length:=⟨_,rfl⟩;have ht0l:t0<D.length:=by rw[ht0];exact Nat.mod_lt _ jA
    have hrem:((a8.toNat:Nat):Int).tmod (D.length:Int)=((t0:Nat):Int):=zal (a:=a8.toNat) (b:=D.length) ht0.symm;have ha8:=a8.toNat_lt
    obtain⟨t,ht⟩:∃t,t=t0+1:=⟨_,rfl⟩;obtain⟨hpt,hPR⟩:=hlaw t jA jA;have hpy:=fun G=>hpyes f6 le6 G _ hpt;clear hlaw
    generalize prvL n l (t:Int)=Lp at *;have ht1:1+((t0:Nat):Int)=((t:Nat):Int):=jA
    refine gV ?_;refine H.rem (z:=((t0:Nat):Int)) rfl rfl rfl jA hrem rfl ?_;refine H.ar (z:=((t:Nat):Int)) rfl rfl rfl rfl (by rw[wr_i64 jA];exact ht1) rfl ?_;refine gE ?_;refine H.cl (hpy _) fun v f' A' hr=>?_;obtain⟨g7,pp,pc,hd7,rfl,rfl,rfl⟩:=hr;have le7:=le6.trans (Le.un f6 g7);have hatD7:=hatD6.mono (Le.un f6 g7)
    clear hd7 hpy hatD6 hpno hpyes;generalize un f6 g7=f7 at *;refine qjk fun g8 hg8 hd8=>?_;have hatP:ListAt (un f7 g8) pp 121 MV.vals Lp:=(zbh MV.len hg8).mono (Le.right hd8);have le8:=le7.trans (Le.un f7 g8)
    have hatD8:=hatD7.mono (Le.un f7 g8);clear hg8 hd8 hatD7
    generalize un f7 g8=f8 at *;obtain⟨⟨r1,r2,r3,r4,_⟩,r5⟩:=hPR;have hPg:∀x∈Lp,x.Good f8:=fun x hx=>(hlg x (r1 x hx)).mono le8;have hacc:=fun G=>accepts_fn f8 G (zbd hta le8) hfz (c:=pc) hatP hPg jA (t:Int)
    unfold AccP at hacc;rw[r4]at hacc;have hdt:(D.take t).length=t:=by rw[List.length_take];omega
    have hacc:∀G,Fn prog 13 [.int .i64 (n:Nat),.slice pp Lp.length pc,.int .i64 (t:Nat)] f8 G (fun v f' A'=>∃(g:Frag) (p:Option Addr) (c:Nat),Dj f8 g∧v= .tuple #[.slice p t c,.int .i64 0]∧f'=un f8 g∧A'=slc p t c 49 40 ((D.take t).flatMap Req.vals)::G):=fun G=>by
     have h:=hacc G;rw[hdt]at h
     exact h
    have hLp0:¬(Lp.length:Int)=0:=jA
    have hLp1:¬(Lp.length:Int)>(l.length:Int):=jA
    refine gg ?_;refine H.cl (hacc _) fun v f' A' hr=>?_;obtain⟨g9,dq,dqc,hd9,rfl,rfl,rfl⟩:=hr;have le9:=le8.trans (Le.un f8 g9);have hatD9:=hatD8.mono (Le.un f8 g9)
    have hatP9:=hatP.mono (Le.un f8 g9);clear hd9 hacc hatD8 hatP
    generalize un f8 g9=f9 at *;refine qjk fun g10 hg10 hd10=>?_;have hatQ:ListAt (un f9 g10) dq 40 Req.vals (D.take t):=(zbh Req.len (by rw[hdt];exact hg10)).mono (Le.right hd10);have le10:=le9.trans (Le.un f9 g10)
    have hatD10:=hatD9.mono (Le.un f9 g10);have hatP10:=hatP9.mono (Le.un f9 g10)
    clear hg10 hd10 hatD9 hatP9;generalize un f9 g10=f10 at *
    have hsame:∀G,Fn prog 11 [.slice dq t dqc,.slice dp t dc] f10 G (Ret (.bool true) f10 G):=fun G=>by
     have h3:=sameR_fn f10 G (ca:=dqc) (cb:=dc) hatQ (hatD10.take t) jA;rw[hdt]at h3
     exact h3
    have htc:t≤dc:=jA
    refine gR ?_;refine H.sliceTo (hv:=t) rfl rfl rfl rfl htc rfl ?_;skip;refine H.cr (hsame _) ?_;refine gL ?_;refine qjy fun eb=>?_;refine H.asSlc (k:=0) (sz:=121) rfl jC ?_;have hsrc:∀G,Src prog f10 G (.slice pp Lp.length pc) 121 Lp.length (Lp.flatMap MV.vals):=fun G=>hatP10.src MV.len jC;refine gI ?_
    refine H.Av (sz:=121) (xs:=[]) (news:=Lp.flatMap MV.vals) (m:=Lp.length) rfl rfl rfl rfl rfl (fun p' c'=>jB) (hsrc _) (MVs_one Lp) rfl jA jA fun bp bc=>?_;rw[List.nil_append,Nat.zero_add];obtain⟨i,hi⟩:∃i,i=t8.toNat % Lp.length:=⟨_,rfl⟩;have hil:i<Lp.length:=by rw[hi];exact Nat.mod_lt _ jA
    have hremi:((t8.toNat:Nat):Int).tmod (Lp.length:Int)=((i:Nat):Int):=zal (a:=t8.toNat) (b:=Lp.length) hi.symm;obtain⟨k,hk⟩:∃k,k=t8.toNat % 32:=⟨_,rfl⟩
    have hkl:k<32:=jA
    have hremk:((t8.toNat:Nat):Int).tmod 32=((k:Nat):Int):=zal (a:=t8.toNat) (b:=32) hk.symm;have ht8:=t8.toNat_lt
    obtain⟨x,hx⟩:∃x,Lp[i]?=some x:=⟨_,List.getElem?_eq_getElem hil⟩;have hbad:=fun h=>r5 i x k b8 hx hkl h;clear r5 hsame hsrc
    refine gU ?_;refine H.rem (z:=((i:Nat):Int)) rfl rfl rfl jA hremi rfl ?_;refine H.Au (p:=bp) (n0:=Lp.length) (c:=bc) (T:=54) (sz:=121) (xs:=Lp.flatMap MV.vals) jB jA fun sb hp=>?_;subst hp;refine H.pf (x:=slc _ _ _ _ _ _) ?_;obtain⟨x',hx'⟩:∃x':MV,x'=⟨{x.m with tag:=setT x.m.tag k (x.m.tag k ^^^ b8)},x.qp,x.qc⟩:=⟨_,rfl⟩
    have hset:SetV (Lp.flatMap MV.vals) (0+i*121+89+k*1) (.int .u8 ((x.m.tag k ^^^ b8).toNat:Nat)) ((Lp.set i x').flatMap MV.vals):=by
     have h:=flat_set MV.len hx (y:=x') (v:=.int .u8 ((x.m.tag k ^^^ b8).toNat:Nat)) (k:=0+89+k*1) (by rw[hx'];exact msg_settag x.m x.qp x.qc _ hkl);have e:i*121+(0+89+k*1)=0+i*121+89+k*1:=jA
     rw[e]at h;exact h
    have htg:∀ {G:List HP},Rd1 f10 (slc (some ⟨sb,0,none⟩) Lp.length bc 54 121 (Lp.flatMap MV.vals)::G) sb (0+i*121+89+k*1) (.int .u8 ((x.m.tag k).toNat:Nat)):=fun {G}=>by
     have h1:Rd f10 (slc (some ⟨sb,0,none⟩) Lp.length bc 54 121 (Lp.flatMap MV.vals)::G) sb (i*121) x.vals:=Rd.slcElem (vals:=MV.vals) (xs:=Lp) MV.len jC (.here _ _ _) hx;have e:x.vals=([.int .i64 x.m.origin,.int .u64 x.m.number]++v11 x.m.deps++x.m.body.vals x.qp x.qc)++b32 x.m.tag++[]:=by rw[List.append_nil];rfl
     rw[e]at h1;have h2:Rd f10 _ sb (i*121+89) (b32 x.m.tag):=h1.sub rfl;have h3:=Rd1.of (i:=k) h2 (b32_get _ hkl)
     rw[Nat.zero_add,Nat.mul_one];exact h3
    refine gI ?_;refine H.dc [0,1,2,3,4,5,6,7,8,9,10,11,12,13,14,15,16,17,18] (S:=[_]) rfl ?_;refine HB.qu [0,1,2,3,4,5,6,7,8,9,10,11,12,13,14,15,16,17,18] 1 ?_;refine gJ ?_;refine HQ.rem (z:=((k:Nat):Int)) rfl rfl rfl jA hremk rfl ?_;refine gJ ?_;refine HQ.rem (z:=((k:Nat):Int)) rfl rfl rfl jA hremk rfl ?_;skip;refine qjZ ?_;refine HQ.Ab rfl rfl rfl htg rfl ?_;refine gB ?_;refine HQ.Bf (op:=.xor) rfl rfl rfl (u8_xor _ _) rfl rfl ?_;skip;refine qjZ ?_;refine qeE ?_;refine HB.ev 19 ?_;refine H.Az rfl rfl rfl rfl jB hset ?_;refine gA ?_;refine H.on0 (S:=[]) rfl ?_;refine HB.dn ?_;have hbl:(Lp.set i x').length=Lp.length:=List.length_set;refine H.pf (x:=slc (some ⟨sb,0,none⟩) _ _ _ _ _) ?_
    refine qjk fun g11 hg11 hd11=>?_;have hatB:ListAt (un f10 g11) (some ⟨sb,0,none⟩) 121 MV.vals (Lp.set i x'):=(zbh MV.len (by rw[hbl];exact hg11)).mono (Le.right hd11);have le11:=le10.trans (Le.un f10 g11)
    clear hg11 hd11 hset;generalize un f10 g11=f11 at *
    have hBg:∀z∈Lp.set i x',z.Good f11:=fun z hz=>by
     rcases List.mem_or_eq_of_mem_set hz with h|h
     ·exact(hlg z (r1 z h)).mono le11
     ·rw[h,hx'];exact(hlg x (r1 x (List.mem_of_getElem? hx))).mono le11
    have hac2:=fun G=>accepts_fn f11 G (zbd hta le11) hfz (c:=bc) hatB hBg jA (t:Int);unfold AccP at hac2
    rw[hbl]at hac2;by_cases hb0:b8=0
    ·have hxx:x'=x:=by
      rw[hx',hb0,setT_zero]
     have hLL:Lp.set i x'=Lp:=by
      rw[hxx];obtain⟨h1,h2⟩:=List.getElem?_eq_some_iff.1 hx;rw[←h2];exact List.set_getElem_self h1
     have hb0':((b8.toNat:Nat):Int)=0:=by rw[hb0];rfl
     rw[hLL,r4]at hac2;have hac2:∀G,Fn prog 13 [.int .i64 (n:Nat),.slice (some ⟨sb,0,none⟩) Lp.length bc,.int .i64 (t:Nat)] f11 G (fun v f' A'=>∃(g:Frag) (p:Option Addr) (c:Nat),Dj f11 g∧v= .tuple #[.slice p (D.take t).length c,.int .i64 0]∧f'=un f11 g∧A'=slc p (D.take t).length c 49 40 ((D.take t).flatMap Req.vals)::G):=hac2;refine gI ?_
     refine H.cl (hac2 _) fun v f' A' hr=>?_;obtain⟨g12,eq,ec,hd12,rfl,rfl,rfl⟩:=hr;have le12:=le11.trans (Le.un f11 g12);clear hd12 hac2
     generalize un f11 g12=f12 at *;refine gR ?_;refine H.beq (b:=true) rfl rfl rfl rfl (by rw[decide_eq_true hb0'];rfl) rfl ?_;exact qbq
    ·have hb0':¬((b8.toNat:Nat):Int)=0:=fun e=>hb0 (by
      apply UInt8.toNat_inj.1;show b8.toNat=0
      omega)
     have hac3:=hbad hb0;rw[←hx']at hac3
     rw[hac3]at hac2;have hac2:∀G,Fn prog 13 [.int .i64 (n:Nat),.slice (some ⟨sb,0,none⟩) Lp.length bc,.int .i64 (t:Nat)] f11 G (fun v f' A'=>∃(g:Frag) (p:Option Addr) (c:Nat),Dj f11 g∧v= .tuple #[.slice p 0 c,.int .i64 11]∧f'=un f11 g∧A'=slc p 0 c 49 40 (([]:List Req).flatMap Req.vals)::G):=hac2;refine gI ?_
     refine H.cl (hac2 _) fun v f' A' hr=>?_;obtain⟨g12,eq,ec,hd12,rfl,rfl,rfl⟩:=hr;have le12:=le11.trans (Le.un f11 g12);clear hd12 hac2
     generalize un f11 g12=f12 at *;refine gR ?_;refine H.beq (b:=true) rfl rfl rfl rfl (by rw[decide_eq_false hb0'];rfl) rfl ?_;exact qbq
  ·skip;refine Fn.e5 func4 ntmps4 fun base=>?_;refine qkr ?_;refine gg ?_;exact qdv
end
end Go.Proofs.YtkaknokcbhiigaaGreatDoor

namespace Go.Proofs.YtkaknokcbhiigaaGreatDoor
open Go Go.Proofs.Tryz Go.ChangeShapes Go.WideShapes Go.RowKit Go.Deep
theorem and_t{a b:Bool}(ha:a=true)(hb:b=true):(a&&b)=true:=by rw[ha,hb];rfl
theorem Tryz.own:ownKnob prog.godebug=none:=by kernel_rfl
theorem Tryz.laidOut:laidOutB prog=true:=by kernel_rfl
abbrev laidL : List (String × DataW Unit) := [("ratchet/sha.table", Rows.laid_ratchet_sha_table)]
theorem door_met(os:Os)(args:Array Value):laidMetH prog laidL ((World.doorLaid prog 400 os).forCall (fun _ _=>0) ⟨#[],args,[]⟩).memory:=
 laidMetH_of_parts3 (fuel:=8) (laidMet_of_run' 8 jE jE) jE jE
theorem tab_eq:(Rows.laid_ratchet_sha_table:DataW Unit)= .agg ((Sha.k.map fun x=>((x.toNat:Nat):Int)).map fun z=>.lit (.int .u32 z)):=by kernel_rfl
theorem tab_of{W:World}(h:laidMetH prog laidL W):TabAt (memOf W):=by
 have h2 : laidMetH prog [("ratchet/sha.table", .agg ((Sha.k.map fun x => ((x.toNat : Nat) : Int)).map fun z => .lit (.int .u32 z)))] W := by rw [← tab_eq]; exact h
 exact laid_ints h2 jE jE (t:=235) (e:=183) underlying235 underlying183 jE
end Go.Proofs.YtkaknokcbhiigaaGreatDoor
