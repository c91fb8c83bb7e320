/- Parts of the proof. No conditions. -/
import Derived.Test.YtdpgpmbebbaoiaaGreatDoorZ08
set_option linter.unusedSectionVars false
set_option linter.unusedSimpArgs false
set_option linter.unusedVariables false
set_option maxHeartbeats 3200000
set_option maxRecDepth 20000
namespace Go.Proofs.YtdpgpmbebbaoiaaGreatDoor
open Go Go.Proofs.Tryz
def bwV(b:Nat):Value:=.func (.func 417) #[] #[.pointer (some ⟨b,0,none⟩)]
variable {p pp:Option Addr} {c b xb lb n lg pc:Nat} {kn vt:Nat→Nat}
section
variable (f:Frag) (F:List HP)
theorem vback_fn{m:Nat}:Fn prog 402 [.slice p m c] f F (RetE (fun b:Nat=>bwV b) f (fun b=>row b 173 [.slice p m c]::F)):=by
 refine AB func402 ntmps402 fun base=>?_;apply (gA);refine H.box (ls:=[.slice p m c]) rfl rfl rfl rfl fun b=>?_;apply (gR);exact AU ⟨b,rfl,rfl,rfl⟩
theorem vback1_fn{lp sb:Nat}{I J:HP}(hY:∀G,YieldFn prog lp [.int .i64 0,.int .u64 0] f (I::G) (fun u g B=>u= .bool false∧g=f∧B=J::G)):Fn prog 417 ([]++[.func (.yield lp) #[] #[]]++[.pointer (some ⟨b,0,none⟩)]) f
   (I::row b 173 [.slice (some ⟨sb,0,none⟩) 1 c]::slc (some ⟨sb,0,none⟩) 1 c 29 1 [.int .u64 0]::F)
   (fun _ g B=>g=f∧B=J::row b 173 [.slice (some ⟨sb,0,none⟩) 1 c]::slc (some ⟨sb,0,none⟩) 1 c 29 1 [.int .u64 0]::F):=by
 refine A9 func417 ntmps417 fun base=>?_;apply (gT)
 refine AF (ι:=Unit) (fun _=>[(3,.int .i64 0),(1,.pointer (some ⟨b,0,none⟩)),(0,.func (.yield lp) #[] #[])]) (fun _=>f)
  (fun _=>I::row b 173 [.slice (some ⟨sb,0,none⟩) 1 c]::slc (some ⟨sb,0,none⟩) 1 c 29 1 [.int .u64 0]::F) (fun _=>True) (fun _=>0) () trivial fun i hi=>?_
 iterate 13 ( first
  |((first|apply B3|apply BE|apply B8|apply BG|apply BV|apply BW);(iterate 3 exact rfl))
  |(apply BH;(iterate 3 exact rfl);exact inferInstance;exact rfl)
  |(apply AL;(iterate 3 exact rfl);apply Rd1.ofRow;(repeat(first|exact .here _ _ _|apply At.there));(iterate 2 exact rfl))
  |(first|apply H.seq|apply BD|apply H.nil|apply BF)
  |((first|apply BU|apply AT);(iterate 5 exact rfl))
  |((first|(apply BC;(iterate 4 exact rfl))|(apply BL;(iterate 2 exact rfl)));(first|(with_reducible apply zbm;omega)|(with_reducible apply zay;omega)|(with_reducible apply zbk;omega)|(with_reducible apply wr_i64;omega)|(with_reducible apply wr_u64;omega)|(with_reducible apply wr_u8;omega)|(with_reducible apply wr_u16;omega)|rfl);exact rfl)
  |(apply H.pass;(iterate 2 exact rfl))
  |(apply Dr;exact rfl)
  |(apply CZ;(iterate 4 exact rfl))
  |((first|apply CJ|apply CQ|apply H.not|apply CR);(iterate 4 exact rfl))
  |((first|apply CK|apply CG);(iterate 5 exact rfl))
  |(apply AZ;(iterate 4 exact rfl);(repeat(first|exact .here _ _ _|apply At.there));(repeat(first|exact .here _ _ _|apply SetV.there)))
  |(apply CS;exact rfl)
  |(apply CF;exact rfl)
  |(first|apply H.skip|apply H.ret|apply C5|apply C6|apply H.exit|apply H.block|apply BJ|apply BZ|apply C7|apply C8|apply C9)
  |(apply DB;exact rfl)
  |(apply Cy;(iterate 3 exact rfl);(first|assumption|omega))
  |(apply DC;(iterate 3 exact rfl);(first|assumption|omega))
  |(apply CT;exact rfl;(first|assumption|omega))
  |(apply CU;exact rfl;(first|assumption|omega))
  |((first|apply DR);(iterate 3 exact rfl);assumption)
  |(apply DS;(iterate 3 exact rfl);assumption)
  |(apply Dt;exact rfl;assumption)
  |(apply Du;exact rfl;assumption) )
 refine DF ?_;refine B1 jC ?_;apply (qfS);refine B1 jC ?_;apply (qfS);refine B1 jC ?_;apply (gO);refine D8 ?_;refine B1 jC ?_;apply (qfS);refine B1 jC ?_;refine B7 (i:=0) rfl rfl rfl rfl jE rfl ?_;apply (qkA);refine B1 jC ?_;refine AL (v:=.int .u64 0) rfl rfl rfl (Rd1.of (i:=0) (Rd.ofSlc jA jE) rfl) rfl ?_;apply (qkA);refine H.yield rfl rfl rfl rfl (hY _) fun u f' A' hR=>?_;obtain⟨rfl,hff,rfl⟩:=hR;rw[hff];clear hff;refine B1 jC ?_;apply (qi);refine EC ?_;apply (gR);exact Cq rfl iD ⟨rfl,rfl⟩
theorem duenter_fn{i m v:Nat}{x:UInt8}:Fn prog 383 [.pointer (some ⟨xb,0,none⟩)] f (row xb 486 (lookC lb n i pp m pc v)::lgH lb n kn lg vt x::F) (Ret (.tuple #[.agg (bodK 0 0).toArray,.bool false]) f (row xb 486 (lookC lb n i pp m pc v)::lgH lb n kn lg vt x::F)):=by
 refine D0 func383 rfl ntmps383 rfl (L:=[(0,_)]) ⟨rfl,trivial⟩ fun base=>?_;apply (gA);refine H.box (ls:=[.pointer (some ⟨xb,0,none⟩)]) rfl rfl rfl rfl fun bb=>?_;refine AJ (ls:=bodZ) rfl rfl rfl fun ob=>?_;refine AJ (ls:=[.bool false]) rfl rfl rfl fun eb=>?_;apply (gO);apply (qev);refine AG rfl rfl rfl (lgviews_fn f _) fun np nc=>?_;refine AO aP0 jE fun nb hnb=>?_;subst hnb;apply (gG);refine AW rfl rfl rfl (vback_fn f _) fun b=>?_;apply (gK);refine H.sb [(15,bwV b),(3,.pointer (some ⟨eb,0,none⟩)),(2,.pointer (some ⟨ob,0,none⟩)),(1,.pointer (some ⟨bb,0,none⟩))] ?_;apply A3 (slc (some ⟨nb,0,none⟩) _ nc _ _ _);apply A3 (row b _ _);apply (qfl);apply (qeS);refine Dz (f':=f) (fs:=[]) (cs:=[.pointer (some ⟨b,0,none⟩)]) rfl rfl fun LJ hLJ=>⟨some (.exit 0),fun D=>pts D (.deferred (some []))::row bb 484 [.pointer (some ⟨xb,0,none⟩)]::row xb 486 (lookC lb n i pp m pc v)::row b 173 [.slice (some ⟨nb,0,none⟩) 1 nc]::slc (some ⟨nb,0,none⟩) 1 nc 29 1 [.int .u64 0]::lgH lb n kn lg vt x::row eb 4 [.bool false]::row ob 39 bodZ::F,fun D lp=>?_,fun D=>?_⟩
 ·obtain⟨Kx,hKx⟩:∃Kx:Option Code→HP,Kx=fun J=>stars [LJ D lp J,pts D (.deferred (some [])),row bb 484 [.pointer (some ⟨xb,0,none⟩)],row xb 486 (lookC lb n i pp m pc v)]:=⟨_,rfl⟩;refine Fn.wrap (A1:=Kx none::row b 173 [.slice (some ⟨nb,0,none⟩) 1 nc]::slc (some ⟨nb,0,none⟩) 1 nc 29 1 [.int .u64 0]::lgH lb n kn lg vt x::row eb 4 [.bool false]::row ob 39 bodZ::F) (by rw[hKx];exact zbe [_,_,_,_] _) (vback1_fn f _ (lp:=lp) (b:=b) (sb:=nb) (c:=nc) (I:=Kx none) (J:=Kx (some (.exit 0))) fun G=>?_) fun v g B hR=>?_
  ·refine YieldFn.wrap (R1:=fun u e B=>u= .bool false∧e=f∧B=LJ D lp (some (.exit 0))::pts D (.deferred (some []))::row bb 484 [.pointer (some ⟨xb,0,none⟩)]::row xb 486 (lookC lb n i pp m pc v)::G) (by rw[hKx];exact zbd _ _) ?_ ?_
   ·clear hKx;subst hLJ;refine (qgt) fun base=>?_;apply (qdQ);repeat(first|(first|(first|apply H.seqR|apply C2|apply CP)|(apply BT;exact rfl;exact jC)|(apply DY;exact rfl))|(first|((first|apply B3|apply B8);(iterate 3 exact rfl))|(apply BH;(iterate 3 exact rfl);exact inferInstance;exact rfl)|(apply AL;(iterate 3 exact rfl);apply Rd1.ofRow;(repeat(first|exact .here _ _ _|apply At.there));(iterate 2 exact rfl))|(apply H.nil)|((apply BU);(iterate 5 exact rfl))|((apply CJ);(iterate 4 exact rfl))))
    repeat(first|apply F7|apply F8|(apply DB;exact rfl))
    apply (qfl);apply (qeS);apply (qko);apply A3 (loopH _ _ _ _ _ _ _ _);exact F6 ⟨rfl,rfl,rfl⟩
   ·rintro u g B ⟨rfl,rfl,rfl⟩;exact⟨_,⟨rfl,rfl,rfl⟩,by rw[hKx];exact zbe [_,_,_,_] G⟩
  ·obtain⟨rfl,rfl⟩:=hR;exact⟨_,⟨rfl,rfl⟩,by rw[hKx];exact zbd [_,_,_,_] _⟩
 ·show H _ _ _ _ _ (pts D _::row bb _ _::row xb _ _::_) (.code (.exit 0) _);apply (qiK);apply (gS);apply A4 (row b _ _);apply A4 (row bb _ _);apply A4 (slc (some ⟨nb,0,none⟩) _ nc _ _ _);apply (qel);apply (qed);apply (qko);exact F9 (ls:=bodK 0 0) (x:=.bool false) rfl rfl rfl rfl rfl rfl (.here _ _) (Rd.ofRow aP0) rfl (Rd1.ofRow aP1 rfl) (fun _ s=>(s.drop (.here _ _)).drop (.here _ _)) ⟨rfl,rfl,rfl⟩
end
def sayP(i:Nat)(x:UInt8)(lg:Nat)(pd:List Nat):List Value×Bool:=if i=1 then(match pd.find? fun c=>decide (lg<c)with
 |some c=>(bodP x c,true)
 |none=>(bodK 0 0,false))else(bodK 0 0,false)
def sayR(i:Nat)(x:UInt8)(lg v:Nat)(pd:List Nat):Nat→List Value×Bool
 |0=>(bodK 3 0,false)
 |1=>(bodK 4 0,false)
 |2=>(bodK 0 0,false)
 |3=>sayP i x lg pd
 |_=>(bodK 2 (v+1),decide (i≠1∧v<lg))
def sayX(i:Nat)(x:UInt8)(lg v:Nat)(pd:List Nat):List Value×Bool:=if(sayP i x lg pd).2=true then sayP i x lg pd else if i≠1∧v<lg then(bodK 2 (v+1),true)else(bodK 0 0,false)
theorem sayP_ok(i:Nat)(x:UInt8)(lg:Nat)(pd:List Nat):(sayP i x lg pd).1.length=76∧∀v∈(sayP i x lg pd).1,one v=true:=by
 unfold sayP;split
 ·split
  ·exact⟨rfl,bodP_one _ _⟩
  ·exact⟨rfl,zbn _ _⟩
 ·exact⟨rfl,zbn _ _⟩
theorem sayR_ok(i:Nat)(x:UInt8)(lg v:Nat)(pd:List Nat)(j:Nat):(sayR i x lg v pd j).1.length=76∧∀z∈(sayR i x lg v pd j).1,one z=true:=by
 match j with
 |0=>exact⟨rfl,zbn _ _⟩
 |1=>exact⟨rfl,zbn _ _⟩
 |2=>exact⟨rfl,zbn _ _⟩
 |3=>exact sayP_ok i x lg pd
 |_+4=>exact⟨rfl,zbn _ _⟩
variable {j:Nat}
theorem sayX_pick{i:Nat}{x:UInt8}{v:Nat}{pd:List Nat}(hj:j<5)(hb:∀k,k<j→(sayR i x lg v pd k).2=false)(h:(sayR i x lg v pd j).2=true):sayX i x lg v pd=sayR i x lg v pd j:=by
 match j,hj with
 |0,_=>cases h
 |1,_=>cases h
 |2,_=>cases h
 | 3, _ =>
  have h:(sayP i x lg pd).2=true:=h;unfold sayX;rw[if_pos h];rfl
 | 4, _ =>
  have h3:(sayP i x lg pd).2=false:=hb 3 jB;have h4:i≠1∧v<lg:=of_decide_eq_true h
  unfold sayX;rw[h3,if_neg jE,if_pos h4];show _=(bodK 2 (v+1),decide (i≠1∧v<lg));rw[decide_eq_true h4]
theorem sayX_none{i:Nat}{x:UInt8}{v:Nat}{pd:List Nat}(hb:∀k,k<5→(sayR i x lg v pd k).2=false):sayX i x lg v pd=(bodK 0 0,false):=by
 have h3:(sayP i x lg pd).2=false:=hb 3 jB;have h4:¬(i≠1∧v<lg):=of_decide_eq_false (hb 4 jB)
 unfold sayX;rw[h3,if_neg jE,if_neg h4]
def ruV:List Value:=[.func (.func 381) #[] #[],.func (.func 382) #[] #[],.func (.func 383) #[] #[],.func (.func 384) #[] #[],.func (.func 385) #[] #[]]
variable {v:Value} {P:Program} {fid:FuncId} {args:List Value} {f:Frag}
section
variable (f:Frag) (F:List HP)
theorem rules_fn:Fn prog 346 [] f F (Ret (.agg ruV.toArray) f F):=by
 refine BX func346 ntmps346 fun base=>?_;apply (gA);refine AJ (ls:=[.nilFunc,.nilFunc,.nilFunc,.nilFunc,.nilFunc]) rfl rfl rfl fun ob=>?_;repeat(first|(refine DE (t:=489) (out:=ruV) rfl rfl rfl jD rfl ?_)|(apply (gU)))
 refine AC (ls:=[.nilFunc,.nilFunc,.nilFunc,.nilFunc,.nilFunc]) (vs:=ruV) (ls':=ruV) rfl rfl rfl (zaa rfl) rfl rfl (Nat.le_refl 5) aP0 ?_;apply (gK);exact BS (ls:=ruV) rfl rfl rfl (Rd.ofRow aP0) rfl (fun _ s=>s.drop (.here _ _)) ⟨rfl,rfl,rfl⟩
theorem Da{f:Frag}{a b c:HP}{G:List HP}(h:Fn P fid args f (a::c::b::G) (Ret v f (a::c::b::G))):Fn P fid args f (a::b::c::G) (Ret v f (a::b::c::G)):=by
 have e1:stars (b::c::G)=stars (c::b::G):=Pull.eq (x:=c) (.there _ (.here _ _))
 have e:stars (a::c::b::G)=stars (a::b::c::G):=by
  show star a (stars (c::b::G))=star a (stars (b::c::G));rw[e1]
 exact CX (Fn.imp (A':=a::c::b::G) (fun x hx=>by rw[e];exact hx) h) (fun x hx=>by rw[←e];exact hx)
def nxA(xb lb n i:Nat)(pp:Option Addr)(pc v lg:Nat)(kn vt:Nat→Nat)(x:UInt8)(pd:List Nat):List HP:=[row xb 486 (lookC lb n i pp pd.length pc v),slc pp pd.length pc 34 40 (pd.flatMap (pndV x)),lgH lb n kn lg vt x]
theorem nrule_fn(htab:TabAt f){i v:Nat}{x:UInt8}{pd:List Nat}(h3:3≤n)(h11:n≤11)(hpd:∀c∈pd,1≤c∧c≤8)(hpl:pd.length≤1000)(hlg:lg≤1000)(hv:v≤1000)(hj:j<5):∃fid,Fun prog fid∧ruV[j]?=some (.func (.func fid) #[] #[])∧∀G,Fn prog fid ([]++[.pointer (some ⟨xb,0,none⟩)]++[]) f (nxA xb lb n i pp pc v lg kn vt x pd++G) (Ret (.tuple #[.agg (sayR i x lg v pd j).1.toArray,.bool (sayR i x lg v pd j).2]) f (nxA xb lb n i pp pc v lg kn vt x pd++G)):=by
 match j,hj with
 |0,_=>exact⟨381,inferInstance,rfl,fun G=>duchange_fn f _⟩
 |1,_=>exact⟨382,inferInstance,rfl,fun G=>Da (dunew_fn f _ h3 h11)⟩
 |2,_=>exact⟨383,inferInstance,rfl,fun G=>Da (duenter_fn f _)⟩
 | 3, _ =>
  refine⟨384,inferInstance,rfl,fun G=>?_⟩;by_cases hi:i=1
  ·subst hi;have h:=duprep_fn f G htab (xb:=xb) (lb:=lb) (n:=n) (lg:=lg) (pc:=pc) (v:=v) (kn:=kn) (vt:=vt) (x:=x) (pp:=pp) h3 h11 hpd hpl
   have e:prepR x lg pd= .tuple #[.agg (sayP 1 x lg pd).1.toArray,.bool (sayP 1 x lg pd).2]:=by
    unfold prepR sayP;rw[if_pos rfl];generalize(pd.find? fun c=>decide (lg<c))=o;cases o<;>rfl
   rw[e]at h;exact h
  ·have e:sayP i x lg pd=(bodK 0 0,false):=by unfold sayP;rw[if_neg hi]
   show Fn _ _ _ _ _ (Ret (.tuple #[.agg (sayP i x lg pd).1.toArray,.bool (sayP i x lg pd).2]) _ _);rw[e];exact duprep_no f _ h3 h11 hi
 | 4, _ =>
  refine⟨385,inferInstance,rfl,fun G=>?_⟩;show Fn _ _ _ _ _ (Ret (.tuple #[.agg (bodK 2 (v+1)).toArray,.bool (decide (i≠1∧v<lg))]) _ _);by_cases hi:i=1
  ·subst hi;rw[decide_eq_false (fun h=>h.1 rfl)];exact Da (ducom_no f _ h3 h11 hlg hv)
  ·rw[show decide (i≠1∧v<lg)=decide ((v:Int)<(lg:Nat)) by rw[decide_eq_decide];omega];exact Da (ducom_fn f _ h3 h11 hi hlg hv)
theorem dunext_fn(htab:TabAt f){o:Nat}{x:UInt8}{pd:List Nat}(h3:3≤n)(h11:n≤11)(hodd:n % 2=1)(ho:o<n)(hpd:∀c∈pd,1≤c∧c≤8)(hpl:pd.length≤1000)(hlg:lg≤1000)(hv:vt o≤1000):Fn prog 296 [.pointer (some ⟨lb,0,none⟩),.int .i64 (n:Nat),.int .i64 ((o+1:Nat):Int),.slice pp pd.length pc,.int .u64 0] f (slc pp pd.length pc 34 40 (pd.flatMap (pndV x))::lgH lb n kn lg vt x::F)
   (Ret (.tuple #[.agg (sayX (o+1) x lg (vt o) pd).1.toArray,.bool (sayX (o+1) x lg (vt o) pd).2]) f (slc pp pd.length pc 34 40 (pd.flatMap (pndV x))::lgH lb n kn lg vt x::F)):=by
 have hvo:=fun G=>lgvoted_fn f G (lb:=lb) (n:=n) (lg:=lg) (kn:=kn) (vt:=vt) (x:=x) h11 ho;have hru:=fun xb j hj=>nrule_fn f htab (xb:=xb) (lb:=lb) (n:=n) (lg:=lg) (i:=o+1) (pc:=pc) (v:=vt o) (kn:=kn) (vt:=vt) (x:=x) (pp:=pp) (pd:=pd) h3 h11 hpd hpl hlg hv (j:=j) hj
 have hpick:=fun j hj hb h=>sayX_pick (i:=o+1) (x:=x) (lg:=lg) (v:=vt o) (pd:=pd) (j:=j) hj hb h;have hnone:=sayX_none (i:=o+1) (x:=x) (lg:=lg) (v:=vt o) (pd:=pd)
 have hok:=sayR_ok (o+1) x lg (vt o) pd;refine DD func296 ntmps296 fun base=>?_
 refine (qfV) fun ob=>?_;apply (gG);refine A8 rfl rfl rfl (dufew_fn f _ h3 h11 hodd jB jB) ?_;apply (qdI);apply (qev);refine A8 rfl rfl rfl (lggreat_fn f _ h11 ho) ?_;repeat((refine AT (t:=486) (out:=[.pointer (some ⟨lb,0,none⟩),.int .i64 (n:Nat),.int .i64 ((o+1:Nat):Int),.slice pp pd.length pc,.int .u64 0,.int .u64 0,.bool false,.int .i64 0]) rfl rfl rfl jD rfl ?_))
 refine H.box (ls:=[.pointer (some ⟨lb,0,none⟩),.int .i64 (n:Nat),.int .i64 ((o+1:Nat):Int),.slice pp pd.length pc,.int .u64 0,.int .u64 0,.bool false,.int .i64 0]) rfl rfl rfl rfl fun xb=>?_;apply (gO);apply (qev);apply A5 (hvo _);apply (gL);refine A8 rfl rfl rfl (rules_fn f _) ?_;apply (gK);apply (qev);apply (qeO);apply (qfl)
 refine AF (ι:=Nat) (fun j=>[(50,.int .i64 (j:Int)),(49,.agg ruV.toArray),(12,.pointer (some ⟨xb,0,none⟩)),(11,.bool false),(10,.pointer (some ⟨ob,0,none⟩))]) (fun _=>f)
  (fun _=>nxA xb lb n (o+1) pp pc (vt o) lg kn vt x pd++(row ob 39 bodZ::F)) (fun j=>j≤5∧∀k,k<j→(sayR (o+1) x lg (vt o) pd k).2=false) (fun j=>5-j)
  0 ⟨by omega,fun i hi=>by omega⟩ fun j hj=>?_
 obtain⟨hj,hb⟩:j≤5∧∀k,k<j→(sayR (o+1) x lg (vt o) pd k).2=false:=hj;by_cases hj5:j<5
 ·obtain⟨fid,hfun,hfv,hrule⟩:=hru xb j hj5;have hpick:=hpick j hj5 hb;have hok:=hok j
  apply (gN);refine CW (i:=j) (xs:=ruV) rfl rfl rfl rfl hj5 rfl hfv rfl ?_;apply (gG);refine BM (fs:=[]) (cs:=[]) rfl rfl rfl rfl (hrule _) ?_
  have hsj:∀t,(sayR (o+1) x lg (vt o) pd j).2=t→t=false→∀k,k<j+1→(sayR (o+1) x lg (vt o) pd k).2=false:=fun t ht e k hk=>by
   by_cases e2:k=j
   ·rw[e2,ht,e]
   ·exact hb k jB
  generalize sayR (o+1) x lg (vt o) pd j=r at hpick hok hsj⊢;obtain⟨ls,t⟩:=r;have hll:ls.length=76:=hok.1;have h1:∀z∈ls,one z=true:=hok.2
  have hsp:∀l:List Value,l.length=76→splice l 0 ls=ls:=fun l hl=>by
   exact qbc
  show H _ _ _ _ _ (row xb _ _::slc _ _ _ _ _ _::lgH _ _ _ _ _ _::row ob _ _::F) _;apply (gO);refine AJ (ls:=bodZ) rfl rfl rfl fun tb=>?_;refine AC (ls:=bodZ) (vs:=ls) (ls':=ls) rfl rfl rfl h1 hll (hsp _ rfl) (by rw[hll];exact Nat.le_refl 76) aP0 ?_
  cases t with
  | false =>
   apply (gT);apply (qet);exact AI (j+1) ⟨by show j+1≤5;omega,hsj false rfl rfl⟩ (by show 5-(j+1)<5-j;omega)
  | true =>
   rw[hpick rfl];apply (gR);refine AD (ls:=ls) rfl rfl rfl (Rd.ofRow aP0) hll rfl ?_;refine AC (ls:=bodZ) (vs:=ls) (ls':=ls) rfl rfl rfl h1 hll (hsp _ rfl) (by rw[hll];exact Nat.le_refl 76) jA ?_;apply (gK);apply (qjr);apply (qed);exact B5 (ls:=ls) rfl rfl rfl rfl (Rd.ofRow aP0) hll (fun _ s=>s.drop (.here _ _)) ⟨rfl,rfl,rfl⟩
 ·rw[hnone fun k hk=>hb k jB];show H _ _ _ _ _ (row xb _ _::slc _ _ _ _ _ _::lgH _ _ _ _ _ _::row ob _ _::F) _;apply (qiK);apply (gK);apply (qet);exact qaV
end
theorem splice_pre(pre l vs:List Value)(o:Nat):splice (pre++l) (pre.length+o) vs=pre++splice l o vs:=by
 unfold splice;rw[List.take_append,List.drop_append,List.take_of_length_le jB,List.drop_eq_nil_of_le jB,List.nil_append,Nat.add_sub_cancel_left,show pre.length+o+vs.length-pre.length=o+vs.length by omega];simp only[List.append_assoc]
variable {a:Int} {q:Req} {h:List Bool}
theorem cliC_set{t:Int}{p:Bool}(x:Bool)(hj:j<h.length):splice (cliC n a t p q h) (0+44+j*6) (saidV a x)=cliC n a t p q (h.set j x):=by
 have h1:=flat_splice (vals:=saidV a) (saidV_len a) (xs:=h) (i:=j) x hj ([]:List Value);rw[List.append_nil,List.append_nil]at h1
 have h2:=splice_pre ([.int .i64 (n:Nat),.int .i64 a,.int .u64 t,.bool p]++q.vals) (h.flatMap (saidV a)) (saidV a x) (j*6);rw[h1]at h2
 rw[Nat.zero_add];exact h2
theorem cliC_setq{t:Int}{p:Bool}(r:Req):splice (cliC n a t p q h) (0+4) r.vals=cliC n a t p r h:=by
 have h2:=splice_pre [.int .i64 (n:Nat),.int .i64 a,.int .u64 t,.bool p] (q.vals++h.flatMap (saidV a)) r.vals 0
 have h3:splice (q.vals++h.flatMap (saidV a)) 0 r.vals=r.vals++h.flatMap (saidV a):=by
  unfold splice;rw[List.take_zero,List.nil_append,Nat.zero_add];congr 1
 rw[h3]at h2;unfold cliC;rw[List.append_assoc,List.append_assoc];exact h2
def qtr(h:List Bool)(i:Nat):Nat:=qtrue (h.take i)
theorem qtr_next{i:Nat}{b:Bool}(hb:h[i]?=some b):qtr h (i+1)=bif b then qtr h i+1 else qtr h i:=by
 unfold qtr;rw[List.take_add_one,hb];generalize h.take i=l;show qtrue (l++[b])=_
 induction l with
 |nil=>cases b<;>rfl
 | cons x r ih =>
  show(bif x then qtrue (r++[b])+1 else qtrue (r++[b]))=bif b then(bif x then qtrue r+1 else qtrue r)+1 else(bif x then qtrue r+1 else qtrue r);rw[ih];cases x<;>cases b<;>rfl
theorem qtr_le(h:List Bool):∀i,qtr h i≤i
 |0=>by simp[qtr,qtrue]
 | i + 1 => by
  by_cases hi:i<h.length
  ·rw[qtr_next (List.getElem?_eq_getElem hi)]
   have:=qtr_le h i
   cases h[i]<;>simp<;>omega
  ·have e:qtr h (i+1)=qtr h i:=by unfold qtr;rw[List.take_of_length_le jB,List.take_of_length_le jB]
   rw[e];have:=qtr_le h i;omega
def rep0:List Value:=[.int .i64 0,.string .empty]
variable {cb:Nat}
section
variable (f:Frag) (F:List HP)
theorem cliHear0_fn{t:Int}(hj:j<n)(hn:n≤11):Fn prog 171 [.pointer (some ⟨cb,0,none⟩),.int .i64 ((j+1:Nat):Int),.agg (toldV a).toArray] f (row cb 141 (cliC n a t false q h)::F)
  (Ret (.tuple #[.agg rep0.toArray,.bool false]) f (row cb 141 (cliC n a t false q h)::F)):=by
 refine AP func171 ntmps171 fun base=>?_;refine (qiJ) fun tb=>?_;refine (qhP) fun rb=>?_;apply (gG);refine BB ?_;apply (gQ);apply (gR);exact qax
theorem cliHear1_fn(hj:j<n)(hn:n≤11)(hh:h[j]?=some true):Fn prog 171 [.pointer (some ⟨cb,0,none⟩),.int .i64 ((j+1:Nat):Int),.agg (toldV a).toArray] f (row cb 141 (cliC n a 1 true q h)::F)
  (Ret (.tuple #[.agg rep0.toArray,.bool false]) f (row cb 141 (cliC n a 1 true q h)::F)):=by
 refine AP func171 ntmps171 fun base=>?_;refine (qiJ) fun tb=>?_;refine (qhP) fun rb=>?_;apply (qgS);apply (gR);exact qax
theorem cliHear2_fn(hj:j<n)(hn:n≤11)(hl:h.length=11)(hh:h[j]?=some false)(hc:qtrue (h.set j true)≤n / 2):Fn prog 171 [.pointer (some ⟨cb,0,none⟩),.int .i64 ((j+1:Nat):Int),.agg (toldV a).toArray] f (row cb 141 (cliC n a 1 true q h)::F)
  (Ret (.tuple #[.agg rep0.toArray,.bool false]) f (row cb 141 (cliC n a 1 true q (h.set j true))::F)):=by
 have hdiv:IntKind.i64.wrap (((n:Nat):Int).tdiv 2)=((n / 2:Nat):Int):=wr_i64 je;refine AP func171 ntmps171 fun base=>?_
 refine (qiJ) fun tb=>?_;refine (qhP) fun rb=>?_;refine (qfe) fun mb=>?_;apply (qek);obtain⟨g,hg⟩:∃g,g=h.set j true:=⟨_,rfl⟩;have hgl:g.length=11:=by rw[hg,List.length_set,hl]
 rw[←hg];apply (qgk)
 refine AF (ι:=Nat) (fun i=>[(75,.int .i64 (i:Nat)),(74,.agg (g.flatMap (saidV a)).toArray),(9,.int .i64 (qtr g i:Nat)),(8,.pointer (some ⟨mb,0,none⟩)),(6,.pointer (some ⟨rb,0,none⟩)),(5,.pointer (some ⟨tb,0,none⟩)),(0,.pointer (some ⟨cb,0,none⟩))]) (fun _=>f)
  (fun _=>row mb 138 (saidV a true)::row rb 51 rep0::row tb 136 (toldV a)::row cb 141 (cliC n a 1 true q g)::F) (fun i=>i≤11) (fun i=>11-i) 0 (Nat.zero_le _) fun i hi=>?_
 have hi:i≤11:=hi;have hql:=qtr_le g i
 by_cases hlt:i<11
 ·obtain⟨x,hx⟩:∃x,g[i]?=some x:=⟨_,List.getElem?_eq_getElem jB⟩;have hnx:=qtr_next hx;refine (qhO) fun xb=>?_
  apply (qf)
  cases x with
  | true =>
   exact qcW
  | false =>
   exact qcZ
 ·obtain rfl:i=11:=jB
  have hqt:qtr g 11=qtrue g:=by unfold qtr;rw[List.take_of_length_le jB]
  rw[hqt];rw[←hg]at hc;apply (gT);refine H.quo (z:=((n / 2:Nat):Int)) rfl rfl rfl jE hdiv rfl ?_;apply (qfz);rw[hg];rw[hg]at hc hgl hqt;apply (gN);exact qax
theorem cliHear3_fn(hj:j<n)(hn:n≤11)(hl:h.length=11)(hh:h[j]?=some false)(hc:n / 2<qtrue (h.set j true)):Fn prog 171 [.pointer (some ⟨cb,0,none⟩),.int .i64 ((j+1:Nat):Int),.agg (toldV a).toArray] f (row cb 141 (cliC n a 1 true q h)::F)
  (Ret (.tuple #[.agg rep0.toArray,.bool true]) f (row cb 141 (cliC n a 1 false Req.zero (h.set j true))::F)):=by
 have hdiv:IntKind.i64.wrap (((n:Nat):Int).tdiv 2)=((n / 2:Nat):Int):=wr_i64 je;refine AP func171 ntmps171 fun base=>?_
 refine (qiJ) fun tb=>?_;refine (qhP) fun rb=>?_;refine (qfe) fun mb=>?_;apply (qek);obtain⟨g,hg⟩:∃g,g=h.set j true:=⟨_,rfl⟩;have hgl:g.length=11:=by rw[hg,List.length_set,hl]
 rw[←hg];apply (qgk)
 refine AF (ι:=Nat) (fun i=>[(75,.int .i64 (i:Nat)),(74,.agg (g.flatMap (saidV a)).toArray),(9,.int .i64 (qtr g i:Nat)),(8,.pointer (some ⟨mb,0,none⟩)),(6,.pointer (some ⟨rb,0,none⟩)),(5,.pointer (some ⟨tb,0,none⟩)),(0,.pointer (some ⟨cb,0,none⟩))]) (fun _=>f)
  (fun _=>row mb 138 (saidV a true)::row rb 51 rep0::row tb 136 (toldV a)::row cb 141 (cliC n a 1 true q g)::F) (fun i=>i≤11) (fun i=>11-i) 0 (Nat.zero_le _) fun i hi=>?_
 have hi:i≤11:=hi;have hql:=qtr_le g i
 by_cases hlt:i<11
 ·obtain⟨x,hx⟩:∃x,g[i]?=some x:=⟨_,List.getElem?_eq_getElem jB⟩;have hnx:=qtr_next hx;refine (qhO) fun xb=>?_
  apply (qf)
  cases x with
  | true =>
   exact qcW
  | false =>
   exact qcZ
 ·obtain rfl:i=11:=jB
  have hqt:qtr g 11=qtrue g:=by unfold qtr;rw[List.take_of_length_le jB]
  rw[hqt];rw[←hg]at hc;apply (gT);refine H.quo (z:=((n / 2:Nat):Int)) rfl rfl rfl jE hdiv rfl ?_;apply (gS);refine AC (ls:=cliC n a 1 false q g) (vs:=Req.zero.vals) (ls':=cliC n a 1 false Req.zero g) rfl rfl rfl (zaa rfl) rfl (cliC_setq Req.zero) (by rw[cliC_len hgl];decide) jA ?_;apply (gO);refine AD (ls:=rep0) rfl rfl rfl (Rd.sub (pre:=[.int .i64 a,.int .u64 1]) (post:=[.int .u64 a]) (k:=2) (Rd.ofRow jA) rfl) rfl rfl ?_;refine AC (ls:=rep0) (vs:=rep0) (ls':=rep0) rfl rfl rfl (zaa rfl) rfl rfl (Nat.le_refl 2) jA ?_;apply (gK);apply (qfz);rw[hg];apply (qeG);apply (qdH);exact B5 (ls:=rep0) rfl rfl rfl rfl (Rd.ofRow aP0) rfl (fun _ s=>s.drop (.here _ _)) ⟨rfl,rfl,rfl⟩
theorem said_zero(a:Int):(Builtin.zeroCells (Value.agg #[.bool false,.int .i64 0,.int .u64 0,.int .i64 0,.string .empty,.int .u64 0]).cells (10+1)).toList=(List.replicate 11 false).flatMap (saidV a):=by kernel_rfl
theorem cliAsk_fn(htab:TabAt f){a:Nat}{x:UInt8}(h1:1≤a)(h8:a≤8):Fn prog 109 [.pointer (some ⟨cb,0,none⟩),.agg (opL x (yv a)).toArray] f (row cb 141 (cliC n (a:Nat) 0 false Req.zero (List.replicate 11 false))::F)
  (Ret (.tuple #[.agg (qS x a).vals.toArray,.int .i64 0]) f (row cb 141 (cliC n (a:Nat) 1 true (qS x a) (List.replicate 11 false))::F)):=by
 have hsg:=fun G=>signed_fn f G htab (qreq x a fun _=>0);rw[qS_signed x _ h1 h8]at hsg
 refine A9 func109 ntmps109 fun base=>?_;apply (gA);refine H.box (ls:=opL x (yv a)) rfl rfl rfl rfl fun tb=>?_;refine (qfh) fun rb=>?_;apply (gR);refine AD (ls:=opL x (yv a)) rfl rfl rfl (Rd.ofRow jA) rfl rfl ?_;refine A8 rfl rfl rfl (lmay_fn f _ x (yv a)) ?_;apply (qdI);show H _ _ _ _ _ (row rb _ _::row tb _ _::row cb _ (cliC n (a:Nat) 1 false Req.zero (List.replicate 11 false))::F) _;apply (qdL);apply (qdF);refine H.dc [0,1,2,3,4,5,6,7,8,9,10,11] (S:=[_,_]) rfl ?_;apply A6 [0,1,2,3,4,5,6,7,8,9,10] 4;apply (gF);refine AH (ls:=opL x (yv a)) rfl rfl rfl (Rd.ofRow jA) rfl rfl ?_;refine Ct (out:=reqL x a fun _=>0) rfl rfl rfl jD rfl ?_;apply (qdG);apply A7 11;apply A5 (hsg _);apply (qdE);apply (qeJ);apply A6 [12,13] 1;apply (qdX);apply A7 14;refine AC (ls:=cliC n (a:Nat) 1 false Req.zero (List.replicate 11 false)) (vs:=(qS x a).vals) (ls':=cliC n (a:Nat) 1 false (qS x a) (List.replicate 11 false)) rfl rfl rfl (zaa rfl) rfl (cliC_setq _) (by rw[cliC_len jI];show 0+4+40≤110;decide) jA ?_;apply (qeX);apply (gL);show H _ _ _ _ _ (row tb _ _::row cb _ (cliC n (a:Nat) 1 true (qS x a) (List.replicate 11 false))::_::F) _;refine C4 (b:=cb) (off:=0+44) (lv:=0) (hv:=11) (mv:=11) rfl rfl rfl rfl rfl (fun h=>by cases h) jE jE jE rfl ?_;rw[slP0];refine H.clear (m:=10) (ls:=cliC n (a:Nat) 1 true (qS x a) (List.replicate 11 false)) (ls':=cliC n (a:Nat) 1 true (qS x a) (List.replicate 11 false)) rfl rfl (by rw[said_zero (a:Nat)];exact zaa rfl) (by rw[said_zero (a:Nat)];rfl) (by rw[said_zero (a:Nat)];exact Nat.le_refl 110) (by rw[said_zero (a:Nat)];exact fun h=>by cases h) jA ?_;apply (gO);refine AD (ls:=(qS x a).vals) rfl rfl rfl (cliC_q (Rd.ofRow jA)) rfl rfl ?_;refine AC (ls:=Req.zero.vals) (vs:=(qS x a).vals) (ls':=(qS x a).vals) rfl rfl rfl (zaa rfl) rfl rfl (Nat.le_refl 40) jA ?_;apply (gK);apply (qeG);apply (qdH);exact B5 (ls:=(qS x a).vals) rfl rfl rfl rfl (Rd.ofRow aP0) rfl (fun _ s=>s.drop (.here _ _)) ⟨rfl,rfl,rfl⟩
end
structure PI where
 lr:Nat
 wt:Nat
 lg:Nat
 ck:Nat
 pe:Nat
 rn:Nat
 wc:Nat
def repC(n o:Nat)(i:PI)(pp:Option Addr)(pn pc:Nat)(tp:Option Addr)(tn tc ck:Nat):List Value:=[.int .i64 (n:Nat),.int .i64 ((o+1:Nat):Int),.pointer (some ⟨i.lr,0,none⟩),.pointer (some ⟨i.wt,0,none⟩),.pointer (some ⟨i.lg,0,none⟩),.pointer (some ⟨i.ck,0,none⟩),.pointer (some ⟨i.pe,0,none⟩),.pointer (some ⟨i.rn,0,none⟩),.pointer (some ⟨i.wc,0,none⟩),.slice pp pn pc,.slice tp tn tc,.int .u64 (ck:Nat)]
variable {pn tn tc ck:Nat} {tp:Option Addr}
section
variable (f:Frag) (F:List HP)
theorem rgreat_fn{o:Nat}{i:PI}{x:UInt8}(h11:n≤11)(ho:o<n):Fn prog 12 [.pointer (some ⟨b,0,none⟩)] f (row b 97 (repC n o i pp pn pc tp tn tc ck)::lgH i.lg n kn lg vt x::F) (Ret (.int .u64 0) f (row b 97 (repC n o i pp pn pc tp tn tc ck)::lgH i.lg n kn lg vt x::F)):=by
 refine AB func12 ntmps12 fun base=>?_;apply (qkd);refine A8 rfl rfl rfl (lggreat_fn f _ h11 ho) ?_;apply (gA);apply A3 (row b _ _);apply (qdO);apply A6 [9] 0;apply (qgJ);exact qad
theorem rlate_fn{sb a:Nat}{x:UInt8}(h1:1≤a)(h8:a≤8):Fn prog 242 [.pointer (some ⟨sb,0,none⟩),.agg (qS x a).vals.toArray] f (staH sb j x::F) (Ret (.bool false) f (staH sb j x::F)):=by
 obtain⟨k,rfl⟩:∃k,a=k+1:=⟨a-1,by omega⟩;have hls:=fun G=>staLast_fn f G (sb:=sb) (j:=j) (x:=x) (i:=k) jB;generalize decide (k<j)=t at hls
 refine A9 func242 ntmps242 fun base=>?_;apply (gA);refine H.box (ls:=reqL x (k+1) (qS x (k+1)).tag) rfl rfl rfl rfl fun tb=>?_;apply (qkq);apply A6 [0,1,2,3,4] 4;apply (qdX);apply A7 5;apply (qiM);apply A5 (hls _);apply (qgD);apply A6 [6,7,8] 0
 cases t with
 | true =>
  refine Dh (xs:=lastV true) (v:=.int .u64 1) rfl rfl rfl inferInstance rfl rfl rfl ?_;apply (gQ);exact qcm
 | false =>
  refine Dh (xs:=lastV false) (v:=.int .u64 0) rfl rfl rfl inferInstance rfl rfl rfl ?_;apply (gQ);exact qcm
theorem rdecided_fn{o:Nat}{i:PI}{x:UInt8}(h3:3≤n)(h11:n≤11)(hodd:n % 2=1)(hlg:lg≤1000)(hvt:∀o,vt o≤1000):Fn prog 17 [.pointer (some ⟨b,0,none⟩)] f (row b 97 (repC n o i pp pn pc tp tn tc ck)::lgH i.lg n kn lg vt x::F)
  (fun u g B=>∃(p:Option Addr) (c:Nat),u= .slice p (cmtV n vt lg) c∧g=f∧B=slc p (cmtV n vt lg) c 34 40 ((qrow x (cmtV n vt lg)).flatMap Req.vals)::row b 97 (repC n o i pp pn pc tp tn tc ck)::lgH i.lg n kn lg vt x::F):=by
 have hd:=fun G=>decided_fn f G (lb:=i.lg) (kn:=kn) (x:=x) h3 h11 hodd hlg hvt;generalize cmtV n vt lg=m at hd
 refine AB func17 ntmps17 fun base=>?_;apply (qkd);refine AG rfl rfl rfl (hd _) fun p c=>?_;apply (gA);apply A3 (row b _ _);apply (qdO);apply A6 [9] 0;apply (qgJ);apply (qkp);exact qbf
theorem rready_fn{o:Nat}{i:PI}{x:UInt8}(h3:3≤n)(h11:n≤11)(ho:o<n):Fn prog 293 [.pointer (some ⟨b,0,none⟩)] f (row b 97 (repC n o i pp pn pc tp tn tc ck)::lgH i.lg n kn lg vt x::F) (Ret (.bool true) f (row b 97 (repC n o i pp pn pc tp tn tc ck)::lgH i.lg n kn lg vt x::F)):=by
 have hq:IntKind.wrap .i64 (((n:Nat):Int).tdiv 2)=((n / 2:Nat):Int):=qbe
 have hend:=decide_eq_true (show((n / 2:Nat):Int)<(n:Nat) by omega);have hgr:=fun G=>rgreat_fn f G (b:=b) (o:=o) (lg:=lg) (pn:=pn) (pc:=pc) (tn:=tn) (tc:=tc) (ck:=ck) (i:=i) (pp:=pp) (tp:=tp) (kn:=kn) (vt:=vt) (x:=x) h11 ho
 refine AB func293 ntmps293 fun base=>?_;apply (gK)
 refine AF (ι:=Nat) (fun r=>[(4,.int .i64 ((r+1:Nat):Int)),(3,.int .i64 (r:Nat)),(0,.pointer (some ⟨b,0,none⟩))]) (fun _=>f) (fun _=>row b 97 (repC n o i pp pn pc tp tn tc ck)::lgH i.lg n kn lg vt x::F)
  (fun r=>r≤n) (fun r=>n-r) 0 (Nat.zero_le _) fun r hr=>?_
 have hr:r≤n:=hr;by_cases hlt:r<n
 ·apply (gT);apply (qev);refine A8 rfl rfl rfl (lggreat_fn f _ h11 hlt) ?_;apply (gG);apply A3 (row b _ _);apply A5 (hgr _);apply (gP);exact qcR
 ·obtain rfl:r=n:=jB
  apply (gT);refine H.quo (z:=((r / 2:Nat):Int)) rfl rfl rfl jE hq rfl ?_;apply (gN);exact AE rfl rfl iD ⟨by rw[←hend],rfl,rfl⟩
end
variable {α:Type}
theorem take_cons_drop{l:List α}{k:Nat}{y:α}(h:l[k]?=some y):l=l.take k++y::l.drop (k+1):=by
 have h1:=take_snoc h;have h2:=(List.take_append_drop (k+1) l).symm
 rw[h1,List.append_assoc]at h2;exact h2
variable {y:MV}
theorem strmV_at{l:List MV}{k:Nat}(h:l[k]?=some y):(strmV l (orgI y.m))[cnt ((l.map MV.m).take k) (orgI y.m)]?=some y:=by
 have e:=take_cons_drop h
 have h1:strmV l (orgI y.m)=strmV (l.take k) (orgI y.m)++y::strmV (l.drop (k+1)) (orgI y.m):=by
  rw[e];unfold strmV;rw[List.filter_append,List.filter_cons,if_pos jI];rw[←e]
 have h2:cnt ((l.map MV.m).take k) (orgI y.m)=(strmV (l.take k) (orgI y.m)).length:=by rw[strmV_len,List.map_take]
 rw[h1,h2,List.getElem?_append_right (Nat.le_refl _),Nat.sub_self];rfl
section
variable (f:Frag) (F:List HP)
end
def msL(p:Option Addr)(c:Nat)(l:List MV):HP:=slc p l.length c 41 121 (l.flatMap MV.vals)
def sinceM(v:Nat→Int)(most:Int)(l:List Msg):List Msg:=(unk v l).take most.toNat
def SinceP(f:Frag)(A:List HP)(ms:List Msg):Value→Frag→List HP→Prop:=fun v f' A'=>
 ∃(g:Frag) (p:Option Addr) (c:Nat) (R:List MV),v= .slice p R.length c∧R.map MV.m=ms∧(∀y∈R,y.Good (un f g))∧Dj f g∧f'=un f g∧A'=msL p c R::A
theorem unk_snoc(u:Nat→Int)(l:List Msg)(m:Msg):unk u (l++[m])=if u (orgI m)<m.number then unk u l++[m]else unk u l:=by
 unfold unk;rw[List.filter_append];by_cases h:u (orgI m)<m.number
 ·rw[if_pos h,List.filter_cons,if_pos (decide_eq_true h)];rfl
 ·rw[if_neg h,List.filter_cons,if_neg (by rw[decide_eq_false h];decide)];simp
variable {g:Frag}
theorem Dj.un3'{h:Frag}(h1:Dj f g)(h2:Dj (un f g) h):Dj f (un g h):=Dj.un_right.2 ⟨h1,(Dj.un_left.1 h2).1⟩
variable {T:TypeId}
theorem slc_snoc{R:List MV}:slc p (R.length+1) c T 121 (R.flatMap MV.vals++y.vals)=slc p (R++[y]).length c T 121 ((R++[y]).flatMap MV.vals):=by
 rw[List.length_append,List.flatMap_append];show _=slc p (R.length+1) c T 121 (R.flatMap MV.vals++(y.vals++[]));rw[List.append_nil]
theorem unk_take_more{u:Nat→Int}{l:List Msg}{k:Nat}(h:n≤(unk u (l.take k)).length):(unk u l).take n=(unk u (l.take k)).take n:=by
 have e:unk u l=unk u (l.take k)++unk u (l.drop k):=by
  unfold unk;rw[←List.filter_append,List.take_append_drop]
 rw[e,List.take_append_of_le_length h]
variable {fl:Frag} {most:Int}
section
variable (f:Frag) (F:List HP)
theorem lsince_fn(hfl:Le fl f){l:List MV}{v:Nat→Int}:Fn prog 298 [.pointer (some ⟨lb,0,none⟩),.agg (v11 v).toArray,.int .i64 most] f (loreH fl lb n l::F) (SinceP f (loreH fl lb n l::F) (sinceM v most (l.map MV.m))):=by
 refine (qfu) fun i hi=>?_;obtain⟨P,C,po,co⟩:=i;have hn:=hi.2.2.2;have hll:=hi.2.1
 refine AP func298 ntmps298 fun base=>?_;apply (gA);refine H.box (ls:=v11 v) rfl rfl rfl rfl fun vb=>?_;apply (gT);unfold ordH;refine AY 41 121 ?_;apply (qku)
 refine H.loop (ι:=Nat×List MV×Frag×Option Addr×Nat) (fun s=>[(16,.int .i64 (s.1:Int)),(15,.int .i64 (l.length:Nat)),(14,.slice po l.length co),(6,.slice s.2.2.2.1 s.2.1.length s.2.2.2.2),(0,.pointer (some ⟨lb,0,none⟩)),(2,.int .i64 most),(4,.pointer (some ⟨vb,0,none⟩))]) (fun s=>un f s.2.2.1)
  (fun s=>row vb 36 (v11 v)::slc s.2.2.2.1 s.2.1.length s.2.2.2.2 41 121 (s.2.1.flatMap MV.vals)::row lb 262 (loreCells n l ⟨P,C,po,co⟩)::fam (strH l ⟨P,C,po,co⟩) 11::slc po l.length co 360 2 ((placesOf (l.map MV.m)).flatMap placeV)::F)
  (fun s=>s.1≤l.length∧s.2.1.map MV.m=unk v ((l.map MV.m).take s.1)∧s.2.1.length≤most.toNat∧(∀y∈s.2.1,y.Good (un f s.2.2.1))∧Dj f s.2.2.1) (fun s=>l.length-s.1)
  (0,[],nil0,none,0) ⟨Nat.zero_le _,rfl,Nat.zero_le _,(fun y hy=>by cases hy),Dj.nil f⟩ ⟨rfl,rfl,rfl,rfl,rfl,rfl,rfl,trivial⟩ (un_nil f).symm rfl fun s hs=>?_
 obtain⟨k,R,G,p,c⟩:=s;obtain⟨hk,hR,hRm,hRg,hdj⟩:k≤l.length∧R.map MV.m=unk v ((l.map MV.m).take k)∧R.length≤most.toNat∧(∀y∈R,y.Good (un f G))∧Dj f G:=hs
 have hRl:R.length≤l.length:=by
  have h1:=congrArg List.length hR;rw[List.length_map]at h1
  have h2:(unk v ((l.map MV.m).take k)).length≤((l.map MV.m).take k).length:=List.length_filter_le _ _;rw[List.length_take,List.length_map]at h2
  omega
 show H _ _ _ [(16,.int .i64 (k:Int)),_,_,(6,.slice p R.length c),_,_,_] (un f G) (_::slc p R.length c _ 121 (R.flatMap MV.vals)::_::_::_::F) _;by_cases hlt:k<l.length
 ·obtain⟨y,hy⟩:∃y,l[k]?=some y:=⟨_,List.getElem?_eq_getElem hlt⟩;have hym:(l.map MV.m)[k]?=some y.m:=by rw[List.getElem?_map,hy];rfl
  have hyl:=List.mem_of_getElem? hy;have hpl:=placesOf_get hym
  have hst:=strmV_at hy;have hnum:=(chk_zero (hi.2.2.1 k y.m hym)).2.2.1
  have horg:=hi.2.2.1.org (List.mem_of_getElem? hym);have hyg:y.Good (un f G):=((hi.1 y hyl).mono hfl).mono (Le.un f G)
  have hnext:(l.map MV.m).take (k+1)=(l.map MV.m).take k++[y.m]:=take_snoc hym;have hunk:=unk_snoc v ((l.map MV.m).take k) y.m
  rw[←hnext]at hunk;have ho11:orgI y.m<11:=by unfold orgI;omega
  have hal:cnt ((l.map MV.m).take k) (orgI y.m)<(strmV l (orgI y.m)).length:=by
   rcases Nat.lt_or_ge (cnt ((l.map MV.m).take k) (orgI y.m)) (strmV l (orgI y.m)).length with h|h
   ·exact h
   ·rw[List.getElem?_eq_none h]at hst;cases hst
  have hsl:=strmV_le l (orgI y.m);have hnum2:y.m.number=((cnt ((l.map MV.m).take k) (orgI y.m)+1:Nat):Int):=hnum
  clear hnum horg;generalize cnt ((l.map MV.m).take k) (orgI y.m)=a at *;generalize orgI y.m=o at *;have hstr:=loreCells_str n l ⟨P,C,po,co⟩ ho11;apply A3 (slc po _ co _ _ _)
  refine AO (p:=po) (n0:=l.length) (c:=co) aP0 jB fun ob hpo=>?_;subst hpo;apply (gN);refine B7 (i:=k) rfl rfl rfl rfl hlt rfl ?_;refine AD (ls:=placeV (o,a)) rfl rfl rfl (by rw[Nat.zero_add];exact Rd.slcElem (vals:=placeV) (fun _=>rfl) jE aP0 hpl) rfl rfl ?_;refine AJ (ls:=placeV (0,0)) rfl rfl rfl fun tb=>?_;refine AC (ls:=placeV (0,0)) (vs:=placeV (o,a)) (ls':=placeV (o,a)) rfl rfl rfl (zaa rfl) rfl rfl (Nat.le_refl 2) aP0 ?_;by_cases hm:most≤(R.length:Nat)
  ·apply (gS);apply (qeG);apply (qkv);apply (qhy);apply (qeh);refine H.imp (zbi (F:=slc p R.length c 41 121 (R.flatMap MV.vals)::F) ⟨P,C,some ⟨ob,0,none⟩,co⟩ hi) ?_;apply (qkp);refine AE rfl rfl iD ⟨G,p,c,R,rfl,?_,hRg,hdj,rfl,rfl⟩;have h1:=congrArg List.length hR;rw[List.length_map]at h1
   have h2:most.toNat=R.length:=jB
   unfold sinceM;rw[unk_take_more (k:=k) jB,←hR,List.take_of_length_le jl]
  ·have h48:¬(most≤(R.length:Nat)):=hm;apply (gN)
   apply (qhz);refine BO (i:=o) rfl rfl rfl rfl ho11 rfl ?_;refine B6 rfl rfl rfl (.of (Rd.ofRow jA) (by rw[Nat.mul_one];exact zbq v ho11)) rfl ?_;apply (gM);by_cases hv:v o≤(a:Nat)
   ·rw[if_pos jB]at hunk;apply (gN);apply A3 (fam _ 11);refine CA ho11 ?_;refine AO (p:=P o) (n0:=(strmV l o).length) (c:=C o) aP0 jB fun sb hp=>?_
    have hrd:∀ {f G},Rd f (strH l ⟨P,C,some ⟨ob,0,none⟩,co⟩ o::G) sb (a*121) y.vals:=fun {f G}=>by
     unfold strH;show Rd f (slc (P o) _ _ _ _ _::G) _ _ _;rw[hp];exact Rd.slcElem MV.len jE aP0 hst
    have hstr:(loreCells n l ⟨P,C,some ⟨ob,0,none⟩,co⟩)[1+o]?=some (.slice (some ⟨sb,0,none⟩) (strmV l o).length (C o)):=by rw[hstr];show some (Value.slice (P o) _ _)=_;rw[hp]
    apply (qeh);apply (qdF);apply A3 (strH l _ o);apply (qgs);apply A6 [0,1,2,3,4,5,6,7,8,9,10,11] 4;apply (gF);refine BO (i:=o) rfl rfl rfl rfl ho11 rfl ?_;refine B6 rfl rfl rfl (Rd1.at0 (Rd.ofRow at2) jf) rfl ?_;apply (gF);refine Cn (i:=a) rfl rfl rfl rfl hal rfl ?_;refine AH (ls:=y.vals) rfl rfl rfl (by rw[Nat.zero_add];exact hrd) rfl rfl ?_;apply (qdG);apply A7 12;refine AG rfl rfl rfl (lown_fn _ _ hyg) fun qp qc=>?_;apply (gA);refine H.freeze (.here _ _) fun g hg hd=>?_;refine H.on [] (Le.un _ g) rfl ?_;apply A7 13;refine AS (out:=y.m.vals qp qc) rfl rfl rfl rfl jE jE rfl rfl fun eb=>?_;apply (gA);apply (qeh);apply (qdF);apply A3 (strH l _ o);apply (qdO);apply A7 14;refine AQ (p:=p) (c:=c) (xs:=R.flatMap MV.vals) (m:=1) (news:=y.m.vals qp qc) rfl rfl rfl rfl rfl (fun p' c'=>jA) (Src.slice (Rd.ofRow jA) rfl) (zaa rfl) rfl jB jB fun p2 c2=>?_;apply (qdE);apply A6 [15] 0;apply (qdP);apply (gD);apply (qeZ);apply (qeG);apply (qhy);apply A3 (strH l _ o);refine CH ho11 ?_;apply (qeh);apply A3 (slc p2 _ c2 _ _ _);apply (qku);have hyg2:(⟨y.m,qp,qc⟩:MV).Good (un (un f G) g):=⟨qs_qat hg hd,hyg.2⟩;refine AX (k+1,R++[⟨y.m,qp,qc⟩],un G g,p2,c2) ⟨by show k+1≤l.length;omega,?_,?_,fun z hz=>?_,Dj.un3' hdj hd⟩ kH ⟨rfl,rfl,rfl,?_,rfl,rfl,rfl,trivial⟩ (un_assoc _ _ _) ?_
    ·show(R++[(⟨y.m,qp,qc⟩:MV)]).map MV.m=_;rw[List.map_append,hR,hunk];rfl
    ·show(R++[(⟨y.m,qp,qc⟩:MV)]).length≤_;rw[List.length_append];show R.length+1≤_;omega
    ·have hz:z∈R++[(⟨y.m,qp,qc⟩:MV)]:=hz;show z.Good (un f (un G g))
     rw[←un_assoc];rcases List.mem_append.1 hz with hz|hz
     ·exact(hRg z hz).mono (Le.un _ _)
     ·rw[List.mem_singleton]at hz;subst hz;exact hyg2
    ·show some (Value.slice p2 (R.length+1) c2)=some (Value.slice p2 (R++[(⟨y.m,qp,qc⟩:MV)]).length c2);rw[List.length_append];rfl
    ·show _::slc p2 (R.length+1) c2 _ 121 (R.flatMap MV.vals++(⟨y.m,qp,qc⟩:MV).vals)::_=_::slc p2 (R++[(⟨y.m,qp,qc⟩:MV)]).length c2 _ 121 ((R++[(⟨y.m,qp,qc⟩:MV)]).flatMap MV.vals)::_;rw[slc_snoc]
   ·rw[if_neg jB]at hunk;apply (gP);apply (qeG);apply (qhy);apply (qeh);apply (qkp);apply (qku);refine AI (k+1,R,G,p,c) ⟨by show k+1≤l.length;omega,by show R.map MV.m=_;rw[hR,hunk],hRm,hRg,hdj⟩ kH
 ·have e:k=l.length:=jB
  subst e;apply (gN);apply (qkv);apply A3 (slc po _ co _ _ _);apply A3 (fam _ 11);apply (qeh);refine H.imp (zbi (F:=slc p R.length c 41 121 (R.flatMap MV.vals)::F) ⟨P,C,po,co⟩ hi) ?_;apply (qkp);refine AE rfl rfl iD ⟨G,p,c,R,rfl,?_,hRg,hdj,rfl,rfl⟩;have e2:(l.map MV.m).take l.length=l.map MV.m:=List.take_of_length_le (by rw[List.length_map];exact Nat.le_refl _);rw[e2]at hR
  unfold sinceM;rw[←hR,List.take_of_length_le jl]
end
theorem Msg.right_tag(m:Msg)(u:Nat→UInt8):({m with tag:=u}:Msg).right=(m.may&&eq32 u (Sha.numbered m.origin m.number m.tagged)):=rfl
theorem Msg.signed_right{m:Msg}(hm:m.may=true):m.signed.right=true:=by
 unfold Msg.signed;rw[if_pos hm,Msg.right_tag,hm,eq32_refl];rfl
variable {S:Strm} {z:Int}
theorem chk_as{m:Msg}(h1:fitsB n m=true)(h2:m.right=true){o k:Nat}{d:Nat→Int}(ho:orgI m=o)(hz:m.number=z)(hd:m.deps=d)(hk:(S o).length=k):chk n S m=if z≤(k:Nat)then 13 else if z=((k+1:Nat):Int)∧0<k∧aboveB (lastD (S o)) d=true then 1 else if((k+1:Nat):Int)<z∨aboveB d (knownS S)=true then 12 else 0:=by
 unfold chk;rw[if_neg (by rw[h1];decide),if_neg (by rw[h2];decide),ho,hz,hd,hk]
theorem tab_mono(t:TabAt f)(h:Le f g):TabAt g:=IntsAt.mono h t
section
variable (f:Frag) (F:List HP)
end
def mkB(x:UInt8)(k a:Nat):Bod:=
 if k=1 then {Bod.zero 1 with req:=qS x a}else if k=2 then {Bod.zero 2 with k:=(a:Nat)}else {Bod.zero 6 with k:=(a:Nat),dig:=Sha.sum (staBytes x a)}
def qnI(l:List Nat):Nat→Int:=fun i=>((qnth l i:Nat):Int)
def mkR(x:UInt8)(m:QM):Msg:=⟨(m.o:Nat),(m.num:Nat),qnI m.d,mkB x m.k m.a,noTag⟩
def mkM(x:UInt8)(m:QM):Msg:=(mkR x m).signed
structure QOk(n:Nat)(m:QM):Prop where
 o1:1≤m.o
 on:m.o≤n
 dl:m.d.length=n
 db:∀y∈m.d,y≤1000
 nu:m.num=qnth m.d (m.o-1)+1
 a1:1≤m.a
 a8:m.a≤8
 k:m.k=1∨m.k=2∨m.k=6
variable {m:QM}
theorem QOk.of(h:m.ok n=true):QOk n m:=by
 unfold QM.ok at h;simp only[Bool.and_eq_true,Bool.or_eq_true,Nat.ble_eq,beq_iff_eq,List.all_eq_true]at h;obtain⟨⟨⟨⟨⟨⟨⟨h1,h2⟩,h3⟩,h4⟩,h5⟩,h6⟩,h7⟩,h8⟩:=h;exact⟨h1,h2,h3,h4,h5,h6,h7,by omega⟩
theorem qnth_some{l:List Nat}{i:Nat}(h:i<l.length):l[i]?=some (qnth l i):=by
 unfold qnth;rw[List.getD_eq_getElem?_getD,List.getElem?_eq_getElem h];rfl
theorem qnth_big{l:List Nat}{i:Nat}(h:l.length≤i):qnth l i=0:=by
 unfold qnth;rw[List.getD_eq_getElem?_getD,List.getElem?_eq_none h];rfl
theorem qnth_le{l:List Nat}(h:∀y∈l,y≤b)(i:Nat):qnth l i≤b:=by
 by_cases hi:i<l.length
 ·exact h _ (List.mem_of_getElem? (qnth_some hi))
 ·rw[qnth_big jB];exact Nat.zero_le _
theorem mkB_1(x:UInt8)(a:Nat):mkB x 1 a= {Bod.zero 1 with req:=qS x a}:=rfl
theorem mkB_2(x:UInt8)(a:Nat):mkB x 2 a= {Bod.zero 2 with k:=(a:Nat)}:=rfl
theorem mkB_6(x:UInt8)(a:Nat):mkB x 6 a= {Bod.zero 6 with k:=(a:Nat),dig:=Sha.sum (staBytes x a)}:=rfl
theorem bod_same(b:Bod):Bod.eqB b b=true:=by
 unfold Bod.eqB;rw[decide_eq_true rfl,decide_eq_true rfl,decide_eq_true rfl,decide_eq_true rfl,eqC_refl (l:=b.req.vals) rfl,eqC_refl (l:=b32 b.dig) rfl];rfl
theorem mkB_may{x:UInt8}{k a:Nat}(h1:1≤a)(h8:a≤8)(hk:k=1∨k=2∨k=6):(mkB x k a).may=true:=by
 have key:∀b:Bod,b.own=b→b.view=0→b.mayK b.kind.toNat=true→b.may=true:=fun b e1 e2 e3=>by
  unfold Bod.may;rw[e1,bod_same,e2,e3];rfl
 rcases hk with rfl|rfl|rfl
 ·exact key _ rfl rfl (decide_eq_true (qS_asked x h1 h8))
 ·exact qcB
 ·exact qcB
theorem mkR_outer(h11:n≤11)(x:UInt8)(h:QOk n m):(mkR x m).outer:=by
 have hd:∀i,qnI m.d i≤1000:=fun i=>by have:=qnth_le h.db i;unfold qnI;omega
 have hm:=(maxTo_le _ 1000 10).2 fun i _=>hd i;have hn:=qnth_le h.db (m.o-1)
 have h1:=h.o1;have h2:=h.on
 have h3:=h.nu;have ho:(((m.o:Nat):Int).toNat-1)=m.o-1:=jB
 show 1≤((m.o:Nat):Int)∧((m.o:Nat):Int)≤11∧1≤((m.num:Nat):Int)∧((m.num:Nat):Int)≤65536∧qnI m.d (((m.o:Nat):Int).toNat-1)=((m.num:Nat):Int)-1∧maxTo (qnI m.d) 10≤65536;rw[ho];refine⟨by omega,by omega,by omega,by omega,?_,by omega⟩;unfold qnI;omega
theorem mkR_may(h11:n≤11)(x:UInt8)(h:QOk n m):(mkR x m).may=true:=by
 unfold Msg.may;rw[decide_eq_true (mkR_outer h11 x h),show(mkR x m).body=mkB x m.k m.a from rfl,mkB_may h.a1 h.a8 h.k];rfl
theorem mkM_may(h11:n≤11)(x:UInt8)(h:QOk n m):(mkM x m).may=true:=by
 unfold mkM;rw[Msg.signed_may,mkR_may h11 x h]
theorem mkM_right(h11:n≤11)(x:UInt8)(h:QOk n m):(mkM x m).right=true:=Msg.signed_right (mkR_may h11 x h)
theorem mkM_o(x:UInt8)(m:QM):(mkM x m).origin=(m.o:Nat):=(mkR x m).signed_parts.1
theorem mkM_num(x:UInt8)(m:QM):(mkM x m).number=(m.num:Nat):=(mkR x m).signed_parts.2.1
theorem mkM_d(x:UInt8)(m:QM):(mkM x m).deps=qnI m.d:=(mkR x m).signed_parts.2.2.1
theorem mkM_b(x:UInt8)(m:QM):(mkM x m).body=mkB x m.k m.a:=(mkR x m).signed_parts.2.2.2
theorem mkB_q(x:UInt8)(k a:Nat):(mkB x k a).q=[]:=by
 unfold mkB;split
 ·rfl
 ·split<;>rfl
theorem mkM_q(x:UInt8)(m:QM):(mkM x m).body.q=[]:=by rw[mkM_b,mkB_q]
theorem mkM_org(x:UInt8)(m:QM):orgI (mkM x m)=m.o-1:=by
 unfold orgI;rw[mkM_o];omega
theorem mkM_fits(h11:n≤11)(x:UInt8)(h:QOk n m):fitsB n (mkM x m)=true:=by
 unfold fitsB;rw[mkM_may h11 x h,mkM_o,mkM_q,mkM_d];have h1:=h.on;rw[decide_eq_true (show((m.o:Nat):Int)≤(n:Int) by omega)]
 simp only[Bool.true_and,List.all_nil,List.all_eq_true,Bool.or_eq_true,decide_eq_true_eq];intro i _;by_cases hi:i<n
 ·exact .inl hi
 ·right;unfold qnI;rw[qnth_big (by have:=h.dl;omega)];exact Int.le_refl 0
theorem mkB_ok(x:UInt8){k a:Nat}(h8:a≤8)(hk:k=1∨k=2∨k=6):(mkB x k a).Ok:=by
 have hr:Req.zero.Ok:=⟨⟨Int.le_refl _,by decide⟩,⟨Int.le_refl _,by decide⟩⟩;have z0:(0:Int)≤18446744073709551615:=jE
 have z1:(0:Int)≤1∧(1:Int)≤18446744073709551615:=jE
 rcases hk with rfl|rfl|rfl
 ·exact⟨⟨Int.le_refl _,z0⟩,⟨Int.le_refl _,z0⟩,z1,⟨Int.le_refl _,z0⟩⟩
 ·exact qca
 ·exact qca
theorem good_nil(f:Frag)(hq:y.m.body.q=[])(hok:y.m.body.Ok):y.Good f:=by
 refine⟨?_,?_,hok⟩
 ·rw[hq];intro i z hz;cases hz
 ·rw[hq];exact Nat.zero_le _
theorem mkM_good(f:Frag)(x:UInt8)(h:QOk n m)(q:Option Addr)(c:Nat):(⟨mkM x m,q,c⟩:MV).Good f:=
 good_nil f (mkM_q x m) (by show(mkM x m).body.Ok;rw[mkM_b];exact mkB_ok x h.a8 h.k)
/-! ### A message as cells. -/
theorem mkM_cells(x:UInt8)(m:QM)(q:Option Addr)(c:Nat):(⟨mkM x m,q,c⟩:MV).vals=[.int .i64 (m.o:Nat),.int .u64 (m.num:Nat)]++v11 (qnI m.d)++(mkB x m.k m.a).vals q c++b32 (mkM x m).tag:=by
 show(mkM x m).vals q c=_;unfold Msg.vals;rw[mkM_o,mkM_num,mkM_d,mkM_b]
theorem mkM_cells1(x:UInt8)(hk:m.k=1)(ho:m.o=1)(q:Option Addr)(c:Nat):(⟨mkM x m,q,c⟩:MV).vals=mP x m.num (qnth m.d) m.a (qS x m.a).tag q c noTag (mkM x m).tag:=by
 rw[mkM_cells,hk,ho,mkB_1];rfl
theorem mkM_cells2(x:UInt8)(hk:m.k=2)(q:Option Addr)(c:Nat):(⟨mkM x m,q,c⟩:MV).vals=mC m.o m.num (qnth m.d) m.a q c noTag (mkM x m).tag:=by
 rw[mkM_cells,hk,mkB_2];rfl
theorem mkM_cells6(x:UInt8)(hk:m.k=6)(q:Option Addr)(c:Nat):(⟨mkM x m,q,c⟩:MV).vals=mL m.o m.num (qnth m.d) 6 m.a Req.zero.vals q c (Sha.sum (staBytes x m.a)) (mkM x m).tag:=by
 rw[mkM_cells,hk,mkB_6];rfl
def qcount(l:List QM)(i:Nat):Nat:=(l.filter fun m=>m.o == i+1).length
structure QInv(n:Nat)(r:QR):Prop where
 ok:∀m∈r.l,QOk n m
 kl:r.kn.length=n
 kn:∀i,i<n→qnth r.kn i=qcount r.l i
 len:r.l.length≤1000
 lg:r.lg≤8
 vl:r.vt.length=n
 vt:∀y∈r.vt,y≤r.lg
 cm:r.cm=qcom n r.vt r.lg
 kb:∀y∈r.kn,y≤1000
 ck:r.ck≤8
 ck4:r.ck % 4=0
 row:r.row≤8
 pd:∀c∈r.pd,1≤c∧c≤8
 pl:r.pd.length≤20
 td:r.td.length≤r.row
 ks:r.ks.length=n
 tdb:∀c∈r.td,1≤c∧c≤8
theorem strm_len(x:UInt8){l:List QM}(h:∀m∈l,QOk n m)(i:Nat):(strm (l.map (mkM x)) i).length=qcount l i:=by
 induction l with
 |nil=>rfl
 | cons m r ih =>
  have ho:=(h m List.mem_cons_self).o1;have ih:=ih fun y hy=>h y (List.mem_cons_of_mem _ hy)
  unfold strm qcount at ih⊢;rw[List.map_cons,List.filter_cons,List.filter_cons,mkM_org];by_cases e:m.o-1=i
  ·rw[if_pos (decide_eq_true e),if_pos jT,List.length_cons,List.length_cons,ih]
  ·rw[if_neg (by simp[e]),if_neg jT,ih]
theorem qcount_snoc(l:List QM)(m:QM)(i:Nat):qcount (l++[m]) i=qcount l i+(if m.o=i+1 then 1 else 0):=by
 unfold qcount;rw[List.filter_append,List.length_append];by_cases e:m.o=i+1
 ·rw[if_pos e,List.filter_cons,if_pos (by simp[e])];rfl
 ·rw[if_neg e,List.filter_cons,if_neg (by simp[e])];rfl
theorem qcount_le(l:List QM)(i:Nat):qcount l i≤l.length:=List.length_filter_le _ _
variable {r:QR}
theorem QInv.known(h:QInv n r)(x:UInt8)(i:Nat):knownS (strm (r.l.map (mkM x))) i=qnI r.kn i:=by
 unfold knownS qnI;rw[strm_len x h.ok];by_cases hi:i<n
 ·rw[h.kn i hi]
 ·rw[qnth_big (by rw[h.kl];omega)]
  have:qcount r.l i=0:=by
   unfold qcount;rw[List.length_eq_zero_iff,List.filter_eq_nil_iff];intro m hm
   have:=(h.ok m hm).on;simp;omega
  rw[this]
theorem qlast_snoc(l:List QM)(m:QM)(o:Nat):qlast (l++[m]) o=if m.o=o then m.d else qlast l o:=by
 unfold qlast;rw[List.foldl_append,List.foldl_cons,List.foldl_nil];by_cases e:m.o=o
 ·rw[if_pos e,show(m.o == o)=true from beq_iff_eq.2 e];rfl
 ·rw[if_neg e,show(m.o == o)=false from beq_eq_false_iff_ne.2 e];rfl
theorem snoc_ind{P:List α→Prop}(nil:P [])(append_singleton:∀l m,P l→P (l++[m]))(l:List α):P l:=by
 have key:∀r:List α,P r.reverse:=fun r=>by
  induction r with
  |nil=>exact nil
  |cons a r ih=>rw[List.reverse_cons];exact append_singleton _ _ ih
 rw[←List.reverse_reverse l];exact key _
theorem lastD_snoc(l:List Msg)(m:Msg):lastD (l++[m])=m.deps:=by
 unfold lastD;rw[List.getLast?_append];rfl
theorem lastD_q(x:UInt8):∀(l:List QM),(∀m∈l,QOk n m)→∀o,1≤o→lastD (strm (l.map (mkM x)) (o-1))=qnI (qlast l o):=by
 intro l
 induction l using snoc_ind with
 |nil=>intro _ o _;rfl
 | append_singleton l m ih =>
  intro h o ho;have hm:=(h m jI).o1;have ih:=ih (fun y hy=>h y (List.mem_append_left _ hy)) o ho
  rw[List.map_append,List.map_cons,List.map_nil,strm_snoc,qlast_snoc];unfold addS updF;rw[mkM_org];by_cases e:m.o=o
  ·rw[if_pos jB,if_pos e,lastD_snoc,mkM_d]
  ·rw[if_neg jB,if_neg e,ih]
theorem qlast_len:∀(l:List QM),(∀m∈l,QOk n m)→∀o,(qlast l o).length=n∨qlast l o=[]:=by
 intro l
 induction l using snoc_ind with
 |nil=>intro _ o;exact .inr rfl
 | append_singleton l m ih =>
  intro h o;rw[qlast_snoc];by_cases e:m.o=o
  ·rw[if_pos e];exact .inl (h m jI).dl
  ·rw[if_neg e];exact ih (fun y hy=>h y (List.mem_append_left _ hy)) o
theorem qlast_none:∀(l:List QM) (o:Nat),1≤o→qcount l (o-1)=0→qlast l o=[]:=by
 intro l
 induction l using snoc_ind with
 |nil=>intro o _ _;rfl
 | append_singleton l m ih =>
  intro o ho h;rw[qcount_snoc]at h;rw[qlast_snoc];by_cases e:m.o=o
  ·rw[if_pos jB]at h;omega
  ·rw[if_neg e];exact ih o ho jB
theorem qle_iff:∀(a b:List Nat),a.length=b.length→(qle a b=true↔∀i,qnth a i≤qnth b i)
 | [],[],_=>⟨fun _ i=>by rw[qnth_big (Nat.zero_le _)];exact Nat.zero_le _,fun _=>rfl⟩
 | x :: a, y :: b, h => by
  have ih:=qle_iff a b jc
  show(Nat.ble x y&&qle a b)=true↔_
  rw[Bool.and_eq_true,ih,Nat.ble_eq]
  constructor
  ·rintro⟨h1,h2⟩ i
   cases i with
   |zero=>exact h1
   |succ i=>exact h2 i
  ·intro h
   exact⟨h 0,fun i=>h (i+1)⟩
theorem above_q(h11:n≤11){a b:List Nat}(ha:a.length=n)(hb:b.length=n):aboveB (qnI a) (qnI b)= !(qle a b):=by
 rw[Bool.eq_iff_iff];have h1:=qle_iff a b jB
 have h2:aboveB (qnI a) (qnI b)=false↔∀i,qnth a i≤qnth b i:=by
  rw[aboveB_false];constructor
  ·intro h i;by_cases hi:i<n
   ·have:=h i jB;unfold qnI at this
    omega
   ·rw[qnth_big (l:=a) jB];exact Nat.zero_le _
  ·intro h i _
   have:=h i;unfold qnI
   omega
 cases hq:qle a b with
 | true =>
  rw[h2.2 (h1.1 hq)];simp
 | false =>
  cases hab:aboveB (qnI a) (qnI b)with
  |true=>simp
  | false =>
   have:=h1.2 (h2.1 hab);rw[hq]at this;cases this
theorem chk_q(h11:n≤11)(h:QInv n r)(x:UInt8)(hm:QOk n m):chk n (strm (r.l.map (mkM x))) (mkM x m)=((qchk r m:Nat):Int):=by
 have hk:(strm (r.l.map (mkM x)) (m.o-1)).length=qnth r.kn (m.o-1):=by
  have:=hm.o1
  have:=hm.on;rw[strm_len x h.ok,h.kn _ jB]
 rw[chk_as (mkM_fits h11 x hm) (mkM_right h11 x hm) (mkM_org x m) (mkM_num x m) (mkM_d x m) hk];rw[lastD_q x r.l h.ok m.o hm.o1,show knownS (strm (r.l.map (mkM x)))=qnI r.kn from funext (h.known x),above_q h11 hm.dl h.kl];have hz:qnth r.kn (m.o-1)=qcount r.l (m.o-1):=h.kn _ (by have:=hm.o1;have:=hm.on;omega);generalize hkk:qnth r.kn (m.o-1)=k at hz⊢
 have hla:0<k→aboveB (qnI (qlast r.l m.o)) (qnI m.d)= !(qle (qlast r.l m.o) m.d):=fun hp=>by
  rcases qlast_len r.l h.ok m.o with e|e
  ·exact above_q h11 e hm.dl
  ·rw[e];have:aboveB (qnI []) (qnI m.d)=false:=aboveB_false.2 fun i _=>by unfold qnI;rw[qnth_big (l:=[]) (Nat.zero_le _)];omega
   rw[this];rfl
 have hl0:k=0→qlast r.l m.o=[]:=fun e=>qlast_none r.l m.o hm.o1 jB;unfold qchk
 rw[hkk];by_cases c1:m.num≤k
 ·rw[if_pos jB,Nat.ble_eq_true_of_le c1];rfl
 ·have e1:Nat.ble m.num k=false:=by rw[←Bool.not_eq_true,Nat.ble_eq];exact c1
  rw[if_neg jB,e1,cond_false];by_cases c2:m.num=k+1
  ·by_cases hp : 0 < k
   ·rw[hla hp,show(m.num == k+1)=true by simp[c2],Bool.true_and]
    cases hq:qle (qlast r.l m.o) m.d with
    |false=>rw[if_pos ⟨by omega,hp,rfl⟩];rfl
    | true =>
     rw[if_neg (by rintro⟨_,_,h⟩;cases h)];simp only[Bool.not_true,cond_false];rw[show Nat.blt (k+1) m.num=false by rw[←Bool.not_eq_true,Nat.blt_eq];omega]
     cases hd:qle m.d r.kn with
     |true=>rw[if_neg (fun h=>by rcases h with h|h<;>first|omega|cases h)];rfl
     |false=>rw[if_pos (.inr rfl)];rfl
   ·have hk0:k=0:=jB
    rw[if_neg (by rintro⟨_,h,_⟩;omega),hl0 hk0];rw[show qle [] m.d=true from rfl,Bool.not_true,Bool.and_false,cond_false];rw[show Nat.blt (k+1) m.num=false by rw[←Bool.not_eq_true,Nat.blt_eq];omega]
    cases hd:qle m.d r.kn with
    |true=>rw[if_neg (fun h=>by rcases h with h|h<;>first|omega|cases h)];rfl
    |false=>rw[if_pos (.inr rfl)];rfl
  ·rw[if_neg (by rintro⟨h,_⟩;omega),show(m.num == k+1)=false by simp[c2],Bool.false_and,cond_false,if_pos (.inl jB)];rw[show Nat.blt (k+1) m.num=true by rw[Nat.blt_eq];omega];rfl
theorem qinc_len:∀(l:List Nat) (i:Nat),(qinc l i).length=l.length
 | [],_=>rfl
 |_::_,0=>rfl
 |x::r,i+1=>by show(qinc r i).length+1=r.length+1;rw[qinc_len r i]
theorem qinc_at:∀(l:List Nat) (i j:Nat),i<l.length→qnth (qinc l i) j=if j=i then qnth l i+1 else qnth l j
 | [],_,_,h=>by cases h
 | x :: r, 0, j, _ => by
  cases j with
  |zero=>rfl
  |succ j=>rw[if_neg jB];rfl
 | x :: r, i + 1, j, h => by
  cases j with
  |zero=>rw[if_neg jB];rfl
  | succ j =>
   have ih:=qinc_at r i j jc
   show qnth (qinc r i) j=_
   rw[ih]
   by_cases e:j=i
   ·rw[if_pos e,if_pos jB];rfl
   ·rw[if_neg e,if_neg jB];rfl
theorem qinc_upd{l:List Nat}{i:Nat}(h:i<l.length):qnth (qinc l i)=updF (qnth l) i (qnth l i+1):=by
 funext j;rw[qinc_at l i j h];rfl
theorem qinc_mem{l:List Nat}{i:Nat}(hl:i<l.length)(h:∀y∈l,y≤b)(hb:qnth l i+1≤b):∀y∈qinc l i,y≤b:=fun y hy=>by
 obtain⟨j,hj,rfl⟩:=List.getElem_of_mem hy
 have e:(qinc l i)[j]=qnth (qinc l i) j:=by
  have:=qnth_some hj;rw[List.getElem?_eq_getElem hj]at this
  exact Option.some.inj this
 rw[e,qinc_at l i j hl]
 split
 ·exact hb
 ·exact qnth_le h j
structure QTook(n i:Nat)(r:QR)(m:QM)(r':QR):Prop where
 c0:qchk r m=0
 ok:QOk n m
 len:r.l.length<1000
 l:r'.l=r.l++[m]
 kn:r'.kn=qinc r.kn (m.o-1)
 ks:r'.ks=r.ks
 row:r'.row=r.row
 pd:r'.pd=r.pd
 td:r'.td=r.td
 runs:r'.runs=r.runs
 fin:r'.fin=r.fin
 done:r'.done=r.done
 how:(m.k=1∧m.o=1∧m.num=r.lg+1∧m.a=r.lg+1∧r'.lg=r.lg+1∧r'.vt=qinc r.vt 0∧r'.cm=qcom n (qinc r.vt 0) (r.lg+1)∧r'.ck=r.ck)
  ∨(m.k=2∧m.o≠1∧m.a=qnth r.vt (m.o-1)+1∧m.a≤qnth m.d 0∧m.a≤r.lg∧r'.lg=r.lg∧r'.vt=qinc r.vt (m.o-1)∧r'.cm=qcom n (qinc r.vt (m.o-1)) r.lg∧r'.ck=r.ck)
  ∨(m.k=6∧r'.lg=r.lg∧r'.vt=r.vt∧r'.cm=r.cm∧r'.ck=(bif m.o == i&&m.a == r.ck+4 then m.a else r.ck))
variable {r':QR}
theorem qtake_is{i:Nat}(h:qtake n i r m=some r'):QTook n i r m r':=by
 unfold qtake at h
 cases hc:(qchk r m == 0&&m.ok n&&Nat.blt r.l.length 1000)with
 |false=>rw[hc]at h;cases h
 | true =>
  rw[hc,cond_true]at h;simp only[Bool.and_eq_true,beq_iff_eq,Nat.blt_eq]at hc;obtain⟨⟨h0,h1⟩,h2⟩:=hc;have hok:=QOk.of h1
  cases k1:(m.k == 1)with
  | true =>
   rw[k1,cond_true]at h
   cases hg:(m.o == 1&&m.num == r.lg+1&&m.a == r.lg+1)with
   |false=>rw[hg]at h;cases h
   | true =>
    rw[hg,cond_true]at h;simp only[Bool.and_eq_true,beq_iff_eq]at hg k1;obtain⟨⟨g1,g2⟩,g3⟩:=hg;cases h
    exact⟨h0,hok,h2,rfl,by rw[g1],rfl,rfl,rfl,rfl,rfl,rfl,rfl,.inl ⟨k1,g1,g2,g3,rfl,rfl,rfl,rfl⟩⟩
  | false =>
   rw[k1,cond_false]at h
   cases k2:(m.k == 2)with
   | true =>
    rw[k2,cond_true]at h
    cases hg:(!(m.o == 1)&&m.a == qnth r.vt (m.o-1)+1&&Nat.ble m.a (qnth m.d 0)&&Nat.ble m.a r.lg)with
    |false=>rw[hg]at h;cases h
    | true =>
     rw[hg,cond_true]at h;simp only[Bool.and_eq_true,beq_iff_eq,Nat.ble_eq,Bool.not_eq_true',beq_eq_false_iff_ne,ne_eq]at hg k2;obtain⟨⟨⟨g1,g2⟩,g3⟩,g4⟩:=hg;cases h
     exact⟨h0,hok,h2,rfl,rfl,rfl,rfl,rfl,rfl,rfl,rfl,rfl,.inr (.inl ⟨k2,g1,g2,g3,g4,rfl,rfl,rfl,rfl⟩)⟩
   | false =>
    rw[k2,cond_false]at h;simp only[beq_eq_false_iff_ne,ne_eq]at k1 k2;have k6:m.k=6:=by have:=hok.k;omega
    cases h
    exact⟨h0,hok,h2,rfl,rfl,rfl,rfl,rfl,rfl,rfl,rfl,rfl,.inr (.inr ⟨k6,rfl,rfl,rfl,rfl⟩)⟩
theorem qchk_zero(h:qchk r m=0):m.num=qnth r.kn (m.o-1)+1∧qle m.d r.kn=true:=by
 unfold qchk at h
 cases c1:Nat.ble m.num (qnth r.kn (m.o-1))with
 |true=>rw[c1]at h;cases h
 | false =>
  rw[c1,cond_false]at h
  cases c2:(m.num == qnth r.kn (m.o-1)+1&& !(qle (qlast r.l m.o) m.d))with
  |true=>rw[c2]at h;cases h
  | false =>
   rw[c2,cond_false]at h
   cases c3:(Nat.blt (qnth r.kn (m.o-1)+1) m.num|| !(qle m.d r.kn))with
   |true=>rw[c3]at h;cases h
   | false =>
    simp only[Bool.or_eq_false_iff,Bool.not_eq_false']at c3;have h1:¬m.num≤qnth r.kn (m.o-1):=by rw[←Nat.ble_eq,c1];decide
    have h2:¬qnth r.kn (m.o-1)+1<m.num:=by rw[←Nat.blt_eq,c3.1];decide
    exact⟨by omega,c3.2⟩
theorem QTook.dle{i:Nat}(t:QTook n i r m r')(h:QInv n r):∀j,qnth m.d j≤qnth r.kn j:=
 (qle_iff _ _ (by rw[t.ok.dl,h.kl])).1 (qchk_zero t.c0).2
theorem QTook.next{i:Nat}(t:QTook n i r m r')(h:QInv n r):QInv n r':=by
 have h1:=t.ok.o1;have h2:=t.ok.on
 have hle:=t.len;have ha8:=t.ok.a8
 have hkc:∀j,j<n→qnth r'.kn j=qcount r'.l j:=fun j hj=>by
  rw[t.kn,t.l,qcount_snoc,qinc_at _ _ _ (by rw[h.kl];omega)];by_cases e:j=m.o-1
  ·rw[if_pos e,if_pos jB,←e,h.kn j hj]
  ·rw[if_neg e,if_neg jB,h.kn j hj];rfl
 have hkb:∀y∈r'.kn,y≤1000:=fun y hy=>by
  obtain⟨j,hj,rfl⟩:=List.getElem_of_mem hy;have e:=qnth_some hj;rw[List.getElem?_eq_getElem hj]at e
  rw[Option.some.inj e];have hj2:j<n:=by rw[t.kn,qinc_len,h.kl]at hj;exact hj
  rw[hkc j hj2]
  have:=qcount_le r'.l j;rw[t.l,List.length_append]at this
  rw[t.l];have:[m].length=1:=rfl;omega
 have base:r'.vt.length=n→(∀y∈r'.vt,y≤r'.lg)→r'.lg≤8→r'.cm=qcom n r'.vt r'.lg→r'.ck≤8∧r'.ck % 4=0→QInv n r':=fun e1 e2 e3 e4 e5=>⟨fun y hy=>by
  rw[t.l]at hy;rcases List.mem_append.1 hy with g|g
  ·exact h.ok y g
  ·rw[List.mem_singleton.1 g];exact t.ok,by rw[t.kn,qinc_len,h.kl],hkc,by rw[t.l,List.length_append];show r.l.length+1≤1000;omega,e3,e1,e2,e4,hkb,e5.1,e5.2,by rw[t.row];exact h.row,by rw[t.pd];exact h.pd,by rw[t.pd];exact h.pl,by rw[t.td,t.row];exact h.td,by rw[t.ks];exact h.ks,by rw[t.td];exact h.tdb⟩
 rcases t.how with⟨k1,k2,k3,k4,e1,e2,e3,e4⟩|⟨k1,k2,k3,k4,k5,e1,e2,e3,e4⟩|⟨k1,e1,e2,e3,e4⟩
 ·refine base (by rw[e2,qinc_len,h.vl]) ?_ (by rw[e1];omega) (by rw[e3,e2,e1]) (by rw[e4];exact⟨h.ck,h.ck4⟩);rw[e2,e1];refine qinc_mem (by rw[h.vl];omega) (fun y hy=>Nat.le_succ_of_le (h.vt y hy)) ?_
  have:=qnth_le h.vt 0;omega
 ·refine base (by rw[e2,qinc_len,h.vl]) ?_ (by rw[e1];exact h.lg) (by rw[e3,e2,e1]) (by rw[e4];exact⟨h.ck,h.ck4⟩);rw[e2,e1];exact qinc_mem (by rw[h.vl];omega) h.vt jB
 ·exact base (by rw[e2,h.vl]) (by rw[e2,e1];exact h.vt) (by rw[e1];exact h.lg) (by rw[e3,e2,e1];exact h.cm) (by
   rw[e4]
   cases hb:(m.o == i&&m.a == r.ck+4)with
   |false=>exact⟨h.ck,h.ck4⟩
   | true =>
    simp only[Bool.and_eq_true,beq_iff_eq]at hb
    have:=h.ck4;rw[cond_true]
    omega)
theorem blt_t{a:Nat}(h:a<b):Nat.blt a b=true:=Nat.ble_eq_true_of_le h
theorem range_qnth(l:List Nat):(List.range l.length).map (qnth l)=l:=by
 apply List.ext_getElem?;intro i;rw[List.getElem?_map];by_cases h:i<l.length
 ·rw[List.getElem?_range h,qnth_some h];rfl
 ·rw[List.getElem?_eq_none jc,List.getElem?_eq_none jB];rfl
theorem qcnt_is(k:Nat):∀l:List Nat,qcnt (Nat.ble k) l=(l.map fun y=>((y:Nat):Int)).countP fun z=>decide ((k:Int)≤z)
 | []=>rfl
 | y :: r => by
  have ih:=qcnt_is k r
  unfold qcnt
  rw[List.map_cons,List.countP_cons,←ih]
  by_cases h:k≤y
  ·rw[Nat.ble_eq_true_of_le h,cond_true,if_pos jT]
  ·have:Nat.ble k y=false:=by rw[←Bool.not_eq_true,Nat.ble_eq];exact h
   rw[this,cond_false,if_neg jT];rfl
theorem cntV_q{l:List Nat}(h:l.length=n)(k:Nat):cntV n (qnth l) k=qcnt (Nat.ble k) l:=by
 rw[qcnt_is];unfold cntV;subst h;rw[show(fun o=>((qnth l o:Nat):Int))=(fun y=>((y:Nat):Int)) ∘ qnth l from rfl,←List.map_map,range_qnth]
theorem cmtV_q{n:Nat}{l:List Nat}(h:l.length=n):∀m,cmtV n (qnth l) m=qcom n l m
 |0=>rfl
 | m + 1 => by
  have ih:=cmtV_q h m
  unfold cmtV qcom
  rw[cntV_q h,ih]
  by_cases g:n / 2<qcnt (Nat.ble (m+1)) l
  ·rw[if_pos g,blt_t g];rfl
  ·have:Nat.blt (n / 2) (qcnt (Nat.ble (m+1)) l)=false:=by rw[←Bool.not_eq_true,Nat.blt_eq];exact g
   rw[if_neg g,this];rfl
theorem QInv.cmt(h:QInv n r):cmtV n (qnth r.vt) r.lg=r.cm:=by rw[cmtV_q h.vl,h.cm]
theorem QInv.cm8(h:QInv n r):r.cm≤8:=by
 have:=cmtV_le n (qnth r.vt) r.lg
 have:=h.lg;rw[h.cmt]at *
 omega
theorem QInv.vt8(h:QInv n r)(o:Nat):qnth r.vt o≤8:=Nat.le_trans (qnth_le h.vt o) h.lg
theorem sayX_q(o:Nat)(x:UInt8)(r:QR)(hc:¬r.ck+4≤r.row):match qbody (o+1) r with
  |some (k,a)=>sayX (o+1) x r.lg (qnth r.vt o) r.pd=((mkB x k a).vals none 0,true)∧(k=1∨k=2)
  |none=>sayX (o+1) x r.lg (qnth r.vt o) r.pd=(bodK 0 0,false):=by
 have h1:Nat.ble (r.ck+4) r.row=false:=by rw[←Bool.not_eq_true,Nat.ble_eq];exact hc
 have hf:(fun c=>Nat.blt r.lg c)=fun c=>decide (r.lg<c):=by
  funext c;rw[Bool.eq_iff_iff,Nat.blt_eq,decide_eq_true_eq]
 unfold qbody;rw[h1,cond_false,hf,Nat.add_sub_cancel];by_cases ho:o=0
 ·subst ho;rw[show(0+1 == 1)=true from rfl,cond_true];unfold sayX sayP;rw[if_pos (rfl:0+1=1)]
  cases hq:r.pd.find? fun c=>decide (r.lg<c)with
  | none =>
   show(if(bodK 0 0,false).2=true then _ else _)=_;rw[if_neg jE,if_neg jB]
  |some c=>exact⟨rfl,.inl rfl⟩
 ·rw[show(o+1 == 1)=false by simp[ho],cond_false];unfold sayX sayP;rw[if_neg (show¬(o+1=1) by omega),if_neg jE];by_cases hv:qnth r.vt o<r.lg
  ·rw[blt_t hv,cond_true,if_pos ⟨by omega,hv⟩];exact⟨rfl,.inr rfl⟩
  ·have:Nat.blt (qnth r.vt o) r.lg=false:=by rw[←Bool.not_eq_true,Nat.blt_eq];exact hv
   rw[this,cond_false,if_neg (by rintro⟨_,h⟩;exact hv h)]
abbrev Nm:=Int×Int
def nmV(k:Nm):List Value:=[.int .i64 k.1,.int .u64 k.2]
theorem nmV_len(k:Nm):(nmV k).length=2:=rfl
def nmAt(l:List Nm)(k:Nat):Nm:=l.getD k (0,0)
variable {l:List Nm}
theorem zbw{k:Nat}(h:k<l.length):l[k]?=some (nmAt l k):=by
 unfold nmAt;exact qcl
theorem nmAt_of{k:Nat}{x:Nm}(h:l[k]?=some x):nmAt l k=x:=by
 unfold nmAt;rw[List.getD_eq_getElem?_getD,h];rfl
def swp(l:List Nm)(i j:Nat):List Nm:=(l.set i (nmAt l j)).set j (nmAt l i)
theorem swp_len(l:List Nm)(i j:Nat):(swp l i j).length=l.length:=by
 unfold swp;rw[List.length_set,List.length_set]
theorem swp_at{i:Nat}(hi:i<l.length)(hj:j<l.length)(k:Nat):nmAt (swp l i j) k=if k=j then nmAt l i else if k=i then nmAt l j else nmAt l k:=by
 unfold swp;by_cases h1:k=j
 ·subst h1;rw[if_pos rfl];refine nmAt_of ?_;rw[List.getElem?_set_self (by rw[List.length_set];exact hj)]
 ·rw[if_neg h1];by_cases h2:k=i
  ·subst h2;rw[if_pos rfl];refine nmAt_of ?_;rw[List.getElem?_set_ne (fun e=>h1 e.symm),List.getElem?_set_self hi]
  ·rw[if_neg h2];show List.getD _ _ _=List.getD _ _ _;rw[List.getD_eq_getElem?_getD,List.getD_eq_getElem?_getD,List.getElem?_set_ne (fun e=>h1 e.symm),List.getElem?_set_ne (fun e=>h2 e.symm)]
theorem nm_mem{x:Nm}:x∈l↔∃k,k<l.length∧nmAt l k=x:=by
 constructor
 ·intro h;obtain⟨k,hk⟩:=List.getElem?_of_mem h;exact⟨k,(List.getElem?_eq_some_iff.1 hk).1,nmAt_of hk⟩
 ·rintro⟨k,hk,rfl⟩;exact List.mem_of_getElem? (zbw hk)
theorem swp_mem{i:Nat}(hi:i<l.length)(hj:j<l.length)(x:Nm):x∈swp l i j↔x∈l:=by
 rw[nm_mem,nm_mem];constructor
 ·rintro⟨k,hk,hx⟩;rw[swp_len]at hk;rw[swp_at hi hj]at hx;by_cases h1:k=j
  ·rw[if_pos h1]at hx;exact⟨i,hi,hx⟩
  ·rw[if_neg h1]at hx;by_cases h2:k=i
   ·rw[if_pos h2]at hx;exact⟨j,hj,hx⟩
   ·rw[if_neg h2]at hx;exact⟨k,hk,hx⟩
 ·rintro⟨k,hk,hx⟩;by_cases h1:k=j
  ·refine⟨i,by rw[swp_len];exact hi,?_⟩;rw[swp_at hi hj];by_cases h2:i=j
   ·rw[if_pos h2,h2,←h1];exact hx
   ·rw[if_neg h2,if_pos rfl,←h1];exact hx
  ·by_cases h2:k=i
   ·refine⟨j,by rw[swp_len];exact hj,?_⟩;rw[swp_at hi hj,if_pos rfl,←h2];exact hx
   ·refine⟨k,by rw[swp_len];exact hk,?_⟩;rw[swp_at hi hj,if_neg h1,if_neg h2];exact hx
def Heap(l:List Nm):Prop:=∀k,0<k→k<l.length→(nmAt l ((k-1) / 2)).1≤(nmAt l k).1
def HeapBut(l:List Nm)(j:Nat):Prop:=(∀k,0<k→k<l.length→k≠j→(nmAt l ((k-1) / 2)).1≤(nmAt l k).1)∧(∀k,0<k→k<l.length→(k-1) / 2=j→0<j→(nmAt l ((j-1) / 2)).1≤(nmAt l k).1)
theorem Heap.nil:Heap []:=fun k _ h=>by simp at h
theorem Heap.root(h:Heap l):∀k,k<l.length→(nmAt l 0).1≤(nmAt l k).1:=fun k=>by
 induction k using Nat.strongRecOn with
 | ind k ih =>
  intro hk
  by_cases h0:k=0
  ·subst h0;exact Int.le_refl _
  ·exact Int.le_trans (ih ((k-1) / 2) jB jB) (h k jB hk)
theorem Heap.least(h:Heap l){x:Nm}(hx:x∈l):(nmAt l 0).1≤x.1:=by
 obtain⟨k,hk,rfl⟩:=nm_mem.1 hx;exact h.root k hk
theorem Heap.push(h:Heap l)(x:Nm):HeapBut (l++[x]) l.length:=by
 have hat:∀k,k<l.length→nmAt (l++[x]) k=nmAt l k:=fun k hk=>nmAt_of (by rw[List.getElem?_append_left hk];exact zbw hk);refine⟨fun k h0 hk hne=>?_,fun k h0 hk hp h1=>?_⟩
 ·rw[List.length_append]at hk;have hk':k<l.length:=by simp at hk;omega
  rw[hat k hk',hat _ jB];exact h k h0 hk'
 ·rw[List.length_append]at hk;simp at hk;omega
theorem HeapBut.zero(h:HeapBut l 0):Heap l:=fun k h0 hk=>h.1 k h0 hk jB
theorem HeapBut.fine(h:HeapBut l j)(hj:(nmAt l ((j-1) / 2)).1≤(nmAt l j).1):Heap l:=fun k h0 hk=>by
 by_cases e:k=j
 ·subst e;exact hj
 ·exact h.1 k h0 hk e
theorem HeapBut.step(h:HeapBut l j)(h0:0<j)(hj:j<l.length)(hlt:(nmAt l j).1<(nmAt l ((j-1) / 2)).1):HeapBut (swp l ((j-1) / 2) j) ((j-1) / 2):=by
 obtain⟨i,hi⟩:∃i,i=(j-1) / 2:=⟨_,rfl⟩;rw[←hi]at hlt⊢;have hij:i<j:=jB
 have hil:i<l.length:=jB
 have hat:=swp_at hil hj;refine⟨fun k k0 hk hne=>?_,fun k k0 hk hp hi0=>?_⟩
 ·rw[swp_len]at hk;rw[hat k,hat ((k-1) / 2),if_neg hne];by_cases e:k=j
  ·subst e;rw[if_pos rfl,←hi,if_neg jB,if_pos rfl];omega
  ·rw[if_neg e];by_cases e1:(k-1) / 2=j
   ·rw[if_pos e1]
    have:=h.2 k k0 hk e1 h0;rw[←hi]at this
    exact this
   ·rw[if_neg e1];by_cases e2:(k-1) / 2=i
    ·rw[if_pos e2]
     have:=h.1 k k0 hk e;rw[e2]at this
     omega
    ·rw[if_neg e2];exact h.1 k k0 hk e
 ·rw[swp_len]at hk;have hpi:(i-1) / 2<i:=jB
  rw[hat k,hat ((i-1) / 2),if_neg jB,if_neg jB];have hii:=h.1 i hi0 hil jB;by_cases e:k=j
  ·rw[if_pos e];exact hii
  ·rw[if_neg e,if_neg jB]
   have:=h.1 k k0 hk e;rw[hp]at this
   omega
variable {t:TypeId}
theorem run_tinfo{i:TypeInfo}(h:P.info? t=some i)(w:World):(typeInfo t).run P w= .ok i w:=by
 unfold typeInfo;simp only[Sem.run_bind,run_program,Result.andThen_ok,h,Sem.run_pure]
def notI:TypeDesc→Bool
 | .interface _=>false
 |_=>true
def metB(P:Program)(t:TypeId)(name:String)(f:FuncId)(b:Bool):Bool:=match P.info? t with
 | some i => match i.methods.find? (·.name == name) with
  |some m=>m.path.isEmpty&&(match m.func with|some (g,c)=>Nat.beq g f&&(c == b)|none=>false)
  |none=>false
 |none=>false
variable {name:String}
theorem metB_spec{f:FuncId}{b:Bool}(h:metB P t name f b=true):∃i m,P.info? t=some i∧i.methods.find? (·.name == name)=some m∧m.path= #[]∧m.func=some (f,b):=by
 unfold metB at h
 cases h1:P.info? t with
 |none=>rw[h1]at h;cases h
 | some i =>
  rw[h1]at h;simp only at h
  cases h2:i.methods.find? (·.name == name)with
  |none=>rw[h2]at h;cases h
  | some m =>
   rw[h2]at h;simp only[Bool.and_eq_true]at h;obtain⟨h3,h4⟩:=h;refine⟨i,m,rfl,h2,?_,?_⟩
   ·simpa using h3
   ·cases h5:m.func with
    |none=>rw[h5]at h4;cases h4
    | some p =>
     obtain⟨g,c⟩:=p;rw[h5]at h4;simp only[Bool.and_eq_true,beq_iff_eq]at h4;rw[Nat.eq_of_beq_eq_true h4.1,h4.2]
variable {x:Operand} {dt:TypeDesc} {xt:TypeId}
section rules
variable {P:Program} {base:World} {n:Nat} {L:Env} {f:Frag} {A:List HP} {q:Post}
variable {l rest:List Oper} {d:Nat} {ty:TypeId} {pos:String} {af:Array Edge} {gd:Option (Nat × Bool)}
theorem Db[hu:Und P t dt](hn:notI dt=true)(hw:want? l L gd=true)(hx:ev? L x=some v)(hd:Nat.ble (d+1) n=true)
  (k:H P base n ((d,.iface t v)::L) f A (.ops l rest q)):H P base n L f A (.ops l (⟨some d,.makeInterface t x,ty,pos,af,gd⟩::rest) q):=
 AK hw hd (fun a w hf _=>by
  have h1:=hu.run w
  cases dt<;>simp[notI]at hn<;>simp[execOp,Instr.makeInterface,hf.eval hx,h1]) k
theorem FL[hu:Und P t dt](hn:notI dt=true)(hw:want? l L gd=true)(hx:ev? L x=some (.iface t v))(hd:Nat.ble (d+1) n=true)
  (k:H P base n ((d,v)::L) f A (.ops l rest q)):H P base n L f A (.ops l (⟨some d,.typeAssert x xt t false,ty,pos,af,gd⟩::rest) q):=
 AK hw hd (fun a w hf _=>by
  have h1:=hu.run w
  cases dt<;>simp[notI]at hn<;>simp[execOp,Instr.typeAssert,hf.eval hx,h1]) k
theorem FM{V:List HP}[hu:Und P t dt](hn:notI dt=true)(hw:want? l L gd=true)(hx:ev? L x=some (.iface t v))(hd:Nat.ble (d+1) n=true){lst:Lst}{ti:Nat}{tt:List (Nat×Bool)}
  (k:HQ V ⟨lst.setIfInBounds ti true,tt⟩ P base n ((d,v)::L) f A (.ops l rest q)):HQ V ⟨lst,(ti,false)::tt⟩ P base n L f A (.ops l (⟨some d,.typeAssert x xt t false,ty,pos,af,gd⟩::rest) q):=
 As hw hd (fun a w hf _=>by
  have h1:=hu.run w
  cases dt<;>simp[notI]at hn<;>simp[execOp,Instr.typeAssert,hf.eval hx,h1]) k
end rules
variable {e:TypeId}
theorem run_method_p[hu:Und P t (.pointer e)]{f:FuncId}(h:metB P t name f true=true)(k:Nat)(v:Value)(w:World):(method (k+1) t v name).run P w= .ok (f,v) w:=by
 obtain⟨i,m,h1,h2,h3,h4⟩:=metB_spec h;unfold method;have h5:=run_tinfo h1 w;have h6:=hu.run w
 simp only[Sem.run_bind,h5,Result.andThen_ok,h2,h3,h4];simp[follow,receiverAt,Place.get,h6]
theorem wrap_some (t : TypeId) (a : Addr) (name : String) : Builtin.ssaWrapNilChk_ #[t] t #[.pointer (some a), strVal "", strVal name] = pure (.pointer (some a)) := rfl
variable {off:Nat} {w:World}
theorem run_method_l[hu:Und P t (.pointer e)][he:Und P e dt]{f:FuncId}(h:metB P t name f false=true)(ha:aggD dt=false)(k:Nat)(hv:w.cell? ⟨b,off,none⟩=some v):(method (k+1) t (.pointer (some ⟨b,off,none⟩)) name).run P w= .ok (f,v) w:=by
 obtain⟨i,m,h1,h2,h3,h4⟩:=metB_spec h;unfold method;have h5:=run_tinfo h1 w;have h6:=hu.run w
 have h7:=zaz (P:=P) he ha hv;unfold Instr.loadAt Instr.sureAddr at h7
 simp only[Sem.run_bind,h5,Result.andThen_ok,h2,h3,h4];simp only[Array.toList_empty,follow,Sem.run_bind,Sem.run_pure,Result.andThen_ok,receiverAt,h6,Place.get,Array.isEmpty_empty,if_true,wrap_some,asAddr]
 have h8:(loadVar e ⟨b,off,none⟩).run P w= .ok v w:=by
  simpa only[Sem.run_bind,Sem.run_pure,Result.andThen_ok]using h7
 simp only[h8,Result.andThen_ok]
variable {rv:Value} {xs:List Operand} {vs:List Value} {ats:Array TypeId}
theorem run_enterM[hfun:Fun P fid](a:Act){dd:Option Tmp}{ty:TypeId}{pos:String}{af:Array Edge}{gd:Option (Nat×Bool)}(hx:a.eval x= .iface t v)(hargs:xs.map a.eval=vs)
  (hm:∀k,(method (k+1) t v name).run P w= .ok (fid,rv) w) :
  (execOp a.eval ⟨dd,.call ⟨.invoke x name,xs.toArray,ats⟩,ty,pos,af,gd⟩).run P w= .ok (.enter fid (rv::vs).toArray) w:=by
 obtain⟨fn,h1,h2,h3⟩:=hfun.eq;have e1:(#[a.eval x]++Array.map a.eval xs.toArray:Array Value)=(.iface t v::vs).toArray:=by simp[hargs,hx]
 have e3:((.iface t v::vs).toArray:Array Value).extract 1 (Value.iface t v::vs).toArray.size=vs.toArray:=by simp
 have hm':=hm (P.types.size+(Made.depth-1));have e4:P.types.size+(Made.depth-1)+1=P.types.size+Made.depth:=rfl
 rw[e4]at hm'
 have e2:(execOp a.eval ⟨dd,.call ⟨.invoke x name,xs.toArray,ats⟩,ty,pos,af,gd⟩).run P w=Sem.run P (callFunc fid (#[rv]++vs.toArray)) w:=by
  simp only[execOp,resolve,Sem.run_bind,Sem.run_pure,Result.andThen_ok,e1,invoke];simp only[List.getElem?_toArray,List.getElem?_cons_zero,e3,callMethod,Sem.run_bind,run_program,Result.andThen_ok,hm']
 rw[e2];unfold callFunc;simp only[Sem.run_bind,run_program,Result.andThen_ok,h1,h2,h3,Bool.false_eq_true,if_false,Sem.run_pure];simp
variable {R:Value→Frag→List HP→Prop}
section
variable {P:Program} {base:World} {n:Nat} {L:Env} {f f':Frag} {A A':List HP} {q:Post}
variable {l rest:List Oper} {d:Nat} {ty:TypeId} {pos:String} {af:Array Edge} {gd:Option (Nat × Bool)}
theorem Ek[hu:Und P t (.pointer e)](fid':FuncId)(hm:metB P t name fid' true=true)(hff:fid'=fid)[hfun:Fun P fid](hx:ev? L x=some (.iface t rv))(hw:want? l L gd=true)(hd:Nat.ble (d+1) n=true)
  (hxs:evs? L xs=some vs) (hc:Fn P fid (rv::vs) f A R)
  (k:∀v f' A',R v f' A'→H P base n ((d,v)::L) f' A' (.ops l rest q)) :
  H P base n L f A (.ops l (⟨some d,.call ⟨.invoke x name,xs.toArray,ats⟩,ty,pos,af,gd⟩::rest) q):=.mk fun a w hf s=>by
 subst hff
 show wpList P l.toArray (q.den P) _ a w
 unfold wpList
 rw[if_pos (hf.want (o:=⟨some d,_,ty,pos,af,gd⟩) hw)]
 refine .inl ?_
 have hrun:=run_enterM (P:=P) (dd:=some d) (ats:=ats) (ty:=ty) (pos:=pos) (af:=af) (gd:=gd) (w:=w) a (fid:=fid') (name:=name) (rv:=rv) (hf.eval hx) (hf.evals hxs) (fun k=>run_method_p hm k rv w)
 simp only[Oper.wp,hrun,Oper.upon]
 refine(hc base w s).mono ?_
 rintro e w' ⟨v,f',A',rfl,hr,s'⟩
 exact(k v f' A' hr).out _ _ (hf.put (Nat.le_of_ble_eq_true hd) v) s'
theorem FN[hu:Und P t (.pointer e)][he:Und P e dt](fid':FuncId)(hm:metB P t name fid' false=true)(hff:fid'=fid)[hfun:Fun P fid](hx:ev? L x=some (.iface t (.pointer (some ⟨b,off,none⟩))))(hw:want? l L gd=true)(hd:Nat.ble (d+1) n=true)
  (hxs:evs? L xs=some vs) (ha:aggD dt=false) (hr:Rd1 f A b off rv) (hc:Fn P fid (rv::vs) f A R)
  (k:∀v f' A',R v f' A'→H P base n ((d,v)::L) f' A' (.ops l rest q)) :
  H P base n L f A (.ops l (⟨some d,.call ⟨.invoke x name,xs.toArray,ats⟩,ty,pos,af,gd⟩::rest) q):=.mk fun a w hf s=>by
 subst hff
 show wpList P l.toArray (q.den P) _ a w
 unfold wpList
 rw[if_pos (hf.want (o:=⟨some d,_,ty,pos,af,gd⟩) hw)]
 refine .inl ?_
 have hrun:=run_enterM (P:=P) (dd:=some d) (ats:=ats) (ty:=ty) (pos:=pos) (af:=af) (gd:=gd) (w:=w) a (fid:=fid') (name:=name) (rv:=rv) (hf.eval hx) (hf.evals hxs) (fun k=>run_method_l hm ha k (hr base w s))
 simp only[Oper.wp,hrun,Oper.upon]
 refine(hc base w s).mono ?_
 rintro e w' ⟨v,f',A',rfl,hr,s'⟩
 exact(k v f' A' hr).out _ _ (hf.put (Nat.le_of_ble_eq_true hd) v) s'
theorem CO[hu:Und P t (.pointer e)][he:Und P e dt](hm:metB P t name fid false=true)[hfun:Fun P fid](hx:ev? L x=some (.iface t (.pointer (some ⟨b,off,none⟩))))(hw:want? l L gd=true)(hd:Nat.ble (d+1) n=true)
  (hxs:evs? L xs=some vs) (ha:aggD dt=false) (hr:Rd1 f A b off rv) (hc:Fn P fid (rv::vs) f A (Ret v f' A'))
  (k:H P base n ((d,v)::L) f' A' (.ops l rest q)) :
  H P base n L f A (.ops l (⟨some d,.call ⟨.invoke x name,xs.toArray,ats⟩,ty,pos,af,gd⟩::rest) q):=
 FN fid hm rfl hx hw hd hxs ha hr hc fun _ _ _ h=>by obtain⟨rfl,rfl,rfl⟩:=h;exact k
theorem FO[hu:Und P t (.pointer e)](hm:metB P t name fid true=true)[hfun:Fun P fid](hx:ev? L x=some (.iface t rv))(hw:want? l L gd=true)(hd:Nat.ble (d+1) n=true)
  (hxs:evs? L xs=some vs) (hc:Fn P fid (rv::vs) f A (Ret v f' A'))
  (k:H P base n ((d,v)::L) f' A' (.ops l rest q)) :
  H P base n L f A (.ops l (⟨some d,.call ⟨.invoke x name,xs.toArray,ats⟩,ty,pos,af,gd⟩::rest) q):=
 Ek fid hm rfl hx hw hd hxs hc fun _ _ _ h=>by obtain⟨rfl,rfl,rfl⟩:=h;exact k
end
theorem met_len : metB prog 434 "Len" 303 false = true := by kernel_rfl
theorem met_less : metB prog 434 "Less" 480 false = true := by kernel_rfl
theorem met_swap : metB prog 434 "Swap" 483 false = true := by kernel_rfl
theorem met_push : metB prog 434 "Push" 482 true = true := by kernel_rfl
theorem met_pop : metB prog 434 "Pop" 481 true = true := by kernel_rfl
theorem nmV_one(k:Nm):∀v∈nmV k,one v=true:=zaa rfl
variable {nb:Nat}
section
variable (f:Frag) (F:List HP)
theorem nlen_fn{m:Nat}:Fn prog 303 [.slice p m c] f F (Ret (.int .i64 (m:Int)) f F):=by
 refine AB func303 ntmps303 fun base=>?_;apply (gK);exact qad
theorem nless_fn{i:Nat}(hn:l.length=n)(hi:i<n)(hj:j<n):Fn prog 480 [.slice p n c,.int .i64 (i:Int),.int .i64 (j:Int)] f (slc p n c 431 2 (l.flatMap nmV)::F)
  (Ret (.bool (decide ((nmAt l i).1<(nmAt l j).1))) f (slc p n c 431 2 (l.flatMap nmV)::F)):=by
 refine AP func480 ntmps480 fun base=>?_;refine AO aP0 jB fun sb hsb=>?_;subst hsb;have r1:Rd f (slc (some ⟨sb,0,none⟩) n c 431 2 (l.flatMap nmV)::F) sb (i*2) (nmV (nmAt l i)):=Rd.slcElem nmV_len jE aP0 (zbw jB);have r2:Rd f (slc (some ⟨sb,0,none⟩) n c 431 2 (l.flatMap nmV)::F) sb (j*2) (nmV (nmAt l j)):=Rd.slcElem nmV_len jE aP0 (zbw jB)
 apply (gG);refine BB ?_;apply (gB);refine CC (i:=i) rfl rfl rfl rfl hi rfl ?_;apply (gF);refine B6 rfl rfl rfl (Rd1.of r1 rfl) rfl ?_;apply (gB);refine CC (i:=j) rfl rfl rfl rfl hj rfl ?_;apply (gF);refine B6 rfl rfl rfl (Rd1.of r2 rfl) rfl ?_;apply (gM);apply (gK);exact qad
theorem nswap_fn{i:Nat}(hn:l.length=n)(hi:i<n)(hj:j<n):Fn prog 483 [.slice p n c,.int .i64 (i:Int),.int .i64 (j:Int)] f (slc p n c 431 2 (l.flatMap nmV)::F)
  (Ret (.tuple #[]) f (slc p n c 431 2 ((swp l i j).flatMap nmV)::F)):=by
 refine AP func483 ntmps483 fun base=>?_;refine AO aP0 jB fun sb hsb=>?_;subst hsb;have r1:Rd f (slc (some ⟨sb,0,none⟩) n c 431 2 (l.flatMap nmV)::F) sb (i*2) (nmV (nmAt l i)):=Rd.slcElem nmV_len jE aP0 (zbw jB);have r2:Rd f (slc (some ⟨sb,0,none⟩) n c 431 2 (l.flatMap nmV)::F) sb (j*2) (nmV (nmAt l j)):=Rd.slcElem nmV_len jE aP0 (zbw jB)
 refine DW jD jJ jK ?_;apply (qjW);refine DX [0,1,4,5,6,7,8,9,10,11] (S:=[slc (some ⟨sb,0,none⟩) n c 431 2 (l.flatMap nmV)]) rfl ?_;have q1:Rd f [slc (some ⟨sb,0,none⟩) n c 431 2 (l.flatMap nmV)] sb (i*2) (nmV (nmAt l i)):=Rd.slcElem nmV_len jE aP0 (zbw jB);have q2:Rd f [slc (some ⟨sb,0,none⟩) n c 431 2 (l.flatMap nmV)] sb (j*2) (nmV (nmAt l j)):=Rd.slcElem nmV_len jE aP0 (zbw jB)
 apply A6 [0,1,4,5,6,7,8,9,10,11] 4;apply (gB);refine CC (i:=j) rfl rfl rfl rfl hj rfl ?_;refine AH (ls:=nmV (nmAt l j)) rfl rfl rfl q2 rfl rfl ?_;apply (gB);refine CC (i:=i) rfl rfl rfl rfl hi rfl ?_;refine AH (ls:=nmV (nmAt l i)) rfl rfl rfl q1 rfl rfl ?_;apply (qdG);apply (qeJ);apply A6 [12] 3;refine CC (i:=i) rfl rfl rfl rfl hi rfl ?_;apply (qdG);apply A7 13;refine E3 (vals:=nmV) (xs:=l) (i:=i) (z:=nmAt l j) nmV_len jE (nmV_one _) rfl rfl rfl jB (.here _ _ _) ?_;apply (qdE);apply A6 [14] 1;refine CC (i:=j) rfl rfl rfl rfl hj rfl ?_;apply (qdG);apply A7 15;refine E3 (vals:=nmV) (xs:=l.set i (nmAt l j)) (i:=j) (z:=nmAt l i) nmV_len jE (nmV_one _) rfl rfl rfl (by rw[List.length_set];omega) aP0 ?_;apply (gA);exact qdB
theorem npush_fn{k:Nm}(hn:l.length≤1000000):Fn prog 482 [.pointer (some ⟨nb,0,none⟩),.iface 431 (.agg (nmV k).toArray)] f (slc p l.length c 431 2 (l.flatMap nmV)::row nb 436 [.slice p l.length c]::F)
  (fun v f' A'=>∃p' c',v= .tuple #[]∧f'=f∧A'=row nb 436 [.slice p' (l++[k]).length c']::slc p' (l++[k]).length c' 431 2 ((l++[k]).flatMap nmV)::F):=by
 refine A9 func482 ntmps482 fun base=>?_;apply (qdM);refine H.dc [0,1,2,3,4,5,6,7,8] (S:=[row nb 436 [.slice p l.length c]]) rfl ?_;apply A6 [0,1,2,3,4,5] 4;apply (gF);refine FM jZ rfl rfl rfl ?_;apply (qfK);refine AS (out:=nmV k) rfl rfl rfl rfl jE jE rfl rfl fun eb=>?_;apply (qgd);apply A7 7;refine AQ (xs:=l.flatMap nmV) (m:=1) (news:=nmV k) rfl rfl rfl rfl rfl (fun p' c'=>jA) (Src.slice (Rd.ofRow jA) rfl) (nmV_one k) rfl jB jB fun p2 c2=>?_;apply (qeZ);apply (qdE);apply A6 [8] 1;apply (qgK);apply (qeJ);apply (qkF);apply (qeI);refine BA rfl iD ⟨p2,c2,rfl,rfl,?_⟩;rw[show l.length+1=(l++[k]).length by simp,show l.flatMap nmV++nmV k=(l++[k]).flatMap nmV by simp];rfl
theorem npop_fn{m:Nat}(hn:l.length=m+1)(hm:m≤1000000):Fn prog 481 [.pointer (some ⟨nb,0,none⟩)] f (slc p (m+1) c 431 2 (l.flatMap nmV)::row nb 436 [.slice p (m+1) c]::F)
  (Ret (.iface 431 (.agg (nmV (nmAt l m)).toArray)) f F):=by
 refine AB func481 ntmps481 fun base=>?_;apply (qdM);refine (qio) fun sb hsb=>?_;subst hsb;refine DA aP1 fun hcap _ _=>?_;have r1:Rd f (row nb 436 [.slice (some ⟨sb,0,none⟩) (m+1) c]::slc (some ⟨sb,0,none⟩) (m+1) c 431 2 (l.flatMap nmV)::F) sb (m*2) (nmV (nmAt l m)):=Rd.slcElem nmV_len jE aP1 (zbw jB);apply (gL)
 refine Dv (i:=m) rfl rfl rfl rfl jB rfl ?_;refine AD (ls:=nmV (nmAt l m)) rfl rfl rfl r1 rfl rfl ?_;refine (qgF) fun xb=>?_;refine AC (ls:=nmV (0,0)) (vs:=nmV (nmAt l m)) (ls':=nmV (nmAt l m)) rfl rfl rfl (nmV_one _) rfl rfl (Nat.le_refl 2) aP0 ?_;apply (gO);refine CV (hv:=m) rfl rfl rfl rfl jB rfl ?_;apply (gL);refine AD (ls:=nmV (nmAt l m)) rfl rfl rfl (Rd.ofRow aP0) rfl rfl ?_;refine Db jZ rfl rfl rfl ?_;apply (gK);apply (qet);exact qce
theorem up_fn(hn:l.length=n)(hn1:n≤1000000)(h:HeapBut l j)(hj:j<n)(hz:z=(j:Nat)):Fn prog 347 [.iface 434 (.pointer (some ⟨nb,0,none⟩)),.int .i64 z] f (slc p n c 431 2 (l.flatMap nmV)::row nb 436 [.slice p n c]::F)
  (fun v f' A'=>∃l',Heap l'∧(∀x,x∈l'↔x∈l)∧l'.length=n∧v= .tuple #[]∧f'=f∧A'=slc p n c 431 2 (l'.flatMap nmV)::row nb 436 [.slice p n c]::F):=by
 subst hz;refine A9 func347 ntmps347 fun base=>?_;apply (gK)
 refine AF (ι:=List Nm×Nat) (fun s=>[(0,.iface 434 (.pointer (some ⟨nb,0,none⟩))),(1,.int .i64 (s.2:Int))]) (fun _=>f)
  (fun s=>slc p n c 431 2 (s.1.flatMap nmV)::row nb 436 [.slice p n c]::F)
  (fun s=>HeapBut s.1 s.2∧s.2<n∧s.1.length=n∧∀x,x∈s.1↔x∈l) (fun s=>s.2) (l,j) ⟨h,hj,hn,fun _=>Iff.rfl⟩ fun s hs=>?_
 obtain⟨s,k⟩:=s;obtain⟨h1,h2,h3,h4⟩:HeapBut s k∧k<n∧s.length=n∧∀x,x∈s↔x∈l:=hs;show H _ _ _ [_,(1,.int .i64 (k:Int))] f (slc p n c _ 2 (s.flatMap nmV)::_::F) _;by_cases h0:k=0
 ·have hq:IntKind.i64.wrap (Int.tdiv ((k:Int)-1) 2)=0:=by subst h0;decide
  apply (gD);refine H.quo rfl rfl rfl jE hq rfl ?_;apply (gS);exact BA rfl iD ⟨s,(by subst h0;exact h1.zero),h4,h3,rfl,rfl,rfl⟩
 ·skip
  have hq:IntKind.i64.wrap (Int.tdiv ((k:Int)-1) 2)=(((k-1) / 2:Nat):Int):=by
   rw[show(k:Int)-1=((k-1:Nat):Int) by omega,show(2:Int)=((2:Nat):Int)from rfl,show(((k-1:Nat):Int)).tdiv ((2:Nat):Int)=(((k-1) / 2:Nat):Int)from rfl];exact wr_i64 jB
  have hik:(k-1) / 2<n:=jB
  apply (gD);refine H.quo rfl rfl rfl jE hq rfl ?_;apply (gS);refine CO met_less rfl rfl rfl rfl rfl (Rd1.ofRow aP1 rfl) (nless_fn f _ h3 h2 hik) ?_;by_cases hlt:(nmAt s k).1<(nmAt s ((k-1) / 2)).1
  ·refine E5 rfl rfl hlt rfl ?_;apply (gR);refine CO met_swap rfl rfl rfl rfl rfl (Rd1.ofRow aP1 rfl) (nswap_fn f _ h3 hik h2) ?_;apply (gK);exact AI (swp s ((k-1) / 2) k,(k-1) / 2) ⟨h1.step jB jB hlt,hik,by show(swp s _ _).length=n;rw[swp_len];exact h3,fun x=>(swp_mem jB jB x).trans (h4 x)⟩ (by show(k-1) / 2<k;omega)
  ·refine E6 rfl rfl hlt rfl ?_;apply (gS);exact BA rfl iD ⟨s,h1.fine jB,h4,h3,rfl,rfl,rfl⟩
theorem hpush_fn{k:Nm}(hn:l.length=n)(hn1:n<1000000)(h:Heap l):Fn prog 302 [.iface 434 (.pointer (some ⟨nb,0,none⟩)),.iface 431 (.agg (nmV k).toArray)] f (slc p n c 431 2 (l.flatMap nmV)::row nb 436 [.slice p n c]::F)
  (fun v f' A'=>∃p' c' l',Heap l'∧(∀x,x∈l'↔x∈l∨x=k)∧l'.length=n+1∧v= .tuple #[]∧f'=f∧A'=slc p' (n+1) c' 431 2 (l'.flatMap nmV)::row nb 436 [.slice p' (n+1) c']::F):=by
 subst hn;refine A9 func302 ntmps302 fun base=>?_;apply (gG);refine Ek 482 met_push rfl rfl rfl rfl rfl (npush_fn f F jB) fun v f' A' hr=>?_;obtain⟨p',c',rfl,rfl,rfl⟩:=hr;have hl:(l++[k]).length=l.length+1:=by simp
 have hb:=h.push k;have hm:∀x,x∈l++[k]↔x∈l∨x=k:=fun x=>by simp
 rw[hl];generalize l++[k]=l2 at *;apply (gG);refine CO met_len rfl rfl rfl rfl rfl (Rd1.ofRow aP0 rfl) (nlen_fn f' _) ?_;apply (gL);apply (qeO);refine AV rfl rfl rfl (up_fn f' F (j:=l.length) hl jB hb jB jB) fun v f2 A' hr=>?_;obtain⟨l',a1,a2,a3,rfl,rfl,rfl⟩:=hr;apply (gA);exact BA rfl iD ⟨p',c',l',a1,fun x=>(a2 x).trans (hm x),a3,rfl,rfl,rfl⟩
theorem down_fn{m:Nat}(hn:l.length=n)(hn1:n≤1000000)(hm:m<n)(hz:z=(m:Nat)):Fn prog 348 [.iface 434 (.pointer (some ⟨nb,0,none⟩)),.int .i64 0,.int .i64 z] f (slc p n c 431 2 (l.flatMap nmV)::row nb 436 [.slice p n c]::F)
  (fun v f' A'=>∃b l',l'.length=n∧nmAt l' m=nmAt l m∧v= .bool b∧f'=f∧A'=slc p n c 431 2 (l'.flatMap nmV)::row nb 436 [.slice p n c]::F):=by
 subst hz;refine AP func348 ntmps348 fun base=>?_;apply (gK)
 refine AF (ι:=List Nm×Nat) (fun s=>[(0,.iface 434 (.pointer (some ⟨nb,0,none⟩))),(1,.int .i64 0),(2,.int .i64 (m:Int)),(7,.int .i64 (s.2:Int)),(6,.bool false)]) (fun _=>f)
  (fun s=>slc p n c 431 2 (s.1.flatMap nmV)::row nb 436 [.slice p n c]::F)
  (fun s=>s.2≤m∧s.1.length=n∧nmAt s.1 m=nmAt l m) (fun s=>m-s.2) (l,0) ⟨Nat.zero_le _,hn,rfl⟩ fun s hs=>?_
 obtain⟨s,i⟩:=s;obtain⟨h2,h3,h4⟩:i≤m∧s.length=n∧nmAt s m=nmAt l m:=hs;show H _ _ _ [_,_,_,(7,.int .i64 (i:Int)),_] f (slc p n c _ 2 (s.flatMap nmV)::_::F) _;by_cases h5:m≤2*i+1
 ·apply (gS);exact AU ⟨_,s,h3,h4,rfl,rfl,rfl⟩
 ·by_cases h6:2*i+2<m
  ·apply (gS);refine CO met_less rfl rfl rfl rfl rfl (Rd1.ofRow aP1 rfl) (nless_fn f _ h3 (i:=2*i+2) (j:=2*i+1) jB jB) ?_;by_cases h7:(nmAt s (2*i+2)).1<(nmAt s (2*i+1)).1
   ·apply (gS);obtain⟨jj,hjj⟩:∃jj,jj=2*i+2:=⟨_,rfl⟩;exact qag
   ·exact qcz
  ·exact qcz
theorem hpop_fn{n m:Nat}(hn:l.length=m+1)(hn1:m<1000000):Fn prog 304 [.iface 434 (.pointer (some ⟨nb,0,none⟩))] f (slc p (m+1) c 431 2 (l.flatMap nmV)::row nb 436 [.slice p (m+1) c]::F)
  (Ret (.iface 431 (.agg (nmV (nmAt l 0)).toArray)) f F):=by
 refine AB func304 ntmps304 fun base=>?_;apply (gG);refine CO met_len rfl rfl rfl rfl rfl (Rd1.ofRow aP1 rfl) (nlen_fn f _) ?_;apply (gD);refine CO met_swap rfl rfl rfl rfl rfl (Rd1.ofRow aP1 rfl) (nswap_fn f _ (i:=0) (j:=m) hn jB jB) ?_;have hs:nmAt (swp l 0 m) m=nmAt l 0:=by rw[swp_at jB jB,if_pos rfl]
 have hsl:(swp l 0 m).length=m+1:=by rw[swp_len];exact hn
 generalize swp l 0 m=l2 at *;apply (gG);refine AV rfl rfl rfl (down_fn f F (m:=m) hsl jB jB rfl) fun v f2 A' hr=>?_;obtain⟨b,l',a1,a2,rfl,rfl,rfl⟩:=hr;apply (gG);refine FO met_pop rfl rfl rfl rfl (npop_fn f2 F a1 jB) ?_;rw[a2,hs];apply (gK);exact qad
end
def keyM(m:Msg):Nm:=(m.origin,m.number)
def openZ(e:Int):Bool:=decide (e=0)||decide (e=12)
def cntO(ws:List Msg)(o:Int):Nat:=(ws.filter fun x=>decide (x.origin=o)).length
structure Top(ws:List Msg)(o:Int)(t:Msg):Prop where
 mem:t∈ws
 org:t.origin=o
 max:∀y∈ws,y.origin=o→y.number≤t.number
def KU(ws:List Msg):Prop:=(ws.map keyM).Nodup
variable {ws:List Msg}
theorem KU.same(h:KU ws){x y:Msg}(hx:x∈ws)(hy:y∈ws)(e:keyM x=keyM y):x=y:=by
 unfold KU at h
 induction ws with
 |nil=>cases hx
 | cons z r ih =>
  have h':=List.nodup_cons.1 h;rcases List.mem_cons.1 hx with h1|h1
  ·rcases List.mem_cons.1 hy with h2|h2
   ·rw[h1,h2]
   ·exact absurd (List.mem_map.2 ⟨y,h2,by rw[←e,h1]⟩) h'.1
  ·rcases List.mem_cons.1 hy with h2|h2
   ·exact absurd (List.mem_map.2 ⟨x,h1,by rw[e,h2]⟩) h'.1
   ·exact ih h'.2 h1 h2
theorem KU.filter{a:List Msg}(h:KU a)(p:Msg→Bool):KU (a.filter p):=List.Sublist.nodup (List.Sublist.map keyM List.filter_sublist) h
theorem KU.snoc{a:List Msg}{m:Msg}(h:KU a)(hm:∀x∈a,keyM x≠keyM m):KU (a++[m]):=by
 unfold KU;rw[List.map_append];refine List.nodup_append.2 ⟨h,by simp,?_⟩;intro x hx y hy e;obtain⟨z,hz,rfl⟩:=List.mem_map.1 hx;have:y=keyM m:=by simpa using hy
 exact hm z hz (e.trans this)
inductive PutR(e:Int)(ws:List Msg)(m:Msg):Int→List Msg→Prop
 |shut (h:openZ e=false) (ws':List Msg) (hp:ws'.Perm ws):PutR e ws m e ws'
 |again (h:openZ e=true) (x:Msg) (hx:x∈ws) (hk:keyM x=keyM m) (ws':List Msg) (hp:ws'.Perm ws):PutR e ws m 13 ws'
 |room (h:openZ e=true) (hk:∀x∈ws,keyM x≠keyM m) (hc:cntO ws m.origin<11) (ws':List Msg) (hp:ws'.Perm (ws++[m])):PutR e ws m 0 ws'
 |full (h:openZ e=true) (hk:∀x∈ws,keyM x≠keyM m) (hc:11≤cntO ws m.origin) (t:Msg) (ht:Top ws m.origin t) (hl:t.number<m.number) (ws':List Msg) (hp:ws'.Perm ws):PutR e ws m 7 ws'
 |swap (h:openZ e=true) (hk:∀x∈ws,keyM x≠keyM m) (hc:11≤cntO ws m.origin) (t:Msg) (ht:Top ws m.origin t) (hl:¬t.number<m.number) (ws':List Msg) (hp:(t::ws').Perm (ws++[m])):PutR e ws m 0 ws'
inductive NextR(c:Msg→Int)(ws:List Msg):Option Msg→List Msg→Prop
 |no (h:∀x∈ws,c x≠0) (ws':List Msg) (hp:ws'.Perm (ws.filter fun x=>openZ (c x))):NextR c ws none ws'
 |yes (x:Msg) (hx:x∈ws) (h0:c x=0) (hl:∀y∈ws,c y=0→x.origin≤y.origin) (ws':List Msg) (hp:(x::ws').Perm (ws.filter fun x=>openZ (c x))):NextR c ws (some x) ws'
theorem cntO_perm{a b:List Msg}(h:a.Perm b)(o:Int):cntO a o=cntO b o:=(h.filter _).length_eq
variable {o:Int}
theorem Top.perm{a b:List Msg}(h:a.Perm b){t:Msg}(ht:Top a o t):Top b o t:=⟨h.mem_iff.1 ht.mem,ht.org,fun y hy=>ht.max y (h.mem_iff.2 hy)⟩
theorem cntO_cons(m:Msg)(ws:List Msg)(o:Int):cntO (m::ws) o=cntO ws o+(if m.origin=o then 1 else 0):=by
 unfold cntO;rw[List.filter_cons];by_cases h:m.origin=o<;>simp[h]
variable {clock:Nat} {A':List HP}
section
variable {κ:Type} [DecidableEq κ] {enc:κ→Value}
def delE(k:κ)(es:List (κ×Value×Nat)):List (κ×Value×Nat):=es.filter fun e=>!decide (k=e.1)
theorem delE_mem{k:κ}{es:List (κ×Value×Nat)}{e:κ×Value×Nat}(h:e∈delE k es):e∈es:=(List.mem_filter.1 h).1
theorem delE_kv(k:κ)(es:List (κ×Value×Nat)):(delE k es).map kvOf=(es.map kvOf).filter fun e=>!decide (k=e.1):=by
 unfold delE;rw[List.filter_map];rfl
theorem MapOk.del{es:List (κ×Value×Nat)}(h:MapOk es clock)(k:κ):MapOk (delE k es) clock:=
 ⟨List.Sublist.nodup (List.Sublist.map _ List.filter_sublist) h.keys,List.Sublist.nodup (List.Sublist.map _ List.filter_sublist) h.stamps,fun e he=>h.below e (delE_mem he)⟩
theorem delE_absent{k:κ}{es:List (κ×Value×Nat)}(h:k∉es.map (·.1)):delE k es=es:=by
 unfold delE;rw[List.filter_eq_self];intro e he;have:¬k=e.1:=fun h2=>h (List.mem_map.2 ⟨e,he,h2.symm⟩);rw[decide_eq_false this];rfl
theorem delE_found{k:κ}:∀ {es:List (κ×Value×Nat)} {i:Nat},(es.map (·.1)).Nodup→(es.map (·.1)).findIdx? (k= ·)=some i→i<es.length∧es.eraseIdx i=delE k es
 | [],i,_,h=>by simp at h
 | e :: r, i, hn, h => by
  have hn':=List.nodup_cons.1 hn
  rw[List.map_cons,List.findIdx?_cons]at h
  by_cases c:k=e.1
  ·rw[if_pos (by simpa using c)]at h
   cases h
   refine⟨by simp,?_⟩
   have h2:delE k r=r:=delE_absent (by rw[c];exact hn'.1)
   show r=(e::r).filter _
   rw[List.filter_cons,if_neg (by rw[decide_eq_true c];decide)]
   exact h2.symm
  ·rw[if_neg (by simpa using c)]at h
   cases hj:(r.map (·.1)).findIdx? (k= ·)with
   |none=>rw[hj]at h;cases h
   | some j =>
    rw[hj]at h
    cases h
    obtain⟨h1,h2⟩:=delE_found hn'.2 hj
    refine⟨by simp;omega,?_⟩
    show e::r.eraseIdx j=(e::r).filter _
    rw[List.filter_cons,if_pos (by rw[decide_eq_false c];rfl),h2]
    rfl
theorem map_erase{α β:Type}(g:α→β):∀(l:List α) (i:Nat),(l.eraseIdx i).map g=(l.map g).eraseIdx i
 | [],i=>by simp
 |a::l,0=>rfl
 |a::l,i+1=>by show g a::(l.eraseIdx i).map g=_;rw[map_erase g l i];rfl
variable {P:Program} {base:World} {n:Nat} {L:Env} {f:Frag} {A:List HP} {q:Post}
variable {l rest:List Oper} {d:Nat} {ty:TypeId} {pos:String} {af:Array Edge} {gd:Option (Nat × Bool)}
theorem E4{u kt et:TypeId}{y:Operand}{es:List (κ×Value×Nat)}{k:κ}{kv:Value}[hu:Und P t (.map kt et)][hk:KeyT P kt enc](hw:want? l L gd=true)
  (hx:ev? L x=some (.map (some b))) (hy:ev? L y=some kv) (hA:At A (mpS b enc es clock) A' (mpS b enc (delE k es) clock)) (hkv:kv=enc k)
  (kk:H P base n L f A' (.ops l rest q)):H P base n L f A (.ops l (⟨none,.call ⟨.builtin .delete,#[x,y],#[t,u]⟩,ty,pos,af,gd⟩::rest) q):=.mk fun a w hf s=>by
 show wpList P l.toArray (q.den P) _ a w
 unfold wpList
 rw[if_pos (hf.want (o:=⟨none,_,ty,pos,af,gd⟩) hw)]
 refine .inl ?_
 subst hkv
 obtain⟨ho,hb⟩:=s.mpS_at hA
 have hfk:=hk.fnd k (es.map (entOf enc)) (es.map (·.1)) w (keys_entOf es)
 have hturn:Sat base {w with heap:=w.heap.setIfInBounds b (.map ((delE k es).map (entOf enc)).toArray clock)} f A':=
  s.turnRow hA (by rintro m ⟨_,rfl⟩;exact⟨_,rfl⟩) rfl rfl rfl rfl ⟨ho.del k,rfl⟩
 have hrun:(Builtin.delete_ #[t,u] ty #[.map (some b),enc k]).run P w= .ok (.tuple #[]) {w with heap:=w.heap.setIfInBounds b (.map ((delE k es).map (entOf enc)).toArray clock)}:=by
  cases hi:(es.map (·.1)).findIdx? (k= ·)with
  | none =>
   rw[delE_absent ((mem_keys_iff es k).1 hi)];rw[hi]at hfk;unfold Builtin.delete_;simp only[List.getElem?_toArray,List.getElem?_cons_zero,List.getElem?_cons_succ,Sem.run_bind,hu.run,Result.andThen_ok,zbv hb,hk.chk,List.toList_toArray,hfk,Option.bind_none,run_setMap hb,Sem.run_pure]
  | some i =>
   obtain⟨h1,h2⟩:=delE_found ho.keys hi;rw[hi]at hfk;have hei:(es.map (entOf enc))[i]?=some (entOf enc es[i]):=by rw[List.getElem?_map,List.getElem?_eq_getElem h1];rfl
   have her:((es.map (entOf enc)).toArray.eraseIdxIfInBounds i)=((delE k es).map (entOf enc)).toArray:=by
    rw[←h2];unfold Array.eraseIdxIfInBounds;rw[dif_pos kQ];apply Array.ext';simp[map_erase]
   unfold Builtin.delete_;simp only[List.getElem?_toArray,List.getElem?_cons_zero,List.getElem?_cons_succ,Sem.run_bind,hu.run,Result.andThen_ok,zbv hb,hk.chk,List.toList_toArray,hfk,Option.bind_some,hei,Option.map_some,her,run_setMap hb,Sem.run_pure]
 have h2:(execOp a.eval ⟨none,.call ⟨.builtin .delete,#[x,y],#[t,u]⟩,ty,pos,af,gd⟩).run P w= .ok (.value (.tuple #[])) {w with heap:=w.heap.setIfInBounds b (.map ((delE k es).map (entOf enc)).toArray clock)}:=by
  simp only[execOp,resolve,invoke,builtin,hf.eval hx,hf.eval hy,Sem.run_bind,Sem.run_pure,Result.andThen_ok,List.map_toArray,List.map_cons,List.map_nil,hrun]
 simp only[Oper.wp,h2,Oper.upon]
 exact kk.out _ _ hf hturn
def itrW(r b:Nat)(es:List (κ×Value×Nat))(clock:Nat)(seen:List κ):HP:=fun h=>
 ∃sA:Array Nat,(∀e∈es,sA.contains e.2.2=true↔e.1∈seen)∧h=sing r (.mapIter (some b) clock sA clock)
theorem itr_weak{r:Nat}{es es':List (κ×Value×Nat)}{seen:List κ}(hs:∀e∈es',e∈es):∀x,itr r b es clock seen x→itrW r b es' clock seen x:=
 fun _ ⟨sA,h1,_,h3⟩=>⟨sA,fun e he=>h1 e (hs e he),h3⟩
theorem Sat.itrW_at{r:Nat}{es:List (κ×Value×Nat)}{seen:List κ}{y:HP}(s:Sat base w f A)(h:At A (itrW r b es clock seen) A' y):∃sA:Array Nat,(∀e∈es,sA.contains e.2.2=true↔e.1∈seen)∧w.heap[r]?=some (.mapIter (some b) clock sA clock):=by
 obtain⟨R,h1,_⟩:=h.split;obtain⟨x,hm,_,hw⟩:=s.mem;rw[h1]at hm;obtain⟨m1,m2,_,rfl,⟨sA,a1,rfl⟩,_⟩:=hm;exact⟨sA,a1,hw r _ ji⟩
theorem FP{r:Nat}{es:List (κ×Value×Nat)}{seen:List κ}{A1 A2:List HP}{A':κ→List HP}(hw:want? l L gd=true)
  (hx:ev? L x=some (.pointer (some ⟨r,0,none⟩))) (hm:At A (mpS b enc es clock) A1 (mpS b enc es clock)) (hi:At A (itrW r b es clock seen) A2 (itrW r b es clock seen)) (hA:∀k,At A (itrW r b es clock seen) (A' k) (itr r b es clock (k::seen))) (hd:Nat.ble (d+1) n=true)
  (kend:(∀e∈es,e.1∈seen)→H P base n ((d,.tuple #[.bool false])::L) f A (.ops l rest q))
  (kk:∀e∈es,e.1∉seen→H P base n ((d,.tuple #[.bool true,enc e.1,e.2.1])::L) f (A' e.1) (.ops l rest q)):H P base n L f A (.ops l (⟨some d,.next x false,ty,pos,af,gd⟩::rest) q):=
 C0 (ι:=Option (κ×Value×Nat)) (fun i=>match i with|none=>.tuple #[.bool false]|some e=>.tuple #[.bool true,enc e.1,e.2.1]) (fun _=>f) (fun i=>match i with|none=>A|some e=>A' e.1)
  (fun i=>match i with|none=>∀e∈es,e.1∈seen|some e=>e∈es∧e.1∉seen) hw hd (fun a w hfr s=>by
  obtain⟨ho,hb⟩:=s.mpS_at hm
  obtain⟨sA,a1,hr⟩:=s.itrW_at hi
  rcases run_next_itr (P:=P) (ty:=ty) ho hb hr with⟨b1,b2⟩|⟨e,he,hc,w1,q1,q2,q3,q4,b2⟩
  ·refine⟨none,w,fun e he=>(a1 e he).1 (b1 e he),?_,s⟩
   simp only[execOp,hfr.eval hx,Sem.run_bind,b2,Result.andThen_ok,Sem.run_pure]
  ·refine⟨some e,{w1 with heap:=w1.heap.setIfInBounds r (.mapIter (some b) clock (sA.push e.2.2) clock)},⟨he,fun hin=>by rw[(a1 e he).2 hin]at hc;cases hc⟩,?_,?_⟩
   ·simp only[execOp,hfr.eval hx,Sem.run_bind,b2,Result.andThen_ok,Sem.run_pure]
   ·refine s.turnRow (hA e.1) (fun m hm=>by obtain⟨_,_,rfl⟩:=hm;exact⟨_,rfl⟩) q2 q4 q3 kK ⟨sA.push e.2.2,fun e' he'=>?_,fun k rs hk=>?_,rfl⟩
    ·rw[contains_push,Bool.or_eq_true,a1 e' he',beq_iff_eq,List.mem_cons]
     constructor
     ·rintro(h|h)
      ·exact .inr h
      ·exact .inl jd
     ·rintro(h|h)
      ·exact .inr jk
      ·exact .inl h
    ·cases hk
     exact⟨e,he,rfl,by simp⟩) (fun i hi=>match i,hi with|none,hi=>kend hi|some e,hi=>kk e hi.1 hi.2)
theorem putKV_absent{k:κ}{v:Value}:∀ {m:List (κ×Value)},k∉m.map (·.1)→putKV m k v=m++[(k,v)]
 | [],_=>rfl
 | (k', u) :: r, h => by
  have h1:¬k=k':=fun e=>h (by simp[e])
  show(if k=k' then _ else _)=_
  rw[if_neg h1,putKV_absent (m:=r) fun hk=>h (by rw[List.map_cons];exact List.mem_cons_of_mem _ hk)]
  rfl
theorem getKV_mem{k:κ}{v:Value}:∀ {m:List (κ×Value)},(m.map (·.1)).Nodup→(k,v)∈m→getKV m k=some v
 | [],_,h=>by cases h
 | (k', u) :: r, hn, h => by
  have hn':=List.nodup_cons.1 hn
  show(if k=k' then _ else _)=_
  rcases List.mem_cons.1 h with e|e
  ·cases e;rw[if_pos rfl]
  ·rw[if_neg (fun c=>hn'.1 (by rw[←c];exact List.mem_map.2 ⟨_,e,rfl⟩))]
   exact getKV_mem hn'.2 e
def unsE(es:List (κ×Value×Nat))(seen:List κ):Nat:=(es.filter fun e=>!decide (e.1∈seen)).length
theorem flt_le{α:Type}(p p':α→Bool)(h:∀x,p' x=true→p x=true):∀l:List α,(l.filter p').length≤(l.filter p).length
 | []=>Nat.le_refl _
 | a :: l => by
  have ih:=flt_le p p' h l
  rw[List.filter_cons,List.filter_cons]
  cases h1:p' a with
  |true=>rw[if_pos rfl,if_pos (h a h1),List.length_cons,List.length_cons];omega
  | false =>
   rw[if_neg jE]
   split
   ·rw[List.length_cons];omega
   ·exact ih
theorem flt_lt{α:Type}(p p':α→Bool)(h:∀x,p' x=true→p x=true){e:α}(h1:p e=true)(h2:p' e=false):∀l:List α,e∈l→(l.filter p').length<(l.filter p).length
 | a :: l, he => by
  rw[List.filter_cons,List.filter_cons]
  rcases List.mem_cons.1 he with rfl|he
  ·rw[if_neg (by rw[h2];decide),if_pos h1,List.length_cons]
   have:=flt_le p p' h l
   omega
  ·have ih:=flt_lt p p' h h1 h2 l he
   cases h3:p' a with
   |true=>rw[if_pos rfl,if_pos (h a h3),List.length_cons,List.length_cons];omega
   | false =>
    rw[if_neg jE]
    split
    ·rw[List.length_cons];omega
    ·exact ih
theorem unsE_lt{es:List (κ×Value×Nat)}{seen:List κ}{e:κ×Value×Nat}(he:e∈es)(hn:e.1∉seen):unsE es (e.1::seen)<unsE es seen:=by
 unfold unsE;refine flt_lt _ _ (fun x hx=>?_) (e:=e) ?_ ?_ es he
 ·simp only[Bool.not_eq_true',decide_eq_false_iff_not,List.mem_cons,not_or]at hx⊢;exact hx.2
 ·simpa using hn
 ·simp
theorem unsE_del(es:List (κ×Value×Nat))(seen:List κ)(k:κ):unsE (delE k es) seen≤unsE es seen:=by
 unfold unsE delE;rw[List.filter_filter];exact flt_le _ _ (fun x hx=>by simp only[Bool.and_eq_true]at hx;exact hx.1) es
end
def nmE(k:Nm):Value:=.agg (nmV k).toArray
instance keyW:KeyT prog 431 nmE:=keyT_agg (cellsK:=nmV) (D:=4) jD (fun k=>by kernel_rfl) jE (fun a b=>by
  obtain⟨a1,a2⟩:=a
  obtain⟨b1,b2⟩:=b
  show(a1 == b1&&(a2 == b2&&true))=_
  by_cases h1:a1=b1<;>by_cases h2:a2=b2<;>simp[h1,h2]) (fun k=>rfl)
def entV(x:MV):Nm×Value:=(keyM x.m,.agg x.vals.toArray)
structure Waitφ(f:Frag)(ws:List MV):Prop where
 g:∀x∈ws,x.Good f
 pos:∀x∈ws,0≤x.m.number
 ku:KU (ws.map MV.m)
 len:ws.length≤100000
def waitH(f:Frag)(wb:Nat)(ws:List MV):HP:=pack (fun _:Nat=>Waitφ f ws) (fun b=>[row wb 250 [.map (some b)],mp b nmE (ws.map entV)])
theorem Waitφ.mono{f g:Frag}(h:Le f g){ws:List MV}(hl:Waitφ f ws):Waitφ g ws:=⟨fun x hx=>(hl.g x hx).mono h,hl.pos,hl.ku,hl.len⟩
variable {F:List HP} {wb:Nat}
theorem wait_fold{ws:List MV}(b:Nat)(h:Waitφ fl ws):∀x,stars (row wb 250 [.map (some b)]::mp b nmE (ws.map entV)::F) x→stars (waitH fl wb ws::F) x:=fun x hx=>
 zap (ι:=Nat) (φ:=fun _:Nat=>Waitφ fl ws) (B:=fun b=>[row wb 250 [.map (some b)],mp b nmE (ws.map entV)]) b h x hx
variable {es:List (Nm × Value × Nat)}
theorem ent_mem{ws:List MV}(hes:es.map kvOf=ws.map entV){e:Nm×Value×Nat}(he:e∈es):∃x∈ws,e.1=keyM x.m∧e.2.1= .agg x.vals.toArray:=by
 have h1:kvOf e∈ws.map entV:=by rw[←hes];exact List.mem_map_of_mem he
 obtain⟨x,hx,h2⟩:=List.mem_map.1 h1;exact⟨x,hx,(congrArg (·.1) h2).symm,(congrArg (·.2) h2).symm⟩
theorem ent_of{ws:List MV}(hes:es.map kvOf=ws.map entV){x:MV}(hx:x∈ws):∃e∈es,e.1=keyM x.m:=by
 have h1:entV x∈es.map kvOf:=by rw[hes];exact List.mem_map_of_mem hx
 exact qcS
theorem ent_keys(ws:List MV):(ws.map entV).map (·.1)=(ws.map MV.m).map keyM:=by
 rw[List.map_map,List.map_map];rfl
theorem ent_filter(ws:List MV)(k:Nm):(ws.map entV).filter (fun e=>!decide (k=e.1))=(ws.filter fun x=>!decide (k=keyM x.m)).map entV:=by
 rw[List.filter_map];rfl
structure GR(ds:List Msg)(o:Int)(k:Nm):Prop where
 zero:cntO ds o=0→k=(0,0)
 pos:0<cntO ds o→∃t,Top ds o t∧k=keyM t
theorem GR.nil(o:Int):GR [] o (0,0):=⟨fun _=>rfl,fun h=>absurd h (Nat.lt_irrefl 0)⟩
variable {ds:List Msg}
theorem cntO_pos{y:Msg}(hy:y∈ds)(ho:y.origin=o):0<cntO ds o:=by
 unfold cntO;exact List.length_pos_of_mem (List.mem_filter.2 ⟨hy,decide_eq_true ho⟩)
theorem GR.skip{k:Nm}{x:Msg}(h:GR ds o k)(hx:x.origin≠o):GR (x::ds) o k:=by
 have e:cntO (x::ds) o=cntO ds o:=by rw[cntO_cons,if_neg hx];rfl
 refine⟨fun h0=>h.zero (by rw[←e];exact h0),fun h0=>?_⟩;obtain⟨t,ht,hk⟩:=h.pos (by rw[←e];exact h0);refine⟨t,⟨List.mem_cons_of_mem _ ht.mem,ht.org,fun y hy ho=>?_⟩,hk⟩;rcases List.mem_cons.1 hy with h1|h1
 ·exact absurd (by rw[←h1];exact ho) hx
 ·exact ht.max y h1 ho
theorem GR.take{k:Nm}{x:Msg}(h:GR ds o k)(hx:x.origin=o)(hk:k.2≤x.number):GR (x::ds) o (keyM x):=by
 have e:cntO (x::ds) o=cntO ds o+1:=by rw[cntO_cons,if_pos hx]
 refine⟨fun h0=>by omega,fun _=>⟨x,⟨by simp,hx,fun y hy ho=>?_⟩,rfl⟩⟩;rcases List.mem_cons.1 hy with h1|h1
 ·rw[h1];exact Int.le_refl _
 ·obtain⟨t,ht,e2⟩:=h.pos (cntO_pos h1 ho)
  have:=ht.max y h1 ho;rw[e2]at hk
  exact Int.le_trans this hk
theorem GR.keep{k:Nm}{x:Msg}(h:GR ds o k)(hx:x.origin=o)(hk:x.number<k.2)(h0:0≤x.number):GR (x::ds) o k:=by
 have e:cntO (x::ds) o=cntO ds o+1:=by rw[cntO_cons,if_pos hx]
 refine⟨fun h0=>by omega,fun _=>?_⟩;by_cases hz:cntO ds o=0
 ·rw[h.zero hz]at hk;have hk:x.number<0:=hk;omega
 ·obtain⟨t,ht,e2⟩:=h.pos jB;refine⟨t,⟨List.mem_cons_of_mem _ ht.mem,ht.org,fun y hy ho=>?_⟩,e2⟩;rcases List.mem_cons.1 hy with h1|h1
  ·rw[e2]at hk;have hk:x.number<t.number:=hk;rw[h1];omega
  ·exact ht.max y h1 ho
theorem KU.perm_of(hku:KU ws)(hds:(ds.map keyM).Nodup)(h1:∀x∈ds,x∈ws)(h2:∀x∈ws,keyM x∈ds.map keyM):ds.Perm ws:=by
 have hn:∀l:List Msg,(l.map keyM).Nodup→l.Nodup:=fun l h=>by
  induction l with
  |nil=>exact List.nodup_nil
  | cons a l ih =>
   have h':=List.nodup_cons.1 h;exact List.nodup_cons.2 ⟨fun hm=>h'.1 (List.mem_map_of_mem hm),ih h'.2⟩
 refine(List.perm_ext_iff_of_nodup (hn ds hds) (hn ws hku)).2 fun x=>⟨h1 x,fun hx=>?_⟩;obtain⟨y,hy,e⟩:=List.mem_map.1 (h2 x hx);rw[←hku.same (h1 y hy) hx e];exact hy
theorem GR.perm{a b:List Msg}(p:a.Perm b){o:Int}{k:Nm}(h:GR a o k):GR b o k:=by
 refine⟨fun h0=>h.zero (by rw[cntO_perm p];exact h0),fun h0=>?_⟩;obtain⟨t,ht,e⟩:=h.pos (by rw[cntO_perm p];exact h0);exact⟨t,ht.perm p,e⟩
theorem cntO_le(ds:List Msg)(o:Int):cntO ds o≤ds.length:=List.length_filter_le _ _
section
variable (f:Frag) (F:List HP)
theorem wnew_fn:Fn prog 80 [] f F (RetE (fun wb:Nat=>.pointer (some ⟨wb,0,none⟩)) f (fun wb=>waitH f wb []::F)):=by
 refine BX func80 ntmps80 fun base=>?_;apply (gG);refine H.makeMap nmE rfl rfl fun b=>?_;repeat((refine AT (out:=[.map (some b)]) rfl rfl rfl jD rfl ?_))
 refine H.box (ls:=[.map (some b)]) rfl rfl rfl rfl fun wb=>?_;apply (gK);refine H.imp (wait_fold (fl:=f) (ws:=[]) b ⟨fun x hx=>(by cases hx),fun x hx=>(by cases hx),List.nodup_nil,Nat.zero_le _⟩) ?_;exact AU ⟨wb,rfl,rfl,rfl⟩
theorem wopen_fn{e:Int}:Fn prog 300 [.int .i64 e] f F (Ret (.bool (openZ e)) f F):=by
 refine AB func300 ntmps300 fun base=>?_;by_cases h1:e=0
 ·subst h1;apply (gJ);exact qad
 ·by_cases h2:e=12
  ·subst h2;apply (gS);exact qad
  ·have h3:openZ e=false:=by unfold openZ;rw[decide_eq_false h1,decide_eq_false h2];rfl
   rw[h3];apply (gS);refine AE rfl rfl iD ⟨?_,rfl,rfl⟩;rw[decide_eq_false h2]
theorem greatest_fn{ws:List MV}(hku:KU (ws.map MV.m))(hpos:∀x∈ws,0≤x.m.number)(hlen:ws.length≤100000):Fn prog 301 [.pointer (some ⟨wb,0,none⟩),.int .i64 o] f (mp b nmE (ws.map entV)::row wb 250 [.map (some b)]::F)
  (fun v f' A'=>∃k:Nm,GR (ws.map MV.m) o k∧v= .tuple #[.agg (nmV k).toArray,.int .i64 ((cntO (ws.map MV.m) o:Nat):Int)]∧f'=f∧A'=mp b nmE (ws.map entV)::row wb 250 [.map (some b)]::F):=by
 refine DZ fun es clock hes=>?_
 have hun0:([]:List Msg).length+unsE es (([]:List Msg).map keyM)≤100000:=by
  have h1:unsE es (([]:List Msg).map keyM)≤es.length:=List.length_filter_le _ _;have h2:=congrArg List.length hes
  rw[List.length_map,List.length_map]at h2;show 0+_≤_;omega
 refine A9 func301 ntmps301 fun base=>?_;apply (gA);refine (qgF) fun kb=>?_;apply (gO);refine (qhJ) fun rb=>?_;apply (gK)
 refine AF (ι:=List Msg×Nm) (fun i=>[(11,.pointer (some ⟨rb,0,none⟩)),(0,.pointer (some ⟨wb,0,none⟩)),(1,.int .i64 o),(5,.int .i64 ((cntO i.1 o:Nat):Int)),(4,.pointer (some ⟨kb,0,none⟩))]) (fun _=>f)
  (fun i=>itr rb b es clock (i.1.map keyM)::row kb 431 (nmV i.2)::mpS b nmE es clock::row wb 250 [.map (some b)]::F)
  (fun i=>(∀y∈i.1,y∈ws.map MV.m)∧(i.1.map keyM).Nodup∧GR i.1 o i.2∧i.1.length+unsE es (i.1.map keyM)≤100000) (fun i=>unsE es (i.1.map keyM)) ([],(0,0)) ⟨fun _ h=>(by cases h),List.nodup_nil,GR.nil o,hun0⟩ fun i hi=>?_
 obtain⟨ds,k⟩:=i;obtain⟨hsub,hnd,hgr,hun⟩:(∀y∈ds,y∈ws.map MV.m)∧(ds.map keyM).Nodup∧GR ds o k∧ds.length+unsE es (ds.map keyM)≤100000:=hi;show H _ _ _ [_,_,_,(5,.int .i64 ((cntO ds o:Nat):Int)),_] _ (itr rb b es clock (ds.map keyM)::row kb _ (nmV k)::_) _;apply (gA);refine H.next rfl rfl jA jA (fun _=>jA) rfl (fun hend=>?_) (fun e he hns=>?_)
 ·have hp:ds.Perm (ws.map MV.m):=hku.perm_of hnd hsub fun x hx=>by
   obtain⟨y,hy,rfl⟩:=List.mem_map.1 hx;obtain⟨e,he,e1⟩:=ent_of hes hy;rw[←e1];exact hend e he
  apply (gR);apply A4 (itr _ _ _ _ _);refine AD (ls:=nmV k) rfl rfl rfl (Rd.ofRow jA) rfl rfl ?_;apply (gG);refine AC (ls:=nmV k) (vs:=nmV k) (ls':=nmV k) rfl rfl rfl (nmV_one k) rfl rfl (Nat.le_refl 2) jA ?_;apply (gK);apply (qfM);rw[hes];apply (qef);exact B5 (ls:=nmV k) rfl rfl rfl rfl (Rd.ofRow aP0) rfl (fun _ s=>s.drop (.here _ _)) ⟨k,hgr.perm hp,by rw[cntO_perm hp],rfl,rfl⟩
 ·obtain⟨ek,ev,st⟩:=e;obtain⟨x,hx,e1,e2⟩:=ent_mem hes he;have e1:ek=keyM x.m:=e1;have e2:ev= .agg x.vals.toArray:=e2
  subst e1;subst e2;have hxp:=hpos x hx;have hle:=cntO_le ds o
  have hdl:ds.length≤100000:=jB
  have hns:keyM x.m∉ds.map keyM:=hns;apply (qgo)
  apply (gO);refine (qgF) fun xb=>?_;apply (qiV);have hlt2:=unsE_lt (e:=(keyM x.m,Value.agg x.vals.toArray,st)) he hns;have hlt3:unsE es ((x.m::ds).map keyM)<unsE es (ds.map keyM):=hlt2
  clear hlt2;by_cases ho:x.m.origin=o
  ·have hcn:cntO (x.m::ds) o=cntO ds o+1:=by rw[cntO_cons,if_pos ho]
   by_cases hk:k.2≤x.m.number
   ·have hgr2:=hgr.take ho hk;apply (gT)
    refine AD (ls:=nmV (keyM x.m)) rfl rfl rfl (Rd.ofRow aP0) rfl rfl ?_;refine AC (ls:=nmV k) (vs:=nmV (keyM x.m)) (ls':=nmV (keyM x.m)) rfl rfl rfl (nmV_one _) rfl rfl (Nat.le_refl 2) jA ?_;apply (gK);apply (qhZ)
    exact AX (x.m::ds,keyM x.m) ⟨fun y hy=>by
      rcases List.mem_cons.1 hy with h|h
      ·rw[h];exact List.mem_map_of_mem hx
      ·exact hsub y h,List.nodup_cons.2 ⟨hns,hnd⟩,hgr2,by show ds.length+1+unsE es ((x.m::ds).map keyM)≤100000;omega⟩ hlt3 ⟨rfl,rfl,rfl,by show lk _ _=some (Value.int .i64 ((cntO (x.m::ds) o:Nat):Int));rw[hcn];rfl,rfl,trivial⟩ rfl rfl
   ·have hgr2:=hgr.keep ho jB hxp;exact qaG
  ·have hcn:cntO (x.m::ds) o=cntO ds o:=by rw[cntO_cons,if_neg ho];rfl
   have hgr2:=hgr.skip ho;exact qaG
end
def PutP(f:Frag)(F:List HP)(wb:Nat)(ws:List MV)(m:Msg)(c:Int):Value→Frag→List HP→Prop:=fun v f' A'=>
 ∃(g:Frag) (z:Int) (ws':List MV),PutR c (ws.map MV.m) m z (ws'.map MV.m)∧ws'.length≤ws.length+1∧Dj f g∧v= .int .i64 z∧f'=un f g∧A'=waitH f' wb ws'::F
theorem open_fits{m:Msg}(h:openZ (chk n S m)=true):fitsB n m=true:=by
 cases hf:fitsB n m with
 |true=>rfl
 | false =>
  unfold chk at h;rw[if_pos hf]at h;cases h
theorem fits_num{m:Msg}(h:fitsB n m=true):0≤m.number:=by
 have:=Msg.may_outer (fits_org h).2.2;unfold Msg.outer at this
 omega
theorem perm_del(hu:KU ws){t:Msg}(ht:t∈ws):(t::ws.filter fun x=>!decide (keyM t=keyM x)).Perm ws:=by
 induction ws with
 |nil=>cases ht
 | cons a r ih =>
  have h':=List.nodup_cons.1 (show((a::r).map keyM).Nodup from hu);by_cases e:keyM t=keyM a
  ·have hta:t=a:=KU.same (ws:=a::r) hu ht jI e;subst hta
   rw[List.filter_cons,if_neg jI]
   have:(r.filter fun x=>!decide (keyM t=keyM x))=r:=by
    rw[List.filter_eq_self];intro x hx;have:¬keyM t=keyM x:=fun h2=>h'.1 (by show keyM t∈r.map keyM;rw[h2];exact List.mem_map_of_mem hx);rw[decide_eq_false this];rfl
   rw[this]
  ·rw[List.filter_cons,if_pos (by rw[decide_eq_false e];rfl)]
   have hr:t∈r:=by
    rcases List.mem_cons.1 ht with h|h
    ·exact absurd (by rw[h]) e
    ·exact h
   exact(List.Perm.swap a t _).trans ((ih h'.2 hr).cons a)
theorem map_filt(ws:List MV)(k:Nm):(ws.filter fun x=>!decide (k=keyM x.m)).map MV.m=(ws.map MV.m).filter fun x=>!decide (k=keyM x):=by
 rw[List.filter_map];rfl
variable {el:Frag}
section
variable (f:Frag) (F:List HP)
theorem wput_fn(htab:TabAt f){e:Frag}(he:Le e f){ws l:List MV}{x:MV}(hx:x.Good f)(hlen:ws.length<100000):Fn prog 252 [.pointer (some ⟨wb,0,none⟩),.pointer (some ⟨lb,0,none⟩),.agg x.vals.toArray] f (waitH e wb ws::loreH el lb n l::F) (PutP f (loreH el lb n l::F) wb ws x.m (chk n (strm (l.map MV.m)) x.m)):=by
 refine (qfu) fun b hb=>?_;have hck:∀G,Fn prog 211 [.pointer (some ⟨lb,0,none⟩),.agg x.vals.toArray] f (loreH el lb n l::G) (Ret (.int .i64 (chk n (strm (l.map MV.m)) x.m)) f (loreH el lb n l::G)):=fun G=>lcheck_fn f G htab hx;have hfit:openZ (chk n (strm (l.map MV.m)) x.m)=true→0≤x.m.number:=fun h=>fits_num (open_fits h)
 generalize chk n (strm (l.map MV.m)) x.m=c at *;have hbf:=hb.mono he
 cases ho:openZ c with
 | false =>
  refine AP func252 ntmps252 fun base=>?_;refine (qdZ) fun mb=>?_;apply (qeU);rw[ho];apply (gR);apply (qgA);exact AE rfl rfl iD ⟨nil0,c,ws,.shut ho _ (List.Perm.refl _),by omega,Dj.nil _,rfl,(un_nil _).symm,rfl⟩
 | true =>
  have hnum:=hfit ho;by_cases hin:keyM x.m∈(ws.map MV.m).map keyM
  ·obtain⟨ym,hym,hyk⟩:=List.mem_map.1 hin;obtain⟨y,hy,rfl⟩:=List.mem_map.1 hym;have hget:getKV (ws.map entV) (keyM x.m)=some (.agg y.vals.toArray):=getKV_mem (by rw[ent_keys];exact hb.ku) (by rw[←hyk];exact List.mem_map_of_mem hy);have hg1:(getKV (ws.map entV) (keyM x.m)).getD (.agg (msgZ.vals none 0).toArray)= .agg y.vals.toArray:=by rw[hget];rfl
   have hg2:(getKV (ws.map entV) (keyM x.m)).isSome=true:=by rw[hget];rfl
   refine AP func252 ntmps252 fun base=>?_;refine (qdZ) fun mb=>?_;apply (qeU);rw[ho];apply (gT);refine (qgF) fun kb=>?_;refine (qeE) fun ob=>?_;apply (gA);apply (qg);apply (qdW);apply (qgY);apply (qke);apply (qia);apply (qiD);apply (gR);apply (qgT);apply (qhh);apply (qgA);exact AE rfl rfl iD ⟨nil0,13,ws,.again ho y.m hym hyk _ (List.Perm.refl _),by omega,Dj.nil _,rfl,(un_nil _).symm,rfl⟩
  ·have hget:getKV (ws.map entV) (keyM x.m)=none:=(getKV_none _ _).2 (by rw[ent_keys];exact hin);have hg1:(getKV (ws.map entV) (keyM x.m)).getD (.agg (msgZ.vals none 0).toArray)= .agg (msgZ.vals none 0).toArray:=by rw[hget];rfl
   have hg2:(getKV (ws.map entV) (keyM x.m)).isSome=false:=by rw[hget];rfl
   have hk:∀y∈ws.map MV.m,keyM y≠keyM x.m:=fun y hy e=>hin (by rw[←e];exact List.mem_map_of_mem hy);refine AP func252 ntmps252 fun base=>?_
   refine (qdZ) fun mb=>?_;apply (qeU);rw[ho];apply (gT);refine (qgF) fun kb=>?_;refine (qeE) fun ob=>?_;apply (gA);apply (qg);apply (qdW);apply (qgY);apply (qke);refine AC (ls:=msgZ.vals none 0) (vs:=msgZ.vals none 0) (ls':=msgZ.vals none 0) rfl rfl rfl (zaa rfl) rfl rfl (Nat.le_refl 121) at3 ?_;apply (qiD);apply (gT);apply (qgT);apply (qdW);apply (qg);refine AV rfl rfl rfl (greatest_fn f _ hb.ku hb.pos hb.len) fun v f' A' hr=>?_;obtain⟨k,hgr,rfl,hff,rfl⟩:=hr;rw[hff];apply (gO);refine (qgF) fun gb=>?_;refine AC (ls:=nmV (0,0)) (vs:=nmV k) (ls':=nmV k) rfl rfl rfl (nmV_one k) rfl rfl (Nat.le_refl 2) aP0 ?_;by_cases hc:11≤cntO (ws.map MV.m) x.m.origin
   ·obtain⟨t,ht,rfl⟩:=hgr.pos jB;by_cases hl:t.number<x.m.number
    ·apply (gT);apply A4 (row gb _ _);apply (qhh);apply (qgA);exact AE rfl rfl iD ⟨nil0,7,ws,.full ho hk hc t ht hl _ (List.Perm.refl _),by omega,Dj.nil _,rfl,(un_nil _).symm,rfl⟩
    ·apply (gT);apply (qg);refine E2 fun es clock hes=>?_;apply (qdW);apply A3 (row gb _ _);apply (qka);repeat(first|(refine AH (ls:=nmV (keyM t)) rfl rfl rfl (Rd.ofRow aP0) rfl rfl ?_)|(apply (gV)))
     apply (qhC);refine E4 (enc:=nmE) (k:=keyM t) rfl rfl rfl jA rfl ?_;apply (qeX);apply (qfM);rw[delE_kv,hes,ent_filter];have hsub:∀y∈ws.filter (fun x=>!decide (keyM t=keyM x.m)),y∈ws:=fun y hy=>(List.mem_filter.1 hy).1
     have hR:∀ws',ws'.Perm ((ws.filter fun x=>!decide (keyM t=keyM x.m)).map MV.m++[x.m])→PutR c (ws.map MV.m) x.m 0 ws':=fun ws' hp=>by
      rw[map_filt]at hp;exact .swap ho hk hc t ht hl ws' ((hp.cons t).trans ((perm_del hb.ku ht.mem).append_right [x.m]))
     have hw2:Waitφ e (ws.filter fun x=>!decide (keyM t=keyM x.m)):=⟨fun y hy=>hb.g y (hsub y hy),fun y hy=>hb.pos y (hsub y hy),by rw[map_filt];exact hb.ku.filter _,Nat.le_trans (List.length_filter_le _ _) hb.len⟩;have hl2:(ws.filter fun x=>!decide (keyM t=keyM x.m)).length≤ws.length:=List.length_filter_le _ _
     have hno:keyM x.m∉((ws.filter fun x=>!decide (keyM t=keyM x.m)).map MV.m).map keyM:=fun h=>by
      obtain⟨ym,hym,hyk⟩:=List.mem_map.1 h;obtain⟨y,hy,rfl⟩:=List.mem_map.1 hym;exact hk y.m (List.mem_map_of_mem (hsub y hy)) hyk
     generalize(ws.filter fun x=>!decide (keyM t=keyM x.m))=ws2 at *;apply (gO);exact qae
   ·have hR:∀ws',ws'.Perm (ws.map MV.m++[x.m])→PutR c (ws.map MV.m) x.m 0 ws':=fun ws' hp=>.room ho hk jB ws' hp;apply (gT)
    obtain⟨ws2,hws2⟩:∃ws2,ws2=ws:=⟨_,rfl⟩;have hw2:Waitφ e ws2:=by rw[hws2];exact hb
    have hl2:ws2.length≤ws.length:=by rw[hws2];exact Nat.le_refl _
    have hno:keyM x.m∉(ws2.map MV.m).map keyM:=by rw[hws2];exact hin
    rw[←hws2]at hR⊢;exact qae
end
def nextV:Option MV→List Value
 |some y=>y.vals
 |none=>msgZ.vals none 0
def NextP(f:Frag)(F:List HP)(e:Frag)(wb:Nat)(ws:List MV)(c:Msg→Int):Value→Frag→List HP→Prop:=fun v f' A'=>
 ∃(r:Option MV) (ws':List MV),NextR c (ws.map MV.m) (r.map MV.m) (ws'.map MV.m)∧(∀y,r=some y→y∈ws∧y.Good e)∧(∀y∈ws',y∈ws)∧v= .tuple #[.agg (nextV r).toArray,.bool r.isSome]∧f'=f∧A'=waitH e wb ws'::F
variable {A:List HP}
theorem imp_first{p p':HP}(h:∀x,p x→p' x):∀x,stars (p::A) x→stars (p'::A) x:=fun _ ⟨m1,m2,d,e,a,r⟩=>⟨m1,m2,d,e,h _ a,r⟩
structure NS where
 ws:List MV
 es:List (Nm×Value×Nat)
 seen:List Nm
 rd:List Nm
 p:Option Addr
 c:Nat
def curP(c:Msg→Int)(seen:List Nm)(x:MV):Bool:=!decide (keyM x.m∈seen)||openZ (c x.m)
structure NΦ(ws0:List MV)(c:Msg→Int)(s:NS):Prop where
 hes:s.es.map kvOf=s.ws.map entV
 cur:s.ws=ws0.filter (curP c s.seen)
 heap:Heap s.rd
 mem:∀k,k∈s.rd↔∃x∈ws0,keyM x.m=k∧c x.m=0∧k∈s.seen
 len:s.rd.length+unsE s.es s.seen≤100000
theorem KU.sameV{ws:List MV}(h:KU (ws.map MV.m)){x:MV}(hx:x∈ws)(hy:y∈ws)(e:keyM x.m=keyM y.m):x=y:=by
 unfold KU at h
 induction ws with
 |nil=>cases hx
 | cons z r ih =>
  have h':=List.nodup_cons.1 h;have hin:∀w∈r,keyM w.m∈(r.map MV.m).map keyM:=fun w hw=>List.mem_map_of_mem (List.mem_map_of_mem hw)
  rcases List.mem_cons.1 hx with h1|h1
  ·rcases List.mem_cons.1 hy with h2|h2
   ·rw[h1,h2]
   ·exact absurd (by rw[←h1,e];exact hin y h2) h'.1
  ·rcases List.mem_cons.1 hy with h2|h2
   ·exact absurd (by rw[←h2,←e];exact hin x h1) h'.1
   ·exact ih h'.2 h1 h2
variable {ws0:List MV} {seen:List Nm}
theorem cur_del{c:Msg→Int}{x:MV}(hu:KU (ws0.map MV.m))(hx:x∈ws0)(ho:openZ (c x.m)=false):(ws0.filter (curP c seen)).filter (fun y=>!decide (keyM x.m=keyM y.m))=ws0.filter (curP c (keyM x.m::seen)):=by
 rw[List.filter_filter];refine List.filter_congr fun y hy=>?_;by_cases e:keyM x.m=keyM y.m
 ·have:=hu.sameV hx hy e;subst this
  have h2:decide (keyM x.m∈keyM x.m::seen)=true:=decide_eq_true jI;unfold curP
  rw[decide_eq_true rfl,h2,ho];rfl
 ·have h2:decide (keyM y.m∈keyM x.m::seen)=decide (keyM y.m∈seen):=by
   exact qbg
  unfold curP;rw[decide_eq_false e,h2];simp
theorem cur_keep{c:Msg→Int}{x:MV}(hu:KU (ws0.map MV.m))(hx:x∈ws0)(ho:openZ (c x.m)=true):ws0.filter (curP c seen)=ws0.filter (curP c (keyM x.m::seen)):=by
 refine List.filter_congr fun y hy=>?_;by_cases e:keyM x.m=keyM y.m
 ·have:=hu.sameV hx hy e;subst this
  unfold curP;rw[ho];simp
 ·have h2:decide (keyM y.m∈keyM x.m::seen)=decide (keyM y.m∈seen):=by
   exact qbg
  unfold curP;rw[h2]
variable {s:NS}
theorem NΦ.skip{c:Msg→Int}(h:NΦ ws0 c s)(hu:KU (ws0.map MV.m)){x:MV}(hx:x∈ws0)(ho:openZ (c x.m)=true)(h0:c x.m≠0)(hl:unsE s.es (keyM x.m::s.seen)≤unsE s.es s.seen):NΦ ws0 c ⟨s.ws,s.es,keyM x.m::s.seen,s.rd,s.p,s.c⟩:=by
 refine⟨h.hes,h.cur.trans (cur_keep hu hx ho),h.heap,fun k=>?_,by have:=h.len;show s.rd.length+unsE s.es (keyM x.m::s.seen)≤_;omega⟩;rw[show k∈s.rd↔_ from h.mem k];constructor
 ·rintro⟨y,hy,e,hc,hs⟩;exact qcH
 ·rintro⟨y,hy,e,hc,hs⟩;refine⟨y,hy,e,hc,?_⟩;rcases List.mem_cons.1 hs with h1|h1
  ·rw[hu.sameV hy hx (e.trans h1)]at hc;exact absurd hc h0
  ·exact h1
theorem NΦ.push{c:Msg→Int}(h:NΦ ws0 c s)(hu:KU (ws0.map MV.m)){x:MV}(hx:x∈ws0)(h0:c x.m=0)(hl:unsE s.es (keyM x.m::s.seen)<unsE s.es s.seen)
  {l':List Nm} (hh:Heap l') (hm:∀k,k∈l'↔k∈s.rd∨k=keyM x.m) (hlen:l'.length=s.rd.length+1) (p:Option Addr) (cc:Nat):NΦ ws0 c ⟨s.ws,s.es,keyM x.m::s.seen,l',p,cc⟩:=by
 refine⟨h.hes,h.cur.trans (cur_keep hu hx (by rw[h0];rfl)),hh,fun k=>?_,by have:=h.len;show l'.length+unsE s.es (keyM x.m::s.seen)≤_;omega⟩;rw[show k∈l'↔_ from hm k,h.mem k];constructor
 ·rintro(⟨y,hy,e,hc,hs⟩|rfl)
  ·exact qcH
  ·exact⟨x,hx,rfl,h0,by simp⟩
 ·rintro⟨y,hy,e,hc,hs⟩;rcases List.mem_cons.1 hs with h1|h1
  ·exact .inr h1
  ·exact .inl ⟨y,hy,e,hc,h1⟩
theorem NΦ.del{c:Msg→Int}(h:NΦ ws0 c s)(hu:KU (ws0.map MV.m)){x:MV}(hx:x∈ws0)(ho:openZ (c x.m)=false)(hl:unsE s.es (keyM x.m::s.seen)≤unsE s.es s.seen):NΦ ws0 c ⟨ws0.filter (curP c (keyM x.m::s.seen)),delE (keyM x.m) s.es,keyM x.m::s.seen,s.rd,s.p,s.c⟩:=by
 refine⟨?_,rfl,h.heap,fun k=>?_,by have:=h.len;have:=unsE_del s.es (keyM x.m::s.seen) (keyM x.m);show s.rd.length+unsE (delE (keyM x.m) s.es) (keyM x.m::s.seen)≤_;omega⟩
 ·show(delE (keyM x.m) s.es).map kvOf=_;rw[delE_kv,h.hes,ent_filter,h.cur,cur_del hu hx ho]
 ·rw[show k∈s.rd↔_ from h.mem k];constructor
  ·rintro⟨y,hy,e,hc,hs⟩;exact qcH
  ·rintro⟨y,hy,e,hc,hs⟩;refine⟨y,hy,e,hc,?_⟩;rcases List.mem_cons.1 hs with h1|h1
   ·rw[hu.sameV hy hx (e.trans h1)]at hc;rw[hc]at ho;cases ho
   ·exact h1
theorem NΦ.stop{c:Msg→Int}(h:NΦ ws0 c s)(hend:∀e∈s.es,e.1∈s.seen):s.ws=ws0.filter (fun x=>openZ (c x.m))∧∀k,k∈s.rd↔∃x∈ws0,keyM x.m=k∧c x.m=0:=by
 have hin:∀x∈ws0,curP c s.seen x=true→keyM x.m∈s.seen:=fun x hx hp=>by
  have h1:x∈s.ws:=by rw[h.cur];exact List.mem_filter.2 ⟨hx,hp⟩
  obtain⟨e,he,e1⟩:=ent_of h.hes h1;rw[←e1];exact hend e he
 constructor
 ·rw[h.cur];refine List.filter_congr fun x hx=>?_
  cases hp:curP c s.seen x with
  | true =>
   have h1:=hin x hx hp;unfold curP at hp
   rw[decide_eq_true h1]at hp;exact hp.symm
  | false =>
   unfold curP at hp;rw[Bool.or_eq_false_iff]at hp;exact hp.2.symm
 ·intro k;rw[h.mem k];constructor
  ·rintro⟨x,hx,e,hc,_⟩;exact⟨x,hx,e,hc⟩
  ·rintro⟨x,hx,e,hc⟩;refine⟨x,hx,e,hc,?_⟩;rw[←e];exact hin x hx (by unfold curP;rw[hc];simp[openZ])
theorem filt_map(c:Msg→Int)(ws:List MV):(ws.filter fun x=>openZ (c x.m)).map MV.m=(ws.map MV.m).filter fun x=>openZ (c x):=by
 rw[List.filter_map];rfl
section
variable (f:Frag) (F:List HP)
theorem wnext_fn(htab:TabAt f){e:Frag}(he:Le e f){ws l:List MV}:Fn prog 253 [.pointer (some ⟨wb,0,none⟩),.pointer (some ⟨lb,0,none⟩)] f (waitH e wb ws::loreH el lb n l::F) (NextP f (loreH el lb n l::F) e wb ws (chk n (strm (l.map MV.m)))):=by
 refine (qfu) fun b hb=>?_;have hck:∀x∈ws,∀G,Fn prog 211 [.pointer (some ⟨lb,0,none⟩),.agg x.vals.toArray] f (loreH el lb n l::G) (Ret (.int .i64 (chk n (strm (l.map MV.m)) x.m)) f (loreH el lb n l::G)):=fun x hx G=>lcheck_fn f G htab ((hb.g x hx).mono he);generalize chk n (strm (l.map MV.m))=c at *
 refine A9 func253 ntmps253 fun base=>?_;apply (gA);refine (qfm) fun ob=>?_;refine (qic) fun sb=>?_;refine CB (k:=0) (sz:=2) rfl jE ?_;refine H.box (ls:=[.slice (some ⟨sb,0,none⟩) 0 0]) rfl rfl rfl rfl fun nb=>?_;apply (qg);refine E2 fun es clock hes=>?_;apply (gO);refine (qhJ) fun rb=>?_;refine H.imp (imp_first (itr_weak (es':=es) fun _ h=>h)) ?_;apply (gK);have hu:=hb.ku
 have hb0:NΦ ws c ⟨ws,es,[],[],some ⟨sb,0,none⟩,0⟩:=by
  refine⟨hes,?_,Heap.nil,fun k=>?_,?_⟩
  ·symm;rw[List.filter_eq_self];intro x _;unfold curP;rw[decide_eq_false (by intro h;cases h)];rfl
  ·constructor
   ·intro h;cases h
   ·rintro⟨_,_,_,_,h⟩;cases h
  ·have h1:unsE es ([]:List Nm)≤es.length:=List.length_filter_le _ _;have h2:=congrArg List.length hes
   rw[List.length_map,List.length_map]at h2
   have:=hb.len;show 0+unsE es ([]:List Nm)≤100000
   omega
 apply (qeO);apply (qed)
 refine AF (ι:=NS) (fun _=>[(24,.pointer (some ⟨rb,0,none⟩)),(0,.pointer (some ⟨wb,0,none⟩)),(1,.pointer (some ⟨lb,0,none⟩)),(6,.pointer (some ⟨nb,0,none⟩)),(4,.pointer (some ⟨ob,0,none⟩)),(5,.bool false)]) (fun _=>f)
  (fun s=>row ob 41 (msgZ.vals none 0)::slc s.p s.rd.length s.c 431 2 (s.rd.flatMap nmV)::itrW rb b s.es clock s.seen::mpS b nmE s.es clock::row nb 436 [.slice s.p s.rd.length s.c]::row wb 250 [.map (some b)]::loreH el lb n l::F)
  (NΦ ws c) (fun s=>unsE s.es s.seen) ⟨ws,es,[],[],some ⟨sb,0,none⟩,0⟩ hb0 fun s hs=>?_
 obtain⟨cur,es2,seen,rd,p,cc⟩:=s;show H _ _ _ _ _ (row ob _ _::slc p rd.length cc _ 2 (rd.flatMap nmV)::itrW rb b es2 clock seen::mpS b nmE es2 clock::row nb _ [.slice p rd.length cc]::_) _;apply (gA);refine FP rfl rfl jA jA (fun _=>jA) rfl (fun hend=>?_) (fun e0 he0 hns=>?_)
 ·obtain⟨hcur,hrd⟩:=hs.stop hend;have hes2:es2.map kvOf=cur.map entV:=hs.hes;have hcur:cur=ws.filter fun x=>openZ (c x.m):=hcur
  have hheap:Heap rd:=hs.heap;have hrl5:rd.length≤100000:=by have h9:rd.length+unsE es2 seen≤100000:=hs.len;omega
  have hrd:∀k,k∈rd↔∃x∈ws,keyM x.m=k∧c x.m=0:=hrd;clear hs hend hb0 hes
  have hcm:cur.map MV.m=(ws.map MV.m).filter fun x=>openZ (c x):=by rw[hcur,filt_map]
  have hsubc:∀y∈cur,y∈ws:=fun y hy=>by rw[hcur]at hy;exact(List.mem_filter.1 hy).1
  have hφ:Waitφ e cur:=⟨fun y hy=>hb.g y (hsubc y hy),fun y hy=>hb.pos y (hsubc y hy),by rw[hcm];exact hu.filter _,by rw[hcur];exact Nat.le_trans (List.length_filter_le _ _) hb.len⟩;apply (gS)
  apply A4 (itrW _ _ _ _ _);refine A8 rfl rfl rfl (nlen_fn f _) ?_;by_cases hrl:rd.length=0
  ·apply (gN);apply (qgn);apply (gK);apply (qgM);apply (qiO);apply (qfM);rw[hes2];apply (qdW);refine H.imp (wait_fold b hφ) ?_;apply (qed)
   exact B5 (ls:=msgZ.vals none 0) rfl rfl rfl rfl (Rd.ofRow aP0) rfl (fun _ s=>s.drop (.here _ _)) ⟨none,cur,.no (fun ym hym h0=>by
    obtain⟨y,hy,rfl⟩:=List.mem_map.1 hym;have:keyM y.m∈rd:=(hrd _).2 ⟨y,hy,rfl,h0⟩;rw[List.eq_nil_of_length_eq_zero hrl]at this
    cases this) _ (by rw[hcm]),(fun y h=>by cases h),hsubc,rfl,rfl,rfl⟩
  ·obtain⟨m,hm⟩:∃m,rd.length=m+1:=⟨rd.length-1,by omega⟩;have hroot:nmAt rd 0∈rd:=List.mem_of_getElem? (zbw jB);obtain⟨y,hy,hyk,hy0⟩:=(hrd _).1 hroot
   have hyc:y∈cur:=by rw[hcur];exact List.mem_filter.2 ⟨hy,by rw[hy0];rfl⟩
   have hget:getKV (cur.map entV) (keyM y.m)=some (.agg y.vals.toArray):=getKV_mem (by rw[ent_keys];exact hφ.ku) (List.mem_map_of_mem (f:=entV) hyc);have hg1:(getKV (cur.map entV) (keyM y.m)).getD (.agg (msgZ.vals none 0).toArray)= .agg y.vals.toArray:=by rw[hget];rfl
   have hleast:∀z∈ws.map MV.m,c z=0→y.m.origin≤z.origin:=fun zm hzm h0=>by
    obtain⟨z,hz,rfl⟩:=List.mem_map.1 hzm;have h1:=hheap.least ((hrd _).2 ⟨z,hz,rfl,h0⟩);rw[←hyk]at h1
    exact h1
   have hpop:∀ {G},Fn prog 304 [.iface 434 (.pointer (some ⟨nb,0,none⟩))] f (slc p rd.length cc 431 2 (rd.flatMap nmV)::row nb 436 [.slice p rd.length cc]::G) (Ret (.iface 431 (.agg (nmV (keyM y.m)).toArray)) f G):=fun {G}=>by
    have hm9:m<1000000:=jB
    rw[hm,hyk];exact hpop_fn (n:=0) f G hm hm9
   apply (gN);refine Db jZ rfl rfl rfl ?_;apply (qdM);apply (qeO);refine A8 rfl rfl rfl hpop ?_;refine FL jZ rfl rfl rfl ?_;refine (qgF) fun kb=>?_;refine AC (ls:=nmV (0,0)) (vs:=nmV (keyM y.m)) (ls':=nmV (keyM y.m)) rfl rfl rfl (nmV_one _) rfl rfl (Nat.le_refl 2) aP0 ?_;apply (gA);apply (qfM);rw[hes2];apply (qdW);apply (qef);apply (qgs);apply A6 [0,1,2,3,4,5] 1;repeat(first|(refine AH (ls:=nmV (keyM y.m)) rfl rfl rfl (Rd.ofRow aP0) rfl rfl ?_)|(apply (gV))|(refine D4 (enc:=nmE) (k:=keyM y.m) rfl rfl rfl jA rfl hg1 rfl ?_))
   apply (qfK);apply (qia);apply (qeX);apply (gA);apply (qg);refine E2 fun es3 clock3 hes3=>?_;apply (qdW);apply (qef);apply (qka);repeat(first|(refine AH (ls:=nmV (keyM y.m)) rfl rfl rfl (Rd.ofRow aP0) rfl rfl ?_)|(apply (gV)))
   apply (qhC);refine E4 (enc:=nmE) (k:=keyM y.m) rfl rfl rfl jA rfl ?_;apply (qeX);apply (gA);apply (qfM);rw[delE_kv,hes3,ent_filter];apply (qhh);apply (qed);refine AD (ls:=y.vals) rfl rfl rfl (Rd.ofRow aP0) rfl rfl ?_;refine AC (ls:=y.vals) (vs:=y.vals) (ls':=y.vals) rfl rfl rfl (zaa rfl) rfl rfl (Nat.le_refl 121) aP0 ?_;apply (gK);have hsub2:∀z∈cur.filter (fun z=>!decide (keyM y.m=keyM z.m)),z∈cur:=fun z hz=>(List.mem_filter.1 hz).1;have hφ2:Waitφ e (cur.filter fun z=>!decide (keyM y.m=keyM z.m)):=⟨fun z hz=>hφ.g z (hsub2 z hz),fun z hz=>hφ.pos z (hsub2 z hz),by rw[map_filt];exact hφ.ku.filter _,Nat.le_trans (List.length_filter_le _ _) hφ.len⟩
   apply (qg);apply (qdW);refine H.imp (wait_fold b hφ2) ?_;apply (qed)
   exact B5 (ls:=y.vals) rfl rfl rfl rfl (Rd.ofRow aP0) rfl (fun _ s=>s.drop (.here _ _)) ⟨some y,_,.yes y.m (List.mem_map_of_mem hy) hy0 hleast _ (by
    rw[map_filt,←hcm]
    exact perm_del hφ.ku (List.mem_map_of_mem hyc)),(fun z h=>by cases h;exact⟨hy,hb.g y hy⟩),(fun z hz=>hsubc z (hsub2 z hz)),rfl,rfl,rfl⟩
 ·obtain⟨ek,ev,st⟩:=e0;obtain⟨x,hxc,e1,e2⟩:=ent_mem hs.hes he0;have e1:ek=keyM x.m:=e1;have e2:ev= .agg x.vals.toArray:=e2
  subst e1;subst e2
  have hx:x∈ws:=by
   have hxc:x∈cur:=hxc;rw[show cur=_ from hs.cur]at hxc
   exact(List.mem_filter.1 hxc).1
  have hns:keyM x.m∉seen:=hns;have hlt:=unsE_lt (e:=(keyM x.m,Value.agg x.vals.toArray,st)) he0 hns
  have hlt:unsE es2 (keyM x.m::seen)<unsE es2 seen:=hlt;have hckx:=hck x hx
  apply (gR);refine H.entry rfl rfl jA jA he0 rfl ?_;apply (gO);refine (qgF) fun kb=>?_;refine (qfm) fun mb=>?_;refine AC (ls:=nmV (0,0)) (vs:=nmV (keyM x.m)) (ls':=nmV (keyM x.m)) rfl rfl rfl (nmV_one _) rfl rfl (Nat.le_refl 2) aP1 ?_;refine AC (ls:=msgZ.vals none 0) (vs:=x.vals) (ls':=x.vals) rfl rfl rfl (zaa rfl) rfl rfl (Nat.le_refl 121) aP0 ?_;apply (gG);apply (qfH);apply (qiP);apply A5 (hckx _);apply (qfz);apply (gK);refine A8 rfl rfl rfl (wopen_fn f _) ?_;apply (qiu)
  cases ho:openZ (c x.m)with
  | false =>
   apply (gR);apply (qdW);apply (qef);apply (qka);repeat(first|(refine AH (ls:=nmV (keyM x.m)) rfl rfl rfl (Rd.ofRow aP0) rfl rfl ?_)|(apply (gV)))
   apply (qhC);refine E4 (enc:=nmE) (k:=keyM x.m) rfl rfl rfl jA rfl ?_;apply (qhU);apply (qfZ);refine H.imp (imp_first (itr_weak (es':=delE (keyM x.m) es2) fun _ h=>delE_mem h)) ?_;apply (qeO);apply (qed);exact AI _ (hs.del hu hx ho (Nat.le_of_lt hlt)) (Nat.lt_of_le_of_lt (unsE_del es2 (keyM x.m::seen) (keyM x.m)) hlt)
  | true =>
   by_cases h0:c x.m=0
   ·apply (gT);refine Db jZ rfl rfl rfl ?_;refine AD (ls:=nmV (keyM x.m)) rfl rfl rfl (Rd.ofRow jA) rfl rfl ?_;refine Db jZ rfl rfl rfl ?_;apply (qdM);apply (qeO);refine AV rfl rfl rfl (hpush_fn f _ (n:=rd.length) rfl (by have:=hs.len;have:rd.length≤100000:=by {have h9:rd.length+unsE es2 seen≤100000:=hs.len;omega};omega) hs.heap) fun v f' A' hr=>?_;obtain⟨p',c',l',h1,h2,h3,rfl,hff,rfl⟩:=hr;rw[hff,←h3];apply (gK);apply (qjq);exact AI _ (hs.push hu hx h0 hlt h1 h2 h3 p' c') hlt
   ·apply (gT);apply (qjq);exact AI _ (hs.skip hu hx ho h0 (Nat.le_of_lt hlt)) hlt
end
def peC(n:Nat)(vv:Nat→Nat→Int):List Value:=.int .i64 (n:Int)::kRow 11 vv
theorem peC_len(n:Nat)(vv:Nat→Nat→Int):(peC n vv).length=122:=by unfold peC;rw[List.length_cons,kRow_len]
variable {pb:Nat} {vv:Nat→Nat→Int}
theorem peC_rd{i:Nat}(h:At A (row pb T (peC n vv)) A' (row pb T (peC n vv)))(hi:i<11):Rd f A pb (0+1+i*11) (v11 (vv i)):=by
 have h1:Rd f A pb 0 (peC n vv):=Rd.ofRow h;have h2:Rd f A pb (0+1) (kRow 11 vv):=Rd.sub (pre:=[.int .i64 (n:Int)]) (post:=[]) (by rw[List.append_nil];exact h1) rfl
 intro base w s;obtain⟨cs,t,fr,h3,h4⟩:=h2 base w s;refine⟨cs,t,fr,h3,fun j hj=>?_⟩;have hj:j<11:=hj;rw[Nat.add_assoc,h4 (i*11+j) (by rw[kRow_len];omega),kRow_get hi hj,zbq _ hj]
theorem peC_splice(n:Nat)(vv:Nat→Nat→Int)(v:Nat→Int){i:Nat}(hi:i<11):splice (peC n vv) (0+1+i*11) (v11 v)=peC n (updF vv i v):=by
 have hl:=peC_len n vv;have hl2:=peC_len n (updF vv i v)
 have hv:(v11 v).length=11:=rfl;have ht:((peC n vv).take (0+1+i*11)).length=1+i*11:=by rw[List.length_take];omega
 apply List.ext_getElem?;intro j;unfold splice;by_cases h1:j<1+i*11
 ·rw[List.append_assoc,List.getElem?_append_left jB,List.getElem?_take_of_lt jB]
  cases j with
  |zero=>rfl
  | succ t =>
   exact qcj
 ·by_cases h2:j<1+i*11+11
  ·rw[List.append_assoc,List.getElem?_append_right jB,ht,List.getElem?_append_left jB,zbq v (show j-(1+i*11)<11 by omega)];obtain⟨t,rfl⟩:∃t,j=t+1:=⟨j-1,by omega⟩;show _=(kRow 11 (updF vv i v))[t]?;rw[kRow_at jB,show t / 11=i by omega,zbg,show t % 11=t+1-(1+i*11) by omega]
  ·rw[List.getElem?_append_right jR,List.length_append,ht,hv,List.getElem?_drop];rw[show 0+1+i*11+11+(j-(1+i*11+11))=j by omega];by_cases h3:j<122
   ·obtain⟨t,rfl⟩:∃t,j=t+1:=⟨j-1,by omega⟩;exact qcj
   ·rw[List.getElem?_eq_none jB,List.getElem?_eq_none jB]
section
variable (f:Frag) (F:List HP)
theorem gnew_fn(h:fewZ (n:Int)):Fn prog 90 [.int .i64 (n:Int)] f F (RetE (fun pb:Nat=>.tuple #[.pointer (some ⟨pb,0,none⟩),.int .i64 0]) f (fun pb=>row pb 266 (peC n fun _ _=>0)::F)):=by
 refine AB func90 ntmps90 fun base=>?_;apply (gG);refine AW rfl rfl rfl (lnew_fn f _ h) fun lb=>?_;apply (qet);repeat(first|(refine AT (t:=266) (out:=peC n fun _ _=>0) rfl rfl rfl jD rfl ?_)|(apply (gU)))
 refine H.box (ls:=peC n fun _ _=>0) rfl rfl rfl rfl fun pb=>?_;apply (gK);exact BN rfl rfl rfl iD ⟨pb,rfl,rfl,rfl⟩
theorem one18_fn(j:Int):Fn prog 297 [.pointer (some ⟨pb,0,none⟩),.int .i64 j] f (row pb 266 (peC n vv)::F) (Ret (.bool (decide (1≤j∧j≤(n:Int)))) f (row pb 266 (peC n vv)::F)):=by
 by_cases h1:1≤j
 ·by_cases h2:j≤(n:Int)
  ·rw[decide_eq_true ⟨h1,h2⟩];refine A9 func297 ntmps297 fun base=>?_;apply (gS);refine AE rfl rfl iD ⟨?_,rfl,rfl⟩;first|rfl|(rw[decide_eq_true h2])
  ·rw[decide_eq_false (fun h=>h2 h.2)];refine A9 func297 ntmps297 fun base=>?_;apply (gS);refine AE rfl rfl iD ⟨?_,rfl,rfl⟩;first|rfl|(rw[decide_eq_false h2])
 ·rw[decide_eq_false (fun h=>h1 h.1)];refine A9 func297 ntmps297 fun base=>?_;apply (gS);exact qad
theorem told_fn{i:Nat}(hi:i<n)(hn:n≤11)(v:Nat→Int):Fn prog 251 [.pointer (some ⟨pb,0,none⟩),.int .i64 ((i+1:Nat):Int),.agg (v11 v).toArray] f (row pb 266 (peC n vv)::F) (Ret (.int .i64 0) f (row pb 266 (peC n (updF vv i v))::F)):=by
 have hone:=fun G=>one18_fn f G (pb:=pb) (n:=n) (vv:=vv) ((i+1:Nat):Int);rw[decide_eq_true jB]at hone
 have hi11:i<11:=jB
 refine AP func251 ntmps251 fun base=>?_;apply (gA);refine H.box (ls:=v11 v) rfl rfl rfl rfl fun vb=>?_;apply (gR);apply (qe);apply A5 (hone _);apply (gR);refine H.dc [0,1,2,3,4,5,6] (S:=[_,_]) rfl ?_;apply A6 [0,1,2,3,4,5,6] 1;apply (gM);refine AH (ls:=v11 v) rfl rfl rfl (Rd.ofRow aP1) rfl rfl ?_;apply (gF);refine BO (i:=i) rfl rfl rfl jB hi11 rfl ?_;apply (qdG);apply (qeJ);apply A7 7;refine AC (ls:=peC n vv) (vs:=v11 v) (ls':=peC n (updF vv i v)) rfl rfl rfl (zaa rfl) rfl (peC_splice n vv v hi11) (by rw[peC_len];show 0+1+i*11+11≤122;omega) aP0 ?_;apply (qhU);apply (qkv);exact qad
theorem lacks_fn(hfl:Le fl f){i m:Nat}(hi:i<n)(hn:n≤11){l:List MV}:Fn prog 248 [.pointer (some ⟨pb,0,none⟩),.int .i64 ((i+1:Nat):Int),.pointer (some ⟨lb,0,none⟩),.int .i64 most] f (loreH fl lb m l::row pb 266 (peC n vv)::F) (SinceP f (loreH fl lb m l::row pb 266 (peC n vv)::F) (sinceM (vv i) most (l.map MV.m))):=by
 have hone:=fun G=>one18_fn f G (pb:=pb) (n:=n) (vv:=vv) ((i+1:Nat):Int);rw[decide_eq_true jB]at hone
 have hi11:i<11:=jB
 refine BK func248 ntmps248 fun base=>?_;apply (gG);apply (qe);apply A5 (hone _);apply (gS);refine CI (i:=i) rfl rfl rfl jB hi11 rfl ?_;refine AD (ls:=v11 (vv i)) rfl rfl rfl (peC_rd aP0 hi11) rfl rfl ?_;apply (gG);apply (qiP);refine AV rfl rfl rfl (lsince_fn f _ hfl (v:=vv i) (most:=most)) fun v f' A' hr=>?_;obtain⟨g,p,c,R,rfl,hR,hRg,hd,rfl,rfl⟩:=hr;apply (gK);exact AU ⟨g,p,c,R,rfl,hR,hRg,hd,rfl,rfl⟩
end
theorem le_nil(f:Frag):Le nil0 f:=fun k o h=>by cases h
variable {R':Value→Frag→List HP→Prop}
theorem Dg(h:Fn P fid args f A R)
  (hr:∀v f' A',R v f' A'→∃g A'',R' v g A''∧Le g f'∧∀x,stars A' x→stars A'' x):Fn P fid args f A R':=fun base w s=>(h base w s).mono fun _ _ ⟨v,f',A',e,r,s'⟩=>by
 obtain⟨g,A'',r2,hl,hi⟩:=hr _ _ _ r
 exact⟨v,g,A'',e,r2,(s'.weakI hl).imp hi⟩
theorem Fn.freeze{P:Program}{fid:FuncId}{args:List Value}{f:Frag}{F:List HP}{x:HP}{R:Value→Frag→List HP→Prop}(h:∀g,x g→Dj f g→Fn P fid args (un f g) F R):Fn P fid args f (x::F) R:=fun base w s=>by
 obtain⟨g,hx,hd,s'⟩:=s.freeze (.here F x)
 exact h g hx hd base w s'
theorem El{f1:Frag}(h:Fn P fid args f1 A R)
  (hr:∀v f' A',R v f' A'→∃f g x A'',f'=un f g∧x g∧Dj f g∧R' v f A''∧∀z,stars (x::A') z→stars A'' z):Fn P fid args f1 A R':=fun base w s=>(h base w s).mono fun _ _ ⟨v,f',A',e,r,s'⟩=>by
 obtain⟨f,g,x,A'',rfl,hx,hd,r2,hi⟩:=hr _ _ _ r
 exact⟨v,f,A'',e,r2,(s'.thaw hx hd).imp hi⟩
def NoQ(ms:List Msg):Prop:=∀m∈ms,m.body.q=[]
def loQ(lb n:Nat)(ms:List Msg):HP:=pack (fun L:List MV=>L.map MV.m=ms) (fun L=>[loreH nil0 lb n L])
variable {L:List MV}
theorem lore_re(hq:NoQ (L.map MV.m)):∀z,loreH f lb n L z→loreH nil0 lb n L z:=fun _ ⟨i,hi,hz⟩=>
 ⟨i,⟨fun y hy=>good_nil nil0 (hq _ (List.mem_map_of_mem hy)) (hi.1 y hy).2.2,hi.2⟩,hz⟩
theorem loQ_fold(hq:NoQ (L.map MV.m)):∀z,stars (loreH f lb n L::F) z→stars (loQ lb n (L.map MV.m)::F) z:=fun z hz=>
 zap (φ:=fun M:List MV=>M.map MV.m=L.map MV.m) (B:=fun M=>[loreH nil0 lb n M]) L rfl z (imp_first (lore_re hq) z hz)
def waQ(wb:Nat)(ws:List Msg):HP:=pack (fun L:List MV=>(L.map MV.m).Perm ws) (fun L=>[waitH nil0 wb L])
theorem wait_re(hq:NoQ (L.map MV.m)):∀z,waitH f wb L z→waitH nil0 wb L z:=fun _ ⟨i,hi,hz⟩=>
 ⟨i,⟨fun y hy=>good_nil nil0 (hq _ (List.mem_map_of_mem hy)) (hi.g y hy).2.2,hi.pos,hi.ku,hi.len⟩,hz⟩
theorem waQ_fold(hp:(L.map MV.m).Perm ws)(hq:NoQ ws):∀z,stars (waitH f wb L::F) z→stars (waQ wb ws::F) z:=fun z hz=>
 zap (φ:=fun M:List MV=>(M.map MV.m).Perm ws) (B:=fun M=>[waitH nil0 wb M]) L hp z (imp_first (wait_re fun m hm=>hq m (hp.mem_iff.1 hm)) z hz)
theorem NoQ.of_mk(x:UInt8)(l:List QM):NoQ (l.map (mkM x)):=fun m hm=>by
 obtain⟨y,_,rfl⟩:=List.mem_map.1 hm
 exact mkM_q x y
variable {ms:List Msg}
section
variable (f:Frag) (F:List HP)
theorem lnew0_fn(h:fewZ (n:Int)):Fn prog 84 [.int .i64 (n:Int)] f F (RetE (fun lb:Nat=>.tuple #[.pointer (some ⟨lb,0,none⟩),.int .i64 0]) f (fun lb=>loQ lb n []::F)):=by
 refine Fn.monoA (lnew_fn f F h) ?_;rintro v f' A' ⟨lb,rfl,rfl,rfl⟩;exact⟨_,⟨lb,rfl,rfl,rfl⟩,loQ_fold (L:=[]) fun m hm=>by cases hm⟩
theorem ladd0_fn(htab:TabAt f)(hms:NoQ ms)(hyq:y.m.body.q=[])(hyo:y.m.body.Ok)(hlen:ms.length<100000)(hc:chk n (strm ms) y.m=0):Fn prog 151 [.pointer (some ⟨lb,0,none⟩),.agg y.vals.toArray] f (loQ lb n ms::F) (Ret (.int .i64 0) f (loQ lb n (ms++[y.m])::F)):=by
 refine (qfu) fun L hL=>?_;subst hL;refine Dg (ladd_fn f F htab (fl:=nil0) (le_nil f) (n:=n) (l:=L) (good_nil f hyq hyo) (by rw[List.length_map]at hlen;exact hlen)) ?_;rintro v f' A' ⟨g,qp,qc,rfl,hd,rfl,rfl⟩;rw[hc,if_pos rfl];have e:L.map MV.m++[y.m]=(L++[(⟨y.m,qp,qc⟩:MV)]).map MV.m:=by rw[List.map_append];rfl
 refine⟨f,loQ lb n (L.map MV.m++[y.m])::F,⟨rfl,rfl,rfl⟩,Le.un f g,?_⟩;rw[e];refine loQ_fold fun m hm=>?_;rw[←e]at hm;rcases List.mem_append.1 hm with h|h
 ·exact hms m h
 ·rw[List.mem_singleton.1 h];exact hyq
theorem lknown0_fn:Fn prog 133 [.pointer (some ⟨lb,0,none⟩)] f (loQ lb n ms::F) (Ret (.agg (v11 (knownS (strm ms))).toArray) f (loQ lb n ms::F)):=by
 refine (qfu) fun L hL=>?_;subst hL;exact CX (known_fn f F) (zap (φ:=fun M:List MV=>M.map MV.m=L.map MV.m) (B:=fun M=>[loreH nil0 lb n M]) L rfl)
theorem lacks0_fn{i m:Nat}(hi:i<n)(hn:n≤11):Fn prog 248 [.pointer (some ⟨pb,0,none⟩),.int .i64 ((i+1:Nat):Int),.pointer (some ⟨lb,0,none⟩),.int .i64 most] f (loQ lb m ms::row pb 266 (peC n vv)::F)
   (fun v f' A'=>∃(p:Option Addr) (c:Nat) (R:List MV),v= .slice p R.length c∧R.map MV.m=sinceM (vv i) most ms∧f'=f∧A'=msL p c R::loQ lb m ms::row pb 266 (peC n vv)::F):=by
 refine (qfu) fun L hL=>?_;subst hL;refine Dg (lacks_fn f F (fl:=nil0) (le_nil f) (lb:=lb) (m:=m) (vv:=vv) hi hn (l:=L) (most:=most)) ?_;rintro v f' A' ⟨g,p,c,R,rfl,hR,hRg,hd,rfl,rfl⟩;refine⟨f,_,⟨p,c,R,rfl,hR,rfl,rfl⟩,Le.un f g,?_⟩;rintro z ⟨m1,m2,h1,h2,h3,h4⟩;exact⟨m1,m2,h1,h2,h3,zap (φ:=fun M:List MV=>M.map MV.m=L.map MV.m) (B:=fun M=>[loreH nil0 lb m M]) L rfl _ h4⟩
theorem wnew0_fn:Fn prog 80 [] f F (RetE (fun wb:Nat=>.pointer (some ⟨wb,0,none⟩)) f (fun wb=>waQ wb []::F)):=by
 refine Fn.monoA (wnew_fn f F) ?_;rintro v f' A' ⟨wb,rfl,rfl,rfl⟩;exact⟨_,⟨wb,rfl,rfl,rfl⟩,waQ_fold (L:=[]) (ws:=[]) (.refl _) fun m hm=>by cases hm⟩
theorem wput0_no(htab:TabAt f)(hws:NoQ ws)(hyq:y.m.body.q=[])(hyo:y.m.body.Ok)(hlen:ws.length<100000)(hc:openZ (chk n (strm ms) y.m)=false):Fn prog 252 [.pointer (some ⟨wb,0,none⟩),.pointer (some ⟨lb,0,none⟩),.agg y.vals.toArray] f (waQ wb ws::loQ lb n ms::F) (RetE (fun z:Int=>.int .i64 z) f (fun _=>waQ wb ws::loQ lb n ms::F)):=by
 refine (qfu) fun W hW=>?_;refine (qhl) fun L hL=>?_;subst hL;apply (qgx);rintro v f' A' ⟨g,z,W2,hP,_,hd,rfl,rfl,rfl⟩;refine⟨f,_,⟨z,rfl,rfl,rfl⟩,Le.un f g,?_⟩
 have hp:(W2.map MV.m).Perm ws:=by
  cases hP with
  |shut _ _ hp=>exact hp.trans hW
  |again h=>rw[hc]at h;cases h
  |room h=>rw[hc]at h;cases h
  |full h=>rw[hc]at h;cases h
  |swap h=>rw[hc]at h;cases h
 intro x hx;obtain⟨m1,m2,h1,h2,h3,h4⟩:=waQ_fold hp hws x hx;exact qaN
theorem wput0_fn(htab:TabAt f)(hws:NoQ ws)(hyq:y.m.body.q=[])(hyo:y.m.body.Ok)(hlen:ws.length<100000)(hc:openZ (chk n (strm ms) y.m)=true)(hk:∀z∈ws,keyM z≠keyM y.m)(ho:cntO ws y.m.origin<11):Fn prog 252 [.pointer (some ⟨wb,0,none⟩),.pointer (some ⟨lb,0,none⟩),.agg y.vals.toArray] f (waQ wb ws::loQ lb n ms::F) (RetE (fun z:Int=>.int .i64 z) f (fun _=>waQ wb (ws++[y.m])::loQ lb n ms::F)):=by
 refine (qfu) fun W hW=>?_;refine (qhl) fun L hL=>?_;subst hL;apply (qgx);rintro v f' A' ⟨g,z,W2,hP,_,hd,rfl,rfl,rfl⟩;refine⟨f,_,⟨z,rfl,rfl,rfl⟩,Le.un f g,?_⟩;have hco:cntO (W.map MV.m) y.m.origin<11:=by rw[cntO_perm hW];exact ho
 have hp:(W2.map MV.m).Perm (ws++[y.m]):=by
  cases hP with
  |shut h=>rw[hc]at h;cases h
  |again _ w hw hkw=>exact absurd hkw (hk w (hW.mem_iff.1 hw))
  |room _ _ _ _ hp=>exact hp.trans (hW.append_right _)
  |full _ _ h=>omega
  |swap _ _ h=>omega
 have hq2:NoQ (ws++[y.m]):=fun m hm=>by
  rcases List.mem_append.1 hm with h|h
  ·exact hws m h
  ·rw[List.mem_singleton.1 h];exact hyq
 intro x hx;obtain⟨m1,m2,h1,h2,h3,h4⟩:=waQ_fold hp hq2 x hx;exact qaN
theorem wnext0_no(htab:TabAt f):Fn prog 253 [.pointer (some ⟨wb,0,none⟩),.pointer (some ⟨lb,0,none⟩)] f (waQ wb []::loQ lb n ms::F) (Ret (.tuple #[.agg (msgZ.vals none 0).toArray,.bool false]) f (waQ wb []::loQ lb n ms::F)):=by
 refine (qfu) fun W hW=>?_
 have hW0:W=[]:=by
  have:=hW.length_eq;rw[List.length_map]at this
  exact List.eq_nil_of_length_eq_zero this
 subst hW0;refine (qhl) fun L hL=>?_;subst hL;refine Fn.front (x:=waitH nil0 wb []) (.there _ (.here _ _)) ?_;refine Fn.monoA (wnext_fn f F htab (e:=nil0) (el:=nil0) (le_nil f) (lb:=lb) (n:=n) (ws:=[]) (l:=L)) ?_;rintro v f' A' ⟨r,W2,hN,hr,hW2,rfl,rfl,rfl⟩
 obtain rfl:r=none:=by
  cases r with
  |none=>rfl
  |some y=>exact absurd (hr y rfl).1 jI
 obtain rfl:W2=[]:=List.eq_nil_iff_forall_not_mem.2 fun y hy=>absurd (hW2 y hy) jI;refine⟨_,⟨rfl,rfl,rfl⟩,?_⟩;intro x hx;obtain⟨m1,m2,h1,h2,h3,h4⟩:=waQ_fold (L:=[]) (ws:=[]) (.refl _) (fun m hm=>by cases hm) x hx;exact qaN
theorem wnext0_fn(htab:TabAt f){m0:Msg}(hws:NoQ (m0::ws))(h0:chk n (strm ms) m0=0)(hr:∀y∈ws,openZ (chk n (strm ms) y)=true∧(m0.origin<y.origin∨chk n (strm ms) y≠0)):Fn prog 253 [.pointer (some ⟨wb,0,none⟩),.pointer (some ⟨lb,0,none⟩)] f (waQ wb (m0::ws)::loQ lb n ms::F)
   (fun v f' A'=>∃y:MV,y.m=m0∧v= .tuple #[.agg y.vals.toArray,.bool true]∧f'=f∧A'=waQ wb ws::loQ lb n ms::F):=by
 refine (qfu) fun W hW=>?_;refine (qhl) fun L hL=>?_;subst hL;refine Fn.front (x:=waitH nil0 wb W) (.there _ (.here _ _)) ?_;refine Fn.monoA (wnext_fn f F htab (e:=nil0) (el:=nil0) (le_nil f) (lb:=lb) (n:=n) (ws:=W) (l:=L)) ?_;rintro v f' A' ⟨r,W2,hN,hr',hW2,rfl,rfl,rfl⟩
 cases r with
 | none =>
  cases hN with
  |no h=>exact absurd h0 (h m0 (hW.mem_iff.2 List.mem_cons_self))
 | some y =>
  have hN:NextR (chk n (strm (L.map MV.m))) (W.map MV.m) (some y.m) (W2.map MV.m):=hN
  cases hN with
  | yes _ hx hx0 hl _ hp =>
   have hy:y.m=m0:=by
    rcases List.mem_cons.1 (hW.mem_iff.1 hx)with h|h
    ·exact h
    ·have h1:=hr _ h;have h2:=hl m0 (hW.mem_iff.2 List.mem_cons_self) h0
     rcases h1.2 with h3|h3
     ·omega
     ·exact absurd hx0 h3
   have hfil:(m0::ws).filter (fun z=>openZ (chk n (strm (L.map MV.m)) z))=m0::ws:=List.filter_eq_self.2 fun z hz=>by
    rcases List.mem_cons.1 hz with h|h
    ·rw[h,h0];rfl
    ·exact(hr z h).1
   have hp2:(W2.map MV.m).Perm ws:=by
    have:=hp.trans (hW.filter fun z=>openZ (chk n (strm (L.map MV.m)) z));rw[hfil,hy]at this
    exact this.cons_inv
   refine⟨_,⟨y,hy,rfl,rfl,rfl⟩,?_⟩;intro x hx;obtain⟨m1,m2,h1,h2,h3,h4⟩:=waQ_fold hp2 (fun m hm=>hws m (List.mem_cons_of_mem _ hm)) x hx;exact qaN
end
structure Pkt where
 src:Int
 dst:Int
 known:Nat→Int
 msgs:List MV
 mp:Option Addr
 mc:Nat
def Pkt.vals(p:Pkt):List Value:=[.int .i64 p.src,.int .i64 p.dst]++v11 p.known++[.slice p.mp p.msgs.length p.mc]
theorem Pkt.len(p:Pkt):p.vals.length=14:=rfl
def MsAt(f:Frag)(p:Option Addr)(l:List MV):Prop:=ListAt f p 121 MV.vals l∧(∀x∈l,x.Good f)∧l.length≤1000000
def Pkt.Good(f:Frag)(p:Pkt):Prop:=MsAt f p.mp p.msgs
theorem MsAt.mono{f g:Frag}(h:Le f g){p:Option Addr}{l:List MV}(hx:MsAt f p l):MsAt g p l:=⟨hx.1.mono h,fun x m=>(hx.2.1 x m).mono h,hx.2.2⟩
theorem Pkt.Good.mono{f g:Frag}(h:Le f g){p:Pkt}(hx:p.Good f):p.Good g:=MsAt.mono h hx
structure Core where
 src:Int
 dst:Int
 known:Nat→Int
 msgs:List Msg
def Pkt.core(p:Pkt):Core:=⟨p.src,p.dst,p.known,p.msgs.map MV.m⟩
def Pkt.zero:Pkt:=⟨0,0,fun _=>0,[],none,0⟩
theorem Pkt.zero_good(f:Frag):Pkt.zero.Good f:=⟨ListAt.nil f none,(fun x h=>by cases h),Nat.zero_le _⟩
def pairP(i j:Int):Prop:=1≤i∧i≤11∧1≤j∧j≤11∧i≠j
instance (i j:Int):Decidable (pairP i j):=by unfold pairP;infer_instance
def Pkt.may(p:Pkt):Bool:=(p.msgs.all fun x=>x.m.may)&&(decide (pairP p.src p.dst)&&decide (p.msgs.length≤8))
def Core.may(p:Core):Bool:=(p.msgs.all Msg.may)&&(decide (pairP p.src p.dst)&&decide (p.msgs.length≤8))
theorem Pkt.may_core(p:Pkt):p.may=p.core.may:=by
 unfold Pkt.may Core.may Pkt.core;rw[List.all_map,List.length_map];rfl
theorem min2z(i j:Int):(if j<i then j else i)=min i j:=by rw[Int.min_def];split<;>split<;>omega
theorem max2z(i j:Int):(if i<j then j else i)=max i j:=by rw[Int.max_def];split<;>split<;>omega
section
variable (f:Frag) (F:List HP)
theorem pair_fn(i j:Int):Fn prog 186 [.int .i64 i,.int .i64 j] f F (Ret (.bool (decide (pairP i j))) f F):=by
 by_cases h1:1≤min i j
 ·by_cases h2:max i j≤11
  ·refine A9 func186 ntmps186 fun base=>?_;apply (qiq);refine AE rfl rfl iD ⟨?_,rfl,rfl⟩;congr 1;apply decide_eq_decide.2;unfold pairP;omega
  ·refine A9 func186 ntmps186 fun base=>?_;apply (qiq);exact qct
 ·refine A9 func186 ntmps186 fun base=>?_;repeat(first|(apply (gU))|(refine H.min2 (z:=min i j) rfl rfl rfl (min2z i j) rfl ?_))
  exact qct
theorem netMay_fn{p:Pkt}(hp:p.Good f):Fn prog 177 [.agg p.vals.toArray] f F (Ret (.bool p.may) f F):=by
 obtain⟨hat,hgood,hlen⟩:=hp;refine AB func177 ntmps177 fun base=>?_;refine (qgL) fun pb=>?_;apply (gT)
 refine AF (ι:=Nat) (fun i=>[(8,.int .i64 (i:Int)),(7,.int .i64 (p.msgs.length:Nat)),(6,.slice p.mp p.msgs.length p.mc),(1,.pointer (some ⟨pb,0,none⟩))]) (fun _=>f) (fun _=>row pb 49 p.vals::F)
  (fun i=>i≤p.msgs.length∧(p.msgs.all fun x=>x.m.may)=((p.msgs.drop i).all fun x=>x.m.may)) (fun i=>p.msgs.length-i) 0 ⟨Nat.zero_le _,rfl⟩ fun i hi=>?_
 obtain⟨hi,hall⟩:i≤p.msgs.length∧(p.msgs.all fun x=>x.m.may)=((p.msgs.drop i).all fun x=>x.m.may):=hi;by_cases hlt:i<p.msgs.length
 ·obtain⟨x,hx⟩:∃x,p.msgs[i]?=some x:=⟨p.msgs[i],List.getElem?_eq_getElem hlt⟩;have hxg:x.Good f:=hgood x (List.mem_of_getElem? hx)
  have hdr:p.msgs.drop i=x::p.msgs.drop (i+1):=by
   rw[List.getElem?_eq_getElem hlt]at hx;rw[←Option.some.inj hx];exact List.drop_eq_getElem_cons hlt
  rw[hdr,List.all_cons]at hall;obtain⟨b,off,cs,T,fr,hmp,hfb,hcs⟩:=hat i x hx;have rd:∀A,Rd f A b (off+i*121) x.vals:=fun A=>Rd.imm hfb hcs;clear hcs hfb
  obtain⟨mp,hmp'⟩:∃mp,mp=p.mp:=⟨_,rfl⟩;apply (gN);refine B7 (b:=b) (off:=off) rfl (by rw[←hmp];rfl) rfl rfl hlt rfl ?_;refine AD (ls:=x.vals) rfl rfl rfl (rd _) rfl rfl ?_;refine AJ (ls:=(⟨0,0,fun _=>0,Bod.zero 0,noTag⟩:Msg).vals none 0) rfl rfl rfl fun mb=>?_;apply (qhs);apply (gA);apply (qfR);refine A8 rfl rfl rfl (mmay_fn f _ hxg) ?_
  cases hxm:x.m.may with
  | true =>
   rw[hxm,Bool.true_and]at hall;have hn:(!true)=false:=rfl;apply (qhT)
   exact AI (i+1) ⟨by show i+1≤p.msgs.length;omega,hall⟩ jm
  | false =>
   rw[hxm,Bool.false_and]at hall;have hn:(!false)=true:=rfl;apply (gR)
   apply (qjr);refine AE rfl rfl iD ⟨?_,rfl,rfl⟩;unfold Pkt.may;rw[hall];rfl
 ·have hil:i=p.msgs.length:=jB
  subst hil;rw[List.drop_length]at hall;by_cases h1:pairP p.src p.dst
  ·apply (qky);refine AE rfl rfl iD ⟨?_,rfl,rfl⟩;unfold Pkt.may;rw[hall,decide_eq_true h1];simp;omega
  ·apply (qky);refine AE rfl rfl iD ⟨?_,rfl,rfl⟩;unfold Pkt.may;rw[decide_eq_false h1];simp
end
end Go.Proofs.YtdpgpmbebbaoiaaGreatDoor
