/- Parts of the proof. No conditions. -/
import Derived.Test.YtdpgpmbebbaoiaaGreatDoorZ10
set_option linter.unusedSectionVars false
set_option linter.unusedSimpArgs false
set_option linter.unusedVariables false
set_option maxHeartbeats 3200000
set_option maxRecDepth 100000
namespace Go.Proofs.YtdpgpmbebbaoiaaGreatDoor
open Go Go.Proofs.Tryz
def cntT(t:Nat→UInt8):Nat:=numB ((List.range 8).map t)
def secZ(n:Int):Nat→UInt8:=fun j=>(be 8 n++List.replicate 120 0).getD j 0
theorem cellAll_nil:cellAll []=List.replicate 1200 0:=by
 show be 2 0++[]++List.replicate 1198 0=_;rw[show be 2 0=List.replicate 2 0 from rfl,List.append_nil,List.replicate_append_replicate]
theorem secT_nil(n:Int){i:Nat}(h:i<10):secT n (cellAll []) i=secZ n:=by
 unfold secT secB secZ;rw[cellAll_nil,List.drop_replicate,List.take_replicate,show min 120 (1200-i*120)=120 by omega]
variable {A:List HP} {c:Nat}
section
variable (f:Frag) (F:List HP) {db z:Nat} {m:DM}
theorem b128_rd{b:Nat}{t:Nat→UInt8}(h:Rd f A b 0 (b128 t)){k m:Nat}(hk:k+m≤128):Rd f A b (k*1) (bytesV ((((List.range 128).map t).drop k).take m)):=by
 rw[b128_bytes]at h;have h1:=bytes_win f (k:=k) (m:=m) h;rw[List.length_take,List.length_map,List.length_range,Nat.min_eq_left jB,Nat.zero_add]at h1
 rw[Nat.mul_one];exact h1
theorem ccount_fn(t:Nat→UInt8):Fn prog 204 [.agg (b128 t).toArray] f F (Ret (.int .u64 (cntT t:Nat)) f F):=by
 refine AB func204 ntmps204 fun base=>?_;apply (gA);refine H.box (ls:=b128 t) rfl rfl rfl rfl fun pb=>?_;apply (gG);refine C4 (lo:=none) (hi:=some (.const (.int .i64 8))) (mx:=none) (lv:=0) (hv:=8) (mv:=128) rfl rfl rfl ⟨_,_,rfl,rfl⟩ rfl (fun h=>by cases h) jE jE (Nat.le_refl _) rfl ?_;rw[slP_at (show(128:Nat)≠0 by decide)];refine AV rfl rfl rfl (octNew_fn f _ (l:=(List.range 8).map t) (c0:=128) (Src.slice (b128_rd f (k:=0) (m:=8) (Rd.ofRow aP0) jE) (by rw[zab,List.length_map];rfl)) (fun h=>by cases h) kJ) fun v f' A' hr=>?_;obtain⟨g,cb,pc,cc,rfl,hg,hd,hff,rfl⟩:=hr;rw[hff];clear hff;refine A8 rfl rfl rfl (cutWord_yes _ _ cb (l:=(List.range 8).map t) kJ kJ) ?_;apply (gK);apply (qjr);refine H.weakI (Le.un f g) ?_;exact qad
theorem read1_fn:Fn prog 207 ([]++[.int .u8 0]++[]) f F (Ret (.bool false) f F):=by
 refine AB func207 ntmps207 fun base=>?_;apply (gN);exact qad
theorem noB_fn{p:Option Addr}{k:Nat}(hk:k≤100000):Fn prog 206 [.slice p k c,.func (.func 207) #[] #[]] f (slc p k c 5 1 (bytesV (List.replicate k 0))::F) (Ret (.bool false) f (slc p k c 5 1 (bytesV (List.replicate k 0))::F)):=by
 have hix:Fn prog 264 [.slice p k c,.func (.func 207) #[] #[]] f (slc p k c 5 1 (bytesV (List.replicate k 0))::F) (Ret (.int .i64 (-1)) f (slc p k c 5 1 (bytesV (List.replicate k 0))::F)):=by
  refine A9 func264 ntmps264 fun base=>?_;apply (gK);refine AF (ι:=Nat) (fun i=>[(8,.int .i64 (i:Int)),(7,.int .i64 (k:Nat)),(0,.slice p k c),(1,.func (.func 207) #[] #[])]) (fun _=>f) (fun _=>slc p k c 5 1 (bytesV (List.replicate k 0))::F) (fun i=>i≤k) (fun i=>k-i) 0 (Nat.zero_le _) fun i hi=>?_;have hi:i≤k:=hi;by_cases hlt:i<k
  ·refine AO (p:=p) (n0:=k) (c:=c) (T:=5) (sz:=1) (xs:=bytesV (List.replicate k 0)) aP0 jB fun b hp=>?_;subst hp
   have hb:(bytesV (List.replicate k 0))[i]?=some (.int .u8 0):=by
    unfold bytesV;rw[List.getElem?_map,List.getElem?_replicate,if_pos hlt];rfl
   apply (gN);refine CD rfl rfl rfl rfl hlt rfl ?_;refine AL rfl rfl rfl (.of (Rd.ofSlc aP0 jB) hb) rfl ?_;refine BM (fs:=[]) (cs:=[]) rfl rfl rfl rfl (read1_fn f _) ?_;apply (gT);exact AI (i+1) kM jr
  ·have e:i=k:=jB
   subst e;apply (gN);exact qad
 refine A9 func206 ntmps206 fun base=>?_;apply (gG);refine A8 rfl rfl rfl hix ?_;apply (gN);exact qad
end
variable {p cb w n:Nat}
section
variable (f:Frag) (F:List HP) {db z:Nat} {m:DM}
theorem oleft_fn{l:List UInt8}{sp:Bool}:Fn prog 97 [.pointer (some ⟨cb,0,none⟩)] f (cutH f cb l sp::F) (Ret (.int .i64 (l.length:Nat)) f (cutH f cb l sp::F)):=by
 exact qbQ
theorem win0{b:Nat}{n:Int}(h:Rd f A b 0 (b128 (secZ n))):Rd f A b (8*1) (bytesV (List.replicate 120 0)):=by
 have h1:=b128_rd f (k:=8) (m:=120) h jE
 have e:(((List.range 128).map (secZ n)).drop 8).take 120=List.replicate 120 0:=by
  apply List.ext_getElem?;intro i;by_cases hi:i<120
  ·rw[List.getElem?_take_of_lt hi,List.getElem?_drop,List.getElem?_map,List.getElem?_range (show 8+i<128 by omega),List.getElem?_replicate,if_pos hi];unfold secZ;simp only[Option.map_some,List.getD_eq_getElem?_getD];rw[List.getElem?_append_right (by rw[be_len];omega),be_len,List.getElem?_replicate,if_pos jB];rfl
  ·rw[List.getElem?_eq_none (by rw[List.length_take];omega),List.getElem?_eq_none (by rw[List.length_replicate];omega)]
 rwa [e]at h1
def cr0(n:Nat):Nat→Int
 |0=>0
 |_+1=>(n:Int)
theorem cread_fn(hp:p≤32748)(hw:w≤1)(hn:cntT (secZ (n:Int))=n)(hs:∀i,i<10→dget m ((p+w*10+i:Nat):Int)=secZ (n:Int)):Fn prog 142 [.agg (placeC db p).toArray,.int .i64 (w:Nat)] f (diskH db z m::F) (fun v f' A'=>∃bp bc,v= .tuple #[.int .u64 (n:Nat),.slice bp 0 bc]∧f'=f∧A'=slc bp 0 bc 5 1 []::diskH db z m::F):=by
 obtain⟨ni,hni⟩:∃ni:Int,ni=(n:Int):=⟨_,rfl⟩;rw[←hni]at hn hs⊢;refine A9 func142 ntmps142 fun base=>?_;refine (qjV) fun pb=>?_;apply (gK);refine AY 5 1 ?_;apply (qe)
 refine AF (ι:=Nat×Option Addr×Nat) (fun s=>[(13,.int .i64 (s.1:Nat)),(6,.slice s.2.1 (s.1*120) s.2.2),(4,.int .u64 (cr0 n s.1)),(2,.pointer (some ⟨pb,0,none⟩)),(1,.int .i64 (w:Nat))]) (fun _=>f)
  (fun s=>row pb 246 (placeC db p)::slc s.2.1 (s.1*120) s.2.2 5 1 (bytesV (List.replicate (s.1*120) 0))::diskH db z m::F) (fun s=>s.1≤10) (fun s=>10-s.1) (0,none,0) (Nat.zero_le _) fun s hsi=>?_
 obtain⟨i,ap,ac⟩:=s;have hsi:i≤10:=hsi;show H _ _ _ [(13,.int .i64 (i:Nat)),(6,.slice ap (i*120) ac),(4,.int .u64 (cr0 n i)),_,_] _ (_::slc ap (i*120) ac _ _ (bytesV (List.replicate (i*120) 0))::_::F) _
 by_cases hlt:i<10
 ·have e2:((p:Int)+(w:Int)*10+(i:Int))=((p+w*10+i:Nat):Int):=jB
  by_cases h0:i=0
  ·rw[show cr0 n i=0 by rw[h0];rfl];apply (gT);apply (qgV);rw[e2,hs i hlt];apply (gO);refine (qfw) fun xb=>?_;apply (qhI);exact qam
  ·rw[show cr0 n i=(n:Int) by obtain⟨j,rfl⟩:∃j,i=j+1:=⟨i-1,by omega⟩;rfl];apply (gT);apply (qgV);rw[e2,hs i hlt];apply (gO);refine (qfw) fun xb=>?_;apply (qhI);apply (gJ);refine AD (ls:=b128 (secZ ni)) rfl rfl rfl (Rd.ofRow jA) (zam _) rfl ?_;refine A8 rfl rfl rfl (ccount_fn f _ (secZ ni)) ?_;rw[hn];exact qam
 ·have e:i=10:=jB
  subst e;refine AO (p:=ap) (n0:=10*120) (c:=ac) jA jB fun b hb=>?_;subst hb;apply (gE);refine AV rfl rfl rfl (octNew_fn f _ (l:=List.replicate (10*120) 0) (c0:=ac) (by have h:=Src.slcS (P:=prog) (f:=f) (A:=row pb 246 (placeC db p)::slc (some ⟨b,0,none⟩) (10*120) ac 5 1 (bytesV (List.replicate (10*120) 0))::diskH db z m::F) aP1 (by rw[zab,List.length_replicate]);rwa [List.length_replicate]) (fun h=>by cases h) jP) fun v f' A' hr=>?_;obtain⟨g,cb,pc,cc,rfl,hg,hd,hff,rfl⟩:=hr;rw[hff];clear hff hg;apply (gG);refine A8 rfl rfl rfl (cutHalf_yes _ _ cb (l:=List.replicate (10*120) 0) jP jP) ?_;rw[show numB ((List.replicate (10*120) 0).take 2)=0 by rw[List.take_replicate];rfl,List.drop_replicate];apply (gD);refine AG rfl rfl rfl (raw_yes _ _ cb (l:=List.replicate (10*120-2) 0) (n:=0) (Nat.zero_le _) jP) fun bp bc=>?_;rw[List.drop_zero];apply (gG);apply A3 (cutH _ cb _ _);apply A5 (oleft_fn _ _);rw[List.length_replicate];refine AG rfl rfl rfl (raw_yes _ _ cb (l:=List.replicate (10*120-2) 0) (n:=1198) jP jP) fun rp rc=>?_;rw[List.take_replicate,List.length_replicate,show min 1198 (10*120-2)=1198 from rfl];apply (gG);apply A3 (cutH _ cb _ _);refine A8 rfl rfl rfl (cutLeft_fn _ _ cb) ?_;apply (qet);apply (qgg);apply (gS);refine A8 rfl rfl rfl (noB_fn _ _ jE) ?_;apply (gR);refine H.weakI (Le.un f g) ?_;apply A4 (slc rp _ _ _ _ _);apply (qfP);apply A4 (slc (some ⟨b,0,none⟩) _ _ _ _ _);exact BN rfl rfl rfl iD ⟨bp,bc,by rw[hni];rfl,rfl,rfl⟩
end
def cellC(db p:Nat)(sv:Value)(w:Nat):List Value:=[.pointer (some ⟨db,0,none⟩),.int .i64 (p:Nat),sv,.int .i64 (w:Nat),.bool false]
theorem dget_wrN{m:DM}{a:Nat}{n:Int}{all:List UInt8}{k:Int}:∀j:Nat,k<(a:Int)∨((a+j:Nat):Int)≤k→dget (wrN m a n all j) k=dget m k
 |0,_=>rfl
 | j + 1, h => by
  show dget (dput (wrN m a n all j) ((a+j:Nat):Int) _) k=_
  rw[dget_put,if_neg jB,dget_wrN j jB]
theorem dget_wrN_in{m:DM}{a:Nat}{n:Int}{all:List UInt8}{i:Nat}:∀j:Nat,i<j→dget (wrN m a n all j) ((a+i:Nat):Int)=secT n all i
 | j + 1, h => by
  show dget (dput (wrN m a n all j) ((a+j:Nat):Int) _) _=_
  rw[dget_put]
  by_cases e:i=j
  ·rw[if_pos (by rw[e]),e]
  ·rw[if_neg jB,dget_wrN_in j jB]
variable {sv:Value} {bp:Option Addr}
section
variable (f:Frag) (F:List HP) {db z:Nat} {m:DM}
theorem cnext_fn(hp:p≤32748):Fn prog 208 [.pointer (some ⟨cb,0,none⟩)] f (row cb 268 (cellC db p sv w)::diskH db z m::F) (RetE (fun n:Int=>.int .u64 n) f (fun _=>row cb 268 (cellC db p sv w)::diskH db z m::F)):=by
 refine AB func208 ntmps208 fun base=>?_;apply (gK);refine AF (ι:=Nat×Int) (fun s=>[(6,.int .i64 (s.1:Nat)),(2,.int .u64 s.2),(0,.pointer (some ⟨cb,0,none⟩))]) (fun _=>f) (fun _=>row cb 268 (cellC db p sv w)::diskH db z m::F) (fun s=>s.1≤20) (fun s=>20-s.1) (0,0) (Nat.zero_le _) fun s hs=>?_;obtain⟨i,n⟩:=s;have hs:i≤20:=hs;show H _ _ _ [(6,.int .i64 (i:Nat)),(2,.int .u64 n),_] _ _ _
 by_cases hlt:i<20
 ·apply (gN);apply (qea);apply A6 [0,1,2,3,4,5,6,7,8,9,10,11] 7;apply (qfq);refine B9 (i:=12) (j:=16) jD rfl rfl ?_ ?_
  ·apply (qgV);apply (gA);apply (qhW);apply A6 [13,14,15] 3;apply (qfa);apply A7 16;refine (qfw) fun xb=>?_;apply (gA);apply (qhW);exact qaw
  ·refine (qfw) fun xb=>?_;apply (gA);apply (qhW);apply A7 12;apply (qgV);apply (gA);apply (qhW);apply A6 [13,14,15] 2;apply (qfa);exact qaw
 ·apply (gP);exact AU ⟨_,rfl,rfl,rfl⟩
theorem cput_fn(hp:p≤32748)(hw:w≤1){b:List UInt8}(hs:Src prog f F (.slice bp b.length c) 1 b.length (bytesV b))(hn:bp=none→b=[])(hl:b.length≤1100)(hz:z≤1000):Fn prog 147 [.pointer (some ⟨cb,0,none⟩),.slice bp b.length c] f (row cb 268 (cellC db p sv w)::diskH db z m::F)
   (fun v f' A'=>∃(sv':Value) (m':DM),(∀k:Int,k<(p:Int)∨((p+20:Nat):Int)≤k→dget m' k=dget m k)∧v= .int .i64 0∧f'=f∧A'=row cb 268 (cellC db p sv' (1-w))::diskH db 0 m'::F):=by
 have e1:(1:Int)-(w:Int)=((1-w:Nat):Int):=jB
 refine A9 func147 ntmps147 fun base=>?_;apply (gS);apply (qea);apply A6 [0,1,2,3,4,5,7] 3;apply (gF);refine AH (ls:=placeC db p) rfl rfl rfl (Rd.sub (pre:=[]) (post:=[sv,.int .i64 (w:Nat),.bool false]) (Rd.ofRow jA) rfl) rfl rfl ?_;apply (gB);apply (qfK);refine AW rfl rfl rfl (cnext_fn f _ hp) fun n=>?_;apply (qdE);apply A7 8;rw[e1];apply (qeD);refine A8 rfl rfl rfl (cwrite_fn f _ hp jB hs.cons hl hz) ?_;apply (gA);apply (qhW);apply A6 [9] 0;apply (qdP);apply (gS);apply (qeD);refine A8 rfl rfl rfl (dsync_fn f _ jB) ?_;apply (qeN);refine AG rfl rfl rfl (zce f _ hs.cons.cons hn jB) fun p2 c2=>?_;apply (gS);apply A4 (slc p2 _ _ _ _ _);apply (qdL);exact AE rfl rfl iD ⟨.slice p2 b.length c2,_,fun k hk=>dget_wrN 10 jB,rfl,rfl,rfl⟩
end
def Fresh(m:DM)(p:Nat):Prop:=∀i,i<10→dget m ((p+0*10+i:Nat):Int)=secZ ((2:Nat):Int)∧dget m ((p+1*10+i:Nat):Int)=secZ ((1:Nat):Int)
def Else(m m':DM)(p:Nat):Prop:=∀k:Int,k<(p:Int)∨((p+20:Nat):Int)≤k→dget m' k=dget m k
theorem cnt1:cntT (secZ ((1:Nat):Int))=1:=by decide+kernel
theorem cnt2:cntT (secZ ((2:Nat):Int))=2:=by decide+kernel
variable {m:DM}
section
variable (f:Frag) (F:List HP) {db z:Nat} {m:DM}
structure FmtI(m M:DM)(p k:Nat):Prop where
 le:k≤2
 at0:0<k→∀i,i<10→dget M ((p+0*10+i:Nat):Int)=secZ ((2:Nat):Int)
 at1:1<k→∀i,i<10→dget M ((p+1*10+i:Nat):Int)=secZ ((1:Nat):Int)
 out:Else m M p
theorem FmtI.next{M:DM}{k:Nat}(h:FmtI m M p k)(hk:k<2):FmtI m (wrN M (p+k*10) ((2:Int)-(k:Int)) (cellAll []) 10) p (k+1):=by
 refine⟨by omega,fun _ i hi=>?_,fun h1 i hi=>?_,fun j hj=>?_⟩
 ·by_cases h0:k=0
  ·subst h0;rw[dget_wrN_in 10 hi,secT_nil _ hi];rfl
  ·rw[dget_wrN 10 jB];exact h.at0 jB i hi
 ·obtain rfl:k=1:=jB
  rw[dget_wrN_in 10 hi,secT_nil _ hi];rfl
 ·rw[dget_wrN 10 jB];exact h.out j hj
theorem cformat_fn(hp:p≤32748)(hz:z≤900):Fn prog 79 [.pointer (some ⟨db,0,none⟩),.int .i64 (p:Nat)] f (diskH db z m::F)
  (fun v f' A'=>∃m',Fresh m' p∧Else m m' p∧v= .int .i64 0∧f'=f∧A'=diskH db 0 m'::F):=by
 refine A9 func79 ntmps79 fun base=>?_;repeat(first|(refine AT (t:=246) (out:=placeC db p) rfl rfl rfl jD rfl ?_)|(apply (gU)))
 refine AJ (ls:=[.pointer none,.int .i64 0]) rfl rfl rfl fun pb=>?_;refine AC (ls:=[.pointer none,.int .i64 0]) (vs:=placeC db p) (ls':=placeC db p) rfl rfl rfl (zaa rfl) rfl rfl (Nat.le_refl 2) aP0 ?_;apply (gA);refine AD (ls:=placeC db p) rfl rfl rfl (Rd.ofRow aP0) rfl rfl ?_;refine A8 rfl rfl rfl (pmay_fn f _ hp) ?_;apply (gE);refine AF (ι:=Nat×DM) (fun s=>[(17,.int .i64 (s.1:Nat)),(5,.pointer (some ⟨pb,0,none⟩)),(0,.pointer (some ⟨db,0,none⟩))]) (fun _=>f) (fun s=>row pb 246 (placeC db p)::diskH db (z+s.1*10) s.2::F) (fun s=>FmtI m s.2 p s.1) (fun s=>2-s.1) (0,m) ⟨Nat.zero_le _,(fun h=>by cases h),(fun h=>by cases h),fun _ _=>rfl⟩ fun s hs=>?_;obtain⟨k,M⟩:=s;have hs:FmtI m M p k:=hs;have hk2:=hs.le
 show H _ _ _ [(17,.int .i64 (k:Nat)),_,_] _ (_::diskH db (z+k*10) M::F) _;by_cases hlt:k<2
 ·have hn:=hs.next hlt;apply (gN)
  refine AD (ls:=placeC db p) rfl rfl rfl (Rd.ofRow aP0) rfl rfl ?_;apply (gD);apply (qeD);refine A8 rfl rfl rfl (cwrite_fn f _ (b:=[]) hp jB Src.nil jE jB) ?_;apply (gT);apply (qe);refine AX (k+1,_) hn (by show 2-(k+1)<2-k;omega) ⟨rfl,rfl,rfl,trivial⟩ rfl ?_;rw[show z+k*10+10=z+(k+1)*10 by omega];rfl
 ·have e:k=2:=jB
  subst e;apply (gE);apply (qfP);refine A8 rfl rfl rfl (dsync_fn f _ jB) ?_;apply (gK);exact AE rfl rfl iD ⟨M,fun i hi=>⟨hs.at0 jE i hi,hs.at1 jE i hi⟩,hs.out,rfl,rfl,rfl⟩
theorem copen_fn(hp:p≤32748)(hf:Fresh m p):Fn prog 92 [.pointer (some ⟨db,0,none⟩),.int .i64 (p:Nat)] f (diskH db z m::F)
  (fun v f' A'=>∃cb bp bc,v= .tuple #[.pointer (some ⟨cb,0,none⟩),.int .i64 0]∧f'=f∧A'=row cb 268 (cellC db p (.slice bp 0 bc) 0)::slc bp 0 bc 5 1 []::diskH db z m::F):=by
 have hpl:∀(cb:Nat) (sv:Value) (A A':List HP),At A (row cb 268 (cellC db p sv 0)) A' (row cb 268 (cellC db p sv 0))→Rd f A cb 0 (placeC db p):=fun cb sv A A' h=>Rd.sub (k:=0) (pre:=[]) (post:=[sv,.int .i64 ((0:Nat):Int),.bool false]) (Rd.ofRow h) rfl;refine A9 func92 ntmps92 fun base=>?_
 repeat(first|(refine AT (t:=246) (out:=placeC db p) rfl rfl rfl jD rfl ?_)|(refine AT (t:=268) (out:=cellC db p (.slice none 0 0) 0) rfl rfl rfl jD rfl ?_)|(apply (gU)))
 refine H.box (ls:=cellC db p (.slice none 0 0) 0) rfl rfl rfl rfl fun cb=>?_;apply (gO);refine AD (ls:=placeC db p) rfl rfl rfl (hpl cb _ _ _ aP0) rfl rfl ?_;refine A8 rfl rfl rfl (pmay_fn f _ hp) ?_;apply (gE);apply (qeD);refine A8 rfl rfl rfl (dpower_fn f _) ?_;apply (qdI);refine AD (ls:=placeC db p) rfl rfl rfl (hpl cb _ _ _ jA) rfl rfl ?_;refine AV rfl rfl rfl (cread_fn f _ (w:=0) hp jE cnt2 fun i hi=>(hf i hi).1) fun v f' A' hr=>?_;obtain⟨bp,bc,rfl,hff,rfl⟩:=hr;rw[hff];clear hff;apply (gL);refine AD (ls:=placeC db p) rfl rfl rfl (hpl cb _ _ _ jA) rfl rfl ?_;apply (qeD);refine AV rfl rfl rfl (cread_fn f _ (w:=1) hp jE cnt1 fun i hi=>(hf i hi).2) fun v f' A' hr=>?_;obtain⟨bp2,bc2,rfl,hff,rfl⟩:=hr;rw[hff];clear hff;apply (qet);apply (gS);apply A3 (slc bp _ _ _ _ _);apply (qdL);exact BN rfl rfl rfl iD ⟨cb,bp,bc,rfl,rfl,rfl⟩
theorem cget_fn{bc:Nat}:Fn prog 93 [.pointer (some ⟨cb,0,none⟩)] f (row cb 268 (cellC db p (.slice bp 0 bc) w)::slc bp 0 bc 5 1 []::F)
  (BytesR [] f (row cb 268 (cellC db p (.slice bp 0 bc) w)::slc bp 0 bc 5 1 []::F)):=by
 refine AB func93 ntmps93 fun base=>?_;apply (gT);refine AG rfl rfl rfl (zce (l:=[]) f _ (Src.slcS (xs:=[]) jA rfl) (fun _=>rfl) jE) fun p2 c2=>?_;apply (gK);exact AU ⟨p2,c2,rfl,rfl,rfl⟩
end
def usgC(cb:Nat)(i:Int)(n:Nat)(sv:Value):List Value:=[.pointer (some ⟨cb,0,none⟩),.int .i64 i,.int .u64 (n:Nat),sv]
variable {ub:Nat} {csv:Value}
section
variable (f:Frag) (F:List HP) {db z:Nat} {m:DM}
theorem urepl_fn(htab:TabAt f){i:Int}(h1:1≤i)(h2:i≤11):Fn prog 91 [.int .i64 i] f F (Ret (.bool true) f F):=by
 have hl:(Sha.word32 Sha.replicaW i).length=32:=by unfold Sha.word32;first|exact Sha.sum_len _|rfl
 refine AB func91 ntmps91 fun base=>?_;refine (qjv) fun p1 c1=>?_;rw[hl];apply (gN);exact qaI
theorem unew_fn(htab:TabAt f){i:Int}(h1:1≤i)(h2:i≤11)(hf:Fresh m 0):Fn prog 49 [.int .i64 i,.pointer (some ⟨db,0,none⟩),.int .i64 0] f (diskH db z m::F)
  (fun v f' A'=>∃ub cb csv,v= .tuple #[.pointer (some ⟨ub,0,none⟩),.int .i64 0]∧f'=f∧A'=row ub 200 (usgC cb i 0 (.slice none 0 0))::row cb 268 (cellC db 0 csv 0)::diskH db z m::F):=by
 refine AP func49 ntmps49 fun base=>?_;apply (gR);refine A8 rfl rfl rfl (urepl_fn f _ htab h1 h2) ?_;apply (qdI);refine AV rfl rfl rfl (copen_fn f _ (p:=0) jE hf) fun v f' A' hr=>?_;obtain⟨cb,bp,bc,rfl,hff,rfl⟩:=hr;rw[hff];clear hff;repeat(first|(refine AT (t:=200) (out:=usgC cb i 0 (.slice none 0 0)) rfl rfl rfl jD rfl ?_)|(apply (gU)))
 refine H.box (ls:=usgC cb i 0 (.slice none 0 0)) rfl rfl rfl rfl fun ub=>?_;apply (gO);apply A3 (slc bp _ _ _ _ _);apply (qdL);refine AG rfl rfl rfl (cget_fn f _) fun p2 c2=>?_;apply (gP);apply A4 (slc p2 _ _ _ _ _);apply A4 (slc bp _ _ _ _ _);apply (qfp);exact BN rfl rfl rfl iD ⟨ub,cb,.slice bp 0 bc,rfl,rfl,rfl⟩
theorem unext_fn(htab:TabAt f){i:Int}(h1:1≤i)(h2:i≤11)(hn:n<65536)(hw:w≤1){b:List UInt8}(hs:Src prog f F (.slice bp b.length c) 1 b.length (bytesV b))(hnil:bp=none→b=[])(hl:b.length≤1024)(hz:z≤1000):Fn prog 247 [.pointer (some ⟨ub,0,none⟩),.slice bp b.length c] f (row ub 200 (usgC cb i n sv)::row cb 268 (cellC db 0 csv w)::diskH db z m::F)
   (fun v f' A'=>∃sv' csv' m',v= .tuple #[.int .u64 ((n+1:Nat):Int),.agg (b32 (Sha.numbered i ((n+1:Nat):Int) b)).toArray,.int .i64 0]∧f'=f∧A'=row ub 200 (usgC cb i (n+1) sv')::row cb 268 (cellC db 0 csv' (1-w))::diskH db 0 m'::F):=by
 refine A9 func247 ntmps247 fun base=>?_;apply (gG);refine AJ (ls:=b32 fun _=>0) rfl rfl rfl fun tb=>?_;apply (gT);apply (qfp);apply (qea);apply A6 [0,1,2,3,4,5,6,7,8,10] 4;apply (qfq);apply (qkF);refine AG rfl rfl rfl (zbj f _ (l:=[]) Src.nil (fun _=>rfl) jE) fun p1 c1=>?_;apply (gA);apply (qfp);apply (qdO);apply A7 11;refine AQ (p:=p1) (n0:=8) (c:=c1) (sz:=1) (m:=b.length) (news:=bytesV b) rfl rfl rfl rfl rfl (fun p' c'=>jA) hs.cons.cons.cons.cons.cons (zao _) rfl jB jB fun p2 c2=>?_;rw[List.nil_append,←zak];obtain⟨l2,hl2,hlen2⟩:∃l2,l2=be 8 ((n:Int)+1)++b∧l2.length=8+b.length:=⟨_,rfl,by rw[List.length_append,be_len]⟩;rw[←hl2,←hlen2];apply (gA);refine (qjA) fun b2 hp2=>?_;subst hp2;apply (qfp);apply (qdO);apply A7 12;apply (qeD);apply (qdL);refine AV rfl rfl rfl (cput_fn f _ (b:=l2) (w:=w) (p:=0) jE hw (Src.slcS aP1 jO) (fun h=>by cases h) jB hz) fun v f' A' hr=>?_;obtain⟨csv',m',_,rfl,hff,rfl⟩:=hr;rw[hff];clear hff;apply (gA);apply (qkD);apply (qfp);apply (qdO);apply (qkb);apply (gS);refine AG rfl rfl rfl (zce f _ hs.cons.cons.cons.cons hnil jB) fun p3 c3=>?_;apply (gL);apply A4 (slc p3 _ _ _ _ _);apply (qfp);apply (qea);apply A6 [0,1,2,3,4,5,6,7,8,9,10,11,12] 4;apply (qdX);apply A7 13;refine A8 rfl rfl rfl (tnumbered_fn f _ htab h1 h2 (fun G=>hs.cons.cons.cons.cons.append) jB) ?_;apply (qdE);apply A6 [14] 2;apply (qgK);apply A7 15;refine AC (ls:=b32 fun _=>0) (vs:=b32 (Sha.numbered i ((n+1:Nat):Int) b)) (ls':=b32 (Sha.numbered i ((n+1:Nat):Int) b)) rfl rfl rfl (zaa rfl) rfl rfl (Nat.le_refl 32) jA ?_;apply (qdE);apply A6 [16] 0;apply (qgJ);apply (qeD);apply (qdL);apply (qfp);apply (qdF);exact Ef (ls:=b32 (Sha.numbered i ((n+1:Nat):Int) b)) rfl rfl rfl rfl rfl (Rd.ofRow aP0) rfl (fun _ s=>s.drop (.here _ _)) ⟨.slice p3 b.length c3,csv',m',rfl,rfl,rfl⟩
theorem ulast_fn{i:Int}:Fn prog 105 [.pointer (some ⟨ub,0,none⟩)] f (row ub 200 (usgC cb i 0 sv)::F)
  (Ret (.tuple #[.int .u64 0,.slice none 0 0,.agg (b32 fun _=>0).toArray]) f (row ub 200 (usgC cb i 0 sv)::F)):=by
 refine AB func105 ntmps105 fun base=>?_;apply (gG);refine AJ (ls:=b32 fun _=>0) rfl rfl rfl fun tb=>?_;apply (gS);apply (qea);apply A6 [0,1,2] 1;refine AH (ls:=b32 fun _=>0) rfl rfl rfl (Rd.ofRow jA) rfl rfl ?_;apply (qgK);apply A7 3;refine AC (ls:=b32 fun _=>0) (vs:=b32 fun _=>0) (ls':=b32 fun _=>0) rfl rfl rfl (zaa rfl) rfl rfl (Nat.le_refl 32) jA ?_;apply (qhU);exact FC (ls:=b32 fun _=>0) rfl rfl rfl rfl rfl (Rd.ofRow aP0) rfl (fun _ s=>s.drop (.here _ _)) ⟨rfl,rfl,rfl⟩
end
def bookC(db nx to:Nat)(life:Int)(n:Nat):List Value:=[.pointer (some ⟨db,0,none⟩),.int .i64 (nx:Nat),.int .i64 (to:Nat),.int .u64 life,.int .i64 (n:Nat),.bool false]
def hd0:List Value:=[.int .u64 0,.int .u64 0,.int .u16 0,.int .u16 0]
variable {bb to:Nat} {life:Int}
section
variable (f:Frag) (F:List HP) {db z:Nat} {m:DM}
theorem bmay_fn:Fn prog 100 [.pointer (some ⟨db,0,none⟩),.int .i64 20,.int .i64 8192] f F (Ret (.int .i64 0) f F):=by
 refine AP func100 ntmps100 fun base=>?_;apply (gS);exact qad
theorem blived_fn(hf:Fresh m 20):Fn prog 146 [.pointer (some ⟨db,0,none⟩),.int .i64 20] f (diskH db z m::F)
  (fun v f' A'=>∃cb sv,v= .tuple #[.pointer (some ⟨cb,0,none⟩),.int .u64 0,.int .i64 0]∧f'=f∧A'=row cb 268 (cellC db 20 sv 0)::diskH db z m::F):=by
 refine A9 func146 ntmps146 fun base=>?_;apply (gG);refine AV rfl rfl rfl (copen_fn f _ (p:=20) jE hf) fun v f' A' hr=>?_;obtain⟨cb,bp,bc,rfl,hff,rfl⟩:=hr;rw[hff];clear hff;apply (gS);refine AG rfl rfl rfl (cget_fn f _) fun p2 c2=>?_;apply (gP);apply A4 (slc p2 _ _ _ _ _);apply A4 (slc bp _ _ _ _ _);exact Eg rfl rfl rfl rfl iD ⟨cb,.slice bp 0 bc,rfl,rfl,rfl⟩
theorem blive_fn(hf:Fresh m 20)(hz:z≤900):Fn prog 101 [.pointer (some ⟨db,0,none⟩),.int .i64 20] f (diskH db z m::F)
  (fun v f' A'=>∃m',Else m m' 20∧v= .tuple #[.int .u64 1,.int .i64 0]∧f'=f∧A'=diskH db 0 m'::F):=by
 refine A9 func101 ntmps101 fun base=>?_;apply (gG);refine AV rfl rfl rfl (blived_fn f _ hf) fun v f' A' hr=>?_;obtain⟨cb,sv,rfl,hff,rfl⟩:=hr;rw[hff];clear hff;apply (gS);refine AG rfl rfl rfl (zbj (n:=1) f _ (l:=[]) Src.nil (fun _=>rfl) jE) fun p1 c1=>?_;refine AO (p:=p1) (n0:=8) (c:=c1) (T:=5) (sz:=1) (xs:=bytesV (be 8 1)) jA jE fun b1 hp1=>?_;subst hp1;apply (qeD);apply (qdL);refine AV rfl rfl rfl (cput_fn f _ (b:=be 8 1) (w:=0) (p:=20) jE jE (Src.slcS aP0 rfl) (fun h=>by cases h) jE jB) fun v f' A' hr=>?_;obtain⟨sv',m',he,rfl,hff,rfl⟩:=hr;rw[hff];clear hff;apply (gK);apply (qgM);apply A4 (row cb _ _);exact BN rfl rfl rfl iD ⟨m',he,rfl,rfl,rfl⟩
theorem bpage_fn(hto:40<to)(h0:dget m 40=fun _=>0):Fn prog 210 [.pointer (some ⟨bb,0,none⟩),.int .i64 40] f (row bb 210 (bookC db 40 to life n)::diskH db z m::F)
  (RetE (fun i:Option Addr×Nat=>.tuple #[.agg hd0.toArray,.slice i.1 108 i.2,.bool true]) f (fun _=>row bb 210 (bookC db 40 to life n)::diskH db z m::F)):=by
 have hz:b128 (fun _=>(0:UInt8))=bytesV (List.replicate 128 0):=by rw[b128_bytes];rfl
 refine A9 func210 ntmps210 fun base=>?_;apply (gA);refine AJ (ls:=hd0) rfl rfl rfl fun hb=>?_;apply (gT);apply (qeD);refine A8 rfl rfl rfl (dread_fn f _ (k:=40) jE jE) ?_;rw[h0];apply (gO);refine (qfw) fun xb=>?_;refine AC (ls:=b128 fun _=>0) (vs:=b128 fun _=>0) (ls':=b128 fun _=>0) rfl rfl rfl (b128_one _) (zam _) (b128_store _ _) kS aP0 ?_;apply (gE);refine C4 (lo:=none) (hi:=none) (mx:=none) (lv:=0) (hv:=128) (mv:=128) rfl rfl rfl rfl rfl (fun h=>by cases h) jE jE (Nat.le_refl _) rfl ?_;rw[slP_at (show(128:Nat)≠0 by decide)];rw[hz];refine AV rfl rfl rfl (octNew_fn f _ (l:=List.replicate 128 0) (c0:=128) (Src.slice (Rd.ofRow aP0) jO) (fun h=>by cases h) jE) fun v f' A' hr=>?_;obtain⟨g,cb,pc,cc,rfl,hg,hd,hff,rfl⟩:=hr;rw[hff];clear hff hg;apply (gG);refine A8 rfl rfl rfl (cutWord_yes _ _ cb (l:=List.replicate 128 0) jE jE) ?_;rw[show numB ((List.replicate 128 (0:UInt8)).take 8)=0 from rfl,List.drop_replicate];apply (gG);refine A8 rfl rfl rfl (cutWord_yes _ _ cb (l:=List.replicate (128-8) 0) jE jE) ?_;rw[show numB ((List.replicate (128-8) (0:UInt8)).take 8)=0 from rfl,List.drop_replicate];apply (gG);refine A8 rfl rfl rfl (cutHalf_yes _ _ cb (l:=List.replicate (128-8-8) 0) jE jE) ?_;rw[show numB ((List.replicate (128-8-8) (0:UInt8)).take 2)=0 from rfl,List.drop_replicate];apply (gG);refine A8 rfl rfl rfl (cutHalf_yes _ _ cb (l:=List.replicate (128-8-8-2) 0) jE jE) ?_;rw[show numB ((List.replicate (128-8-8-2) (0:UInt8)).take 2)=0 from rfl,List.drop_replicate];refine AT (t:=280) (out:=hd0) rfl rfl rfl jD rfl ?_;apply (qfg);apply (gA);apply A3 (row hb _ _);apply (qea);apply A6 [0,1] 4;apply (qjX);apply A3 (cutH _ cb _ _);refine AG rfl rfl rfl (raw_yes _ _ cb (l:=List.replicate (128-8-8-2-2) 0) (n:=108) jE jE) fun rp rc=>?_;apply (gA);apply A3 (row hb _ _);apply (qdO);apply A7 3;apply (qfg);apply (qdE);apply A6 [4,5] 0;apply (qgJ);refine H.weakI (Le.un f g) ?_;apply A4 (slc rp _ _ _ _ _);apply A4 (cutH _ cb _ _);apply (qhZ);apply (qdU);apply A3 (row hb _ _);exact FB (ls:=hd0) rfl rfl rfl rfl rfl (Rd.ofRow aP0) rfl (fun _ s=>s.drop (.here _ _)) ⟨(rp,rc),rfl,rfl,rfl⟩
theorem bread_fn(hto:40<to)(h0:dget m 40=fun _=>0):Fn prog 149 [.pointer (some ⟨bb,0,none⟩),.int .u64 1] f (row bb 210 (bookC db 40 to life 0)::diskH db z m::F)
  (Ret (.tuple #[.slice none 0 0,.agg hd0.toArray,.bool false]) f (row bb 210 (bookC db 40 to life 0)::diskH db z m::F)):=by
 refine A9 func149 ntmps149 fun base=>?_;apply (gG);refine AJ (ls:=hd0) rfl rfl rfl fun hb=>?_;apply (gO);apply (qdU);refine AW rfl rfl rfl (bpage_fn f _ hto h0) fun i=>?_;apply (gO);apply (qfg);apply (gG);refine BB ?_;apply (gQ);apply (gR);apply A3 (row hb _ _);apply (qea);apply A6 [0,1] 2;apply (qjX);apply (qfg);apply (qdE);apply A6 [3] 0;apply (qgJ);exact Ef (ls:=hd0) rfl rfl rfl rfl rfl (Rd.ofRow aP0) rfl (fun _ s=>s.drop (.here _ _)) ⟨rfl,rfl,rfl⟩
theorem ball_fn(hto:40<to)(h0:dget m 40=fun _=>0):Fn prog 102 [.pointer (some ⟨bb,0,none⟩)] f (row bb 210 (bookC db 40 to life 0)::diskH db z m::F)
  (Ret (.slice none 0 0) f (row bb 210 (bookC db 40 to life 0)::diskH db z m::F)):=by
 refine AB func102 ntmps102 fun base=>?_;apply (gK);refine AF (ι:=Unit) (fun _=>[(3,.int .u64 1),(2,.slice none 0 0),(0,.pointer (some ⟨bb,0,none⟩))]) (fun _=>f) (fun _=>row bb 210 (bookC db 40 to life 0)::diskH db z m::F) (fun _=>True) (fun _=>0) () trivial fun _ _=>?_;apply (gK);refine A8 rfl rfl rfl (bread_fn f _ hto h0) ?_;apply (gO);refine AJ (ls:=hd0) rfl rfl rfl fun hb=>?_;apply (gG);apply (qfg);apply (qeN);apply A4 (row hb _ _);exact qad
theorem bopen_fn(hf:Fresh m 20)(h0:dget m 40=fun _=>0)(hz:z≤900):Fn prog 51 [.pointer (some ⟨db,0,none⟩),.int .i64 20,.int .i64 8192] f (diskH db z m::F)
  (fun v f' A'=>∃bb m',v= .tuple #[.pointer (some ⟨bb,0,none⟩),.slice none 0 0,.int .i64 0]∧f'=f∧A'=row bb 210 (bookC db 40 8212 1 0)::diskH db 0 m'::F):=by
 refine AP func51 ntmps51 fun base=>?_;apply (gG);refine A8 rfl rfl rfl (bmay_fn f _) ?_;apply (gE);refine AV rfl rfl rfl (blive_fn f _ hf hz) fun v f' A' hr=>?_;obtain⟨m',he,rfl,hff,rfl⟩:=hr;rw[hff];clear hff;repeat(first|(refine AT (t:=210) (out:=bookC db 40 8212 1 0) rfl rfl rfl jD rfl ?_)|(apply (gU)))
 refine H.box (ls:=bookC db 40 8212 1 0) rfl rfl rfl rfl fun bb=>?_;apply (gG);refine A8 rfl rfl rfl (ball_fn f _ jE ((he 40 jE).trans h0)) ?_;apply (gK);exact Eg rfl rfl rfl rfl iD ⟨bb,m',rfl,rfl,rfl⟩
end
variable {kb nb ab:Nat}
section
variable (f:Frag) (F:List HP) {db z:Nat} {m:DM}
theorem bpg_fn{nx np k:Nat}{p:Option Addr}{all:List UInt8}(hn:n≤100000)(hk:k<np)(hnp:np≤100)(hall:all.length=np*108):Fn prog 161 ([]++[.int .i64 (k:Nat)]++[.pointer (some ⟨kb,0,none⟩),.pointer (some ⟨nb,0,none⟩),.pointer (some ⟨ab,0,none⟩)]) f
   (row kb 126 [.pointer (some ⟨bb,0,none⟩)]::row nb 3 [.int .i64 (np:Nat)]::row ab 46 [.slice p (np*108) c]::slc p (np*108) c 5 1 (bytesV all)::row bb 210 (bookC db nx to life n)::F)
   (RetE (fun t:Nat→UInt8=>.agg (b128 t).toArray) f (fun _=>row kb 126 [.pointer (some ⟨bb,0,none⟩)]::row nb 3 [.int .i64 (np:Nat)]::row ab 46 [.slice p (np*108) c]::slc p (np*108) c 5 1 (bytesV all)::row bb 210 (bookC db nx to life n)::F)):=by
 refine BK func161 ntmps161 fun base=>?_;refine AO (p:=p) (n0:=np*108) (c:=c) jA jB fun b hp=>?_;subst hp;refine DA (p:=some ⟨b,0,none⟩) (m:=np*108) (c:=c) (T:=5) (sz:=1) (xs:=bytesV all) jA fun hcap _ _=>?_;apply (gA);refine (qfw) fun xb=>?_;apply (gA);apply (qeS);apply (qdM);apply (qef);apply (qgs);apply A6 [0,1,2,3,5,6,7,8,9,10] 3;apply (qfq);apply A7 4;refine AG rfl rfl rfl (zbj (n:=life) f _ (l:=[]) Src.nil (fun _=>rfl) jE) fun p1 c1=>?_;apply (gA);refine AO (p:=p1) (n0:=8) (c:=c1) (T:=5) (sz:=1) (xs:=bytesV (be 8 life)) jA jE fun b1 hp1=>?_;subst hp1;apply (qkI);apply A7 11;refine AG rfl rfl rfl (zbj f _ (l:=be 8 life) (Src.slcS at3 rfl) (fun h=>by cases h) (by rw[be_len];decide)) fun p2 c2=>?_;apply (gA);apply A4 (slc (some ⟨b1,0,none⟩) _ _ _ _ _);apply (qkI);apply A6 [12] 0;apply (qdP);apply (gA);obtain⟨l2,hl2,hlen2⟩:∃l2,l2=be 8 life++be 8 ((n+1:Nat):Int)∧l2.length=16:=⟨_,rfl,by rw[List.length_append,be_len,be_len]⟩;rw[←hl2];refine (qjA) fun b2 hp2=>?_;subst hp2;apply (qgs);apply A6 [0,1,2,4,5] 3;apply (qfq);apply A7 3;refine AG rfl rfl rfl (half_fn f _ (l:=l2) (Src.slcS at3 jO) (fun h=>by cases h) jB) fun p3 c3=>?_;apply (gA);apply (qkD);obtain⟨l3,hl3,hlen3⟩:∃l3,l3=l2++be 2 (k:Int)∧l3.length=18:=⟨_,rfl,by rw[List.length_append,be_len,hlen2]⟩;rw[←hl3];refine AO (p:=p3) (n0:=l3.length) (c:=c3) (T:=5) (sz:=1) (xs:=bytesV l3) jA jB fun b3 hp3=>?_;subst hp3;apply (qkI);apply A7 6;refine AG rfl rfl rfl (half_fn f _ (l:=l3) (Src.slcS at3 jO) (fun h=>by cases h) jB) fun p4 c4=>?_;apply (gA);apply A4 (slc (some ⟨b3,0,none⟩) _ _ _ _ _);obtain⟨l4,hl4,hlen4⟩:∃l4,l4=l3++be 2 (np:Int)∧l4.length=20:=⟨_,rfl,by rw[List.length_append,be_len,hlen3]⟩;rw[←hl4];apply (qkI);apply A6 [7] 0;apply (qdP);apply (gL);have hb1:k*108≤np*108:=Nat.mul_le_mul_right _ jB;have hb2:(k+1)*108≤np*108:=Nat.mul_le_mul_right _ jB
 refine H.slice (lo:=some (.tmp 29)) (hi:=some (.tmp 32)) (mx:=none) (p:=some ⟨b,0,none⟩) (len:=np*108) (cap:=c) (lv:=k*108) (hv:=(k+1)*108) (mv:=c) rfl rfl ⟨_,_,rfl,by omega⟩ ⟨_,_,rfl,by omega⟩ rfl (fun h=>by cases h) jB jB (Nat.le_refl _) rfl ?_;rw[slP_at (show c≠k*108 by omega),show(k+1)*108-k*108=108 by omega]
 have hrd:∀A A':List HP,At A (slc (some ⟨b,0,none⟩) (np*108) c 5 1 (bytesV all)) A' (slc (some ⟨b,0,none⟩) (np*108) c 5 1 (bytesV all))→Rd f A b (k*108*1) (bytesV ((all.drop (k*108)).take 108)):=fun A A' h=>by
  have h1:=bytes_win f (k:=k*108) (m:=108) (Rd.ofSlc (f:=f) h jB);exact qcA
 have hwl:((all.drop (k*108)).take 108).length=108:=by rw[List.length_take,List.length_drop];omega
 refine AQ (p:=p4) (n0:=l4.length) (c:=c4) (sz:=1) (xs:=bytesV l4) (m:=108) (news:=bytesV ((all.drop (k*108)).take 108)) rfl rfl rfl rfl rfl (fun p' c'=>jA) (Src.slice (hrd _ _ jA) (by rw[zab,hwl])) (zao _) rfl jB jB fun p5 c5=>?_;rw[←zak,show l4.length+108=128 by omega,bytes_b128 (show(l4++(all.drop (k*108)).take 108).length=128 by rw[List.length_append,hwl];omega)];obtain⟨t,ht⟩:∃t:Nat→UInt8,(fun i=>(l4++(all.drop (k*108)).take 108).getD i 0)=t:=⟨_,rfl⟩;rw[ht];refine AO (p:=p5) (n0:=128) (c:=c5) (T:=5) (sz:=1) (xs:=b128 t) jA jE fun b5 hp5=>?_;subst hp5;refine Ec (m:=128) rfl rfl (Nat.le_refl 128) rfl ?_;refine AD (ls:=b128 t) rfl rfl rfl (Rd.ofSlc jA jE) (zam _) rfl ?_;refine AC (ls:=b128 fun _=>0) (vs:=b128 t) (ls':=b128 t) rfl rfl rfl (b128_one _) (zam _) (b128_store _ _) jo jA ?_;apply (gK);apply A4 (slc (some ⟨b5,0,none⟩) _ _ _ _ _);apply (qeS);apply A3 (slc (some ⟨b,0,none⟩) _ _ _ _ _);apply (qeR);apply (qdM);apply (qef);apply (qfl);exact BS (ls:=b128 t) rfl rfl rfl (Rd.ofRow aP0) (zam _) (fun _ s=>s.drop (.here _ _)) ⟨t,rfl,rfl,rfl⟩
def pgs(l:Nat):Nat:=(l+109) / 108
theorem bpages_fn{l:Nat}(hl:l≤100000):Fn prog 159 [.int .i64 (l:Nat)] f F (Ret (.int .i64 (pgs l:Nat)) f F):=by
 have e:((l:Int)+2+108-1).tdiv 108=((pgs l:Nat):Int):=by
  rw[show(l:Int)+2+108-1=((l+109:Nat):Int) by omega];rfl
 have hp:pgs l≤100000:=by unfold pgs;omega
 have hw:IntKind.i64.wrap (((l:Int)+2+108-1).tdiv 108)=((pgs l:Nat):Int):=by rw[e];exact wr_i64 jB
 refine AB func159 ntmps159 fun base=>?_;apply (gD);refine H.quo rfl rfl rfl jE hw rfl ?_;apply (gK);exact qad
theorem bappend_fn{nx:Nat}{rp:Option Addr}{rc:Nat}{r:List UInt8}(hs:Src prog f F (.slice rp r.length rc) 1 r.length (bytesV r))(hl:r.length≤4096)(hfit:nx+pgs r.length≤to)(hto:to≤32768)(hn:n≤90000)(hz:z≤1000):Fn prog 107 [.pointer (some ⟨bb,0,none⟩),.slice rp r.length rc] f (row bb 210 (bookC db nx to life n)::diskH db z m::F)
   (RetE (fun _:DM=>.int .i64 0) f (fun m'=>row bb 210 (bookC db (nx+pgs r.length) to life (n+1))::diskH db 0 m'::F)):=by
 have hpg:pgs r.length*108≤r.length+109∧r.length+2≤pgs r.length*108:=by unfold pgs;omega
 have hpn:pgs r.length≤100:=by unfold pgs;omega
 have hpf:=fun G=>bpages_fn f G (l:=r.length) jB;generalize pgs r.length=np at *
 refine A9 func107 ntmps107 fun base=>?_;apply (gA);refine H.box (ls:=[.pointer (some ⟨bb,0,none⟩)]) rfl rfl rfl rfl fun kb=>?_;apply (gG);apply A5 (hpf _);refine (qfW) fun nb=>?_;apply (gS);apply (qhz);apply (gP);refine AG rfl rfl rfl (half_fn (n:=(r.length:Nat)) f _ (l:=[]) Src.nil (fun _=>rfl) jE) fun p1 c1=>?_;apply (gG);refine AQ (p:=p1) (n0:=2) (c:=c1) (xs:=bytesV (be 2 (r.length:Nat))) (m:=r.length) (news:=bytesV r) rfl rfl rfl rfl rfl (fun p' c'=>jA) hs.cons.cons.cons.cons.cons (zao _) rfl jB jB fun p2 c2=>?_;refine (qhe) fun ab=>?_;apply (gL);refine Ed (p:=p2) (n0:=2+r.length) (c:=c2) (m:=np*108-(2+r.length)) (bs:=be 2 (r.length:Nat)++r) rfl rfl rfl rfl jB (by rw[List.length_append,be_len]) (fun p' c'=>by rw[zak];exact .there _ (.here _ _ _)) jB fun p3 c3=>?_;apply (gS);rw[show 2+r.length+(np*108-(2+r.length))=np*108 by omega];obtain⟨all,hal,hall⟩:∃all,all=be 2 (r.length:Nat)++r++List.replicate (np*108-(2+r.length)) 0∧all.length=np*108:=⟨_,rfl,by rw[List.length_append,List.length_append,be_len,List.length_replicate];omega⟩;rw[←hal];clear hal hs;apply (qdU);apply (qkn)
 refine AF (ι:=Nat×DM) (fun s=>[(9,.int .i64 (s.1:Nat)),(8,.int .i64 0),(7,.func (.func 161) #[] #[.pointer (some ⟨kb,0,none⟩),.pointer (some ⟨nb,0,none⟩),.pointer (some ⟨ab,0,none⟩)]),(5,.pointer (some ⟨nb,0,none⟩)),(2,.pointer (some ⟨kb,0,none⟩))]) (fun _=>f)
  (fun s=>row kb 126 [.pointer (some ⟨bb,0,none⟩)]::row nb 3 [.int .i64 (np:Nat)]::row ab 46 [.slice p3 (np*108) c3]::slc p3 (np*108) c3 5 1 (bytesV all)::row bb 210 (bookC db nx to life n)::diskH db (z+s.1) s.2::F) (fun s=>s.1≤np) (fun s=>np-s.1) (0,m) (Nat.zero_le _) fun s hs=>?_
 obtain⟨k,M⟩:=s;have hs:k≤np:=hs;show H _ _ _ [(9,.int .i64 (k:Nat)),_,_,_,_] _ (_::_::_::_::_::diskH db (z+k) M::F) _
 by_cases hlt:k<np
 ·have hpgf:=fun G=>bpg_fn f G (db:=db) (kb:=kb) (nb:=nb) (ab:=ab) (bb:=bb) (nx:=nx) (to:=to) (n:=n) (k:=k) (c:=c3) (life:=life) (p:=p3) jB hlt hpn hall;apply (gS)
  apply (qeS);apply (qef);apply (qex);apply A6 [0,1,2,3,4,5,6,7,8,9,10,11] 3;apply (qfq);apply A7 12;apply (qeS);apply (qkn);refine EW (fs:=[]) (cs:=[.pointer (some ⟨kb,0,none⟩),.pointer (some ⟨nb,0,none⟩),.pointer (some ⟨ab,0,none⟩)]) rfl rfl rfl rfl (hpgf _) fun t=>?_;apply (gA);apply (qeS);apply (qgY);apply A7 13;apply (qeD);refine A8 rfl rfl rfl (dwrite_fn f _ jB jB jB _) ?_;apply (gA);apply (qeS);apply (qgY);apply A6 [14] 0;apply (qdP);apply (gD);apply (qdU);apply (qkn);exact AI (k+1,_) (by show k+1≤np;omega) (by show np-(k+1)<np-k;omega)
 ·have e:k=np:=jB
  subst e;apply (gS);apply (qeD);refine A8 rfl rfl rfl (dsync_fn f _ jB) ?_;apply (qeN);apply (qjN);refine AZ (ls:=bookC db nx to life n) (ls':=bookC db (nx+k) to life n) rfl rfl rfl rfl jA jG ?_;apply (gS);apply (qhh);apply (qiO);apply A4 (row ab _ _);apply (qgM);apply (qeS);exact AU ⟨M,rfl,rfl,rfl⟩
end
variable {ty:TypeId} {dd:TypeDesc} {off:Nat} {R:Value→Frag→List HP→Prop}
section
variable {P:Program} {base:World} {n:Nat} {L:Env} {f:Frag} {A:List HP}
theorem loadVar_one{b:Nat}{x:Value}[hu:Und P ty dd](ha:aggD dd=false)(hrd:Rd1 f A b off x){w:World}(s:Sat base w f A):(loadVar ty ⟨b,off,none⟩).run P w= .ok x w:=by
 have h3:=zaz (P:=P) hu ha (hrd base w s);exact qdx
theorem E8{fn:Func}{t u:Nat}{x:Value}{ty2:TypeId}{dd2:TypeDesc}{m b b2 off2:Nat}{ls:List Value}{A':List HP}[hu:Und P ty dd][hs:Siz P ty m][hu2:Und P ty2 dd2](hr:fn.results= #[.cell t ty,.cell u ty2])(hv:look? L t=some (.pointer (some ⟨b,off,none⟩)))(hx:look? L u=some (.pointer (some ⟨b2,off2,none⟩)))(ha:aggD dd=true)(ha2:aggD dd2=false)
  (hrd:Rd f A b off ls) (hm:ls.length=m) (hrd2:Rd1 f A b2 off2 x) (hA:∀w,Sat base w f A→Sat base w f A') (h:R (.tuple #[.agg ls.toArray,x]) f A') (hmk:mk? L=none:=by exact rfl):H P base n L f A (.out .ret (.fn (FnPost P fn base R))):=
 D3 (fun a w hf s=>by
  simp only[results,hr]
  simp[Sem.run_bind,asAddr,hf.getD hv,hf.getD hx,loadVar_of ha hrd hm s,loadVar_one ha2 hrd2 s]) hA h hmk
end
def durC(n o rb ub bb:Nat):List Value:=[.int .i64 (n:Nat),.int .i64 ((o+1:Nat):Int),pv rb,pv ub,pv bb,.int .i64 0]
structure DU where
 rb:Nat
 ub:Nat
 cb:Nat
 bb:Nat
 sv:Value
 csv:Value
 w:Nat
 z:Nat
 nx:Nat
 life:Int
 m:DM
structure DΦ(n:Nat)(r:QR)(i:DU):Prop where
 inv:QInv n r
 w:i.w≤1
 z:i.z≤900
 nx:i.nx≤40+7*r.l.length
def durB(du db n o:Nat)(x:UInt8)(r:QR)(i:DU):List HP:=[row du 128 (durC n o i.rb i.ub i.bb),repH i.rb n o x r [],row i.ub 200 (usgC i.cb ((o+1:Nat):Int) (qnth r.kn o) i.sv),row i.cb 268 (cellC db 0 i.csv i.w),row i.bb 210 (bookC db i.nx 8212 i.life r.l.length),diskH db i.z i.m]
def durH(du db n o:Nat)(x:UInt8)(r:QR):HP:=pack (DΦ n r) (durB du db n o x r)
variable {x:UInt8} {du o:Nat} {r:QR} {F:List HP}
theorem zbt{db:Nat}(i:DU)(h:DΦ n r i):∀z,stars (durB du db n o x r i++F) z→stars (durH du db n o x r::F) z:=zap i h
variable {rb a tu qb ob ib:Nat} {fid:FuncId} {cs l:List Value}
section
variable (f:Frag) (F:List HP)
theorem alive_fn[Fun prog fid](hc:Fn prog fid ([]++[]++cs) f (row du 128 (durC n o rb ub bb)::F) R):Fn prog 168 [pv du,.func (.func fid) #[] cs.toArray] f (row du 128 (durC n o rb ub bb)::F) (fun v g B=>v= .int .i64 0∧∃u,R u g B):=by
 unfold pv;refine A9 func168 ntmps168 fun base=>?_;apply (gT);refine BQ (fs:=[]) (cs:=cs) rfl rfl rfl rfl hc fun v f' A' hR=>?_;apply (gK);exact AU ⟨rfl,v,hR⟩
def told0:List Value:=[.int .i64 0,.int .u64 0,.int .i64 0,.string .empty,.int .u64 0]
def toldR(a row:Nat):List Value:=if a≤row then toldV (a:Nat)else told0
theorem zav(a row:Nat):(toldR a row).length=5:=by unfold toldR;split<;>rfl
theorem toldR_one(a row:Nat):∀v∈toldR a row,one v=true:=by unfold toldR;split<;>exact zaa rfl
theorem toldR_set(a row:Nat)(h:l.length=5):splice l 0 (toldR a row)=toldR a row:=by
 have:=zav a row;exact qbc
def askQ(r:QR)(a:Nat):QR:=if a≤r.row∨r.pd.elem a=true then r else {r with pd:=r.pd++[a]}
theorem askQ_inv(h:QInv n r)(h1:1≤a)(h8:a≤8)(hl:¬(a≤r.row∨r.pd.elem a=true)→r.pd.length<20):QInv n (askQ r a):=by
 unfold askQ;split
 ·exact h
 ·rename_i hno
  have hl:=hl hno
  exact⟨h.ok,h.kl,h.kn,h.len,h.lg,h.vl,h.vt,h.cm,h.kb,h.ck,h.ck4,h.row,fun c hc=>by
   rcases List.mem_append.1 hc with g|g
   ·exact h.pd c g
   ·rw[List.mem_singleton.1 g];exact⟨h1,h8⟩,by show(r.pd++[a]).length≤20;rw[List.length_append];show r.pd.length+1≤20;omega,h.td,h.ks,h.tdb⟩
theorem askQ_kn(r:QR)(a:Nat):(askQ r a).kn=r.kn∧(askQ r a).l=r.l:=by unfold askQ;split<;>exact⟨rfl,rfl⟩
theorem dask1_fn(htab:TabAt f)(h3:3≤n)(h11:n≤11)(h1:1≤a)(h8:a≤8)(hI:QInv n r):Fn prog 169 ([]++[]++[pv tu,pv qb,pv ob,pv ib]) f (row du 128 (durC n o rb ub bb)::row tu 84 [pv du]::row qb 34 (pndV x a)::row ob 136 told0::row ib 4 [.bool false]::repH rb n o x r []::F)
   (Ret (.tuple #[]) f (row du 128 (durC n o rb ub bb)::row tu 84 [pv du]::row qb 34 (pndV x a)::row ob 136 (toldR a r.row)::row ib 4 [.bool (decide (a≤r.row))]::repH rb n o x (askQ r a) []::F)):=by
 have hak:=fun G=>rask_fn f G htab (rb:=rb) (o:=o) (x:=x) (ws:=[]) h3 h11 h1 h8 hI;show Fn _ _ _ _ _ (Ret _ f (_::_::_::row ob _ (toldR a r.row)::_::repH rb n o x (askQ r a) []::F))
 have hak:∀G,Fn prog 170 [.pointer (some ⟨rb,0,none⟩),.agg (pndV x a).toArray] f (repH rb n o x r []::G) (Ret (.tuple #[.agg (toldR a r.row).toArray,.bool (decide (a≤r.row))]) f (repH rb n o x (askQ r a) []::G)):=hak;unfold pv
 refine BK func169 ntmps169 fun base=>?_;apply (qid);apply (qgs);apply A6 [0,1,2,3,4] 6;apply (gF);refine AH (ls:=pndV x a) rfl rfl rfl (Rd.ofRow jA) rfl rfl ?_;apply (qhC);apply (qec);apply A5 (hak _);apply (gA);apply (qid);apply (qdO);apply A6 [6,7,8] 2;apply (qfa);apply (qkF);refine AC (ls:=told0) (vs:=toldR a r.row) (ls':=toldR a r.row) rfl rfl rfl (toldR_one _ _) (zav _ _) (toldR_set _ _ rfl) kC jA ?_;apply (gA);apply (qid);apply (qdO);apply (qke);apply (gC);apply (qid);apply (qhG);apply (qec);apply (qfy);apply (qed);apply (qid);exact qan
theorem dask_fn(htab:TabAt f){db:Nat}(h3:3≤n)(h11:n≤11)(h1:1≤a)(h8:a≤8)(hl:¬(a≤r.row∨r.pd.elem a=true)→r.pd.length<20):Fn prog 112 [pv du,.agg (pndV x a).toArray] f (durH du db n o x r::F) (Ret (.tuple #[.agg (toldR a r.row).toArray,.bool (decide (a≤r.row))]) f (durH du db n o x (askQ r a)::F)):=by
 refine B2 fun⟨rb,ub,cb,bb,sv,csv,w,z,nx,life,m⟩ hφ=>?_;have hI:=hφ.inv;have hfo:=fun G=>zbt (du:=du) (db:=db) (o:=o) (x:=x) (F:=G) (r:=askQ r a) ⟨rb,ub,cb,bb,sv,csv,w,z,nx,life,m⟩ ⟨askQ_inv hI h1 h8 hl,hφ.w,hφ.z,by rw[(askQ_kn r a).2];exact hφ.nx⟩
 unfold durB at hfo;rw[(askQ_kn r a).1,(askQ_kn r a).2]at hfo;have hal:=fun G tu qb ob ib=>alive_fn f _ (dask1_fn f G htab (du:=du) (tu:=tu) (qb:=qb) (ob:=ob) (ib:=ib) (o:=o) (rb:=rb) (ub:=ub) (bb:=bb) (x:=x) h3 h11 h1 h8 hI);apply (qft)
 unfold pv;refine A9 func112 ntmps112 fun base=>?_;refine (qhg) fun tu=>?_;refine H.box (ls:=pndV x a) rfl rfl rfl rfl fun qb=>?_;refine AJ (ls:=told0) rfl rfl rfl fun ob=>?_;refine AJ (ls:=[.bool false]) rfl rfl rfl fun ib=>?_;apply (qkh);apply (qfy);apply (qed);apply (qid);refine AV rfl rfl rfl (hal _ tu qb ob ib) fun v f' A' hr=>?_;obtain⟨rfl,u,rfl,hff,rfl⟩:=hr;rw[hff];clear hff;apply (gA);refine H.db (S:=[]) rfl ?_;refine B9 (i:=0) (j:=1) jD rfl rfl ?_ ?_
 ·refine AD (ls:=toldR a r.row) rfl rfl rfl (Rd.ofRow jA) (zav _ _) rfl ?_;apply (qdE);refine B9 (i:=1) (j:=2) jD rfl rfl ?_ ?_
  ·apply (gO);exact qbb
  ·refine AC (ls:=toldR a r.row) (vs:=toldR a r.row) (ls':=toldR a r.row) rfl rfl rfl (toldR_one _ _) (zav _ _) (toldR_set _ _ (zav _ _)) kC jA ?_;apply (qdE);apply A7 1;apply (gO);exact qak
 ·apply (gO);apply (qdO);apply A7 0;refine AD (ls:=toldR a r.row) rfl rfl rfl (Rd.ofRow jA) (zav _ _) rfl ?_;apply (gA);exact qbb
theorem dout1_fn(h11:n≤11)(hI:QInv n r):Fn prog 175 ([]++[]++[pv tu,pv ob]) f (row du 128 (durC n o rb ub bb)::row tu 84 [pv du]::row ob 131 [.slice none 0 0]::repH rb n o x r []::F)
   (fun v g B=>∃(p:Option Addr) (c:Nat) (pks:List Pkt),pks.map Pkt.core=(qout n (o+1) r).map (coreQ x)∧g=f∧B=psl p c pks::pkM pks::row du 128 (durC n o rb ub bb)::row tu 84 [pv du]::row ob 131 [.slice p pks.length c]::repH rb n o x r []::F):=by
 have hou:=fun G=>rout_fn f G (rb:=rb) (o:=o) (x:=x) (ws:=[]) h11 hI;unfold pv
 refine A9 func175 ntmps175 fun base=>?_;apply (qkh);refine H.cl (hou _) fun v f' A' hr=>?_;obtain⟨p,c,pks,rfl,hpk,hff,rfl⟩:=hr;rw[hff];clear hff;apply (gC);apply (qec);apply (qed);apply (qeg);apply (qkC);exact BA rfl iD ⟨p,c,pks,hpk,rfl,rfl⟩
theorem dout_fn{db:Nat}(h11:n≤11):Fn prog 116 [pv du] f (durH du db n o x r::F)
   (fun v g B=>∃(p:Option Addr) (c:Nat) (pks:List Pkt),v= .slice p pks.length c∧pks.map Pkt.core=(qout n (o+1) r).map (coreQ x)∧g=f∧B=psl p c pks::pkM pks::durH du db n o x r::F):=by
 refine (qfu) fun i hφ=>?_;have hfo:=fun G=>zbt (du:=du) (db:=db) (o:=o) (x:=x) (F:=G) i hφ;obtain⟨rb,ub,cb,bb,sv,csv,w,z,nx,life,m⟩:=i
 have hI:=hφ.inv;have hal:=fun G tu ob=>alive_fn f _ (dout1_fn f G (du:=du) (tu:=tu) (ob:=ob) (o:=o) (rb:=rb) (ub:=ub) (bb:=bb) (x:=x) h11 hI)
 apply (qft);unfold pv;refine AB func116 ntmps116 fun base=>?_;refine (qhg) fun tu=>?_;refine (qhe) fun ob=>?_;apply (qkh);apply (qed);apply (qeg);refine AV rfl rfl rfl (hal _ tu ob) fun v f' A' hr=>?_;obtain⟨rfl,u,p,c,pks,hpk,hff,rfl⟩:=hr;rw[hff];clear hff;apply (gS);apply A4 (row tu _ _);apply (qhf);refine H.imp (hfo _) ?_;apply (qkC);apply (qed);exact De rfl rfl rfl (Rd1.ofRow aP0 rfl) (fun _ s=>s.drop (.here _ _)) ⟨p,c,pks,rfl,hpk,rfl,rfl⟩
theorem dtold1_fn :Fn prog 179 ([]++[]++[pv tu,pv ob]) f (row du 128 (durC n o rb ub bb)::row tu 84 [pv du]::row ob 95 [.slice none 0 0]::repH rb n o x r []::F)
   (fun v g B=>∃(p:Option Addr) (c:Nat),g=f∧B=slc p r.td.length c 136 5 (toldC r.td)::row du 128 (durC n o rb ub bb)::row tu 84 [pv du]::row ob 95 [.slice p r.td.length c]::repH rb n o x {r with td:=[]} []::F):=by
 have hou:=fun G=>rtold_fn f G (rb:=rb) (n:=n) (o:=o) (x:=x) (r:=r) (ws:=[]);unfold pv
 refine A9 func179 ntmps179 fun base=>?_;apply (qkh);refine AG rfl rfl rfl (hou _) fun p c=>?_;apply (gC);apply (qec);apply (qed);apply (qeg);apply A3 (slc p _ _ _ _ _);exact BA rfl iD ⟨p,c,rfl,rfl⟩
theorem QInv.told(h:QInv n r):QInv n {r with td:=[]}:=⟨h.ok,h.kl,h.kn,h.len,h.lg,h.vl,h.vt,h.cm,h.kb,h.ck,h.ck4,h.row,h.pd,h.pl,Nat.zero_le _,h.ks,fun c hc=>by cases hc⟩
theorem dtold_fn{db:Nat}:Fn prog 118 [pv du] f (durH du db n o x r::F)
   (fun v g B=>∃(p:Option Addr) (c:Nat),v= .slice p r.td.length c∧g=f∧B=slc p r.td.length c 136 5 (toldC r.td)::durH du db n o x {r with td:=[]}::F):=by
 refine (qfu) fun i hφ=>?_;have hfo:=fun G=>zbt (du:=du) (db:=db) (o:=o) (x:=x) (F:=G) (r:={r with td:=[]}) i ⟨hφ.inv.told,hφ.w,hφ.z,hφ.nx⟩;obtain⟨rb,ub,cb,bb,sv,csv,w,z,nx,life,m⟩:=i
 have hI:=hφ.inv;have hal:=fun G tu ob=>alive_fn f _ (dtold1_fn f G (du:=du) (tu:=tu) (ob:=ob) (n:=n) (o:=o) (rb:=rb) (ub:=ub) (bb:=bb) (x:=x) (r:=r))
 apply (qft);unfold pv;refine AB func118 ntmps118 fun base=>?_;refine (qhg) fun tu=>?_;refine (qhe) fun ob=>?_;apply (qkh);apply (qed);apply (qeg);refine AV rfl rfl rfl (hal _ tu ob) fun v f' A' hr=>?_;obtain⟨rfl,u,p,c,hff,rfl⟩:=hr;rw[hff];clear hff;apply (gS);apply A4 (row tu _ _);apply (qhf);refine H.imp (hfo _) ?_;apply A3 (slc p _ _ _ _ _);apply (qed);exact qcu
end
theorem b32L_l(t:Nat→UInt8):(b32L t).length=32:=rfl
theorem mkB_put_len(x:UInt8){k:Nat}(hk:k=1∨k=2∨k=6):(mkB x k a).put.length≤300:=by
 have ht:∀(s:ByteArray),s.size≤1→(textB s).length≤3:=fun s h=>by
  unfold textB;rw[List.length_append,be_len,data_len];omega
 rcases hk with rfl|rfl|rfl
 ·have h1:=ht (chr1 x) (Nat.le_refl 1);have h2:=ht (chr1 (yv a)) (Nat.le_refl 1)
  have h3:=ht .empty (Nat.zero_le 1);show(be 8 _++Req.bytes (qS x a)++b32L _).length≤300
  have e:(Req.bytes (qS x a)).length=18+(textB (chr1 x)).length+(textB (chr1 (yv a))).length+(textB .empty).length+(textB .empty).length:=by
   unfold Req.bytes;simp only[List.length_append,be_len];show 2+8+8+(textB (chr1 x)).length+(textB (chr1 (yv a))).length+(textB .empty).length+(textB .empty).length=_;rfl
  rw[List.length_append,List.length_append,be_len,e,b32L_l];omega
 ·show(be 8 _++be 8 _).length≤300;rw[List.length_append,be_len,be_len];decide
 ·show(be 8 _++b32L _).length≤300;rw[List.length_append,be_len,b32L_l];decide
theorem mkM_tag_len(x:UInt8){m:QM}(hk:m.k=1∨m.k=2∨m.k=6):(mkM x m).tagged.length≤400:=by
 unfold Msg.tagged;rw[mkM_b]
 have:=mkB_put_len x (a:=m.a) hk;simp only[List.length_append,depsB_len,List.length_cons,List.length_nil]
 omega
theorem mkM_put_len(x:UInt8){m:QM}(hk:m.k=1∨m.k=2∨m.k=6):(mkM x m).putB.length≤500:=by
 unfold Msg.putB
 have:=mkM_tag_len x hk;split
 ·simp only[List.length_append,be_len,b32L_l];omega
 ·exact Nat.zero_le _
variable {z eb:Nat} {r':QR} {q:QP}
section
variable (f:Frag) (F:List HP)
theorem dkeep_fn{db nx k:Nat}{p:Option Addr}{R:List MV}{ms:List QM}(hR:R.map MV.m=ms.map (mkM x))(hok:∀y∈ms,QOk n y)(hnx:nx+7*R.length≤8000)(hk:k+R.length≤80000)(hz:z≤900):Fn prog 185 [pv du,.slice p R.length c] f (row du 128 (durC n o rb ub bb)::row bb 210 (bookC db nx 8212 life k)::diskH db z m::msL p c R::F)
   (fun v g B=>∃(nx' z':Nat) (m':DM),nx'≤nx+7*R.length∧z'≤900∧v= .int .i64 0∧g=f∧B=row du 128 (durC n o rb ub bb)::row bb 210 (bookC db nx' 8212 life (k+R.length))::diskH db z' m'::msL p c R::F):=by
 have hlen:R.length=ms.length:=by simpa using congrArg List.length hR
 show Fn _ _ _ f (row du _ (durC n o rb ub bb)::row bb _ _::diskH db z m::slc p R.length c _ _ _::F) _;unfold pv;refine A9 func185 ntmps185 fun base=>?_;apply (gK)
 refine AF (ι:=Nat×Nat×Nat×DM) (fun s=>[(9,.int .i64 (s.1:Nat)),(8,.int .i64 (R.length:Nat)),(7,.slice p R.length c),(0,.pointer (some ⟨du,0,none⟩))]) (fun _=>f)
  (fun s=>row du 128 (durC n o rb ub bb)::row bb 210 (bookC db s.2.1 8212 life (k+s.1))::diskH db s.2.2.1 s.2.2.2::slc p R.length c 41 121 (R.flatMap MV.vals)::F)
  (fun s=>s.1≤R.length∧s.2.1≤nx+7*s.1∧s.2.2.1≤900) (fun s=>R.length-s.1) (0,nx,z,m) ⟨Nat.zero_le _,Nat.le_refl _,hz⟩ fun s hs=>?_
 obtain⟨i,nx',z',m'⟩:=s;obtain⟨hi,hnx',hz'⟩:i≤R.length∧nx'≤nx+7*i∧z'≤900:=hs;show H _ _ _ _ _ (row du _ (durC n o rb ub bb)::row bb _ (bookC db nx' 8212 life (k+i))::diskH db z' m'::slc p R.length c _ _ _::F) _;by_cases hlt:i<R.length
 ·have hy:R[i]?=some R[i]:=List.getElem?_eq_getElem hlt;generalize R[i]=y at hy
  have hm:ms[i]?=some (ms[i]' jB):=List.getElem?_eq_getElem jB;generalize ms[i]' jB=w at hm
  have hym:y.m=mkM x w:=by
   have h1:=congrArg (fun l:List Msg=>l[i]?) hR;simp only[List.getElem?_map,hy,hm,Option.map_some,Option.some.injEq]at h1
   exact h1
  have hwok:=hok w (List.mem_of_getElem? hm);have hpl:=mkM_put_len x hwok.k
  have hput:=fun G=>mput_fn f G (x:=y) (good_nil f (by rw[hym];exact mkM_q x w) (by rw[hym,mkM_b];exact mkB_ok x hwok.a8 hwok.k));rw[hym]at hput
  generalize(mkM x w).putB=bs at hput hpl;have hpg:pgs bs.length≤7:=by unfold pgs;omega
  refine AO (p:=p) (n0:=R.length) (c:=c) (T:=41) (sz:=121) jA jB fun pb hp=>?_;subst hp;apply (qkm);refine AD (ls:=y.vals) rfl rfl rfl (by rw[Nat.zero_add];exact Rd.slcElem (sz:=121) (vals:=MV.vals) (xs:=R) (fun _=>rfl) jE jA hy) rfl rfl ?_;refine (qfm) fun tb=>?_;apply (qgl);apply (qdF);apply (qeY);apply (qfU);refine AH (ls:=y.vals) rfl rfl rfl (Rd.ofRow jA) rfl rfl ?_;apply (qfK);refine AG rfl rfl rfl (hput _) fun p2 c2=>?_;apply (qjd);apply (qeY);apply (qdO);apply A7 7;apply (qdU);refine AW rfl rfl rfl (bappend_fn f _ (Src.slcS jA jH) jB jB jB jB jB) fun m2=>?_;apply (qjd);apply (qeY);apply (qdO);apply (qgj);apply (qeI);apply (gT);apply (qeG);apply A4 (slc p2 _ _ 5 _ _);apply A3 (slc _ _ _ 41 _ _);apply (qdU);apply (qeY);exact AI (i+1,nx'+pgs bs.length,0,m2) ⟨hlt,by show nx'+pgs bs.length≤nx+7*(i+1);omega,Nat.zero_le _⟩ (by show R.length-(i+1)<R.length-i;omega)
 ·obtain rfl:i=R.length:=jB
  apply (gT);exact AU ⟨nx',z',m',hnx',hz',rfl,rfl,rfl⟩
theorem dhear1_fn(htab:TabAt f){db nx k:Nat}{p:Pkt}(h3:3≤n)(h11:n≤11)(ho:o<n)(hI:QInv n r)(hp:p.Good f)(hc:p.core=coreQ x q)(hto:q.to=o+1)(hq:qhear n q r=some r')(hnx:nx≤7900)(hk:k≤70000)(hz:z≤900):Fn prog 183 ([]++[]++[pv tu,pv qb,pv eb]) f (row du 128 (durC n o rb ub bb)::row tu 84 [pv du]::row qb 49 p.vals::row eb 24 [.int .i64 0]::repH rb n o x r []::row bb 210 (bookC db nx 8212 life k)::diskH db z m::F)
   (fun v g B=>∃(j nx' z':Nat) (m':DM),nx'≤nx+7*j∧z'≤900∧r'.l.length=r.l.length+j∧g=f∧B=row du 128 (durC n o rb ub bb)::row tu 84 [pv du]::row qb 49 p.vals::row eb 24 [.int .i64 0]::repH rb n o x r' []::row bb 210 (bookC db nx' 8212 life (k+j))::diskH db z' m'::F):=by
 have hh:=qhear_is hq;have hhe:=fun G=>rhear_fn f G htab (rb:=rb) (o:=o) (x:=x) h3 h11 ho hI hp hc hto hq
 have hl:=qdrain_l hh.dr;have hWl:=List.length_filter_le (fun m=>qopen (qchk r m)) q.ms
 have hlen:=hh.len;unfold pv
 refine AP func183 ntmps183 fun base=>?_;apply (gG);apply (qid);apply (qgs);apply A6 [0,1,2,3,4] 6;apply (gF);refine AH (ls:=p.vals) rfl rfl rfl (Rd.ofRow jA) rfl rfl ?_;apply (qhC);apply (qec);refine H.cl (hhe _) fun v f' A' hr=>?_;obtain⟨p2,c2,R,rfl,hR,hff,rfl⟩:=hr;rw[hff];clear hff;apply (gA);apply (qid);apply (qdO);apply A6 [6,7,8,9] 1;apply (qfa);apply (qke);apply (gC);apply (qid);apply (qhG);apply (gS);have hRl:R.length=(q.ms.filter fun m=>qopen (qchk r m)).length:=by simpa using congrArg List.length hR
 have hkp:=fun G=>dkeep_fn f G (du:=du) (db:=db) (n:=n) (o:=o) (rb:=rb) (ub:=ub) (bb:=bb) (nx:=nx) (k:=k) (z:=z) (c:=c2) (life:=life) (m:=m) (p:=p2) hR (fun y hy=>hh.ok y (List.mem_filter.1 hy).1) jB jB hz;apply A3 (msL _ _ _)
 apply (qdU);apply (qeY);refine H.cl (hkp _) fun v f' A' hr=>?_;obtain⟨nx',z',m',hn2,hz2,rfl,hff,rfl⟩:=hr;rw[hff];clear hff;apply (gC);apply A4 (msL _ _ _);apply (qdU);apply (qec);apply (qel);apply (qid);exact BA rfl iD ⟨R.length,nx',z',m',hn2,hz2,by rw[hl,List.length_append,hRl],rfl,rfl⟩
theorem dhear_fn(htab:TabAt f){db:Nat}{p:Pkt}(h3:3≤n)(h11:n≤11)(ho:o<n)(hp:p.Good f)(hc:p.core=coreQ x q)(hto:q.to=o+1)(hq:qhear n q r=some r'):Fn prog 120 [pv du,.agg p.vals.toArray] f (durH du db n o x r::F) (Ret (.int .i64 0) f (durH du db n o x r'::F)):=by
 refine B2 fun⟨rb,ub,cb,bb,sv,csv,w,z,nx,life,m⟩ hφ=>?_;have hI:=hφ.inv;have hh:=qhear_is hq
 have hI':QInv n r':=qdrain_inv (hI.setK _ _) hh.dr
 have hkn0:=qdrain_kn (o:=o) (hI.setK (q.src-1) q.kn) hh.dr fun y hy=>by
  rw[←hto];exact hh.own y (List.mem_filter.1 hy).1 (List.mem_filter.1 hy).2
 have hkn:qnth r'.kn o=qnth r.kn o:=hkn0;have hnx:nx≤40+7*r.l.length:=hφ.nx
 have hln:=hI.len;have hal:=fun G tu qb eb=>alive_fn f _ (dhear1_fn f G htab (du:=du) (db:=db) (tu:=tu) (qb:=qb) (eb:=eb) (o:=o) (rb:=rb) (ub:=ub) (bb:=bb) (nx:=nx) (k:=r.l.length) (z:=z) (life:=life) (m:=m) (x:=x) h3 h11 ho hI hp hc hto hq jB jB hφ.z)
 show Fn _ _ _ f (row du _ (durC n o rb ub bb)::repH rb n o x r []::row ub _ (usgC cb _ (qnth r.kn o) sv)::row cb _ _::row bb _ _::diskH db z m::F) _;rw[←hkn];unfold pv;refine A9 func120 ntmps120 fun base=>?_;refine (qhg) fun tu=>?_;refine H.box (ls:=p.vals) rfl rfl rfl rfl fun qb=>?_;refine (qfW) fun eb=>?_;apply (gO);apply (qdU);apply (qec);apply (qel);apply (qid);refine AV rfl rfl rfl (hal _ tu qb eb) fun v f' A' hr=>?_;obtain⟨rfl,u,j,nx',z',m',hn2,hz2,hj,hff,rfl⟩:=hr;rw[hff];clear hff;have hfo:=fun G=>zbt (du:=du) (db:=db) (o:=o) (x:=x) (F:=G) (r:=r') ⟨rb,ub,cb,bb,sv,csv,w,z',nx',life,m'⟩ ⟨hI',hφ.w,hz2,by show nx'≤_;rw[hj];omega⟩;unfold durB at hfo
 rw[hj]at hfo;apply (gS);apply A4 (row tu _ _);apply (qfs);apply (qhf);refine H.imp (hfo _) ?_;apply (qel);exact De rfl rfl rfl (Rd1.ofRow aP0 rfl) (fun _ s=>s.drop (.here _ _)) ⟨rfl,rfl,rfl⟩
theorem mkR_tag_len(x:UInt8){m:QM}(hk:m.k=1∨m.k=2∨m.k=6):(mkR x m).tagged.length≤400:=by
 unfold Msg.tagged
 have:=mkB_put_len x (a:=m.a) hk;show([b8 _]++depsB _ 11++[_]++(mkB x m.k m.a).put).length≤400
 simp only[List.length_append,depsB_len,List.length_cons,List.length_nil];omega
theorem splice_tagM(m:Msg)(p:Option Addr)(c:Nat)(τ:Nat→UInt8):splice (m.vals p c) (0+89) (b32 τ)=({m with tag:=τ}:Msg).vals p c:=by
 have h:=splice_pre ([.int .i64 m.origin,.int .u64 m.number]++v11 m.deps++m.body.vals p c) (b32 m.tag) (b32 τ) 0;have e:splice (b32 m.tag) 0 (b32 τ)=b32 τ:=by unfold splice;rw[List.take_zero,List.drop_eq_nil_of_le (Nat.le_refl 32)];simp
 rw[e]at h;exact h
theorem dmake_fn(htab:TabAt f){db nx k:Nat}{kd:Nat}(h3:3≤n)(h11:n≤11)(ho:o<n)(hI:QInv n r)(ht:qtake n (o+1) r {o:=o+1,num:=qnth r.kn o+1,k:=kd,a:=a,d:=r.kn}=some r')(hnx:nx≤7900)(hk:k≤70000)(hz:z≤900)(hw:w≤1):Fn prog 174 [pv du,.agg ((mkR x {o:=o+1,num:=qnth r.kn o+1,k:=kd,a:=a,d:=r.kn}).vals none 0).toArray] f
   (row du 128 (durC n o rb ub bb)::repH rb n o x r []::row ub 200 (usgC cb ((o+1:Nat):Int) (qnth r.kn o) sv)::row cb 268 (cellC db 0 csv w)::row bb 210 (bookC db nx 8212 life k)::diskH db z m::F)
   (fun v g B=>∃(ls:List Value) (sv' csv':Value) (nx' z':Nat) (m':DM),ls.length=121∧(∀u∈ls,one u=true)∧nx'≤nx+7∧z'≤900∧v= .tuple #[.agg ls.toArray,.int .i64 0]∧g=f∧B=row du 128 (durC n o rb ub bb)::repH rb n o x r' []::row ub 200 (usgC cb ((o+1:Nat):Int) (qnth r.kn o+1) sv')::row cb 268 (cellC db 0 csv' (1-w))::row bb 210 (bookC db nx' 8212 life (k+1))::diskH db z' m'::F):=by
 generalize hqm:({o:=o+1,num:=qnth r.kn o+1,k:=kd,a:=a,d:=r.kn}:QM)=qm at ht⊢;have t:=qtake_is ht;have hmay:=mkR_may h11 x t.ok
 have hkb:=qnth_le hI.kb o;have htk:=fun G=>rtake_fn f G htab (rb:=rb) (ws:=[]) h3 h11 ho hI ht (y:=⟨mkM x qm,none,0⟩) rfl
 have hkp:=fun G eb nx z m'=>dkeep_fn f G (du:=du) (db:=db) (n:=n) (o:=o) (rb:=rb) (ub:=ub) (bb:=bb) (nx:=nx) (k:=k) (z:=z) (c:=1) (life:=life) (m:=m') (x:=x) (p:=some ⟨eb,0,none⟩) (R:=[⟨mkM x qm,none,0⟩]) (ms:=[qm]) rfl (fun y hy=>by rw[List.mem_singleton.1 hy];exact t.ok);have hby:=fun G=>mbytes_fn f G (x:=⟨mkR x qm,none,0⟩) (good_nil f (mkB_q x qm.k qm.a) (mkB_ok x t.ok.a8 t.ok.k))
 have hbl:=mkR_tag_len x t.ok.k;have hbt:(mkR x qm).bytes=(mkR x qm).tagged:=by unfold Msg.bytes;rw[if_pos hmay]
 rw[←hbt]at hbl
 have hmk:mkM x qm= {mkR x qm with tag:=Sha.numbered ((o+1:Nat):Int) ((qnth r.kn o+1:Nat):Int) (mkR x qm).bytes}:=by
  unfold mkM Msg.signed;rw[if_pos hmay,hbt,←hqm];rfl
 have hby:∀G,Fn prog 158 [.agg ((mkR x qm).vals none 0).toArray] f G (BytesR (mkR x qm).bytes f G):=hby;generalize(mkR x qm).bytes=bs at hby hbl hmk
 obtain⟨τ,hτ⟩:∃τ,Sha.numbered ((o+1:Nat):Int) ((qnth r.kn o+1:Nat):Int) bs=τ:=⟨_,rfl⟩;rw[hτ]at hmk;have hset:=splice_tagM (mkR x qm) none 0 τ;rw[←hmk]at hset
 unfold pv;refine A9 func174 ntmps174 fun base=>?_;apply (gA);refine H.box (ls:=(mkR x qm).vals none 0) rfl rfl rfl rfl fun tb=>?_;refine (qfm) fun ob=>?_;apply (gG)
 refine H.cut (ι:=Nat×Value×Value×DM) (fun s=>[(8,.int .i64 0),(7,pv s.1),(3,pv tb),(4,pv ob),(0,pv du)]) (fun _=>f)
  (fun s=>row s.1 32 (b32 τ)::row tb 41 ((mkR x qm).vals none 0)::row ob 41 (msgZ.vals none 0)::row du 128 (durC n o rb ub bb)::repH rb n o x r []::row ub 200 (usgC cb ((o+1:Nat):Int) (qnth r.kn o+1) s.2.1)::row cb 268 (cellC db 0 s.2.2.1 (1-w))::row bb 210 (bookC db nx 8212 life k)::diskH db 0 s.2.2.2::F) (fun _=>True) _ (fun s _=>?_) ?_
 ·obtain⟨tg,sv',csv',m'⟩:=s;show H _ _ _ [_,(7,.pointer (some ⟨tg,0,none⟩)),(3,.pointer (some ⟨tb,0,none⟩)),(4,.pointer (some ⟨ob,0,none⟩)),(0,.pointer (some ⟨du,0,none⟩))] f (row tg _ _::row tb _ _::row ob _ _::row du _ _::repH _ _ _ _ _ _::row ub _ _::row cb _ _::row bb _ _::diskH _ _ _::F) _;apply (gE);refine AD (ls:=b32 τ) rfl rfl rfl (Rd.ofRow jA) rfl rfl ?_;apply (gL);refine AC (ls:=(mkR x qm).vals none 0) (vs:=b32 τ) (ls':=(mkM x qm).vals none 0) rfl rfl rfl (zaa rfl) rfl hset (by show 0+89+32≤121;decide) jA ?_;apply (gG);refine AD (ls:=(mkM x qm).vals none 0) rfl rfl rfl (Rd.ofRow jA) rfl rfl ?_;refine AS (out:=[(⟨mkM x qm,none,0⟩:MV)].flatMap MV.vals) rfl rfl rfl rfl jE jE jD rfl fun eb=>?_;refine CB (k:=1) (sz:=121) rfl jE ?_;apply (qdU);apply (qeY);refine AV rfl rfl rfl (hkp _ eb nx 0 m' (by show nx+7*1≤8000;omega) (by show k+1≤80000;omega) (Nat.zero_le _)) fun v f' A' hr=>?_;obtain⟨nx',z',m2,hn2,hz2,rfl,hff,rfl⟩:=hr;rw[hff];clear hff;have hn2:nx'≤nx+7:=hn2;apply (gE)
  apply A4 (msL _ _ _);apply (qhN);refine C1 (ls:=(mkM x qm).vals none 0) rfl rfl rfl (Rd.ofRow jA) rfl rfl ?_;apply (gI);apply (qec);apply A5 (htk _);apply (gA);refine AD (ls:=(mkM x qm).vals none 0) rfl rfl rfl (Rd.ofRow jA) rfl rfl ?_;refine AC (ls:=msgZ.vals none 0) (vs:=(mkM x qm).vals none 0) (ls':=(mkM x qm).vals none 0) rfl rfl rfl (zaa rfl) rfl rfl (Nat.le_refl 121) jA ?_;apply (gK);apply A4 (row tg _ _);apply (qeG);apply (qhf);apply (qed);exact B5 (ls:=(mkM x qm).vals none 0) rfl rfl rfl rfl (Rd.ofRow aP0) rfl (fun _ s=>s.drop (.here _ _)) ⟨_,sv',csv',nx',z',m2,rfl,zaa rfl,hn2,hz2,rfl,rfl,rfl⟩
 ·apply (qeY);apply (qdF);apply (qex);apply A6 [0,1,2,3,4] 10;apply (gF);refine AH (ls:=(mkR x qm).vals none 0) rfl rfl rfl (Rd.ofRow jA) rfl rfl ?_;apply (qdG);refine B9 (i:=5) (j:=11) jD rfl rfl ?_ ?_
  ·refine AG rfl rfl rfl (hby _) fun p2 c2=>?_;apply (qiT);refine B9 (i:=6) (j:=11) jD rfl rfl ?_ ?_
   ·refine Co (p:=p2) (l:=bs) (c:=c2) (sz:=1) (T:=5) (xs:=bytesV bs) jA fun hnil=>?_;apply (qeD);apply (qdL);apply (qfp);refine AV rfl rfl rfl (unext_fn f _ htab (n:=qnth r.kn o) jB jB jB hw (Src.slcS jA jH) hnil jB jB) fun v f' A' hr=>?_;obtain⟨sv',csv',m',rfl,hff,rfl⟩:=hr;rw[hff,hτ];clear hff;apply (qiT);apply A6 [7,8,9,10] 4;apply (qfa);apply A7 11;refine (qfv) fun tg=>?_;apply (qiT);apply A6 [12] 2;apply (qgK);apply A7 13;refine AC (ls:=zb 32) (vs:=b32 τ) (ls':=b32 τ) rfl rfl rfl (zaa rfl) rfl rfl (Nat.le_refl 32) jA ?_;apply (qiT);apply A6 [14] 0;apply (qdP);apply A4 (slc p2 _ _ 5 _ _);apply (qhf);apply (qed);apply (qdF);apply A3 (row tg _ _);exact BR (tg,sv',csv',m') trivial ⟨rfl,rfl,rfl,rfl,rfl,trivial⟩ rfl rfl
   ·refine (qfv) fun tg=>?_;exact qah
  ·refine (qfv) fun tg=>?_;apply (qiT);apply A7 5;refine AG rfl rfl rfl (hby _) fun p2 c2=>?_;exact qah
end
structure QSay(n now o:Nat)(r:QR)(b:Bool)(r':QR)(r2:QR):Prop where
 row:r.row≤r.cm
 look:qlook now (qup r)=some r2
 how:(b=false∧r'=r2∧qbody (o+1) r2=none)∨(b=true∧∃k a,qbody (o+1) r2=some (k,a)∧qtake n (o+1) r2 {o:=o+1,num:=qnth r2.kn o+1,k:=k,a:=a,d:=r2.kn}=some r')
variable {b:Bool} {now:Nat}
theorem qsay_is(h:qsay n now (o+1) r=some (b,r')):∃r2,QSay n now o r b r' r2:=by
 unfold qsay at h
 cases hc:Nat.ble r.row r.cm with
 |false=>rw[hc]at h;cases h
 | true =>
  rw[hc,cond_true]at h;have hc:r.row≤r.cm:=by rw[Nat.ble_eq]at hc;exact hc
  cases hl:qlook now (qup r)with
  |none=>rw[hl]at h;cases h
  | some r2 =>
   rw[hl]at h
   have h:(match qbody (o+1) r2 with
    |none=>some (false,r2)
    | some (k, a) => match qtake n (o + 1) r2 { o := o + 1, num := qnth r2.kn (o + 1 - 1) + 1, k := k, a := a, d := r2.kn } with
     |none=>none
     |some r'=>some (true,r'))=some (b,r'):=h
   cases hb:qbody (o+1) r2 with
   |none=>rw[hb]at h;cases h;exact⟨_,hc,hl,.inl ⟨rfl,rfl,hb⟩⟩
   | some p =>
    obtain⟨k,a⟩:=p;rw[hb]at h
    have h:(match qtake n (o+1) r2 {o:=o+1,num:=qnth r2.kn (o+1-1)+1,k:=k,a:=a,d:=r2.kn}with
     |none=>none
     |some r'=>some (true,r'))=some (b,r'):=h
    cases ht:qtake n (o+1) r2 {o:=o+1,num:=qnth r2.kn (o+1-1)+1,k:=k,a:=a,d:=r2.kn}with
    |none=>rw[ht]at h;cases h
    |some r3=>rw[ht]at h;cases h;exact⟨_,hc,hl,.inr ⟨rfl,k,a,hb,ht⟩⟩
def sayE(b:Bool):Int:=if b=true then 0 else 4
section
variable (f:Frag) (F:List HP)
theorem dsay1_fn(htab:TabAt f){db mb nx:Nat}(h3:3≤n)(h11:n≤11)(hodd:n % 2=1)(ho:o<n)(hn:now≤4611686018427387904)(hI:QInv n r)(hs:qsay n now (o+1) r=some (b,r'))(hnx2:nx≤40+7*r.l.length)(hz:z≤900)(hw:w≤1):Fn prog 172 ([]++[]++[pv tu,pv nb,pv eb,pv mb]) f
   (row du 128 (durC n o rb ub bb)::row tu 84 [pv du]::row nb 29 [.int .u64 (now:Nat)]::row eb 24 [.int .i64 0]::row mb 41 (msgZ.vals none 0)::repH rb n o x r []::row ub 200 (usgC cb ((o+1:Nat):Int) (qnth r.kn o) sv)::row cb 268 (cellC db 0 csv w)::row bb 210 (bookC db nx 8212 life r.l.length)::diskH db z m::F)
   (fun v g B=>∃(ls:List Value) (sv' csv':Value) (nx' z' w':Nat) (m':DM),ls.length=121∧(∀u∈ls,one u=true)∧nx'≤40+7*r'.l.length∧z'≤900∧w'≤1∧QInv n r'∧g=f∧B=row du 128 (durC n o rb ub bb)::row tu 84 [pv du]::row nb 29 [.int .u64 (now:Nat)]::row eb 24 [.int .i64 (sayE b)]::row mb 41 ls::repH rb n o x r' []::row ub 200 (usgC cb ((o+1:Nat):Int) (qnth r'.kn o) sv')::row cb 268 (cellC db 0 csv' w')::row bb 210 (bookC db nx' 8212 life r'.l.length)::diskH db z' m'::F):=by
 obtain⟨r2,hrow,hl,how⟩:=qsay_is hs;have hnx:=fun G=>rnext_fn f G htab (rb:=rb) (o:=o) (x:=x) (ws:=[]) h3 h11 hodd ho hn hI hrow hl;have tl:=qlook_is hl
 have hI2:=tl.inv (hI.up hrow);have hkn:r2.kn=r.kn:=tl.kn
 have hll:r2.l=r.l:=tl.l;have hln:=hI.len
 unfold nxtV at hnx;rcases how with⟨rfl,rfl,hb⟩|⟨rfl,k,a,hb,ht⟩
 ·rw[hb]at hnx;unfold pv;obtain⟨vs,hvs⟩:∃vs,vs=msgZ.vals none 0:=⟨_,rfl⟩;have hv1:∀v∈vs,one v=true:=by rw[hvs];exact zaa rfl
  have hvl:vs.length=121:=by rw[hvs];rfl
  have hnx:∀G,Fn prog 173 [.pointer (some ⟨rb,0,none⟩),.int .u64 (now:Nat)] f (repH rb n o x r []::G) (Ret (.tuple #[.agg vs.toArray,.bool false]) f (repH rb n o x r' []::G)):=by rw[hvs];exact hnx
  refine BK func172 ntmps172 fun base=>?_;apply (gA)
  refine H.cut (ι:=Nat) (fun qb=>[(5,.bool false),(4,pv qb),(0,pv tu),(2,pv eb),(3,pv mb)]) (fun _=>f)
   (fun qb=>row qb 41 vs::row du 128 (durC n o rb ub bb)::row tu 84 [pv du]::row nb 29 [.int .u64 (now:Nat)]::row eb 24 [.int .i64 0]::row mb 41 (msgZ.vals none 0)::repH rb n o x r' []::row ub 200 (usgC cb ((o+1:Nat):Int) (qnth r.kn o) sv)::row cb 268 (cellC db 0 csv w)::row bb 210 (bookC db nx 8212 life r.l.length)::diskH db z m::F) (fun _=>True) _ (fun qb _=>?_) ?_
  ·show H _ _ _ [_,(4,.pointer (some ⟨qb,0,none⟩)),(0,.pointer (some ⟨tu,0,none⟩)),(2,.pointer (some ⟨eb,0,none⟩)),(3,.pointer (some ⟨mb,0,none⟩))] f _ _;apply (gS);apply (qfs);exact Cq rfl iD ⟨msgZ.vals none 0,sv,csv,nx,z,w,m,rfl,zaa rfl,by rw[hll];exact hnx2,hz,hw,hI2,rfl,by rw[hkn,hll];rfl⟩
  ·exact qaa
 ·rw[hb]at hnx;have t:=qtake_is ht;have hI3:=t.next hI2
  have hk3:qnth r'.kn o=qnth r2.kn o+1:=by
   rw[t.kn,qinc_at _ _ _ (by rw[hI2.kl];show o+1-1<n;omega)];rw[if_pos (by show o=o+1-1;omega)];rfl
  have hl3:r'.l.length=r2.l.length+1:=by rw[t.l,List.length_append];rfl
  rw[hk3,hl3,←hkn,←hll];have hnx3:nx≤40+7*r2.l.length:=by rw[hll];exact hnx2
  have hln2:=hI2.len;have hmk:=fun G=>dmake_fn f G htab (du:=du) (db:=db) (rb:=rb) (ub:=ub) (cb:=cb) (bb:=bb) (nx:=nx) (k:=r2.l.length) (z:=z) (w:=w) (sv:=sv) (csv:=csv) (life:=life) (m:=m) (x:=x) h3 h11 ho hI2 ht jB jB hz hw
  have hnx:∀G,Fn prog 173 [.pointer (some ⟨rb,0,none⟩),.int .u64 (now:Nat)] f (repH rb n o x r []::G) (Ret (.tuple #[.agg ((mkR x {o:=o+1,num:=qnth r2.kn o+1,k:=k,a:=a,d:=r2.kn}).vals none 0).toArray,.bool true]) f (repH rb n o x r2 []::G)):=hnx;unfold pv at hmk⊢
  obtain⟨vs,hvs⟩:∃vs,vs=(mkR x {o:=o+1,num:=qnth r2.kn o+1,k:=k,a:=a,d:=r2.kn}).vals none 0:=⟨_,rfl⟩;have hv1:∀v∈vs,one v=true:=by rw[hvs];exact zaa rfl
  have hvl:vs.length=121:=by rw[hvs];rfl
  rw[←hvs]at hnx hmk;refine BK func172 ntmps172 fun base=>?_;apply (gA)
  refine H.cut (ι:=Nat) (fun qb=>[(5,.bool true),(4,pv qb),(0,pv tu),(2,pv eb),(3,pv mb)]) (fun _=>f)
   (fun qb=>row qb 41 vs::row du 128 (durC n o rb ub bb)::row tu 84 [pv du]::row nb 29 [.int .u64 (now:Nat)]::row eb 24 [.int .i64 0]::row mb 41 (msgZ.vals none 0)::repH rb n o x r2 []::row ub 200 (usgC cb ((o+1:Nat):Int) (qnth r2.kn o) sv)::row cb 268 (cellC db 0 csv w)::row bb 210 (bookC db nx 8212 life r2.l.length)::diskH db z m::F) (fun _=>True) _ (fun qb _=>?_) ?_
  ·show H _ _ _ [_,(4,.pointer (some ⟨qb,0,none⟩)),(0,.pointer (some ⟨tu,0,none⟩)),(2,.pointer (some ⟨eb,0,none⟩)),(3,.pointer (some ⟨mb,0,none⟩))] f (row qb _ vs::row du _ _::row tu _ [.pointer (some ⟨du,0,none⟩)]::_) _;apply (gS);refine AD (ls:=vs) rfl rfl rfl (Rd.ofRow jA) hvl rfl ?_;apply (qhf);refine H.cl (hmk _) fun v f' A' hr=>?_;obtain⟨ls,sv',csv',nx',z',m',hl1,hl2,hn2,hz2,rfl,hff,rfl⟩:=hr;rw[hff];clear hff;apply (gO);refine AC (ls:=msgZ.vals none 0) (vs:=ls) (ls':=ls) rfl rfl rfl hl2 hl1 (set121 rfl hl1) jt jA ?_;apply (gC);apply (qfs);apply (qjj);exact BA rfl iD ⟨ls,sv',csv',nx',z',1-w,m',hl1,hl2,by omega,hz2,by omega,hI3,rfl,rfl⟩
  ·exact qaa
theorem dsay_fn(htab:TabAt f){db:Nat}(h3:3≤n)(h11:n≤11)(hodd:n % 2=1)(ho:o<n)(hn:now≤4611686018427387904)(hs:qsay n now (o+1) r=some (b,r')):Fn prog 115 [pv du,.int .u64 (now:Nat)] f (durH du db n o x r::F)
   (fun v g B=>∃ls:List Value,ls.length=121∧(∀u∈ls,one u=true)∧v= .tuple #[.agg ls.toArray,.int .i64 (sayE b)]∧g=f∧B=durH du db n o x r'::F):=by
 refine B2 fun⟨rb,ub,cb,bb,sv,csv,w,z,nx,life,m⟩ hφ=>?_;have hal:=fun G tu nb eb mb=>alive_fn f _ (dsay1_fn f G htab (du:=du) (db:=db) (tu:=tu) (nb:=nb) (eb:=eb) (mb:=mb) (o:=o) (rb:=rb) (ub:=ub) (cb:=cb) (bb:=bb) (nx:=nx) (z:=z) (w:=w) (sv:=sv) (csv:=csv) (life:=life) (m:=m) (x:=x) h3 h11 hodd ho hn hφ.inv hs hφ.nx hφ.z hφ.w);apply (qft)
 unfold pv;refine A9 func115 ntmps115 fun base=>?_;refine (qhg) fun tu=>?_;refine (qgZ) fun nb=>?_;refine (qfm) fun mb=>?_;refine (qfW) fun eb=>?_;apply (gO);apply (qjj);refine AV rfl rfl rfl (hal _ tu nb eb mb) fun v f' A' hr=>?_;obtain⟨rfl,u,ls,sv',csv',nx',z',w',m',hl1,hl2,hn2,hz2,hw2,hI',hff,rfl⟩:=hr;rw[hff];clear hff;have hfo:=fun G=>zbt (du:=du) (db:=db) (o:=o) (x:=x) (F:=G) (r:=r') ⟨rb,ub,cb,bb,sv',csv',w',z',nx',life,m'⟩ ⟨hI',hw2,hz2,hn2⟩;unfold durB at hfo
 apply (gE);refine H.db (S:=[]) rfl ?_;refine B9 (i:=0) (j:=1) jD rfl rfl ?_ ?_
 ·refine AD (ls:=ls) rfl rfl rfl (Rd.ofRow jA) hl1 rfl ?_;apply (qdE);refine B9 (i:=1) (j:=2) jD rfl rfl ?_ ?_
  ·apply (gO);exact qbq
  ·refine AC (ls:=ls) (vs:=ls) (ls':=ls) rfl rfl rfl hl2 hl1 (set121 hl1 hl1) jt jA ?_;apply (qdE);apply A7 1;apply (gO);exact qal
 ·apply (gO);apply (qdO);apply A7 0;refine AD (ls:=ls) rfl rfl rfl (Rd.ofRow jA) hl1 rfl ?_;apply (gA);exact qbq
theorem dformat_fn{db:Nat}:Fn prog 30 [pv db] f (diskH db 0 []::F)
  (fun v g B=>∃m:DM,Fresh m 0∧Fresh m 20∧dget m 40=(fun _=>0)∧v= .int .i64 0∧g=f∧B=diskH db 0 m::F):=by
 have hus:∀G,Fn prog 44 [pv db,.int .i64 0] f (diskH db 0 []::G) (fun v g B=>∃m':DM,Fresh m' 0∧Else [] m' 0∧v= .int .i64 0∧g=f∧B=diskH db 0 m'::G):=fun G=>by
  have h:=fun G=>cformat_fn f G (db:=db) (z:=0) (m:=[]) (p:=0) jB jB;unfold pv
  refine A9 func44 ntmps44 fun base=>?_;exact qbC
 have hbk:∀(m:DM) G,Fn prog 45 [pv db,.int .i64 20] f (diskH db 0 m::G) (fun v g B=>∃m':DM,Fresh m' 20∧Else m m' 20∧v= .int .i64 0∧g=f∧B=diskH db 0 m'::G):=fun m G=>by
  have h:=fun G=>cformat_fn f G (db:=db) (z:=0) (m:=m) (p:=20) jB jB;unfold pv
  refine A9 func45 ntmps45 fun base=>?_;exact qbC
 unfold pv;refine AB func30 ntmps30 fun base=>?_;apply (gG);refine H.cl (hus _) fun v f' A' hr=>?_;obtain⟨m1,h1,e1,rfl,hff,rfl⟩:=hr;rw[hff];clear hff;apply (gE);refine AV rfl rfl rfl (hbk m1 _) fun v f' A' hr=>?_;obtain⟨m2,h2,e2,rfl,hff,rfl⟩:=hr;rw[hff];clear hff;apply (gK);refine AE rfl rfl iD ⟨m2,fun i hi=>?_,h2,?_,rfl,rfl,rfl⟩
 ·rw[e2 _ (.inl jB),e2 _ (.inl jB)];exact h1 i hi
 ·rw[e2 40 (.inr jE),e1 40 (.inr jE)];rfl
end
def durN(n o:Nat)(a2 a3 a4:Value):List Value:=[.int .i64 (n:Nat),.int .i64 ((o+1:Nat):Int),a2,a3,a4,.int .i64 0]
variable {y:Operand}
section
variable {P:Program} {base:World} {n:Nat} {L:Env} {f:Frag} {A V:List HP} {q:Post} {l rest:List Oper} {d:Nat} {ty:TypeId} {pos:String} {af:Array Edge} {gd:Option (Nat × Bool)}
theorem FS{t e:TypeId}{m i:Nat}{x:Operand}{xs:List Value}{ik:IntKind}{z:Int}{v:Value}{de:TypeDesc}[hu:Und P t (.array m e)][he:Und P e de][hs:Siz P e 1](hw:want? l L gd=true)
  (hx:ev? L x=some (.agg xs.toArray)) (hy:ev? L y=some (.int ik z)) (hq:z=(i:Nat)) (hi:i<m) (ha:aggD de=false) (hv:xs[i]?=some v) (hd:Nat.ble (d+1) n=true) {ls:Lst} {ti:Nat} {tt:List (Nat×Bool)}
  (k:HQ V ⟨ls.setIfInBounds ti true,tt⟩ P base n ((d,v)::L) f A (.ops l rest q)):HQ V ⟨ls,(ti,false)::tt⟩ P base n L f A (.ops l (⟨some d,.index t x y,ty,pos,af,gd⟩::rest) q):=
 As hw hd (fun a w hf _=>by
  subst hq
  have h1:=hu.run w
  have h2:=hs.run w
  have h3:=run_isAgg he w
  have hi2:(0:Int)≤(i:Int)∧(i:Int)<(m:Int):=⟨by omega,by omega⟩
  simp only[execOp,hf.eval hx,hf.eval hy,Instr.index,asIntOf,Sem.run_bind,Sem.run_pure,Result.andThen_ok,h1,hi2,if_true,h2,part,h3,ha,Bool.false_eq_true,if_false,and_self]
  simp[hv,Sem.run_pure]) k
end
variable {tb:Nat} {a2 a3 a4:Value}
section
variable (f:Frag) (F:List HP)
theorem dnew1_fn(x:UInt8)(h3:3≤n)(h11:n≤11)(hodd:n % 2=1)(ho:o<n):Fn prog 46 ([]++[]++[pv nb,pv ib,pv tb,pv eb]) f (row nb 3 [.int .i64 (n:Nat)]::row ib 3 [.int .i64 ((o+1:Nat):Int)]::row tb 84 [pv du]::row eb 24 [.int .i64 0]::row du 128 (durN n o a2 a3 a4)::F)
  (fun v g B=>∃rb:Nat,v= .tuple #[]∧g=f∧B=repH rb n o x (qrep n) []::row nb 3 [.int .i64 (n:Nat)]::row ib 3 [.int .i64 ((o+1:Nat):Int)]::row tb 84 [pv du]::row eb 24 [.int .i64 0]::row du 128 (durN n o (pv rb) a3 a4)::F):=by
 unfold pv;refine BK func46 ntmps46 fun base=>?_;apply (qhX);apply (qgs);apply A6 [0,1,2] 8;apply (qdX);apply A7 3;refine AW rfl rfl rfl (rnew_fn f _ x h3 h11 hodd ho) fun rb=>?_;apply (gA);apply (qhX);apply (qdO);apply A6 [4,5,6,7,8] 2;apply (qgO);apply (qkF);apply (gC);apply (qhX);apply (qdO);apply (qke);apply (gC);apply (qhX);apply (qhG);apply (qjH);apply (qhX);apply (qec);exact BA rfl iD ⟨rb,rfl,rfl,rfl⟩
theorem dnew2_fn(htab:TabAt f){db:Nat}(h11:n≤11)(ho:o<n)(hf:Fresh m 0):Fn prog 48 ([]++[]++[pv ib,pv kb,pv tb,pv eb]) f (row ib 3 [.int .i64 ((o+1:Nat):Int)]::row kb 83 [pv db]::row tb 84 [pv du]::row eb 24 [.int .i64 0]::row du 128 (durN n o a2 a3 a4)::diskH db z m::F)
  (fun v g B=>∃(ub cb:Nat) (csv:Value),v= .tuple #[]∧g=f∧B=row ub 200 (usgC cb ((o+1:Nat):Int) 0 (.slice none 0 0))::row cb 268 (cellC db 0 csv 0)::row ib 3 [.int .i64 ((o+1:Nat):Int)]::row kb 83 [pv db]::row tb 84 [pv du]::row eb 24 [.int .i64 0]::row du 128 (durN n o a2 (pv ub) a4)::diskH db z m::F):=by
 have hun:=fun G=>unew_fn f G htab (db:=db) (z:=z) (m:=m) (i:=((o+1:Nat):Int)) jB jB hf;unfold pv
 refine BK func48 ntmps48 fun base=>?_;apply (qhm);apply (qgs);apply A6 [0,1,2] 8;apply (qdX);apply A7 3;apply (qeD);refine H.cl (hun _) fun v f' A' hr=>?_;obtain⟨ub,cb,csv,rfl,hff,rfl⟩:=hr;rw[hff];clear hff;apply (gA);apply (qhm);apply (qdO);apply A6 [4,5,6,7,8] 2;apply (qgO);apply (qkF);apply (gC);apply (qhm);apply (qdO);apply (qke);apply (gC);apply (qhm);apply (qhG);apply (qeD);apply (qjH);apply (qhm);apply (qdL);apply (qfp);exact BA rfl iD ⟨ub,cb,csv,rfl,rfl,rfl⟩
theorem dnew3_fn{db:Nat}(hf:Fresh m 20)(h0:dget m 40=fun _=>0)(hz:z≤900):Fn prog 50 ([]++[]++[pv kb,pv tb,pv qb,pv eb]) f (row kb 83 [pv db]::row tb 84 [pv du]::row qb 147 [.slice none 0 0]::row eb 24 [.int .i64 0]::row du 128 (durN n o a2 a3 a4)::diskH db z m::F)
  (fun v g B=>∃(bb:Nat) (m':DM),v= .tuple #[]∧g=f∧B=row bb 210 (bookC db 40 8212 1 0)::row kb 83 [pv db]::row tb 84 [pv du]::row qb 147 [.slice none 0 0]::row eb 24 [.int .i64 0]::row du 128 (durN n o a2 a3 (pv bb))::diskH db 0 m'::F):=by
 have hbo:=fun G=>bopen_fn f G (db:=db) (z:=z) (m:=m) hf h0 hz;unfold pv
 refine BK func50 ntmps50 fun base=>?_;apply (qdF);apply (qef);apply (qex);apply A6 [0,1] 10;apply (qdX);apply A7 2;apply (qeD);refine H.cl (hbo _) fun v f' A' hr=>?_;obtain⟨bb,m',rfl,hff,rfl⟩:=hr;rw[hff];clear hff;apply (qjd);apply (qgY);apply A6 [3,4,5,6,7,8] 3;apply (qgO);apply (qkF);apply (gC);apply (qdF);apply (qgY);apply (qke);apply (gC);apply (qdF);apply (qgY);apply A7 11;apply (gC);apply (qdF);apply (qgY);refine AN ?_;apply (qeD);apply (qjH);apply (qdR);apply (qdF);apply (qef);apply (qeS);exact BA rfl iD ⟨bb,m',rfl,rfl,rfl⟩
theorem dreplay_fn:Fn prog 53 [pv du,.slice none 0 0] f F (Ret (.int .i64 0) f F):=by
 unfold pv;refine A9 func53 ntmps53 fun base=>?_;apply (gK);refine AF (ι:=Unit) (fun _=>[(11,.int .i64 0),(10,.int .i64 0)]) (fun _=>f) (fun _=>F) (fun _=>True) (fun _=>0) () trivial fun s _=>?_;apply (gE);exact qad
theorem dnew4_fn:Fn prog 52 ([]++[]++[pv tb,pv qb,pv eb]) f (row tb 84 [pv du]::row qb 147 [.slice none 0 0]::row eb 24 [.int .i64 0]::F)
  (Ret (.tuple #[]) f (row tb 84 [pv du]::row qb 147 [.slice none 0 0]::row eb 24 [.int .i64 0]::F)):=by
 have hre:=fun G=>dreplay_fn f G (du:=du);unfold pv at hre⊢
 refine AP func52 ntmps52 fun base=>?_;apply (gO);apply A5 (hre _);apply (gC);exact qan
theorem dlast_fn(h11:n≤11)(ho:o<n):Fn prog 55 [pv du] f (row du 128 (durC n o rb ub bb)::row ub 200 (usgC cb ((o+1:Nat):Int) 0 sv)::repH rb n o x (qrep n) []::F)
  (Ret (.int .i64 0) f (row du 128 (durC n o rb ub bb)::row ub 200 (usgC cb ((o+1:Nat):Int) 0 sv)::repH rb n o x (qrep n) []::F)):=by
 have hul:=fun G=>ulast_fn f G (ub:=ub) (cb:=cb) (sv:=sv) (i:=((o+1:Nat):Int));have hkn:=fun G=>rknown_fn f G (rb:=rb) (o:=o) (x:=x) (ws:=[]) (qrep_inv (n:=n))
 have hz:qnI (qrep n).kn=fun _=>0:=by funext i;unfold qnI;rw[qrep_kn];rfl
 rw[hz]at hkn;unfold pv;refine AB func55 ntmps55 fun base=>?_;apply (gO);apply (qfp);apply A5 (hul _);apply (gO);refine (qfv) fun tg=>?_;apply (gG);refine AC (ls:=zb 32) (vs:=b32 fun _=>0) (ls':=b32 fun _=>0) rfl rfl rfl (zaa rfl) rfl rfl (Nat.le_refl 32) jA ?_;apply (gA);apply (qeY);apply (qea);apply A6 [0,1,2,3,5,6,7,8,9] 3;apply (qfq);apply A7 4;apply (qec);apply A5 (hkn _);apply (gA);apply (qeY);apply (qdO);apply A6 [10,11] 0;refine FS (xs:=v11 fun _=>0) (i:=o) rfl rfl rfl jB jB rfl (zbq _ jB) rfl ?_;apply (qdP);apply (gP);apply A4 (row tg _ _);apply (qec);apply (qfp);apply (qeY);exact qad
theorem dnew5_fn(h11:n≤11)(ho:o<n):Fn prog 54 ([]++[]++[pv tb,pv eb]) f (row tb 84 [pv du]::row eb 24 [.int .i64 0]::row du 128 (durC n o rb ub bb)::row ub 200 (usgC cb ((o+1:Nat):Int) 0 sv)::repH rb n o x (qrep n) []::F)
  (Ret (.tuple #[]) f (row tb 84 [pv du]::row eb 24 [.int .i64 0]::row du 128 (durC n o rb ub bb)::row ub 200 (usgC cb ((o+1:Nat):Int) 0 sv)::repH rb n o x (qrep n) []::F)):=by
 have hla:=fun G=>dlast_fn f G (du:=du) (rb:=rb) (ub:=ub) (cb:=cb) (bb:=bb) (x:=x) (sv:=sv) h11 ho;unfold pv at hla⊢
 refine A9 func54 ntmps54 fun base=>?_;apply (qkh);apply (qfp);apply (qeY);apply A5 (hla _);apply (gC);apply (qel);apply (qdF);exact qan
structure NWI where
 rb:Nat
 ub:Nat
 cb:Nat
 csv:Value
 bb:Nat
 m:DM
def nwD(n o:Nat)(x:UInt8)(db z:Nat)(m:DM)(s:NWI):Nat→List HP
 |0=>[diskH db z m]
 |1=>[repH s.rb n o x (qrep n) [],diskH db z m]
 |2=>[row s.ub 200 (usgC s.cb ((o+1:Nat):Int) 0 (.slice none 0 0)),row s.cb 268 (cellC db 0 s.csv 0),repH s.rb n o x (qrep n) [],diskH db z m]
 |_=>[row s.bb 210 (bookC db 40 8212 1 0),row s.ub 200 (usgC s.cb ((o+1:Nat):Int) 0 (.slice none 0 0)),row s.cb 268 (cellC db 0 s.csv 0),repH s.rb n o x (qrep n) [],diskH db 0 s.m]
def nwE(n o:Nat)(s:NWI):Nat→List Value
 |0=>durN n o pn0 pn0 pn0
 |1=>durN n o (pv s.rb) pn0 pn0
 |2=>durN n o (pv s.rb) (pv s.ub) pn0
 |_=>durN n o (pv s.rb) (pv s.ub) (pv s.bb)
def nwF(nb ib kb tb qb eb:Nat):List Value:=[.func (.func 46) #[] #[pv nb,pv ib,pv tb,pv eb],.func (.func 48) #[] #[pv ib,pv kb,pv tb,pv eb],.func (.func 50) #[] #[pv kb,pv tb,pv qb,pv eb],.func (.func 52) #[] #[pv tb,pv qb,pv eb],.func (.func 54) #[] #[pv tb,pv eb]]
theorem ddnew_fn(htab:TabAt f){db:Nat}(x:UInt8)(h3:3≤n)(h11:n≤11)(hodd:n % 2=1)(ho:o<n)(hf0:Fresh m 0)(hf20:Fresh m 20)(h0:dget m 40=fun _=>0)(hz:z≤900):Fn prog 31 [.int .i64 (n:Nat),.int .i64 ((o+1:Nat):Int),pv db] f (diskH db z m::F)
  (RetE (fun du:Nat=>.tuple #[pv du,.int .i64 0]) f (fun du=>durH du db n o x (qrep n)::F)):=by
 unfold pv;refine AP func31 ntmps31 fun base=>?_;apply (gA);refine H.box (ls:=[.int .i64 (n:Nat)]) rfl rfl rfl rfl fun nb=>?_;refine H.box (ls:=[.int .i64 ((o+1:Nat):Int)]) rfl rfl rfl rfl fun ib=>?_;refine H.box (ls:=[pv db]) rfl rfl rfl rfl fun kb=>?_;unfold pv;apply (gT);refine H.box (ls:=durN n o pn0 pn0 pn0) rfl rfl rfl rfl fun du=>?_;refine (qgG) fun tb=>?_;apply (gC);refine (qhe) fun qb=>?_;apply (gA);refine (qfW) fun eb=>?_;apply (gO);refine AS (out:=nwF nb ib kb tb qb eb) rfl rfl rfl rfl jE jE jD rfl fun sb=>?_;apply (gK);apply (qdY)
 refine AF (ι:=Nat×NWI) (fun s=>[(26,.int .i64 (s.1:Nat)),(25,.int .i64 5),(24,.slice (some ⟨sb,0,none⟩) 5 5),(8,pv tb),(10,pv eb)]) (fun _=>f)
  (fun s=>row nb 3 [.int .i64 (n:Nat)]::row ib 3 [.int .i64 ((o+1:Nat):Int)]::row kb 83 [pv db]::row tb 84 [pv du]::row qb 147 [.slice none 0 0]::row eb 24 [.int .i64 0]::row du 128 (nwE n o s.2 s.1)::row sb 1 (nwF nb ib kb tb qb eb)::(nwD n o x db z m s.2 s.1++F))
  (fun s=>s.1≤5) (fun s=>5-s.1) (0,⟨0,0,0,.int .i64 0,0,m⟩) (Nat.zero_le _) fun s hs=>?_
 obtain⟨i,rb,ub,cb,csv,bb,mm⟩:=s;have hs:i≤5:=hs;rcases(show i=0∨i=1∨i=2∨i=3∨i=4∨i=5 by omega)with rfl|rfl|rfl|rfl|rfl|rfl
 ·show H _ _ _ [(26,.int .i64 0),_,_,(8,.pointer (some ⟨tb,0,none⟩)),(10,.pointer (some ⟨eb,0,none⟩))] f (row nb _ _::row ib _ _::row kb _ _::row tb _ [.pointer (some ⟨du,0,none⟩)]::row qb _ _::row eb _ _::row du _ (durN n o pn0 pn0 pn0)::row sb _ _::diskH _ _ _::F) _;apply (qhv);apply (gO);apply (qjH);apply (qhX);refine BQ (fs:=[]) (cs:=[pv nb,pv ib,pv tb,pv eb]) rfl rfl rfl rfl (dnew1_fn f _ x h3 h11 hodd ho) fun v f' A' hR=>?_;obtain⟨rb,rfl,hff,rfl⟩:=hR;rw[hff];clear hff;unfold pv;apply (gT);apply (qeD);apply (qec);apply (qdY);exact AI (1,⟨rb,ub,cb,csv,bb,mm⟩) (show 1≤5 by decide) (show 5-1<5-0 by decide)
 ·show H _ _ _ [(26,.int .i64 1),_,_,(8,.pointer (some ⟨tb,0,none⟩)),(10,.pointer (some ⟨eb,0,none⟩))] f (row nb _ _::row ib _ _::row kb _ _::row tb _ [.pointer (some ⟨du,0,none⟩)]::row qb _ _::row eb _ _::row du _ (durN n o (pv rb) pn0 pn0)::row sb _ _::repH _ _ _ _ _ _::diskH _ _ _::F) _;apply (gP);refine B7 (i:=1) rfl rfl rfl rfl jE rfl ?_;apply (gO);apply (qeD);apply (qjH);apply (qhm);refine BQ (fs:=[]) (cs:=[pv ib,pv kb,pv tb,pv eb]) rfl rfl rfl rfl (dnew2_fn f _ htab h11 ho hf0) fun v f' A' hR=>?_;obtain⟨ub,cb,csv,rfl,hff,rfl⟩:=hR;rw[hff];clear hff;unfold pv;apply (gT);apply (qeD);apply (qec);apply (qdL);apply (qfp);apply (qdY);exact AI (2,⟨rb,ub,cb,csv,bb,mm⟩) (show 2≤5 by decide) (show 5-2<5-1 by decide)
 ·show H _ _ _ [(26,.int .i64 2),_,_,(8,.pointer (some ⟨tb,0,none⟩)),(10,.pointer (some ⟨eb,0,none⟩))] f (row nb _ _::row ib _ _::row kb _ _::row tb _ [.pointer (some ⟨du,0,none⟩)]::row qb _ _::row eb _ _::row du _ (durN n o (pv rb) (pv ub) pn0)::row sb _ _::row ub _ _::row cb _ _::repH _ _ _ _ _ _::diskH _ _ _::F) _;apply (gP);refine B7 (i:=2) rfl rfl rfl rfl jE rfl ?_;apply (gO);apply (qeD);apply (qjH);apply (qdR);apply (qdF);apply (qef);refine BQ (fs:=[]) (cs:=[pv kb,pv tb,pv qb,pv eb]) rfl rfl rfl rfl (dnew3_fn f _ hf20 h0 hz) fun v f' A' hR=>?_;obtain⟨bb,mm,rfl,hff,rfl⟩:=hR;rw[hff];clear hff;unfold pv;apply (qhb);exact AI (3,⟨rb,ub,cb,csv,bb,mm⟩) (show 3≤5 by decide) (show 5-3<5-2 by decide)
 ·show H _ _ _ [(26,.int .i64 3),_,_,(8,.pointer (some ⟨tb,0,none⟩)),(10,.pointer (some ⟨eb,0,none⟩))] f (row nb _ _::row ib _ _::row kb _ _::row tb _ [.pointer (some ⟨du,0,none⟩)]::row qb _ _::row eb _ _::row du _ (durN n o (pv rb) (pv ub) (pv bb))::row sb _ _::row bb _ _::row ub _ _::row cb _ _::repH _ _ _ _ _ _::diskH _ _ _::F) _;apply (gP);refine B7 (i:=3) rfl rfl rfl rfl jE rfl ?_;apply (gO);apply (qel);apply (qdR);apply (qdF);refine BQ (fs:=[]) (cs:=[pv tb,pv qb,pv eb]) rfl rfl rfl rfl (dnew4_fn f _) fun v f' A' hR=>?_;obtain⟨rfl,hff,rfl⟩:=hR;rw[hff];clear hff;unfold pv;apply (qhb);exact AI (4,⟨rb,ub,cb,csv,bb,mm⟩) (show 4≤5 by decide) (show 5-4<5-3 by decide)
 ·show H _ _ _ [(26,.int .i64 4),_,_,(8,.pointer (some ⟨tb,0,none⟩)),(10,.pointer (some ⟨eb,0,none⟩))] f (row nb _ _::row ib _ _::row kb _ _::row tb _ [.pointer (some ⟨du,0,none⟩)]::row qb _ _::row eb _ _::row du _ (durN n o (pv rb) (pv ub) (pv bb))::row sb _ _::row bb _ _::row ub _ _::row cb _ _::repH _ _ _ _ _ _::diskH _ _ _::F) _;apply (gP);refine B7 (i:=4) rfl rfl rfl rfl jE rfl ?_;apply (qkh);apply (qfp);apply (qjH);apply (qdF);refine BQ (fs:=[]) (cs:=[pv tb,pv eb]) rfl rfl rfl rfl (dnew5_fn f _ (rb:=rb) (ub:=ub) (bb:=bb) h11 ho) fun v f' A' hR=>?_;obtain⟨rfl,hff,rfl⟩:=hR;rw[hff];clear hff;unfold pv;apply (qhb);exact AI (5,⟨rb,ub,cb,csv,bb,mm⟩) (show 5≤5 by decide) (show 5-5<5-4 by decide)
 ·have hz0:qnth (qrep n).kn o=0:=by rw[qrep_kn]
  have hfo:=fun G=>zbt (du:=du) (db:=db) (o:=o) (x:=x) (F:=G) (r:=qrep n) ⟨rb,ub,cb,bb,.slice none 0 0,csv,0,0,40,1,mm⟩ ⟨qrep_inv,Nat.zero_le _,Nat.zero_le _,Nat.le_refl _⟩;unfold durB at hfo
  rw[hz0]at hfo;show H _ _ _ [(26,.int .i64 5),_,_,(8,.pointer (some ⟨tb,0,none⟩)),(10,.pointer (some ⟨eb,0,none⟩))] f (row nb _ _::row ib _ _::row kb _ _::row tb _ [.pointer (some ⟨du,0,none⟩)]::row qb _ _::row eb _ _::row du _ (durN n o (pv rb) (pv ub) (pv bb))::row sb _ _::row bb _ _::row ub _ _::row cb _ _::repH _ _ _ _ _ _::diskH _ _ _::F) _;apply (gT);apply (qiO);apply A4 (row ib _ _);apply (qhh);apply (qeG);apply (qfs);apply (qeZ);apply (qkw);apply (qhf);refine H.imp (hfo _) ?_;exact BN rfl rfl rfl iD ⟨du,rfl,rfl,rfl⟩
end
def qP(x:UInt8)(p:Bool)(j:Nat):Req:=if p=true then qS x (j+1)else Req.zero
def cF(cl:List (Bool×List Bool))(j:Nat):Bool×List Bool:=cl.getD j (false,[])
def rF(rs:List QR)(o:Nat):QR:=rs.getD o (qrep 0)
def tmF(asked j:Nat):Int:=if j<asked then 1 else 0
def siteH(sb n o:Nat)(x:UInt8)(r:QR):HP:=pack (fun _:Nat×Nat=>True) (fun i=>[row sb 86 [pv i.1,pv i.2],durH i.2 i.1 n o x r])
def siteF(n:Nat)(x:UInt8)(sb:Nat→Nat)(rs:List QR)(o:Nat):HP:=siteH (sb o) n o x (rF rs o)
def cliF(n:Nat)(x:UInt8)(ca:Nat→Nat)(asked:Nat)(cl:List (Bool×List Bool))(j:Nat):HP:=row (ca j) 141 (cliC n ((j+1:Nat):Int) (tmF asked j) (cF cl j).1 (qP x (cF cl j).1 j) (cF cl j).2)
structure CLI where
 sp:Option Addr
 sc:Nat
 nb:Nat
 sb:Nat→Nat
 ca:Nat→Nat
def cluC(m:Nat)(i:CLI)(now:Nat):List Value:=[.slice i.sp m i.sc,pv (i.ca 0),pv (i.ca 1),pv (i.ca 2),pv (i.ca 3),pv (i.ca 4),pv (i.ca 5),pv (i.ca 6),pv (i.ca 7),pv i.nb,.int .u64 (now:Nat)]
def sitL(n:Nat)(i:CLI):HP:=slc i.sp n i.sc 81 1 (((List.range n).map i.sb).flatMap ptrV)
structure CInv(n asked:Nat)(w:QW):Prop where
 wn:w.n=n
 rl:w.rs.length=n
 cl:w.cl.length=8
 ch:∀j,j<8→(cF w.cl j).2.length=11∧((cF w.cl j).1=true→j<asked)
 now:w.now≤200000
def cluB(cb n asked:Nat)(x:UInt8)(w:QW)(i:CLI):List HP:=[row cb 107 (cluC n i w.now),sitL n i,fam (siteF n x i.sb w.rs) n,fam (cliF n x i.ca asked w.cl) 8,netQ i.nb (w.net.map (coreQ x))]
def cluH(cb n asked:Nat)(x:UInt8)(w:QW):HP:=pack (fun _:CLI=>CInv n asked w) (cluB cb n asked x w)
theorem zbc{asked:Nat}{w:QW}(i:CLI)(h:CInv n asked w):∀z,stars (cluB cb n asked x w i++F) z→stars (cluH cb n asked x w::F) z:=zap i h
theorem zbx{sb db:Nat}:∀z,stars (row sb 86 [pv db,pv du]::durH du db n o x r::F) z→stars (siteH sb n o x r::F) z:=
 zap (φ:=fun _:Nat×Nat=>True) (B:=fun i=>[row sb 86 [pv i.1,pv i.2],durH i.2 i.1 n o x r]) (db,du) trivial
theorem rF_set{rs:List QR}(h:o<rs.length)(r:QR)(n:Nat)(x:UInt8)(sb:Nat→Nat):updF (siteF n x sb rs) o (siteH (sb o) n o x r)=siteF n x sb (rs.set o r):=by
 funext j;unfold updF siteF rF;by_cases e:j=o
 ·exact qcQ
 ·exact qcv
theorem rF_get{rs:List QR}(h:rs[o]?=some r):rF rs o=r:=by
 unfold rF;rw[List.getD_eq_getElem?_getD,h];rfl
variable {j:Nat}
theorem cluC_ca{i:CLI}(h:j<8):(cluC n i now)[1+j]?=some (pv (i.ca j)):=by
 match j,h with
 |0,_=>rfl
 |1,_=>rfl
 |2,_=>rfl
 |3,_=>rfl
 |4,_=>rfl
 |5,_=>rfl
 |6,_=>rfl
 |7,_=>rfl
variable {t:Int} {h:List Bool}
section
variable (f:Frag) (F:List HP)
theorem clsite_fn{i:CLI}(h11:n≤11)(ho:o<n):Fn prog 23 [pv cb,.int .i64 ((o+1:Nat):Int)] f (row cb 107 (cluC n i now)::sitL n i::F) (Ret (pv (i.sb o)) f (row cb 107 (cluC n i now)::sitL n i::F)):=by
 obtain⟨sp,sc,nb,sb,ca⟩:=i
 have hat:(((List.range n).map sb).flatMap ptrV)[o]?=some (.pointer (some ⟨sb o,0,none⟩)):=qaY
 show Fn _ _ _ f (row cb _ (cluC n ⟨sp,sc,nb,sb,ca⟩ now)::slc sp n sc _ 1 _::F) _;unfold pv;refine A9 func23 ntmps23 fun base=>?_;refine AO (p:=sp) (n0:=n) (c:=sc) (T:=81) (sz:=1) jA jB fun pb hp=>?_;subst hp;apply (gS);refine B7 (i:=o) rfl rfl rfl jB ho rfl ?_;refine AL (v:=.pointer (some ⟨sb o,0,none⟩)) rfl rfl rfl (by rw[Nat.mul_one];exact Rd1.of (i:=o) (off:=0) (Rd.ofSlc jA jB) hat) rfl ?_;apply (gK);exact qad
theorem clclient_fn{i:CLI}(hj:j<8):Fn prog 33 [pv cb,.int .i64 ((j+1:Nat):Int)] f (row cb 107 (cluC n i now)::F) (Ret (pv (i.ca j)) f (row cb 107 (cluC n i now)::F)):=by
 have hat:=cluC_ca (n:=n) (now:=now) (i:=i) hj;unfold pv at hat⊢
 refine A9 func33 ntmps33 fun base=>?_;apply (gS);refine CI (i:=j) rfl rfl rfl jB hj rfl ?_;refine AL (v:=.pointer (some ⟨i.ca j,0,none⟩)) rfl rfl rfl (by rw[Nat.mul_one,Nat.add_assoc];exact Rd1.of (off:=0) (Rd.ofRow jA) hat) rfl ?_;apply (gK);exact qad
theorem drepl_fn:Fn prog 24 [pv du] f (row du 128 (durC n o rb ub bb)::F) (Ret (pv rb) f (row du 128 (durC n o rb ub bb)::F)):=by
 unfold pv;refine AB func24 ntmps24 fun base=>?_;apply (gT);exact qad
theorem clrep_fn{db:Nat}{i:CLI}{k:DU}(h11:n≤11)(ho:o<n):Fn prog 11 [pv cb,.int .i64 ((o+1:Nat):Int)] f (row cb 107 (cluC n i now)::sitL n i::row (i.sb o) 86 [pv db,pv du]::(durB du db n o x r k++F))
  (Ret (.tuple #[pv k.rb,.bool true]) f (row cb 107 (cluC n i now)::sitL n i::row (i.sb o) 86 [pv db,pv du]::(durB du db n o x r k++F))):=by
 have hsi:=fun G=>clsite_fn f G (cb:=cb) (now:=now) (i:=i) h11 ho;have hre:=fun G=>drepl_fn f G (du:=du) (n:=n) (o:=o) (rb:=k.rb) (ub:=k.ub) (bb:=k.bb)
 show Fn _ _ _ f (row cb _ _::sitL n i::row (i.sb o) _ _::row du _ (durC n o k.rb k.ub k.bb)::_::_::_::_::_::F) _;unfold pv at hsi hre⊢;refine A9 func11 ntmps11 fun base=>?_;apply (gG);apply A5 (hsi _);apply (gS);apply (qeY);apply A5 (hre _);apply (gK);apply (qhp);apply A3 (sitL n i);apply (qdL);exact qaO
theorem clunder_fn{cs:List Core}{i:CLI}:Fn prog 76 [pv cb] f (row cb 107 (cluC n i now)::netQ i.nb cs::F) (Ret (.int .i64 (cs.length:Nat)) f (row cb 107 (cluC n i now)::netQ i.nb cs::F)):=by
 have hle:=fun G=>netLen0_fn f G (nb:=i.nb) (cs:=cs);unfold pv
 refine AB func76 ntmps76 fun base=>?_;apply (gT);apply (qjk);apply A5 (hle _);apply (gK);apply (qdL);exact qad
theorem clpend_fn{a:Int}{p:Bool}{q:Req}{i:CLI}(hj:j<8):Fn prog 75 [pv cb,.int .i64 ((j+1:Nat):Int)] f (row cb 107 (cluC n i now)::row (i.ca j) 141 (cliC n a t p q h)::F)
  (Ret (.tuple #[.agg q.vals.toArray,.bool p]) f (row cb 107 (cluC n i now)::row (i.ca j) 141 (cliC n a t p q h)::F)):=by
 have hcl:=fun G=>clclient_fn f G (cb:=cb) (n:=n) (now:=now) (i:=i) hj;have hpe:=fun G=>cliPend_fn f G (cb:=i.ca j) (n:=n) (a:=a) (t:=t) (p:=p) (q:=q) (h:=h)
 unfold pv at hcl⊢;refine A9 func75 ntmps75 fun base=>?_;apply (gA);refine (qfh) fun ob=>?_;apply (gG);apply (qdL);apply A5 (hcl _);apply A3 (row (i.ca j) _ _);apply A5 (hpe _);apply (gO);apply (qja);apply (gK);apply A3 (row (i.ca j) _ _);apply (qdL);apply (qed);exact qci
def hearP(n j:Nat)(p:Bool)(h:List Bool):Bool×List Bool×Bool:=if p=false then(false,h,false)else if h.getD j true=true then(true,h,false)else(Nat.ble (qtrue (h.set j true)) (n / 2),h.set j true,Nat.blt (n / 2) (qtrue (h.set j true)))
theorem cliHearQ_fn{p:Bool}(hj:j<n)(hn:n≤11)(hl:h.length=11)(ht:p=true→t=1):Fn prog 171 [pv cb,.int .i64 ((j+1:Nat):Int),.agg (toldV ((c+1:Nat):Int)).toArray] f (row cb 141 (cliC n ((c+1:Nat):Int) t p (qP x p c) h)::F)
  (Ret (.tuple #[.agg rep0.toArray,.bool (hearP n j p h).2.2]) f (row cb 141 (cliC n ((c+1:Nat):Int) t (hearP n j p h).1 (qP x (hearP n j p h).1 c) (hearP n j p h).2.1)::F)):=by
 unfold hearP
 cases p with
 |false=>rw[if_pos rfl];exact cliHear0_fn f F hj hn
 | true =>
  rw[if_neg jE,ht rfl];have hat:h[j]?=some (h.getD j true):=by rw[List.getD_eq_getElem?_getD,List.getElem?_eq_getElem jB];rfl
  cases hg:h.getD j true with
  | true =>
   rw[hg]at hat;rw[if_pos rfl];exact cliHear1_fn f F hj hn hat
  | false =>
   rw[hg]at hat;rw[if_neg jE];by_cases hc:qtrue (h.set j true)≤n / 2
   ·have e1:Nat.ble (qtrue (h.set j true)) (n / 2)=true:=Nat.ble_eq_true_of_le hc;have e2:Nat.blt (n / 2) (qtrue (h.set j true))=false:=by rw[←Bool.not_eq_true,Nat.blt_eq];omega
    rw[e1,e2];exact cliHear2_fn f F hj hn hl hat hc
   ·have e1:Nat.ble (qtrue (h.set j true)) (n / 2)=false:=by rw[←Bool.not_eq_true,Nat.ble_eq];exact hc
    have e2:Nat.blt (n / 2) (qtrue (h.set j true))=true:=blt_t jB;rw[e1,e2]
    exact cliHear3_fn f F hj hn hl hat jB
def ansZ(e:Int)(p:Option Addr)(k c:Nat):List Value:=[.int .i64 e]++Req.zero.vals++msgZ.vals none 0++[.slice p k c]
def accH(p:Option Addr)(c:Nat)(acc:List Nat):HP:=slc p acc.length c 80 5 (toldC acc)
theorem clhear_fn{e:Int}{p:Bool}{i:CLI}{ap:Option Addr}{ac:Nat}{acc:List Nat}(hj:j<n)(hn:n≤11)(hc:c<8)(hl:h.length=11)(ht:p=true→t=1)(hal:acc.length≤1000):Fn prog 113 [pv cb,pv ab,.int .i64 ((j+1:Nat):Int),.agg (toldV ((c+1:Nat):Int)).toArray] f (row cb 107 (cluC n i now)::row (i.ca c) 141 (cliC n ((c+1:Nat):Int) t p (qP x p c) h)::row ab 44 (ansZ e ap acc.length ac)::accH ap ac acc::F)
   (fun v g B=>∃(ap':Option Addr) (ac':Nat),g=f∧B=row cb 107 (cluC n i now)::row (i.ca c) 141 (cliC n ((c+1:Nat):Int) t (hearP n j p h).1 (qP x (hearP n j p h).1 c) (hearP n j p h).2.1)::row ab 44 (ansZ e ap' (acc++(if(hearP n j p h).2.2=true then [c+1]else [])).length ac')::accH ap' ac' (acc++(if(hearP n j p h).2.2=true then [c+1]else []))::F):=by
 have hcl:=fun G=>clclient_fn f G (cb:=cb) (n:=n) (now:=now) (i:=i) hc;have hhe:=fun G=>cliHearQ_fn f G (cb:=i.ca c) (n:=n) (j:=j) (c:=c) (t:=t) (p:=p) (x:=x) (h:=h) hj hn hl ht
 generalize hearP n j p h=hp at hhe⊢;obtain⟨p',h',b⟩:=hp;show Fn _ _ _ _ (_::_::row ab _ _::slc ap acc.length ac _ 5 (toldC acc)::F) _;unfold pv at hcl hhe⊢;refine BK func113 ntmps113 fun base=>?_;apply (gA);refine H.box (ls:=toldV ((c+1:Nat):Int)) rfl rfl rfl rfl fun tb=>?_;apply (gA)
 refine H.cut (ι:=Nat) (fun ob=>[(9,.bool b),(7,pv tb),(1,pv ab)]) (fun _=>f)
  (fun ob=>row ob 51 rep0::row tb 136 (toldV ((c+1:Nat):Int))::row cb 107 (cluC n i now)::row (i.ca c) 141 (cliC n ((c+1:Nat):Int) t p' (qP x p' c) h')::row ab 44 (ansZ e ap acc.length ac)::slc ap acc.length ac 80 5 (toldC acc)::F) (fun _=>True) _ (fun ob _=>?_) ?_
 ·show H _ _ _ [_,(7,.pointer (some ⟨tb,0,none⟩)),(1,.pointer (some ⟨ab,0,none⟩))] f (row ob _ _::row tb _ _::_::_::row ab _ _::slc ap _ ac _ _ _::F) _
  cases b with
  | false =>
   apply (gE);apply (qgT);apply (qeG);exact BA rfl iD ⟨ap,ac,rfl,by rw[if_neg (show¬((false:Bool)=true) by decide),List.append_nil];rfl⟩
  | true =>
   apply (gR);apply (qdF);apply (qeR);refine H.dc [0,1,2,3,4,5,6,7,8,9,10,11,12,13,14,15] (S:=[_,_]) rfl ?_;apply A6 [0,1,2,3,4,5,6,7,8,9,10,11,12,13] 5;apply (gF);refine AH (ls:=rep0) rfl rfl rfl (Rd.sub (pre:=[.int .i64 ((c+1:Nat):Int),.int .u64 1]) (post:=[.int .u64 ((c+1:Nat):Int)]) (Rd.ofRow jA) rfl) rfl rfl ?_;apply (qfq);apply A7 14;refine AS (out:=toldV ((c+1:Nat):Int)) rfl rfl rfl rfl jE jE jD rfl fun eb=>?_;apply (qjd);apply (qeR);apply (qdO);apply A7 15;refine AQ (sz:=5) (p:=ap) (n0:=acc.length) (c:=ac) (xs:=toldC acc) (m:=1) (news:=toldV ((c+1:Nat):Int)) rfl rfl rfl rfl rfl (fun p' c'=>jA) (Src.slice (Rd.ofRow jA) rfl) (zaa rfl) rfl jB jB fun ap2 ac2=>?_;apply (qeZ);apply (qjd);apply (qeR);apply (qdO);apply (qeJ);apply A6 [16,17] 1;apply (qdX);apply A7 18;apply (qeI);have e1:toldC acc++toldV ((c+1:Nat):Int)=toldC (acc++[c+1]):=by unfold toldC;rw[List.flatMap_append];simp
   rw[e1,show acc.length+1=(acc++[c+1]).length by simp];apply (qgT);apply (qeG);apply A3 (slc ap2 _ _ _ _ _);apply (qeR);apply A3 (row (i.ca c) _ _);apply (qdL);exact BA rfl iD ⟨ap2,ac2,rfl,by rw[if_pos rfl];rfl⟩
 ·apply (qdF);apply (qea);apply A6 [0,1,2,4,5] 8;apply (gF);refine AH (ls:=toldV ((c+1:Nat):Int)) rfl rfl rfl (Rd.ofRow jA) rfl rfl ?_;apply (qdG);refine B9 (i:=3) (j:=10) jD rfl rfl ?_ ?_
  ·apply (qdL);apply A5 (hcl _);apply (qgD);refine B9 (i:=6) (j:=10) jD rfl rfl ?_ ?_
   ·apply A3 (row (i.ca c) _ _);apply A5 (hhe _);apply (qgD);apply A6 [7,8,9] 3;apply (qfa);apply (qke);refine (qhP) fun ob=>?_;apply (qgD);exact qaq
   ·refine (qhP) fun ob=>?_;exact qaP
  ·refine (qhP) fun ob=>?_;apply (qgD);apply A7 3;apply (qdL);apply A5 (hcl _);exact qaP
end
def opZ:List Value:=[.int .u8 0,.string .empty,.string .empty,.string .empty,.string .empty,.int .u64 0]
def stpL(d:Nat)(cl who nn:Int)(op:List Value):List Value:=[.int .u8 (d:Nat),.int .i64 cl,.int .i64 who,.int .i64 0,.int .i64 0,.int .i64 nn]++op++bodZ++Pkt.zero.vals++[.int .u64 0]++rep0++[.int .u64 0,.slice none 0 0]
theorem cF_site(n:Nat)(x:UInt8)(sb:Nat→Nat)(rs:List QR)(o:Nat):siteF n x sb rs o=siteH (sb o) n o x (rF rs o):=rfl
variable {d:Nat} {who nn:Int} {g:FuncId}
section
variable (f:Frag) (F:List HP)
theorem clheal_fn{asked:Nat}{w:QW}{cl:Int}:Fn prog 65 [pv cb,.agg (stpL d cl who nn opZ).toArray,pv ab] f (cluH cb n asked x w::F) (Ret (.tuple #[]) f (cluH cb n asked x w::F)):=by
 refine (qfu) fun i hw=>?_;apply (qgf);have hhe:=fun G=>netHeal0_fn f G (nb:=i.nb) (cs:=w.net.map (coreQ x));unfold pv at hhe⊢
 refine AP func65 ntmps65 fun base=>?_;refine (qjm) fun tb=>?_;apply (gO);apply (qjk);apply A5 (hhe _);apply (gA);apply (qeG);exact qbh
theorem cltime_fn{asked:Nat}{w:QW}{cl:Int}(hnow:w.now≤100000):Fn prog 66 [pv cb,.agg (stpL d cl who 8 opZ).toArray,pv ab] f (cluH cb n asked x w::F) (Ret (.tuple #[]) f (cluH cb n asked x {w with now:=w.now+8}::F)):=by
 refine (qfu) fun i hw=>?_;apply (qgf);unfold pv;refine AP func66 ntmps66 fun base=>?_;apply (gA);refine H.box (ls:=stpL d cl who 8 opZ) rfl rfl rfl rfl fun tb=>?_;apply (gT);apply (qdF);apply (qdL);apply (qkg);apply A6 [0,1,2,3,4,5,6,7,8,9] 3;apply (gM);refine HQ.min2 (z:=((w.now+8:Nat):Int)) rfl rfl rfl (by rw[if_neg jB];omega) rfl ?_;apply (qdG);apply (qeJ);apply A6 [10,11] 1;apply (qdX);apply A7 12;apply (qeI);apply (qeG);apply (qej);refine H.imp (zbc (asked:=asked) (w:={w with now:=w.now+8}) i ⟨hw.wn,hw.rl,hw.cl,hw.ch,by show w.now+8≤200000;omega⟩) ?_;exact qan
theorem clfuse_fn{asked:Nat}{w:QW}{cl:Int}(h11:n≤11)(ho:o<n):Fn prog 67 [pv cb,.agg (stpL d cl ((o+1:Nat):Int) (-1) opZ).toArray,pv ab] f (cluH cb n asked x w::F) (Ret (.tuple #[]) f (cluH cb n asked x w::F)):=by
 refine (qfu) fun i hw=>?_;apply (qgf);have hsi:=fun G=>clsite_fn f G (cb:=cb) (now:=w.now) (i:=i) h11 ho;unfold pv at hsi⊢
 refine AP func67 ntmps67 fun base=>?_;apply (gA);refine H.box (ls:=stpL d cl ((o+1:Nat):Int) (-1) opZ) rfl rfl rfl rfl fun tb=>?_;apply (gO);apply (qhK);apply A5 (hsi _);apply (qgw);refine CA (i:=o) ho ?_;rw[cF_site];refine AM fun⟨db,du⟩ _=>?_;refine (qiB) fun k hφ=>?_;obtain⟨rb,ub,kb,bb,sv,csv,wk,z,nx,life,m⟩:=k;show H _ _ _ _ f (row du _ (durC n o rb ub bb)::repH rb n o x _ []::row ub _ _::row kb _ _::row bb _ _::diskH db z m::row (i.sb o) _ _::_) _;unfold pv;have hpo:=fun G=>dpower_fn f G (db:=db) (z:=z) (m:=m);have hfu:=fun G=>dfuse_fn f G (db:=db) (z:=z) (m:=m)
 apply (gO);apply (qeD);apply A5 (hpo _);repeat(first|(refine H.not (b:=true) (c:=false) rfl rfl rfl rfl ?_)|(apply (gU))|(refine H.max2 (z:=-1) rfl rfl rfl rfl rfl ?_))
 apply A5 (hfu _);apply (gA);apply (qeG);apply (qeS);apply (qef);apply (qdS);apply (qii);refine CH (g:=siteF n x i.sb w.rs) ho ?_;exact qbh
def ansM(e:Int)(l:List Value):List Value:=[.int .i64 e]++Req.zero.vals++l++[.slice none 0 0]
theorem ansM_set(h:l.length=121)(e:Int):splice (ansZ e none 0 0) (0+41) l=ansM e l:=by
 have h1:=splice_pre ([.int .i64 e]++Req.zero.vals) (msgZ.vals none 0++[.slice none 0 0]) l 0
 have e2:splice (msgZ.vals none 0++[.slice none 0 0]) 0 l=l++[.slice none 0 0]:=by
  unfold splice;rw[List.take_zero,Nat.zero_add,h,List.drop_left' (show(msgZ.vals none 0).length=121 from rfl)];simp
 rw[e2]at h1;unfold ansM;rw[List.append_assoc];exact h1
theorem clsay_fn(htab:TabAt f){ub db:Nat}{i:CLI}{cl:Int}(h3:3≤n)(h11:n≤11)(hodd:n % 2=1)(ho:o<n)(hn:now≤4611686018427387904)(hs:qsay n now (o+1) r=some (b,r')):Fn prog 59 [pv cb,.agg (stpL d cl who nn opZ).toArray,pv du,pv ab] f (row cb 107 (cluC n i now)::durH du db n o x r::row ab 44 (ansZ 0 none 0 0)::F)
   (fun v g B=>∃ls:List Value,ls.length=121∧(∀u∈ls,one u=true)∧v= .tuple #[]∧g=f∧B=row cb 107 (cluC n i now)::durH du db n o x r'::row ab 44 (ansM (sayE b) ls)::F):=by
 have hsy:=fun G=>dsay_fn f G htab (du:=du) (db:=db) (x:=x) h3 h11 hodd ho hn hs;unfold pv at hsy⊢
 refine BK func59 ntmps59 fun base=>?_;refine (qjm) fun tb=>?_;apply (gO);apply (qeV);refine H.cl (hsy _) fun v f' A' hr=>?_;obtain⟨ls,hl1,hl2,rfl,hff,rfl⟩:=hr;rw[hff];clear hff;apply (gL);refine AC (ls:=ansZ 0 none 0 0) (vs:=ls) (ls':=ansM 0 ls) rfl rfl rfl hl2 hl1 (ansM_set hl1 0) (by rw[hl1];show 0+41+121≤163;decide) jA ?_;apply (gL);apply (qeG);apply (qeR);apply (qeV);apply (qdL);exact BA rfl iD ⟨ls,hl1,hl2,rfl,rfl,rfl⟩
theorem clup_fn{db:Nat}{i:CLI}{cl:Int}[Fun prog g](h11:n≤11)(ho:o<n)
  (hg:Fn prog g ([]++[pv cb,.agg (stpL d cl ((o+1:Nat):Int) nn opZ).toArray,pv du,pv ab]++cs) f (row cb 107 (cluC n i now)::sitL n i::row (i.sb o) 86 [pv db,pv du]::row ub 158 [.func (.func g) #[] cs.toArray]::F) R) :
  Fn prog 114 ([]++[pv cb,.agg (stpL d cl ((o+1:Nat):Int) nn opZ).toArray,pv ab]++[pv ub]) f (row cb 107 (cluC n i now)::sitL n i::row (i.sb o) 86 [pv db,pv du]::row ub 158 [.func (.func g) #[] cs.toArray]::F)
   (fun v g' B=>v= .tuple #[]∧∃u,R u g' B):=by
 have hsi:=fun G=>clsite_fn f G (cb:=cb) (now:=now) (i:=i) h11 ho;unfold pv at hsi hg⊢
 refine BK func114 ntmps114 fun base=>?_;apply (gA);refine H.box (ls:=stpL d cl ((o+1:Nat):Int) nn opZ) rfl rfl rfl rfl fun tb=>?_;apply (gO);apply (qhK);apply A5 (hsi _);apply (gL);refine AD (ls:=stpL d cl ((o+1:Nat):Int) nn opZ) rfl rfl rfl (Rd.ofRow jA) rfl rfl ?_;apply (gG);apply (qeG);apply (qfp);apply (qfL);refine BQ (fs:=[]) (cs:=cs) rfl rfl rfl rfl hg fun v f' A' hR=>?_;apply (gA);exact BA rfl iD ⟨rfl,v,hR⟩
theorem net_got0(c:Core)(cs:List Core):(⟨c::cs,fun _=>false⟩:NetC).got 0=some c:=rfl
theorem net_took0(c:Core)(cs:List Core):(⟨c::cs,fun _=>false⟩:NetC).took 0=⟨cs,fun _=>false⟩:=rfl
theorem clknown_fn:Fn prog 110 [.bool b] f F (Ret (.int .i64 (if b=true then 0 else 4)) f F):=by
 cases b with
 | false =>
  refine AB func110 ntmps110 fun base=>?_;apply (qeN);exact qad
 | true =>
  refine AB func110 ntmps110 fun base=>?_;exact qcC
theorem cldel_fn(htab:TabAt f){asked:Nat}{w:QW}{ps:List QP}{cl:Int}(h3:3≤n)(h11:n≤11)(hnet:w.net=q::ps)(hr:w.rs[q.to-1]?=some r)(hq:qhear n q r=some r'):Fn prog 61 [pv cb,.agg (stpL d cl who nn opZ).toArray,pv ab] f (row ab 44 (ansZ 0 none 0 0)::cluH cb n asked x w::F)
   (Ret (.tuple #[]) f (row ab 44 (ansZ 0 none 0 0)::cluH cb n asked x (({w with net:=ps}:QW).put q.to r')::F)):=by
 have hh:=qhear_is hq;obtain⟨o,hto⟩:∃o,q.to=o+1:=⟨q.to-1,by have:=hh.t1;omega⟩
 rw[hto,Nat.add_sub_cancel]at hr;rw[hto];refine Fn.front (x:=cluH _ _ _ _ _) (.there _ (.here _ _)) ?_;refine (qfu) fun i hw=>?_
 have ho:o<n:=by
  have:=hw.rl;rcases Nat.lt_or_ge o w.rs.length with h|h
  ·omega
  ·rw[List.getElem?_eq_none h]at hr;cases hr
 show Fn _ _ _ f (row cb _ (cluC n i w.now)::sitL n i::fam (siteF n x i.sb w.rs) n::fam (cliF n x i.ca asked w.cl) 8::netQ i.nb (w.net.map (coreQ x))::row ab _ _::F) _;refine Fn.front (x:=netQ _ _) (.there _ (.there _ (.there _ (.there _ (.here _ _))))) ?_;refine B2 fun⟨g,N⟩ hN0=>?_
 have hN:N.core=⟨coreQ x q::ps.map (coreQ x),fun _=>false⟩:=by
  have h:N.core=⟨w.net.map (coreQ x),fun _=>false⟩:=hN0;rw[hnet,List.map_cons]at h
  exact h
 clear hN0;refine Fn.front (x:=frz g) (.there _ (.here _ _)) ?_;have hgot:=net_got0 (coreQ x q) (ps.map (coreQ x));have htook:=net_took0 (coreQ x q) (ps.map (coreQ x))
 have hsi:=fun f G=>clsite_fn f G (cb:=cb) (now:=w.now) (i:=i) h11 ho;unfold pv at hsi⊢
 refine AP func61 ntmps61 fun base=>?_;refine (qjm) fun tb=>?_;apply (gA);refine H.freeze (x:=frz g) jA fun g' hg' hd=>?_;obtain rfl:g'=g:=hg'
 have hle:Le g' (un f g'):=fun k o hk=>by
  exact qbK
 have htab2:=tab_mono htab (Le.un f g')
 refine H.cut (ι:=Pkt×NetM×Nat) (fun s=>[(7,.bool true),(6,pv s.2.2),(0,pv cb),(2,pv ab)]) (fun _=>un f g')
  (fun s=>row s.2.2 49 s.1.vals::row cb 107 (cluC n i w.now)::row tb 53 (stpL d cl who nn opZ)::netH g' i.nb s.2.1::row ab 44 (ansZ 0 none 0 0)::sitL n i::fam (siteF n x i.sb w.rs) n::fam (cliF n x i.ca asked w.cl) 8::F) (fun s=>s.1.core=coreQ x q∧s.1.Good g'∧s.2.1.core=⟨ps.map (coreQ x),fun _=>false⟩) _ (fun s hs=>?_) ?_
 ·obtain⟨p,N',pb⟩:=s;obtain⟨hpc,hpg,hN'⟩:=hs
  have hdst:p.dst=((o+1:Nat):Int):=by
   have:=congrArg Core.dst hpc;have this:p.dst=((q.to:Nat):Int):=this
   rw[this,hto]
  have hpv:p.vals=[.int .i64 p.src,.int .i64 ((o+1:Nat):Int)]++v11 p.known++[.slice p.mp p.msgs.length p.mc]:=by unfold Pkt.vals;rw[hdst]
  have hhe:=fun G db du=>dhear_fn (un f g') G htab2 (du:=du) (db:=db) (o:=o) (x:=x) h3 h11 ho (hpg.mono hle) hpc hto hq;rw[hpv]at hhe
  show H _ _ _ [_,(6,.pointer (some ⟨pb,0,none⟩)),(0,.pointer (some ⟨cb,0,none⟩)),(2,.pointer (some ⟨ab,0,none⟩))] _ (row pb _ p.vals::row cb _ _::row tb _ _::netH _ _ _::row ab _ _::sitL _ _::fam (siteF n x i.sb w.rs) n::fam (cliF n x i.ca asked w.cl) 8::F) _;rw[hpv];apply (gG);refine A8 rfl rfl rfl (clknown_fn (un f g') _) ?_;apply (gS);apply (qhK);apply A5 (hsi _ _);apply (qgw);refine CA (i:=o) ho ?_;rw[cF_site];refine AM fun⟨db,du⟩ _=>?_;show H _ _ _ _ _ (row (i.sb o) _ [pv db,pv du]::durH du db n o x _::fam (updF (siteF n x i.sb w.rs) o emp) n::_) _;rw[rF_get hr];unfold pv at hhe⊢;apply (gL);apply (qe);apply (qhp);apply (qih);apply (gF);refine AH (ls:=[.int .i64 p.src,.int .i64 ((o+1:Nat):Int)]++v11 p.known++[.slice p.mp p.msgs.length p.mc]) rfl rfl rfl (Rd.ofRow jA) (show List.length _=14 from rfl) rfl ?_;apply (qfK);apply (qeV);apply A5 (hhe _ _ _);apply (gA);apply (qe);apply (qhp);apply (qdO);apply (qhV);apply (qfP);apply (qeG);apply (qeV);apply (qhp);apply (qeA);refine DH (x:=siteH (i.sb o) n o x r') ho ?_;rw[rF_set (by rw[hw.rl];exact ho)];refine H.thaw (x:=frz g') rfl hd ?_;apply A3 (netH _ _ _);refine H.imp (netQ_fold hN') ?_;apply (qej);refine H.imp (zbc (asked:=asked) (w:=(({w with net:=ps}:QW).put (o+1) r')) i ⟨hw.wn,by show(w.rs.set o r').length=n;rw[List.length_set];exact hw.rl,hw.cl,hw.ch,hw.now⟩) ?_;apply (qeR);exact qan
 ·apply (qdF);apply (qdL);apply (qex);apply A6 [0,1,2,3,4,5] 7;apply (qdX);refine B9 (i:=6) (j:=10) jD rfl rfl ?_ ?_
  ·apply A3 (netH _ _ _);refine AV rfl rfl rfl (netTake_fn (un f g') _ g' i.nb N 0) fun v f' A' hr=>?_;obtain⟨p,N',rfl,hpc,hpg,hN',hff,rfl⟩:=hr;rw[hff];clear hff;rw[hN]at hpc hN'⊢;rw[hgot]at hpc⊢;rw[htook]at hN';apply (qjd);apply (qhW);apply A6 [7,8,9] 3;apply (qfa);apply (qke);refine (qhq) fun pb=>?_;apply (qjd);apply (qhW);exact qaz
  ·refine (qhq) fun pb=>?_;apply (qjd);apply (qhW);apply A7 6;apply A3 (netH _ _ _);refine AV rfl rfl rfl (netTake_fn (un f g') _ g' i.nb N 0) fun v f' A' hr=>?_;obtain⟨p,N',rfl,hpc,hpg,hN',hff,rfl⟩:=hr;rw[hff];clear hff;rw[hN]at hpc hN'⊢;rw[hgot]at hpc⊢;rw[htook]at hN';apply (qjd);apply (qhW);apply A6 [7,8,9] 2;apply (qfa);exact qaz
end
variable {P:Program} {f:Frag} {φ:Prop}
theorem Fn.know{args:List Value}{x:HP}(hx:∀h,x h→φ)(k:φ→Fn P fid args f (x::F) R):Fn P fid args f (x::F) R:=fun base w s=>by
 obtain⟨m,⟨m1,m2,_,_,h1,_⟩,_⟩:=s.mem
 exact k (hx m1 h1) base w s
theorem CY{base:World}{L:Env}{x:HP}{K:Kont}(hx:∀h,x h→φ)(k:φ→H P base n L f (x::A) K):H P base n L f (x::A) K:=.mk fun a w hf s=>by
 obtain⟨m,⟨m1,m2,_,_,h1,_⟩,_⟩:=s.mem
 exact(k (hx m1 h1)).out a w hf s
theorem durH_inv{db:Nat}:∀h,durH du db n o x r h→QInv n r:=fun _ ⟨_,hi,_⟩=>hi.inv
theorem cF_set{cl:List (Bool×List Bool)}{k:Nat}(h:k<cl.length)(z:Bool×List Bool)(j:Nat):cF (cl.set k z) j=if j=k then z else cF cl j:=by
 unfold cF;by_cases e:j=k
 ·exact qcQ
 ·exact qcv
theorem cF_same{cl:List (Bool×List Bool)}{k:Nat}(h:k<cl.length):cl.set k (cF cl k)=cl:=by
 apply List.ext_getElem?;intro j;rw[List.getElem?_set];by_cases e:k=j
 ·subst e;rw[if_pos rfl,if_pos h];unfold cF;exact qcl
 ·rw[if_neg e]
theorem cliF_set{ca:Nat→Nat}{asked k:Nat}{cl:List (Bool×List Bool)}(h:k<cl.length)(p:Bool)(hs:List Bool):updF (cliF n x ca asked cl) k (row (ca k) 141 (cliC n ((k+1:Nat):Int) (tmF asked k) p (qP x p k) hs))=cliF n x ca asked (cl.set k (p,hs)):=by
 funext j;unfold updF cliF;rw[cF_set h];by_cases e:j=k
 ·subst e;rw[if_pos rfl,if_pos rfl]
 ·rw[if_neg e,if_neg e]
theorem qhearC_P{k:Nat}{cl:List (Bool×List Bool)}(h:k<cl.length):qhearC n (o+1) (k+1) cl=(cl.set k ((hearP n o (cF cl k).1 (cF cl k).2).1,(hearP n o (cF cl k).1 (cF cl k).2).2.1),(hearP n o (cF cl k).1 (cF cl k).2).2.2):=by
 have hs:=cF_same h;unfold qhearC
 rw[Nat.add_sub_cancel,Nat.add_sub_cancel];show(match cF cl k with|(false,_)=>(cl,false)|(true,h)=>_)=_;generalize cF cl k=z at hs⊢;obtain⟨p,hh⟩:=z
 cases p with
 | false =>
  show(cl,false)=_;unfold hearP;rw[if_pos rfl,hs]
 | true =>
  have e:hearP n o true hh=if hh.getD o true=true then(true,hh,false)else(Nat.ble (qtrue (hh.set o true)) (n / 2),hh.set o true,Nat.blt (n / 2) (qtrue (hh.set o true))):=by unfold hearP;rw[if_neg jE]
  show(bif hh.getD o true then(cl,false)else _)=(cl.set k ((hearP n o true hh).1,(hearP n o true hh).2.1),(hearP n o true hh).2.2);rw[e]
  cases hg:hh.getD o true with
  |true=>rw[cond_true,if_pos rfl,hs]
  |false=>rw[cond_false,if_neg jE]
def ClOk(asked:Nat)(cl:List (Bool×List Bool)):Prop:=cl.length=8∧∀j,j<8→(cF cl j).2.length=11∧((cF cl j).1=true→j<asked)
theorem hearP_ok(n j:Nat)(p:Bool)(h:List Bool):(hearP n j p h).2.1.length=h.length∧((hearP n j p h).1=true→p=true):=by
 unfold hearP
 cases p with
 |false=>rw[if_pos rfl];exact⟨rfl,fun h=>by cases h⟩
 | true =>
  rw[if_neg jE];refine⟨?_,fun _=>rfl⟩;split
  ·rfl
  ·exact List.length_set
theorem ClOk.hear{asked:Nat}{cl:List (Bool×List Bool)}(h:ClOk asked cl)(n o:Nat){k:Nat}(hk:k<8):ClOk asked (qhearC n (o+1) (k+1) cl).1:=by
 rw[qhearC_P (by rw[h.1];exact hk)];refine⟨by rw[List.length_set];exact h.1,fun j hj=>?_⟩;rw[cF_set (by rw[h.1];exact hk)];have hp:=hearP_ok n o (cF cl k).1 (cF cl k).2;split
 ·rename_i e
  subst e;exact⟨hp.1.trans (h.2 j hj).1,fun e=>(h.2 j hj).2 (hp.2 e)⟩
 ·exact h.2 j hj
theorem qout_ok(x:UInt8)(h11:n≤11)(ho:o<n)(hI:QInv n r)(hq:q∈qout n (o+1) r):(coreQ x q).may=true∧∀m∈q.ms,QOk n m:=by
 unfold qout at hq;obtain⟨j,hj,rfl⟩:=List.mem_map.1 hq;have hj1:=(List.mem_filter.1 hj).1;have hj2:=(List.mem_filter.1 hj).2
 rw[List.mem_range]at hj1;have hne:j+1≠o+1:=by simpa using hj2
 have hok:∀m∈qsince (r.ks.getD j []) r.l,QOk n m:=fun m hm=>by
  unfold qsince at hm;exact hI.ok m (List.mem_filter.1 (List.mem_of_mem_take hm)).1
 refine⟨?_,hok⟩
 have e1:((coreQ x {src:=o+1,to:=j+1,kn:=r.kn,ms:=qsince (r.ks.getD j []) r.l}).msgs.all Msg.may)=true:=by
  rw[List.all_eq_true];intro m hm;obtain⟨y,hy,rfl⟩:=List.mem_map.1 hm;exact mkM_may h11 x (hok y hy)
 have e2:pairP ((o+1:Nat):Int) ((j+1:Nat):Int):=⟨by omega,by omega,by omega,by omega,by omega⟩
 have e3:((qsince (r.ks.getD j []) r.l).map (mkM x)).length≤8:=by
  unfold qsince;rw[List.length_map,List.length_take];omega
 unfold Core.may;rw[e1,Bool.true_and];exact Bool.and_eq_true_iff.2 ⟨decide_eq_true e2,decide_eq_true e3⟩
theorem qout_len(n i:Nat)(r:QR):(qout n i r).length≤n:=by
 unfold qout;rw[List.length_map]
 have:=List.length_filter_le (fun j=>!(j+1 == i)) (List.range n);rw[List.length_range]at this
 exact this
variable {cl0:Int}
section
variable (f:Frag) (F:List HP)
theorem cltell_fn{db asked:Nat}{i:CLI}{cl:List (Bool×List Bool)}{cs:List Core}(h11:n≤11)(ho:o<n)(hcl:ClOk asked cl)(hcs:cs.length≤100):Fn prog 60 [pv cb,.agg (stpL d cl0 ((o+1:Nat):Int) nn opZ).toArray,pv du,pv ab] f (durH du db n o x r::row cb 107 (cluC n i now)::row ab 44 (ansZ 0 none 0 0)::accH none 0 []::fam (cliF n x i.ca asked cl) 8::netQ i.nb cs::F)
   (fun v g B=>∃(ap:Option Addr) (ac:Nat),v= .tuple #[]∧g=f∧B=durH du db n o x {r with td:=[]}::row cb 107 (cluC n i now)::row ab 44 (ansZ 0 ap (qhearCs n (o+1) r.td (cl,[])).2.length ac)::accH ap ac (qhearCs n (o+1) r.td (cl,[])).2::fam (cliF n x i.ca asked (qhearCs n (o+1) r.td (cl,[])).1) 8::netQ i.nb (cs++(qout n (o+1) r).map (coreQ x))::F):=by
 refine Fn.know durH_inv fun hI=>?_;have hou:=fun G=>dout_fn f G (du:=du) (db:=db) (o:=o) (x:=x) (r:=r) h11;have htl:=fun G=>dtold_fn f G (du:=du) (db:=db) (n:=n) (o:=o) (x:=x) (r:=r)
 have htd8:r.td.length≤8:=Nat.le_trans hI.td hI.row;unfold pv at hou htl⊢
 refine BK func60 ntmps60 fun base=>?_;refine (qhQ) fun tb=>?_;apply (gG);apply (qeV);refine H.cl (hou _) fun v f' A' hr=>?_;obtain⟨p,c,pks,rfl,hpk,hff,rfl⟩:=hr;rw[hff];clear hff;apply (gK)
 have hpl:pks.length≤n:=by
  have h1:=congrArg List.length hpk;rw[List.length_map,List.length_map]at h1
  have:=qout_len n (o+1) r;omega
 apply (qiE);apply (qdF);apply (qeV);apply (qdL);apply (qjk);apply (qkC)
 refine H.loop (ι:=Nat) (fun j=>[(15,.int .i64 (j:Nat)),(14,.int .i64 (pks.length:Nat)),(13,.slice p pks.length c),(0,.pointer (some ⟨cb,0,none⟩)),(2,.pointer (some ⟨du,0,none⟩)),(3,.pointer (some ⟨ab,0,none⟩)),(5,.pointer (some ⟨tb,0,none⟩))]) (fun _=>f)
  (fun j=>psl p c pks::pkM (pks.drop j)::netQ i.nb (cs++(pks.take j).map Pkt.core)::row cb 107 (cluC n i now)::durH du db n o x r::row tb 53 (stpL d cl0 ((o+1:Nat):Int) nn opZ)::row ab 44 (ansZ 0 none 0 0)::accH none 0 []::fam (cliF n x i.ca asked cl) 8::F)
  (fun j=>j≤pks.length) (fun j=>pks.length-j) 0 (Nat.zero_le _) ⟨rfl,rfl,rfl,rfl,rfl,rfl,rfl,trivial⟩ rfl (by rw[List.take_zero,List.map_nil,List.append_nil];rfl) fun j hj=>?_
 have hj:j≤pks.length:=hj;by_cases hlt:j<pks.length
 ·have hy:pks[j]?=some pks[j]:=List.getElem?_eq_getElem hlt;have hdr:pks.drop j=pks[j]::pks.drop (j+1):=List.drop_eq_getElem_cons hlt
  have htk:(pks.take (j+1)).map Pkt.core=(pks.take j).map Pkt.core++[(pks[j]).core]:=by
   rw[List.take_add_one,hy,List.map_append];rfl
  generalize pks[j]=y at hy hdr htk
  obtain⟨q,hqm,hqc⟩:∃q∈qout n (o+1) r,y.core=coreQ x q:=by
   have h1:=congrArg (fun l:List Core=>l[j]?) hpk;simp only[List.getElem?_map,hy,Option.map_some]at h1
   cases hq:(qout n (o+1) r)[j]? with
   |none=>rw[hq]at h1;cases h1
   |some q=>rw[hq]at h1;exact⟨q,List.mem_of_getElem? hq,Option.some.inj h1⟩
  obtain⟨hmay,hqok⟩:=qout_ok x h11 ho hI hqm
  have hgood:∀z∈y.msgs,∀f,z.Good f:=fun z hz f=>by
   have h1:z.m∈q.ms.map (mkM x):=by
    have h2:y.msgs.map MV.m=q.ms.map (mkM x):=congrArg Core.msgs hqc;rw[←h2];exact List.mem_map_of_mem hz
   obtain⟨m,hm,e⟩:=List.mem_map.1 h1;exact good_nil f (by rw[←e];exact mkM_q x m) (by rw[←e,mkM_b];exact mkB_ok x (hqok m hm).a8 (hqok m hm).k)
  have hml:y.msgs.length≤1000000:=by
   have h2:y.msgs.map MV.m=q.ms.map (mkM x):=congrArg Core.msgs hqc;have h3:=congrArg List.length h2
   rw[List.length_map,List.length_map]at h3;have h4:=hmay;unfold Core.may at h4
   simp only[Bool.and_eq_true,decide_eq_true_eq]at h4;have h5:=h4.2.2;have h5:(q.ms.map (mkM x)).length≤8:=h5
   rw[List.length_map]at h5;omega
  rw[hdr];show H _ _ _ _ _ (slc p pks.length c _ 14 (pks.flatMap Pkt.vals)::_) _;refine AO (p:=p) (n0:=pks.length) (c:=c) (T:=49) (sz:=14) jA jB fun pa hp=>?_;subst hp;apply (qhY);refine AD (ls:=y.vals) rfl rfl rfl (by rw[Nat.zero_add];exact Rd.slcElem (sz:=14) (vals:=Pkt.vals) (xs:=pks) (fun _=>rfl) jE jA hy) rfl rfl ?_;refine (qhq) fun pb=>?_;refine AC (ls:=Pkt.zero.vals) (vs:=y.vals) (ls':=y.vals) rfl rfl rfl (zaa rfl) rfl rfl (Nat.le_refl 14) aP0 ?_;apply (gA);apply (qhN);refine C1 (ls:=y.vals) rfl rfl rfl (Rd.ofRow aP0) rfl rfl ?_;apply (gI);apply (qfP);apply A3 (pkM _);refine H.imp pkM_cons ?_;refine H.freeze (x:=msL y.mp y.mc y.msgs) jA fun g hg hd=>?_
  have hle:Le g (un f g):=fun k o hk=>by
   exact qbK
  have hlist:ListAt g y.mp 121 MV.vals y.msgs:=slc_listAt (vals:=MV.vals) (sz:=121) (fun _=>rfl) hg;have hpu:=fun G=>netPut0_fn (un f g) G (nb:=i.nb) (cs:=cs++(pks.take j).map Pkt.core) (p:=y) ⟨hlist.mono hle,fun z hz=>hgood z hz _,hml⟩ (by rw[hqc];exact hmay) (by rw[List.length_append,List.length_map,List.length_take];omega)
  rw[List.append_assoc,←htk]at hpu;apply (qjk);apply A5 (hpu _);refine H.weakI (Le.un f g) ?_;apply (gD);apply A3 (pkM _);apply A3 (slc _ _ _ 49 _ _);exact AI (j+1) hlt (by show pks.length-(j+1)<pks.length-j;omega)
 ·obtain rfl:j=pks.length:=jB
  rw[List.take_length,hpk];apply (gN);apply A4 (psl _ _ _);apply A4 (pkM _);apply (qeV);refine AG rfl rfl rfl (htl _) fun tp tc=>?_;apply (gK);generalize hcs2:cs++(qout n (o+1) r).map (coreQ x)=cs2;apply (qjk);apply (qeV);apply (qdF);apply A3 (slc tp _ _ _ _ _);apply A3 (fam (cliF _ _ _ _ _) _);apply (qiE);apply (qdL)
  refine AF (ι:=Nat×List (Bool×List Bool)×List Nat×Option Addr×Nat) (fun s=>[(29,.int .i64 (s.1:Nat)),(28,.int .i64 (r.td.length:Nat)),(27,.slice tp r.td.length tc),(0,.pointer (some ⟨cb,0,none⟩)),(3,.pointer (some ⟨ab,0,none⟩)),(5,.pointer (some ⟨tb,0,none⟩))]) (fun _=>f)
   (fun s=>row cb 107 (cluC n i now)::row ab 44 (ansZ 0 s.2.2.2.1 s.2.2.1.length s.2.2.2.2)::accH s.2.2.2.1 s.2.2.2.2 s.2.2.1::fam (cliF n x i.ca asked s.2.1) 8::slc tp r.td.length tc 136 5 (toldC r.td)::row tb 53 (stpL d cl0 ((o+1:Nat):Int) nn opZ)::durH du db n o x {r with td:=[]}::netQ i.nb cs2::F)
   (fun s=>s.1≤r.td.length∧qhearCs n (o+1) (r.td.drop s.1) (s.2.1,s.2.2.1)=qhearCs n (o+1) r.td (cl,[])∧ClOk asked s.2.1∧s.2.2.1.length≤s.1) (fun s=>r.td.length-s.1) (0,cl,[],none,0) ⟨Nat.zero_le _,rfl,hcl,Nat.le_refl _⟩ fun s hs=>?_
  obtain⟨j,cl',acc,ap,ac⟩:=s;obtain⟨hj2,hqh,hok,hal⟩:j≤r.td.length∧qhearCs n (o+1) (r.td.drop j) (cl',acc)=qhearCs n (o+1) r.td (cl,[])∧ClOk asked cl'∧acc.length≤j:=hs;show H _ _ _ _ _ (row cb _ _::row ab _ _::accH ap ac acc::fam (cliF n x i.ca asked cl') 8::slc tp _ tc _ _ _::row tb _ _::durH _ _ _ _ _ _::netQ _ _::F) _;by_cases hlt:j<r.td.length
  ·have hy:r.td[j]?=some r.td[j]:=List.getElem?_eq_getElem hlt;have hdr:r.td.drop j=r.td[j]::r.td.drop (j+1):=List.drop_eq_getElem_cons hlt
   have hb:=hI.tdb r.td[j] (List.getElem_mem hlt);generalize r.td[j]=c1 at hy hdr hb
   obtain⟨k,rfl⟩:∃k,c1=k+1:=⟨c1-1,by omega⟩;have hk8:k<8:=jB
   have hkl:k<cl'.length:=by rw[hok.1];exact hk8
   have hP:=qhearC_P (n:=n) (o:=o) hkl;have hok2:=hok.hear n o hk8
   have htm:(cF cl' k).1=true→tmF asked k=1:=fun e=>by unfold tmF;rw[if_pos ((hok.2 k hk8).2 e)]
   have hhe:=fun G=>clhear_fn f G (cb:=cb) (ab:=ab) (n:=n) (j:=o) (c:=k) (now:=now) (t:=tmF asked k) (e:=0) (p:=(cF cl' k).1) (x:=x) (h:=(cF cl' k).2) (i:=i) (ap:=ap) (ac:=ac) (acc:=acc) ho h11 hk8 (hok.2 k hk8).1 htm jB;rw[hdr]at hqh
   have hqh:qhearCs n (o+1) (r.td.drop (j+1)) ((qhearC n (o+1) (k+1) cl').1,bif (qhearC n (o+1) (k+1) cl').2 then acc++[k+1]else acc)=qhearCs n (o+1) r.td (cl,[]):=hqh;rw[hP]at hqh hok2
   have hcs3:=fun ca=>cliF_set (n:=n) (x:=x) (ca:=ca) (asked:=asked) hkl (hearP n o (cF cl' k).1 (cF cl' k).2).1 (hearP n o (cF cl' k).1 (cF cl' k).2).2.1;generalize hearP n o (cF cl' k).1 (cF cl' k).2=hp at hqh hok2 hhe hcs3
   obtain⟨p',h',b⟩:=hp
   have hacc:(bif b then acc++[k+1]else acc)=acc++(if b=true then [k+1]else []):=by
    cases b with
    |true=>rfl
    |false=>rw[if_neg jE,List.append_nil];rfl
   have hqh:qhearCs n (o+1) (r.td.drop (j+1)) (cl'.set k (p',h'),bif b then acc++[k+1]else acc)=qhearCs n (o+1) r.td (cl,[]):=hqh;rw[hacc]at hqh
   have hal2:(acc++(if b=true then [k+1]else [])).length≤j+1:=by
    rw[List.length_append];split
    ·show acc.length+1≤_;omega
    ·show acc.length+0≤_;omega
   unfold pv at hhe;refine AO (p:=tp) (n0:=r.td.length) (c:=tc) (T:=136) (sz:=5) jA jB fun pa hp=>?_;subst hp;apply (qhY);refine AD (ls:=toldV ((k+1:Nat):Int)) rfl rfl rfl (by rw[Nat.zero_add];exact Rd.slcElem (sz:=5) (vals:=fun c:Nat=>toldV ((c:Nat):Int)) (xs:=r.td) (fun _=>rfl) jE jA hy) rfl rfl ?_;refine AJ (ls:=told0) rfl rfl rfl fun ob=>?_;apply (qip);apply (gO);apply (qjD);apply A3 (fam (cliF _ _ _ _ _) _);refine CA (i:=k) hk8 ?_;show H _ _ _ _ _ (row (i.ca k) _ _::_) _;apply (qfC);apply (qdL);refine H.cl (hhe _) fun v f' A' hr=>?_;obtain⟨ap2,ac2,hff,rfl⟩:=hr;rw[hff];clear hff;apply (gD);apply A3 (fam (updF (cliF _ _ _ _ _) _ _) _);apply A3 (row (i.ca k) 141 _);refine DH hk8 ?_;rw[hcs3];apply (qiE);apply (qdL);exact AI (j+1,cl'.set k (p',h'),acc++(if b=true then [k+1]else []),ap2,ac2) ⟨hlt,hqh,hok2,hal2⟩ (by show r.td.length-(j+1)<r.td.length-j;omega)
  ·obtain rfl:j=r.td.length:=jB
   rw[List.drop_length]at hqh;have hqh:(cl',acc)=qhearCs n (o+1) r.td (cl,[]):=hqh;rw[←hqh]
   apply (gN);apply A4 (slc tp _ _ _ _ _);apply (qeG);apply (qeV);exact qdw
def ansR(e:Int)(l:List Value):List Value:=[.int .i64 e]++l++msgZ.vals none 0++[.slice none 0 0]
def hearS(n o k:Nat)(r:QR)(h:List Bool):Bool×List Bool×Bool:=if k+1≤r.row then hearP n o true h else(true,h,false)
theorem clask_fn(htab:TabAt f){k:Nat}{i:CLI}(hk:k<8):Fn prog 56 [pv cb,.agg (stpL d ((k+1:Nat):Int) who nn (opL x (yv (k+1)))).toArray,pv ab] f (row cb 107 (cluC n i now)::row (i.ca k) 141 (cliC n ((k+1:Nat):Int) 0 false Req.zero (List.replicate 11 false))::row ab 44 (ansZ 0 none 0 0)::F)
   (Ret (.tuple #[]) f (row cb 107 (cluC n i now)::row (i.ca k) 141 (cliC n ((k+1:Nat):Int) 1 true (qS x (k+1)) (List.replicate 11 false))::row ab 44 (ansR 0 (qS x (k+1)).vals)::F)):=by
 have hcl:=fun G=>clclient_fn f G (cb:=cb) (n:=n) (now:=now) (i:=i) hk;have hak:=fun G=>cliAsk_fn f G htab (cb:=i.ca k) (n:=n) (a:=k+1) (x:=x) jB jB
 unfold pv at hcl⊢;refine AP func56 ntmps56 fun base=>?_;apply (gA);refine H.box (ls:=stpL d ((k+1:Nat):Int) who nn (opL x (yv (k+1)))) rfl rfl rfl rfl fun tb=>?_;apply (qjd);apply (qea);apply A6 [0,1,2,3,4,6,7] 11;apply (gF);refine AH (ls:=opL x (yv (k+1))) rfl rfl rfl (Rd.sub (pre:=[.int .u8 (d:Nat),.int .i64 ((k+1:Nat):Int),.int .i64 who,.int .i64 0,.int .i64 0,.int .i64 nn]) (post:=bodZ++Pkt.zero.vals++[.int .u64 0]++rep0++[.int .u64 0,.slice none 0 0]) (Rd.ofRow jA) rfl) rfl rfl ?_;apply (qhC);apply (qdL);apply A5 (hcl _);apply (qgD);apply A7 8;apply A3 (row (i.ca k) _ _);apply A5 (hak _);apply (qgD);apply A6 [9,10,11,12,13] 4;apply (qgO);apply A7 14;refine AC (ls:=ansZ 0 none 0 0) (vs:=(qS x (k+1)).vals) (ls':=ansR 0 (qS x (k+1)).vals) rfl rfl rfl (zaa rfl) rfl rfl (by show 0+1+40≤163;decide) jA ?_;apply (qgD);apply A6 [15,16] 1;apply (qdX);apply A7 17;apply (gC);apply (qeW);refine AN ?_;apply (qeG);apply (qeR);apply A3 (row (i.ca k) _ _);apply (qdL);exact qan
theorem clsend1_fn(htab:TabAt f){ub db k:Nat}{i:CLI}(h3:3≤n)(h11:n≤11)(ho:o<n)(hk:k<8)(hl:h.length=11)(ht:t=1)(hpd:¬(k+1≤r.row∨r.pd.elem (k+1)=true)→r.pd.length<20):Fn prog 111 ([]++[pv cb,.agg (stpL d cl0 ((o+1:Nat):Int) nn opZ).toArray,pv du,pv ab]++[pv qb]) f (row cb 107 (cluC n i now)::row qb 34 (pndV x (k+1))::durH du db n o x r::row (i.ca k) 141 (cliC n ((k+1:Nat):Int) t true (qP x true k) h)::row ab 44 (ansZ 0 none 0 0)::accH none 0 []::F)
   (fun v g B=>∃(ap:Option Addr) (ac:Nat),v= .tuple #[]∧g=f∧B=row cb 107 (cluC n i now)::row qb 34 (pndV x (k+1))::durH du db n o x (askQ r (k+1))::row (i.ca k) 141 (cliC n ((k+1:Nat):Int) t (hearS n o k r h).1 (qP x (hearS n o k r h).1 k) (hearS n o k r h).2.1)::row ab 44 (ansZ 0 ap (if(hearS n o k r h).2.2=true then [k+1]else []).length ac)::accH ap ac (if(hearS n o k r h).2.2=true then [k+1]else [])::F):=by
 have hak:=fun G=>dask_fn f G htab (du:=du) (db:=db) (o:=o) (a:=k+1) (x:=x) (r:=r) h3 h11 jB jB hpd;by_cases hc:k+1≤r.row
 ·have e:hearS n o k r h=hearP n o true h:=by unfold hearS;rw[if_pos hc]
  rw[e];have hhe:=fun G=>clhear_fn f G (cb:=cb) (ab:=ab) (n:=n) (j:=o) (c:=k) (now:=now) (t:=t) (e:=0) (p:=true) (x:=x) (h:=h) (i:=i) (ap:=none) (ac:=0) (acc:=[]) ho h11 hk hl (fun _=>ht) (Nat.zero_le _);unfold toldR at hak
  rw[if_pos hc,decide_eq_true hc]at hak;unfold pv at hak hhe⊢;refine DD func111 ntmps111 fun base=>?_;refine (qhQ) fun tb=>?_;refine (qha) fun ob=>?_;apply (qip);apply (gS);apply (qjD);apply (qeG);apply (qfC);apply (qdL);refine H.cl (hhe _) fun v f' A' hr=>?_;obtain⟨ap2,ac2,hff,rfl⟩:=hr;rw[hff];clear hff;apply (gA);apply (qfC);apply (qeV);apply (qdR);apply (qdL);exact BA rfl iD ⟨ap2,ac2,rfl,rfl,by rw[List.nil_append]⟩
 ·have e:hearS n o k r h=(true,h,false):=by unfold hearS;rw[if_neg hc]
  rw[e];unfold toldR at hak;rw[if_neg hc,decide_eq_false hc]at hak;unfold pv at hak⊢;refine DD func111 ntmps111 fun base=>?_;refine (qhQ) fun tb=>?_;refine (qha) fun ob=>?_;refine AC (ls:=told0) (vs:=told0) (ls':=told0) rfl rfl rfl (zaa rfl) rfl rfl (Nat.le_refl 5) aP0 ?_;apply (gE);apply (qgT);apply (qeG);apply (qeV);apply (qdR);apply (qdL);exact BA rfl iD ⟨none,0,rfl,rfl,rfl⟩
theorem upf_fn:Fn prog 58 [.func (.func g) #[] cs.toArray] f F (RetE (fun ub:Nat=>.func (.func 114) #[] #[pv ub]) f (fun ub=>row ub 158 [.func (.func g) #[] cs.toArray]::F)):=by
 unfold pv;refine AB func58 ntmps58 fun base=>?_;apply (gA);refine H.box (ls:=[.func (.func g) #[] cs.toArray]) rfl rfl rfl rfl fun ub=>?_;apply (gR);exact AU ⟨ub,rfl,rfl,rfl⟩
theorem clsend_fn(htab:TabAt f){db k:Nat}{i:CLI}(h3:3≤n)(h11:n≤11)(ho:o<n)(hk:k<8)(hl:h.length=11)(ht:t=1)(hpd:¬(k+1≤r.row∨r.pd.elem (k+1)=true)→r.pd.length<20):Fn prog 57 [pv cb,.agg (stpL d ((k+1:Nat):Int) ((o+1:Nat):Int) nn opZ).toArray,pv ab] f (row cb 107 (cluC n i now)::sitL n i::row (i.sb o) 86 [pv db,pv du]::durH du db n o x r::row (i.ca k) 141 (cliC n ((k+1:Nat):Int) t true (qP x true k) h)::row ab 44 (ansZ 0 none 0 0)::accH none 0 []::F)
   (fun v g B=>∃(ap:Option Addr) (ac:Nat),v= .tuple #[]∧g=f∧B=row cb 107 (cluC n i now)::sitL n i::row (i.sb o) 86 [pv db,pv du]::durH du db n o x (askQ r (k+1))::row (i.ca k) 141 (cliC n ((k+1:Nat):Int) t (hearS n o k r h).1 (qP x (hearS n o k r h).1 k) (hearS n o k r h).2.1)::row ab 44 (ansZ 0 ap (if(hearS n o k r h).2.2=true then [k+1]else []).length ac)::accH ap ac (if(hearS n o k r h).2.2=true then [k+1]else [])::F):=by
 have hpe:=fun G=>clpend_fn f G (cb:=cb) (n:=n) (j:=k) (now:=now) (a:=((k+1:Nat):Int)) (t:=t) (p:=true) (q:=qP x true k) (h:=h) (i:=i) hk;have hq:qP x true k=qS x (k+1):=rfl
 have hs1:∀G qb ub,Fn prog 111 ([]++[pv cb,.agg (stpL d ((k+1:Nat):Int) ((o+1:Nat):Int) nn opZ).toArray,pv du,pv ab]++[pv qb]) f (row cb 107 (cluC n i now)::sitL n i::row (i.sb o) 86 [pv db,pv du]::row ub 158 [.func (.func 111) #[] #[pv qb]]::row qb 34 (pndV x (k+1))::durH du db n o x r::row (i.ca k) 141 (cliC n ((k+1:Nat):Int) t true (qP x true k) h)::row ab 44 (ansZ 0 none 0 0)::accH none 0 []::G)
   (fun v g B=>∃(ap:Option Addr) (ac:Nat),v= .tuple #[]∧g=f∧B=row cb 107 (cluC n i now)::row qb 34 (pndV x (k+1))::durH du db n o x (askQ r (k+1))::row (i.ca k) 141 (cliC n ((k+1:Nat):Int) t (hearS n o k r h).1 (qP x (hearS n o k r h).1 k) (hearS n o k r h).2.1)::row ab 44 (ansZ 0 ap (if(hearS n o k r h).2.2=true then [k+1]else []).length ac)::accH ap ac (if(hearS n o k r h).2.2=true then [k+1]else [])::sitL n i::row (i.sb o) 86 [pv db,pv du]::row ub 158 [.func (.func 111) #[] #[pv qb]]::G):=fun G qb ub=>by
  refine Fn.front (x:=accH _ _ _) jA ?_
  refine Fn.front (x:=row ab _ _) jA ?_
  refine Fn.front (x:=row (i.ca k) 141 _) jA ?_
  refine Fn.front (x:=durH _ _ _ _ _ _) jA ?_
  refine Fn.front (x:=row qb _ _) jA ?_
  refine Fn.front (x:=row cb _ _) jA ?_
  exact clsend1_fn f _ htab (ub:=ub) h3 h11 ho hk hl ht hpd
 have hup:=fun G qb=>upf_fn f G (g:=111) (cs:=[pv qb]);unfold pv at hpe
 rw[show pv cb= .pointer (some ⟨cb,0,none⟩)from rfl,show pv ab= .pointer (some ⟨ab,0,none⟩)from rfl];refine AP func57 ntmps57 fun base=>?_;apply (gA);refine H.box (ls:=stpL d ((k+1:Nat):Int) ((o+1:Nat):Int) nn opZ) rfl rfl rfl rfl fun tb=>?_;apply (gO);apply A3 (row (i.ca k) 141 _);apply (qdL);apply A5 (hpe _);apply (gO);refine (qfh) fun qb=>?_;refine AC (ls:=Req.zero.vals) (vs:=(qP x true k).vals) (ls':=pndV x (k+1)) rfl rfl rfl (zaa rfl) rfl rfl (Nat.le_refl 40) aP0 ?_;apply (gG);refine A8 rfl rfl rfl (clknown_fn f _) ?_;apply (qdI);apply (qdF);apply (qea);apply A6 [0,2,3,4] 2;refine EU rfl rfl rfl rfl ?_;apply (gB);refine AH (ls:=stpL d ((k+1:Nat):Int) ((o+1:Nat):Int) nn opZ) rfl rfl rfl (Rd.ofRow jA) rfl rfl ?_;apply (qgK);apply A7 1;refine AW rfl rfl rfl (hup _ qb) fun ub=>?_;apply (qgD);apply A7 5;apply (qfC);apply (qeV);apply (qdR);apply (qfp);apply (qfL);refine BQ (fs:=[]) (cs:=[pv ub]) rfl rfl rfl rfl (clup_fn f _ (g:=111) (cs:=[pv qb]) h11 ho (hs1 _ qb ub)) fun v f' A' hR=>?_;obtain⟨rfl,u,ap,ac,_,hff,rfl⟩:=hR;rw[hff];clear hff;apply (qgD);refine AN ?_;apply (qeG);apply A4 (row ub _ _);apply (qfs);apply (qfC);apply (qeV);apply (qfL);exact qdw
end
variable {rs ps:Array TypeId} {vr:Bool}
section
variable {P:Program} {base:World} {n:Nat} {L:Env} {f:Frag} {A:List HP} {q:Post} {l rest:List Oper} {d:Nat} {ty:TypeId} {pos:String} {af:Array Edge} {gd:Option (Nat × Bool)}
theorem run_equal_fn{t:TypeId}(hu:Und P t (.func ps rs vr))(g:Go.Fn)(fs cs:Array Value)(w:World):(Op.equal t (.func g fs cs) .nilFunc).run P w= .ok false w:=by
 have h:∀d,(Op.equalIn (d+1) t (.func g fs cs) .nilFunc).run P w= .ok false w:=fun d=>by
  simp[Op.equalIn,hu.run]
 exact h 9999
theorem Di{xt yt:TypeId}{x:Operand}{g:Go.Fn}{fs cs:Array Value}[hu:Und P xt (.func ps rs vr)](hw:want? l L gd=true)(hx:ev? L x=some (.func g fs cs))(hy:ev? L y=some .nilFunc)(hd:Nat.ble (d+1) n=true)
  (kk:H P base n ((d,.bool false)::L) f A (.ops l rest q)):H P base n L f A (.ops l (⟨some d,.binOp .eql xt x y yt,ty,pos,af,gd⟩::rest) q):=
 AK hw hd (fun a w hf _=>by
  refine run_bin _ ?_ ?_
  ·rw[hf.eval hx,hf.eval hy];rfl
  ·rw[hf.eval hx,hf.eval hy]
   have e1:Sem.run P (do pure (Value.bool (←Op.equal xt (.func g fs cs) .nilFunc))) w= .ok (.bool false) w:=by simp[run_equal_fn hu]
   exact e1) kk
end
def fnW(g:FuncId):Value:=.func (.func g) #[] #[]
def upV(b:Nat):Value:=.func (.func 114) #[] #[pv b]
def doiC(b1 b2 b3:Nat):List Value:=[.nilFunc,.bool false,.bool false,fnW 56,.bool false,.bool true,fnW 57,.bool true,.bool true,upV b1,.bool true,.bool false,upV b2,.bool true,.bool false,fnW 61,.bool false,.bool false,fnW 62,.bool false,.bool false,fnW 63,.bool false,.bool false,fnW 64,.bool false,.bool false,fnW 65,.bool false,.bool false,fnW 66,.bool false,.bool false,fnW 67,.bool true,.bool false,fnW 68,.bool true,.bool false,fnW 69,.bool true,.bool false,upV b3,.bool true,.bool false,fnW 71,.bool true,.bool true,fnW 72,.bool false,.bool false]
def doiZ:List Value:=[.nilFunc,.bool false,.bool false,.nilFunc,.bool false,.bool false,.nilFunc,.bool false,.bool false,.nilFunc,.bool false,.bool false,.nilFunc,.bool false,.bool false,.nilFunc,.bool false,.bool false,.nilFunc,.bool false,.bool false,.nilFunc,.bool false,.bool false,.nilFunc,.bool false,.bool false,.nilFunc,.bool false,.bool false,.nilFunc,.bool false,.bool false,.nilFunc,.bool false,.bool false,.nilFunc,.bool false,.bool false,.nilFunc,.bool false,.bool false,.nilFunc,.bool false,.bool false,.nilFunc,.bool false,.bool false,.nilFunc,.bool false,.bool false]
def uT:TypeId:=158
def upB(b1 b2 b3:Nat):List HP:=[row b1 uT [fnW 59],row b2 uT [fnW 60],row b3 uT [fnW 70]]
section
variable (f:Frag) (F:List HP)
theorem doings_fn:Fn prog 32 [] f F (fun v g B=>∃b1 b2 b3:Nat,v= .agg (doiC b1 b2 b3).toArray∧g=f∧B=upB b1 b2 b3++F):=by
 have h1:=fun G=>upf_fn f G (g:=59) (cs:=[]);have h2:=fun G=>upf_fn f G (g:=60) (cs:=[])
 have h3:=fun G=>upf_fn f G (g:=70) (cs:=[]);refine BX func32 ntmps32 fun base=>?_
 apply (gA);refine AJ (ls:=doiZ) rfl rfl rfl fun ob=>?_;apply (gJ);refine C3 (h1 _) fun b1=>?_;apply (gJ);refine C3 (h2 _) fun b2=>?_;apply (gJ);refine C3 (h3 _) fun b3=>?_;apply (gJ);refine DE (t:=117) (out:=doiC b1 b2 b3) rfl rfl rfl jD rfl ?_;refine AC (ls:=doiZ) (vs:=doiC b1 b2 b3) (ls':=doiC b1 b2 b3) rfl rfl rfl (zaa rfl) rfl rfl (Nat.le_refl 51) jA ?_;apply (gK);apply (qkH);apply (qed);exact BS (ls:=doiC b1 b2 b3) rfl rfl rfl (Rd.ofRow aP0) rfl (fun _ s=>s.drop (.here _ _)) ⟨b1,b2,b3,rfl,rfl,rfl⟩
end
end Go.Proofs.YtdpgpmbebbaoiaaGreatDoor
