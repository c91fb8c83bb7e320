/- Parts of the proof. No conditions. -/
import Derived.Test.YtkaknokcbhiigaaGreatDoorZ08
set_option linter.unusedSectionVars false
/- Layer 15: the program's logs: Take, of whatever message. Condition: the table of the standard stands in the fragment. -/
set_option maxHeartbeats 3200000
set_option maxRecDepth 20000
namespace Go.Proofs.YtkaknokcbhiigaaGreatDoor
open Go Tryz
structure NI(l:Lgs):Prop where
 rise:∀w∈l.vs,RiseN w.p
 low:∀w∈l.vs,∀y∈w.p,y.1≤l.known (primI l.n w.v)
theorem RiseN.nil:RiseN []:=fun i j y z _ hy _=>by cases hy
theorem NI.new(n:Nat):NI (Lgs.new n):=⟨fun w hw=>by
  have e:w=⟨0,0,[],[]⟩:=List.mem_singleton.1 hw
  rw[e];exact RiseN.nil,fun w hw y hy=>by
  have e:w=⟨0,0,[],[]⟩:=List.mem_singleton.1 hw
  rw[e]at hy;cases hy⟩
theorem Lgs.counts_vs(l:Lgs)(m:Msg):(l.counts m).2.vs=l.vs∨
  (∃i w,vwAt l.vs m.body.view=some i∧l.vs[i]? =some w∧primZ l.n m.body.view=m.origin∧(l.counts m).2.vs=l.vs.set i {w with p:=w.p++ [(m.number,m.body.req)]})∨
  (∃s,(l.counts m).2.vs=insV ⟨m.body.view,m.number,s,[]⟩ l.vs):=by
 by_cases h3:m.body.kind=3
 ·rw[Lgs.counts_3 h3];split<;>exact .inl rfl
 ·by_cases h4 : m.body.kind = 4
  ·rw[Lgs.counts_4 h4];split
   ·unfold Lgs.begins;split
    ·exact .inl rfl
    ·split
     ·exact .inl rfl
     ·split
      ·exact .inl rfl
      ·exact .inr (.inr ⟨_,rfl⟩)
   ·exact .inl rfl
  ·by_cases h5 : m.body.kind = 5
   ·cases hat:vwAt l.vs m.body.view with
    |none=>rw[Lgs.counts_5n h5 hat];exact .inl rfl
    | some i =>
     obtain⟨⟨w,hw,_⟩,_⟩:=zar.1 hat;rw[Lgs.counts_5 h5 hat hw];split<;>exact .inl rfl
   ·by_cases h1 : m.body.kind = 1
    ·cases hat:vwAt l.vs m.body.view with
     |none=>rw[Lgs.counts_1n h1 hat];exact .inl rfl
     | some i =>
      obtain⟨⟨w,hw,_⟩,_⟩:=zar.1 hat;rw[Lgs.counts_1 h1 hat hw];split
      ·exact .inl rfl
      ·rename_i h
       refine .inr (.inl ⟨i,w,rfl,hw,?_,rfl⟩);rcases Decidable.em (primZ l.n m.body.view=m.origin)with e|e
       ·exact e
       ·exact absurd (.inl (decide_eq_false e)) h
    ·by_cases h2 : m.body.kind = 2
     ·cases hat:vwAt l.vs m.body.view with
      |none=>rw[Lgs.counts_2n h2 hat];exact .inl rfl
      | some i =>
       obtain⟨⟨w,hw,_⟩,_⟩:=zar.1 hat;rw[Lgs.counts_2 h2 hat hw];split<;>exact .inl rfl
     ·rw[Lgs.counts_x h3 h4 h5 h1 h2];exact .inl rfl
theorem NI.take{l:Lgs}(h:NI l)(m:Msg):NI (l.take m).2:=by
 unfold Lgs.take;split
 ·exact h
 ·split
  ·exact h
  ·rename_i _ hn
   have hnum:m.number=l.known (orgI m)+1:=by
    rcases Decidable.em (m.number=l.known (orgI m)+1)with e|e
    ·exact e
    ·exact absurd (.inl e) hn
   have hk:=l.counts_nk m;obtain⟨K,hK⟩:∃K,K=updF (l.counts m).2.known (orgI m) ((l.counts m).2.known (orgI m)+1):=⟨_,rfl⟩
   have hge:∀r,l.known r≤K r:=fun r=>by
    rw[hK,hk.2];by_cases e:r=orgI m
    ·subst e;rw[zaf];omega
    ·rw[zap _ _ e];exact Int.le_refl _
   have hKo:K (orgI m)=m.number:=by rw[hK,zaf,hk.2,hnum]
   show NI {(l.counts m).2 with known:=updF (l.counts m).2.known (orgI m) ((l.counts m).2.known (orgI m)+1)};rw[←hK]
   have key:(∀w∈(l.counts m).2.vs,RiseN w.p)∧∀w∈(l.counts m).2.vs,∀y∈w.p,y.1≤K (primI l.n w.v):=by
    rcases l.counts_vs m with e|⟨i,w,hat,hw,hp,e⟩|⟨s,e⟩
    ·rw[e];exact⟨h.rise,fun w hw y hy=>Int.le_trans (h.low w hw y hy) (hge _)⟩
    ·rw[e];have hwm:=List.mem_of_getElem? hw;obtain⟨⟨w',hw',hv⟩,_⟩:=zar.1 hat
     rw[hw]at hw';cases hw';have hpi:primI l.n w.v=orgI m:=by rw[hv];unfold primZ at hp;unfold orgI;omega
     refine⟨fun x hx=>?_,fun x hx y hy=>?_⟩
     ·rcases List.mem_or_eq_of_mem_set hx with hx|rfl
      ·exact h.rise x hx
      ·intro a b y z hab hy hz;show y.1<z.1;have hy:(w.p++ [(m.number,m.body.req)])[a]? =some y:=hy;have hz:(w.p++ [(m.number,m.body.req)])[b]? =some z:=hz
       have hbl:=(List.getElem?_eq_some_iff.1 hz).1;rw[List.length_append,List.length_singleton]at hbl
       rw[List.getElem?_append_left jA]at hy;by_cases hb:b<w.p.length
       ·rw[List.getElem?_append_left hb]at hz;exact h.rise w hwm a b y z hab hy hz
       ·rw[List.getElem?_append_right jA,show b-w.p.length=0 by omega]at hz;cases hz
        have:=h.low w hwm y (List.mem_of_getElem? hy);rw[hpi]at this
        show y.1<m.number;omega
     ·rcases List.mem_or_eq_of_mem_set hx with hx|rfl
      ·exact Int.le_trans (h.low x hx y hy) (hge _)
      ·show y.1≤K (primI l.n w.v);have hy:y∈w.p++ [(m.number,m.body.req)]:=hy;rcases List.mem_append.1 hy with hy|hy
       ·exact Int.le_trans (h.low w hwm y hy) (hge _)
       ·rw[List.mem_singleton.1 hy,hpi,hKo];exact Int.le_refl _
    ·rw[e];refine⟨fun x hx=>?_,fun x hx y hy=>?_⟩
     ·rcases List.mem_cons.1 ((insV_perm _ _).mem_iff.2 hx)with rfl|hx
      ·exact RiseN.nil
      ·exact h.rise x hx
     ·rcases List.mem_cons.1 ((insV_perm _ _).mem_iff.2 hx)with rfl|hx
      ·cases hy
      ·exact Int.le_trans (h.low x hx y hy) (hge _)
   refine⟨key.1,fun w hw y hy=>?_⟩
   have:=key.2 w hw y hy;show y.1≤K (primI (l.counts m).2.n w.v)
   rw[hk.1];exact this
variable {f:Frag}
theorem may_kind{x:MV}(hx:x.Good f)(hm:x.m.may=true):1≤x.m.body.kind.toNat∧x.m.body.kind.toNat≤6:=by
 unfold Msg.may at hm;rw[Bool.and_eq_true]at hm;have h:=mayB_eq hx.2.2;rw[hm.2]at h
 unfold Bod.mayB at h;rw[Bool.and_eq_true]at h;exact of_decide_eq_true h.1
variable {n:Nat}
theorem u8_ne{k:UInt8}(hn:n<256)(h:k≠UInt8.ofNat n):k.toNat≠n:=fun e=>h (by rw[←e];simp)
variable {fl:Frag} {lb T:Nat} {l:Lgs}
section
variable (f:Frag) (F:List HP)
theorem by3_fn:Fn prog 52 [.int .u8 3] f F (Ret (.func (.func 90) #[] #[]) f F):=by
 exact qbx
theorem by4_fn:Fn prog 52 [.int .u8 4] f F (Ret (.func (.func 91) #[] #[]) f F):=by
 exact qbx
theorem by5_fn:Fn prog 52 [.int .u8 5] f F (Ret (.func (.func 92) #[] #[]) f F):=by
 exact qbx
theorem by6_fn{k:Int}(h1:k≠1)(h2:k≠2)(h3:k≠3)(h4:k≠4)(h5:k≠5):Fn prog 52 [.int .u8 k] f F (Ret (.func (.func 95) #[] #[]) f F):=by
 refine Fn.e1 func52 ntmps52 fun base=>?_;refine gZ ?_;exact qam
theorem pltakeA_fn(htab:TabAt f)(hfl:Le fl f)(hL:LI l T)(hT:T≤40000)(hN:NI l)(hodd:l.n % 2=1){x:MV}(hx:x.Good f):
  Fn prog 25 [.pointer (some ⟨lb,0,none⟩),.agg x.vals.toArray] f (plogH fl lb l::F) (Ret (.tuple #[.bool (l.take x.m).1.1,.int .i64 (l.take x.m).1.2]) f (plogH f lb (l.take x.m).2::F)):=by
 by_cases k1:x.m.body.kind=1
 ·exact pltake1_fn f F htab hfl hL hT hx k1
 ·by_cases k2 : x.m.body.kind = 2
  ·exact pltake2_fn f F hfl hL hT hN.rise hx k2
  ·by_cases k3 : x.m.body.kind = 3
   ·exact pltake_fn f F hfl hL hT hx (fid:=90) (fun G=>by rw[k3];exact by3_fn f G) fun _ hm i G hi=>plchange_fn f G hfl (hL.more x.m) jA hm k3 hi rfl
   ·by_cases k4 : x.m.body.kind = 4
    ·exact pltake_fn f F hfl hL hT hx (fid:=91) (fun G=>by rw[k4];exact by4_fn f G) fun _ hm i G hi=>plnew_view_fn f G hfl (hL.more x.m) jA hodd hx hm k4 hi rfl
    ·by_cases k5 : x.m.body.kind = 5
     ·exact pltake_fn f F hfl hL hT hx (fid:=92) (fun G=>by rw[k5];exact by5_fn f G) fun _ hm i G hi=>plenter_fn f G hfl (hL.more x.m) jA hm k5 hi rfl
     ·have n1:=u8_ne (n:=1) jC k1;have n2:=u8_ne (n:=2) jC k2
      have n3:=u8_ne (n:=3) jC k3;have n4:=u8_ne (n:=4) jC k4
      have n5:=u8_ne (n:=5) jC k5;refine pltake_fn f F hfl hL hT hx (fid:=95) (fun G=>by6_fn f G jA jA jA jA jA) fun hmay hm i G hi=>?_
      have hk:=may_kind hx hmay
      have k6:x.m.body.kind=6:=by
       have e:x.m.body.kind.toNat=6:=jA
       exact UInt8.toNat_inj.1 e
      exact plcheck_fn f G hfl k6 hi
end
def Lgs.vw(l:Lgs)(v:Int):Option Vw:=(vwAt l.vs v).bind fun i=>l.vs[i]?
variable {v:Int} {w:Vw}
theorem vw_at(h:l.vw v=some w):∃i,vwAt l.vs v=some i∧l.vs[i]? =some w:=by
 unfold Lgs.vw at h
 cases e:vwAt l.vs v with
 |none=>rw[e]at h;cases h
 |some i=>rw[e]at h;exact⟨i,rfl,h⟩
theorem vw_v(h:l.vw v=some w):w.v=v∧w∈l.vs:=by
 obtain⟨i,h1,h2⟩:=vw_at h;obtain⟨⟨w',h3,h4⟩,_⟩:=zar.1 h1;rw[h2]at h3;cases h3;exact⟨h4,List.mem_of_getElem? h2⟩
theorem vw_none:l.vw v=none↔vwAt l.vs v=none:=by
 unfold Lgs.vw
 cases e:vwAt l.vs v with
 |none=>simp
 | some i =>
  obtain⟨⟨w,h1,_⟩,_⟩:=zar.1 e;simp[h1]
theorem primI_lt(hn:0<n)(v:Int):primI n v<n:=by
 have h1:v % (n:Int)<n:=Int.emod_lt_of_pos _ jA;have h2:0≤v % (n:Int):=Int.emod_nonneg _ jA
 unfold primI;omega
open Go.Sort (swp ltInt insInner insOuter insertionSort siftDown heapBuild heapPop heapSort reverseLoop reverseRange scanUp scanDown partLoop partEqLoop scanSorted shiftDown shiftUp partialIns partialInsertionSort)
open Go.Sort (partition partitionEqual partLoop_eq partEqLoop_eq partition_fst partition_arr scanUp_spec scanDown_spec)
theorem two_scans(p q:Int→Bool)(hq:∀x,q x= !p x)(d:Array Int){i j:Nat}(hi:0<i)(hij:i≤j+1):
  i≤scanUp p d j i∧scanUp p d j i≤j+1∧scanDown q d (scanUp p d j i) j≤j∧scanUp p d j i≤scanDown q d (scanUp p d j i) j+1∧(scanUp p d j i≤scanDown q d (scanUp p d j i) j→scanUp p d j i<scanDown q d (scanUp p d j i) j):=by
 obtain⟨u1,u2,u3,u4⟩:=scanUp_spec p d j _ i rfl;obtain⟨v1,v2,v3,v4⟩:=scanDown_spec q d (scanUp p d j i) j;have hu:=u2 hij;refine⟨u1,hu,v1,v2 hu,fun h=>?_⟩
 have f1:=u4 jA;have f2:=v4 jA jA
 rw[hq]at f2;rcases Nat.lt_or_ge (scanUp p d j i) (scanDown q d (scanUp p d j i) j)with h'|h'
 ·exact h'
 ·have e:scanUp p d j i=scanDown q d (scanUp p d j i) j:=jA
  rw[←e,f1]at f2;cases f2
variable {p:Option Addr} {c a b pivot:Nat} {d0:Array Int}
section
variable (f:Frag) (F:List HP)
def PartP(f:Frag)(F:List HP)(p:Option Addr)(n c k:Nat)(d:Array Int):Value→Frag→List HP→Prop:=fun v f' A'=>∃ap:Bool,v= .tuple #[.int .i64 (k:Int),.bool ap]∧f'=f∧A'=slc p n c 35 1 (arr d)::F
theorem partition_fn(hd0:d0.size=n)(hn:n≤1000000)(hap:a≤pivot)(hpb:pivot<b)(hb:b≤n):
  Fn prog 199 [.slice p n c,.int .i64 (a:Int),.int .i64 (b:Int),.int .i64 (pivot:Int)] f (slc p n c 35 1 (arr d0)::F) (PartP f F p n c (partition ltInt d0 a b pivot).1 (partition ltInt d0 a b pivot).2.2):=by
 rw[partition_arr,partition_fst];refine Fn.e4 func199 ntmps199 fun base=>?_;refine qhG fun sb hp=>?_;subst hp;refine gK ?_;refine H.drawN jD jK jF ?_;refine qjB ?_;have hd:(swp d0 a pivot).size=n:=by rw[zbk];exact hd0
 generalize swp d0 a pivot=d at *;refine gV ?_;obtain⟨i,hi⟩:∃i,i=a+1:=⟨_,rfl⟩;obtain⟨j,hj⟩:∃j,j=b-1:=⟨_,rfl⟩;rw[←hi,←hj];refine H.Bh (d:=11) (u:=.int .i64 (j:Int)) rfl jP ?_;refine H.Bh (d:=10) (u:=.int .i64 (i:Int)) rfl jP ?_;obtain⟨s1,s2,s3,s4,s5⟩:=two_scans (fun x=>ltInt x d[a]!) (fun x=>!ltInt x d[a]!) (fun _=>rfl) d (i:=i) (j:=j) jA jA;have heq:=partLoop_eq ltInt a i j d;skip
 refine H.cutB (ι:=Unit) (fun _=>[(10,.int .i64 ((scanUp (fun x=>ltInt x d[a]!) d j i:Nat):Int)),(11,.int .i64 (j:Int)),(0,.slice (some ⟨sb,0,none⟩) n c),(1,.int .i64 (a:Int))]) (fun _=>f) (fun _=>slc (some ⟨sb,0,none⟩) n c 35 1 (arr d)::F) (fun _=>True) _ (fun _ _=>?_) ?_;rotate_left
 ·exact qae
 refine qgY ?_;obtain⟨i2,hi2⟩:∃i2,i2=scanUp (fun x=>ltInt x d[a]!) d j i:=⟨_,rfl⟩;rw[←hi2]at s1 s2 s3 s4 s5 heq⊢;refine qjr ?_;refine H.cutB (ι:=Unit) (fun _=>[(11,.int .i64 ((scanDown (fun x=>!ltInt x d[a]!) d i2 j:Nat):Int)),(10,.int .i64 (i2:Int)),(0,.slice (some ⟨sb,0,none⟩) n c),(1,.int .i64 (a:Int))]) (fun _=>f) (fun _=>slc (some ⟨sb,0,none⟩) n c 35 1 (arr d)::F) (fun _=>True) _ (fun _ _=>?_) ?_;rotate_left
 ·exact qad
 refine qgW ?_;obtain⟨j2,hj2⟩:∃j2,j2=scanDown (fun x=>!ltInt x d[a]!) d i2 j:=⟨_,rfl⟩;rw[←hj2]at s3 s4 s5 heq⊢;by_cases hgt:j2<i2
 ·rw[if_pos hgt]at heq;rw[heq];refine gG ?_;refine H.drawN jD jK jF ?_;refine qiG ?_;exact H.Ba rfl rfl rfl (fun _ h=>h) ⟨true,rfl,rfl,rfl⟩
 ·have hlt:=s5 jA;rw[if_neg hgt]at heq
  rw[heq];refine gZ ?_;refine H.drawN jD jK jF ?_;refine qfY ?_;obtain⟨j1,hj1⟩:∃j1,j1=j2-1:=⟨_,rfl⟩;rw[←hj1];have hd1:(swp d i2 j2).size=n:=by rw[zbk];exact hd
  generalize swp d i2 j2=d1 at *;refine gV ?_;refine H.Bh (d:=11) (u:=.int .i64 (j1:Int)) rfl jP ?_
  refine H.lo (ι:=Nat×Nat×Array Int) (fun s=>[(10,.int .i64 (s.1:Int)),(11,.int .i64 (s.2.1:Int)),(0,.slice (some ⟨sb,0,none⟩) n c),(1,.int .i64 (a:Int))]) (fun _=>f) (fun s=>slc (some ⟨sb,0,none⟩) n c 35 1 (arr s.2.2)::F)
   (fun s=>0<s.1∧s.1≤s.2.1+1∧s.2.1<n∧s.2.2.size=n∧partLoop ltInt a s.1 s.2.1 s.2.2=partLoop ltInt a (i2+1) j1 d1) (fun s=>s.2.1+1-s.1) (i2+1,j1,d1) ⟨by show 0<i2+1;omega,by show i2+1≤j1+1;omega,by show j1<n;omega,hd1,rfl⟩ fun s hs=>?_
  clear s1 s2 s3 s4 s5 heq hi2 hj2 hgt hlt;obtain⟨i,j,d⟩:=s;obtain⟨h0,hij,hjn,hd,hr⟩:0<i∧i≤j+1∧j<n∧d.size=n∧partLoop ltInt a i j d=partLoop ltInt a (i2+1) j1 d1:=hs;rw[←hr];clear hr;show H _ _ _ [(10,.int .i64 (i:Int)),(11,.int .i64 (j:Int)),_,_] f (slc (some ⟨sb,0,none⟩) n c _ 1 (arr d)::F) _;clear hj1 hd1;obtain⟨s1,s2,s3,s4,s5⟩:=two_scans (fun x=>ltInt x d[a]!) (fun x=>!ltInt x d[a]!) (fun _=>rfl) d (i:=i) (j:=j) h0 hij;have heq:=partLoop_eq ltInt a i j d;refine qjr ?_
  refine H.cutB (ι:=Unit) (fun _=>[(10,.int .i64 ((scanUp (fun x=>ltInt x d[a]!) d j i:Nat):Int)),(11,.int .i64 (j:Int)),(0,.slice (some ⟨sb,0,none⟩) n c),(1,.int .i64 (a:Int))]) (fun _=>f) (fun _=>slc (some ⟨sb,0,none⟩) n c 35 1 (arr d)::F) (fun _=>True) _ (fun _ _=>?_) ?_;rotate_left
  ·exact qae
  refine qgY ?_;obtain⟨i2,hi2⟩:∃i2,i2=scanUp (fun x=>ltInt x d[a]!) d j i:=⟨_,rfl⟩;rw[←hi2]at s1 s2 s3 s4 s5 heq⊢;refine qjr ?_;refine H.cutB (ι:=Unit) (fun _=>[(11,.int .i64 ((scanDown (fun x=>!ltInt x d[a]!) d i2 j:Nat):Int)),(10,.int .i64 (i2:Int)),(0,.slice (some ⟨sb,0,none⟩) n c),(1,.int .i64 (a:Int))]) (fun _=>f) (fun _=>slc (some ⟨sb,0,none⟩) n c 35 1 (arr d)::F) (fun _=>True) _ (fun _ _=>?_) ?_;rotate_left
  ·exact qad
  refine qgW ?_;obtain⟨j2,hj2⟩:∃j2,j2=scanDown (fun x=>!ltInt x d[a]!) d i2 j:=⟨_,rfl⟩;rw[←hj2]at s3 s4 s5 heq⊢;by_cases hgt:j2<i2
  ·rw[if_pos hgt]at heq;rw[heq];refine gO ?_;refine H.drawN jD jK jF ?_;refine qiG ?_;exact H.Ba rfl rfl rfl (fun _ h=>h) ⟨false,rfl,rfl,rfl⟩
  ·have hlt:=s5 jA;rw[if_neg hgt]at heq
   refine gZ ?_;refine H.drawN jD jK jF ?_;refine qfY ?_;obtain⟨j1,rfl⟩:∃j1,j2=j1+1:=⟨j2-1,by omega⟩;refine gV ?_;exact H.ag (i2+1,j1,swp d i2 (j1+1)) ⟨by show 0<i2+1;omega,by show i2+1≤j1+1;omega,by show j1<n;omega,by show(swp d i2 (j1+1)).size=n;rw[zbk];exact hd,heq.symm⟩ (by show j1+1-(i2+1)<j+1-i;omega)
theorem partEq_fn(hd0:d0.size=n)(hn:n≤1000000)(hap:a≤pivot)(hpb:pivot<b)(hb:b≤n):
  Fn prog 198 [.slice p n c,.int .i64 (a:Int),.int .i64 (b:Int),.int .i64 (pivot:Int)] f (slc p n c 35 1 (arr d0)::F) (Ret (.int .i64 ((partitionEqual ltInt d0 a b pivot).1:Nat)) f (slc p n c 35 1 (arr (partitionEqual ltInt d0 a b pivot).2)::F)):=by
 unfold partitionEqual;refine Fn.e4 func198 ntmps198 fun base=>?_;refine qhG fun sb hp=>?_;subst hp;refine gK ?_;refine H.drawN jD jK jF ?_;refine qjB ?_;have hd:(swp d0 a pivot).size=n:=by rw[zbk];exact hd0
 generalize swp d0 a pivot=d1 at *;obtain⟨j1,hj1⟩:∃j1,j1=b-1:=⟨_,rfl⟩;rw[←hj1];refine gV ?_;refine H.Bh (d:=10) (u:=.int .i64 (j1:Int)) rfl jP ?_
 refine H.lo (ι:=Nat×Nat×Array Int) (fun s=>[(9,.int .i64 (s.1:Int)),(10,.int .i64 (s.2.1:Int)),(0,.slice (some ⟨sb,0,none⟩) n c),(1,.int .i64 (a:Int))]) (fun _=>f) (fun s=>slc (some ⟨sb,0,none⟩) n c 35 1 (arr s.2.2)::F)
  (fun s=>0<s.1∧s.1≤s.2.1+1∧s.2.1<n∧s.2.2.size=n∧partEqLoop ltInt a s.1 s.2.1 s.2.2=partEqLoop ltInt a (a+1) j1 d1) (fun s=>s.2.1+1-s.1) (a+1,j1,d1) ⟨by show 0<a+1;omega,by show a+1≤j1+1;omega,by show j1<n;omega,hd,rfl⟩ fun s hs=>?_
 clear hd;obtain⟨i,j,d⟩:=s;obtain⟨h0,hij,hjn,hd,hr⟩:0<i∧i≤j+1∧j<n∧d.size=n∧partEqLoop ltInt a i j d=partEqLoop ltInt a (a+1) j1 d1:=hs;rw[←hr];clear hr;show H _ _ _ [(9,.int .i64 (i:Int)),(10,.int .i64 (j:Int)),_,_] f (slc (some ⟨sb,0,none⟩) n c _ 1 (arr d)::F) _;obtain⟨s1,s2,s3,s4,s5⟩:=two_scans (fun x=>!ltInt d[a]! x) (fun x=>ltInt d[a]! x) (fun x=>by simp) d (i:=i) (j:=j) h0 hij;have heq:=partEqLoop_eq ltInt a i j d;refine qjr ?_
 refine H.cutB (ι:=Unit) (fun _=>[(9,.int .i64 ((scanUp (fun x=>!ltInt d[a]! x) d j i:Nat):Int)),(10,.int .i64 (j:Int)),(0,.slice (some ⟨sb,0,none⟩) n c),(1,.int .i64 (a:Int))]) (fun _=>f) (fun _=>slc (some ⟨sb,0,none⟩) n c 35 1 (arr d)::F) (fun _=>True) _ (fun _ _=>?_) ?_;rotate_left
 ·skip;refine H.lo (ι:=Nat) (fun x=>[(9,.int .i64 (x:Int)),(10,.int .i64 (j:Int)),(0,.slice (some ⟨sb,0,none⟩) n c),(1,.int .i64 (a:Int))]) (fun _=>f) (fun _=>slc (some ⟨sb,0,none⟩) n c 35 1 (arr d)::F) (fun x=>x≤j+1∧scanUp (fun x=>!ltInt d[a]! x) d j x=scanUp (fun x=>!ltInt d[a]! x) d j i) (fun x=>j+1-x) i ⟨by show i≤j+1;omega,rfl⟩ fun x hx=>?_;obtain⟨hx,hs⟩:x≤j+1∧scanUp (fun x=>!ltInt d[a]! x) d j x=scanUp (fun x=>!ltInt d[a]! x) d j i:=hx;show H _ _ _ [(9,.int .i64 (x:Int)),_,_,_] f (slc (some ⟨sb,0,none⟩) n c _ 1 (arr d)::F) _;rw[scanUp]at hs;by_cases hxj:x≤j
  ·skip;refine qgX ?_;refine HB.qu [0,1,2,3,4,5,6,7,8,9,10,11] 3 ?_;refine gM ?_;refine qfH ?_;refine qhD ?_;refine qkD ?_;refine qeg ?_;refine qh ?_;refine H.Af rfl rfl rfl (zce f _ d[a]! d[x]!) ?_;refine qed ?_;refine HB.qu [13,14] 0 ?_;refine qjz ?_
   cases hl:ltInt d[a]! d[x]! with
   | false =>
    rw[if_pos jk]at hs;refine gX ?_;exact H.ag (x+1) ⟨by show x+1≤j+1;omega,hs⟩ (by show j+1-(x+1)<j+1-x;omega)
   | true =>
    exact qdD
  ·skip;rw[if_neg jW]at hs;refine qgX ?_;refine qjo ?_;exact qdF
 show H _ _ _ [(9,.int .i64 ((scanUp (fun x=>!ltInt d[a]! x) d j i:Nat):Int)),(10,.int .i64 (j:Int)),(0,.slice (some ⟨sb,0,none⟩) n c),(1,.int .i64 (a:Int))] f (slc (some ⟨sb,0,none⟩) n c _ 1 (arr d)::F) _;obtain⟨i2,hi2⟩:∃i2,i2=scanUp (fun x=>!ltInt d[a]! x) d j i:=⟨_,rfl⟩;rw[←hi2]at s1 s2 s3 s4 s5 heq⊢;refine qjr ?_;refine H.cutB (ι:=Unit) (fun _=>[(10,.int .i64 ((scanDown (fun x=>ltInt d[a]! x) d i2 j:Nat):Int)),(9,.int .i64 (i2:Int)),(0,.slice (some ⟨sb,0,none⟩) n c),(1,.int .i64 (a:Int))]) (fun _=>f) (fun _=>slc (some ⟨sb,0,none⟩) n c 35 1 (arr d)::F) (fun _=>True) _ (fun _ _=>?_) ?_;rotate_left
 ·skip;refine H.lo (ι:=Nat) (fun x=>[(10,.int .i64 (x:Int)),(9,.int .i64 (i2:Int)),(0,.slice (some ⟨sb,0,none⟩) n c),(1,.int .i64 (a:Int))]) (fun _=>f) (fun _=>slc (some ⟨sb,0,none⟩) n c 35 1 (arr d)::F) (fun x=>x≤j∧scanDown (fun x=>ltInt d[a]! x) d i2 x=scanDown (fun x=>ltInt d[a]! x) d i2 j) (fun x=>x) j ⟨Nat.le_refl j,rfl⟩ fun x hx=>?_;obtain⟨hx,hs⟩:x≤j∧scanDown (fun x=>ltInt d[a]! x) d i2 x=scanDown (fun x=>ltInt d[a]! x) d i2 j:=hx;show H _ _ _ [(10,.int .i64 (x:Int)),_,_,_] f (slc (some ⟨sb,0,none⟩) n c _ 1 (arr d)::F) _;by_cases hxj:i2≤x
  ·skip;obtain⟨y,rfl⟩:∃y,x=y+1:=⟨x-1,by omega⟩;rw[scanDown]at hs;refine qgX ?_;refine qju ?_;refine gM ?_;refine qfH ?_;refine qhD ?_;refine qhd ?_;refine qeg ?_;refine qh ?_;refine H.Af rfl rfl rfl (zce f _ d[a]! d[y+1]!) ?_;refine qed ?_;refine HB.qu [13] 0 ?_;refine qfh ?_
   cases hl:ltInt d[a]! d[y+1]! with
   | false =>
    exact qdD
   | true =>
    rw[if_pos jk]at hs;refine gX ?_;exact H.ag y ⟨by show y≤j;omega,hs⟩ ki
  ·skip
   have hs:x=scanDown (fun x=>ltInt d[a]! x) d i2 j:=by
    rw[←hs]
    cases x with
    |zero=>rfl
    |succ y=>rw[scanDown,if_neg jW]
   refine qgX ?_;refine qju ?_;refine gI ?_;refine qh ?_;refine qgG ?_;refine HB.qu [13] 0 ?_;exact qdF
 show H _ _ _ [(10,.int .i64 ((scanDown (fun x=>ltInt d[a]! x) d i2 j:Nat):Int)),(9,.int .i64 (i2:Int)),(0,.slice (some ⟨sb,0,none⟩) n c),(1,.int .i64 (a:Int))] f (slc (some ⟨sb,0,none⟩) n c _ 1 (arr d)::F) _;obtain⟨j2,hj2⟩:∃j2,j2=scanDown (fun x=>ltInt d[a]! x) d i2 j:=⟨_,rfl⟩;rw[←hj2]at s3 s4 s5 heq⊢;by_cases hgt:j2<i2
 ·rw[if_pos hgt]at heq;rw[heq];refine gO ?_;exact qam
 ·have hlt:=s5 jA;rw[if_neg hgt]at heq
  refine gZ ?_;refine H.drawN jD jK jF ?_;refine qfY ?_;obtain⟨j3,rfl⟩:∃j3,j2=j3+1:=⟨j2-1,by omega⟩;refine gV ?_;exact H.ag (i2+1,j3,swp d i2 (j3+1)) ⟨by show 0<i2+1;omega,by show i2+1≤j3+1;omega,by show j3<n;omega,by show(swp d i2 (j3+1)).size=n;rw[zbk];exact hd,heq.symm⟩ (by show j3+1-(i2+1)<j+1-i;omega)
end
open Go.Sort (swp ltInt insInner insOuter insertionSort siftDown heapBuild heapPop heapSort reverseLoop reverseRange scanUp scanDown partLoop partEqLoop scanSorted shiftDown shiftUp partialIns partialInsertionSort)
open Go.Sort (partialIns_succ fixDown fixUp)
theorem shiftDown_size:∀(j:Nat) (d:Array Int),(shiftDown ltInt j d).size=d.size
 |0,d=>rfl
 | j + 1, d => by
  rw[shiftDown]
  split
  ·rfl
  ·rw[shiftDown_size j,zbk]
theorem shiftUp_size(b:Nat):∀(m j:Nat) (d:Array Int),b-j≤m→(shiftUp ltInt b j d).size=d.size
 |0,j,d,h=>by rw[shiftUp,if_neg jA]
 | m + 1, j, d, h => by
  rw[shiftUp]
  split
  ·split
   ·rfl
   ·rw[shiftUp_size b m (j+1) _ jA,zbk]
  ·rfl
theorem scanSorted_rng(d:Array Int)(b:Nat):∀(m i:Nat),b-i≤m→i≤b→i≤scanSorted ltInt d b i∧scanSorted ltInt d b i≤b
 |0,i,h,hi=>by rw[scanSorted,if_neg jc];omega
 | m + 1, i, h, hi => by
  rw[scanSorted]
  split
  ·rename_i hc
   rw[Bool.and_eq_true]at hc
   have h1:=of_decide_eq_true hc.1
   have:=scanSorted_rng d b m (i+1) jA jA
   omega
  ·omega
section
variable (f:Frag) (F:List HP)
theorem partIns_fn(hd0:d0.size=n)(hn:n≤1000000)(hab:a<b)(hb:b≤n):
  Fn prog 196 [.slice p n c,.int .i64 (a:Int),.int .i64 (b:Int)] f (slc p n c 35 1 (arr d0)::F) (Ret (.bool (partialInsertionSort ltInt d0 a b).2) f (slc p n c 35 1 (arr (partialInsertionSort ltInt d0 a b).1)::F)):=by
 obtain⟨R,hR⟩:∃R,partialInsertionSort ltInt d0 a b=R:=⟨_,rfl⟩;have hR:partialIns ltInt a b 5 (a+1) d0=R:=hR;have hR2:partialInsertionSort ltInt d0 a b=R:=hR
 rw[hR2];clear hR2;refine Fn.e3 func196 ntmps196 fun base=>?_;refine qhG fun sb hp=>?_;subst hp;refine gV ?_
 refine H.lo (ι:=Nat×Nat×Array Int) (fun s=>[(8,.int .i64 (s.1:Int)),(7,.int .i64 (s.2.1:Int)),(0,.slice (some ⟨sb,0,none⟩) n c),(1,.int .i64 (a:Int)),(2,.int .i64 (b:Int))]) (fun _=>f) (fun s=>slc (some ⟨sb,0,none⟩) n c 35 1 (arr s.2.2)::F)
  (fun s=>s.1≤5∧a+1≤s.2.1∧s.2.1≤b∧s.2.2.size=n∧partialIns ltInt a b (5-s.1) s.2.1 s.2.2=R) (fun s=>5-s.1) (0,a+1,d0) ⟨Nat.zero_le _,Nat.le_refl _,by show a+1≤b;omega,hd0,hR⟩ fun s hs=>?_
 clear hR hd0;obtain⟨t,i,d⟩:=s;obtain⟨ht,hai,hib,hd,hr⟩:t≤5∧a+1≤i∧i≤b∧d.size=n∧partialIns ltInt a b (5-t) i d=R:=hs;show H _ _ _ [(8,.int .i64 (t:Int)),(7,.int .i64 (i:Int)),_,_,_] f (slc (some ⟨sb,0,none⟩) n c _ 1 (arr d)::F) _;by_cases ht5:t<5
 ·obtain⟨s,hs5⟩:∃s,5-t=s+1:=⟨5-t-1,by omega⟩;rw[hs5,partialIns_succ]at hr;have hrng:=scanSorted_rng d b _ i (Nat.le_refl _) hib;repeat(first|((apply H.Aw);(iterate 3 exact rfl))|(first|apply H.seq|apply H.Bg|apply H.nil|apply H.Bj)|((apply H.cmp);(iterate 5 exact rfl))|(first|apply H.skip|apply H.Bl)|(apply H.Ci;exact rfl;(omega)))
  refine H.cutB (ι:=Unit) (fun _=>[(7,.int .i64 ((scanSorted ltInt d b i:Nat):Int)),(8,.int .i64 (t:Int)),(0,.slice (some ⟨sb,0,none⟩) n c),(1,.int .i64 (a:Int)),(2,.int .i64 (b:Int))]) (fun _=>f) (fun _=>slc (some ⟨sb,0,none⟩) n c 35 1 (arr d)::F) (fun _=>True) _ (fun _ _=>?_) ?_;rotate_left
  ·refine H.lo (ι:=Nat) (fun x=>[(7,.int .i64 (x:Int)),(8,.int .i64 (t:Int)),(0,.slice (some ⟨sb,0,none⟩) n c),(1,.int .i64 (a:Int)),(2,.int .i64 (b:Int))]) (fun _=>f) (fun _=>slc (some ⟨sb,0,none⟩) n c 35 1 (arr d)::F) (fun x=>a+1≤x∧x≤b∧scanSorted ltInt d b x=scanSorted ltInt d b i) (fun x=>b-x) i ⟨hai,hib,rfl⟩ fun x hx=>?_;obtain⟨hx1,hx2,hs⟩:a+1≤x∧x≤b∧scanSorted ltInt d b x=scanSorted ltInt d b i:=hx;obtain⟨y,rfl⟩:∃y,x=y+1:=⟨x-1,by omega⟩;show H _ _ _ [(7,.int .i64 ((y+1:Nat):Int)),_,_,_,_] f (slc (some ⟨sb,0,none⟩) n c _ 1 (arr d)::F) _;rw[scanSorted]at hs;by_cases hxb:y+1<b
   ·refine qgX ?_;refine HB.qu [0,1,2,3,4,5,6,7,8,9,10,11,12] 3 ?_;refine gM ?_;refine qhd ?_;refine qeg ?_;refine gL ?_;refine qiz ?_;refine qeg ?_;refine qhC ?_;refine H.Af rfl rfl rfl (zce f _ d[y+1]! d[y]!) ?_;refine qed ?_;refine HB.qu [14,15] 0 ?_;refine qjz ?_;have hyy:y+1-1=y:=rfl;rw[hyy]at hs
    cases hl:ltInt d[y+1]! d[y]! with
    | false =>
     rw[if_pos (by rw[decide_eq_true hxb,hl];rfl)]at hs;refine gX ?_;exact H.ag (y+1+1) ⟨by show a+1≤y+1+1;omega,by show y+1+1≤b;omega,hs⟩ (by show b-(y+1+1)<b-(y+1);omega)
    | true =>
     rw[if_neg (by rw[decide_eq_true hxb,hl];decide)]at hs;exact qcY
   ·rw[if_neg (by rw[decide_eq_false hxb,Bool.false_and];decide)]at hs;refine qgX ?_;refine HB.qu [0,1,2,3,4,5,6,7,8,9,10,11,12] 3 ?_;refine gI ?_;refine qhC ?_;refine qgG ?_;refine HB.qu [14,15] 0 ?_;refine qfh ?_;exact qcY
  show H _ _ _ [(7,.int .i64 ((scanSorted ltInt d b i:Nat):Int)),(8,.int .i64 (t:Int)),(0,.slice (some ⟨sb,0,none⟩) n c),(1,.int .i64 (a:Int)),(2,.int .i64 (b:Int))] f (slc (some ⟨sb,0,none⟩) n c _ 1 (arr d)::F) _;generalize scanSorted ltInt d b i=i2 at *;by_cases heb:i2=b
  ·rw[if_pos heb]at hr;subst hr;refine gG ?_;exact qam
  ·rw [if_neg heb] at hr;by_cases h50 : b - a < 50
   ·rw[if_pos h50]at hr;subst hr;refine gg ?_;exact qam
   ·rw [if_neg h50] at hr;obtain ⟨k, rfl⟩ : ∃ k, i2 = k + 1 := ⟨i2 - 1, by omega⟩;refine gZ ?_;refine H.drawN jD jK jF ?_;refine qeo ?_;refine HN.ar (i := 4) (z := ((k : Nat) : Int)) jD rfl rfl rfl rfl rfl (by rw [wr_i64 jA]; omega) rfl ?_;refine qfU ?_;refine HQ.Ah (i := k) rfl rfl rfl jA jA rfl ?_;refine qhD ?_;refine HQ.Ah (i := k + 1) rfl rfl rfl jA jA rfl ?_;refine qiO ?_;refine HB.qu [14] 3 ?_;refine HQ.Ah (i := k + 1) rfl rfl rfl jA jA rfl ?_;refine qiB ?_;refine qeF ?_;refine HB.qu [16] 1 ?_;refine HQ.Ah (i := k) rfl rfl rfl jA jA rfl ?_;refine qjg ?_;refine qen ?_;show H _ _ _ _ f (slc (some ⟨sb, 0, none⟩) n c _ 1 (arr (swp d (k + 1) (k))) :: _) _;have hkk : k + 1 - 1 = k := rfl;rw [hkk] at hr
    have hd1:(swp d (k+1) k).size=n:=by rw[zbk];exact hd
    generalize swp d (k+1) k=d1 at *;refine qgN ?_;refine H.cut (ι:=Unit) (fun _=>[(7,.int .i64 ((k+1:Nat):Int)),(8,.int .i64 (t:Int)),(0,.slice (some ⟨sb,0,none⟩) n c),(1,.int .i64 (a:Int)),(2,.int .i64 (b:Int))]) (fun _=>f) (fun _=>slc (some ⟨sb,0,none⟩) n c 35 1 (arr (fixDown ltInt a (k+1) d1))::F) (fun _=>True) _ (fun _ _=>?_) ?_;rotate_left
    ·unfold fixDown;by_cases h2:k+1-a≥2
     ·rw[if_pos h2,hkk];refine gZ ?_
      refine H.lo (ι:=Nat×Array Int) (fun s=>[(9,.int .i64 (s.1:Int)),(7,.int .i64 ((k+1:Nat):Int)),(8,.int .i64 (t:Int)),(0,.slice (some ⟨sb,0,none⟩) n c),(1,.int .i64 (a:Int)),(2,.int .i64 (b:Int))]) (fun _=>f) (fun s=>slc (some ⟨sb,0,none⟩) n c 35 1 (arr s.2)::F)
       (fun s=>s.1≤k∧s.2.size=n∧shiftDown ltInt s.1 s.2=shiftDown ltInt k d1) (fun s=>s.1) (k,d1) ⟨Nat.le_refl k,hd1,rfl⟩ fun s hs=>?_
      obtain⟨x,d⟩:=s;obtain⟨hx,hd,hs⟩:x≤k∧d.size=n∧shiftDown ltInt x d=shiftDown ltInt k d1:=hs;show H _ _ _ [(9,.int .i64 (x:Int)),_,_,_,_,_] f (slc (some ⟨sb,0,none⟩) n c _ 1 (arr d)::F) _
      cases x with
      | zero =>
       rw[←hs];refine gY ?_;exact qbt
      | succ y =>
       rw[shiftDown]at hs;refine qfj ?_
       cases hl:ltInt d[y+1]! d[y]! with
       | false =>
        exact qcS
       | true =>
        rw[hl,if_neg jC]at hs;refine gV ?_;refine H.drawN jD jK jF ?_;refine qhg ?_;exact H.ag (y,swp d (y+1) y) ⟨by show y≤k;omega,by show(swp d (y+1) y).size=n;rw[zbk];exact hd,hs⟩ ki
     ·exact qdW
    have hd2:(fixDown ltInt a (k+1) d1).size=n:=by
     unfold fixDown;split
     ·rw[shiftDown_size];exact hd1
     ·exact hd1
    generalize fixDown ltInt a (k+1) d1=d2 at *;show H _ _ _ [(7,.int .i64 ((k+1:Nat):Int)),(8,.int .i64 (t:Int)),(0,.slice (some ⟨sb,0,none⟩) n c),(1,.int .i64 (a:Int)),(2,.int .i64 (b:Int))] f (slc (some ⟨sb,0,none⟩) n c _ 1 (arr d2)::F) _;refine qgN ?_;refine H.cutB (ι:=Unit) (fun _=>[(7,.int .i64 ((k+1:Nat):Int)),(8,.int .i64 (t:Int)),(0,.slice (some ⟨sb,0,none⟩) n c),(1,.int .i64 (a:Int)),(2,.int .i64 (b:Int))]) (fun _=>f) (fun _=>slc (some ⟨sb,0,none⟩) n c 35 1 (arr (fixUp ltInt b (k+1) d2))::F) (fun _=>True) _ (fun _ _=>?_) ?_;rotate_left
    ·unfold fixUp;by_cases h2:b-(k+1)≥2
     ·rw[if_pos h2];refine gZ ?_
      refine H.lo (ι:=Nat×Array Int) (fun s=>[(10,.int .i64 ((s.1+1:Nat):Int)),(7,.int .i64 ((k+1:Nat):Int)),(8,.int .i64 (t:Int)),(0,.slice (some ⟨sb,0,none⟩) n c),(1,.int .i64 (a:Int)),(2,.int .i64 (b:Int))]) (fun _=>f) (fun s=>slc (some ⟨sb,0,none⟩) n c 35 1 (arr s.2)::F)
       (fun s=>s.1+1≤b∧s.2.size=n∧shiftUp ltInt b (s.1+1) s.2=shiftUp ltInt b (k+1+1) d2) (fun s=>b-s.1) (k+1,d2) ⟨by show k+1+1≤b;omega,hd2,rfl⟩ fun s hs=>?_
      obtain⟨y,d⟩:=s;obtain⟨hx,hd,hs⟩:y+1≤b∧d.size=n∧shiftUp ltInt b (y+1) d=shiftUp ltInt b (k+1+1) d2:=hs;show H _ _ _ [(10,.int .i64 ((y+1:Nat):Int)),_,_,_,_,_] f (slc (some ⟨sb,0,none⟩) n c _ 1 (arr d)::F) _;rw[shiftUp]at hs;by_cases hyb:y+1<b
      ·rw[if_pos hyb,show y+1-1=y from rfl]at hs;refine qfj ?_
       cases hl:ltInt d[y+1]! d[y]! with
       | false =>
        exact qcS
       | true =>
        rw[hl,if_neg jC]at hs;refine gV ?_;refine H.drawN jD jK jF ?_;refine qhg ?_;exact H.ag (y+1,swp d (y+1) y) ⟨by show y+1+1≤b;omega,by show(swp d (y+1) y).size=n;rw[zbk];exact hd,hs⟩ (by show b-(y+1)<b-y;omega)
      ·rw[if_neg hyb]at hs;rw[←hs];refine gZ ?_;exact qbt
     ·exact qdW
    have hd3:(fixUp ltInt b (k+1) d2).size=n:=by
     unfold fixUp;split
     ·rw[shiftUp_size b _ _ _ (Nat.le_refl _)];exact hd2
     ·exact hd2
    generalize fixUp ltInt b (k+1) d2=d3 at *;show H _ _ _ [(7,.int .i64 ((k+1:Nat):Int)),(8,.int .i64 (t:Int)),(0,.slice (some ⟨sb,0,none⟩) n c),(1,.int .i64 (a:Int)),(2,.int .i64 (b:Int))] f (slc (some ⟨sb,0,none⟩) n c _ 1 (arr d3)::F) _;refine gV ?_;exact H.ag (t+1,k+1,d3) ⟨by show t+1≤5;omega,by show a+1≤k+1;omega,by show k+1≤b;omega,hd3,by show partialIns ltInt a b (5-(t+1)) (k+1) d3=R;rw[show 5-(t+1)=s by omega];exact hr⟩ (by show 5-(t+1)<5-t;omega)
 ·rw[show 5-t=0 by omega]at hr;have hr:(d,false)=R:=hr;subst hr
  refine gZ ?_;exact qam
end
open Go.Sort (swp ltInt insInner insOuter insertionSort siftDown heapBuild heapPop heapSort reverseLoop reverseRange scanUp scanDown partLoop partEqLoop scanSorted shiftDown shiftUp partialIns partialInsertionSort)
variable {s wb:Nat} {d:Array Int}
section
variable (f:Frag) (F:List HP)
def Ord2P(f:Frag)(F:List HP)(A1:HP)(wb a b s:Nat):Value→Frag→List HP→Prop:=fun v f' A'=>∃x y s2:Nat,((x=a∧y=b)∨(x=b∧y=a))∧s2≤s+1∧v= .tuple #[.int .i64 (x:Int),.int .i64 (y:Int)]∧f'=f∧A'=A1::row wb 3 [.int .i64 (s2:Int)]::F
theorem order2_fn(hd:d.size=n)(hn:n≤1000000)(ha:a<n)(hb:b<n)(hs:s≤100):
  Fn prog 229 [.slice p n c,.int .i64 (a:Int),.int .i64 (b:Int),.pointer (some ⟨wb,0,none⟩)] f (slc p n c 35 1 (arr d)::row wb 3 [.int .i64 (s:Int)]::F) (Ord2P f F (slc p n c 35 1 (arr d)) wb a b s):=by
 refine Fn.e4 func229 ntmps229 fun base=>?_;refine qfB fun sb hp=>?_;subst hp;refine qir ?_;refine HB.qu [0,1,2,3,4,5,6,7] 1 ?_;refine gB ?_;refine HQ.Ah (i:=b) rfl rfl rfl jA jA rfl ?_;refine qhD ?_;refine qfH ?_;refine qeg ?_;refine qel ?_;refine HB.ev 8 ?_;refine H.Af rfl rfl rfl (zce f _ d[b]! d[a]!) ?_;refine qeQ ?_
 cases hl:ltInt d[b]! d[a]! with
 | false =>
  refine gV ?_;exact H.Ba rfl rfl rfl (fun _ h=>h) ⟨a,b,s,.inl ⟨rfl,rfl⟩,Nat.le_succ s,rfl,rfl,rfl⟩
 | true =>
  refine gg ?_;exact H.Ba rfl rfl rfl (fun _ h=>h) ⟨b,a,s+1,.inr ⟨rfl,rfl⟩,Nat.le_refl _,rfl,rfl,rfl⟩
def MedP(f:Frag)(F:List HP)(A1:HP)(wb a b c s:Nat):Value→Frag→List HP→Prop:=fun v f' A'=>∃x s2:Nat,(x=a∨x=b∨x=c)∧s2≤s+3∧v= .int .i64 (x:Int)∧f'=f∧A'=A1::row wb 3 [.int .i64 (s2:Int)]::F
theorem median_fn{k:Nat}(hd:d.size=n)(hn:n≤1000000)(ha:a<n)(hb:b<n)(hk:k<n)(hs:s≤90):
  Fn prog 221 [.slice p n c,.int .i64 (a:Int),.int .i64 (b:Int),.int .i64 (k:Int),.pointer (some ⟨wb,0,none⟩)] f (slc p n c 35 1 (arr d)::row wb 3 [.int .i64 (s:Int)]::F) (MedP f F (slc p n c 35 1 (arr d)) wb a b k s):=by
 refine Fn.e5 func221 ntmps221 fun base=>?_;refine gK ?_;refine H.Aq rfl rfl rfl (order2_fn f F hd hn ha hb jA) fun v f' A' hR=>?_;obtain⟨x1,y1,t1,h1,ht1,rfl,hff,rfl⟩:=hR;rw[hff];refine gY ?_;refine H.Aq rfl rfl rfl (order2_fn f F hd hn (a:=y1) (b:=k) jA hk jA) fun v f' A' hR=>?_;obtain⟨x2,y2,t2,h2,ht2,rfl,hff,rfl⟩:=hR;rw[hff];refine gY ?_;refine H.Aq rfl rfl rfl (order2_fn f F hd hn (a:=x1) (b:=x2) jA jA jA) fun v f' A' hR=>?_;obtain⟨x3,y3,t3,h3,ht3,rfl,hff,rfl⟩:=hR;rw[hff];refine gX ?_;exact H.Ae rfl rfl (fun _ h=>h) ⟨y3,t3,by omega,by omega,rfl,rfl,rfl⟩
theorem medAdj_fn(hd:d.size=n)(hn:n≤1000000)(h0:1≤a)(ha:a+1<n)(hs:s≤90):
  Fn prog 220 [.slice p n c,.int .i64 (a:Int),.pointer (some ⟨wb,0,none⟩)] f (slc p n c 35 1 (arr d)::row wb 3 [.int .i64 (s:Int)]::F) (MedP f F (slc p n c 35 1 (arr d)) wb (a-1) a (a+1) s):=by
 obtain⟨a1,rfl⟩:∃a1,a=a1+1:=⟨a-1,by omega⟩;refine Fn.e3 func220 ntmps220 fun base=>?_;refine gV ?_;refine H.Aq rfl rfl rfl (median_fn f F hd hn (a:=a1) (b:=a1+1) (k:=a1+1+1) jA jA ha hs) fun v f' A' hR=>?_;obtain⟨x,t,h1,ht,rfl,hff,rfl⟩:=hR;rw[hff];refine gT ?_;exact H.r1 ⟨x,t,h1,ht,rfl,rfl,rfl⟩
def PivP(f:Frag)(F:List HP)(A1:HP)(a b:Nat):Value→Frag→List HP→Prop:=fun v f' A'=>∃(x:Nat) (h:Int),a≤x∧x<b∧v= .tuple #[.int .i64 (x:Int),.int .i64 h]∧f'=f∧A'=A1::F
theorem pivot_fn(hd:d.size=n)(hn:n≤1000000)(h8:a+8≤b)(hb:b≤n):
  Fn prog 194 [.slice p n c,.int .i64 (a:Int),.int .i64 (b:Int)] f (slc p n c 35 1 (arr d)::F) (PivP f F (slc p n c 35 1 (arr d)) a b):=by
 obtain⟨l,hl⟩:∃l,l=b-a:=⟨_,rfl⟩;have hz:(b:Int)-(a:Int)=(l:Int):=jA
 obtain⟨q,hq0⟩:∃q,q=l / 4:=⟨_,rfl⟩;have hq:IntKind.wrap .i64 ((l:Int).tdiv 4)=(q:Int):=by rw[show(4:Int)=((4:Nat):Int)from rfl,tdiv64,wr_i64 jA,hq0]
 refine Fn.e3 func194 ntmps194 fun base=>?_;repeat(first|(refine H.ar (op:=.sub) (p:=(b:Int)) (p2:=(a:Int)) (z:=(l:Int)) rfl rfl rfl rfl jo rfl ?_)|(refine H.quo (p:=(l:Int)) (z:=(q:Int)) rfl rfl rfl jC hq rfl ?_)|(refine H.Aj (ls:=[.int .i64 0]) rfl rfl rfl fun wb=>?_)|(refine gh ?_))
 refine H.pf (x:=slc p n c _ _ _) ?_;refine H.Bh (d:=10) (u:=.int .i64 ((a+q*1:Nat):Int)) rfl jP ?_;refine H.Bh (d:=11) (u:=.int .i64 ((a+q*2:Nat):Int)) rfl jP ?_;refine H.Bh (d:=12) (u:=.int .i64 ((a+q*3:Nat):Int)) rfl jP ?_;by_cases h50:50≤l
 ·refine gG ?_;refine H.Aq rfl rfl rfl (medAdj_fn f F hd hn (a:=a+q*1) (s:=0) jA jA jA) fun v f' A' hR=>?_;obtain⟨x1,t1,h1,ht1,rfl,hff,rfl⟩:=hR;rw[hff];refine gK ?_;refine H.Aq rfl rfl rfl (medAdj_fn f F hd hn (a:=a+q*2) (s:=t1) jA jA jA) fun v f' A' hR=>?_;obtain⟨x2,t2,h2,ht2,rfl,hff,rfl⟩:=hR;rw[hff];refine gK ?_;refine H.Aq rfl rfl rfl (medAdj_fn f F hd hn (a:=a+q*3) (s:=t2) jA jA jA) fun v f' A' hR=>?_;obtain⟨x3,t3,h3,ht3,rfl,hff,rfl⟩:=hR;rw[hff];refine gK ?_;refine H.Aq rfl rfl rfl (median_fn f F hd hn (a:=x1) (b:=x2) (k:=x3) (s:=t3) jA jA jA jA) fun v f' A' hR=>?_;obtain⟨x,t,h4,ht,rfl,hff,rfl⟩:=hR;rw[hff];by_cases h0:t=0
  ·refine gN ?_;exact qaM
  ·by_cases h12:t=12
   ·refine gO ?_;exact qaM
   ·refine gN ?_;exact qaM
 ·refine gZ ?_;refine H.Aq rfl rfl rfl (median_fn f F hd hn (a:=a+q*1) (b:=a+q*2) (k:=a+q*3) (s:=0) jA jA jA jA) fun v f' A' hR=>?_;obtain⟨x,t,h4,ht,rfl,hff,rfl⟩:=hR;rw[hff];by_cases h0:t=0
  ·refine gN ?_;exact qaM
  ·by_cases h12:t=12
   ·refine gN ?_;exact qaM
   ·refine gN ?_;exact qaM
end
open Go.Sort (swp ltInt insInner insOuter insertionSort siftDown heapBuild heapPop heapSort reverseLoop reverseRange scanUp scanDown partLoop partEqLoop scanSorted shiftDown shiftUp partialIns partialInsertionSort)
open Go.Sort (bitsLen PermIn SortedIn Below permIn_trans permIn_refl insertionSort_holds heapSort_holds partialInsertionSort_holds partition_holds partitionEqual_holds reverseRange_holds swo_ltInt round_eq round_part partition partitionEqual)
section
variable (f:Frag) (F:List HP)
def SrtP(f:Frag)(F:List HP)(p:Option Addr)(n c a b:Nat)(d0:Array Int):Value→Frag→List HP→Prop:=fun v f' A'=>∃d:Array Int,PermIn a b d0 d∧SortedIn ltInt a b d∧v= .tuple #[]∧f'=f∧A'=slc p n c 35 1 (arr d)::F
def pdSt(p:Option Addr)(n c:Nat)(s:Nat×Nat×Int×Bool×Bool×Array Int):Env:=[(0,.slice p n c),(1,.int .i64 (s.1:Int)),(2,.int .i64 (s.2.1:Int)),(3,.int .i64 s.2.2.1),(8,.bool s.2.2.2.1),(9,.bool s.2.2.2.2.1)]
theorem pdq_fn:∀(m:Nat) {p:Option Addr} {n c a0 b0:Nat} {lim0:Int} {d0:Array Int} (hd0:d0.size=n) (hn:n≤255) (ha:a0≤b0) (hb:b0≤n) (hl:0≤lim0∧lim0≤100) (hB:Below ltInt a0 b0 d0) (hm:b0-a0≤m),
  Fn prog 146 [.slice p n c,.int .i64 (a0:Int),.int .i64 (b0:Int),.int .i64 lim0] f (slc p n c 35 1 (arr d0)::F) (SrtP f F p n c a0 b0 d0):=by
 intro m
 induction m with
 | zero =>
  intro p n c a0 b0 lim0 d0 hd0 hn ha hb hl hB hm;have h1:=insertionSort_holds swo_ltInt d0 a0 b0 ha jA;have hz:(b0:Int)-(a0:Int)=0:=jA
  refine Fn.e4 func146 ntmps146 fun base=>?_;refine gT ?_;refine H.lo (ι:=Unit) (fun _=>[(0,.slice p n c),(1,.int .i64 (a0:Int)),(2,.int .i64 (b0:Int))]) (fun _=>f) (fun _=>slc p n c 35 1 (arr d0)::F) (fun _=>True) (fun _=>0) () trivial fun _ _=>?_;show H _ _ _ [(0,.slice p n c),(1,.int .i64 (a0:Int)),(2,.int .i64 (b0:Int))] f (slc p n c _ 1 (arr d0)::F) _;repeat(first|(refine H.ar (op:=.sub) (p:=(b0:Int)) (p2:=(a0:Int)) (z:=0) rfl rfl rfl rfl (by rw[hz];rfl) rfl ?_)|(refine gh ?_))
  refine H.Af rfl rfl rfl (insSort_fn f _ (a:=a0) (b:=b0) hd0 jA hb jA) ?_;refine gT ?_;exact H.ret0 rfl (fun _ h=>h) ⟨_,h1.1,h1.2,rfl,rfl,rfl⟩
 | succ m ih =>
  intro p n c a0 b0 lim0 d0 hd0 hn ha hb hl hB hm;refine Fn.e4 func146 ntmps146 fun base=>?_;refine gT ?_
  refine H.lo (ι:=Nat×Nat×Int×Bool×Bool×Array Int) (pdSt p n c) (fun _=>f) (fun s=>slc p n c 35 1 (arr s.2.2.2.2.2)::F)
   (fun s=>s.1≤s.2.1∧s.2.1≤n∧s.2.1-s.1≤m+1∧s.2.2.2.2.2.size=n∧(0≤s.2.2.1∧s.2.2.1≤100)∧Below ltInt s.1 s.2.1 s.2.2.2.2.2∧∀R,PermIn s.1 s.2.1 s.2.2.2.2.2 R→SortedIn ltInt s.1 s.2.1 R→PermIn a0 b0 d0 R∧SortedIn ltInt a0 b0 R)
   (fun s=>s.2.1-s.1) (a0,b0,lim0,true,true,d0) ⟨ha,hb,hm,hd0,hl,hB,fun R h1 h2=>⟨h1,h2⟩⟩ fun s hs=>?_
  clear hl hB;obtain⟨a,b,lim,wb,wp,d⟩:=s;obtain⟨hab,hbn,hm1,hd,hl,hB,hfin⟩:a≤b∧b≤n∧b-a≤m+1∧d.size=n∧(0≤lim∧lim≤100)∧Below ltInt a b d∧∀R,PermIn a b d R→SortedIn ltInt a b R→PermIn a0 b0 d0 R∧SortedIn ltInt a0 b0 R:=hs;show H _ _ _ [(0,.slice p n c),(1,.int .i64 (a:Int)),(2,.int .i64 (b:Int)),(3,.int .i64 lim),(8,.bool wb),(9,.bool wp)] f (slc p n c _ 1 (arr d)::F) _;obtain⟨l,hl0⟩:∃l,l=b-a:=⟨_,rfl⟩;have hz:(b:Int)-(a:Int)=(l:Int):=jA
  by_cases h12:l≤12
  ·skip;refine qgf ?_;refine H.Af rfl rfl rfl (insSort_fn f _ (a:=a) (b:=b) hd jA hbn jA) ?_;refine gT ?_;have h1:=insertionSort_holds swo_ltInt d a b hab jA;exact qdc
  ·by_cases hl00 : lim = 0
   ·skip;refine qgf ?_;refine H.Af rfl rfl rfl (heapSort_fn f _ (a:=a) (b:=b) hd jA jA hbn) ?_;refine gT ?_;have h1:=heapSort_holds swo_ltInt d a b hab jA;exact qdc
   ·skip;repeat(first|(refine H.ar (op:=.sub) (p:=(b:Int)) (p2:=(a:Int)) (z:=(l:Int)) rfl rfl rfl rfl jo rfl ?_)|((first|apply H.Aw|apply H.Be);(iterate 3 exact rfl))|(first|apply H.seq|apply H.Bg|apply H.nil|apply H.Bj)|((apply H.cmp);(iterate 5 exact rfl))|((apply H.not);(iterate 4 exact rfl))|(first|apply H.skip|apply H.Bl)|(apply H.Cj;exact rfl;(first|assumption|omega)))
    refine H.cut (ι:=Int×Array Int) (fun s=>[(0,.slice p n c),(1,.int .i64 (a:Int)),(2,.int .i64 (b:Int)),(3,.int .i64 s.1),(8,.bool wb),(9,.bool wp),(10,.int .i64 (l:Int))]) (fun _=>f) (fun s=>slc p n c 35 1 (arr s.2)::F) (fun s=>(0≤s.1∧s.1≤100)∧PermIn a b d s.2) _ (fun s hs=>?_) ?_;rotate_left
    ·cases wb with
     | true =>
      refine gV ?_;exact H.Bc (lim,d) ⟨hl,permIn_refl _ _ _⟩ ⟨rfl,rfl,rfl,rfl,rfl,rfl,rfl,trivial⟩ rfl rfl
     | false =>
      refine gD ?_;refine H.Aq rfl rfl rfl (break_fn f F (a:=a) (b:=b) hd hn jA hbn) fun v f' A' hR=>?_;obtain⟨d1,hP,rfl,hff,rfl⟩:=hR;rw[hff];refine gV ?_;exact H.Bc (lim-1,d1) ⟨by show 0≤lim-1∧lim-1≤100;omega,hP⟩ ⟨rfl,rfl,rfl,rfl,rfl,rfl,rfl,trivial⟩ rfl rfl
    obtain⟨lim1,d1⟩:=s;obtain⟨hl1,hP1⟩:(0≤lim1∧lim1≤100)∧PermIn a b d d1:=hs;show H _ _ _ [(0,.slice p n c),(1,.int .i64 (a:Int)),(2,.int .i64 (b:Int)),(3,.int .i64 lim1),(8,.bool wb),(9,.bool wp),(10,.int .i64 (l:Int))] f (slc p n c _ 1 (arr d1)::F) _;have hd1:d1.size=n:=hP1.1.trans hd;refine gK ?_
    refine H.Aq rfl rfl rfl (pivot_fn f F (a:=a) (b:=b) hd1 jA jA hbn) fun v f' A' hR=>?_;obtain⟨x,h,hx1,hx2,rfl,hff,rfl⟩:=hR;rw[hff];repeat(first|((first|apply H.Aw|apply H.Be);(iterate 3 exact rfl))|(first|apply H.seq|apply H.Bg|apply H.nil|apply H.Bj)|((apply H.cmp);(iterate 5 exact rfl))|((apply H.Bv);(iterate 4 exact rfl)))
    refine H.cut (ι:=Nat×Int×Array Int) (fun s=>[(11,.int .i64 (s.1:Int)),(12,.int .i64 s.2.1),(0,.slice p n c),(1,.int .i64 (a:Int)),(2,.int .i64 (b:Int)),(3,.int .i64 lim1),(8,.bool wb),(9,.bool wp),(10,.int .i64 (l:Int))]) (fun _=>f) (fun s=>slc p n c 35 1 (arr s.2.2)::F) (fun s=>a≤s.1∧s.1<b∧PermIn a b d s.2.2) _ (fun s hs=>?_) ?_;rotate_left
    ·by_cases h2:h=2
     ·have hpz:(b:Int)-1-((x:Int)-(a:Int))=((b-1-(x-a):Nat):Int):=jA
      refine gG ?_;refine H.Af rfl rfl rfl (reverse_fn f _ (a:=a) (b:=b) hd1 jA jA hbn) ?_;repeat(first|(refine H.ar (op:=.sub) (p:=(b:Int)-1) (p2:=(x:Int)-(a:Int)) (z:=((b-1-(x-a):Nat):Int)) rfl rfl rfl rfl (by rw[hpz,wr_i64 jA]) rfl ?_)|(refine gh ?_))
      exact H.Bc (b-1-(x-a),1,Go.Sort.reverseRange d1 a b) ⟨by show a≤b-1-(x-a);omega,by show b-1-(x-a)<b;omega,permIn_trans _ _ _ _ _ hP1 (reverseRange_holds d1 a b hab jA)⟩ ⟨rfl,rfl,rfl,rfl,rfl,rfl,rfl,rfl,rfl,trivial⟩ rfl rfl
     ·refine gZ ?_;exact H.Bc (x,h,d1) ⟨hx1,hx2,hP1⟩ ⟨rfl,rfl,rfl,rfl,rfl,rfl,rfl,rfl,rfl,trivial⟩ rfl rfl
    clear hP1 hd1 hx1 hx2;obtain⟨pv,hh,d2⟩:=s;obtain⟨hp1,hp2,hP2⟩:a≤pv∧pv<b∧PermIn a b d d2:=hs;show H _ _ _ [(11,.int .i64 (pv:Int)),(12,.int .i64 hh),(0,.slice p n c),(1,.int .i64 (a:Int)),(2,.int .i64 (b:Int)),(3,.int .i64 lim1),(8,.bool wb),(9,.bool wp),(10,.int .i64 (l:Int))] f (slc p n c _ 1 (arr d2)::F) _;have hd2:d2.size=n:=hP2.1.trans hd;repeat apply H.seq
    refine H.cut (ι:=Bool) (fun t=>[(68,.bool t),(11,.int .i64 (pv:Int)),(0,.slice p n c),(1,.int .i64 (a:Int)),(2,.int .i64 (b:Int)),(3,.int .i64 lim1),(8,.bool wb),(9,.bool wp),(10,.int .i64 (l:Int))]) (fun _=>f) (fun _=>slc p n c 35 1 (arr d2)::F) (fun _=>True) _ (fun t _=>?_) ?_;rotate_left
    ·cases wb with
     | false =>
      exact qcL
     | true =>
      cases wp with
      | false =>
       exact qcL
      | true =>
       refine gQ ?_;exact H.Bc _ trivial ⟨rfl,rfl,rfl,rfl,rfl,rfl,rfl,rfl,rfl,trivial⟩ rfl rfl
    show H _ _ _ [(68,.bool t),(11,.int .i64 (pv:Int)),(0,.slice p n c),(1,.int .i64 (a:Int)),(2,.int .i64 (b:Int)),(3,.int .i64 lim1),(8,.bool wb),(9,.bool wp),(10,.int .i64 (l:Int))] f (slc p n c _ 1 (arr d2)::F) _;refine H.cut (ι:=Array Int) (fun _=>[(11,.int .i64 (pv:Int)),(0,.slice p n c),(1,.int .i64 (a:Int)),(2,.int .i64 (b:Int)),(3,.int .i64 lim1),(8,.bool wb),(9,.bool wp),(10,.int .i64 (l:Int))]) (fun _=>f) (fun s=>slc p n c 35 1 (arr s)::F) (fun s=>PermIn a b d s) _ (fun d3 hP3=>?_) ?_;rotate_left
    ·cases t with
     | false =>
      refine gV ?_;exact H.Bc d2 hP2 ⟨rfl,rfl,rfl,rfl,rfl,rfl,rfl,rfl,trivial⟩ rfl rfl
     | true =>
      have h1:=partialInsertionSort_holds swo_ltInt d2 a b jA jA (hB.perm jA hP2);have h2:=permIn_trans _ _ _ _ _ hP2 h1.1
      refine gD ?_;refine H.Af rfl rfl rfl (partIns_fn f _ (a:=a) (b:=b) hd2 jA jA hbn) ?_;generalize partialInsertionSort ltInt d2 a b=r at *;obtain⟨d3,r2⟩:=r
      cases r2 with
      | true =>
       refine gX ?_;have h3:=hfin d3 h2 (h1.2 rfl);exact H.ret0 rfl (fun _ h=>h) ⟨d3,h3.1,h3.2,rfl,rfl,rfl⟩
      | false =>
       refine gV ?_;exact H.Bc d3 h2 ⟨rfl,rfl,rfl,rfl,rfl,rfl,rfl,rfl,trivial⟩ rfl rfl
    clear hP2 hd2;show H _ _ _ [(11,.int .i64 (pv:Int)),(0,.slice p n c),(1,.int .i64 (a:Int)),(2,.int .i64 (b:Int)),(3,.int .i64 lim1),(8,.bool wb),(9,.bool wp),(10,.int .i64 (l:Int))] f (slc p n c _ 1 (arr d3)::F) _;have hd3:d3.size=n:=hP3.1.trans hd;have hB3:=hB.perm jA hP3
    repeat apply H.seq
    refine H.cut (ι:=Bool) (fun t=>[(87,.bool t),(11,.int .i64 (pv:Int)),(0,.slice p n c),(1,.int .i64 (a:Int)),(2,.int .i64 (b:Int)),(3,.int .i64 lim1),(8,.bool wb),(9,.bool wp),(10,.int .i64 (l:Int))]) (fun _=>f) (fun _=>slc p n c 35 1 (arr d3)::F) (fun t=>t=true→0<a∧ltInt d3[a-1]! d3[pv]! =false) _ (fun t ht=>?_) ?_;rotate_left
    ·refine H.Ar (p:=p) (n0:=n) (c:=c) (T:=35) (sz:=1) (xs:=arr d3) aP0 jA fun sb hp=>?_;subst hp;by_cases ha0:0<a
     ·obtain⟨a1,rfl⟩:∃a1,a=a1+1:=⟨a-1,by omega⟩;refine qeH ?_;refine HB.qu [0,1,2,3,4,5,6,7,8,9,10,11] 3 ?_;refine gP ?_;refine HQ.Ah (i:=a1) rfl rfl rfl jA jA rfl ?_;refine qhD ?_;refine HQ.Ah (i:=pv) rfl rfl rfl jA jA rfl ?_;refine qeg ?_;refine qh ?_;refine H.Af rfl rfl rfl (zce f _ d3[a1]! d3[pv]!) ?_;refine qed ?_;refine HB.qu [13,14] 0 ?_;refine qjz ?_
      cases hlx:ltInt d3[a1]! d3[pv]! with
      | true =>
       exact qcG
      | false =>
       skip;exact H.Bc true (fun _=>⟨ha0,hlx⟩) ⟨rfl,rfl,rfl,rfl,rfl,rfl,rfl,rfl,rfl,trivial⟩ rfl rfl
     ·skip;refine qeH ?_;refine qjo ?_;refine qfh ?_;exact qcG
    show H _ _ _ [(87,.bool t),(11,.int .i64 (pv:Int)),(0,.slice p n c),(1,.int .i64 (a:Int)),(2,.int .i64 (b:Int)),(3,.int .i64 lim1),(8,.bool wb),(9,.bool wp),(10,.int .i64 (l:Int))] f (slc p n c _ 1 (arr d3)::F) _
    cases t with
    | true =>
     obtain⟨ha0,hnl⟩:=ht rfl;obtain⟨g1,g2,g3,g4,g5⟩:=round_eq swo_ltInt (partitionEqual_holds ltInt) ha0 hp1 hp2 jA hB3 hnl (d4:=(partitionEqual ltInt d3 a b pv).2) (mid:=(partitionEqual ltInt d3 a b pv).1) rfl;refine gD ?_;refine H.Af rfl rfl rfl (partEq_fn f _ (a:=a) (b:=b) (pivot:=pv) hd3 jA hp1 hp2 hbn) ?_;generalize(partitionEqual ltInt d3 a b pv).1=mid at *;generalize(partitionEqual ltInt d3 a b pv).2=d4 at *;refine gT ?_
     exact H.Av (mid,b,lim1,wb,wp,d4) ⟨by show mid≤b;omega,hbn,by show b-mid≤m+1;omega,by show d4.size=n;omega,hl1,g4,fun R h1 h2=>by
      have h3:=g5 R h1 h2
      exact hfin R (permIn_trans _ _ _ _ _ hP3 h3.1) h3.2⟩ (by show b-mid<b-a;omega) ⟨rfl,rfl,rfl,rfl,rfl,rfl,trivial⟩ rfl rfl
    | false =>
     have hrp:=round_part swo_ltInt (partition_holds ltInt) hp1 hp2 (by omega:b≤d3.size) hB3 (d4:=(partition ltInt d3 a b pv).2.2) (ap:=(partition ltInt d3 a b pv).2.1) (mid:=(partition ltInt d3 a b pv).1) rfl;have hq:IntKind.wrap .i64 ((l:Int).tdiv 8)=((l / 8:Nat):Int):=by rw[show(8:Int)=((8:Nat):Int)from rfl,tdiv64,wr_i64 jA]
     refine gV ?_;refine H.Aq rfl rfl rfl (partition_fn f F (a:=a) (b:=b) (pivot:=pv) hd3 jA hp1 hp2 hbn) fun v f' A' hR=>?_;generalize(partition ltInt d3 a b pv).1=mid at *;generalize(partition ltInt d3 a b pv).2.2=d4 at *;obtain⟨ap,rfl,hff,rfl⟩:=hR;rw[hff];obtain⟨g1,g2,g3,g4,g5,g6,g7⟩:=hrp;by_cases hlr:mid-a<b-mid
     ·skip;refine qjP ?_;refine H.Aq rfl rfl rfl (ih (n:=n) (c:=c) (p:=p) (a0:=a) (b0:=mid) (lim0:=lim1) (d0:=d4) jA hn g1 jA hl1 g4 jA) fun v f' A' hR=>?_;obtain⟨L,hL1,hL2,rfl,hff,rfl⟩:=hR;rw[hff];obtain⟨k1,k2⟩:=g6 L hL1 hL2;refine gV ?_
      exact H.Av (mid+1,b,lim1,_,ap,L) ⟨by show mid+1≤b;omega,hbn,by show b-(mid+1)≤m+1;omega,by show L.size=n;have:=hL1.1;omega,hl1,k1,fun R h1 h2=>by
       have h3:=k2 R h1 h2
       exact hfin R (permIn_trans _ _ _ _ _ hP3 h3.1) h3.2⟩ (by show b-(mid+1)<b-a;omega) ⟨rfl,rfl,rfl,rfl,rfl,rfl,trivial⟩ rfl rfl
     ·skip;refine qjP ?_;refine H.Aq rfl rfl rfl (ih (n:=n) (c:=c) (p:=p) (a0:=mid+1) (b0:=b) (lim0:=lim1) (d0:=d4) jA hn jA hbn hl1 g5 jA) fun v f' A' hR=>?_;obtain⟨L,hL1,hL2,rfl,hff,rfl⟩:=hR;rw[hff];obtain⟨k1,k2⟩:=g7 L hL1 hL2;refine gT ?_
      exact H.Av (a,mid,lim1,_,ap,L) ⟨g1,by show mid≤n;omega,by show mid-a≤m+1;omega,by show L.size=n;have:=hL1.1;omega,hl1,k1,fun R h1 h2=>by
       have h3:=k2 R h1 h2
       exact hfin R (permIn_trans _ _ _ _ _ hP3 h3.1) h3.2⟩ (by show mid-a<b-a;omega) ⟨rfl,rfl,rfl,rfl,rfl,rfl,trivial⟩ rfl rfl
end
def w15C(kb n:Nat)(ap:Option Addr)(m ac lb:Nat):List Value:=[.slice (some ⟨kb,0,none⟩) n n,.slice ap m ac,.pointer (some ⟨lb,0,none⟩)]
variable {kb m ac o:Nat} {ap:Option Addr}
section
variable (f:Frag) (F:List HP)
theorem great_fn(hfl:Le fl f)(hL:LI l T)(ho:o<l.n):
  Fn prog 65 [.pointer (some ⟨wb,0,none⟩),.int .i64 ((o+1:Nat):Int)] f (logsH fl lb l::row wb 32 (w15C kb n ap m ac lb)::F)
   (Ret (.int .u64 (l.past o).g) f (logsH fl lb l::row wb 32 (w15C kb n ap m ac lb)::F)):=by
 refine qjW fun i0 hi=>?_;obtain⟨V,vp,vc,pp,pc,cp,cc,pb,cs⟩:=i0;have hiF:=hi.mono hfl;have hn:=hL.n3
 obtain⟨pbb,poff,hpp0,rdp0⟩:=hiF.past (by show 0<l.n;omega);have hpp:pp=some ⟨pbb,poff,none⟩:=hpp0;have rdp:∀ {A:List HP} {r:Nat},r<l.n→Rd1 f A pbb (poff+r) (.pointer (some ⟨pb r,0,none⟩)):=fun {A r} hr=>rdp0 (Le.refl f) hr
 clear hpp0 rdp0;show Fn _ _ _ f (row lb 152 (lgC l.n l.known vp V.length vc pp pc cp cc)::slc vp V.length vc 147 4 (V.flatMap VV.vals)::lst (V.map VV.own)::fam (fun r=>pstH (pb r) (l.past r)) l.n::slc cp l.n cc 195 1 (chRow l cs)::fam (chFam l cs) l.n::_::F) _;refine Fn.e2 func65 ntmps65 fun base=>?_;refine gc ?_;refine H.Ak (b:=pbb) (off:=poff) (i:=o) rfl kd rfl jA ho rfl ?_;refine H.Ad rfl rfl rfl (by rw[Nat.mul_one];exact rdp ho) rfl ?_;refine qfT ?_;refine H.Bp ho ?_;refine pstH_openH fun eb ec=>?_;refine gN ?_;refine H.imp (zay (b:=pb o) (eb:=eb) (ec:=ec) (s:=l.past o)) ?_;refine H.Cg (g:=fun r=>pstH (pb r) (l.past r)) ho ?_;refine qee ?_;refine H.imp (zah ⟨V,vp,vc,pp,pc,cp,cc,pb,cs⟩ hi) ?_;exact qam
theorem byte_toNat{k:Nat}(h:k<256):((UInt8.ofNat k).toNat:Int)=(k:Int):=by
 exact qcI
theorem ask_fn(x:A15):Fn prog 66 [.agg x.vals.toArray] f F (Ret (.agg x.req.vals.toArray) f F):=by
 have hcm:((x.client.toNat % 3:Nat):Int)≤2:=jA
 have hkm:((x.key.toNat % 4:Nat):Int)≤3:=jA
 have htm:((x.time.toNat % 10:Nat):Int)≤9:=jA
 have ht:=x.time.toNat_lt;have hsg:=fun G=>rsigned_fn f G x.req0
 refine Fn.e1 func66 ntmps66 fun base=>?_;refine qej fun xb=>?_;refine qgK fun ob=>?_;refine gF ?_;refine H.rem (z:=((x.client.toNat % 3:Nat):Int)) rfl rfl rfl jC (zak (b:=3) rfl) rfl ?_;refine gH ?_;refine H.rem (z:=((x.key.toNat % 4:Nat):Int)) rfl rfl rfl jC (zak (b:=4) rfl) rfl ?_;refine gH ?_;refine H.Bh (d:=16) (u:=.int .u8 ((UInt8.ofNat (97+x.key.toNat % 4)).toNat:Nat)) rfl (by rw[byte_toNat jA];rfl) ?_;refine H.Am (out:=bytesV [UInt8.ofNat (97+x.key.toNat % 4)]) rfl rfl rfl rfl jC jC rfl rfl fun eb=>?_;refine H.convBS (bs:=[UInt8.ofNat (97+x.key.toNat % 4)]) rfl rfl (Src.slice (Rd.ofRow aP0) rfl) (fun h=>by cases h) rfl ?_;refine gH ?_;refine H.rem (z:=((x.time.toNat % 10:Nat):Int)) rfl rfl rfl jC (zak (b:=10) rfl) rfl ?_;refine gH ?_;refine H.Bh (d:=22) (u:=.int .u8 ((UInt8.ofNat (48+x.time.toNat % 10)).toNat:Nat)) rfl (by rw[byte_toNat jA];rfl) ?_;refine H.Am (out:=bytesV [UInt8.ofNat (48+x.time.toNat % 10)]) rfl rfl rfl rfl jC jC rfl rfl fun eb2=>?_;refine H.convBS (bs:=[UInt8.ofNat (48+x.time.toNat % 10)]) rfl rfl (Src.slice (Rd.ofRow aP0) rfl) (fun h=>by cases h) rfl ?_;refine qjn ?_;repeat(first|(refine H.Ay (t:=49) (out:=x.req0.vals) rfl rfl rfl jD rfl ?_)|(refine gh ?_))
 refine qgK fun rb=>?_;refine H.Ag (ls:=Req.zero.vals) (vs:=x.req0.vals) (ls':=x.req0.vals) rfl rfl rfl (zaa rfl) rfl rfl (Nat.le_refl 40) aP0 ?_;refine gF ?_;unfold A15.req
 cases hno:x.no with
 | true =>
  refine gX ?_;refine H.Ab (ls:=x.req0.vals) rfl rfl rfl (Rd.ofRow aP0) rfl rfl ?_;refine H.Ag (ls:=Req.zero.vals) (vs:=x.req0.vals) (ls':=x.req0.vals) rfl rfl rfl (zaa rfl) rfl rfl (Nat.le_refl 40) at1 ?_;refine qjb ?_;refine qgV ?_;exact H.Ax (ls:=x.req0.vals) rfl rfl rfl (Rd.ofRow aP0) rfl (fun _ s=>s.drop (.here _ _)) ⟨rfl,rfl,rfl⟩
 | false =>
  refine gV ?_;refine H.Ab (ls:=x.req0.vals) rfl rfl rfl (Rd.ofRow aP0) rfl rfl ?_;refine H.cr (hsg _) ?_;refine H.Ag (ls:=Req.zero.vals) (vs:=x.req0.signed.vals) (ls':=x.req0.signed.vals) rfl rfl rfl (zaa rfl) rfl rfl (Nat.le_refl 40) at1 ?_;refine qjb ?_;refine qgV ?_;exact H.Ax (ls:=x.req0.signed.vals) rfl rfl rfl (Rd.ofRow aP0) rfl (fun _ s=>s.drop (.here _ _)) ⟨rfl,rfl,rfl⟩
end
def A15.Has(f:Frag)(x:A15):Prop:=BAt f x.qp x.q
theorem qAcc_stop{row:Nat→List (Int×Int)}{half:Nat}:∀ {k m:Nat},k≤m→half<(qAcc row half k).length→qAcc row half m=qAcc row half k
 | k, 0, h, _ => by
  have:k=0:=jA
  rw[this]
 | k, m + 1, h, hl => by
  by_cases e:k=m+1
  ·rw[e]
  ·have ih:=qAcc_stop (m:=m) jA hl
   show(if(qAcc row half m).length≤half then qAcc row half m++row m else qAcc row half m)=_
   rw[ih,if_neg jA]
def qPart(ch:Nat→List (Int×Int))(kv:Nat→Int)(v:Int)(raw:Bool)(r i:Nat):List (Int×Int):=(((ch r).take i).filter fun c=>decide (c.1=v)&& decide (c.2≤kv r)&& !raw).map fun c=>(((r+1:Nat):Int),c.2)
theorem qPart_all(ch:Nat→List (Int×Int))(kv:Nat→Int)(v:Int)(raw:Bool)(r:Nat):qPart ch kv v raw r (ch r).length=qRow ch kv v raw r:=by unfold qPart qRow;rw[List.take_length]
theorem qPart_next{ch:Nat→List (Int×Int)}{kv:Nat→Int}{raw:Bool}{r i:Nat}{c:Int×Int}(hc:(ch r)[i]? =some c):qPart ch kv v raw r (i+1)=qPart ch kv v raw r i++(if(decide (c.1=v)&& decide (c.2≤kv r)&& !raw)=true then [(((r+1:Nat):Int),c.2)]else []):=by
 unfold qPart;rw[filt_take hc,List.map_append];congr 1;split<;>rfl
theorem qPart_len(ch:Nat→List (Int×Int))(kv:Nat→Int)(v:Int)(raw:Bool)(r i:Nat):(qPart ch kv v raw r i).length≤(ch r).length:=by
 unfold qPart;rw[List.length_map];exact qdi
variable {x:A15}
section
variable (f:Frag) (F:List HP)
theorem q15_fn(hfl:Le fl f)(hL:LI l T)(hT:T≤1000)(hnn:l.n=n)(ho:o<n){kv:Nat→Nat→Int}(hx:x.Has f)(hq20:x.q.length≤20)(v:Int):
  Fn prog 68 [.pointer (some ⟨wb,0,none⟩),.int .i64 ((o+1:Nat):Int),.agg x.vals.toArray,.int .u64 v] f (logsH fl lb l::row wb 32 (w15C kb n ap m ac lb)::row kb 37 (kRow n kv)::F)
   (RetE (fun i:Option Addr×Nat=>.slice i.1 (x.qs n l.ch (kv o) v).length i.2) f (fun i=>slc i.1 (x.qs n l.ch (kv o) v).length i.2 127 2 ((x.qs n l.ch (kv o) v).flatMap pairV)::logsH fl lb l::row wb 32 (w15C kb n ap m ac lb)::row kb 37 (kRow n kv)::F)):=by
 refine qjW fun i0 hi=>?_;obtain⟨V,vp,vc,pp,pc,cp,cc,pb,cs⟩:=i0;have hn:=hL.n3;obtain⟨acc,hacc⟩:∃acc:Nat→List (Int×Int),acc=qAcc (qRow l.ch (kv o) v x.raw) ((n-1) / 2):=⟨_,rfl⟩
 have hal:∀k,(acc k).length≤(n-1) / 2+T:=fun k=>by rw[hacc];exact qAcc_len (fun r=>Nat.le_trans (qRow_len _ _ _ _ r) (hL.cl r)) k
 show Fn _ _ _ f (row lb 152 (lgC l.n l.known vp V.length vc pp pc cp cc)::slc vp V.length vc 147 4 (V.flatMap VV.vals)::lst (V.map VV.own)::fam (fun r=>pstH (pb r) (l.past r)) l.n::slc cp l.n cc 195 1 (chRow l cs)::fam (chFam l cs) l.n::row wb 32 (w15C kb n ap m ac lb)::row kb 37 (kRow n kv)::F) _;refine Fn.e4 func68 ntmps68 fun base=>?_;refine qej fun xb=>?_;refine gN ?_;refine H.slc0 127 2 ?_;refine qee ?_;refine qeE ?_;refine H.pf (x:=slc none _ _ _ _ _) ?_;refine qfl ?_
 refine H.loop (ι:=Nat×Option Addr×Nat) (fun s=>[(11,.int .i64 ((s.1+1:Nat):Int)),(9,.slice s.2.1 (acc s.1).length s.2.2),(10,.int .i64 (n:Int)),(0,.pointer (some ⟨wb,0,none⟩)),(1,.int .i64 ((o+1:Nat):Int)),(3,.int .u64 v),(6,.pointer (some ⟨xb,0,none⟩))]) (fun _=>f)
  (fun s=>row xb 71 x.vals::slc s.2.1 (acc s.1).length s.2.2 127 2 ((acc s.1).flatMap pairV)::row wb 32 (w15C kb n ap m ac lb)::row kb 37 (kRow n kv)::row lb 152 (lgC l.n l.known vp V.length vc pp pc cp cc)::slc vp V.length vc 147 4 (V.flatMap VV.vals)::lst (V.map VV.own)::fam (fun r=>pstH (pb r) (l.past r)) l.n::slc cp l.n cc 195 1 (chRow l cs)::fam (chFam l cs) l.n::F)
  (fun s=>s.1≤n) (fun s=>n-s.1) (0,none,0) (Nat.zero_le _) ⟨rfl,by rw[hacc];rfl,rfl,rfl,rfl,rfl,rfl,trivial⟩ rfl (by rw[hacc];rfl) fun s hs=>?_
 obtain⟨r,qp,qc⟩:=s;have hrn:r≤n:=hs;have halr:=hal r
 show H _ _ _ [(11,.int .i64 ((r+1:Nat):Int)),(9,.slice qp (acc r).length qc),_,_,_,_,_] f (_::slc qp (acc r).length qc _ 2 ((acc r).flatMap pairV)::_::_::_::_::_::_::_::_::F) _
 have hquo:(((n:Int)-1).tdiv 2)=(((n-1) / 2:Nat):Int):=by
  rw[show((n:Int)-1)=((n-1:Nat):Int) by omega];exact(Int.ofNat_tdiv (n-1) 2).symm
 by_cases hgo:r<n∧(acc r).length≤(n-1) / 2
 ·obtain⟨hr,hlen⟩:=hgo;have hrl:r<l.n:=jA
  have hcl:=hL.cl r;have hr11:r<11:=jA
  refine qkh fun cb hcb=>?_;have hCd:∀ {A A':List HP},At A (slc cp l.n cc 195 1 (chRow l cs)) A' (slc cp l.n cc 195 1 (chRow l cs))→Rd f A cb 0 (chRow l cs):=fun {A A'} h=>Rd.ofSlc (n:=l.n) (c:=cc) (T:=195) (sz:=1) (by rw[←hcb];exact h) jA
  have hsucc:acc (r+1)=acc r++qRow l.ch (kv o) v x.raw r:=by
   rw[hacc]at hlen⊢;show(if _ then _ else _)=_;rw[if_pos hlen]
  refine qjN ?_;refine gg ?_;refine H.Ak (b:=cb) (off:=0) (i:=r) rfl (by rw[←hcb];rfl) rfl jA hrl rfl ?_;refine H.Ad rfl rfl rfl (by rw[Nat.zero_add,Nat.mul_one];exact Rd1.at0 (hCd jB) (rngV_get _ hrl)) rfl ?_;refine gT ?_;refine qhW ?_;refine H.Bp hrl ?_;refine H.pf (x:=fam (updF _ _ _) _) ?_;refine qfd ?_;refine qfI ?_;refine qeE ?_;refine H.pf (x:=slc qp _ qc _ _ _) ?_;refine H.pf (x:=chFam l cs r) ?_;refine qfl ?_;obtain⟨pt,hpt⟩:∃pt:Nat→List (Int×Int),pt=fun i=>acc r++qPart l.ch (kv o) v x.raw r i:=⟨_,rfl⟩;have hp0:pt 0=acc r:=by rw[hpt];show acc r++ []=_;rw[List.append_nil]
  have hpl:∀i,(pt i).length≤(n-1) / 2+T+T:=fun i=>by
   rw[hpt];show(acc r++_).length≤_;rw[List.length_append]
   have:=qPart_len l.ch (kv o) v x.raw r i;omega
  refine H.loop (ι:=Nat×Option Addr×Nat) (fun s=>[(13,.int .i64 (s.1:Int)),(12,.slice (cs r).1 (l.ch r).length (cs r).2),(9,.slice s.2.1 (pt s.1).length s.2.2),(11,.int .i64 ((r+1:Nat):Int)),(10,.int .i64 (n:Int)),(0,.pointer (some ⟨wb,0,none⟩)),(1,.int .i64 ((o+1:Nat):Int)),(3,.int .u64 v),(6,.pointer (some ⟨xb,0,none⟩))]) (fun _=>f)
   (fun s=>row xb 71 x.vals::chFam l cs r::slc s.2.1 (pt s.1).length s.2.2 127 2 ((pt s.1).flatMap pairV)::row wb 32 (w15C kb n ap m ac lb)::row kb 37 (kRow n kv)::row lb 152 (lgC l.n l.known vp V.length vc pp pc cp cc)::slc vp V.length vc 147 4 (V.flatMap VV.vals)::lst (V.map VV.own)::fam (fun r=>pstH (pb r) (l.past r)) l.n::slc cp l.n cc 195 1 (chRow l cs)::fam (updF (chFam l cs) r emp) l.n::F)
   (fun s=>s.1≤(l.ch r).length) (fun s=>(l.ch r).length-s.1) (0,qp,qc) (Nat.zero_le _) ⟨rfl,rfl,by rw[hp0];rfl,rfl,rfl,rfl,rfl,rfl,rfl,trivial⟩ rfl (by rw[hp0]) fun s hs=>?_
  obtain⟨i,qp,qc⟩:=s;have hi2:i≤(l.ch r).length:=hs;have hpli:=hpl i
  show H _ _ _ [(13,.int .i64 (i:Int)),_,(9,.slice qp (pt i).length qc),_,_,_,_,_,_] f (_::_::slc qp (pt i).length qc _ 2 ((pt i).flatMap pairV)::_::_::_::_::_::_::_::_::F) _;by_cases hlt:i<(l.ch r).length
  ·obtain⟨y,hy⟩:∃y,(l.ch r)[i]? =some y:=⟨_,List.getElem?_eq_getElem hlt⟩;refine qiH fun sb hp=>?_
   have rd:∀ {G0:HP} {G:List HP},Rd f (G0::chFam l cs r::G) sb (0+i*2) (chV y):=fun {G0 G}=>by
    rw[Nat.zero_add];exact Rd.slcElem (vals:=chV) (xs:=l.ch r) (n:=(l.ch r).length) (c:=(cs r).2) (T:=197) chV_len jC kX hy
   have hnx:pt (i+1)=pt i++(if(decide (y.1=v)&& decide (y.2≤kv o r)&& !x.raw)=true then [(((r+1:Nat):Int),y.2)]else []):=by
    rw[hpt];show acc r++qPart _ _ _ _ _ (i+1)=acc r++qPart _ _ _ _ _ i++_;rw[qPart_next hy,List.append_assoc]
   refine gG ?_;refine H.dq ?_;refine gB ?_;refine qkP ?_;refine HQ.Ad rfl rfl rfl (Rd1.of (i:=0) rd rfl) rfl ?_;refine gM ?_;by_cases h1:y.1=v
   ·skip;refine gM ?_;refine qkP ?_;refine HQ.Ad rfl rfl rfl (Rd1.of (i:=1) rd rfl) rfl ?_;refine gW ?_;refine HQ.Ak (b:=kb) (off:=0) (i:=o) rfl rfl rfl jA ho rfl ?_;refine HQ.Ao (i:=r) rfl rfl rfl jA hr11 rfl ?_;refine HQ.Ad rfl rfl rfl (by rw[Nat.zero_add,Nat.mul_one];exact Rd1.of (Rd.kRow (Rd.ofRow jB) ho) (zav (kv o) hr11)) rfl ?_;refine gP ?_;by_cases h2:y.2≤kv o r
    ·by_cases hraw : x.raw = true
     ·have hr1:(!x.raw)=false:=by rw[hraw];rfl
      rw[hraw,Bool.not_true,Bool.and_false,if_neg jC,List.append_nil]at hnx;refine gP ?_;refine gg ?_;exact qaw
     ·have hraw:x.raw=false:=by
       cases e:x.raw with
       |true=>exact absurd e hraw
       |false=>rfl
      have hr1:(!x.raw)=true:=by rw[hraw];rfl
      rw[hraw,decide_eq_true h1,decide_eq_true h2,if_pos jC]at hnx;refine gP ?_;refine gU ?_;refine H.Ak (b:=sb) (off:=0) (i:=i) rfl (by rw[←hp];rfl) rfl rfl hlt rfl ?_;refine gH ?_;refine H.Ad rfl rfl rfl (Rd1.of (i:=1) rd rfl) rfl ?_;refine gQ ?_;refine H.Am (out:=pairV (((r+1:Nat):Int),y.2)) rfl rfl rfl rfl jC jC rfl rfl fun eb=>?_;refine H.Au (sz:=2) (p:=qp) (n0:=(pt i).length) (c:=qc) (xs:=(pt i).flatMap pairV) (m:=1) (news:=pairV (((r+1:Nat):Int),y.2)) rfl rfl rfl rfl rfl (fun p' c'=>jB) (Src.slice (Rd.ofRow jB) rfl) (zaa rfl) rfl jA jA fun p2 c2=>?_;refine gV ?_;refine qgI ?_;refine H.Av (i+1,p2,c2) (by show i+1≤(l.ch r).length;omega) jT ⟨rfl,rfl,?_,rfl,rfl,rfl,rfl,rfl,rfl,trivial⟩ rfl ?_
      ·show some (Value.slice p2 ((pt i).length+1) c2)=some (Value.slice p2 (pt (i+1)).length c2);rw[hnx,List.length_append];rfl
      ·show _::_::slc p2 ((pt i).length+1) c2 _ 2 _::_=_::_::slc p2 (pt (i+1)).length c2 _ 2 ((pt (i+1)).flatMap pairV)::_;rw[hnx,List.length_append,List.flatMap_append];simp
    ·rw[decide_eq_false h2,Bool.and_false,Bool.false_and,if_neg jC,List.append_nil]at hnx;refine gI ?_;refine gV ?_;exact qaw
   ·rw[decide_eq_false h1,Bool.false_and,Bool.false_and,if_neg jC,List.append_nil]at hnx;refine gI ?_;refine gV ?_;exact qaw
  ·have e:i=(l.ch r).length:=jA
   subst e;have hpe:pt (l.ch r).length=acc (r+1):=by rw[hsucc,hpt,←qPart_all]
   rw[hpe];refine gZ ?_;refine H.pf (x:=fam (updF _ _ _) _) ?_;refine H.pf (x:=chFam l cs r) ?_;refine H.Cg (g:=chFam l cs) hrl ?_;refine qee ?_;refine qeE ?_;refine H.pf (x:=slc qp _ qc _ _ _) ?_;refine qfl ?_;exact H.ag (r+1,qp,qc) (by show r+1≤n;omega) (by show n-(r+1)<n-r;omega)
 ·have hfin:acc n=acc r:=by
   by_cases e:r=n
   ·rw[e]
   ·rw[hacc];exact qAcc_stop hrn (by rw[←hacc];omega)
  have hqe:qAcc (qRow l.ch (kv o) v x.raw) ((n-1) / 2) n=acc r:=by rw[←hfin,hacc]
  by_cases hr:r<n
  ·have hlen:(n-1) / 2<(acc r).length:=jA
   refine qjN ?_;have h0:0<(acc r).length:=jA
   exact qaJ
  ·by_cases h0 : 0 < (acc r).length
   ·skip;exact qaJ
   ·by_cases hq0 : x.q.length = 0
    ·skip;refine gU ?_;refine qgV ?_;refine qee ?_;refine H.imp (zah ⟨V,vp,vc,pp,pc,cp,cc,pb,cs⟩ hi) ?_;refine H.pf (x:=slc qp _ qc _ _ _) ?_;have hqs:x.qs n l.ch (kv o) v=acc r:=by unfold A15.qs;rw[if_pos (.inr hq0),hqe]
     rw[hqs];exact H.r1 ⟨(qp,qc),rfl,rfl,rfl⟩
    ·have hnil:acc r= []:=List.eq_nil_of_length_eq_zero jA
     have hqs:x.qs n l.ch (kv o) v=qNum x.q (if n≤x.q.length then n else x.q.length):=by
      unfold A15.qs;rw[hqe,if_neg (by rintro(h|h);exact h0 h;exact hq0 h)]
     rw[hqs,hnil];clear hqs hqe hfin;refine gU ?_;rcases hx with e0|⟨qb,qoff,qcs,qT,qfr,hqp,hqfb,hqcs⟩
     ·rw[e0]at hq0;exact absurd rfl hq0
     ·have hrdo:∀A,Rd f A qb qoff (bytesV x.q):=fun A=>Rd.imm hqfb fun j hj=>by rw[zac]at hj;exact hqcs j hj
      refine H.lo (ι:=Nat×Option Addr×Nat) (fun s=>[(14,.int .i64 ((s.1+1:Nat):Int)),(9,.slice s.2.1 s.1 s.2.2),(10,.int .i64 (n:Int)),(6,.pointer (some ⟨xb,0,none⟩))]) (fun _=>f)
       (fun s=>row xb 71 x.vals::slc s.2.1 s.1 s.2.2 127 2 ((qNum x.q s.1).flatMap pairV)::row wb 32 (w15C kb n ap m ac lb)::row kb 37 (kRow n kv)::row lb 152 (lgC l.n l.known vp V.length vc pp pc cp cc)::slc vp V.length vc 147 4 (V.flatMap VV.vals)::lst (V.map VV.own)::fam (fun r=>pstH (pb r) (l.past r)) l.n::slc cp l.n cc 195 1 (chRow l cs)::fam (chFam l cs) l.n::F)
       (fun s=>s.1≤n∧s.1≤x.q.length) (fun s=>n-s.1) (0,qp,qc) ⟨Nat.zero_le _,Nat.zero_le _⟩ fun s hs=>?_
      obtain⟨j,qp,qc⟩:=s;obtain⟨hj1,hj2⟩:j≤n∧j≤x.q.length:=hs;show H _ _ _ [(14,.int .i64 ((j+1:Nat):Int)),(9,.slice qp j qc),_,_] f (_::slc qp j qc _ 2 ((qNum x.q j).flatMap pairV)::_::_::_::_::_::_::_::_::F) _;by_cases hgo:j<n∧j<x.q.length
      ·obtain⟨hjn,hjq⟩:=hgo;obtain⟨w8,hw8⟩:∃w8,x.q[j]? =some w8:=⟨_,List.getElem?_eq_getElem hjq⟩;have hby:(bytesV x.q)[j]? =some (.int .u8 (w8.toNat:Nat)):=by unfold bytesV;rw[List.getElem?_map,hw8];rfl
       have hw8l:=w8.toNat_lt;have hm8:((w8.toNat % 8:Nat):Int)≤7:=jA
       have hnx:qNum x.q (j+1)=qNum x.q j++ [(((j+1:Nat):Int),1+((w8.toNat % 8:Nat):Int))]:=by
        show qNum x.q j++ [(_,1+(((x.q.getD j 0).toNat % 8:Nat):Int))]=_;rw[List.getD_eq_getElem?_getD,hw8];rfl
       refine gg ?_;refine H.Cd (b:=qb) (off:=qoff) (i:=j) rfl kE rfl jA hjq rfl ?_;refine H.Ad rfl rfl rfl (Rd1.of (hrdo _) hby) rfl ?_;refine H.rem (z:=((w8.toNat % 8:Nat):Int)) rfl rfl rfl jC (zak (b:=8) rfl) rfl ?_;refine gO ?_;refine H.Am (out:=pairV (((j+1:Nat):Int),1+((w8.toNat % 8:Nat):Int))) rfl rfl rfl rfl jC jC rfl rfl fun eb=>?_;refine H.Au (sz:=2) (p:=qp) (n0:=j) (c:=qc) (xs:=(qNum x.q j).flatMap pairV) (m:=1) (news:=pairV (((j+1:Nat):Int),1+((w8.toNat % 8:Nat):Int))) rfl rfl rfl rfl rfl (fun p' c'=>jB) (Src.slice (Rd.ofRow jB) rfl) (zaa rfl) rfl jA jA fun p2 c2=>?_;refine gV ?_;refine qgI ?_;refine H.Av (j+1,p2,c2) ⟨by show j+1≤n;omega,by show j+1≤x.q.length;omega⟩ (by show n-(j+1)<n-j;omega) ⟨rfl,rfl,rfl,rfl,trivial⟩ rfl ?_;show _::slc p2 (j+1) c2 _ 2 _::_=_::slc p2 (j+1) c2 _ 2 ((qNum x.q (j+1)).flatMap pairV)::_;rw[hnx,List.flatMap_append];simp
      ·have hje:(if n≤x.q.length then n else x.q.length)=j:=by split<;>omega
       rw[hje,qNum_len];by_cases hjn:j<n
       ·skip;refine gJ ?_;exact qaO
       ·skip;refine gU ?_;exact qaO
end
def bodW(k:UInt8)(v kk:Int):Bod:=⟨k,v,kk,Req.zero,[],noTag⟩
variable {W:W15}
section
variable (f:Frag) (F:List HP)
theorem body15_fn(hfl:Le fl f)(hW:WI n W T)(hT:T≤1000)(ho:o<n)(hx:x.Has f)(hq20:x.q.length≤20):
  Fn prog 36 [.pointer (some ⟨wb,0,none⟩),.int .i64 ((o+1:Nat):Int),.agg x.vals.toArray] f (logsH fl lb W.l::row wb 32 (w15C kb n ap m ac lb)::row kb 37 (kRow n W.w.kv)::F)
   (BodP f (logsH fl lb W.l::row wb 32 (w15C kb n ap m ac lb)::row kb 37 (kRow n W.w.kv)::F) (x.bod W n o)):=by
 have hn:=hW.l.n3;have hnn:=hW.n
 have hol:o<W.l.n:=jA
 have hwf:=hW.l.wf o hol;have hg0:=hwf.g0
 have hg1:=hW.l.gb o hol;have hvm:((x.view.toNat % 6:Nat):Int)≤5:=jA
 have hv2:((x.view.toNat % 2:Nat):Int)≤1:=jA
 have hkm:((x.k.toNat % 6:Nat):Int)≤5:=jA
 have hgr:=fun G=>great_fn f G hfl (wb:=wb) (kb:=kb) (lb:=lb) (l:=W.l) hW.l (ap:=ap) (m:=m) (ac:=ac) (n:=n) hol;have hcases:x.kind.toNat % 6=0∨x.kind.toNat % 6=1∨x.kind.toNat % 6=2∨x.kind.toNat % 6=3∨x.kind.toNat % 6=4∨x.kind.toNat % 6=5:=jA
 unfold A15.bod;rcases hcases with h|h|h|h|h|h
 ·have hk6:((x.kind.toNat:Nat):Int).tmod 6=0:=zak (b:=6) h;rw[h]
  have hask:=fun G=>ask_fn f G x;rcases Bool.eq_false_or_eq_true x.raw with hraw|hraw
  ·have hr1:(!x.raw)=false:=by rw[hraw];rfl
   have hb:x.bodK W n o 0=(⟨1,((x.view.toNat % 6:Nat):Int),0,x.req,[],noTag⟩:Bod):=by simp[A15.bodK,hraw,Bod.zero]
   rw[hb];generalize x.req=rq at hask⊢;refine qgB fun base=>?_;refine qej fun xb=>?_;refine qex fun ob=>?_;refine qhu fun bb=>?_;refine qeN ?_;refine H.Ab (ls:=(⟨1,((x.view.toNat % 6:Nat):Int),0,rq,[],noTag⟩:Bod).vals none 0) rfl rfl rfl (Rd.ofRow aP0) rfl rfl ?_;refine H.Ag (ls:=(Bod.zero 0).vals none 0) (vs:=(⟨1,((x.view.toNat % 6:Nat):Int),0,rq,[],noTag⟩:Bod).vals none 0) (ls':=(⟨1,((x.view.toNat % 6:Nat):Int),0,rq,[],noTag⟩:Bod).vals none 0) rfl rfl rfl (zaa rfl) rfl rfl (Nat.le_refl 76) jB ?_;refine qei ?_;exact H.Ax (ls:=(⟨1,((x.view.toNat % 6:Nat):Int),0,rq,[],noTag⟩:Bod).vals none 0) rfl rfl rfl (Rd.ofRow aP0) rfl (fun _ s=>s.drop (.here _ _)) ⟨nil0,none,0,rfl,QAt.nil _ _,Dj.nil _,(un_nil _).symm,rfl⟩
  ·have hr1:(!x.raw)=true:=by rw[hraw];rfl
   have hb:x.bodK W n o 0=(⟨1,(W.l.past o).g,0,x.req,[],noTag⟩:Bod):=by simp[A15.bodK,hraw,Bod.zero]
   rw[hb];generalize x.req=rq at hask⊢;refine qgB fun base=>?_;refine qej fun xb=>?_;refine qex fun ob=>?_;refine qhu fun bb=>?_;refine qeN ?_;refine H.Ab (ls:=(⟨1,(W.l.past o).g,0,rq,[],noTag⟩:Bod).vals none 0) rfl rfl rfl (Rd.ofRow aP0) rfl rfl ?_;refine H.Ag (ls:=(Bod.zero 0).vals none 0) (vs:=(⟨1,(W.l.past o).g,0,rq,[],noTag⟩:Bod).vals none 0) (ls':=(⟨1,(W.l.past o).g,0,rq,[],noTag⟩:Bod).vals none 0) rfl rfl rfl (zaa rfl) rfl rfl (Nat.le_refl 76) jB ?_;refine qei ?_;exact H.Ax (ls:=(⟨1,(W.l.past o).g,0,rq,[],noTag⟩:Bod).vals none 0) rfl rfl rfl (Rd.ofRow aP0) rfl (fun _ s=>s.drop (.here _ _)) ⟨nil0,none,0,rfl,QAt.nil _ _,Dj.nil _,(un_nil _).symm,rfl⟩
 ·have hk6:((x.kind.toNat:Nat):Int).tmod 6=1:=zak (b:=6) h;rw[h]
  rcases Bool.eq_false_or_eq_true x.raw with hraw|hraw
  ·have hr1:(!x.raw)=false:=by rw[hraw];rfl
   have hb:x.bodK W n o 1=(⟨2,((x.view.toNat % 6:Nat):Int),(1+((x.k.toNat % 6:Nat):Int)),Req.zero,[],noTag⟩:Bod):=by simp[A15.bodK,hraw,Bod.zero]
   rw[hb];refine qgB fun base=>?_;refine qej fun xb=>?_;refine qex fun ob=>?_;refine qho fun bb=>?_;refine qfW ?_;refine H.Ab (ls:=(⟨2,((x.view.toNat % 6:Nat):Int),(1+((x.k.toNat % 6:Nat):Int)),Req.zero,[],noTag⟩:Bod).vals none 0) rfl rfl rfl (Rd.ofRow aP0) rfl rfl ?_;refine H.Ag (ls:=(Bod.zero 0).vals none 0) (vs:=(⟨2,((x.view.toNat % 6:Nat):Int),(1+((x.k.toNat % 6:Nat):Int)),Req.zero,[],noTag⟩:Bod).vals none 0) (ls':=(⟨2,((x.view.toNat % 6:Nat):Int),(1+((x.k.toNat % 6:Nat):Int)),Req.zero,[],noTag⟩:Bod).vals none 0) rfl rfl rfl (zaa rfl) rfl rfl (Nat.le_refl 76) jB ?_;refine qei ?_;exact H.Ax (ls:=(⟨2,((x.view.toNat % 6:Nat):Int),(1+((x.k.toNat % 6:Nat):Int)),Req.zero,[],noTag⟩:Bod).vals none 0) rfl rfl rfl (Rd.ofRow aP0) rfl (fun _ s=>s.drop (.here _ _)) ⟨nil0,none,0,rfl,QAt.nil _ _,Dj.nil _,(un_nil _).symm,rfl⟩
  ·have hr1:(!x.raw)=true:=by rw[hraw];rfl
   have hb:x.bodK W n o 1=(⟨2,(W.l.past o).g,votedZ (W.l.past o) (W.l.past o).g+1,Req.zero,[],noTag⟩:Bod):=by simp[A15.bodK,hraw,Bod.zero]
   rw[hb];have hvz:=votedZ_le hwf jA (W.l.past o).g;have hvt:∀(b:Nat) G,Fn prog 67 [.pointer (some ⟨b,0,none⟩),.int .u64 (W.l.past o).g] f (pstH b (W.l.past o)::G) (Ret (.tuple #[.int .i64 (votedZ (W.l.past o) (W.l.past o).g),.bool (PM.voted (W.l.past o).all (W.l.past o).g).isSome]) f (pstH b (W.l.past o)::G)):=fun b G=>pst_voted f G b (W.l.past o) (by have:=hW.l.il o hol;omega) _
   generalize votedZ (W.l.past o) (W.l.past o).g=vz at hvt hvz⊢;refine qgB fun base=>?_;refine qej fun xb=>?_;refine qex fun ob=>?_;refine qho fun bb=>?_;refine qfW ?_;refine qhq ?_;refine H.By fun i1 hi1=>?_;obtain⟨V,vp,vc,pp,pc,cp,cc,pb,cs⟩:=i1;have hiF:=hi1.mono hfl;refine qgE ?_
   obtain⟨pbb,poff,hpp0,rdp0⟩:=hiF.past (by show 0<W.l.n;omega);have hpp:pp=some ⟨pbb,poff,none⟩:=hpp0;have rdp:∀ {A:List HP} {r:Nat},r<W.l.n→Rd1 f A pbb (poff+r) (.pointer (some ⟨pb r,0,none⟩)):=fun {A r} hr=>rdp0 (Le.refl f) hr
   clear hpp0 rdp0;refine qet ?_;refine gc ?_;refine H.Ak (b:=pbb) (off:=poff) (i:=o) rfl kd rfl jA hol rfl ?_;refine H.Ad rfl rfl rfl (by rw[Nat.mul_one];exact rdp hol) rfl ?_;refine gK ?_;refine qfT ?_;refine H.Bp hol ?_;refine H.cr (hvt _ _) ?_;refine H.Cg (g:=fun r=>pstH (pb r) (W.l.past r)) hol ?_;refine qhH ?_;refine gg ?_;refine H.Ab (ls:=(⟨2,(W.l.past o).g,vz+1,Req.zero,[],noTag⟩:Bod).vals none 0) rfl rfl rfl (Rd.ofRow aP0) rfl rfl ?_;refine H.Ag (ls:=(Bod.zero 0).vals none 0) (vs:=(⟨2,(W.l.past o).g,vz+1,Req.zero,[],noTag⟩:Bod).vals none 0) (ls':=(⟨2,(W.l.past o).g,vz+1,Req.zero,[],noTag⟩:Bod).vals none 0) rfl rfl rfl (zaa rfl) rfl rfl (Nat.le_refl 76) jB ?_;refine qei ?_;exact H.Ax (ls:=(⟨2,(W.l.past o).g,vz+1,Req.zero,[],noTag⟩:Bod).vals none 0) rfl rfl rfl (Rd.ofRow aP0) rfl (fun _ s=>s.drop (.here _ _)) ⟨nil0,none,0,rfl,QAt.nil _ _,Dj.nil _,(un_nil _).symm,rfl⟩
 ·have hk6:((x.kind.toNat:Nat):Int).tmod 6=2:=zak (b:=6) h;rw[h]
  rcases Bool.eq_false_or_eq_true x.raw with hraw|hraw
  ·have hr1:(!x.raw)=false:=by rw[hraw];rfl
   have hb:x.bodK W n o 2=(⟨3,fix1 (((x.view.toNat % 6:Nat):Int)),0,Req.zero,[],noTag⟩:Bod):=by simp[A15.bodK,hraw,Bod.zero]
   rw[hb];refine qgB fun base=>?_;refine qej fun xb=>?_;refine qex fun ob=>?_;refine qhh fun bb=>?_;refine qgi ?_;by_cases hz:((x.view.toNat % 6:Nat):Int)=0
   ·rw[show fix1 (((x.view.toNat % 6:Nat):Int))=1 from if_pos hz];refine gg ?_;refine H.Ab (ls:=(⟨3,1,0,Req.zero,[],noTag⟩:Bod).vals none 0) rfl rfl rfl (Rd.ofRow aP0) rfl rfl ?_;refine H.Ag (ls:=(Bod.zero 0).vals none 0) (vs:=(⟨3,1,0,Req.zero,[],noTag⟩:Bod).vals none 0) (ls':=(⟨3,1,0,Req.zero,[],noTag⟩:Bod).vals none 0) rfl rfl rfl (zaa rfl) rfl rfl (Nat.le_refl 76) jB ?_;refine qei ?_;exact H.Ax (ls:=(⟨3,1,0,Req.zero,[],noTag⟩:Bod).vals none 0) rfl rfl rfl (Rd.ofRow aP0) rfl (fun _ s=>s.drop (.here _ _)) ⟨nil0,none,0,rfl,QAt.nil _ _,Dj.nil _,(un_nil _).symm,rfl⟩
   ·rw[show fix1 (((x.view.toNat % 6:Nat):Int))=((x.view.toNat % 6:Nat):Int)from if_neg hz];refine gg ?_;refine H.Ab (ls:=(⟨3,((x.view.toNat % 6:Nat):Int),0,Req.zero,[],noTag⟩:Bod).vals none 0) rfl rfl rfl (Rd.ofRow aP0) rfl rfl ?_;refine H.Ag (ls:=(Bod.zero 0).vals none 0) (vs:=(⟨3,((x.view.toNat % 6:Nat):Int),0,Req.zero,[],noTag⟩:Bod).vals none 0) (ls':=(⟨3,((x.view.toNat % 6:Nat):Int),0,Req.zero,[],noTag⟩:Bod).vals none 0) rfl rfl rfl (zaa rfl) rfl rfl (Nat.le_refl 76) jB ?_;refine qei ?_;exact H.Ax (ls:=(⟨3,((x.view.toNat % 6:Nat):Int),0,Req.zero,[],noTag⟩:Bod).vals none 0) rfl rfl rfl (Rd.ofRow aP0) rfl (fun _ s=>s.drop (.here _ _)) ⟨nil0,none,0,rfl,QAt.nil _ _,Dj.nil _,(un_nil _).symm,rfl⟩
  ·have hr1:(!x.raw)=true:=by rw[hraw];rfl
   have hb:x.bodK W n o 2=(⟨3,fix1 ((W.l.past o).g+1+((x.view.toNat % 2:Nat):Int)),0,Req.zero,[],noTag⟩:Bod):=by simp[A15.bodK,hraw,Bod.zero]
   rw[hb];rw[show fix1 ((W.l.past o).g+1+((x.view.toNat % 2:Nat):Int))=(W.l.past o).g+1+((x.view.toNat % 2:Nat):Int)from if_neg jA];refine qgB fun base=>?_;refine qej fun xb=>?_;refine qex fun ob=>?_;refine qhh fun bb=>?_;refine qgi ?_;refine gg ?_;refine H.rem (z:=((x.view.toNat % 2:Nat):Int)) rfl rfl rfl jC (zak (b:=2) rfl) rfl ?_;refine gg ?_;refine H.Ab (ls:=(⟨3,(W.l.past o).g+1+((x.view.toNat % 2:Nat):Int),0,Req.zero,[],noTag⟩:Bod).vals none 0) rfl rfl rfl (Rd.ofRow aP0) rfl rfl ?_;refine H.Ag (ls:=(Bod.zero 0).vals none 0) (vs:=(⟨3,(W.l.past o).g+1+((x.view.toNat % 2:Nat):Int),0,Req.zero,[],noTag⟩:Bod).vals none 0) (ls':=(⟨3,(W.l.past o).g+1+((x.view.toNat % 2:Nat):Int),0,Req.zero,[],noTag⟩:Bod).vals none 0) rfl rfl rfl (zaa rfl) rfl rfl (Nat.le_refl 76) jB ?_;refine qei ?_;exact H.Ax (ls:=(⟨3,(W.l.past o).g+1+((x.view.toNat % 2:Nat):Int),0,Req.zero,[],noTag⟩:Bod).vals none 0) rfl rfl rfl (Rd.ofRow aP0) rfl (fun _ s=>s.drop (.here _ _)) ⟨nil0,none,0,rfl,QAt.nil _ _,Dj.nil _,(un_nil _).symm,rfl⟩
 ·have hk6:((x.kind.toNat:Nat):Int).tmod 6=3:=zak (b:=6) h;rw[h]
  have hq15:=fun G=>q15_fn f G hfl (wb:=wb) (kb:=kb) (lb:=lb) (l:=W.l) hW.l hT (ap:=ap) (m:=m) (ac:=ac) hnn ho (kv:=W.w.kv) hx hq20 (W.l.past o).g;rcases Bool.eq_false_or_eq_true x.raw with hraw|hraw
  ·have hr1:(!x.raw)=false:=by rw[hraw];rfl
   have hb:x.bodK W n o 3=(⟨4,fix1 (((x.view.toNat % 6:Nat):Int)),0,Req.zero,x.qs n W.l.ch (W.w.kv o) (W.l.past o).g,noTag⟩:Bod):=by simp[A15.bodK,hraw,Bod.zero]
   rw[hb];generalize x.qs n W.l.ch (W.w.kv o) (W.l.past o).g=Q at hq15⊢;refine qgB fun base=>?_;refine qej fun xb=>?_;refine qex fun ob=>?_;refine qha fun bb=>?_;refine qfk fun qi=>?_;obtain⟨qp,qc⟩:=qi;refine qkk fun g hg hd=>?_;have hqa:QAt (un f g) qp Q:=ListAt.mono (vals:=pairV) (Le.right hd) (zbi (vals:=pairV) (fun _=>rfl) hg);refine qfl ?_
   refine qfF ?_;by_cases hz:((x.view.toNat % 6:Nat):Int)=0
   ·rw[show fix1 (((x.view.toNat % 6:Nat):Int))=1 from if_pos hz];exact qaA
   ·rw[show fix1 (((x.view.toNat % 6:Nat):Int))=((x.view.toNat % 6:Nat):Int)from if_neg hz];refine gg ?_;refine H.Ab (ls:=(⟨4,((x.view.toNat % 6:Nat):Int),0,Req.zero,Q,noTag⟩:Bod).vals qp qc) rfl rfl rfl (Rd.ofRow aP0) rfl rfl ?_;refine H.Ag (ls:=(Bod.zero 0).vals none 0) (vs:=(⟨4,((x.view.toNat % 6:Nat):Int),0,Req.zero,Q,noTag⟩:Bod).vals qp qc) (ls':=(⟨4,((x.view.toNat % 6:Nat):Int),0,Req.zero,Q,noTag⟩:Bod).vals qp qc) rfl rfl rfl (zaa rfl) rfl rfl (Nat.le_refl 76) jB ?_;refine qei ?_;exact H.Ax (ls:=(⟨4,((x.view.toNat % 6:Nat):Int),0,Req.zero,Q,noTag⟩:Bod).vals qp qc) rfl rfl rfl (Rd.ofRow aP0) rfl (fun _ s=>s.drop (.here _ _)) ⟨g,qp,qc,rfl,hqa,hd,rfl,rfl⟩
  ·have hr1:(!x.raw)=true:=by rw[hraw];rfl
   have hb:x.bodK W n o 3=(⟨4,fix1 ((W.l.past o).g),0,Req.zero,x.qs n W.l.ch (W.w.kv o) (W.l.past o).g,noTag⟩:Bod):=by simp[A15.bodK,hraw,Bod.zero]
   rw[hb];generalize x.qs n W.l.ch (W.w.kv o) (W.l.past o).g=Q at hq15⊢;refine qgB fun base=>?_;refine qej fun xb=>?_;refine qex fun ob=>?_;refine qha fun bb=>?_;refine qfk fun qi=>?_;obtain⟨qp,qc⟩:=qi;refine qkk fun g hg hd=>?_;have hqa:QAt (un f g) qp Q:=ListAt.mono (vals:=pairV) (Le.right hd) (zbi (vals:=pairV) (fun _=>rfl) hg);refine qfl ?_
   refine qfF ?_;by_cases hz:(W.l.past o).g=0
   ·rw[show fix1 ((W.l.past o).g)=1 from if_pos hz];exact qaA
   ·rw[show fix1 ((W.l.past o).g)=(W.l.past o).g from if_neg hz];refine gg ?_;refine H.Ab (ls:=(⟨4,(W.l.past o).g,0,Req.zero,Q,noTag⟩:Bod).vals qp qc) rfl rfl rfl (Rd.ofRow aP0) rfl rfl ?_;refine H.Ag (ls:=(Bod.zero 0).vals none 0) (vs:=(⟨4,(W.l.past o).g,0,Req.zero,Q,noTag⟩:Bod).vals qp qc) (ls':=(⟨4,(W.l.past o).g,0,Req.zero,Q,noTag⟩:Bod).vals qp qc) rfl rfl rfl (zaa rfl) rfl rfl (Nat.le_refl 76) jB ?_;refine qei ?_;exact H.Ax (ls:=(⟨4,(W.l.past o).g,0,Req.zero,Q,noTag⟩:Bod).vals qp qc) rfl rfl rfl (Rd.ofRow aP0) rfl (fun _ s=>s.drop (.here _ _)) ⟨g,qp,qc,rfl,hqa,hd,rfl,rfl⟩
 ·have hk6:((x.kind.toNat:Nat):Int).tmod 6=4:=zak (b:=6) h;rw[h]
  rcases Bool.eq_false_or_eq_true x.raw with hraw|hraw
  ·have hr1:(!x.raw)=false:=by rw[hraw];rfl
   have hb:x.bodK W n o 4=(⟨5,fix1 (((x.view.toNat % 6:Nat):Int)),0,Req.zero,[],noTag⟩:Bod):=by simp[A15.bodK,hraw,Bod.zero]
   rw[hb];refine qgB fun base=>?_;refine qej fun xb=>?_;refine qex fun ob=>?_;refine qgZ fun bb=>?_;refine qge ?_;by_cases hz:((x.view.toNat % 6:Nat):Int)=0
   ·rw[show fix1 (((x.view.toNat % 6:Nat):Int))=1 from if_pos hz];exact qaz
   ·rw[show fix1 (((x.view.toNat % 6:Nat):Int))=((x.view.toNat % 6:Nat):Int)from if_neg hz];refine gg ?_;refine H.Ab (ls:=(⟨5,((x.view.toNat % 6:Nat):Int),0,Req.zero,[],noTag⟩:Bod).vals none 0) rfl rfl rfl (Rd.ofRow aP0) rfl rfl ?_;refine H.Ag (ls:=(Bod.zero 0).vals none 0) (vs:=(⟨5,((x.view.toNat % 6:Nat):Int),0,Req.zero,[],noTag⟩:Bod).vals none 0) (ls':=(⟨5,((x.view.toNat % 6:Nat):Int),0,Req.zero,[],noTag⟩:Bod).vals none 0) rfl rfl rfl (zaa rfl) rfl rfl (Nat.le_refl 76) jB ?_;refine qei ?_;exact H.Ax (ls:=(⟨5,((x.view.toNat % 6:Nat):Int),0,Req.zero,[],noTag⟩:Bod).vals none 0) rfl rfl rfl (Rd.ofRow aP0) rfl (fun _ s=>s.drop (.here _ _)) ⟨nil0,none,0,rfl,QAt.nil _ _,Dj.nil _,(un_nil _).symm,rfl⟩
  ·have hr1:(!x.raw)=true:=by rw[hraw];rfl
   have hb:x.bodK W n o 4=(⟨5,fix1 (lastV W.l.vs),0,Req.zero,[],noTag⟩:Bod):=by simp[A15.bodK,hraw,Bod.zero]
   rw[hb];refine qgB fun base=>?_;refine qej fun xb=>?_;refine qex fun ob=>?_;refine qgZ fun bb=>?_;refine qge ?_;refine qhq ?_;refine H.By fun i1 hi1=>?_;obtain⟨V,vp,vc,pp,pc,cp,cc,pb,cs⟩:=i1;have hiF:=hi1.mono hfl;refine qgE ?_
   have hvs:V.map VV.w=W.l.vs:=hi1.vs;have hVl:V.length=W.l.vs.length:=hi1.len
   have hvl:=hW.l.vl
   have hV0:0<V.length:=by
    obtain⟨w0,hw0,_⟩:=hW.l.zero;rw[hVl];exact List.length_pos_of_mem hw0
   obtain⟨X,hX⟩:∃X,V[V.length-1]? =some X:=⟨_,List.getElem?_eq_getElem jA⟩
   have hXv:lastV W.l.vs=X.w.v:=by
    unfold lastV;rw[←hVl,←hvs,List.getElem?_map,hX];rfl
   rw[hXv];refine qfO fun vb hvb=>?_;refine qfl ?_;refine qfF ?_;refine gg ?_;refine qfI ?_;refine qfv ?_;refine H.dc [0,1,2,3,4,5,6,7,8,9,10,11,12,13,14,15,16,17,18] (S:=[_,_,_]) rfl ?_;refine HB.qu [0,1,2,3,4,5,6,7,8,9,10,11,12,13,14,15,16,17,18] 2 ?_;refine gW ?_;refine HQ.Ak (b:=vb) (off:=0) (i:=V.length-1) rfl (by rw[←hvb];rfl) rfl (show((V.length:Int)-1)=((V.length-1:Nat):Int) by omega) (show V.length-1<V.length by omega) rfl ?_;refine gR ?_;refine HQ.Ad rfl rfl rfl (Rd1.of (i:=0) (by rw[Nat.zero_add];exact Rd.slcElem (n:=V.length) (c:=vc) (T:=147) (xs:=V) VV.len jC (by rw[←hvb];exact .there _ at1) hX) rfl) rfl ?_;refine qeC ?_;refine HB.qu [19] 1 ?_;refine qfu ?_;refine HB.ev 20 ?_;refine qfF ?_;refine H.Bb (ls:=(bodW 5 ((x.view.toNat % 6:Nat):Int) 0).vals none 0) (ls':=(bodW 5 X.w.v 0).vals none 0) rfl rfl rfl rfl aP0 at1 ?_;refine qeQ ?_;refine qhH ?_;by_cases hz:X.w.v=0
   ·rw[show fix1 (X.w.v)=1 from if_pos hz];exact qaz
   ·rw[show fix1 (X.w.v)=X.w.v from if_neg hz];refine gJ ?_;refine H.Ab (ls:=(⟨5,X.w.v,0,Req.zero,[],noTag⟩:Bod).vals none 0) rfl rfl rfl (Rd.ofRow aP0) rfl rfl ?_;refine H.Ag (ls:=(Bod.zero 0).vals none 0) (vs:=(⟨5,X.w.v,0,Req.zero,[],noTag⟩:Bod).vals none 0) (ls':=(⟨5,X.w.v,0,Req.zero,[],noTag⟩:Bod).vals none 0) rfl rfl rfl (zaa rfl) rfl rfl (Nat.le_refl 76) jB ?_;refine qei ?_;exact H.Ax (ls:=(⟨5,X.w.v,0,Req.zero,[],noTag⟩:Bod).vals none 0) rfl rfl rfl (Rd.ofRow aP0) rfl (fun _ s=>s.drop (.here _ _)) ⟨nil0,none,0,rfl,QAt.nil _ _,Dj.nil _,(un_nil _).symm,rfl⟩
 ·have hk6:((x.kind.toNat:Nat):Int).tmod 6=5:=zak (b:=6) h;rw[h]
  show Fn _ _ _ f _ (BodP f _ (⟨6,0,(1+((x.k.toNat % 6:Nat):Int)),Req.zero,[],dig0 x.key⟩:Bod));refine qgB fun base=>?_;refine qej fun xb=>?_;refine qex fun ob=>?_;refine qef ?_;repeat(first|(refine H.Ay (t:=52) (out:=(bodW 6 ((x.view.toNat % 6:Nat):Int) (1+((x.k.toNat % 6:Nat):Int))).vals none 0) rfl rfl rfl jD rfl ?_)|(refine gh ?_))
  refine qex fun bb=>?_;refine H.Ag (ls:=(Bod.zero 0).vals none 0) (vs:=(bodW 6 ((x.view.toNat % 6:Nat):Int) (1+((x.k.toNat % 6:Nat):Int))).vals none 0) (ls':=(bodW 6 ((x.view.toNat % 6:Nat):Int) (1+((x.k.toNat % 6:Nat):Int))).vals none 0) rfl rfl rfl (zaa rfl) rfl rfl (Nat.le_refl 76) aP0 ?_;refine qep ?_;refine gc ?_;refine H.Ao (i:=0) rfl rfl rfl rfl jC rfl ?_;refine gg ?_;refine H.Ab (ls:=(⟨6,0,(1+((x.k.toNat % 6:Nat):Int)),Req.zero,[],dig0 x.key⟩:Bod).vals none 0) rfl rfl rfl (Rd.ofRow aP0) rfl rfl ?_;refine H.Ag (ls:=(Bod.zero 0).vals none 0) (vs:=(⟨6,0,(1+((x.k.toNat % 6:Nat):Int)),Req.zero,[],dig0 x.key⟩:Bod).vals none 0) (ls':=(⟨6,0,(1+((x.k.toNat % 6:Nat):Int)),Req.zero,[],dig0 x.key⟩:Bod).vals none 0) rfl rfl rfl (zaa rfl) rfl rfl (Nat.le_refl 76) jB ?_;refine qei ?_;exact H.Ax (ls:=(⟨6,0,(1+((x.k.toNat % 6:Nat):Int)),Req.zero,[],dig0 x.key⟩:Bod).vals none 0) rfl rfl rfl (Rd.ofRow aP0) rfl (fun _ s=>s.drop (.here _ _)) ⟨nil0,none,0,rfl,QAt.nil _ _,Dj.nil _,(un_nil _).symm,rfl⟩
end
structure W15P where
 kb:Nat
 lb:Nat
 ap:Option Addr
 ac:Nat
 l:List MV
def w15φ(e:Frag)(W:W15)(i:W15P):Prop:=i.l.map MV.m=W.w.all∧∀y∈i.l,y.Good e
def w15B(e:Frag)(wb n:Nat)(W:W15)(i:W15P):List HP:=[row wb 32 (w15C i.kb n i.ap i.l.length i.ac i.lb),row i.kb 37 (kRow n W.w.kv),slc i.ap i.l.length i.ac 54 121 (i.l.flatMap MV.vals),logsH e i.lb W.l]
def wH15(e:Frag)(wb n:Nat)(W:W15):HP:=pack (w15φ e W) (w15B e wb n W)
theorem w15_fold{e:Frag}{F:List HP}(i:W15P)(h:w15φ e W i):∀x,stars (w15B e wb n W i++F) x→stars (wH15 e wb n W::F) x:=fun x hx=>pack_fold (φ:=w15φ e W) (B:=w15B e wb n W) i h x hx
variable {g:Frag}
theorem w15_mono(h:Le f g):∀x,wH15 f wb n W x→wH15 g wb n W x:=fun _ ⟨i,hi,hx⟩=>⟨i,⟨hi.1,fun y hy=>(hi.2 y hy).mono h⟩,by
 obtain⟨m1,m2,d1,e1,a1,m3,m4,d2,e2,a2,m5,m6,d3,e3,a3,m7,m8,d4,e4,a4,r4⟩:=hx
 exact⟨m1,m2,d1,e1,a1,m3,m4,d2,e2,a2,m5,m6,d3,e3,a3,m7,m8,d4,e4,logsH_mono h _ a4,r4⟩⟩
theorem w15_up(h:Le f g){A:List HP}:∀x,stars (wH15 f wb n W::A) x→stars (wH15 g wb n W::A) x:=fun _ ⟨h1,h2,hd,he,ha,hr⟩=>⟨h1,h2,hd,he,w15_mono h _ ha,hr⟩
def DoP(f:Frag)(F:List HP)(wb n:Nat)(W:W15):Value→Frag→List HP→Prop:=fun v f' A'=>∃(g:Frag) (M:Msg) (qp:Option Addr) (qc:Nat),Dj f g∧v= .agg (M.vals qp qc).toArray∧f'=un f g∧A'=wH15 f' wb n W::F
section
variable (f:Frag) (F:List HP)
theorem do_fn(hfl:Le fl f)(hn3:3≤n∧n≤11)(hW:WI n W T)(hT:T≤900)(hal:W.w.all.length≤900)(hx:x.Has f)(hq20:x.q.length≤20):
  Fn prog 19 [.pointer (some ⟨wb,0,none⟩),.agg x.vals.toArray] f (wH15 fl wb n W::F) (DoP f F wb n (W.act n x)):=by
 refine qjW fun i0 hi=>?_;obtain⟨kb,lb,ap,ac,l⟩:=i0;have hlm:l.map MV.m=W.w.all:=hi.1;have hlg:∀y∈l,y.Good fl:=hi.2
 have hll:l.length≤900:=by
  have:=congrArg List.length hlm;rw[List.length_map]at this
  omega
 have hn0:((n:Nat):Int)≠0:=jA
 have ho:x.who.toNat % n<n:=Nat.mod_lt _ jA;have hkv:=hW.w.kv_le ho
 have hwho:=x.who.toNat_lt;have hoth:=x.other.toNat_lt
 have hj:x.other.toNat % n<n:=Nat.mod_lt _ jA;show Fn _ _ _ f (row wb 32 (w15C kb n ap l.length ac lb)::row kb 37 (kRow n W.w.kv)::slc ap l.length ac 54 121 (l.flatMap MV.vals)::logsH fl lb W.l::F) _
 refine Fn.e2 func19 ntmps19 fun base=>?_;refine qej fun xb=>?_;refine qfe fun ob=>?_;refine gc ?_;refine H.rem (z:=((x.who.toNat % n:Nat):Int)) rfl rfl rfl hn0 (zak (a:=x.who.toNat) (b:=n) rfl) rfl ?_;refine gc ?_
 cases hmt:x.meet with
 | true =>
  have hact:W.act n x= {W with w:=W.w.meet (x.who.toNat % n) (x.other.toNat % n)}:=by unfold W15.act;rw[if_pos hmt]
  rw[hact];refine gc ?_;refine H.rem (z:=((x.other.toNat % n:Nat):Int)) rfl rfl rfl hn0 (zak (a:=x.other.toNat) (b:=n) rfl) rfl ?_;refine gT ?_;generalize hoe:x.who.toNat % n=o at *;generalize hje:x.other.toNat % n=j at *;have ho11:o<11:=jA
  refine qeE ?_
  refine H.loop (ι:=Nat) (fun i=>[(8,.int .i64 (i:Int)),(6,.int .i64 (1+(o:Int))),(7,.int .i64 (j:Int)),(0,.pointer (some ⟨wb,0,none⟩)),(4,.pointer (some ⟨ob,0,none⟩))]) (fun _=>f)
   (fun i=>row wb 32 (w15C kb n ap l.length ac lb)::row kb 37 (kRow n (raised W.w.kv o j i))::row ob 54 (msgZ.vals none 0)::row xb 71 x.vals::slc ap l.length ac 54 121 (l.flatMap MV.vals)::logsH fl lb W.l::F)
   (fun i=>i≤11) (fun i=>11-i) 0 (Nat.zero_le _) ⟨rfl,rfl,rfl,rfl,rfl,trivial⟩ rfl (by rw[raised_zero]) fun i hi2=>?_
  have hi2:i≤11:=hi2;by_cases hi11:i<11
  ·have hro:=raised_o W.w.kv o j i;have hrj:=raised_j W.w.kv o j i
   have hrn:=raised_next W.w.kv o j i;have hg1:=kRow_get (kv:=raised W.w.kv o j i) ho hi11
   have hg2:=kRow_get (kv:=raised W.w.kv o j i) hj hi11;rw[hro]at hg1
   rw[hrj]at hg2;have hset:=kRow_set (kv:=raised W.w.kv o j i) (maxV (W.w.kv o) (W.w.kv j) i) ho hi11;rw[hrn]at hset
   have hoo:(1:Int)+(o:Int)-1=(o:Nat):=jA
   refine gG ?_;refine H.dc [0,1,2,3,4,5,6,7,8,9,10,11,12,13,14,15,16,17,18,19,20,21,22,23,24,25,26,27,28] (S:=[_,_]) rfl ?_;refine HB.qu [0,1,2,3,4,5,6,7,8,9,10,11,12,13,14,15,16,17,18,19,20,21,22,23,24,25,26,27,28] 1 ?_;refine gW ?_;refine qkt ?_;refine qiD ?_;refine HQ.Ad rfl rfl rfl (.at0 (Rd.ofRow at1) (by rw[Nat.zero_add,Nat.mul_one];exact hg1)) rfl ?_;refine gR ?_;refine HQ.Ak (i:=j) rfl rfl rfl rfl hj rfl ?_;refine qiD ?_;refine HQ.Ad rfl rfl rfl (.at0 (Rd.ofRow at1) (by rw[Nat.zero_add,Nat.mul_one];exact hg2)) rfl ?_;refine HQ.max2 (z:=maxV (W.w.kv o) (W.w.kv j) i) rfl rfl rfl rfl rfl ?_;refine qkt ?_;refine qiD ?_;refine qeC ?_;refine HB.ev 29 ?_;refine H.Bb (v:=.int .u64 (maxV (W.w.kv o) (W.w.kv j) i)) (ls:=kRow n (raised W.w.kv o j i)) (ls':=kRow n (raised W.w.kv o j (i+1))) rfl rfl rfl rfl at1 jb ?_;refine qjh ?_;exact H.ag (i+1) ke jV
  ·have e:i=11:=jA
   subst e;rw[raised_end];refine qhS ?_;refine qip ?_;exact H.Ax (ls:=msgZ.vals none 0) rfl rfl rfl (Rd.ofRow aP0) rfl (fun _ s=>(s.drop (.here _ _)).imp (fun z hz=>w15_up hfl z (w15_fold (W:={W with w:=W.w.meet o j}) ⟨kb,lb,ap,ac,l⟩ ⟨hlm,hlg⟩ z hz))) ⟨nil0,_,_,_,Dj.nil _,rfl,(un_nil f).symm,rfl⟩
 | false =>
  refine gV ?_;generalize hoe:x.who.toNat % n=o at *;have ho11:o<11:=jA
  have hoo:(1:Int)+(o:Int)-1=(o:Nat):=jA
  have ho1:(1:Int)+(o:Int)=((o+1:Nat):Int):=jA
  have hact:W.act n x=if(W.next n o x).may=true then⟨W.w.say o (W.next n o x).signed,(W.l.take (W.next n o x).signed).2⟩else W:=by
   unfold W15.act;rw[if_neg (by rw[hmt];decide),hoe]
  have hgk0:=kRow_get (kv:=W.w.kv) ho ho11;have hko:=hkv o
  have hbody:=fun G=>body15_fn f G hfl (wb:=wb) (kb:=kb) (lb:=lb) hW jA (ap:=ap) (m:=l.length) (ac:=ac) ho hx hq20;refine qhq ?_
  refine qeE ?_;refine qfl ?_
  refine H.cut (ι:=Frag×Option Addr×Nat×Nat) (fun s=>[(9,.pointer (some ⟨s.2.2.2,0,none⟩)),(6,.int .i64 (1+(o:Int))),(0,.pointer (some ⟨wb,0,none⟩)),(4,.pointer (some ⟨ob,0,none⟩))]) (fun s=>un f s.1)
   (fun s=>row xb 71 x.vals::row s.2.2.2 54 ((W.next n o x).vals s.2.1 s.2.2.1)::row ob 54 (msgZ.vals none 0)::row wb 32 (w15C kb n ap l.length ac lb)::row kb 37 (kRow n W.w.kv)::logsH fl lb W.l::slc ap l.length ac 54 121 (l.flatMap MV.vals)::F)
   (fun s=>QAt (un f s.1) s.2.1 (W.next n o x).body.q∧Dj f s.1) _ (fun s hs=>?_) ?_
  ·obtain⟨g,qp,qc,mb⟩:=s;obtain⟨hqat,hd⟩:QAt (un f g) qp (W.next n o x).body.q∧Dj f g:=hs;have hle2:=Le.un f g;have hql:=(x.bod_q hW jA (o:=o)).1
   have hgood:(⟨W.next n o x,qp,qc⟩:MV).Good (un f g):=⟨hqat,by show(x.bod W n o).q.length≤_;omega,A15.bod_ok hW jA ho x⟩;have hmsg:=good_signed hgood
   have hmay:=fun H=>rmmay_fn (un f g) H hgood;have hsg:=fun H=>rtagged_fn (un f g) H (m:=W.next n o x) (q:=qp) (qc:=qc) hgood.1 (by show(x.bod W n o).q.length≤_;omega)
   show H _ _ _ [_,_,_,_] (un f g) (_::row mb _ ((W.next n o x).vals qp qc)::_::_::_::_::_::F) _;refine gA ?_;refine qkT ?_;refine H.cr (hmay _) ?_;refine qhb ?_
   cases hmy:(W.next n o x).may with
   | false =>
    rw[hact,if_neg (by rw[hmy];decide)];refine qhS ?_;refine qeD ?_;refine H.pf (x:=slc ap _ ac _ _ _) ?_;refine qeE ?_;refine qip ?_;exact H.Ax (ls:=msgZ.vals none 0) rfl rfl rfl (Rd.ofRow aP0) rfl (fun _ s=>(s.drop (.here _ _)).imp (fun z hz=>w15_up (hfl.trans hle2) z (w15_fold ⟨kb,lb,ap,ac,l⟩ ⟨hlm,hlg⟩ z hz))) ⟨g,_,_,_,hd,rfl,rfl,rfl⟩
   | true =>
    rw[hact,if_pos hmy];generalize hms:(W.next n o x).signed=ms at *;have htake:=fun H=>take_fn (un f g) H (hfl.trans hle2) (lb:=lb) hW.l jA (x:=⟨ms,qp,qc⟩) hmsg;refine gV ?_
    refine qkT ?_;refine H.cr (hsg _) ?_;refine H.Ag (ls:=(W.next n o x).vals qp qc) (vs:=ms.vals qp qc) (ls':=ms.vals qp qc) rfl rfl rfl (zaa rfl) rfl rfl (Nat.le_refl 121) at1 ?_;refine gA ?_;refine qfv ?_;refine qer ?_;refine qgm ?_;refine HB.qu [0,1,2,3,4] 1 ?_;refine gR ?_;refine HQ.Ab (ls:=ms.vals qp qc) rfl rfl rfl (Rd.ofRow aP0) rfl rfl ?_;refine qel ?_;refine HB.ev 5 ?_;refine qhq ?_;refine H.cl (htake _) fun v f' A' hr=>?_;obtain⟨g2,hd2,rfl,rfl,rfl⟩:=hr;refine gA ?_;refine qfv ?_;refine qer ?_;refine H.on [] (Le.un _ g2) rfl ?_;refine HB.dn ?_;refine gA ?_;refine qhw ?_;refine HQ.Ab (ls:=ms.vals qp qc) rfl rfl rfl (Rd.ofRow aP0) rfl rfl ?_;refine qiI ?_;refine H.Am (out:=ms.vals qp qc) rfl rfl rfl rfl jC jC rfl rfl fun eb=>?_;refine gA ?_;refine qfv ?_;refine qjZ ?_;refine HB.ev 7 ?_;refine H.Au (sz:=121) (p:=ap) (n0:=l.length) (c:=ac) (xs:=l.flatMap MV.vals) (m:=1) (news:=ms.vals qp qc) rfl rfl rfl rfl rfl (fun p' c'=>jB) (Src.slice (Rd.ofRow jB) rfl) (zaa rfl) rfl jA jA fun ap2 ac2=>?_;refine qeW ?_;refine H.Bb (ls:=w15C kb n ap l.length ac lb) (ls':=w15C kb n ap2 (l.length+1) ac2 lb) rfl rfl rfl rfl at1 at1 ?_;refine qk ?_;have hset:=kRow_set (kv:=W.w.kv) (W.w.kv o o+1) ho ho11;refine qeE ?_
    refine qit ?_;refine qhF ?_;refine HQ.Ad rfl rfl rfl (.at0 (Rd.ofRow at1) kZ) rfl ?_;refine gL ?_;refine qhF ?_;refine qeC ?_;refine HB.ev 14 ?_;refine H.Bb (v:=.int .u64 (W.w.kv o o+1)) (ls:=kRow n W.w.kv) (ls':=kRow n (W.w.say o ms).kv) rfl rfl rfl rfl at1 jb ?_;refine qeQ ?_;refine qja ?_;refine H.Ab (ls:=ms.vals qp qc) rfl rfl rfl (Rd.ofRow aP0) rfl rfl ?_;refine H.Ag (ls:=msgZ.vals none 0) (vs:=ms.vals qp qc) (ls':=ms.vals qp qc) rfl rfl rfl (zaa rfl) rfl rfl (Nat.le_refl 121) jB ?_;refine gT ?_;refine qgV ?_;refine qeD ?_;refine qhq ?_;refine H.pf (x:=slc ap2 _ ac2 _ _ _) ?_;refine qeE ?_;refine qip ?_;have hle3:=Le.un (un f g) g2
    have hφ:w15φ (un (un f g) g2) ⟨W.w.say o ms,(W.l.take ms).2⟩ ⟨kb,lb,ap2,ac2,l++ [⟨ms,qp,qc⟩]⟩:=by
     refine⟨?_,fun y hy=>?_⟩
     ·show(l++ [(⟨ms,qp,qc⟩:MV)]).map MV.m=W.w.all++ [ms];rw[List.map_append,hlm];rfl
     ·rcases List.mem_append.1 hy with h|h
      ·exact(hlg y h).mono ((hfl.trans hle2).trans hle3)
      ·rw[List.mem_singleton.1 h];exact hmsg.mono hle3
    have hsl:slc ap2 (l.length+1) ac2 54 121 (l.flatMap MV.vals++ms.vals qp qc)=slc ap2 (l++ [(⟨ms,qp,qc⟩:MV)]).length ac2 54 121 ((l++ [(⟨ms,qp,qc⟩:MV)]).flatMap MV.vals):=slc_snoc (y:=(⟨ms,qp,qc⟩:MV));have hfold:=w15_fold (F:=F) (wb:=wb) (n:=n) _ hφ
    exact H.Ax (ls:=ms.vals qp qc) rfl rfl rfl (Rd.ofRow aP0) rfl (fun _ s=>(s.drop (.here _ _)).imp (fun z hz=>hfold z (by
     rw[hsl]at hz;show stars (row wb _ (w15C kb n ap2 (l++ [(⟨ms,qp,qc⟩:MV)]).length ac2 lb)::_) z;rw[List.length_append];rw[List.length_append]at hz
     exact hz))) ⟨un g g2,_,_,_,Dj.un3' hd hd2,rfl,zba _ _ _,rfl⟩
  ·refine qkc ?_;refine HB.qu [0,1,2,3,4,5,6,7,8,9,10,11,12,13,14,15,16,17,18,19,20,21,22,23] 4 ?_;refine gW ?_;refine qhF ?_;refine HQ.Ad rfl rfl rfl (.at0 (Rd.ofRow at2) kZ) rfl ?_;refine gW ?_;refine qkt ?_;refine HQ.Ab (ls:=v11 (W.w.kv o)) rfl rfl rfl (by rw[Nat.zero_add];exact Rd.kRow (Rd.ofRow at2) ho) rfl rfl ?_;refine gB ?_;refine qgH ?_;refine qel ?_;refine HB.ev2 (i:=24) (j:=26) jD rfl rfl ?_ ?_
   ·refine qeE ?_;refine qhq ?_;rw[ho1];refine H.cl (hbody _) fun v f' A' hr=>?_;obtain⟨g,qp,qc,rfl,hqat,hd,rfl,rfl⟩:=hr;refine qkb ?_;refine H.on [] (Le.un _ g) rfl ?_;refine HB.qu [25] 2 ?_;refine qky ?_;refine HB.ev 26 ?_;refine qfe fun mb=>?_;refine qkb ?_;refine qeM ?_;exact qaG
   ·refine qfe fun mb=>?_;refine qkb ?_;refine qeM ?_;refine HB.ev 24 ?_;refine qeE ?_;refine qhq ?_;rw[ho1];refine H.cl (hbody _) fun v f' A' hr=>?_;obtain⟨g,qp,qc,rfl,hqat,hd,rfl,rfl⟩:=hr;refine qkb ?_;refine H.on [] (Le.un _ g) rfl ?_;refine HB.qu [25] 1 ?_;refine qky ?_;exact qaG
end
end Go.Proofs.YtkaknokcbhiigaaGreatDoor
