/- Parts of the proof. No conditions. -/
import Derived.Test.YtkaknokcbhiigaaGreatDoorZ07
set_option linter.unusedSectionVars false
set_option linter.unusedSimpArgs false
set_option linter.unusedVariables false
set_option maxHeartbeats 3200000
set_option maxRecDepth 20000
namespace Go.Proofs.YtkaknokcbhiigaaGreatDoor
open Go Go.Proofs.Tryz
open Go.Sort (swp ltInt insInner insOuter insertionSort siftDown heapBuild heapPop heapSort reverseLoop reverseRange scanUp scanDown partLoop partEqLoop scanSorted shiftDown shiftUp partialIns partialInsertionSort)
open Go.Sort (bitsLen PermIn SortedIn Below permIn_trans permIn_refl insertionSort_holds heapSort_holds partialInsertionSort_holds partition_holds partitionEqual_holds reverseRange_holds swo_ltInt round_eq round_part partition partitionEqual)
section
variable (f:Frag) (F:List HP)
def SrtP(f:Frag)(F:List HP)(p:Option Addr)(n c a b:Nat)(d0:Array Int):Value→Frag→List HP→Prop:=fun v f' A'=>∃d:Array Int,PermIn a b d0 d∧SortedIn ltInt a b d∧v= .tuple #[]∧f'=f∧A'=slc p n c 35 1 (arr d)::F
def pdSt(p:Option Addr)(n c:Nat)(s:Nat×Nat×Int×Bool×Bool×Array Int):Env:=[(0,.slice p n c),(1,.int .i64 (s.1:Int)),(2,.int .i64 (s.2.1:Int)),(3,.int .i64 s.2.2.1),(8,.bool s.2.2.2.1),(9,.bool s.2.2.2.2.1)]
theorem pdq_fn:∀(m:Nat) {p:Option Addr} {n c a0 b0:Nat} {lim0:Int} {d0:Array Int} (hd0:d0.size=n) (hn:n≤255) (ha:a0≤b0) (hb:b0≤n) (hl:0≤lim0∧lim0≤100) (hB:Below ltInt a0 b0 d0) (hm:b0-a0≤m),
  Fn prog 146 [.slice p n c,.int .i64 (a0:Int),.int .i64 (b0:Int),.int .i64 lim0] f (slc p n c 35 1 (arr d0)::F) (SrtP f F p n c a0 b0 d0):=by
 intro m
 induction m with
 | zero =>
  intro p n c a0 b0 lim0 d0 hd0 hn ha hb hl hB hm;have h1:=insertionSort_holds swo_ltInt d0 a0 b0 ha jA;have hz:(b0:Int)-(a0:Int)=0:=jA
  refine Fn.e4 func146 ntmps146 fun base=>?_;refine gT ?_;refine H.lo (ι:=Unit) (fun _=>[(0,.slice p n c),(1,.int .i64 (a0:Int)),(2,.int .i64 (b0:Int))]) (fun _=>f) (fun _=>slc p n c 35 1 (arr d0)::F) (fun _=>True) (fun _=>0) () trivial fun _ _=>?_;show H _ _ _ [(0,.slice p n c),(1,.int .i64 (a0:Int)),(2,.int .i64 (b0:Int))] f (slc p n c _ 1 (arr d0)::F) _;repeat(first|(refine H.ar (op:=.sub) (p:=(b0:Int)) (p2:=(a0:Int)) (z:=0) rfl rfl rfl rfl (by rw[hz];rfl) rfl ?_)|(refine gh ?_))
  refine H.Af rfl rfl rfl (insSort_fn f _ (a:=a0) (b:=b0) hd0 jA hb jA) ?_;refine gT ?_;exact H.ret0 rfl iD ⟨_,h1.1,h1.2,rfl,rfl,rfl⟩
 | succ m ih =>
  intro p n c a0 b0 lim0 d0 hd0 hn ha hb hl hB hm;refine Fn.e4 func146 ntmps146 fun base=>?_;refine gT ?_
  refine H.lo (ι:=Nat×Nat×Int×Bool×Bool×Array Int) (pdSt p n c) (fun _=>f) (fun s=>slc p n c 35 1 (arr s.2.2.2.2.2)::F)
   (fun s=>s.1≤s.2.1∧s.2.1≤n∧s.2.1-s.1≤m+1∧s.2.2.2.2.2.size=n∧(0≤s.2.2.1∧s.2.2.1≤100)∧Below ltInt s.1 s.2.1 s.2.2.2.2.2∧∀R,PermIn s.1 s.2.1 s.2.2.2.2.2 R→SortedIn ltInt s.1 s.2.1 R→PermIn a0 b0 d0 R∧SortedIn ltInt a0 b0 R)
   (fun s=>s.2.1-s.1) (a0,b0,lim0,true,true,d0) ⟨ha,hb,hm,hd0,hl,hB,fun R h1 h2=>⟨h1,h2⟩⟩ fun s hs=>?_
  clear hl hB;obtain⟨a,b,lim,wb,wp,d⟩:=s;obtain⟨hab,hbn,hm1,hd,hl,hB,hfin⟩:a≤b∧b≤n∧b-a≤m+1∧d.size=n∧(0≤lim∧lim≤100)∧Below ltInt a b d∧∀R,PermIn a b d R→SortedIn ltInt a b R→PermIn a0 b0 d0 R∧SortedIn ltInt a0 b0 R:=hs;show H _ _ _ [(0,.slice p n c),(1,.int .i64 (a:Int)),(2,.int .i64 (b:Int)),(3,.int .i64 lim),(8,.bool wb),(9,.bool wp)] f (slc p n c _ 1 (arr d)::F) _;obtain⟨l,hl0⟩:∃l,l=b-a:=⟨_,rfl⟩;have hz:(b:Int)-(a:Int)=(l:Int):=jA
  by_cases h12:l≤12
  ·skip;refine qgj ?_;refine H.Af rfl rfl rfl (insSort_fn f _ (a:=a) (b:=b) hd jA hbn jA) ?_;refine gT ?_;have h1:=insertionSort_holds swo_ltInt d a b hab jA;exact qcV
  ·by_cases hl00 : lim = 0
   ·skip;refine qgj ?_;refine H.Af rfl rfl rfl (heapSort_fn f _ (a:=a) (b:=b) hd jA jA hbn) ?_;refine gT ?_;have h1:=heapSort_holds swo_ltInt d a b hab jA;exact qcV
   ·skip;repeat(first|(refine H.ar (op:=.sub) (p:=(b:Int)) (p2:=(a:Int)) (z:=(l:Int)) rfl rfl rfl rfl jp rfl ?_)|((first|apply H.Aw|apply H.Be);(iterate 3 exact rfl))|(first|apply H.seq|apply H.Bg|apply H.nil|apply H.Bj)|((apply H.cmp);(iterate 5 exact rfl))|((apply H.not);(iterate 4 exact rfl))|(first|apply H.skip|apply H.Bl)|(apply H.Cj;exact rfl;(first|assumption|omega)))
    refine H.cut (ι:=Int×Array Int) (fun s=>[(0,.slice p n c),(1,.int .i64 (a:Int)),(2,.int .i64 (b:Int)),(3,.int .i64 s.1),(8,.bool wb),(9,.bool wp),(10,.int .i64 (l:Int))]) (fun _=>f) (fun s=>slc p n c 35 1 (arr s.2)::F) (fun s=>(0≤s.1∧s.1≤100)∧PermIn a b d s.2) _ (fun s hs=>?_) ?_;rotate_left
    ·cases wb with
     | true =>
      refine gW ?_;exact H.Bc (lim,d) ⟨hl,permIn_refl _ _ _⟩ ⟨rfl,rfl,rfl,rfl,rfl,rfl,rfl,trivial⟩ rfl rfl
     | false =>
      refine gD ?_;refine H.Ap rfl rfl rfl (break_fn f F (a:=a) (b:=b) hd hn jA hbn) fun v f' A' hR=>?_;obtain⟨d1,hP,rfl,hff,rfl⟩:=hR;rw[hff];refine gW ?_;exact H.Bc (lim-1,d1) ⟨by show 0≤lim-1∧lim-1≤100;omega,hP⟩ ⟨rfl,rfl,rfl,rfl,rfl,rfl,rfl,trivial⟩ rfl rfl
    obtain⟨lim1,d1⟩:=s;obtain⟨hl1,hP1⟩:(0≤lim1∧lim1≤100)∧PermIn a b d d1:=hs;show H _ _ _ [(0,.slice p n c),(1,.int .i64 (a:Int)),(2,.int .i64 (b:Int)),(3,.int .i64 lim1),(8,.bool wb),(9,.bool wp),(10,.int .i64 (l:Int))] f (slc p n c _ 1 (arr d1)::F) _;have hd1:d1.size=n:=hP1.1.trans hd;refine gI ?_
    refine H.Ap rfl rfl rfl (pivot_fn f F (a:=a) (b:=b) hd1 jA jA hbn) fun v f' A' hR=>?_;obtain⟨x,h,hx1,hx2,rfl,hff,rfl⟩:=hR;rw[hff];repeat(first|((first|apply H.Aw|apply H.Be);(iterate 3 exact rfl))|(first|apply H.seq|apply H.Bg|apply H.nil|apply H.Bj)|((apply H.cmp);(iterate 5 exact rfl))|((apply H.Cg);(iterate 4 exact rfl)))
    refine H.cut (ι:=Nat×Int×Array Int) (fun s=>[(11,.int .i64 (s.1:Int)),(12,.int .i64 s.2.1),(0,.slice p n c),(1,.int .i64 (a:Int)),(2,.int .i64 (b:Int)),(3,.int .i64 lim1),(8,.bool wb),(9,.bool wp),(10,.int .i64 (l:Int))]) (fun _=>f) (fun s=>slc p n c 35 1 (arr s.2.2)::F) (fun s=>a≤s.1∧s.1<b∧PermIn a b d s.2.2) _ (fun s hs=>?_) ?_;rotate_left
    ·by_cases h2:h=2
     ·have hpz:(b:Int)-1-((x:Int)-(a:Int))=((b-1-(x-a):Nat):Int):=jA
      refine gG ?_;refine H.Af rfl rfl rfl (reverse_fn f _ (a:=a) (b:=b) hd1 jA jA hbn) ?_;repeat(first|(refine H.ar (op:=.sub) (p:=(b:Int)-1) (p2:=(x:Int)-(a:Int)) (z:=((b-1-(x-a):Nat):Int)) rfl rfl rfl rfl (by rw[hpz,wr_i64 jA]) rfl ?_)|(refine gh ?_))
      exact H.Bc (b-1-(x-a),1,Go.Sort.reverseRange d1 a b) ⟨by show a≤b-1-(x-a);omega,by show b-1-(x-a)<b;omega,permIn_trans _ _ _ _ _ hP1 (reverseRange_holds d1 a b hab jA)⟩ ⟨rfl,rfl,rfl,rfl,rfl,rfl,rfl,rfl,rfl,trivial⟩ rfl rfl
     ·refine gc ?_;exact H.Bc (x,h,d1) ⟨hx1,hx2,hP1⟩ ⟨rfl,rfl,rfl,rfl,rfl,rfl,rfl,rfl,rfl,trivial⟩ rfl rfl
    clear hP1 hd1 hx1 hx2;obtain⟨pv,hh,d2⟩:=s;obtain⟨hp1,hp2,hP2⟩:a≤pv∧pv<b∧PermIn a b d d2:=hs;show H _ _ _ [(11,.int .i64 (pv:Int)),(12,.int .i64 hh),(0,.slice p n c),(1,.int .i64 (a:Int)),(2,.int .i64 (b:Int)),(3,.int .i64 lim1),(8,.bool wb),(9,.bool wp),(10,.int .i64 (l:Int))] f (slc p n c _ 1 (arr d2)::F) _;have hd2:d2.size=n:=hP2.1.trans hd;repeat apply H.seq
    refine H.cut (ι:=Bool) (fun t=>[(68,.bool t),(11,.int .i64 (pv:Int)),(0,.slice p n c),(1,.int .i64 (a:Int)),(2,.int .i64 (b:Int)),(3,.int .i64 lim1),(8,.bool wb),(9,.bool wp),(10,.int .i64 (l:Int))]) (fun _=>f) (fun _=>slc p n c 35 1 (arr d2)::F) (fun _=>True) _ (fun t _=>?_) ?_;rotate_left
    ·cases wb with
     | false =>
      exact qcE
     | true =>
      cases wp with
      | false =>
       exact qcE
      | true =>
       refine gY ?_;exact H.Bc _ trivial ⟨rfl,rfl,rfl,rfl,rfl,rfl,rfl,rfl,rfl,trivial⟩ rfl rfl
    show H _ _ _ [(68,.bool t),(11,.int .i64 (pv:Int)),(0,.slice p n c),(1,.int .i64 (a:Int)),(2,.int .i64 (b:Int)),(3,.int .i64 lim1),(8,.bool wb),(9,.bool wp),(10,.int .i64 (l:Int))] f (slc p n c _ 1 (arr d2)::F) _;refine H.cut (ι:=Array Int) (fun _=>[(11,.int .i64 (pv:Int)),(0,.slice p n c),(1,.int .i64 (a:Int)),(2,.int .i64 (b:Int)),(3,.int .i64 lim1),(8,.bool wb),(9,.bool wp),(10,.int .i64 (l:Int))]) (fun _=>f) (fun s=>slc p n c 35 1 (arr s)::F) (fun s=>PermIn a b d s) _ (fun d3 hP3=>?_) ?_;rotate_left
    ·cases t with
     | false =>
      refine gW ?_;exact H.Bc d2 hP2 ⟨rfl,rfl,rfl,rfl,rfl,rfl,rfl,rfl,trivial⟩ rfl rfl
     | true =>
      have h1:=partialInsertionSort_holds swo_ltInt d2 a b jA jA (hB.perm jA hP2);have h2:=permIn_trans _ _ _ _ _ hP2 h1.1
      refine gD ?_;refine H.Af rfl rfl rfl (partIns_fn f _ (a:=a) (b:=b) hd2 jA jA hbn) ?_;generalize partialInsertionSort ltInt d2 a b=r at *;obtain⟨d3,r2⟩:=r
      cases r2 with
      | true =>
       refine gL ?_;have h3:=hfin d3 h2 (h1.2 rfl);exact H.ret0 rfl iD ⟨d3,h3.1,h3.2,rfl,rfl,rfl⟩
      | false =>
       refine gW ?_;exact H.Bc d3 h2 ⟨rfl,rfl,rfl,rfl,rfl,rfl,rfl,rfl,trivial⟩ rfl rfl
    clear hP2 hd2;show H _ _ _ [(11,.int .i64 (pv:Int)),(0,.slice p n c),(1,.int .i64 (a:Int)),(2,.int .i64 (b:Int)),(3,.int .i64 lim1),(8,.bool wb),(9,.bool wp),(10,.int .i64 (l:Int))] f (slc p n c _ 1 (arr d3)::F) _;have hd3:d3.size=n:=hP3.1.trans hd;have hB3:=hB.perm jA hP3
    repeat apply H.seq
    refine H.cut (ι:=Bool) (fun t=>[(87,.bool t),(11,.int .i64 (pv:Int)),(0,.slice p n c),(1,.int .i64 (a:Int)),(2,.int .i64 (b:Int)),(3,.int .i64 lim1),(8,.bool wb),(9,.bool wp),(10,.int .i64 (l:Int))]) (fun _=>f) (fun _=>slc p n c 35 1 (arr d3)::F) (fun t=>t=true→0<a∧ltInt d3[a-1]! d3[pv]! =false) _ (fun t ht=>?_) ?_;rotate_left
    ·refine H.Au (p:=p) (n0:=n) (c:=c) (T:=35) (sz:=1) (xs:=arr d3) aP0 jA fun sb hp=>?_;subst hp;by_cases ha0:0<a
     ·obtain⟨a1,rfl⟩:∃a1,a=a1+1:=⟨a-1,by omega⟩;refine qeJ ?_;refine HB.qu [0,1,2,3,4,5,6,7,8,9,10,11] 3 ?_;refine gZ ?_;refine HQ.Ah (i:=a1) rfl rfl rfl jA jA rfl ?_;refine qhD ?_;refine HQ.Ah (i:=pv) rfl rfl rfl jA jA rfl ?_;refine qej ?_;refine qhf ?_;refine H.Af rfl rfl rfl (zcj f _ d3[a1]! d3[pv]!) ?_;refine qeg ?_;refine HB.qu [13,14] 0 ?_;refine qju ?_
      cases hlx:ltInt d3[a1]! d3[pv]! with
      | true =>
       exact qcy
      | false =>
       skip;exact H.Bc true (fun _=>⟨ha0,hlx⟩) ⟨rfl,rfl,rfl,rfl,rfl,rfl,rfl,rfl,rfl,trivial⟩ rfl rfl
     ·skip;refine qeJ ?_;refine qjk ?_;refine qfh ?_;exact qcy
    show H _ _ _ [(87,.bool t),(11,.int .i64 (pv:Int)),(0,.slice p n c),(1,.int .i64 (a:Int)),(2,.int .i64 (b:Int)),(3,.int .i64 lim1),(8,.bool wb),(9,.bool wp),(10,.int .i64 (l:Int))] f (slc p n c _ 1 (arr d3)::F) _
    cases t with
    | true =>
     obtain⟨ha0,hnl⟩:=ht rfl;obtain⟨g1,g2,g3,g4,g5⟩:=round_eq swo_ltInt (partitionEqual_holds ltInt) ha0 hp1 hp2 jA hB3 hnl (d4:=(partitionEqual ltInt d3 a b pv).2) (mid:=(partitionEqual ltInt d3 a b pv).1) rfl;refine gD ?_;refine H.Af rfl rfl rfl (partEq_fn f _ (a:=a) (b:=b) (pivot:=pv) hd3 jA hp1 hp2 hbn) ?_;generalize(partitionEqual ltInt d3 a b pv).1=mid at *;generalize(partitionEqual ltInt d3 a b pv).2=d4 at *;refine gT ?_
     exact H.Ar (mid,b,lim1,wb,wp,d4) ⟨by show mid≤b;omega,hbn,by show b-mid≤m+1;omega,by show d4.size=n;omega,hl1,g4,fun R h1 h2=>by
      have h3:=g5 R h1 h2
      exact hfin R (permIn_trans _ _ _ _ _ hP3 h3.1) h3.2⟩ (by show b-mid<b-a;omega) ⟨rfl,rfl,rfl,rfl,rfl,rfl,trivial⟩ rfl rfl
    | false =>
     have hrp:=round_part swo_ltInt (partition_holds ltInt) hp1 hp2 (by omega:b≤d3.size) hB3 (d4:=(partition ltInt d3 a b pv).2.2) (ap:=(partition ltInt d3 a b pv).2.1) (mid:=(partition ltInt d3 a b pv).1) rfl;have hq:IntKind.wrap .i64 ((l:Int).tdiv 8)=((l / 8:Nat):Int):=by rw[show(8:Int)=((8:Nat):Int)from rfl,tdiv64,wr_i64 jA]
     refine gW ?_;refine H.Ap rfl rfl rfl (partition_fn f F (a:=a) (b:=b) (pivot:=pv) hd3 jA hp1 hp2 hbn) fun v f' A' hR=>?_;generalize(partition ltInt d3 a b pv).1=mid at *;generalize(partition ltInt d3 a b pv).2.2=d4 at *;obtain⟨ap,rfl,hff,rfl⟩:=hR;rw[hff];obtain⟨g1,g2,g3,g4,g5,g6,g7⟩:=hrp;by_cases hlr:mid-a<b-mid
     ·skip;refine qjR ?_;refine H.Ap rfl rfl rfl (ih (n:=n) (c:=c) (p:=p) (a0:=a) (b0:=mid) (lim0:=lim1) (d0:=d4) jA hn g1 jA hl1 g4 jA) fun v f' A' hR=>?_;obtain⟨L,hL1,hL2,rfl,hff,rfl⟩:=hR;rw[hff];obtain⟨k1,k2⟩:=g6 L hL1 hL2;refine gW ?_
      exact H.Ar (mid+1,b,lim1,_,ap,L) ⟨by show mid+1≤b;omega,hbn,by show b-(mid+1)≤m+1;omega,by show L.size=n;have:=hL1.1;omega,hl1,k1,fun R h1 h2=>by
       have h3:=k2 R h1 h2
       exact hfin R (permIn_trans _ _ _ _ _ hP3 h3.1) h3.2⟩ (by show b-(mid+1)<b-a;omega) ⟨rfl,rfl,rfl,rfl,rfl,rfl,trivial⟩ rfl rfl
     ·skip;refine qjR ?_;refine H.Ap rfl rfl rfl (ih (n:=n) (c:=c) (p:=p) (a0:=mid+1) (b0:=b) (lim0:=lim1) (d0:=d4) jA hn jA hbn hl1 g5 jA) fun v f' A' hR=>?_;obtain⟨L,hL1,hL2,rfl,hff,rfl⟩:=hR;rw[hff];obtain⟨k1,k2⟩:=g7 L hL1 hL2;refine gT ?_
      exact H.Ar (a,mid,lim1,_,ap,L) ⟨g1,by show mid≤n;omega,by show mid-a≤m+1;omega,by show L.size=n;have:=hL1.1;omega,hl1,k1,fun R h1 h2=>by
       have h3:=k2 R h1 h2
       exact hfin R (permIn_trans _ _ _ _ _ hP3 h3.1) h3.2⟩ (by show mid-a<b-a;omega) ⟨rfl,rfl,rfl,rfl,rfl,rfl,trivial⟩ rfl rfl
end
def w15C(kb n:Nat)(ap:Option Addr)(m ac lb:Nat):List Value:=[.slice (some ⟨kb,0,none⟩) n n,.slice ap m ac,.pointer (some ⟨lb,0,none⟩)]
variable {fl:Frag} {wb kb lb T m ac n o:Nat} {ap:Option Addr}
section
variable (f:Frag) (F:List HP)
theorem great_fn(hfl:Le fl f){l:Lgs}(hL:LI l T)(ho:o<l.n):Fn prog 65 [.pointer (some ⟨wb,0,none⟩),.int .i64 ((o+1:Nat):Int)] f (logsH fl lb l::row wb 32 (w15C kb n ap m ac lb)::F)
   (Ret (.int .u64 (l.past o).g) f (logsH fl lb l::row wb 32 (w15C kb n ap m ac lb)::F)):=by
 refine qjX fun i0 hi=>?_;obtain⟨V,vp,vc,pp,pc,cp,cc,pb,cs⟩:=i0;have hiF:=hi.mono hfl;have hn:=hL.n3
 obtain⟨pbb,poff,hpp0,rdp0⟩:=hiF.past (by show 0<l.n;omega);have hpp:pp=some ⟨pbb,poff,none⟩:=hpp0;have rdp:∀ {A:List HP} {r:Nat},r<l.n→Rd1 f A pbb (poff+r) (.pointer (some ⟨pb r,0,none⟩)):=fun {A r} hr=>rdp0 (Le.refl f) hr
 clear hpp0 rdp0;show Fn _ _ _ f (row lb 152 (lgC l.n l.known vp V.length vc pp pc cp cc)::slc vp V.length vc 147 4 (V.flatMap VV.vals)::lst (V.map VV.own)::fam (fun r=>pstH (pb r) (l.past r)) l.n::slc cp l.n cc 195 1 (chRow l cs)::fam (chFam l cs) l.n::_::F) _;refine Fn.e2 func65 ntmps65 fun base=>?_;refine gU ?_;refine H.Ak (b:=pbb) (off:=poff) (i:=o) rfl ke rfl jA ho rfl ?_;refine H.Ab rfl rfl rfl (by rw[Nat.mul_one];exact rdp ho) rfl ?_;refine qfU ?_;refine H.Bq ho ?_;refine pstH_openH fun eb ec=>?_;refine gM ?_;refine H.imp (zay (b:=pb o) (eb:=eb) (ec:=ec) (s:=l.past o)) ?_;refine H.By (g:=fun r=>pstH (pb r) (l.past r)) ho ?_;refine qeh ?_;refine H.imp (zai ⟨V,vp,vc,pp,pc,cp,cc,pb,cs⟩ hi) ?_;exact qaj
theorem byte_toNat{k:Nat}(h:k<256):((UInt8.ofNat k).toNat:Int)=(k:Int):=by
 exact qcA
theorem ask_fn(x:A15):Fn prog 66 [.agg x.vals.toArray] f F (Ret (.agg x.req.vals.toArray) f F):=by
 have hcm:((x.client.toNat % 3:Nat):Int)≤2:=jA
 have hkm:((x.key.toNat % 4:Nat):Int)≤3:=jA
 have htm:((x.time.toNat % 10:Nat):Int)≤9:=jA
 have ht:=x.time.toNat_lt;have hsg:=fun G=>rsigned_fn f G x.req0
 refine Fn.e1 func66 ntmps66 fun base=>?_;refine qem fun xb=>?_;refine qgN fun ob=>?_;refine gF ?_;refine H.rem (z:=((x.client.toNat % 3:Nat):Int)) rfl rfl rfl jC (zal (b:=3) rfl) rfl ?_;refine gH ?_;refine H.rem (z:=((x.key.toNat % 4:Nat):Int)) rfl rfl rfl jC (zal (b:=4) rfl) rfl ?_;refine gH ?_;refine H.Bh (d:=16) (u:=.int .u8 ((UInt8.ofNat (97+x.key.toNat % 4)).toNat:Nat)) rfl (by rw[byte_toNat jA];rfl) ?_;refine H.Aq (out:=bytesV [UInt8.ofNat (97+x.key.toNat % 4)]) rfl rfl rfl rfl jC jC rfl rfl fun eb=>?_;refine H.convBS (bs:=[UInt8.ofNat (97+x.key.toNat % 4)]) rfl rfl (Src.slice (Rd.ofRow aP0) rfl) (fun h=>by cases h) rfl ?_;refine gH ?_;refine H.rem (z:=((x.time.toNat % 10:Nat):Int)) rfl rfl rfl jC (zal (b:=10) rfl) rfl ?_;refine gH ?_;refine H.Bh (d:=22) (u:=.int .u8 ((UInt8.ofNat (48+x.time.toNat % 10)).toNat:Nat)) rfl (by rw[byte_toNat jA];rfl) ?_;refine H.Aq (out:=bytesV [UInt8.ofNat (48+x.time.toNat % 10)]) rfl rfl rfl rfl jC jC rfl rfl fun eb2=>?_;refine H.convBS (bs:=[UInt8.ofNat (48+x.time.toNat % 10)]) rfl rfl (Src.slice (Rd.ofRow aP0) rfl) (fun h=>by cases h) rfl ?_;refine qjj ?_;repeat(first|(refine H.Ay (t:=49) (out:=x.req0.vals) rfl rfl rfl jE rfl ?_)|(refine gh ?_))
 refine qgN fun rb=>?_;refine H.Ag (ls:=Req.zero.vals) (vs:=x.req0.vals) (ls':=x.req0.vals) rfl rfl rfl (zaa rfl) rfl rfl (Nat.le_refl 40) aP0 ?_;refine gF ?_;unfold A15.req
 cases hno:x.no with
 | true =>
  refine gL ?_;refine H.Ad (ls:=x.req0.vals) rfl rfl rfl (Rd.ofRow aP0) rfl rfl ?_;refine H.Ag (ls:=Req.zero.vals) (vs:=x.req0.vals) (ls':=x.req0.vals) rfl rfl rfl (zaa rfl) rfl rfl (Nat.le_refl 40) at1 ?_;refine qiY ?_;refine qgW ?_;exact H.Ax (ls:=x.req0.vals) rfl rfl rfl (Rd.ofRow aP0) rfl (fun _ s=>s.drop (.here _ _)) ⟨rfl,rfl,rfl⟩
 | false =>
  refine gW ?_;refine H.Ad (ls:=x.req0.vals) rfl rfl rfl (Rd.ofRow aP0) rfl rfl ?_;refine H.cr (hsg _) ?_;refine H.Ag (ls:=Req.zero.vals) (vs:=x.req0.signed.vals) (ls':=x.req0.signed.vals) rfl rfl rfl (zaa rfl) rfl rfl (Nat.le_refl 40) at1 ?_;refine qiY ?_;refine qgW ?_;exact H.Ax (ls:=x.req0.signed.vals) rfl rfl rfl (Rd.ofRow aP0) rfl (fun _ s=>s.drop (.here _ _)) ⟨rfl,rfl,rfl⟩
end
def A15.Has(f:Frag)(x:A15):Prop:=BAt f x.qp x.q
theorem qAcc_stop{row:Nat→List (Int×Int)}{half:Nat}:∀ {k m:Nat},k≤m→half<(qAcc row half k).length→qAcc row half m=qAcc row half k
 | k, 0, h, _ => by
  have:k=0:=jA
  rw[this]
 | k, m + 1, h, hl => by
  by_cases e:k=m+1
  ·rw[e]
  ·have ih:=qAcc_stop (m:=m) jA hl
   show(if(qAcc row half m).length≤half then qAcc row half m++row m else qAcc row half m)=_
   rw[ih,if_neg jA]
def qPart(ch:Nat→List (Int×Int))(kv:Nat→Int)(v:Int)(raw:Bool)(r i:Nat):List (Int×Int):=(((ch r).take i).filter fun c=>decide (c.1=v)&&decide (c.2≤kv r)&& !raw).map fun c=>(((r+1:Nat):Int),c.2)
theorem qPart_all(ch:Nat→List (Int×Int))(kv:Nat→Int)(v:Int)(raw:Bool)(r:Nat):qPart ch kv v raw r (ch r).length=qRow ch kv v raw r:=by unfold qPart qRow;rw[List.take_length]
theorem qPart_next{ch:Nat→List (Int×Int)}{kv:Nat→Int}{v:Int}{raw:Bool}{r i:Nat}{c:Int×Int}(hc:(ch r)[i]?=some c):qPart ch kv v raw r (i+1)=qPart ch kv v raw r i++(if(decide (c.1=v)&&decide (c.2≤kv r)&& !raw)=true then [(((r+1:Nat):Int),c.2)]else []):=by
 unfold qPart;rw[filt_take hc,List.map_append];congr 1;split<;>rfl
theorem qPart_len(ch:Nat→List (Int×Int))(kv:Nat→Int)(v:Int)(raw:Bool)(r i:Nat):(qPart ch kv v raw r i).length≤(ch r).length:=by
 unfold qPart;rw[List.length_map];exact qdb
variable {x:A15}
section
variable (f:Frag) (F:List HP)
theorem q15_fn(hfl:Le fl f){l:Lgs}(hL:LI l T)(hT:T≤1000)(hnn:l.n=n)(ho:o<n){kv:Nat→Nat→Int}(hx:x.Has f)(hq20:x.q.length≤20)(v:Int):Fn prog 68 [.pointer (some ⟨wb,0,none⟩),.int .i64 ((o+1:Nat):Int),.agg x.vals.toArray,.int .u64 v] f (logsH fl lb l::row wb 32 (w15C kb n ap m ac lb)::row kb 37 (kRow n kv)::F)
   (RetE (fun i:Option Addr×Nat=>.slice i.1 (x.qs n l.ch (kv o) v).length i.2) f (fun i=>slc i.1 (x.qs n l.ch (kv o) v).length i.2 127 2 ((x.qs n l.ch (kv o) v).flatMap pairV)::logsH fl lb l::row wb 32 (w15C kb n ap m ac lb)::row kb 37 (kRow n kv)::F)):=by
 refine qjX fun i0 hi=>?_;obtain⟨V,vp,vc,pp,pc,cp,cc,pb,cs⟩:=i0;have hn:=hL.n3;obtain⟨acc,hacc⟩:∃acc:Nat→List (Int×Int),acc=qAcc (qRow l.ch (kv o) v x.raw) ((n-1) / 2):=⟨_,rfl⟩
 have hal:∀k,(acc k).length≤(n-1) / 2+T:=fun k=>by rw[hacc];exact qAcc_len (fun r=>Nat.le_trans (qRow_len _ _ _ _ r) (hL.cl r)) k
 show Fn _ _ _ f (row lb 152 (lgC l.n l.known vp V.length vc pp pc cp cc)::slc vp V.length vc 147 4 (V.flatMap VV.vals)::lst (V.map VV.own)::fam (fun r=>pstH (pb r) (l.past r)) l.n::slc cp l.n cc 195 1 (chRow l cs)::fam (chFam l cs) l.n::row wb 32 (w15C kb n ap m ac lb)::row kb 37 (kRow n kv)::F) _;refine Fn.e4 func68 ntmps68 fun base=>?_;refine qem fun xb=>?_;refine gM ?_;refine H.slc0 127 2 ?_;refine qeh ?_;refine qeI ?_;refine H.pf (x:=slc none _ _ _ _ _) ?_;refine qfm ?_
 refine H.loop (ι:=Nat×Option Addr×Nat) (fun s=>[(11,.int .i64 ((s.1+1:Nat):Int)),(9,.slice s.2.1 (acc s.1).length s.2.2),(10,.int .i64 (n:Int)),(0,.pointer (some ⟨wb,0,none⟩)),(1,.int .i64 ((o+1:Nat):Int)),(3,.int .u64 v),(6,.pointer (some ⟨xb,0,none⟩))]) (fun _=>f)
  (fun s=>row xb 71 x.vals::slc s.2.1 (acc s.1).length s.2.2 127 2 ((acc s.1).flatMap pairV)::row wb 32 (w15C kb n ap m ac lb)::row kb 37 (kRow n kv)::row lb 152 (lgC l.n l.known vp V.length vc pp pc cp cc)::slc vp V.length vc 147 4 (V.flatMap VV.vals)::lst (V.map VV.own)::fam (fun r=>pstH (pb r) (l.past r)) l.n::slc cp l.n cc 195 1 (chRow l cs)::fam (chFam l cs) l.n::F)
  (fun s=>s.1≤n) (fun s=>n-s.1) (0,none,0) (Nat.zero_le _) ⟨rfl,by rw[hacc];rfl,rfl,rfl,rfl,rfl,rfl,trivial⟩ rfl (by rw[hacc];rfl) fun s hs=>?_
 obtain⟨r,qp,qc⟩:=s;have hrn:r≤n:=hs;have halr:=hal r
 show H _ _ _ [(11,.int .i64 ((r+1:Nat):Int)),(9,.slice qp (acc r).length qc),_,_,_,_,_] f (_::slc qp (acc r).length qc _ 2 ((acc r).flatMap pairV)::_::_::_::_::_::_::_::_::F) _
 have hquo:(((n:Int)-1).tdiv 2)=(((n-1) / 2:Nat):Int):=by
  rw[show((n:Int)-1)=((n-1:Nat):Int) by omega];exact(Int.ofNat_tdiv (n-1) 2).symm
 by_cases hgo:r<n∧(acc r).length≤(n-1) / 2
 ·obtain⟨hr,hlen⟩:=hgo;have hrl:r<l.n:=jA
  have hcl:=hL.cl r;have hr11:r<11:=jA
  refine qkj fun cb hcb=>?_;have hCd:∀ {A A':List HP},At A (slc cp l.n cc 195 1 (chRow l cs)) A' (slc cp l.n cc 195 1 (chRow l cs))→Rd f A cb 0 (chRow l cs):=fun {A A'} h=>Rd.ofSlc (n:=l.n) (c:=cc) (T:=195) (sz:=1) (by rw[←hcb];exact h) jA
  have hsucc:acc (r+1)=acc r++qRow l.ch (kv o) v x.raw r:=by
   rw[hacc]at hlen⊢;show(if _ then _ else _)=_;rw[if_pos hlen]
  refine qjQ ?_;refine gX ?_;refine H.Ak (b:=cb) (off:=0) (i:=r) rfl (by rw[←hcb];rfl) rfl jA hrl rfl ?_;refine H.Ab rfl rfl rfl (by rw[Nat.zero_add,Nat.mul_one];exact Rd1.at0 (hCd jB) (rngV_get _ hrl)) rfl ?_;refine gT ?_;refine qhW ?_;refine H.Bq hrl ?_;refine H.pf (x:=fam (updF _ _ _) _) ?_;refine qfe ?_;refine qfI ?_;refine qeI ?_;refine H.pf (x:=slc qp _ qc _ _ _) ?_;refine H.pf (x:=chFam l cs r) ?_;refine qfm ?_;obtain⟨pt,hpt⟩:∃pt:Nat→List (Int×Int),pt=fun i=>acc r++qPart l.ch (kv o) v x.raw r i:=⟨_,rfl⟩;have hp0:pt 0=acc r:=by rw[hpt];show acc r++[]=_;rw[List.append_nil]
  have hpl:∀i,(pt i).length≤(n-1) / 2+T+T:=fun i=>by
   rw[hpt];show(acc r++_).length≤_;rw[lnA]
   have:=qPart_len l.ch (kv o) v x.raw r i;omega
  refine H.loop (ι:=Nat×Option Addr×Nat) (fun s=>[(13,.int .i64 (s.1:Int)),(12,.slice (cs r).1 (l.ch r).length (cs r).2),(9,.slice s.2.1 (pt s.1).length s.2.2),(11,.int .i64 ((r+1:Nat):Int)),(10,.int .i64 (n:Int)),(0,.pointer (some ⟨wb,0,none⟩)),(1,.int .i64 ((o+1:Nat):Int)),(3,.int .u64 v),(6,.pointer (some ⟨xb,0,none⟩))]) (fun _=>f)
   (fun s=>row xb 71 x.vals::chFam l cs r::slc s.2.1 (pt s.1).length s.2.2 127 2 ((pt s.1).flatMap pairV)::row wb 32 (w15C kb n ap m ac lb)::row kb 37 (kRow n kv)::row lb 152 (lgC l.n l.known vp V.length vc pp pc cp cc)::slc vp V.length vc 147 4 (V.flatMap VV.vals)::lst (V.map VV.own)::fam (fun r=>pstH (pb r) (l.past r)) l.n::slc cp l.n cc 195 1 (chRow l cs)::fam (updF (chFam l cs) r emp) l.n::F)
   (fun s=>s.1≤(l.ch r).length) (fun s=>(l.ch r).length-s.1) (0,qp,qc) (Nat.zero_le _) ⟨rfl,rfl,by rw[hp0];rfl,rfl,rfl,rfl,rfl,rfl,rfl,trivial⟩ rfl (by rw[hp0]) fun s hs=>?_
  obtain⟨i,qp,qc⟩:=s;have hi2:i≤(l.ch r).length:=hs;have hpli:=hpl i
  show H _ _ _ [(13,.int .i64 (i:Int)),_,(9,.slice qp (pt i).length qc),_,_,_,_,_,_] f (_::_::slc qp (pt i).length qc _ 2 ((pt i).flatMap pairV)::_::_::_::_::_::_::_::_::F) _;by_cases hlt:i<(l.ch r).length
  ·obtain⟨y,hy⟩:∃y,(l.ch r)[i]?=some y:=⟨_,lgE hlt⟩;refine qiE fun sb hp=>?_
   have rd:∀ {G0:HP} {G:List HP},Rd f (G0::chFam l cs r::G) sb (0+i*2) (chV y):=fun {G0 G}=>by
    rw[Nat.zero_add];exact Rd.slcElem (vals:=chV) (xs:=l.ch r) (n:=(l.ch r).length) (c:=(cs r).2) (T:=197) chV_len jC kY hy
   have hnx:pt (i+1)=pt i++(if(decide (y.1=v)&&decide (y.2≤kv o r)&& !x.raw)=true then [(((r+1:Nat):Int),y.2)]else []):=by
    rw[hpt];show acc r++qPart _ _ _ _ _ (i+1)=acc r++qPart _ _ _ _ _ i++_;rw[qPart_next hy,List.append_assoc]
   refine qks ?_;refine gB ?_;refine qkS ?_;refine HQ.Ab rfl rfl rfl (Rd1.of (i:=0) rd rfl) rfl ?_;refine gJ ?_;by_cases h1:y.1=v
   ·skip;refine gJ ?_;refine qkS ?_;refine HQ.Ab rfl rfl rfl (Rd1.of (i:=1) rd rfl) rfl ?_;refine gV ?_;refine HQ.Ak (b:=kb) (off:=0) (i:=o) rfl rfl rfl jA ho rfl ?_;refine HQ.Al (i:=r) rfl rfl rfl jA hr11 rfl ?_;refine HQ.Ab rfl rfl rfl (by rw[Nat.zero_add,Nat.mul_one];exact Rd1.of (Rd.kRow (Rd.ofRow jB) ho) (zau (kv o) hr11)) rfl ?_;refine gZ ?_;by_cases h2:y.2≤kv o r
    ·by_cases hraw : x.raw = true
     ·have hr1:(!x.raw)=false:=by rw[hraw];rfl
      rw[hraw,Bool.not_true,Bool.and_false,if_neg jC,List.append_nil]at hnx;refine gZ ?_;refine gX ?_;exact qar
     ·have hraw:x.raw=false:=by
       cases e:x.raw with
       |true=>exact absurd e hraw
       |false=>rfl
      have hr1:(!x.raw)=true:=by rw[hraw];rfl
      rw[hraw,decide_eq_true h1,decide_eq_true h2,if_pos jC]at hnx;refine gZ ?_;refine gX ?_;refine H.Ak (b:=sb) (off:=0) (i:=i) rfl (by rw[←hp];rfl) rfl rfl hlt rfl ?_;refine gH ?_;refine H.Ab rfl rfl rfl (Rd1.of (i:=1) rd rfl) rfl ?_;refine gO ?_;refine H.Aq (out:=pairV (((r+1:Nat):Int),y.2)) rfl rfl rfl rfl jC jC rfl rfl fun eb=>?_;refine H.Av (sz:=2) (p:=qp) (n0:=(pt i).length) (c:=qc) (xs:=(pt i).flatMap pairV) (m:=1) (news:=pairV (((r+1:Nat):Int),y.2)) rfl rfl rfl rfl rfl (fun p' c'=>jB) (Src.slice (Rd.ofRow jB) rfl) (zaa rfl) rfl jA jA fun p2 c2=>?_;refine gW ?_;refine qgJ ?_;refine H.Ar (i+1,p2,c2) (by show i+1≤(l.ch r).length;omega) jT ⟨rfl,rfl,?_,rfl,rfl,rfl,rfl,rfl,rfl,trivial⟩ rfl ?_
      ·show some (Value.slice p2 ((pt i).length+1) c2)=some (Value.slice p2 (pt (i+1)).length c2);rw[hnx,lnA];rfl
      ·show _::_::slc p2 ((pt i).length+1) c2 _ 2 _::_=_::_::slc p2 (pt (i+1)).length c2 _ 2 ((pt (i+1)).flatMap pairV)::_;rw[hnx,lnA,List.flatMap_append];simp
    ·rw[decide_eq_false h2,Bool.and_false,Bool.false_and,if_neg jC,List.append_nil]at hnx;refine gZ ?_;refine gW ?_;exact qar
   ·rw[decide_eq_false h1,Bool.false_and,Bool.false_and,if_neg jC,List.append_nil]at hnx;refine gZ ?_;refine gW ?_;exact qar
  ·have e:i=(l.ch r).length:=jA
   subst e;have hpe:pt (l.ch r).length=acc (r+1):=by rw[hsucc,hpt,←qPart_all]
   rw[hpe];refine gc ?_;refine H.pf (x:=fam (updF _ _ _) _) ?_;refine H.pf (x:=chFam l cs r) ?_;refine H.By (g:=chFam l cs) hrl ?_;refine qeh ?_;refine qeI ?_;refine H.pf (x:=slc qp _ qc _ _ _) ?_;refine qfm ?_;exact H.ag (r+1,qp,qc) (by show r+1≤n;omega) (by show n-(r+1)<n-r;omega)
 ·have hfin:acc n=acc r:=by
   by_cases e:r=n
   ·rw[e]
   ·rw[hacc];exact qAcc_stop hrn (by rw[←hacc];omega)
  have hqe:qAcc (qRow l.ch (kv o) v x.raw) ((n-1) / 2) n=acc r:=by rw[←hfin,hacc]
  by_cases hr:r<n
  ·have hlen:(n-1) / 2<(acc r).length:=jA
   refine qjQ ?_;have h0:0<(acc r).length:=jA
   refine gS ?_;exact qaG
  ·by_cases h0 : 0 < (acc r).length
   ·skip;refine gX ?_;exact qaG
   ·by_cases hq0 : x.q.length = 0
    ·skip;refine gX ?_;refine qgW ?_;refine qeh ?_;refine H.imp (zai ⟨V,vp,vc,pp,pc,cp,cc,pb,cs⟩ hi) ?_;refine H.pf (x:=slc qp _ qc _ _ _) ?_;have hqs:x.qs n l.ch (kv o) v=acc r:=by unfold A15.qs;rw[if_pos (.inr hq0),hqe]
     rw[hqs];exact H.r1 ⟨(qp,qc),rfl,rfl,rfl⟩
    ·have hnil:acc r=[]:=List.eq_nil_of_length_eq_zero jA
     have hqs:x.qs n l.ch (kv o) v=qNum x.q (if n≤x.q.length then n else x.q.length):=by
      unfold A15.qs;rw[hqe,if_neg (by rintro(h|h);exact h0 h;exact hq0 h)]
     rw[hqs,hnil];clear hqs hqe hfin;refine gX ?_;rcases hx with e0|⟨qb,qoff,qcs,qT,qfr,hqp,hqfb,hqcs⟩
     ·rw[e0]at hq0;exact absurd rfl hq0
     ·have hrdo:∀A,Rd f A qb qoff (bytesV x.q):=fun A=>Rd.imm hqfb fun j hj=>by rw[zac]at hj;exact hqcs j hj
      refine H.lo (ι:=Nat×Option Addr×Nat) (fun s=>[(14,.int .i64 ((s.1+1:Nat):Int)),(9,.slice s.2.1 s.1 s.2.2),(10,.int .i64 (n:Int)),(6,.pointer (some ⟨xb,0,none⟩))]) (fun _=>f)
       (fun s=>row xb 71 x.vals::slc s.2.1 s.1 s.2.2 127 2 ((qNum x.q s.1).flatMap pairV)::row wb 32 (w15C kb n ap m ac lb)::row kb 37 (kRow n kv)::row lb 152 (lgC l.n l.known vp V.length vc pp pc cp cc)::slc vp V.length vc 147 4 (V.flatMap VV.vals)::lst (V.map VV.own)::fam (fun r=>pstH (pb r) (l.past r)) l.n::slc cp l.n cc 195 1 (chRow l cs)::fam (chFam l cs) l.n::F)
       (fun s=>s.1≤n∧s.1≤x.q.length) (fun s=>n-s.1) (0,qp,qc) ⟨Nat.zero_le _,Nat.zero_le _⟩ fun s hs=>?_
      obtain⟨j,qp,qc⟩:=s;obtain⟨hj1,hj2⟩:j≤n∧j≤x.q.length:=hs;show H _ _ _ [(14,.int .i64 ((j+1:Nat):Int)),(9,.slice qp j qc),_,_] f (_::slc qp j qc _ 2 ((qNum x.q j).flatMap pairV)::_::_::_::_::_::_::_::_::F) _;by_cases hgo:j<n∧j<x.q.length
      ·obtain⟨hjn,hjq⟩:=hgo;obtain⟨w8,hw8⟩:∃w8,x.q[j]?=some w8:=⟨_,lgE hjq⟩;have hby:(bytesV x.q)[j]?=some (.int .u8 (w8.toNat:Nat)):=by unfold bytesV;rw[List.getElem?_map,hw8];rfl
       have hw8l:=w8.toNat_lt;have hm8:((w8.toNat % 8:Nat):Int)≤7:=jA
       have hnx:qNum x.q (j+1)=qNum x.q j++[(((j+1:Nat):Int),1+((w8.toNat % 8:Nat):Int))]:=by
        show qNum x.q j++[(_,1+(((x.q.getD j 0).toNat % 8:Nat):Int))]=_;rw[List.getD_eq_getElem?_getD,hw8];rfl
       refine gX ?_;refine H.Bv (b:=qb) (off:=qoff) (i:=j) rfl kH rfl jA hjq rfl ?_;refine H.Ab rfl rfl rfl (Rd1.of (hrdo _) hby) rfl ?_;refine H.rem (z:=((w8.toNat % 8:Nat):Int)) rfl rfl rfl jC (zal (b:=8) rfl) rfl ?_;refine gX ?_;refine H.Aq (out:=pairV (((j+1:Nat):Int),1+((w8.toNat % 8:Nat):Int))) rfl rfl rfl rfl jC jC rfl rfl fun eb=>?_;refine H.Av (sz:=2) (p:=qp) (n0:=j) (c:=qc) (xs:=(qNum x.q j).flatMap pairV) (m:=1) (news:=pairV (((j+1:Nat):Int),1+((w8.toNat % 8:Nat):Int))) rfl rfl rfl rfl rfl (fun p' c'=>jB) (Src.slice (Rd.ofRow jB) rfl) (zaa rfl) rfl jA jA fun p2 c2=>?_;refine gW ?_;refine qgJ ?_;refine H.Ar (j+1,p2,c2) ⟨by show j+1≤n;omega,by show j+1≤x.q.length;omega⟩ (by show n-(j+1)<n-j;omega) ⟨rfl,rfl,rfl,rfl,trivial⟩ rfl ?_;show _::slc p2 (j+1) c2 _ 2 _::_=_::slc p2 (j+1) c2 _ 2 ((qNum x.q (j+1)).flatMap pairV)::_;rw[hnx,List.flatMap_append];simp
      ·have hje:(if n≤x.q.length then n else x.q.length)=j:=by split<;>omega
       rw[hje,qNum_len];by_cases hjn:j<n
       ·skip;refine gg ?_;exact qaJ
       ·skip;refine gX ?_;exact qaJ
end
def bodW(k:UInt8)(v kk:Int):Bod:=⟨k,v,kk,Req.zero,[],noTag⟩
variable {W:W15}
section
variable (f:Frag) (F:List HP)
theorem body15_fn(hfl:Le fl f)(hW:WI n W T)(hT:T≤1000)(ho:o<n)(hx:x.Has f)(hq20:x.q.length≤20):Fn prog 36 [.pointer (some ⟨wb,0,none⟩),.int .i64 ((o+1:Nat):Int),.agg x.vals.toArray] f (logsH fl lb W.l::row wb 32 (w15C kb n ap m ac lb)::row kb 37 (kRow n W.w.kv)::F)
   (BodP f (logsH fl lb W.l::row wb 32 (w15C kb n ap m ac lb)::row kb 37 (kRow n W.w.kv)::F) (x.bod W n o)):=by
 have hn:=hW.l.n3;have hnn:=hW.n
 have hol:o<W.l.n:=jA
 have hwf:=hW.l.wf o hol;have hg0:=hwf.g0
 have hg1:=hW.l.gb o hol;have hvm:((x.view.toNat % 6:Nat):Int)≤5:=jA
 have hv2:((x.view.toNat % 2:Nat):Int)≤1:=jA
 have hkm:((x.k.toNat % 6:Nat):Int)≤5:=jA
 have hgr:=fun G=>great_fn f G hfl (wb:=wb) (kb:=kb) (lb:=lb) (l:=W.l) hW.l (ap:=ap) (m:=m) (ac:=ac) (n:=n) hol;have hcases:x.kind.toNat % 6=0∨x.kind.toNat % 6=1∨x.kind.toNat % 6=2∨x.kind.toNat % 6=3∨x.kind.toNat % 6=4∨x.kind.toNat % 6=5:=jA
 unfold A15.bod;rcases hcases with h|h|h|h|h|h
 ·have hk6:((x.kind.toNat:Nat):Int).tmod 6=0:=zal (b:=6) h;rw[h]
  have hask:=fun G=>ask_fn f G x;rcases Bool.eq_false_or_eq_true x.raw with hraw|hraw
  ·have hr1:(!x.raw)=false:=by rw[hraw];rfl
   have hb:x.bodK W n o 0=(⟨1,((x.view.toNat % 6:Nat):Int),0,x.req,[],noTag⟩:Bod):=by simp[A15.bodK,hraw,Bod.zero]
   rw[hb];generalize x.req=rq at hask⊢;refine qgC fun base=>?_;refine qem fun xb=>?_;refine qeB fun ob=>?_;refine qhz fun bb=>?_;refine qeN ?_;refine H.Ad (ls:=(⟨1,((x.view.toNat % 6:Nat):Int),0,rq,[],noTag⟩:Bod).vals none 0) rfl rfl rfl (Rd.ofRow aP0) rfl rfl ?_;refine H.Ag (ls:=(Bod.zero 0).vals none 0) (vs:=(⟨1,((x.view.toNat % 6:Nat):Int),0,rq,[],noTag⟩:Bod).vals none 0) (ls':=(⟨1,((x.view.toNat % 6:Nat):Int),0,rq,[],noTag⟩:Bod).vals none 0) rfl rfl rfl (zaa rfl) rfl rfl (Nat.le_refl 76) jB ?_;refine qel ?_;exact H.Ax (ls:=(⟨1,((x.view.toNat % 6:Nat):Int),0,rq,[],noTag⟩:Bod).vals none 0) rfl rfl rfl (Rd.ofRow aP0) rfl (fun _ s=>s.drop (.here _ _)) ⟨nil0,none,0,rfl,QAt.nil _ _,Dj.nil _,(un_nil _).symm,rfl⟩
  ·have hr1:(!x.raw)=true:=by rw[hraw];rfl
   have hb:x.bodK W n o 0=(⟨1,(W.l.past o).g,0,x.req,[],noTag⟩:Bod):=by simp[A15.bodK,hraw,Bod.zero]
   rw[hb];generalize x.req=rq at hask⊢;refine qgC fun base=>?_;refine qem fun xb=>?_;refine qeB fun ob=>?_;refine qhz fun bb=>?_;refine qeN ?_;refine H.Ad (ls:=(⟨1,(W.l.past o).g,0,rq,[],noTag⟩:Bod).vals none 0) rfl rfl rfl (Rd.ofRow aP0) rfl rfl ?_;refine H.Ag (ls:=(Bod.zero 0).vals none 0) (vs:=(⟨1,(W.l.past o).g,0,rq,[],noTag⟩:Bod).vals none 0) (ls':=(⟨1,(W.l.past o).g,0,rq,[],noTag⟩:Bod).vals none 0) rfl rfl rfl (zaa rfl) rfl rfl (Nat.le_refl 76) jB ?_;refine qel ?_;exact H.Ax (ls:=(⟨1,(W.l.past o).g,0,rq,[],noTag⟩:Bod).vals none 0) rfl rfl rfl (Rd.ofRow aP0) rfl (fun _ s=>s.drop (.here _ _)) ⟨nil0,none,0,rfl,QAt.nil _ _,Dj.nil _,(un_nil _).symm,rfl⟩
 ·have hk6:((x.kind.toNat:Nat):Int).tmod 6=1:=zal (b:=6) h;rw[h]
  rcases Bool.eq_false_or_eq_true x.raw with hraw|hraw
  ·have hr1:(!x.raw)=false:=by rw[hraw];rfl
   have hb:x.bodK W n o 1=(⟨2,((x.view.toNat % 6:Nat):Int),(1+((x.k.toNat % 6:Nat):Int)),Req.zero,[],noTag⟩:Bod):=by simp[A15.bodK,hraw,Bod.zero]
   rw[hb];refine qgC fun base=>?_;refine qem fun xb=>?_;refine qeB fun ob=>?_;refine qht fun bb=>?_;refine qfX ?_;refine H.Ad (ls:=(⟨2,((x.view.toNat % 6:Nat):Int),(1+((x.k.toNat % 6:Nat):Int)),Req.zero,[],noTag⟩:Bod).vals none 0) rfl rfl rfl (Rd.ofRow aP0) rfl rfl ?_;refine H.Ag (ls:=(Bod.zero 0).vals none 0) (vs:=(⟨2,((x.view.toNat % 6:Nat):Int),(1+((x.k.toNat % 6:Nat):Int)),Req.zero,[],noTag⟩:Bod).vals none 0) (ls':=(⟨2,((x.view.toNat % 6:Nat):Int),(1+((x.k.toNat % 6:Nat):Int)),Req.zero,[],noTag⟩:Bod).vals none 0) rfl rfl rfl (zaa rfl) rfl rfl (Nat.le_refl 76) jB ?_;refine qel ?_;exact H.Ax (ls:=(⟨2,((x.view.toNat % 6:Nat):Int),(1+((x.k.toNat % 6:Nat):Int)),Req.zero,[],noTag⟩:Bod).vals none 0) rfl rfl rfl (Rd.ofRow aP0) rfl (fun _ s=>s.drop (.here _ _)) ⟨nil0,none,0,rfl,QAt.nil _ _,Dj.nil _,(un_nil _).symm,rfl⟩
  ·have hr1:(!x.raw)=true:=by rw[hraw];rfl
   have hb:x.bodK W n o 1=(⟨2,(W.l.past o).g,votedZ (W.l.past o) (W.l.past o).g+1,Req.zero,[],noTag⟩:Bod):=by simp[A15.bodK,hraw,Bod.zero]
   rw[hb];have hvz:=votedZ_le hwf jA (W.l.past o).g;have hvt:∀(b:Nat) G,Fn prog 67 [.pointer (some ⟨b,0,none⟩),.int .u64 (W.l.past o).g] f (pstH b (W.l.past o)::G) (Ret (.tuple #[.int .i64 (votedZ (W.l.past o) (W.l.past o).g),.bool (PM.voted (W.l.past o).all (W.l.past o).g).isSome]) f (pstH b (W.l.past o)::G)):=fun b G=>pst_voted f G b (W.l.past o) (by have:=hW.l.il o hol;omega) _
   generalize votedZ (W.l.past o) (W.l.past o).g=vz at hvt hvz⊢;refine qgC fun base=>?_;refine qem fun xb=>?_;refine qeB fun ob=>?_;refine qht fun bb=>?_;refine qfX ?_;refine qhr ?_;refine H.Bz fun i1 hi1=>?_;obtain⟨V,vp,vc,pp,pc,cp,cc,pb,cs⟩:=i1;have hiF:=hi1.mono hfl;refine qgG ?_
   obtain⟨pbb,poff,hpp0,rdp0⟩:=hiF.past (by show 0<W.l.n;omega);have hpp:pp=some ⟨pbb,poff,none⟩:=hpp0;have rdp:∀ {A:List HP} {r:Nat},r<W.l.n→Rd1 f A pbb (poff+r) (.pointer (some ⟨pb r,0,none⟩)):=fun {A r} hr=>rdp0 (Le.refl f) hr
   clear hpp0 rdp0;refine qew ?_;refine gU ?_;refine H.Ak (b:=pbb) (off:=poff) (i:=o) rfl ke rfl jA hol rfl ?_;refine H.Ab rfl rfl rfl (by rw[Nat.mul_one];exact rdp hol) rfl ?_;refine gI ?_;refine qfU ?_;refine H.Bq hol ?_;refine H.cr (hvt _ _) ?_;refine H.By (g:=fun r=>pstH (pb r) (W.l.past r)) hol ?_;refine qhJ ?_;refine gX ?_;refine H.Ad (ls:=(⟨2,(W.l.past o).g,vz+1,Req.zero,[],noTag⟩:Bod).vals none 0) rfl rfl rfl (Rd.ofRow aP0) rfl rfl ?_;refine H.Ag (ls:=(Bod.zero 0).vals none 0) (vs:=(⟨2,(W.l.past o).g,vz+1,Req.zero,[],noTag⟩:Bod).vals none 0) (ls':=(⟨2,(W.l.past o).g,vz+1,Req.zero,[],noTag⟩:Bod).vals none 0) rfl rfl rfl (zaa rfl) rfl rfl (Nat.le_refl 76) jB ?_;refine qel ?_;exact H.Ax (ls:=(⟨2,(W.l.past o).g,vz+1,Req.zero,[],noTag⟩:Bod).vals none 0) rfl rfl rfl (Rd.ofRow aP0) rfl (fun _ s=>s.drop (.here _ _)) ⟨nil0,none,0,rfl,QAt.nil _ _,Dj.nil _,(un_nil _).symm,rfl⟩
 ·have hk6:((x.kind.toNat:Nat):Int).tmod 6=2:=zal (b:=6) h;rw[h]
  rcases Bool.eq_false_or_eq_true x.raw with hraw|hraw
  ·have hr1:(!x.raw)=false:=by rw[hraw];rfl
   have hb:x.bodK W n o 2=(⟨3,fix1 (((x.view.toNat % 6:Nat):Int)),0,Req.zero,[],noTag⟩:Bod):=by simp[A15.bodK,hraw,Bod.zero]
   rw[hb];refine qgC fun base=>?_;refine qem fun xb=>?_;refine qeB fun ob=>?_;refine qhn fun bb=>?_;refine qgn ?_;by_cases hz:((x.view.toNat % 6:Nat):Int)=0
   ·rw[show fix1 (((x.view.toNat % 6:Nat):Int))=1 from if_pos hz];refine gX ?_;refine H.Ad (ls:=(⟨3,1,0,Req.zero,[],noTag⟩:Bod).vals none 0) rfl rfl rfl (Rd.ofRow aP0) rfl rfl ?_;refine H.Ag (ls:=(Bod.zero 0).vals none 0) (vs:=(⟨3,1,0,Req.zero,[],noTag⟩:Bod).vals none 0) (ls':=(⟨3,1,0,Req.zero,[],noTag⟩:Bod).vals none 0) rfl rfl rfl (zaa rfl) rfl rfl (Nat.le_refl 76) jB ?_;refine qel ?_;exact H.Ax (ls:=(⟨3,1,0,Req.zero,[],noTag⟩:Bod).vals none 0) rfl rfl rfl (Rd.ofRow aP0) rfl (fun _ s=>s.drop (.here _ _)) ⟨nil0,none,0,rfl,QAt.nil _ _,Dj.nil _,(un_nil _).symm,rfl⟩
   ·rw[show fix1 (((x.view.toNat % 6:Nat):Int))=((x.view.toNat % 6:Nat):Int)from if_neg hz];refine gX ?_;refine H.Ad (ls:=(⟨3,((x.view.toNat % 6:Nat):Int),0,Req.zero,[],noTag⟩:Bod).vals none 0) rfl rfl rfl (Rd.ofRow aP0) rfl rfl ?_;refine H.Ag (ls:=(Bod.zero 0).vals none 0) (vs:=(⟨3,((x.view.toNat % 6:Nat):Int),0,Req.zero,[],noTag⟩:Bod).vals none 0) (ls':=(⟨3,((x.view.toNat % 6:Nat):Int),0,Req.zero,[],noTag⟩:Bod).vals none 0) rfl rfl rfl (zaa rfl) rfl rfl (Nat.le_refl 76) jB ?_;refine qel ?_;exact H.Ax (ls:=(⟨3,((x.view.toNat % 6:Nat):Int),0,Req.zero,[],noTag⟩:Bod).vals none 0) rfl rfl rfl (Rd.ofRow aP0) rfl (fun _ s=>s.drop (.here _ _)) ⟨nil0,none,0,rfl,QAt.nil _ _,Dj.nil _,(un_nil _).symm,rfl⟩
  ·have hr1:(!x.raw)=true:=by rw[hraw];rfl
   have hb:x.bodK W n o 2=(⟨3,fix1 ((W.l.past o).g+1+((x.view.toNat % 2:Nat):Int)),0,Req.zero,[],noTag⟩:Bod):=by simp[A15.bodK,hraw,Bod.zero]
   rw[hb];rw[show fix1 ((W.l.past o).g+1+((x.view.toNat % 2:Nat):Int))=(W.l.past o).g+1+((x.view.toNat % 2:Nat):Int)from if_neg jA];refine qgC fun base=>?_;refine qem fun xb=>?_;refine qeB fun ob=>?_;refine qhn fun bb=>?_;refine qgn ?_;refine gX ?_;refine H.rem (z:=((x.view.toNat % 2:Nat):Int)) rfl rfl rfl jC (zal (b:=2) rfl) rfl ?_;refine gX ?_;refine H.Ad (ls:=(⟨3,(W.l.past o).g+1+((x.view.toNat % 2:Nat):Int),0,Req.zero,[],noTag⟩:Bod).vals none 0) rfl rfl rfl (Rd.ofRow aP0) rfl rfl ?_;refine H.Ag (ls:=(Bod.zero 0).vals none 0) (vs:=(⟨3,(W.l.past o).g+1+((x.view.toNat % 2:Nat):Int),0,Req.zero,[],noTag⟩:Bod).vals none 0) (ls':=(⟨3,(W.l.past o).g+1+((x.view.toNat % 2:Nat):Int),0,Req.zero,[],noTag⟩:Bod).vals none 0) rfl rfl rfl (zaa rfl) rfl rfl (Nat.le_refl 76) jB ?_;refine qel ?_;exact H.Ax (ls:=(⟨3,(W.l.past o).g+1+((x.view.toNat % 2:Nat):Int),0,Req.zero,[],noTag⟩:Bod).vals none 0) rfl rfl rfl (Rd.ofRow aP0) rfl (fun _ s=>s.drop (.here _ _)) ⟨nil0,none,0,rfl,QAt.nil _ _,Dj.nil _,(un_nil _).symm,rfl⟩
 ·have hk6:((x.kind.toNat:Nat):Int).tmod 6=3:=zal (b:=6) h;rw[h]
  have hq15:=fun G=>q15_fn f G hfl (wb:=wb) (kb:=kb) (lb:=lb) (l:=W.l) hW.l hT (ap:=ap) (m:=m) (ac:=ac) hnn ho (kv:=W.w.kv) hx hq20 (W.l.past o).g;rcases Bool.eq_false_or_eq_true x.raw with hraw|hraw
  ·have hr1:(!x.raw)=false:=by rw[hraw];rfl
   have hb:x.bodK W n o 3=(⟨4,fix1 (((x.view.toNat % 6:Nat):Int)),0,Req.zero,x.qs n W.l.ch (W.w.kv o) (W.l.past o).g,noTag⟩:Bod):=by simp[A15.bodK,hraw,Bod.zero]
   rw[hb];generalize x.qs n W.l.ch (W.w.kv o) (W.l.past o).g=Q at hq15⊢;refine qgC fun base=>?_;refine qem fun xb=>?_;refine qeB fun ob=>?_;refine qhg fun bb=>?_;refine qft fun qi=>?_;obtain⟨qp,qc⟩:=qi;refine qjm fun g hg hd=>?_;have hqa:QAt (un f g) qp Q:=ListAt.mono (vals:=pairV) (Le.right hd) (zbh (vals:=pairV) (fun _=>rfl) hg);refine qfm ?_
   refine qfF ?_;by_cases hz:((x.view.toNat % 6:Nat):Int)=0
   ·rw[show fix1 (((x.view.toNat % 6:Nat):Int))=1 from if_pos hz];exact qaw
   ·rw[show fix1 (((x.view.toNat % 6:Nat):Int))=((x.view.toNat % 6:Nat):Int)from if_neg hz];refine gX ?_;refine H.Ad (ls:=(⟨4,((x.view.toNat % 6:Nat):Int),0,Req.zero,Q,noTag⟩:Bod).vals qp qc) rfl rfl rfl (Rd.ofRow aP0) rfl rfl ?_;refine H.Ag (ls:=(Bod.zero 0).vals none 0) (vs:=(⟨4,((x.view.toNat % 6:Nat):Int),0,Req.zero,Q,noTag⟩:Bod).vals qp qc) (ls':=(⟨4,((x.view.toNat % 6:Nat):Int),0,Req.zero,Q,noTag⟩:Bod).vals qp qc) rfl rfl rfl (zaa rfl) rfl rfl (Nat.le_refl 76) jB ?_;refine qel ?_;exact H.Ax (ls:=(⟨4,((x.view.toNat % 6:Nat):Int),0,Req.zero,Q,noTag⟩:Bod).vals qp qc) rfl rfl rfl (Rd.ofRow aP0) rfl (fun _ s=>s.drop (.here _ _)) ⟨g,qp,qc,rfl,hqa,hd,rfl,rfl⟩
  ·have hr1:(!x.raw)=true:=by rw[hraw];rfl
   have hb:x.bodK W n o 3=(⟨4,fix1 ((W.l.past o).g),0,Req.zero,x.qs n W.l.ch (W.w.kv o) (W.l.past o).g,noTag⟩:Bod):=by simp[A15.bodK,hraw,Bod.zero]
   rw[hb];generalize x.qs n W.l.ch (W.w.kv o) (W.l.past o).g=Q at hq15⊢;refine qgC fun base=>?_;refine qem fun xb=>?_;refine qeB fun ob=>?_;refine qhg fun bb=>?_;refine qft fun qi=>?_;obtain⟨qp,qc⟩:=qi;refine qjm fun g hg hd=>?_;have hqa:QAt (un f g) qp Q:=ListAt.mono (vals:=pairV) (Le.right hd) (zbh (vals:=pairV) (fun _=>rfl) hg);refine qfm ?_
   refine qfF ?_;by_cases hz:(W.l.past o).g=0
   ·rw[show fix1 ((W.l.past o).g)=1 from if_pos hz];exact qaw
   ·rw[show fix1 ((W.l.past o).g)=(W.l.past o).g from if_neg hz];refine gX ?_;refine H.Ad (ls:=(⟨4,(W.l.past o).g,0,Req.zero,Q,noTag⟩:Bod).vals qp qc) rfl rfl rfl (Rd.ofRow aP0) rfl rfl ?_;refine H.Ag (ls:=(Bod.zero 0).vals none 0) (vs:=(⟨4,(W.l.past o).g,0,Req.zero,Q,noTag⟩:Bod).vals qp qc) (ls':=(⟨4,(W.l.past o).g,0,Req.zero,Q,noTag⟩:Bod).vals qp qc) rfl rfl rfl (zaa rfl) rfl rfl (Nat.le_refl 76) jB ?_;refine qel ?_;exact H.Ax (ls:=(⟨4,(W.l.past o).g,0,Req.zero,Q,noTag⟩:Bod).vals qp qc) rfl rfl rfl (Rd.ofRow aP0) rfl (fun _ s=>s.drop (.here _ _)) ⟨g,qp,qc,rfl,hqa,hd,rfl,rfl⟩
 ·have hk6:((x.kind.toNat:Nat):Int).tmod 6=4:=zal (b:=6) h;rw[h]
  rcases Bool.eq_false_or_eq_true x.raw with hraw|hraw
  ·have hr1:(!x.raw)=false:=by rw[hraw];rfl
   have hb:x.bodK W n o 4=(⟨5,fix1 (((x.view.toNat % 6:Nat):Int)),0,Req.zero,[],noTag⟩:Bod):=by simp[A15.bodK,hraw,Bod.zero]
   rw[hb];refine qgC fun base=>?_;refine qem fun xb=>?_;refine qeB fun ob=>?_;refine qha fun bb=>?_;refine qgh ?_;by_cases hz:((x.view.toNat % 6:Nat):Int)=0
   ·rw[show fix1 (((x.view.toNat % 6:Nat):Int))=1 from if_pos hz];exact qau
   ·rw[show fix1 (((x.view.toNat % 6:Nat):Int))=((x.view.toNat % 6:Nat):Int)from if_neg hz];refine gX ?_;refine H.Ad (ls:=(⟨5,((x.view.toNat % 6:Nat):Int),0,Req.zero,[],noTag⟩:Bod).vals none 0) rfl rfl rfl (Rd.ofRow aP0) rfl rfl ?_;refine H.Ag (ls:=(Bod.zero 0).vals none 0) (vs:=(⟨5,((x.view.toNat % 6:Nat):Int),0,Req.zero,[],noTag⟩:Bod).vals none 0) (ls':=(⟨5,((x.view.toNat % 6:Nat):Int),0,Req.zero,[],noTag⟩:Bod).vals none 0) rfl rfl rfl (zaa rfl) rfl rfl (Nat.le_refl 76) jB ?_;refine qel ?_;exact H.Ax (ls:=(⟨5,((x.view.toNat % 6:Nat):Int),0,Req.zero,[],noTag⟩:Bod).vals none 0) rfl rfl rfl (Rd.ofRow aP0) rfl (fun _ s=>s.drop (.here _ _)) ⟨nil0,none,0,rfl,QAt.nil _ _,Dj.nil _,(un_nil _).symm,rfl⟩
  ·have hr1:(!x.raw)=true:=by rw[hraw];rfl
   have hb:x.bodK W n o 4=(⟨5,fix1 (lastV W.l.vs),0,Req.zero,[],noTag⟩:Bod):=by simp[A15.bodK,hraw,Bod.zero]
   rw[hb];refine qgC fun base=>?_;refine qem fun xb=>?_;refine qeB fun ob=>?_;refine qha fun bb=>?_;refine qgh ?_;refine qhr ?_;refine H.Bz fun i1 hi1=>?_;obtain⟨V,vp,vc,pp,pc,cp,cc,pb,cs⟩:=i1;have hiF:=hi1.mono hfl;refine qgG ?_
   have hvs:V.map VV.w=W.l.vs:=hi1.vs;have hVl:V.length=W.l.vs.length:=hi1.len
   have hvl:=hW.l.vl
   have hV0:0<V.length:=by
    obtain⟨w0,hw0,_⟩:=hW.l.zero;rw[hVl];exact List.length_pos_of_mem hw0
   obtain⟨X,hX⟩:∃X,V[V.length-1]?=some X:=⟨_,lgE jA⟩
   have hXv:lastV W.l.vs=X.w.v:=by
    unfold lastV;rw[←hVl,←hvs,List.getElem?_map,hX];rfl
   rw[hXv];refine qfP fun vb hvb=>?_;refine qfm ?_;refine qfF ?_;refine gX ?_;refine qfI ?_;refine qg ?_;refine H.dc [0,1,2,3,4,5,6,7,8,9,10,11,12,13,14,15,16,17,18] (S:=[_,_,_]) rfl ?_;refine HB.qu [0,1,2,3,4,5,6,7,8,9,10,11,12,13,14,15,16,17,18] 2 ?_;refine gV ?_;refine HQ.Ak (b:=vb) (off:=0) (i:=V.length-1) rfl (by rw[←hvb];rfl) rfl (show((V.length:Int)-1)=((V.length-1:Nat):Int) by omega) (show V.length-1<V.length by omega) rfl ?_;refine gP ?_;refine HQ.Ab rfl rfl rfl (Rd1.of (i:=0) (by rw[Nat.zero_add];exact Rd.slcElem (n:=V.length) (c:=vc) (T:=147) (xs:=V) VV.len jC (by rw[←hvb];exact .there _ (.there _ (.here _ _ _))) hX) rfl) rfl ?_;refine qeA ?_;refine HB.qu [19] 1 ?_;refine qfw ?_;refine HB.ev 20 ?_;refine qfF ?_;refine H.Ba (ls:=(bodW 5 ((x.view.toNat % 6:Nat):Int) 0).vals none 0) (ls':=(bodW 5 X.w.v 0).vals none 0) rfl rfl rfl rfl aP0 (.there _ (.here _ _ _)) ?_;refine qeR ?_;refine qhJ ?_;by_cases hz:X.w.v=0
   ·rw[show fix1 (X.w.v)=1 from if_pos hz];exact qau
   ·rw[show fix1 (X.w.v)=X.w.v from if_neg hz];refine gg ?_;refine H.Ad (ls:=(⟨5,X.w.v,0,Req.zero,[],noTag⟩:Bod).vals none 0) rfl rfl rfl (Rd.ofRow aP0) rfl rfl ?_;refine H.Ag (ls:=(Bod.zero 0).vals none 0) (vs:=(⟨5,X.w.v,0,Req.zero,[],noTag⟩:Bod).vals none 0) (ls':=(⟨5,X.w.v,0,Req.zero,[],noTag⟩:Bod).vals none 0) rfl rfl rfl (zaa rfl) rfl rfl (Nat.le_refl 76) jB ?_;refine qel ?_;exact H.Ax (ls:=(⟨5,X.w.v,0,Req.zero,[],noTag⟩:Bod).vals none 0) rfl rfl rfl (Rd.ofRow aP0) rfl (fun _ s=>s.drop (.here _ _)) ⟨nil0,none,0,rfl,QAt.nil _ _,Dj.nil _,(un_nil _).symm,rfl⟩
 ·have hk6:((x.kind.toNat:Nat):Int).tmod 6=5:=zal (b:=6) h;rw[h]
  show Fn _ _ _ f _ (BodP f _ (⟨6,0,(1+((x.k.toNat % 6:Nat):Int)),Req.zero,[],dig0 x.key⟩:Bod));refine qgC fun base=>?_;refine qem fun xb=>?_;refine qeB fun ob=>?_;refine qei ?_;repeat(first|(refine H.Ay (t:=52) (out:=(bodW 6 ((x.view.toNat % 6:Nat):Int) (1+((x.k.toNat % 6:Nat):Int))).vals none 0) rfl rfl rfl jE rfl ?_)|(refine gh ?_))
  refine qeB fun bb=>?_;refine H.Ag (ls:=(Bod.zero 0).vals none 0) (vs:=(bodW 6 ((x.view.toNat % 6:Nat):Int) (1+((x.k.toNat % 6:Nat):Int))).vals none 0) (ls':=(bodW 6 ((x.view.toNat % 6:Nat):Int) (1+((x.k.toNat % 6:Nat):Int))).vals none 0) rfl rfl rfl (zaa rfl) rfl rfl (Nat.le_refl 76) aP0 ?_;refine qes ?_;refine gR ?_;refine H.Al (i:=0) rfl rfl rfl rfl jC rfl ?_;refine gX ?_;refine H.Ad (ls:=(⟨6,0,(1+((x.k.toNat % 6:Nat):Int)),Req.zero,[],dig0 x.key⟩:Bod).vals none 0) rfl rfl rfl (Rd.ofRow aP0) rfl rfl ?_;refine H.Ag (ls:=(Bod.zero 0).vals none 0) (vs:=(⟨6,0,(1+((x.k.toNat % 6:Nat):Int)),Req.zero,[],dig0 x.key⟩:Bod).vals none 0) (ls':=(⟨6,0,(1+((x.k.toNat % 6:Nat):Int)),Req.zero,[],dig0 x.key⟩:Bod).vals none 0) rfl rfl rfl (zaa rfl) rfl rfl (Nat.le_refl 76) jB ?_;refine qel ?_;exact H.Ax (ls:=(⟨6,0,(1+((x.k.toNat % 6:Nat):Int)),Req.zero,[],dig0 x.key⟩:Bod).vals none 0) rfl rfl rfl (Rd.ofRow aP0) rfl (fun _ s=>s.drop (.here _ _)) ⟨nil0,none,0,rfl,QAt.nil _ _,Dj.nil _,(un_nil _).symm,rfl⟩
end
structure W15P where
 kb:Nat
 lb:Nat
 ap:Option Addr
 ac:Nat
 l:List MV
def w15φ(e:Frag)(W:W15)(i:W15P):Prop:=i.l.map MV.m=W.w.all∧∀y∈i.l,y.Good e
def w15B(e:Frag)(wb n:Nat)(W:W15)(i:W15P):List HP:=[row wb 32 (w15C i.kb n i.ap i.l.length i.ac i.lb),row i.kb 37 (kRow n W.w.kv),slc i.ap i.l.length i.ac 54 121 (i.l.flatMap MV.vals),logsH e i.lb W.l]
def wH15(e:Frag)(wb n:Nat)(W:W15):HP:=pack (w15φ e W) (w15B e wb n W)
theorem w15_fold{e:Frag}{F:List HP}(i:W15P)(h:w15φ e W i):∀x,stars (w15B e wb n W i++F) x→stars (wH15 e wb n W::F) x:=fun x hx=>pack_fold (φ:=w15φ e W) (B:=w15B e wb n W) i h x hx
variable {f g:Frag}
theorem w15_mono(h:Le f g):∀x,wH15 f wb n W x→wH15 g wb n W x:=fun _ ⟨i,hi,hx⟩=>⟨i,⟨hi.1,fun y hy=>(hi.2 y hy).mono h⟩,by
 obtain⟨m1,m2,d1,e1,a1,m3,m4,d2,e2,a2,m5,m6,d3,e3,a3,m7,m8,d4,e4,a4,r4⟩:=hx
 exact⟨m1,m2,d1,e1,a1,m3,m4,d2,e2,a2,m5,m6,d3,e3,a3,m7,m8,d4,e4,logsH_mono h _ a4,r4⟩⟩
variable {A:List HP}
theorem w15_up(h:Le f g):∀x,stars (wH15 f wb n W::A) x→stars (wH15 g wb n W::A) x:=fun _ ⟨h1,h2,hd,he,ha,hr⟩=>⟨h1,h2,hd,he,w15_mono h _ ha,hr⟩
def DoP(f:Frag)(F:List HP)(wb n:Nat)(W:W15):Value→Frag→List HP→Prop:=fun v f' A'=>∃(g:Frag) (M:Msg) (qp:Option Addr) (qc:Nat),Dj f g∧v= .agg (M.vals qp qc).toArray∧f'=un f g∧A'=wH15 f' wb n W::F
section
variable (f:Frag) (F:List HP)
theorem do_fn(hfl:Le fl f)(hn3:3≤n∧n≤11)(hW:WI n W T)(hT:T≤900)(hal:W.w.all.length≤900)(hx:x.Has f)(hq20:x.q.length≤20):Fn prog 19 [.pointer (some ⟨wb,0,none⟩),.agg x.vals.toArray] f (wH15 fl wb n W::F) (DoP f F wb n (W.act n x)):=by
 refine qjX fun i0 hi=>?_;obtain⟨kb,lb,ap,ac,l⟩:=i0;have hlm:l.map MV.m=W.w.all:=hi.1;have hlg:∀y∈l,y.Good fl:=hi.2
 have hll:l.length≤900:=by
  have:=congrArg List.length hlm;rw[List.length_map]at this
  omega
 have hn0:((n:Nat):Int)≠0:=jA
 have ho:x.who.toNat % n<n:=Nat.mod_lt _ jA;have hkv:=hW.w.kv_le ho
 have hwho:=x.who.toNat_lt;have hoth:=x.other.toNat_lt
 have hj:x.other.toNat % n<n:=Nat.mod_lt _ jA;show Fn _ _ _ f (row wb 32 (w15C kb n ap l.length ac lb)::row kb 37 (kRow n W.w.kv)::slc ap l.length ac 54 121 (l.flatMap MV.vals)::logsH fl lb W.l::F) _
 refine Fn.e2 func19 ntmps19 fun base=>?_;refine qem fun xb=>?_;refine qfl fun ob=>?_;refine gU ?_;refine H.rem (z:=((x.who.toNat % n:Nat):Int)) rfl rfl rfl hn0 (zal (a:=x.who.toNat) (b:=n) rfl) rfl ?_;refine gU ?_
 cases hmt:x.meet with
 | true =>
  have hact:W.act n x= {W with w:=W.w.meet (x.who.toNat % n) (x.other.toNat % n)}:=by unfold W15.act;rw[if_pos hmt]
  rw[hact];refine gR ?_;refine H.rem (z:=((x.other.toNat % n:Nat):Int)) rfl rfl rfl hn0 (zal (a:=x.other.toNat) (b:=n) rfl) rfl ?_;refine gT ?_;generalize hoe:x.who.toNat % n=o at *;generalize hje:x.other.toNat % n=j at *;have ho11:o<11:=jA
  refine qeI ?_
  refine H.loop (ι:=Nat) (fun i=>[(8,.int .i64 (i:Int)),(6,.int .i64 (1+(o:Int))),(7,.int .i64 (j:Int)),(0,.pointer (some ⟨wb,0,none⟩)),(4,.pointer (some ⟨ob,0,none⟩))]) (fun _=>f)
   (fun i=>row wb 32 (w15C kb n ap l.length ac lb)::row kb 37 (kRow n (raised W.w.kv o j i))::row ob 54 (msgZ.vals none 0)::row xb 71 x.vals::slc ap l.length ac 54 121 (l.flatMap MV.vals)::logsH fl lb W.l::F)
   (fun i=>i≤11) (fun i=>11-i) 0 (Nat.zero_le _) ⟨rfl,rfl,rfl,rfl,rfl,trivial⟩ rfl (by rw[raised_zero]) fun i hi2=>?_
  have hi2:i≤11:=hi2;by_cases hi11:i<11
  ·have hro:=raised_o W.w.kv o j i;have hrj:=raised_j W.w.kv o j i
   have hrn:=raised_next W.w.kv o j i;have hg1:=kRow_get (kv:=raised W.w.kv o j i) ho hi11
   have hg2:=kRow_get (kv:=raised W.w.kv o j i) hj hi11;rw[hro]at hg1
   rw[hrj]at hg2;have hset:=kRow_set (kv:=raised W.w.kv o j i) (maxV (W.w.kv o) (W.w.kv j) i) ho hi11;rw[hrn]at hset
   have hoo:(1:Int)+(o:Int)-1=(o:Nat):=jA
   refine gG ?_;refine H.dc [0,1,2,3,4,5,6,7,8,9,10,11,12,13,14,15,16,17,18,19,20,21,22,23,24,25,26,27,28] (S:=[_,_]) rfl ?_;refine HB.qu [0,1,2,3,4,5,6,7,8,9,10,11,12,13,14,15,16,17,18,19,20,21,22,23,24,25,26,27,28] 1 ?_;refine gV ?_;refine qkv ?_;refine qiA ?_;refine HQ.Ab rfl rfl rfl (.at0 (Rd.ofRow at1) (by rw[Nat.zero_add,Nat.mul_one];exact hg1)) rfl ?_;refine gP ?_;refine HQ.Ak (i:=j) rfl rfl rfl rfl hj rfl ?_;refine qiA ?_;refine HQ.Ab rfl rfl rfl (.at0 (Rd.ofRow at1) (by rw[Nat.zero_add,Nat.mul_one];exact hg2)) rfl ?_;refine HQ.max2 (z:=maxV (W.w.kv o) (W.w.kv j) i) rfl rfl rfl rfl rfl ?_;refine qkv ?_;refine qiA ?_;refine qeA ?_;refine HB.ev 29 ?_;refine H.Ba (v:=.int .u64 (maxV (W.w.kv o) (W.w.kv j) i)) (ls:=kRow n (raised W.w.kv o j i)) (ls':=kRow n (raised W.w.kv o j (i+1))) rfl rfl rfl rfl at1 ja ?_;refine qje ?_;exact H.ag (i+1) kf jU
  ·have e:i=11:=jA
   subst e;rw[raised_end];refine qhT ?_;refine qkN ?_;exact H.Ax (ls:=msgZ.vals none 0) rfl rfl rfl (Rd.ofRow aP0) rfl (fun _ s=>(s.drop (.here _ _)).imp (fun z hz=>w15_up hfl z (w15_fold (W:={W with w:=W.w.meet o j}) ⟨kb,lb,ap,ac,l⟩ ⟨hlm,hlg⟩ z hz))) ⟨nil0,_,_,_,Dj.nil _,rfl,(un_nil f).symm,rfl⟩
 | false =>
  refine gW ?_;generalize hoe:x.who.toNat % n=o at *;have ho11:o<11:=jA
  have hoo:(1:Int)+(o:Int)-1=(o:Nat):=jA
  have ho1:(1:Int)+(o:Int)=((o+1:Nat):Int):=jA
  have hact:W.act n x=if(W.next n o x).may=true then⟨W.w.say o (W.next n o x).signed,(W.l.take (W.next n o x).signed).2⟩else W:=by
   unfold W15.act;rw[if_neg (by rw[hmt];decide),hoe]
  have hgk0:=kRow_get (kv:=W.w.kv) ho ho11;have hko:=hkv o
  have hbody:=fun G=>body15_fn f G hfl (wb:=wb) (kb:=kb) (lb:=lb) hW jA (ap:=ap) (m:=l.length) (ac:=ac) ho hx hq20;refine qhr ?_
  refine qeI ?_;refine qfm ?_
  refine H.cut (ι:=Frag×Option Addr×Nat×Nat) (fun s=>[(9,.pointer (some ⟨s.2.2.2,0,none⟩)),(6,.int .i64 (1+(o:Int))),(0,.pointer (some ⟨wb,0,none⟩)),(4,.pointer (some ⟨ob,0,none⟩))]) (fun s=>un f s.1)
   (fun s=>row xb 71 x.vals::row s.2.2.2 54 ((W.next n o x).vals s.2.1 s.2.2.1)::row ob 54 (msgZ.vals none 0)::row wb 32 (w15C kb n ap l.length ac lb)::row kb 37 (kRow n W.w.kv)::logsH fl lb W.l::slc ap l.length ac 54 121 (l.flatMap MV.vals)::F)
   (fun s=>QAt (un f s.1) s.2.1 (W.next n o x).body.q∧Dj f s.1) _ (fun s hs=>?_) ?_
  ·obtain⟨g,qp,qc,mb⟩:=s;obtain⟨hqat,hd⟩:QAt (un f g) qp (W.next n o x).body.q∧Dj f g:=hs;have hle2:=Le.un f g;have hql:=(x.bod_q hW jA (o:=o)).1
   have hgood:(⟨W.next n o x,qp,qc⟩:MV).Good (un f g):=⟨hqat,by show(x.bod W n o).q.length≤_;omega,A15.bod_ok hW jA ho x⟩;have hmsg:=good_signed hgood
   have hmay:=fun H=>rmmay_fn (un f g) H hgood;have hsg:=fun H=>rtagged_fn (un f g) H (m:=W.next n o x) (q:=qp) (qc:=qc) hgood.1 (by show(x.bod W n o).q.length≤_;omega)
   show H _ _ _ [_,_,_,_] (un f g) (_::row mb _ ((W.next n o x).vals qp qc)::_::_::_::_::_::F) _;refine gA ?_;refine qkW ?_;refine H.cr (hmay _) ?_;refine qhb ?_
   cases hmy:(W.next n o x).may with
   | false =>
    rw[hact,if_neg (by rw[hmy];decide)];refine qhT ?_;refine qeH ?_;refine H.pf (x:=slc ap _ ac _ _ _) ?_;refine qeI ?_;refine qkN ?_;exact H.Ax (ls:=msgZ.vals none 0) rfl rfl rfl (Rd.ofRow aP0) rfl (fun _ s=>(s.drop (.here _ _)).imp (fun z hz=>w15_up (hfl.trans hle2) z (w15_fold ⟨kb,lb,ap,ac,l⟩ ⟨hlm,hlg⟩ z hz))) ⟨g,_,_,_,hd,rfl,rfl,rfl⟩
   | true =>
    rw[hact,if_pos hmy];generalize hms:(W.next n o x).signed=ms at *;have htake:=fun H=>take_fn (un f g) H (hfl.trans hle2) (lb:=lb) hW.l jA (x:=⟨ms,qp,qc⟩) hmsg;refine gW ?_
    refine qkW ?_;refine H.cr (hsg _) ?_;refine H.Ag (ls:=(W.next n o x).vals qp qc) (vs:=ms.vals qp qc) (ls':=ms.vals qp qc) rfl rfl rfl (zaa rfl) rfl rfl (Nat.le_refl 121) at1 ?_;refine gA ?_;refine qg ?_;refine qeu ?_;refine qgu ?_;refine HB.qu [0,1,2,3,4] 1 ?_;refine gP ?_;refine HQ.Ad (ls:=ms.vals qp qc) rfl rfl rfl (Rd.ofRow aP0) rfl rfl ?_;refine qeo ?_;refine HB.ev 5 ?_;refine qhr ?_;refine H.cl (htake _) fun v f' A' hr=>?_;obtain⟨g2,hd2,rfl,rfl,rfl⟩:=hr;refine gA ?_;refine qg ?_;refine qeu ?_;refine H.on [] (Le.un _ g2) rfl ?_;refine HB.dn ?_;refine gA ?_;refine qhw ?_;refine HQ.Ad (ls:=ms.vals qp qc) rfl rfl rfl (Rd.ofRow aP0) rfl rfl ?_;refine qjw ?_;refine H.Aq (out:=ms.vals qp qc) rfl rfl rfl rfl jC jC rfl rfl fun eb=>?_;refine gA ?_;refine qg ?_;refine qiW ?_;refine HB.ev 7 ?_;refine H.Av (sz:=121) (p:=ap) (n0:=l.length) (c:=ac) (xs:=l.flatMap MV.vals) (m:=1) (news:=ms.vals qp qc) rfl rfl rfl rfl rfl (fun p' c'=>jB) (Src.slice (Rd.ofRow jB) rfl) (zaa rfl) rfl jA jA fun ap2 ac2=>?_;refine qeW ?_;refine H.Ba (ls:=w15C kb n ap l.length ac lb) (ls':=w15C kb n ap2 (l.length+1) ac2 lb) rfl rfl rfl rfl at1 (.there _ (.here _ _ _)) ?_;refine qjr ?_;have hset:=kRow_set (kv:=W.w.kv) (W.w.kv o o+1) ho ho11;refine qeI ?_
    refine qiq ?_;refine qhF ?_;refine HQ.Ab rfl rfl rfl (.at0 (Rd.ofRow at1) ka) rfl ?_;refine gK ?_;refine qhF ?_;refine qeA ?_;refine HB.ev 14 ?_;refine H.Ba (v:=.int .u64 (W.w.kv o o+1)) (ls:=kRow n W.w.kv) (ls':=kRow n (W.w.say o ms).kv) rfl rfl rfl rfl at1 ja ?_;refine qjr ?_;refine qeu ?_;refine H.Ad (ls:=ms.vals qp qc) rfl rfl rfl (Rd.ofRow aP0) rfl rfl ?_;refine H.Ag (ls:=msgZ.vals none 0) (vs:=ms.vals qp qc) (ls':=ms.vals qp qc) rfl rfl rfl (zaa rfl) rfl rfl (Nat.le_refl 121) jB ?_;refine gT ?_;refine qgW ?_;refine qeH ?_;refine qhr ?_;refine H.pf (x:=slc ap2 _ ac2 _ _ _) ?_;refine qeI ?_;refine qkN ?_;have hle3:=Le.un (un f g) g2
    have hφ:w15φ (un (un f g) g2) ⟨W.w.say o ms,(W.l.take ms).2⟩ ⟨kb,lb,ap2,ac2,l++[⟨ms,qp,qc⟩]⟩:=by
     refine⟨?_,fun y hy=>?_⟩
     ·show(l++[(⟨ms,qp,qc⟩:MV)]).map MV.m=W.w.all++[ms];rw[List.map_append,hlm];rfl
     ·rcases List.mem_append.1 hy with h|h
      ·exact(hlg y h).mono ((hfl.trans hle2).trans hle3)
      ·rw[List.mem_singleton.1 h];exact hmsg.mono hle3
    have hsl:slc ap2 (l.length+1) ac2 54 121 (l.flatMap MV.vals++ms.vals qp qc)=slc ap2 (l++[(⟨ms,qp,qc⟩:MV)]).length ac2 54 121 ((l++[(⟨ms,qp,qc⟩:MV)]).flatMap MV.vals):=slc_snoc (y:=(⟨ms,qp,qc⟩:MV));have hfold:=w15_fold (F:=F) (wb:=wb) (n:=n) _ hφ
    exact H.Ax (ls:=ms.vals qp qc) rfl rfl rfl (Rd.ofRow aP0) rfl (fun _ s=>(s.drop (.here _ _)).imp (fun z hz=>hfold z (by
     rw[hsl]at hz;show stars (row wb _ (w15C kb n ap2 (l++[(⟨ms,qp,qc⟩:MV)]).length ac2 lb)::_) z;rw[lnA];rw[lnA]at hz
     exact hz))) ⟨un g g2,_,_,_,Dj.un3' hd hd2,rfl,zbc _ _ _,rfl⟩
  ·refine qke ?_;refine HB.qu [0,1,2,3,4,5,6,7,8,9,10,11,12,13,14,15,16,17,18,19,20,21,22,23] 4 ?_;refine gV ?_;refine qhF ?_;refine HQ.Ab rfl rfl rfl (.at0 (Rd.ofRow at2) ka) rfl ?_;refine gV ?_;refine qkv ?_;refine HQ.Ad (ls:=v11 (W.w.kv o)) rfl rfl rfl (by rw[Nat.zero_add];exact Rd.kRow (Rd.ofRow at2) ho) rfl rfl ?_;refine gB ?_;refine qgI ?_;refine qeo ?_;refine HB.ev2 (i:=24) (j:=26) jE rfl rfl ?_ ?_
   ·refine qeI ?_;refine qhr ?_;rw[ho1];refine H.cl (hbody _) fun v f' A' hr=>?_;obtain⟨g,qp,qc,rfl,hqat,hd,rfl,rfl⟩:=hr;refine qkb ?_;refine H.on [] (Le.un _ g) rfl ?_;refine HB.qu [25] 2 ?_;refine qkA ?_;refine HB.ev 26 ?_;refine qfl fun mb=>?_;refine qkb ?_;refine qeS ?_;exact qaC
   ·refine qfl fun mb=>?_;refine qkb ?_;refine qeS ?_;refine HB.ev 24 ?_;refine qeI ?_;refine qhr ?_;rw[ho1];refine H.cl (hbody _) fun v f' A' hr=>?_;obtain⟨g,qp,qc,rfl,hqat,hd,rfl,rfl⟩:=hr;refine qkb ?_;refine H.on [] (Le.un _ g) rfl ?_;refine HB.qu [25] 1 ?_;refine qkA ?_;exact qaC
end
def few15(l:List A15):Bool:=decide (l.length≤100)&&l.all fun x=>decide (x.q.length≤20)
variable {l:List A15}
theorem few15_all(h:few15 l=true):l.length≤100∧∀x∈l,x.q.length≤20:=by
 unfold few15 at h;simp only[Bool.and_eq_true,decide_eq_true_eq,List.all_eq_true]at h;exact h
theorem A15.Has.mono(h:Le f g)(hx:x.Has f):x.Has g:=by
 rcases hx with e|⟨b,off,cs,T,fr,h1,h2,h3⟩
 ·exact .inl e
 ·exact .inr ⟨b,off,cs,T,fr,h1,h _ _ h2,h3⟩
def Acts15P(f:Frag)(F:List HP)(n:Nat)(W:W15):Value→Frag→List HP→Prop:=fun v f' A'=>∃(g:Frag) (wb:Nat),v= .pointer (some ⟨wb,0,none⟩)∧Dj f g∧f'=un f g∧A'=wH15 f' wb n W::F
variable {p:Option Addr} {c:Nat}
section
variable (f:Frag) (F:List HP)
theorem odd15_fn(n8:UInt8):Fn prog 18 [.int .u8 (n8.toNat:Nat)] f F (Ret (.int .i64 ((3+2*(n8.toNat % 5):Nat):Int)) f F):=by
 have h:=n8.toNat_lt;have hm:((n8.toNat % 5:Nat):Int)≤4:=jA
 refine Fn.e1 func18 ntmps18 fun base=>?_;refine gI ?_;refine H.rem (z:=((n8.toNat % 5:Nat):Int)) rfl rfl rfl jC (zal (b:=5) rfl) rfl ?_;refine gW ?_;refine H.Ae rfl rfl iD ⟨?_,rfl,rfl⟩;congr 1
theorem few15_fn(hat:ListAt f p 12 A15.vals l)(hl:l.length≤9223372036854775807):Fn prog 7 [.slice p l.length c] f F (Ret (.bool (few15 l)) f F):=by
 by_cases h30:l.length≤100
 ·refine Fn.e1 func7 ntmps7 fun base=>?_;refine gc ?_;refine H.lo (ι:=Nat) (fun i=>[(3,.int .i64 (i:Int)),(0,.slice p l.length c)]) (fun _=>f) (fun _=>F) (fun i=>i≤l.length∧∀j x,j<i→l[j]?=some x→x.q.length≤20) (fun i=>l.length-i) 0 ⟨Nat.zero_le _,fun j x hj=>by omega⟩ fun i hi=>?_;obtain⟨hi,hb⟩:i≤l.length∧∀j x,j<i→l[j]?=some x→x.q.length≤20:=hi;by_cases hlt:i<l.length
  ·have hx:l[i]?=some l[i]:=lgE hlt;generalize l[i]=x at hx
   obtain⟨b,off,cs,T,fr,rfl,hfb,hcs⟩:=hat i x hx;have rd:∀A,Rd f A b (off+i*12) x.vals:=fun A=>Rd.imm hfb hcs;refine qjC ?_
   refine gH ?_;refine H.Ab rfl rfl rfl (Rd1.of (i:=10) (rd _) rfl) rfl ?_;refine gG ?_;by_cases hq:x.q.length≤20
   ·skip;refine gc ?_;refine H.ag (i+1) ⟨by show i+1≤l.length;omega,fun j y hj hy=>?_⟩ jg;by_cases e:j=i
    ·subst e;rw[hx]at hy;cases hy;exact hq
    ·exact hb j y jA hy
   ·skip;refine gG ?_;refine H.Ae rfl rfl iD ⟨?_,rfl,rfl⟩
    have:few15 l=false:=by
     unfold few15;rw[Bool.and_eq_false_iff];exact .inr (List.all_eq_false.2 ⟨x,List.mem_of_getElem? hx,by rw[decide_eq_false hq];decide⟩)
    rw[this]
  ·refine gc ?_;refine H.Ae rfl rfl iD ⟨?_,rfl,rfl⟩
   have:few15 l=true:=by
    unfold few15;rw[decide_eq_true h30,Bool.true_and,List.all_eq_true];intro x hx;obtain⟨j,hj⟩:=List.getElem?_of_mem hx;have hjl:=(List.getElem?_eq_some_iff.1 hj).1;exact decide_eq_true (hb j x jA hj)
   rw[this]
 ·refine Fn.e1 func7 ntmps7 fun base=>?_;refine gG ?_;refine H.Ae rfl rfl iD ⟨?_,rfl,rfl⟩;have:few15 l=false:=by unfold few15;rw[decide_eq_false h30];rfl
  rw[this]
theorem nworld_fn(h:fewZ (n:Int)):Fn prog 17 [.int .i64 (n:Int)] f F (Acts15P f F n (W15.zero n)):=by
 have hn:n≤11:=by have:=h.2.1;omega
 refine Fn.e1 func17 ntmps17 fun base=>?_;refine gI ?_;refine H.Ap rfl rfl rfl (lgnew_fn f _ h) fun v f' A' hr=>?_;obtain⟨g,lb,hd,rfl,rfl,rfl⟩:=hr;refine gO ?_;refine H.makeS (m:=n) (zs:=v11 fun _=>0) rfl rfl rfl rfl rfl rfl rfl jC jA jA rfl fun kb=>?_;rw[kRow_zero];repeat(first|(refine H.Ay (t:=32) (out:=w15C kb n none 0 0 lb) rfl rfl rfl jE rfl ?_)|(refine gh ?_))
 refine H.box (ls:=w15C kb n none 0 0 lb) rfl rfl rfl rfl fun wb=>?_;refine gT ?_;refine qhr ?_;refine H.slc0 54 121 ?_;refine qeI ?_;refine H.imp (w15_fold (e:=un f g) (n:=n) (W:=W15.zero n) ⟨kb,lb,none,0,[]⟩ ⟨rfl,fun y hy=>by cases hy⟩) ?_;exact H.r1 ⟨g,wb,rfl,hd,rfl,rfl⟩
theorem acts15_fn{n8:UInt8}(hn8:n=3+2*(n8.toNat % 5)){xs:List A15}(hat:ListAt f p 12 A15.vals xs)(hh:∀x∈xs,x.Has f∧x.q.length≤20)(hl:xs.length≤100):Fn prog 9 [.int .u8 (n8.toNat:Nat),.slice p xs.length c] f F (Acts15P f F n (world15 n xs)):=by
 have hn3:3≤n∧n≤11:=jA
 have hodd:=fun G=>odd15_fn f G n8;rw[←hn8]at hodd
 have hfz:fewZ (n:Int):=⟨by omega,by omega,by
  rw[show(2:Int)=((2:Nat):Int)from rfl,zal (a:=n) (b:=2) (r:=1) jA];rfl⟩
 refine Fn.e2 func9 ntmps9 fun base=>?_;refine gI ?_;refine H.cr (hodd _) ?_;refine H.Ap rfl rfl rfl (nworld_fn f _ hfz) fun v f' A' hr=>?_;obtain⟨g0,wb,rfl,hd0,rfl,rfl⟩:=hr;refine gT ?_
 refine H.lo (ι:=Nat×Frag) (fun s=>[(6,.int .i64 (s.1:Int)),(1,.slice p xs.length c),(5,.pointer (some ⟨wb,0,none⟩))]) (fun s=>un f s.2)
  (fun s=>wH15 (un f s.2) wb n (world15 n (xs.take s.1))::F)
  (fun s=>s.1≤xs.length∧Dj f s.2) (fun s=>xs.length-s.1) (0,g0) ⟨Nat.zero_le _,hd0⟩ fun s hs=>?_
 obtain⟨k,G⟩:=s;obtain⟨hk,hdj⟩:k≤xs.length∧Dj f G:=hs;show H _ _ _ [(6,.int .i64 (k:Int)),_,_] (un f G) (wH15 (un f G) wb n (world15 n (xs.take k))::F) _;by_cases hlt:k<xs.length
 ·obtain⟨x,hx⟩:∃x,xs[k]?=some x:=⟨_,lgE hlt⟩;have hnext:world15 n (xs.take (k+1))=(world15 n (xs.take k)).act n x:=by rw[zax hx,world15_snoc]
  obtain⟨hxa,hxq⟩:=hh x (List.mem_of_getElem? hx);obtain⟨b,off,cs,T,fr,rfl,hfb,hcs⟩:=hat k x hx;have rd:∀A,Rd (un f G) A b (off+k*12) x.vals:=fun A=>Rd.imm (Le.un f G b _ hfb) hcs;have hinv:=world15_inv hn3.1 hn3.2 xs k jA
  have hwl:=world15_len n xs k;refine gG ?_
  refine H.Ak (i:=k) rfl rfl rfl rfl hlt rfl ?_;refine H.Ad (ls:=x.vals) rfl rfl rfl (rd _) rfl rfl ?_;refine H.Ap rfl rfl rfl (do_fn (un f G) _ (Le.refl _) hn3 hinv jA jA (hxa.mono (Le.un f G)) hxq) fun v f' A' hr=>?_;obtain⟨g,M,qp,qc,hd,rfl,rfl,rfl⟩:=hr;refine gW ?_;refine H.Ar (k+1,un G g) ⟨by show k+1≤xs.length;omega,Dj.un3' hdj hd⟩ (by show xs.length-(k+1)<xs.length-k;omega) ⟨rfl,rfl,rfl,trivial⟩ (zbc _ _ _) ?_;show wH15 (un (un f G) g) wb n _::F=wH15 (un f (un G g)) wb n (world15 n (xs.take (k+1)))::F;rw[hnext,zbc]
 ·have e:k=xs.length:=jA
  subst e;rw[List.take_length];refine gc ?_;exact H.r1 ⟨G,wb,rfl,hdj,rfl,rfl⟩
end
theorem H.world15{P:Program}{base:World}{L:Env}{K:Kont}
  (h:∀g kb ap ac lb (l:List MV),Dj f g→WAt (un f g) n W.w kb ap l→H P base m L (un f g) (row wb 32 (w15C kb n ap l.length ac lb)::A) K):H P base m L f (wH15 f wb n W::A) K:=by
 refine H.Bz fun i hi=>?_;obtain⟨kb,lb,ap,ac,l⟩:=i;show H P base m L f (row wb 32 (w15C kb n ap l.length ac lb)::row kb 37 (kRow n W.w.kv)::slc ap l.length ac 54 121 (l.flatMap MV.vals)::logsH f lb W.l::A) K;refine H.Bw (.there _ (.here _ _)) fun g1 hg1 hd1=>?_;refine H.Bw (.there _ (.here _ _)) fun g2 hg2 hd2=>?_;refine qjG ?_;have hd3:Dj f (un g1 g2):=Dj.un3' hd1 hd2;rw[zbc]
 have hle:Le f (un f (un g1 g2)):=Le.un _ _;have h1:KAt (un f (un g1 g2)) kb n W.w.kv:=by rw[←zbc];exact(KAt.of hg1 hd1).mono (Le.un _ g2)
 have h2:ListAt (un f (un g1 g2)) ap 121 MV.vals l:=by rw[←zbc];exact(zbh MV.len hg2).mono (Le.right hd2)
 exact h (un g1 g2) kb ap ac lb l hd3 ⟨h1,h2,fun y hy=>(hi.2 y hy).mono hle,hi.1⟩
section
variable (f:Frag) (F:List HP)
end
end Go.Proofs.YtkaknokcbhiigaaGreatDoor

namespace Go.Proofs.YtkaknokcbhiigaaGreatDoor
open Go Go.Proofs.Tryz Go.ChangeShapes Go.WideShapes Go.RowKit Go.Deep
variable {W:World}
theorem Reads.bool{P:Program}{t:TypeId}{cs:List Value}(ht:P.underlying t=some .bool)(h:Reads P W t cs):∃b,cs=[.bool b]:=by
 obtain⟨H',enc,b,sp,hd,n,x,h⟩:=h;obtain⟨z,h1,_⟩:=DataW.trod_bool ht h;exact⟨z,h1⟩
theorem Reads.u8{cs:List Value}(h:Reads prog W 5 cs):∃x:UInt8,cs=[.int .u8 (x.toNat:Nat)]:=by
 obtain⟨x,_,e⟩:=reads_byte h;exact⟨x,e⟩
variable {v:Value}
theorem ArgOk.u8(h:ArgOk prog W 5 v):∃x:UInt8,v= .int .u8 (x.toNat:Nat):=by
 obtain⟨z,rfl,hz⟩:=h.int underlying5;exact⟨UInt8.ofNat z.toNat,by rw[u8_back hz]⟩
theorem AllReads.cons{P:Program}{W:World}{t:TypeId}{ts:List TypeId}{ps:List (List Value)}(h:AllReads P W (t::ts) ps):∃p q,ps=p::q∧Reads P W t p∧AllReads P W ts q:=by
 cases ps with
 |nil=>exact h.elim
 |cons p q=>exact⟨p,q,rfl,h.1,h.2⟩
theorem AllReads.nil{P:Program}{W:World}{ps:List (List Value)}(h:AllReads P W [] ps):ps=[]:=by
 cases ps with
 |nil=>rfl
 |cons p q=>exact h.elim
theorem reads_a15{cs:List Value}(h:Reads prog W 71 cs):∃x:A15,x.Has (memOf W)∧cs=x.vals:=by
 obtain⟨ps,rfl,hh⟩:=h.parts underlying71 jE;have h:AllReads prog W [5,5,4,4,5,5,5,5,5,5,23,4] ps:=hh;obtain⟨p0,q0,rfl,r0,h⟩:=h.cons
 obtain⟨p1,q1,rfl,r1,h⟩:=h.cons;obtain⟨p2,q2,rfl,r2,h⟩:=h.cons;obtain⟨p3,q3,rfl,r3,h⟩:=h.cons;obtain⟨p4,q4,rfl,r4,h⟩:=h.cons;obtain⟨p5,q5,rfl,r5,h⟩:=h.cons;obtain⟨p6,q6,rfl,r6,h⟩:=h.cons;obtain⟨p7,q7,rfl,r7,h⟩:=h.cons;obtain⟨p8,q8,rfl,r8,h⟩:=h.cons;obtain⟨p9,q9,rfl,r9,h⟩:=h.cons;obtain⟨p10,q10,rfl,r10,h⟩:=h.cons;obtain⟨p11,q11,rfl,r11,h⟩:=h.cons;obtain rfl:=h.nil;obtain⟨z0,rfl⟩:=r0.u8;obtain⟨z1,rfl⟩:=r1.u8;obtain⟨z2,rfl⟩:=r2.bool underlying4;obtain⟨z3,rfl⟩:=r3.bool underlying4;obtain⟨z4,rfl⟩:=r4.u8;obtain⟨z5,rfl⟩:=r5.u8;obtain⟨z6,rfl⟩:=r6.u8;obtain⟨z7,rfl⟩:=r7.u8;obtain⟨z8,rfl⟩:=r8.u8;obtain⟨z9,rfl⟩:=r9.u8;obtain⟨p,c,xs,rfl,_,_,_,hat⟩:=r10.list (sz:=1) underlying23 jE jC fun cs=>reads_byte;obtain⟨z11,rfl⟩:=r11.bool underlying4;exact⟨⟨z0,z1,z2,z3,z4,z5,z6,z7,z8,z9,xs,z11,p,c⟩,listAt_bat hat,rfl⟩
theorem ArgOk.acts15(h:ArgOk prog W 22 v):∃(p:Option Addr) (c:Nat) (xs:List A15),v= .slice p xs.length c∧xs.length≤9223372036854775807∧(∀x∈xs,x.Has (memOf W))∧ListAt (memOf W) p 12 A15.vals xs:=by
  obtain⟨p,c,xs,rfl,h1,h2,hq,hat⟩:=h.list (sz:=12) underlying22 jE jC fun cs=>reads_a15
  exact ⟨p, c, xs, rfl, by have : maxLen ≤ 9223372036854775807 := by decide
                           omega,hq,hat⟩
end Go.Proofs.YtkaknokcbhiigaaGreatDoor

namespace Go.Proofs.YtkaknokcbhiigaaGreatDoor
open Go Go.Proofs.Tryz
def allO(o:Option Vw):List Req:=(o.map Vw.all).getD []
def LogOR(f:Frag)(A:List HP)(o:Option Vw):Value→Frag→List HP→Prop:=fun v f' A'=>∃(p:Option Addr) (c:Nat),v= .tuple #[.slice p (allO o).length c,.bool o.isSome]∧f'=f∧A'=slc p (allO o).length c 49 40 ((allO o).flatMap Req.vals)::A
variable {fl:Frag} {lb T:Nat} {l:Lgs} {v:Int}
section
variable (f:Frag) (F:List HP)
theorem pllog_no(hat:vwAt l.vs v=none):Fn prog 55 [.pointer (some ⟨lb,0,none⟩),.int .u64 v] f (plogH fl lb l::F) (Ret (.tuple #[.slice none 0 0,.bool false]) f (plogH fl lb l::F)):=by
 refine qjX fun i hi=>?_;have hvs:=hi.vs;obtain⟨V,vb,pp,pc,cp,cc,pb,cs⟩:=i
 have hvs:(V.map PV.w).Perm l.vs:=hvs;have hget:(getKV (V.map PV.ent) v).getD (.pointer none)= .pointer none:=by rw[view_none hvs hat];rfl
 refine qen ?_;refine Fn.e2 func55 ntmps55 fun base=>?_;refine gU ?_;refine qiz ?_;refine gS ?_;refine qeO ?_;exact qbO
theorem pllogO_fn(hL:LI l T)(hT:T≤50000)(v:Int):Fn prog 55 [.pointer (some ⟨lb,0,none⟩),.int .u64 v] f (plogH fl lb l::F) (LogOR f (plogH fl lb l::F) (l.vw v)):=by
 cases hv:l.vw v with
 | none =>
  intro base w s;have h:=pllog_no f F (fl:=fl) (lb:=lb) (vw_none.1 hv) base w s;refine h.mono ?_
  rintro e w' ⟨x,f',A',rfl,⟨rfl,rfl,rfl⟩,s'⟩;refine⟨_,_,slc none 0 0 49 40 []::plogH fl lb l::F,rfl,⟨none,0,rfl,rfl,rfl⟩,s'.imp fun h hh=>⟨nil0,h,(Dj.nil h).symm,(nil_un h).symm,slc_nil none 49 40,hh⟩⟩
 | some w =>
  obtain⟨i,h1,h2⟩:=vw_at hv;exact(pllog_fn f F hL hT h1 h2).mono fun _ _ _ h=>h
end
open Go.Sort (bitsLen PermIn SortedIn Below ltInt swo_ltInt sorted_unique_holds)
theorem list_arr(xs:List Int):xs.flatMap uV=arr xs.toArray:=rfl
theorem sorted_eq:∀ {ys zs:List Int},ys.Perm zs→zs.Pairwise (· < ·)→ys.Pairwise (· ≤ ·)→ys=zs
 | [],zs,h,_,_=>h.nil_eq
 |y::ys,[],h,_,_=>absurd h.length_eq jK
 | y :: ys, z :: zs, h, hz, hy => by
  rw[List.pairwise_cons]at hz hy
  have e:y=z:=by
   have h1:z∈y::ys:=h.mem_iff.2 jK;have h2:y∈z::zs:=h.mem_iff.1 jK
   rcases List.mem_cons.1 h1 with h1|h1
   ·exact h1.symm
   ·rcases List.mem_cons.1 h2 with h2|h2
    ·exact h2
    ·have:=hy.1 z h1;have:=hz.1 y h2;omega
  subst e
  rw[sorted_eq ((List.perm_cons y).1 h) hz.2 hy.2]
def unseenU(es:List (Int×Value×Nat))(seen:List Int):Nat:=(es.filter fun e=>!seen.contains e.1).length
theorem unseenU_lt:∀ {es:List (Int×Value×Nat)} {seen:List Int} {e:Int×Value×Nat},e∈es→e.1∉seen→unseenU es (e.1::seen)<unseenU es seen:=fun {es seen e} he hn=>by
 have hle:∀l:List (Int×Value×Nat),(l.filter fun x=>!(e.1::seen).contains x.1).length≤(l.filter fun x=>!seen.contains x.1).length:=fun l=>by
  induction l with
  |nil=>exact Nat.le_refl _
  | cons x r ih =>
   by_cases h1:x.1∈seen
   ·rw[List.filter_cons_of_neg (by simp[h1]),List.filter_cons_of_neg (by simp[h1])];exact ih
   ·by_cases h2:x.1=e.1
    ·rw[List.filter_cons_of_neg (by simp[h2]),List.filter_cons_of_pos (by simp[h1])];simp only[List.length_cons];omega
    ·rw[List.filter_cons_of_pos (by simp[h1,h2]),List.filter_cons_of_pos (by simp[h1])];simp only[List.length_cons];omega
 obtain⟨a,b,rfl⟩:=List.append_of_mem he
 unfold unseenU
 rw[List.filter_append,List.filter_append,List.filter_cons_of_neg (p:=fun x:Int×Value×Nat=>!(e.1::seen).contains x.1) jK,List.filter_cons_of_pos (p:=fun x:Int×Value×Nat=>!seen.contains x.1) (by simp[hn]),lnA,lnA,List.length_cons]
 have:=hle a
 have:=hle b
 omega
theorem nodup_len:∀ {s l:List Int},s.Nodup→(∀k∈s,k∈l)→s.length≤l.length
 | [],_,_,_=>Nat.zero_le _
 | k :: s, l, hn, hs => by
  rw[List.nodup_cons]at hn
  obtain⟨a,b,rfl⟩:=List.append_of_mem (hs k jK)
  have:=nodup_len (l:=a++b) hn.2 fun j hj=>by
   have h1:=hs j (List.mem_cons_of_mem _ hj)
   rw[List.mem_append,List.mem_cons]at h1
   rw[List.mem_append]
   rcases h1 with h1|h1|h1
   ·exact .inl h1
   ·exact absurd (h1▸hj) hn.1
   ·exact .inr h1
  rw[lnA]at this
  rw[lnA,List.length_cons,List.length_cons]
  omega
variable {lp:Nat} {α:Type} {A:List HP}
theorem YieldFn.exI{P:Program}{args:List Value}{f:Frag}{g:α→HP}{R:Value→Frag→List HP→Prop}(h:∀x,YieldFn P lp args f (g x::A) R):YieldFn P lp args f (ex g::A) R:=fun base w s=>by
 obtain⟨m,⟨m1,m2,d,e,⟨x,hx⟩,h2⟩,hd,hw⟩:=s.mem
 exact h x base w ⟨s.os,s.tape,s.output,s.size,s.imm,m,⟨m1,m2,d,e,hx,h2⟩,hd,hw⟩
variable {n vb mb:Nat} {m:List (Int × Value)} {LH D:HP} {acc:List Int}
section
variable (f:Frag) (F:List HP)
def SrtL(f:Frag)(F:List HP)(p:Option Addr)(n c:Nat)(xs:List Int):Value→Frag→List HP→Prop:=fun v f' A'=>∃ys:List Int,ys.Perm xs∧ys.Pairwise (· ≤ ·)∧v= .tuple #[]∧f'=f∧A'=slc p n c 35 1 (ys.flatMap uV)::F
theorem sortU_fn{p:Option Addr}{c:Nat}{xs:List Int}(hx:xs.length=n)(hn:n≤255):Fn prog 116 [.slice p n c] f (slc p n c 35 1 (xs.flatMap uV)::F) (SrtL f F p n c xs):=by
 have hl:=fun G=>len_fn f G (x:=n) jA;have hb8:bitsLen n≤8:=(tab8 ⟨n,by omega⟩).2.2.2
 have hs:=pdq_fn f F n (p:=p) (n:=n) (c:=c) (a0:=0) (b0:=n) (lim0:=(bitsLen n:Nat)) (d0:=xs.toArray) js hn (Nat.zero_le _) (Nat.le_refl _) jA (.inl rfl) jA
 have hun:∀d:Array Int,PermIn 0 n xs.toArray d→SortedIn ltInt 0 n d→d.toList.Perm xs∧d.toList.Pairwise (· ≤ ·):=fun d h1 h2=>by
  have hdn:d.size=n:=h1.1.trans js;have e:xs.toArray.size=n:=by simpa using hx
  refine⟨?_,?_⟩
  ·have:=sorted_unique_holds swo_ltInt (fun x y h1 h2=>by simp only[ltInt,decide_eq_false_iff_not]at h1 h2;omega) xs.toArray d (by rw[e];exact h1) (by rw[e];exact h2);rw[this]
   exact List.mergeSort_perm _ _
  ·rw[List.pairwise_iff_getElem];intro i j hi hj hij;have h3:=h2 i j (Nat.zero_le _) hij (by rw[←hdn];simpa using hj);have hi':i<d.size:=by simpa using hi
   have hj':j<d.size:=by simpa using hj
   rw[getElem!_pos d i hi',getElem!_pos d j hj']at h3;simp only[ltInt,decide_eq_false_iff_not]at h3;simp only[Array.getElem_toList];omega
 rw[list_arr];refine Fn.e1 func116 ntmps116 fun base=>?_;refine gW ?_;refine H.cr (hl _) ?_;skip;refine H.Ap rfl rfl rfl hs fun v f' A' hR=>?_;obtain⟨d,h1,h2,rfl,hff,rfl⟩:=hR;rw[hff];obtain⟨h3,h4⟩:=hun d h1 h2;refine gA ?_;exact H.end0 rfl iD ⟨d.toList,h3,h4,rfl,rfl,rfl⟩
theorem keys_fn:Fn prog 78 [.map (some vb)] f F
  (RetE (α:=Nat) (fun b=>.func (.func 117) #[] #[.pointer (some ⟨b,0,none⟩)]) f (fun b=>row b 120 [.map (some vb)]::F)):=by
 refine Fn.e1 func78 ntmps78 fun base=>?_;refine gA ?_;refine H.box (ls:=[.map (some vb)]) rfl rfl rfl rfl fun b=>?_;refine gY ?_;exact H.r1 ⟨b,rfl,rfl,rfl⟩
theorem keys1_fn{X:List Int→HP}(hnd:(m.map (·.1)).Nodup)
  (hY:∀(acc:List Int) (k:Int) (G:List HP),acc.length≤m.length→YieldFn prog lp [.int .u64 k] f (X acc::G) (fun v g B=>v= .bool true∧g=f∧B=X (acc++[k])::G)) :
  Fn prog 117 ([]++[.func (.yield lp) #[] #[]]++[.pointer (some ⟨mb,0,none⟩)]) f (mp vb keyU m::X []::row mb 120 [.map (some vb)]::F)
   (RetE (α:={ks:List Int // ks.Perm (m.map (·.1))}) (fun _=>.tuple #[]) f (fun ks=>X ks.1::row mb 120 [.map (some vb)]::mp vb keyU m::F)):=by
 refine Fn.openMap fun es clock hes=>?_
 have hkeys:m.map (·.1)=es.map (·.1):=by
  rw[←hes,List.map_map];rfl
 refine Fn.e2 func117 ntmps117 fun base=>?_;refine gF ?_;refine H.range rfl rfl jB rfl fun rb=>?_;refine gT ?_;refine H.pf (x:=X _) ?_
 refine H.lo (ι:=List Int) (fun _=>[(5,.pointer (some ⟨rb,0,none⟩)),(0,.func (.yield lp) #[] #[])]) (fun _=>f)
  (fun s=>X s.reverse::itr rb vb es clock s::mpS vb keyU es clock::row mb 120 [.map (some vb)]::F) (fun s=>s.Nodup∧∀k∈s,k∈es.map (·.1)) (fun s=>unseenU es s) [] ⟨List.nodup_nil,fun k h=>by cases h⟩ fun s hs=>?_
 obtain⟨hsn,hsk⟩:s.Nodup∧∀k∈s,k∈es.map (·.1):=hs;show H _ _ _ [(5,_),_] f (X s.reverse::itr rb vb es clock s::_::_::F) _;refine gA ?_;refine H.next rfl rfl jB jB (fun _=>jB) rfl (fun hend=>?_) (fun e he hns=>?_)
 ·have hp:s.reverse.Perm (m.map (·.1)):=by
   refine(List.reverse_perm s).trans ((List.perm_ext_iff_of_nodup hsn hnd).2 fun k=>?_);rw[hkeys];refine⟨hsk k,fun hk=>?_⟩;obtain⟨e,he,rfl⟩:=List.mem_map.1 hk;exact hend e he
  refine gY ?_;refine H.pd (x:=itr _ _ _ _ _) ?_;refine H.pf (x:=mpS _ _ _ _) ?_;refine H.imp mpS_fold ?_;rw[hes];refine qeu ?_;refine H.pf (x:=X _) ?_;exact H.end0 rfl iD ⟨⟨s.reverse,hp⟩,rfl,rfl,rfl⟩
 ·skip;refine gY ?_;refine H.entry rfl rfl jB jB he rfl ?_
  iterate 5 ( first
   |((first|apply H.Aw|apply H.Be|apply H.Bd|apply H.Bi|apply H.Bs|apply H.Br);(iterate 3 exact rfl))
   |(apply H.Bn;(iterate 3 exact rfl);exact inferInstance;exact rfl)
   |(apply H.Ab;(iterate 3 exact rfl);apply Rd1.ofRow;(repeat(first|exact .here _ _ _|apply At.there));(iterate 2 exact rfl))
   |(first|apply H.seq|apply H.Bg|apply H.nil|apply H.Bj)
   |((first|apply H.cmp|apply H.Ay);(iterate 5 exact rfl))
   |((first|(apply H.ar;(iterate 4 exact rfl))|(apply H.Bk;(iterate 2 exact rfl)));(first|(with_reducible apply zbe;omega)|(with_reducible apply zbf;omega)|(with_reducible apply zbd;omega)|(with_reducible apply wr_i64;omega)|(with_reducible apply wr_u64;omega)|(with_reducible apply wr_u8;omega)|(with_reducible apply wr_u16;omega)|rfl);exact rfl)
   |(apply H.pass;(iterate 2 exact rfl))
   |(apply H.pass0;exact rfl)
   |(apply H.pickT;(iterate 4 exact rfl))
   |((first|apply H.pickF|apply H.Cg|apply H.not|apply H.Cp);(iterate 4 exact rfl))
   |((first|apply H.ptrNil|apply H.sliceNil);(iterate 5 exact rfl))
   |(apply H.Ba;(iterate 4 exact rfl);(repeat(first|exact .here _ _ _|apply At.there));(repeat(first|exact .here _ _ _|apply SetV.there)))
   |(apply H.Co;exact rfl)
   |(apply H.Cn;exact rfl)
   |(first|apply H.skip|apply H.ret|apply H.Ce|apply H.Cf|apply H.exit|apply H.Bl|apply H.Bp|apply H.Ca|apply H.Cb|apply H.Cd|apply H.Cc)
   |(apply H.in_miss;exact rfl)
   |(apply H.gyes;(iterate 3 exact rfl);(first|assumption|omega))
   |(apply H.gno;(iterate 3 exact rfl);(first|assumption|omega))
   |(apply H.Ch;exact rfl;(first|assumption|omega))
   |(apply H.Cj;exact rfl;(first|assumption|omega))
   |((first|apply H.gtrue);(iterate 3 exact rfl);assumption)
   |(apply H.gfalse;(iterate 3 exact rfl);assumption)
   |(apply H.cond_t;exact rfl;assumption)
   |(apply H.cond_f;exact rfl;assumption) )
  refine H.regionY ?_
  have hlen:s.reverse.length≤m.length:=by
   have h1:=nodup_len hsn hsk;rw[List.length_map]at h1
   rw[List.length_reverse,←hes,List.length_map];exact h1
  refine H.inOp jD ?_;refine gI ?_;refine H.Bu ?_;refine H.inOp jD ?_;refine gI ?_;refine H.Bu ?_;refine H.pf (x:=X _) ?_;refine H.yield rfl rfl rfl rfl (hY s.reverse e.1 _ hlen) fun v f' A' hR=>?_;obtain⟨rfl,hff,rfl⟩:=hR;rw[hff];clear hff;refine H.inOp jD ?_;refine gO ?_;refine H.Bu ?_;refine H.inNil ?_;refine gW ?_;refine H.pf (x:=mpS _ _ _ _) ?_;refine H.pf (x:=itr _ _ _ _ _) ?_;refine H.pf (x:=X _) ?_;refine H.Ar (e.1::s) ⟨List.nodup_cons.2 ⟨hns,hsn⟩,fun k hk=>?_⟩ (unseenU_lt he hns) ⟨rfl,rfl,trivial⟩ rfl ?_
  ·rcases List.mem_cons.1 hk with h|h
   ·rw[h];exact List.mem_map.2 ⟨e,he,rfl⟩
   ·exact hsk k h
  ·show _=X (e.1::s).reverse::_;rw[List.reverse_cons]
def ColP(f:Frag)(F:List HP)(mb vb:Nat)(m:List (Int×Value)):Value→Frag→List HP→Prop:=fun v f' A'=>∃(ks:List Int) (p:Option Addr) (c:Nat),ks.Perm (m.map (·.1))∧v= .slice p ks.length c∧f'=f∧A'=slc p ks.length c 35 1 (ks.flatMap uV)::row mb 120 [.map (some vb)]::mp vb keyU m::F
def accH(LH D:HP)(sb:Nat)(acc:List Int):HP:=ex fun pc:Option Addr×Nat=>stars [LH,D,row sb 110 [.slice pc.1 acc.length pc.2],slc pc.1 acc.length pc.2 35 1 (acc.flatMap uV)]
theorem acc_in{sb:Nat}(p:Option Addr)(c:Nat):∀h,stars (LH::D::row sb 110 [.slice p acc.length c]::slc p acc.length c 35 1 (acc.flatMap uV)::A) h→stars (accH LH D sb acc::A) h:=fun h hh=>by
 have:=pack_all [LH,D,row sb 110 [.slice p acc.length c],slc p acc.length c 35 1 (acc.flatMap uV)] A h hh
 obtain⟨m1,m2,d,e,a,r⟩:=this
 exact⟨m1,m2,d,e,⟨(p,c),a⟩,r⟩
def acc2(D:HP)(sb:Nat)(acc:List Int):HP:=ex fun pc:Option Addr×Nat=>stars [D,row sb 110 [.slice pc.1 acc.length pc.2],slc pc.1 acc.length pc.2 35 1 (acc.flatMap uV)]
theorem acc_out{sb:Nat}:∀h,stars (accH LH D sb acc::A) h→stars (LH::acc2 D sb acc::A) h:=fun h ⟨m1,m2,d,e,⟨pc,a⟩,r⟩=>by
 obtain⟨m3,m4,d2,e2,a2,r2⟩:=a
 rw[e2]at d e
 have d3:=Dj.un_left.1 d
 exact⟨m3,un m4 m2,Dj.un_right.2 ⟨d2,d3.1⟩,by rw[e,zbc],a2,m4,m2,d3.2,rfl,⟨pc,r2⟩,r⟩
theorem appendSeq_fn(hnd:(m.map (·.1)).Nodup)(hm:m.length≤1000000):Fn prog 145 [.slice none 0 0,.func (.func 117) #[] #[.pointer (some ⟨mb,0,none⟩)]] f (row mb 120 [.map (some vb)]::mp vb keyU m::F) (ColP f F mb vb m):=by
 refine Fn.enterM func145 rfl ntmps145 rfl (L:=[(0,_),(1,_)]) ⟨rfl,rfl,trivial⟩ fun base=>?_;refine gA ?_;refine H.box (ls:=[.slice none 0 0]) rfl rfl rfl rfl fun sb=>?_;refine gT ?_;refine H.slc0 35 1 ?_;refine H.pf (x:=row sb _ _) ?_;refine H.sb [(6,.func (.func 117) #[] #[.pointer (some ⟨mb,0,none⟩)]),(2,.pointer (some ⟨sb,0,none⟩))] ?_;refine H.rangeFuncE (f':=f) (fs:=[]) (cs:=[.pointer (some ⟨mb,0,none⟩)]) rfl rfl fun LH hLH=>⟨{ks:List Int // ks.Perm (m.map (·.1))},fun i D=>acc2 (pts D (.deferred (some []))) sb i.1::row mb 120 [.map (some vb)]::mp vb keyU m::F,fun D lp=>?_,fun i D=>?_⟩
 ·refine Fn.wrap (A1:=mp vb keyU m::accH (LH D lp .ready) (pts D (.deferred (some []))) sb []::row mb 120 [.map (some vb)]::F) (fun h hh=>?_) (keys1_fn f F (X:=accH (LH D lp .ready) (pts D (.deferred (some []))) sb) hnd fun acc k G hacc=>?_) fun v g B hR=>?_
  ·have h1:=acc_in (acc:=[]) none 0 h hh;rw[Pull.eq (x:=mp vb keyU m) (.there _ (.there _ (.here _ _)))]at h1
   exact h1
  ·refine YieldFn.exI fun pc=>?_;obtain⟨p,c⟩:=pc;refine YieldFn.wrap (R1:=fun v g B=>∃(p2:Option Addr) (c2:Nat),v= .bool true∧g=f∧B=LH D lp .ready::pts D (.deferred (some []))::row sb 110 [.slice p2 (acc++[k]).length c2]::slc p2 (acc++[k]).length c2 35 1 ((acc++[k]).flatMap uV)::G) (open_all _ _) ?_ ?_
   ·subst hLH;refine YieldFn.of rfl rfl rfl rfl fun base=>?_;repeat(first|(apply H.regionR;exact rfl;exact jD)|(first|((apply H.Be);(iterate 3 exact rfl))|(apply H.nil)))
    refine H.begin ?_;repeat(first|(first|(apply H.blockR)|(apply H.regionR;exact rfl;exact jD))|(first|((apply H.Aw);(iterate 3 exact rfl))|(apply H.Ab;(iterate 3 exact rfl);apply Rd1.ofRow;(repeat(first|exact .here _ _ _|apply At.there));(iterate 2 exact rfl))))
    show H _ _ _ _ f (_::pts D _::row sb _ [.slice p acc.length c]::slc p acc.length c _ 1 (acc.flatMap uV)::G) _;refine H.Aq (out:=uV k) rfl rfl rfl rfl jC jC rfl rfl fun eb=>?_;refine H.Av (sz:=1) (p:=p) (n0:=acc.length) (c:=c) (xs:=acc.flatMap uV) (m:=1) (news:=uV k) rfl rfl rfl rfl rfl (fun p' c'=>.there _ (.there _ (.there _ (.there _ (.here _ _ _))))) (Src.slice (Rd.ofRow aP0) rfl) (zaa rfl) rfl jA jA fun p2 c2=>?_;refine H.Ba rfl rfl rfl rfl at3 (.here _ _ _) ?_;refine qeK ?_;repeat((first|(apply H.nil)|(apply H.Bp)))
    refine H.endRound ⟨p2,c2,rfl,rfl,?_⟩;rw[lnA,List.flatMap_append];rfl
   ·rintro v g B ⟨p2,c2,rfl,rfl,rfl⟩;exact⟨_,⟨rfl,rfl,rfl⟩,acc_in p2 c2⟩
  ·obtain⟨ks,rfl,rfl,rfl⟩:=hR;exact⟨_,⟨ks,rfl,rfl⟩,acc_out⟩
 ·show H _ _ _ _ f (acc2 (pts D (.deferred (some []))) sb i.1::row mb 120 [.map (some vb)]::mp vb keyU m::F) _;refine H.ex fun pc=>?_;obtain⟨p,c⟩:=pc;refine H.imp (open_all [_,_,_] _) ?_;show H _ _ _ _ f (pts D (.deferred (some []))::row sb 110 [.slice p i.1.length c]::slc p i.1.length c 35 1 (i.1.flatMap uV)::_::_::F) _;refine gM ?_;refine H.pd (x:=row sb _ _) ?_;exact H.retMk rfl rfl rfl (.here _ _) iD ⟨i.1,p,c,i.2,rfl,rfl,rfl⟩
theorem collect_fn(hnd:(m.map (·.1)).Nodup)(hm:m.length≤1000000):Fn prog 115 [.func (.func 117) #[] #[.pointer (some ⟨mb,0,none⟩)]] f (row mb 120 [.map (some vb)]::mp vb keyU m::F) (ColP f F mb vb m):=by
 refine Fn.e1 func115 ntmps115 fun base=>?_;refine gI ?_;refine H.Ap rfl rfl rfl (appendSeq_fn f F hnd hm) fun v f' A' hR=>?_;obtain⟨ks,p,c,hp,rfl,hff,rfl⟩:=hR;rw[hff];refine gT ?_;exact H.r1 ⟨ks,p,c,hp,rfl,rfl,rfl⟩
def SdP(f:Frag)(F:List HP)(mb vb:Nat)(m:List (Int×Value))(zs:List Int):Value→Frag→List HP→Prop:=fun v f' A'=>∃(p:Option Addr) (c:Nat),v= .slice p zs.length c∧f'=f∧A'=slc p zs.length c 35 1 (zs.flatMap uV)::row mb 120 [.map (some vb)]::mp vb keyU m::F
theorem sorted_fn{zs:List Int}(hz:(m.map (·.1)).Perm zs)(hr:zs.Pairwise (· < ·))(hm:m.length≤255):Fn prog 77 [.func (.func 117) #[] #[.pointer (some ⟨mb,0,none⟩)]] f (row mb 120 [.map (some vb)]::mp vb keyU m::F) (SdP f F mb vb m zs):=by
 have hnd:(m.map (·.1)).Nodup:=hz.nodup_iff.2 (hr.imp fun h=>by omega);refine Fn.e1 func77 ntmps77 fun base=>?_
 refine gI ?_;refine H.Ap rfl rfl rfl (collect_fn f F hnd jA) fun v f' A' hR=>?_;obtain⟨ks,p,c,hp,rfl,hff,rfl⟩:=hR;rw[hff];have hkl:ks.length≤255:=by rw[hp.length_eq,List.length_map];exact hm
 refine gI ?_;refine H.Ap rfl rfl rfl (sortU_fn f _ (p:=p) (c:=c) (xs:=ks) rfl hkl) fun v f' A' hR=>?_;obtain⟨ys,h1,h2,rfl,hff,rfl⟩:=hR;rw[hff];have e:ys=zs:=sorted_eq (h1.trans (hp.trans hz)) hr h2;have hl:ks.length=zs.length:=by rw[hp.length_eq,hz.length_eq]
 subst e;rw[hl];exact qdf
def viewsU(l:Lgs):List Int:=l.vs.map Vw.v
def ViewsP(f:Frag)(A:List HP)(l:Lgs):Value→Frag→List HP→Prop:=fun v f' A'=>∃(p:Option Addr) (c:Nat),v= .slice p (viewsU l).length c∧f'=f∧A'=slc p (viewsU l).length c 35 1 ((viewsU l).flatMap uV)::A
theorem plviews_fn(hL:LI l T)(hT:T≤254):Fn prog 45 [.pointer (some ⟨lb,0,none⟩)] f (plogH fl lb l::F) (ViewsP f (plogH fl lb l::F) l):=by
 refine qjX fun i hi=>?_;have hvs:=hi.vs;have hvl:=hL.vl
 obtain⟨V,vb,pp,pc,cp,cc,pb,cs⟩:=i;have hvs:(V.map PV.w).Perm l.vs:=hvs;have hVl:=perm_len hvs
 have hz:((V.map PV.ent).map (·.1)).Perm (viewsU l):=by
  have:=hvs.map Vw.v;rw[List.map_map]at this⊢
  exact this
 refine qen ?_;refine Fn.e1 func45 ntmps45 fun base=>?_;refine gU ?_;refine H.callE rfl rfl rfl (keys_fn f _) fun mb=>?_;skip;refine H.pf (x:=mp vb _ _) ?_;refine qeu ?_;refine H.Ap rfl rfl rfl (sorted_fn f _ hz hL.rise jo) fun v f' A' hR=>?_;obtain⟨p2,c2,rfl,hff,rfl⟩:=hR;rw[hff];refine qhh ?_;refine qjK ?_;exact H.r1 ⟨p2,c2,rfl,rfl,rfl⟩
theorem sameR_fn{pa pb:Option Addr}{ca cb:Nat}{xs:List Req}(hA:ListAt f pa 40 Req.vals xs)(hB:ListAt f pb 40 Req.vals xs)(hl:xs.length≤1000000):Fn prog 11 [.slice pa xs.length ca,.slice pb xs.length cb] f F (Ret (.bool true) f F):=by
 refine Fn.e2 func11 ntmps11 fun base=>?_;refine gc ?_;refine H.lo (ι:=Nat) (fun i=>[(5,.int .i64 (i:Int)),(0,.slice pa xs.length ca),(1,.slice pb xs.length cb)]) (fun _=>f) (fun _=>F) (fun i=>i≤xs.length) (fun i=>xs.length-i) 0 (Nat.zero_le _) fun i hi=>?_;have hi:i≤xs.length:=hi;by_cases hlt:i<xs.length
 ·obtain⟨y,hy⟩:∃y,xs[i]?=some y:=⟨_,lgE hlt⟩;obtain⟨b,off,cs,T,fr,rfl,hfb,hcs⟩:=hA i y hy;obtain⟨b2,off2,cs2,T2,fr2,rfl,hfb2,hcs2⟩:=hB i y hy;have he:eqC y.vals y.vals=true:=eqC_refl rfl;refine qks ?_
  refine qip ?_;refine HQ.Ad (ls:=y.vals) rfl rfl rfl (Rd.imm hfb hcs) rfl rfl ?_;refine qip ?_;refine HQ.Ad (ls:=y.vals) rfl rfl rfl (Rd.imm hfb2 hcs2) rfl rfl ?_;refine HQ.aggNe (xs:=y.vals) (ys:=y.vals) (D:=4) (b:=false) rfl rfl rfl rfl jE jE jE jE jC (by rw[he];rfl) rfl ?_;refine gK ?_;refine gW ?_;exact H.ag (i+1) (by show i+1≤xs.length;omega) (by show xs.length-(i+1)<xs.length-i;omega)
 ·have e:i=xs.length:=jA
  subst e;refine gc ?_;exact qaj
end
structure Grow(l l2:Lgs):Prop where
 vw:∀v w,l.vw v=some w→∃w2,l2.vw v=some w2∧w.all<+: w2.all
 lo:l.vs.length≤l2.vs.length
 hi:l2.vs.length≤l.vs.length+1
variable {l2:Lgs}
theorem Grow.same(h:l2.vs=l.vs):Grow l l2:=⟨fun v w hv=>⟨w,by rw[vw_congr h];exact hv,List.prefix_refl _⟩,by rw[h];exact Nat.le_refl _,by rw[h];exact Nat.le_succ _⟩
theorem Grow.counts{l:Lgs}{T:Nat}(h:LI l T){m:Msg}(hm:MIn l.n m):Grow l (l.counts m).2:=by
 have hr2:=(h.counts hm).rise;rw[zca h.rise]at hr2⊢
 cases he:l.eff m with
 |none=>exact Grow.same rfl
 | some e =>
  rw[he]at hr2;show Grow l (l.app (orgI m) e);have hr2:((l.app (orgI m) e).vs.map Vw.v).Pairwise (· < ·):=hr2
  cases e with
  |no=>exact Grow.same rfl
  |past p=>exact Grow.same rfl
  |chg p c=>exact Grow.same rfl
  | prep p v y =>
   refine⟨fun u w hu=>?_,?_,?_⟩
   ·refine⟨putV v y w,by rw[vw_put h.rise (v:=v) (y:=y) rfl u,hu];rfl,?_⟩;unfold putV;split
    ·show w.s++w.p.map Prod.snd<+: w.s++(w.p++[y]).map Prod.snd;exact qdt
    ·exact List.prefix_refl _
   ·show _≤(l.vs.map (putV v y)).length;rw[List.length_map];exact Nat.le_refl _
   ·show(l.vs.map (putV v y)).length≤_;rw[List.length_map];exact Nat.le_succ _
  | beg p w =>
   have hlen:=(zbk w l.vs).length_eq;refine⟨fun u x hu=>?_,?_,?_⟩
   ·have e:=vw_ins (l:=l) (l2:=l.app (orgI m) (.beg p w)) (w:=w) rfl hr2 u;obtain⟨hxv,hxm⟩:=vw_v hu
    by_cases euw:u=w.v
    ·have hx2:x∈insV w l.vs:=(zbk w l.vs).mem_iff.1 (List.mem_cons_of_mem _ hxm);have hw2:w∈insV w l.vs:=(zbk w l.vs).mem_iff.1 List.mem_cons_self
     have:=Vw.uniq hr2 hx2 hw2 (hxv.trans euw);subst this
     exact⟨x,by rw[e,if_pos euw],List.prefix_refl _⟩
    ·exact⟨x,by rw[e,if_neg euw];exact hu,List.prefix_refl _⟩
   ·show _≤(insV w l.vs).length;rw[←hlen];exact Nat.le_succ _
   ·show(insV w l.vs).length≤_;rw[←hlen];exact Nat.le_refl _
theorem viewsU_mem:v∈viewsU l↔∃w,l.vw v=some w:=by
 unfold viewsU;constructor
 ·intro h;obtain⟨w,hw,e⟩:=List.mem_map.1 h
  cases hv:l.vw v with
  |none=>exact absurd e (vw_no hv w hw)
  |some x=>exact⟨x,rfl⟩
 ·rintro⟨w,hw⟩;obtain⟨h1,h2⟩:=vw_v hw;exact List.mem_map.2 ⟨w,h2,h1⟩
def LexLe(a b:Int×Int):Prop:=a.1<b.1∨(a.1=b.1∧a.2≤b.2)
theorem LexLe.refl(a:Int×Int):LexLe a a:=.inr ⟨rfl,Int.le_refl _⟩
theorem LexLe.trans{a b c:Int×Int}(h1:LexLe a b)(h2:LexLe b c):LexLe a c:=by
 unfold LexLe at *;omega
theorem bestOf_ge(bv:Int):∀(l:List (Int×Int)) (a:Int×Int),LexLe a (bestOf bv l a)∧∀x∈l,x.1<bv→LexLe x (bestOf bv l a)
 | [],a=>⟨LexLe.refl a,fun x hx=>by cases hx⟩
 | y :: r, a => by
  rw[zbv]
  by_cases hc:y.1<bv∧(a.1<y.1∨(y.1=a.1∧a.2<y.2))
  ·rw[if_pos hc]
   obtain⟨h1,h2⟩:=bestOf_ge bv r y
   have hay:LexLe a y:=by unfold LexLe;omega
   refine⟨hay.trans h1,fun x hx hb=>?_⟩
   rcases List.mem_cons.1 hx with rfl|hx
   ·exact h1
   ·exact h2 x hx hb
  ·rw[if_neg hc]
   obtain⟨h1,h2⟩:=bestOf_ge bv r a
   refine⟨h1,fun x hx hb=>?_⟩
   rcases List.mem_cons.1 hx with rfl|hx
   ·have hya:LexLe x a:=by unfold LexLe;omega
    exact hya.trans h1
   ·exact h2 x hx hb
theorem bestQ_ge(past:Nat→PM)(bv:Int):∀(q:List (Int×Int)) (a:Int×Int),LexLe a (bestQ past bv q a)∧∀p∈q,∀x∈(past (p.1-1).toNat).all,x.1<bv→LexLe x (bestQ past bv q a)
 | [],a=>⟨LexLe.refl a,fun p hp=>by cases hp⟩
 | y :: r, a => by
  rw[bestQ_cons]
  obtain⟨h1,h2⟩:=bestQ_ge past bv r (bestOf bv (past (y.1-1).toNat).all a)
  obtain⟨h3,h4⟩:=bestOf_ge bv (past (y.1-1).toNat).all a
  refine⟨h3.trans h1,fun p hp x hx hb=>?_⟩
  rcases List.mem_cons.1 hp with rfl|hp
  ·exact(h4 x hx hb).trans h1
  ·exact h2 p hp x hx hb
theorem bestOf_lt{bv:Int}:∀(l:List (Int×Int)) (a:Int×Int),a.1<bv→(bestOf bv l a).1<bv
 | [],_,h=>h
 | y :: r, a, h => by
  rw[zbv]
  split
  ·rename_i hc;exact bestOf_lt r y hc.1
  ·exact bestOf_lt r a h
theorem bestQ_lt{past:Nat→PM}{bv:Int}:∀(q:List (Int×Int)) (a:Int×Int),a.1<bv→(bestQ past bv q a).1<bv
 | [],_,h=>h
 |y::r,a,h=>by rw[bestQ_cons];exact bestQ_lt r _ (bestOf_lt _ _ h)
theorem quo_rise:∀(q:List (Int×Int)) (w:Int),quo w q=true→q.Pairwise (fun a b=>a.1<b.1)∧∀p∈q,w<p.1
 | [],_,_=>⟨List.Pairwise.nil,fun p hp=>by cases hp⟩
 | y :: r, w, h => by
  unfold quo at h
  split at h
  ·cases h
  ·rename_i hno
   obtain⟨h1,h2⟩:=quo_rise r y.1 h
   refine⟨List.pairwise_cons.2 ⟨fun b hb=>h2 b hb,h1⟩,fun p hp=>?_⟩
   rcases List.mem_cons.1 hp with e|e
   ·rw[e];omega
   ·have:=h2 p e;omega
theorem may_rise{m:Msg}(h:m.may=true):m.body.q.Pairwise (fun a b=>a.1<b.1):=by
 obtain⟨h1,h2,h3⟩:=Bod.may_spec (Msg.may_body h);have hq:=Bod.eqB_q h1;by_cases h4:m.body.kind.toNat=4
 ·rw[h4]at h3;have h3:(decide (1≤m.body.view)&&(quo 0 m.body.q&&decide (0<m.body.q.length)))=true:=h3;simp only[Bool.and_eq_true]at h3
  exact(quo_rise _ 0 h3.2.1).1
 ·rw[own_q h4]at hq;rw[←hq];exact List.Pairwise.nil
structure PStep(p p':PM):Prop where
 g:p.g≤p'.g
 low:∀x∈p'.all,x.1<p.g→x∈p.all
 up:∀v k,PM.voted p.all v=some k→∃k',k≤k'∧PM.voted p'.all v=some k'
theorem PStep.refl(p:PM):PStep p p:=⟨Int.le_refl _,fun _ h _=>h,fun _ k h=>⟨k,Int.le_refl _,h⟩⟩
theorem PStep.change(p:PM)(v:Int):PStep p (p.change v):=
 ⟨PM.change_g p v,fun x hx _=>by rw[(PM.change_all p v).1]at hx;exact hx,fun u k h=>⟨k,Int.le_refl _,by rw[(PM.change_all p v).1];exact h⟩⟩
variable {p:PM}
theorem PStep.enter{k:Int}(h:p.enterOk v k=true):PStep p (p.enter v k):=by
 have h2:=(PM.enterOk_lt h).2;refine⟨PM.enter_gg p v k,fun x hx hlt=>?_,fun u j hj=>⟨j,Int.le_refl _,by rw[(PM.enter_all h).1];exact voted_app _ _ _ _ hj⟩⟩
 rw[(PM.enter_all h).1]at hx;rcases List.mem_append.1 hx with hx|hx
 ·exact hx
 ·rw[List.mem_singleton.1 hx]at hlt;have hlt:v<p.g:=hlt;omega
theorem PM.bump_all2(p:PM):({p with ln:=p.ln+1}:PM).all=p.init++[(p.lv,p.ln+1)]:=rfl
theorem voted_bump(l:List (Int×Int))(v a b u k:Int)(hab:a≤b)(h:PM.voted (l++[(v,a)]) u=some k):∃k',k≤k'∧PM.voted (l++[(v,b)]) u=some k':=by
 induction l with
 | nil =>
  have h:(if u=v then some a else none)=some k:=h;show∃k',k≤k'∧(if u=v then some b else none)=some k'
  by_cases e:u=v
  ·rw[if_pos e]at h⊢;cases h;exact⟨b,hab,rfl⟩
  ·rw[if_neg e]at h;cases h
 | cons y r ih =>
  obtain⟨w,n⟩:=y;have h:(if u=w then some n else PM.voted (r++[(v,a)]) u)=some k:=h;show∃k',k≤k'∧(if u=w then some n else PM.voted (r++[(v,b)]) u)=some k'
  by_cases e:u=w
  ·rw[if_pos e]at h⊢;exact⟨k,Int.le_refl _,h⟩
  ·rw[if_neg e]at h⊢;exact ih h
theorem PStep.bump(h:p.isOpen v=true):PStep p {p with ln:=p.ln+1}:=by
 have hg:=PM.open_g h;refine⟨Int.le_refl _,fun x hx hlt=>?_,fun u k hk=>voted_bump p.init p.lv p.ln (p.ln+1) u k jA hk⟩
 rw[PM.bump_all2]at hx;rcases List.mem_append.1 hx with hx|hx
 ·exact List.mem_append_left _ hx
 ·rw[List.mem_singleton.1 hx]at hlt;have hlt:p.lv<p.g:=hlt;omega
theorem eff_all{m:Msg}{e:Eff}(h:l.eff m=some e):(e= .no)∨
  (e= .chg ((l.past (orgI m)).change m.body.view) (m.body.view,m.number))∨
  (primZ l.n m.body.view=m.origin∧m.body.q.length=(l.n-1) / 2+1∧l.qAll m=true∧(l.past (orgI m)).enterOk m.body.view (l.best m).2=true∧e= .beg ((l.past (orgI m)).enter m.body.view (l.best m).2) ⟨m.body.view,m.number,l.pref (l.best m),[]⟩)∨
  (∃w,l.vw m.body.view=some w∧(l.past (orgI m)).enterOk m.body.view (w.s.length:Nat)=true∧e= .past ((l.past (orgI m)).enter m.body.view (w.s.length:Nat)))∨
  ((l.past (orgI m)).isOpen m.body.view=true∧primZ l.n m.body.view=m.origin∧e= .prep {l.past (orgI m)with ln:=(l.past (orgI m)).ln+1} m.body.view (m.number,m.body.req))∨
  ((l.past (orgI m)).isOpen m.body.view=true∧primZ l.n m.body.view≠m.origin∧e= .past {l.past (orgI m)with ln:=(l.past (orgI m)).ln+1}):=by
 unfold Lgs.eff at h;split at h
 ·split at h
  ·cases h
   exact .inr (.inl rfl)
  ·cases h
 ·split at h
  ·split at h
   ·rename_i hc
    cases h
    exact .inr (.inr (.inl ⟨hc.1,hc.2.1,hc.2.2.1,hc.2.2.2,rfl⟩))
   ·cases h
  ·split at h
   ·split at h
    ·cases h
    ·split at h
     ·rename_i w hw hc
      cases h
      exact .inr (.inr (.inr (.inl ⟨w,hw,hc.2,rfl⟩)))
     ·cases h
   ·split at h
    ·split at h
     ·cases h
     ·split at h
      ·rename_i hc
       cases h
       refine .inr (.inr (.inr (.inr (.inl ⟨hc.2.2.2,hc.1,?_⟩))));unfold PM.prepare;rw[if_pos hc.2.2.2]
      ·cases h
    ·split at h
     ·split at h
      ·cases h
      ·split at h
       ·rename_i hc
        cases h
        have hok:=of_decide_eq_true (show decide _=true from hc.2);refine .inr (.inr (.inr (.inr (.inr ⟨decide_eq_true hok.1,hc.1,?_⟩))))
        unfold PM.commit;rw[if_pos hc.2]
       ·cases h
     ·exact qdI
structure Quo(n:Nat)(Q:List Nat):Prop where
 nd:Q.Nodup
 len:Q.length=(n-1) / 2+1
 lt:∀r∈Q,r<n
structure SV(l:Lgs)(w:Vw)(w0:Vw)(Q:List Nat)(k:Nat):Prop where
 q:Quo l.n Q
 m:w0∈l.vs
 lt:w0.v<w.v
 s:w.s=w0.all.take k
 le:k≤w0.all.length
 ge:w0.s.length≤k
 gr:∀r∈Q,w.v≤(l.past r).g
 mo:∀r∈Q,∀x∈(l.past r).all,x.1<w.v→LexLe x (w0.v,(k:Int))
structure SI(l:Lgs):Prop where
 vw:∀w∈l.vs,w.v≠0→∃w0 Q k,SV l w w0 Q k
 z:∀w∈l.vs,w.v=0→w.s=[]
 lo:∀r,r<l.n→∀x∈(l.past r).all,∀w∈l.vs,w.v=x.1→(w.s.length:Int)≤x.2
theorem SI.new(n:Nat):SI (Lgs.new n):=by
 refine⟨fun w hw h0=>?_,fun w hw _=>?_,fun r _ x hx w hw _=>?_⟩
 ·rw[List.mem_singleton.1 hw]at h0;exact absurd rfl h0
 ·rw[List.mem_singleton.1 hw]
 ·rw[List.mem_singleton.1 hw,List.mem_singleton.1 hx];exact Int.le_refl _
variable {w w':Vw} {Q:List Nat}
theorem SV.mono{w0 w0':Vw}{k:Nat}(h:SV l w w0 Q k)(hn:l2.n=l.n)(hwv:w'.v=w.v)(hws:w'.s=w.s)(h0m:w0'∈l2.vs)(h0v:w0'.v=w0.v)(h0s:w0'.s=w0.s)(h0a:w0.all<+: w0'.all)(hp:∀r,PStep (l.past r) (l2.past r)):SV l2 w' w0' Q k:=by
 obtain⟨t,ht⟩:=h0a;refine⟨by rw[hn];exact h.q,h0m,by rw[h0v,hwv];exact h.lt,?_,?_,by rw[h0s];exact h.ge,fun r hr=>by rw[hwv];exact Int.le_trans (h.gr r hr) (hp r).g,fun r hr x hx hlt=>?_⟩
 ·rw[hws,h.s,←ht,List.take_append_of_le_length h.le]
 ·rw[←ht,lnA];have:=h.le;omega
 ·rw[hwv]at hlt;rw[h0v];exact h.mo r hr x ((hp r).low x hx (by have:=h.gr r hr;omega)) hlt
variable {o:Nat}
theorem updF_step{past:Nat→PM}(h:PStep (past o) p)(r:Nat):PStep (past r) (updF past o p r):=by
 by_cases e:r=o
 ·subst e;rw[zae];exact h
 ·rw[zag _ _ e];exact PStep.refl _
theorem past_step(h:LI l T)(m:Msg):∀r,PStep (l.past r) ((l.counts m).2.past r):=by
 rw[zca h.rise]
 cases he:l.eff m with
 |none=>exact fun r=>PStep.refl _
 | some e =>
  rcases eff_all he with rfl|rfl|⟨_,_,_,hok,rfl⟩|⟨w,_,hok,rfl⟩|⟨hok,_,rfl⟩|⟨hok,_,rfl⟩
  ·exact fun r=>PStep.refl _
  ·exact updF_step (PStep.change _ _)
  ·exact updF_step (PStep.enter hok)
  ·exact updF_step (PStep.enter hok)
  ·exact updF_step (PStep.bump hok)
  ·exact updF_step (PStep.bump hok)
theorem SI.past{l:Lgs}{T:Nat}(hL:LI l T)(h:SI l){o:Nat}{p:PM}{ch:Nat→List (Int×Int)}(hp:PStep (l.past o) p)(hlo:∀x∈p.all,∀w∈l.vs,w.v=x.1→(w.s.length:Int)≤x.2):SI {l with past:=updF l.past o p,ch:=ch}:=by
 refine⟨fun w hw h0=>?_,h.z,fun r hr x hx w hw e=>?_⟩
 ·obtain⟨w0,Q,k,hs⟩:=h.vw w hw h0;exact⟨w0,Q,k,hs.mono rfl rfl rfl hs.m rfl rfl (List.prefix_refl _) (updF_step hp)⟩
 ·have hx:x∈(updF l.past o p r).all:=hx;by_cases er:r=o
  ·subst er;rw[zae]at hx;exact hlo x hx w hw e
  ·rw[zag _ _ er]at hx;exact h.lo r hr x hx w hw e
theorem bump_lo(h:SI l)(ho:o<l.n):∀x∈({l.past o with ln:=(l.past o).ln+1}:PM).all,∀w∈l.vs,w.v=x.1→(w.s.length:Int)≤x.2:=by
 intro x hx w hw e;rw[PM.bump_all2]at hx;rcases List.mem_append.1 hx with hx|hx
 ·exact h.lo o ho x (List.mem_append_left _ hx) w hw e
 ·rw[List.mem_singleton.1 hx]at e⊢
  have:=h.lo o ho ((l.past o).lv,(l.past o).ln) (List.mem_append_right _ (List.mem_singleton.2 rfl)) w hw e;have:(w.s.length:Int)≤(l.past o).ln:=this
  show(w.s.length:Int)≤(l.past o).ln+1;omega
theorem SI.counts{l:Lgs}{T:Nat}(hL:LI l T)(hC:CI l)(h:SI l){m:Msg}(hm:MIn l.n m)(hq:m.body.q.Pairwise (fun a b=>a.1<b.1)):SI (l.counts m).2:=by
 have hor:=hm.o;have ho:orgI m<l.n:=by unfold orgI;omega
 have hr2:=(hL.counts hm).rise;rw[zca hL.rise]at hr2⊢
 cases he:l.eff m with
 |none=>exact h
 | some e =>
  rw[he]at hr2;have hr2:((l.app (orgI m) e).vs.map Vw.v).Pairwise (· < ·):=hr2;show SI (l.app (orgI m) e)
  rcases eff_all he with rfl|rfl|⟨hpr,hlen,hqa,hok,rfl⟩|⟨w,hw,hok,rfl⟩|⟨hok,hpr,rfl⟩|⟨hok,_,rfl⟩
  ·exact h
  ·exact h.past hL (PStep.change _ _) fun x hx=>by rw[(PM.change_all _ _).1]at hx;exact h.lo _ ho x hx
  ·obtain⟨i,w0,hb1,hb2,hb3,hb4⟩:=hL.best hm;have hb0:l.best m=bestQ l.past m.body.view m.body.q (0,0):=rfl;rw[←hb0]at hb1 hb3 hb4
   have hw0:=List.mem_of_getElem? hb2
   have hw0v:w0.v=(l.best m).1:=by
    obtain⟨⟨x,e1,e2⟩,_⟩:=zaq.1 hb1;rw[hb2]at e1;cases e1;exact e2
   have hvw0:l.vw (l.best m).1=some w0:=by unfold Lgs.vw;rw[hb1];exact hb2
   have hpref:l.pref (l.best m)=w0.all.take (l.best m).2.toNat:=by unfold Lgs.pref;rw[hvw0];rfl
   have hnew:l.vw m.body.view=none:=by
    have hpi:=prim_org hpr;exact vw_none.2 (hL.fresh (k:=(l.best m).2) (by rw[hpi];exact ho) (by rw[hpi];exact hok))
   have hlv0:=(hL.wf _ ho).last;have hlt:=PM.enterOk_lt hok
   have hbv:(l.best m).1<m.body.view:=bestQ_lt _ _ (by show(0:Int)<_;omega);obtain⟨_,hge⟩:=bestQ_ge l.past m.body.view m.body.q (0,0)
   rw[←hb0]at hge
   have hqr:∀p∈m.body.q,(p.1-1).toNat<l.n∧m.body.view≤(l.past (p.1-1).toNat).g:=fun p hp=>by
    have h1:=hm.q p hp;refine⟨by omega,?_⟩
    unfold Lgs.qAll at hqa;have h2:=List.all_eq_true.1 hqa p hp;rw[Bool.and_eq_true]at h2
    obtain⟨c,hc,h4⟩:=List.any_eq_true.1 h2.2;rw[Bool.and_eq_true]at h4;have h5:=hC _ c hc;rw[of_decide_eq_true h4.1]at h5
    exact h5
   have hw0s:(w0.s.length:Int)≤(l.best m).2:=by
    rcases bestQ_mem l.past m.body.view m.body.q (0,0)with e|⟨p,hp,hx⟩
    ·rw[←hb0]at e;rw[e]at hw0v⊢;rw[h.z w0 hw0 hw0v];exact Int.le_refl _
    ·rw[←hb0]at hx;exact h.lo _ (hqr p hp).1 _ hx w0 hw0 hw0v
   have hstep:∀r,PStep (l.past r) (updF l.past (orgI m) ((l.past (orgI m)).enter m.body.view (l.best m).2) r):=updF_step (PStep.enter hok)
   have hmem:∀ {x:Vw},x∈insV ⟨m.body.view,m.number,l.pref (l.best m),[]⟩ l.vs→x=⟨m.body.view,m.number,l.pref (l.best m),[]⟩∨x∈l.vs:=fun hx=>by
    rcases List.mem_cons.1 ((zbk _ _).mem_iff.2 hx)with e|e
    ·exact .inl e
    ·exact .inr e
   have hkeep:∀ {x:Vw},x∈l.vs→x∈insV ⟨m.body.view,m.number,l.pref (l.best m),[]⟩ l.vs:=fun hx=>(zbk _ _).mem_iff.1 (List.mem_cons_of_mem _ hx);refine⟨fun w hw h0=>?_,fun w hw h0=>?_,fun r hr x hx w hw e=>?_⟩
   ·rcases hmem hw with rfl|hw
    ·refine⟨w0,m.body.q.map fun p=>(p.1-1).toNat,(l.best m).2.toNat,⟨⟨?_,?_,?_⟩,hkeep hw0,by rw[hw0v];exact hbv,hpref,by omega,by omega,fun r hr=>?_,fun r hr x hx hxl=>?_⟩⟩
     ·refine List.pairwise_map.2 (List.Pairwise.imp_of_mem ?_ hq);intro a b ha hb hab e;have h1:=hm.q a ha;have h2:=hm.q b hb
      have e:(a.1-1).toNat=(b.1-1).toNat:=e;omega
     ·rw[List.length_map];exact hlen
     ·intro r hr;obtain⟨p,hp,rfl⟩:=List.mem_map.1 hr;exact(hqr p hp).1
     ·obtain⟨p,hp,rfl⟩:=List.mem_map.1 hr;exact Int.le_trans (hqr p hp).2 (hstep _).g
     ·obtain⟨p,hp,rfl⟩:=List.mem_map.1 hr;have h1:=(hstep _).low x hx (by have h2:=(hqr p hp).2;have hxl:x.1<m.body.view:=hxl;omega);have h2:=hge p hp x h1 hxl
      rw[hw0v,show(((l.best m).2.toNat:Nat):Int)=(l.best m).2 by omega];exact h2
    ·obtain⟨w1,Q,k,hs⟩:=h.vw w hw h0;exact⟨w1,Q,k,hs.mono rfl rfl rfl (hkeep hs.m) rfl rfl (List.prefix_refl _) hstep⟩
   ·rcases hmem hw with rfl|hw
    ·have h0:m.body.view=0:=h0;omega
    ·exact h.z w hw h0
   ·have hx:x∈(updF l.past (orgI m) ((l.past (orgI m)).enter m.body.view (l.best m).2) r).all:=hx
    have hold:∀r,r<l.n→x∈(l.past r).all→(w.s.length:Int)≤x.2:=fun r hr hx=>by
     rcases hmem hw with rfl|hw
     ·obtain⟨y,hy,hy1,_⟩:=hL.log r hr x hx;exact absurd (hy1.trans e.symm) (vw_no hnew y hy)
     ·exact h.lo r hr x hx w hw e
    by_cases er:r=orgI m
    ·subst er;rw[zae,(PM.enter_all hok).1]at hx;rcases List.mem_append.1 hx with hx|hx
     ·exact hold _ ho hx
     ·rw[List.mem_singleton.1 hx]at e⊢;rcases hmem hw with rfl|hw
      ·show((l.pref (l.best m)).length:Int)≤(l.best m).2;rw[hpref,List.length_take];omega
      ·exact absurd e (vw_no hnew w hw)
    ·rw[zag _ _ er]at hx;exact hold r hr hx
  ·refine h.past hL (PStep.enter hok) fun x hx w' hw' e=>?_;rw[(PM.enter_all hok).1]at hx;rcases List.mem_append.1 hx with hx|hx
   ·exact h.lo _ ho x hx w' hw' e
   ·rw[List.mem_singleton.1 hx]at e⊢;obtain⟨h1,h2⟩:=vw_v hw;rw[Vw.uniq hL.rise hw' h2 (e.trans h1.symm)];exact Int.le_refl _
  ·have hstep:∀r,PStep (l.past r) (updF l.past (orgI m) {l.past (orgI m)with ln:=(l.past (orgI m)).ln+1} r):=updF_step (PStep.bump hok);have hps:∀x:Vw,(putV m.body.view (m.number,m.body.req) x).s=x.s:=fun x=>by unfold putV;split<;>rfl
   have hpa:∀x:Vw,x.all<+: (putV m.body.view (m.number,m.body.req) x).all:=fun x=>by
    unfold putV;split
    ·show x.s++x.p.map Prod.snd<+: x.s++(x.p++[_]).map Prod.snd;exact qdt
    ·exact List.prefix_refl _
   refine⟨fun w hw h0=>?_,fun w hw h0=>?_,fun r hr x hx w hw e=>?_⟩
   ·obtain⟨y,hy,rfl⟩:=List.mem_map.1 (show w∈l.vs.map (putV _ _)from hw);rw[putV_v]at h0;obtain⟨w1,Q,k,hs⟩:=h.vw y hy h0;exact⟨putV m.body.view (m.number,m.body.req) w1,Q,k,hs.mono rfl (putV_v _ _ _) (hps y) (List.mem_map.2 ⟨w1,hs.m,rfl⟩) (putV_v _ _ _) (hps w1) (hpa w1) hstep⟩
   ·obtain⟨y,hy,rfl⟩:=List.mem_map.1 (show w∈l.vs.map (putV _ _)from hw);rw[putV_v]at h0;rw[hps];exact h.z y hy h0
   ·obtain⟨y,hy,rfl⟩:=List.mem_map.1 (show w∈l.vs.map (putV _ _)from hw);rw[putV_v]at e;rw[hps];have hx:x∈(updF l.past (orgI m) {l.past (orgI m)with ln:=(l.past (orgI m)).ln+1} r).all:=hx;by_cases er:r=orgI m
    ·subst er;rw[zae]at hx;exact bump_lo h ho x hx y hy e
    ·rw[zag _ _ er]at hx;exact h.lo r hr x hx y hy e
  ·exact h.past hL (PStep.bump hok) (bump_lo h ho)
structure DS(l:Lgs):Prop where
 li:∃T,LI l T
 ci:CI l
 si:SI l
theorem SI.known(h:SI l)(k:Nat→Int):SI {l with known:=k}:=
 ⟨fun w hw h0=>by obtain⟨w0,Q,j,hs⟩:=h.vw w hw h0;exact⟨w0,Q,j,⟨hs.q,hs.m,hs.lt,hs.s,hs.le,hs.ge,hs.gr,hs.mo⟩⟩,h.z,h.lo⟩
theorem DS.new{n:Nat}(h3:3≤n)(h11:n≤11):DS (Lgs.new n):=⟨⟨0,LI.new h3 h11⟩,CI.new n,SI.new n⟩
theorem DS.take{l:Lgs}(h:DS l){m:Msg}(hm:Rdy l m):DS (l.take m).2:=by
 obtain⟨T,hL⟩:=h.li;have h1:=SI.counts hL h.ci h.si hm.min (may_rise hm.may);have h2:=CI.counts h.ci hL.rise m
 refine⟨⟨T+1,hL.take hm.v⟩,?_,?_⟩
 ·rw[hm.take];exact h2
 ·rw[hm.take];exact h1.known _
theorem DS.run:∀ {a:List Msg} {L:Lgs},DS L→RunF L a→DS (stF L a)
 | [],_,h,_=>h
 |m::a,L,h,hr=>DS.run (a:=a) (L:=(L.take m).2) (h.take hr.1) hr.2
def vot(l:Lgs)(r:Nat)(v:Int):Int:=(PM.voted (l.past r).all v).getD 0
def cntV(l:Lgs)(v:Int)(j:Nat):Nat:=((List.range l.n).filter fun r=>decide ((j:Int)≤vot l r v)).length
theorem filt_sum{α:Type}(p:α→Bool):∀l:List α,(l.filter p).length+(l.filter fun x=>!p x).length=l.length
 | []=>rfl
 | a :: l => by
  have ih:=filt_sum p l
  by_cases h:p a=true
  ·rw[List.filter_cons_of_pos h,List.filter_cons_of_neg jO,List.length_cons,List.length_cons];omega
  ·rw[List.filter_cons_of_neg h,List.filter_cons_of_pos (by cases e:p a with|true=>exact absurd e h|false=>rfl),List.length_cons,List.length_cons];omega
theorem nodup_le{α:Type}[DecidableEq α]:∀ {s l:List α},s.Nodup→(∀k∈s,k∈l)→s.length≤l.length
 | [],_,_,_=>Nat.zero_le _
 | k :: s, l, hn, hs => by
  rw[List.nodup_cons]at hn
  obtain⟨a,b,rfl⟩:=List.append_of_mem (hs k jK)
  have:=nodup_le (l:=a++b) hn.2 fun j hj=>by
   have h1:=hs j (List.mem_cons_of_mem _ hj)
   rw[List.mem_append,List.mem_cons]at h1
   rw[List.mem_append]
   rcases h1 with h1|h1|h1
   ·exact .inl h1
   ·exact absurd (h1▸hj) hn.1
   ·exact .inr h1
  rw[lnA]at this
  rw[lnA,List.length_cons,List.length_cons]
  omega
theorem quo_meet(h:Quo n Q){p:Nat→Bool}(hp:(n-1) / 2<((List.range n).filter p).length)(hn:n % 2=1):∃r∈Q,p r=true:=by
 by_cases he:∃r∈Q,p r=true
 ·exact he
 ·exfalso
  have hsub:∀r∈Q,r∈(List.range n).filter fun x=>!p x:=fun r hr=>by
   rw[List.mem_filter];refine⟨List.mem_range.2 (h.lt r hr),?_⟩
   cases e:p r with
   |false=>rfl
   |true=>exact absurd ⟨r,hr,e⟩ he
  have h1:=nodup_le h.nd hsub;have h2:=filt_sum p (List.range n)
  rw[List.length_range]at h2;have h3:=h.len;omega
variable {r j:Nat}
theorem vot_pos(hj:0<j)(h:(j:Int)≤vot l r v):∃k,(v,k)∈(l.past r).all∧(j:Int)≤k:=by
 unfold vot at h
 cases e:PM.voted (l.past r).all v with
 |none=>rw[e]at h;have h:(j:Int)≤0:=h;omega
 |some k=>rw[e]at h;exact⟨k,voted_mem _ _ _ e,h⟩
theorem later{l:Lgs}{T:Nat}(hL:LI l T)(hS:SI l)(hn:l.n % 2=1){w:Vw}(hw:w∈l.vs){j:Nat}(hj:0<j)(hc:(l.n-1) / 2<cntV l w.v j):∀(N:Nat) (w':Vw),w'∈l.vs→w.v<w'.v→w'.v≤w.v+N→j≤w'.s.length∧w'.s.take j=w.all.take j
 |0,w',_,h1,h2=>by omega
 | N + 1, w', hw', h1, h2 => by
  have hwz:0≤w.v:=by
   by_cases h0:w.v=0
   ·omega
   ·obtain⟨p,hp,e⟩:=hL.begun w hw h0
    have:=(hL.wf _ (primI_lt (by have:=hL.n3;omega) w.v)).low p hp;omega
  obtain⟨w0,Q,k,hs⟩:=hS.vw w' hw' jA
  obtain⟨r,hr,hv⟩:=quo_meet hs.q hc hn
  obtain⟨x,hx,hjx⟩:=vot_pos hj (of_decide_eq_true hv)
  have hm:=hs.mo r hr _ hx h1
  have hle:=hs.le
  have hge:=hs.ge
  rcases hm with hlt|⟨heq,hk⟩
  ·have hlt:w.v<w0.v:=hlt
   obtain⟨i1,i2⟩:=later hL hS hn hw hj hc N w0 hs.m hlt (by have:=hs.lt;omega)
   rw[hs.s]
   refine⟨by rw[List.length_take];omega,?_⟩
   rw[List.take_take,show min j k=j by omega]
   show(w0.s++w0.p.map Prod.snd).take j=_
   rw[List.take_append_of_le_length i1,i2]
  ·have heq:w.v=w0.v:=heq
   have hk:x≤(k:Int):=hk
   have e:=Vw.uniq hL.rise hw hs.m heq
   subst e
   rw[hs.s]
   refine⟨by rw[List.length_take];omega,?_⟩
   rw[List.take_take,show min j k=j by omega]
theorem later_all(hL:LI l T)(hS:SI l)(hn:l.n % 2=1)(hw:w∈l.vs)(hw':w'∈l.vs)(hlt:w.v<w'.v)(hc:(l.n-1) / 2<cntV l w.v j):j≤w'.all.length∧w'.all.take j=w.all.take j:=by
 by_cases hj:0<j
 ·obtain⟨h1,h2⟩:=later hL hS hn hw hj hc (w'.v-w.v).toNat w' hw' hlt jA;refine⟨by rw[Vw.all_len];omega,?_⟩;show(w'.s++w'.p.map Prod.snd).take j=_;rw[List.take_append_of_le_length h1,h2]
 ·have e:j=0:=jA
  subst e;exact⟨Nat.zero_le _,by rw[List.take_zero,List.take_zero]⟩
theorem zbo(n:Nat):∀(l:List Msg) (L:Lgs),stF L l=l.foldl (fun L m=>(L.take m).2) L
 | [],_=>rfl
 |m::l,L=>zbo n l _
theorem world_rdy{all:List Msg}(hW:WOK n all)(hv:∀m∈all,0≤m.body.view){i:Nat}{m:Msg}(hm:all[i]?=some m):Rdy (lgsOf n (all.take i)) m:=by
 have hi:=(List.getElem?_eq_some_iff.1 hm).1;have h:=hW i m hm
 have hf:=h.fits;unfold fitsB at hf
 simp only[Bool.and_eq_true]at hf;obtain⟨h1,h2,h3,_⟩:=hf;have hk:=lgsOf_known hW i jA;refine⟨h1,by rw[lgsOf_n];exact of_decide_eq_true h2,by rw[lgsOf_n];exact h3,hv m (List.mem_of_getElem? hm),?_,fun k hk2=>?_⟩
 ·rw[hk,h.num];show((cnt _ (orgI m)+1:Nat):Int)=((cnt _ (orgI m):Nat):Int)+1;omega
 ·rw[hk];exact(h.dep k hk2).2
theorem world_run{n:Nat}{all:List Msg}(hW:WOK n all)(hv:∀m∈all,0≤m.body.view):∀i,i≤all.length→RunF (Lgs.new n) (all.take i)
 |0,_=>by rw[List.take_zero];exact trivial
 | i + 1, hi => by
  obtain⟨m,hm⟩:∃m,all[i]?=some m:=⟨_,lgE jA⟩
  rw[zax hm]
  refine RunF.app.2 ⟨world_run hW hv i jA,?_,trivial⟩
  rw[zbo n]
  exact world_rdy hW hv hm
def sub(k:Nat→Int)(all:List Msg):List Msg:=all.filter fun m=>decide (m.number≤k (orgI m))
theorem zbp{k:Nat→Int}{l:List Msg}{m:Msg}:m∈sub k l↔m∈l∧m.number≤k (orgI m):=by unfold sub;rw[List.mem_filter,decide_eq_true_eq]
theorem sub_yes{k:Nat→Int}{l:List Msg}{m:Msg}(h:m.number≤k (orgI m)):sub k (l++[m])=sub k l++[m]:=by
 unfold sub;rw[List.filter_append];congr 1;simp[h]
theorem sub_no{k:Nat→Int}{l:List Msg}{m:Msg}(h:¬m.number≤k (orgI m)):sub k (l++[m])=sub k l:=by
 unfold sub;rw[List.filter_append];simp[h]
theorem cnt_sub{k:Nat→Int}(h0:∀i,0≤k i)(l:List Msg):WOK n l→∀i,((cnt (sub k l) i:Nat):Int)=minU k l i:=by
 refine snocInd (p:=fun l=>WOK n l→∀i,((cnt (sub k l) i:Nat):Int)=minU k l i) (fun _ i=>?_) (fun l m ih hW i=>?_) l
 ·rw[minU_nil h0];rfl
 ·have hm:=WOK.at (post:=[]) hW;have hl:WOK n l:=by have:=hW.take l.length;rwa [List.take_left]at this
  have ih:=ih hl i;have hnum:=hm.num
  have hc:=cnt_snoc l m i;by_cases hk:m.number≤k (orgI m)
  ·rw[sub_yes hk,cnt_snoc];unfold minU at ih⊢;rw[hc];by_cases e:i=orgI m
   ·subst e;rw[if_pos rfl];split at ih<;>split<;>omega
   ·rw[if_neg e];exact ih
  ·rw[sub_no hk,ih];unfold minU;rw[hc];by_cases e:i=orgI m
   ·subst e;rw[if_pos rfl];split<;>split<;>omega
   ·rw[if_neg e];rfl
theorem WOK.sub{n:Nat}{k:Nat→Int}(h0:∀i,0≤k i)(l:List Msg):WOK n l→(∀x∈l,x.number≤k (orgI x)→∀i,i<11→x.deps i≤k i)→WOK n (sub k l):=by
 refine snocInd (p:=fun l=>WOK n l→(∀x∈l,x.number≤k (orgI x)→∀i,i<11→x.deps i≤k i)→WOK n (Go.Proofs.YtkaknokcbhiigaaGreatDoor.sub k l)) (fun h _=>h) (fun l m ih hW hc=>?_) l;have hm:=WOK.at (post:=[]) hW;have hl:WOK n l:=by have:=hW.take l.length;rwa [List.take_left]at this
 have ih:=ih hl fun x hx=>hc x (List.mem_append_left _ hx);by_cases hk:m.number≤k (orgI m)
 ·rw[sub_yes hk];refine ih.snoc ⟨hm.org,hm.fits,hm.right,?_,fun i hi=>?_,fun x hx=>hm.mono x (zbp.1 hx).1⟩
  ·have h1:=cnt_sub (n:=n) h0 l hl (orgI m);have h2:=hm.num
   unfold minU at h1;split at h1<;>omega
  ·have h1:=cnt_sub (n:=n) h0 l hl i;have h2:=hm.dep i hi
   have h3:=hc m jK hk i hi;unfold minU at h1
   split at h1<;>omega
 ·rw[sub_no hk];exact ih
def cmtF(l:Lgs)(v:Int):Nat→Nat
 |0=>0
 |j+1=>if(l.n-1) / 2<cntV l v (j+1)then j+1 else cmtF l v j
def cmt(l:Lgs)(v:Int):Nat:=match l.vw v with
 |none=>0
 |some w=>cmtF l v w.all.length
theorem cmtF_le(l:Lgs)(v:Int):∀N,cmtF l v N≤N
 |0=>Nat.le_refl _
 |N+1=>by unfold cmtF;split;exact Nat.le_refl _;exact Nat.le_succ_of_le (cmtF_le l v N)
theorem cmtF_ok(l:Lgs)(v:Int):∀N,0<cmtF l v N→(l.n-1) / 2<cntV l v (cmtF l v N)
 |0,h=>by unfold cmtF at h;omega
 | N + 1, h => by
  unfold cmtF at h⊢
  split
  ·rename_i e;exact e
  ·rename_i e;rw[if_neg e]at h;exact cmtF_ok l v N h
theorem cmtF_max(l:Lgs)(v:Int):∀N j,j≤N→(l.n-1) / 2<cntV l v j→j≤cmtF l v N
 |0,j,h,_=>by omega
 | N + 1, j, h, hc => by
  unfold cmtF
  split
  ·exact h
  ·rename_i e
   by_cases ej:j=N+1
   ·subst ej;exact absurd hc e
   ·exact cmtF_max l v N j jA hc
theorem cmt_at(h:l.vw v=some w):cmt l v=cmtF l v w.all.length:=by unfold cmt;rw[h]
theorem cmt_no(h:l.vw v=none):cmt l v=0:=by unfold cmt;rw[h]
theorem cmt_le(h:l.vw v=some w):cmt l v≤w.all.length:=by rw[cmt_at h];exact cmtF_le _ _ _
theorem cmt_le_len(l:Lgs)(v:Int):cmt l v≤(allO (l.vw v)).length:=by
 cases h:l.vw v with
 |none=>rw[cmt_no h];exact Nat.zero_le _
 |some w=>exact cmt_le h
theorem cmt_ok(h:0<cmt l v):(l.n-1) / 2<cntV l v (cmt l v):=by
 cases hv:l.vw v with
 |none=>rw[cmt_no hv]at h;omega
 |some w=>rw[cmt_at hv]at h⊢;exact cmtF_ok _ _ _ h
theorem cmt_max(h:l.vw v=some w)(hj:j≤w.all.length)(hc:(l.n-1) / 2<cntV l v j):j≤cmt l v:=by rw[cmt_at h];exact cmtF_max _ _ _ _ hj hc
def bestC(c:Int→Nat):List Int→Int×Nat→Int×Nat
 | [],a=>a
 |v::r,a=>bestC c r (if a.2<c v then(v,c v)else a)
theorem bestC_mem(c:Int→Nat):∀(vs:List Int) (a:Int×Nat),bestC c vs a=a∨((bestC c vs a).1∈vs∧(bestC c vs a).2=c (bestC c vs a).1)
 | [],a=>.inl rfl
 | v :: r, a => by
  unfold bestC
  rcases bestC_mem c r (if a.2<c v then(v,c v)else a)with h|⟨h1,h2⟩
  ·rw[h]
   split
   ·exact .inr ⟨by simp,rfl⟩
   ·exact .inl rfl
  ·exact .inr ⟨List.mem_cons_of_mem _ h1,h2⟩
theorem bestC_ge(c:Int→Nat):∀(vs:List Int) (a:Int×Nat),a.2≤(bestC c vs a).2∧∀v∈vs,c v≤(bestC c vs a).2
 | [],a=>⟨Nat.le_refl _,fun v h=>by cases h⟩
 | v :: r, a => by
  unfold bestC
  obtain⟨h1,h2⟩:=bestC_ge c r (if a.2<c v then(v,c v)else a)
  have h3:a.2≤(if a.2<c v then(v,c v)else a).2∧c v≤(if a.2<c v then(v,c v)else a).2:=by
   split
   ·rename_i e;exact⟨Nat.le_of_lt e,Nat.le_refl _⟩
   ·rename_i e;exact⟨Nat.le_refl _,Nat.le_of_not_lt e⟩
  refine⟨Nat.le_trans h3.1 h1,fun u hu=>?_⟩
  rcases List.mem_cons.1 hu with rfl|hu
  ·exact Nat.le_trans h3.2 h1
  ·exact h2 u hu
theorem bestC_snoc(c:Int→Nat)(v:Int):∀(vs:List Int) (a:Int×Nat),bestC c (vs++[v]) a=if(bestC c vs a).2<c v then(v,c v)else bestC c vs a
 | [],a=>rfl
 |u::r,a=>bestC_snoc c v r _
def decB(l:Lgs):Int×Nat:=bestC (cmt l) (viewsU l) (0,0)
def decL(l:Lgs):List Req:=(allO (l.vw (decB l).1)).take (decB l).2
theorem decB_eq(l:Lgs):(decB l).2=cmt l (decB l).1∨decB l=(0,0):=by
 rcases bestC_mem (cmt l) (viewsU l) (0,0)with h|⟨_,h⟩
 ·exact .inr h
 ·exact .inl h
theorem decB_le(l:Lgs):(decB l).2≤(allO (l.vw (decB l).1)).length:=by
 rcases decB_eq l with h|h
 ·rw[h];exact cmt_le_len _ _
 ·rw[h];exact Nat.zero_le _
theorem decL_len(l:Lgs):(decL l).length=(decB l).2:=by
 unfold decL;rw[List.length_take]
 have:=decB_le l;omega
theorem decB_ge(l:Lgs)(h:v∈viewsU l):cmt l v≤(decB l).2:=(bestC_ge (cmt l) (viewsU l) (0,0)).2 v h
theorem dec_has(h:DS l)(hn:l.n % 2=1)(hv:l.vw v=some w)(hj:j≤w.all.length)(hc:0<j→(l.n-1) / 2<cntV l v j):w.all.take j<+: decL l:=by
 by_cases h0:0<j
 ·obtain⟨T,hL⟩:=h.li;have hc:=hc h0;have hle:=cmt_max hv hj hc
  have hge:=decB_ge l (viewsU_mem.2 ⟨w,hv⟩);obtain⟨hwv,hwm⟩:=vw_v hv
  rcases decB_eq l with he|he
  ·have hpos:0<cmt l (decB l).1:=jA
   have hok:=cmt_ok hpos
   cases hv2:l.vw (decB l).1 with
   |none=>rw[cmt_no hv2]at hpos;omega
   | some w2 =>
    obtain⟨hwv2,hwm2⟩:=vw_v hv2;have hd:decL l=w2.all.take (decB l).2:=by unfold decL;rw[hv2];rfl
    have hle2:=cmt_le hv2
    have key:w2.all.take j=w.all.take j:=by
     rcases Int.lt_trichotomy w.v w2.v with hlt|heq|hgt
     ·exact(later_all hL h.si hn hwm hwm2 hlt (by rw[hwv];exact hc)).2
     ·rw[Vw.uniq hL.rise hwm hwm2 heq]
     ·have h3:=(later_all hL h.si hn hwm2 hwm hgt (j:=cmt l (decB l).1) (by rw[hwv2];exact hok)).2;have h4:=congrArg (List.take j) h3
      rw[List.take_take,List.take_take,show min j (cmt l (decB l).1)=j by omega]at h4;exact h4.symm
    rw[hd,←key,show j=min j (decB l).2 by omega,←List.take_take];exact List.take_prefix _ _
  ·rw[he]at hge;have:cmt l v≤0:=hge;omega
 ·have e:j=0:=jA
  subst e;rw[List.take_zero];exact List.nil_prefix
structure Mo(l l2:Lgs):Prop where
 n:l2.n=l.n
 vo:∀r v,vot l r v≤vot l2 r v
 vw:∀v w,l.vw v=some w→∃w2,l2.vw v=some w2∧w.all<+: w2.all
theorem Mo.refl(l:Lgs):Mo l l:=⟨rfl,fun _ _=>Int.le_refl _,fun _ w h=>⟨w,h,List.prefix_refl _⟩⟩
theorem Mo.trans{a b c:Lgs}(h:Mo a b)(h2:Mo b c):Mo a c:=
 ⟨h2.n.trans h.n, fun r v => Int.le_trans (h.vo r v) (h2.vo r v), fun v w hw => by
  obtain⟨x,h3,h4⟩:=h.vw v w hw
  obtain⟨y,h5,h6⟩:=h2.vw v x h3
  exact⟨y,h5,h4.trans h6⟩⟩
theorem cntV_mono(h:Mo l l2)(v:Int)(j:Nat):cntV l v j≤cntV l2 v j:=by
 unfold cntV;rw[h.n,←List.countP_eq_length_filter,←List.countP_eq_length_filter];exact List.countP_mono_left fun r _ hr=>decide_eq_true (Int.le_trans (of_decide_eq_true hr) (h.vo r v))
theorem dec_mono(h2:DS l2)(hn:l2.n % 2=1)(hM:Mo l l2):decL l<+: decL l2:=by
 rcases decB_eq l with he|he
 ·cases hv:l.vw (decB l).1 with
  | none =>
   have:decL l=[]:=by unfold decL;rw[hv];exact List.take_nil
   rw[this];exact List.nil_prefix
  | some w =>
   obtain⟨w2,h3,h4⟩:=hM.vw _ w hv;have hle:=cmt_le hv;have hd:decL l=w.all.take (decB l).2:=by unfold decL;rw[hv];rfl
   obtain⟨t,ht⟩:=h4;have e:w2.all.take (decB l).2=w.all.take (decB l).2:=by rw[←ht,List.take_append_of_le_length jA]
   rw[hd,←e];refine dec_has h2 hn h3 (by rw[←ht,lnA];omega) fun hpos=>?_;rw[he]at hpos⊢
   have:=cmt_ok hpos;have h5:=cntV_mono hM (decB l).1 (cmt l (decB l).1)
   rw[hM.n];omega
 ·have:decL l=[]:=by unfold decL;rw[he];exact List.take_zero
  rw[this];exact List.nil_prefix
theorem Mo.take{l:Lgs}{T:Nat}(hL:LI l T){m:Msg}(hm:Rdy l m):Mo l (l.take m).2:=by
 have hg:=Grow.counts hL hm.min;have hp:=past_step hL m
 rw[hm.take];refine⟨(l.counts_nk m).1,fun r v=>?_,fun v w hw=>?_⟩
 ·show(PM.voted (l.past r).all v).getD 0≤(PM.voted ((l.counts m).2.past r).all v).getD 0
  cases e:PM.voted (l.past r).all v with
  | some k =>
   obtain⟨k',h1,h2⟩:=(hp r).up v k e;rw[h2];exact h1
  | none =>
   cases e2:PM.voted ((l.counts m).2.past r).all v with
   |none=>exact Int.le_refl _
   | some k =>
    show(0:Int)≤k;by_cases hr:r<l.n
    ·have hw:=(hL.counts hm.min).wf r (by rw[(l.counts_nk m).1];exact hr);exact(hw.low _ (voted_mem _ _ _ e2)).2.2.1
    ·exfalso;have hor:=hm.min.o;have hne:r≠orgI m:=fun e=>hr (by rw[e];unfold orgI;omega)
     have h3:=(near hL hm.min).past r hne;rw[h3,e]at e2;cases e2
 ·obtain⟨w2,h1,h2⟩:=hg.vw v w hw;exact⟨w2,h1,h2⟩
theorem Mo.run:∀ {a:List Msg} {L:Lgs},(∃T,LI L T)→RunF L a→Mo L (stF L a)
 | [],L,_,_=>Mo.refl L
 |m::a,L,⟨T,hL⟩,hr=>(Mo.take hL hr.1).trans (Mo.run (a:=a) (L:=(L.take m).2) ⟨T+1,hL.take hr.1.v⟩ hr.2)
theorem DS.world{all:List Msg}(hW:WOK n all)(hv:∀m∈all,0≤m.body.view)(h3:3≤n)(h11:n≤11):DS (lgsOf n all):=by
 have hr:=world_run hW hv all.length (Nat.le_refl _);rw[List.take_length]at hr
 have:=DS.run (DS.new h3 h11) hr;rwa [zbo n]at this
theorem unk_run{n:Nat}{all:List Msg}(hW:WOK n all)(hv:∀m∈all,0≤m.body.view):∀(ms:List Msg) (u:Nat→Int) (L:Lgs),Knw all u→unk u all=ms→L.n=n→(∀i,L.known i=u i)→RunF L ms
 | [],_,_,_,_,_,_=>trivial
 | m :: rest, u, L, hk, hu, hn, hkn => by
  obtain⟨h1,_,h3,h4,h5⟩:=unk_first hW hk hu
  have hmem:m∈all:=by
   have:m∈unk u all:=by rw[hu];simp
   unfold unk at this;exact(List.mem_filter.1 this).1
  obtain⟨i,hi⟩:=List.getElem?_of_mem hmem
  have hok:=hW i m hi
  have hf:=hok.fits
  unfold fitsB at hf
  simp only[Bool.and_eq_true]at hf
  obtain⟨f1,f2,f3,_⟩:=hf
  have hks:=knownS_uptoS hk (orgI m)
  unfold knownS at hks
  have hnum:m.number=u (orgI m)+1:=by
   unfold chk at h1
   rw[if_neg (by rw[hok.fits];decide),if_neg (by rw[hok.right];decide)]at h1
   split at h1
   ·exact absurd h1 jC
   ·split at h1
    ·exact absurd h1 jC
    ·split at h1
     ·exact absurd h1 jC
     ·rename_i a b c
      have:¬(((uptoS all u (orgI m)).length+1:Nat):Int)<m.number:=fun e=>c (.inl e)
      omega
  have hrd:Rdy L m:=⟨f1,by rw[hn];exact of_decide_eq_true f2,by rw[hn];exact f3,hv m hmem,by rw[hkn];exact hnum,fun j hj=>by rw[hkn];exact h5 j hj⟩
  refine⟨hrd,unk_run hW hv rest (updF u (orgI m) (u (orgI m)+1)) (L.take m).2 h3 h4 (by rw[Lgs.take_n,hn]) fun j=>?_⟩
  rw[take_known hrd]
  by_cases e:j=orgI m
  ·rw[e,zae,zae,hkn]
  ·rw[zag _ _ e,zag _ _ e,hkn]
theorem sub_unk_perm(k:Nat→Int)(all:List Msg):(sub k all++unk k all).Perm all:=by
 have h:=List.filter_append_perm (fun m:Msg=>decide (m.number≤k (orgI m))) all
 have e:(all.filter fun m=>!decide (m.number≤k (orgI m)))=unk k all:=by
  unfold unk;refine List.filter_congr fun m _=>?_;by_cases h:m.number≤k (orgI m)
  ·exact qef
  ·rw[decide_eq_false h,decide_eq_true jA];rfl
 rw[e]at h;exact h
theorem sub_all{all:List Msg}{k:Nat→Int}(hW:WOK n all)(hk:Knw all k)(hv:∀m∈all,0≤m.body.view)(h3:3≤n)(h11:n≤11):DS (lgsOf n (sub k all))∧DS (lgsOf n all)∧Mo (lgsOf n (sub k all)) (lgsOf n all):=by
 have h0:∀i,0≤k i:=fun i=>(hk.le i).1;have hW1:WOK n (sub k all):=WOK.sub h0 all hW hk.closed
 have hv1:∀m∈sub k all,0≤m.body.view:=fun m hm=>hv m (zbp.1 hm).1;have hD1:=DS.world hW1 hv1 h3 h11
 have hD2:=DS.world hW hv h3 h11;have hr1:=world_run hW1 hv1 (sub k all).length (Nat.le_refl _)
 rw[List.take_length]at hr1
 have hkn:∀i,(lgsOf n (sub k all)).known i=k i:=fun i=>by
  exact qbL
 have hr2:=unk_run hW hv (unk k all) k (lgsOf n (sub k all)) hk rfl (lgsOf_n _ _) hkn
 have hr3:RunF (Lgs.new n) (sub k all++unk k all):=qdZ
 have hr4:=world_run hW hv all.length (Nat.le_refl _);rw[List.take_length]at hr4
 have hI:Inv (Lgs.new n):=⟨⟨0,LI.new h3 h11⟩,CI.new n⟩;have e:=(run_order hI hr3 hr4 (sub_unk_perm k all)).1
 rw[stF_app,zbo n (sub k all),zbo n all]at e;have hM:=Mo.run hD1.li hr2;refine⟨hD1,hD2,?_⟩
 have e:stF (lgsOf n (sub k all)) (unk k all)=lgsOf n all:=e;rw[e]at hM
 exact hM
theorem dec_sub{all:List Msg}{k:Nat→Int}(hW:WOK n all)(hk:Knw all k)(hv:∀m∈all,0≤m.body.view)(h3:3≤n)(h11:n≤11)(hodd:n % 2=1):decL (lgsOf n (sub k all))<+: decL (lgsOf n all):=by
 obtain⟨_,h2,h3⟩:=sub_all hW hk hv h3 h11;exact dec_mono h2 (by rw[lgsOf_n];exact hodd) h3
theorem pre_take{a b c:List α}(ha:a<+: c)(hb:b<+: c):a.take (min a.length b.length)=b.take (min a.length b.length):=by
 obtain⟨s,rfl⟩:=ha;obtain⟨t,ht⟩:=hb;have h1:(a++s).take (min a.length b.length)=a.take (min a.length b.length):=List.take_append_of_le_length (Nat.min_le_left _ _);have h2:(b++t).take (min a.length b.length)=b.take (min a.length b.length):=List.take_append_of_le_length (Nat.min_le_right _ _)
 rw[←h1,←h2,ht]
variable {ys:List Int}
theorem cntV_perm(hp:ys.Perm ((List.range l.n).map fun r=>vot l r v))(j:Nat):cntV l v j=ys.countP fun y=>decide ((j:Int)≤y):=by
 unfold cntV;rw[hp.countP_eq,List.countP_map,List.countP_eq_length_filter];rfl
theorem cmt_sort(hv:l.vw v=some w)(hodd:l.n % 2=1)(hnn:∀r,r<l.n→0≤vot l r v)(hp:ys.Perm ((List.range l.n).map fun r=>vot l r v))(hs:ys.Pairwise fun a b=>b≤a):∃x,ys[l.n / 2]?=some x∧0≤x∧(if x≤(w.all.length:Int)then x else(w.all.length:Int))=(cmt l v:Nat):=by
 have hl:ys.length=l.n:=by rw[hp.length_eq,List.length_map,List.length_range]
 have hlt:l.n / 2<ys.length:=jA
 refine⟨ys[l.n / 2],lgE hlt,?_,?_⟩
 ·exact qcd
 ·have hx0:0≤ys[l.n / 2]:=by
   exact qcd
  have hcut:ys=ys.take (l.n / 2)++ys[l.n / 2]::ys.drop (l.n / 2+1):=by
   rw[←List.drop_eq_getElem_cons hlt,List.take_append_drop]
  generalize ys[l.n / 2]=x at hcut hx0⊢;have hla:(ys.take (l.n / 2)).length=l.n / 2:=by rw[List.length_take];omega
  have hpw:=hs;rw[hcut]at hpw
  obtain⟨_,hpw2,hpw3⟩:=List.pairwise_append.1 hpw
  have key:∀j:Nat,((l.n-1) / 2<cntV l v j↔(j:Int)≤x):=fun j=>by
   rw[cntV_perm hp,hcut,List.countP_append,List.countP_cons];constructor
   ·intro h;by_cases hj:(j:Int)≤x
    ·exact hj
    ·exfalso
     have h1:(ys.drop (l.n / 2+1)).countP (fun y=>decide ((j:Int)≤y))=0:=by
      rw[List.countP_eq_zero];intro y hy
      have:=(List.pairwise_cons.1 hpw2).1 y hy;simp only[decide_eq_true_eq]
      omega
     have h2:=List.countP_le_length (p:=fun y=>decide ((j:Int)≤y)) (l:=ys.take (l.n / 2));rw[h1,decide_eq_false hj]at h
     simp only[Bool.false_eq_true,if_false]at h;omega
   ·intro hj
    have h1:(ys.take (l.n / 2)).countP (fun y=>decide ((j:Int)≤y))=(ys.take (l.n / 2)).length:=by
     rw[List.countP_eq_length];intro y hy
     have:=hpw3 y hy x jK;simp only[decide_eq_true_eq]
     omega
    rw[h1,decide_eq_true hj,hla,if_pos rfl];omega
  have h1:=cmtF_le l v w.all.length;have h2:=cmtF_ok l v w.all.length
  have h3:=cmtF_max l v w.all.length;rw[cmt_at hv]
  generalize cmtF l v w.all.length=c at h1 h2 h3⊢;have h4:0<c→(c:Int)≤x:=fun h=>(key c).1 (h2 h);have h5:=h3 (min x.toNat w.all.length) jA ((key _).2 jA)
  split<;>omega
theorem LI.vot0(h:LI l T)(hr:r<l.n)(v:Int):0≤vot l r v∧vot l r v≤(T:Int):=by
 unfold vot
 cases e:PM.voted (l.past r).all v with
 |none=>exact⟨Int.le_refl _,by show(0:Int)≤T;omega⟩
 |some k=>have:=(h.wf r hr).low _ (voted_mem _ _ _ e);exact⟨this.2.2.1,this.2.2.2⟩
section
variable (f:Frag) (F:List HP)
theorem dcfew_fn(hn3:3≤n∧n≤11)(hodd:n % 2=1):Fn prog 79 [.int .i64 (n:Int)] f F (Ret (.bool true) f F):=by
 refine Fn.e1 func79 ntmps79 fun base=>?_;refine gS ?_;refine H.rem (z:=1) rfl rfl rfl jC (zal (a:=n) (b:=2) hodd) rfl ?_;refine gY ?_;exact qaj
theorem committed_fn(hfl:Le fl f)(hL:LI l T)(hT:T≤50000)(hodd:l.n % 2=1)(v:Int):Fn prog 46 [.pointer (some ⟨lb,0,none⟩),.int .i64 (l.n:Int),.int .u64 v] f (plogH fl lb l::F) (Ret (.int .i64 (cmt l v:Nat)) f (plogH fl lb l::F)):=by
 have hn:=hL.n3;have hlog:=fun G=>pllogO_fn f G (fl:=fl) (lb:=lb) hL hT v
 refine Fn.e3 func46 ntmps46 fun base=>?_;refine gI ?_;refine H.cl (hlog _) fun x f' A' hr=>?_;obtain⟨p,c,rfl,rfl,rfl⟩:=hr;clear hlog
 cases hv:l.vw v with
 | none =>
  have e:cmt l v=0:=cmt_no hv;rw[e]
  show H _ _ _ ((_,.tuple #[.slice p 0 c,.bool false])::_) _ (slc p 0 c _ 40 []::_) _;refine gS ?_;exact qaF
 | some w =>
  have hwl:=hL.al w (vw_v hv).2;show H _ _ _ ((_,.tuple #[.slice p w.all.length c,.bool true])::_) _ (slc p w.all.length c _ 40 (w.all.flatMap Req.vals)::_) _
  refine gO ?_;refine H.Af rfl rfl rfl (dcfew_fn _ _ hn hodd) ?_;refine gY ?_;refine H.slc0 3 1 ?_
  refine H.lo (ι:=Nat×Option Addr×Nat) (fun s=>[(10,.int .i64 ((s.1+1:Nat):Int)),(9,.slice s.2.1 s.1 s.2.2),(7,.slice p w.all.length c),(2,.int .u64 v),(1,.int .i64 (l.n:Int)),(0,.pointer (some ⟨lb,0,none⟩))]) (fun _=>f')
   (fun s=>slc s.2.1 s.1 s.2.2 3 1 (((List.range s.1).map fun r=>vot l r v).flatMap iV)::slc p w.all.length c 49 40 (w.all.flatMap Req.vals)::plogH fl lb l::F) (fun s=>s.1≤l.n) (fun s=>l.n-s.1)
   (0,none,0) (Nat.zero_le _) fun s hs=>?_
  obtain⟨k,q,qc⟩:=s;have hs:k≤l.n:=hs;show H _ _ _ [(10,.int .i64 ((k+1:Nat):Int)),(9,.slice q k qc),_,_,_,_] f' (slc q k qc _ 1 (((List.range k).map fun r=>vot l r v).flatMap iV)::_::_::F) _
  by_cases hk:k<l.n
  ·have hvo:=fun G=>plvoted_fn f' G hfl (lb:=lb) (l:=l) jA hk (r:=((k+1:Nat):Int)) (v:=v) rfl;refine gG ?_
   refine qko ?_;refine H.cr (hvo _) ?_;refine gO ?_;refine H.Aq (out:=iV (vot l k v)) rfl rfl rfl rfl jC jC rfl rfl fun eb=>?_;skip;refine H.Av (sz:=1) (p:=q) (n0:=k) (c:=qc) (xs:=((List.range k).map fun r=>vot l r v).flatMap iV) (m:=1) (news:=iV (vot l k v)) rfl rfl rfl rfl rfl (fun p' c'=>jB) (Src.slice (Rd.ofRow jB) rfl) (zaa rfl) rfl jA jA fun p2 c2=>?_;refine qgJ ?_;refine gW ?_;refine qko ?_;refine H.pf (x:=slc p _ _ _ _ _) ?_;refine qky ?_
   exact H.Ar (k+1,p2,c2) (by show k+1≤l.n;omega) (by show l.n-(k+1)<l.n-k;omega) ⟨rfl,rfl,rfl,rfl,rfl,rfl,trivial⟩ rfl (by
    show slc p2 (k+1) c2 _ 1 (((List.range k).map fun r=>vot l r v).flatMap iV++iV (vot l k v))::_=slc p2 (k+1) c2 _ 1 (((List.range (k+1)).map fun r=>vot l r v).flatMap iV)::_;rw[List.range_succ,List.map_append,List.flatMap_append]
    rfl)
  ·have e:k=l.n:=jA
   subst e;refine gc ?_;refine H.Ap rfl rfl rfl (sortD_fn f' _ (p:=q) (n:=l.n) (c:=qc) (xs:=(List.range l.n).map fun r=>vot l r v) (by rw[List.length_map,List.length_range]) jA) fun x f2 A' hr=>?_;obtain⟨ys,hp,hso,rfl,rfl,rfl⟩:=hr;obtain⟨x,hx,hx0,hmin⟩:=cmt_sort hv hodd (fun r hr=>(hL.vot0 hr v).1) hp hso;have hyl:ys.length=l.n:=by rw[hp.length_eq,List.length_map,List.length_range]
   refine H.Au (p:=q) (n0:=l.n) (c:=qc) (T:=3) (sz:=1) (xs:=ys.flatMap iV) aP0 jA fun sb hp=>?_;subst hp;have hrd:∀ {G},Rd1 f2 (slc (some ⟨sb,0,none⟩) l.n qc 3 1 (ys.flatMap iV)::G) sb ((l.n / 2)*1) (.int .i64 x):=fun {G}=>Rd1.of (i:=0) (Rd.slcElem (vals:=iV) (xs:=ys) iV_len jC aP0 hx) rfl
   have hq:((l.n:Int)).tdiv 2=((l.n / 2:Nat):Int):=by
    rw[Int.tdiv_eq_ediv_of_nonneg jA];omega
   refine gI ?_;refine H.quo (z:=((l.n / 2:Nat):Int)) rfl rfl rfl jC jj rfl ?_;refine H.Ah (i:=l.n / 2) rfl rfl rfl rfl jA rfl ?_;refine H.Ab rfl rfl rfl hrd rfl ?_;refine gI ?_;refine H.min2 (z:=((cmt l v:Nat):Int)) rfl rfl rfl (by rw[←hmin];split<;>split<;>omega) rfl ?_;refine gT ?_;exact qcT
theorem dbest_fn(hfl:Le fl f)(hL:LI l T)(hT:T≤254)(hodd:l.n % 2=1):Fn prog 54 [.pointer (some ⟨lb,0,none⟩),.int .i64 (l.n:Int)] f (plogH fl lb l::F) (Ret (.tuple #[.int .u64 (decB l).1,.int .i64 ((decB l).2:Nat)]) f (plogH fl lb l::F)):=by
 have hcm:=fun G v=>committed_fn f G hfl (lb:=lb) hL jA hodd v;have hvl:=hL.vl
 have hul:(viewsU l).length=l.vs.length:=by unfold viewsU;rw[List.length_map]
 refine Fn.e2 func54 ntmps54 fun base=>?_;refine gI ?_;refine H.Ap rfl rfl rfl (plviews_fn f _ (fl:=fl) (lb:=lb) hL hT) fun x f' A' hr=>?_;obtain⟨p,c,rfl,hff,rfl⟩:=hr;rw[hff];clear hff;obtain⟨vs,hvs⟩:∃vs,vs=viewsU l:=⟨_,rfl⟩;rw[←hvs]at hul⊢;have hdb:decB l=bestC (cmt l) vs (0,0):=by rw[hvs];rfl
 refine gT ?_;refine qko ?_
 refine H.lo (ι:=Nat) (fun k=>[(12,.int .i64 (k:Int)),(11,.int .i64 (vs.length:Nat)),(10,.slice p vs.length c),(5,.int .i64 ((bestC (cmt l) (vs.take k) (0,0)).2:Nat)),(4,.int .u64 (bestC (cmt l) (vs.take k) (0,0)).1),(1,.int .i64 (l.n:Int)),(0,.pointer (some ⟨lb,0,none⟩))]) (fun _=>f)
  (fun _=>plogH fl lb l::slc p vs.length c 35 1 (vs.flatMap uV)::F) (fun k=>k≤vs.length) (fun k=>vs.length-k)
  0 (Nat.zero_le _) fun k hk=>?_
 have hk:k≤vs.length:=hk;by_cases hlt:k<vs.length
 ·obtain⟨v,hv⟩:∃v,vs[k]?=some v:=⟨_,lgE hlt⟩;refine H.Au (p:=p) (n0:=vs.length) (c:=c) (T:=35) (sz:=1) (xs:=vs.flatMap uV) at1 jA fun sb hp=>?_;subst hp;have hrd:∀ {G},Rd1 f (plogH fl lb l::slc (some ⟨sb,0,none⟩) vs.length c 35 1 (vs.flatMap uV)::G) sb (k*1) (.int .u64 v):=fun {G}=>Rd1.of (i:=0) (Rd.slcElem (vals:=uV) (xs:=vs) uV_len jC at1 hv) rfl;have hsn:=bestC_snoc (cmt l) v (vs.take k) (0,0)
  rw[←zax hv]at hsn;generalize bestC (cmt l) (vs.take k) (0,0)=b at hsn⊢;refine qgt ?_;refine gI ?_;refine H.Af rfl rfl rfl (hcm _ v) ?_;by_cases hb:b.2<cmt l v
  ·rw[if_pos hb]at hsn;exact qaY
  ·rw[if_neg hb]at hsn;exact qaY
 ·have e:k=vs.length:=jA
  subst e;rw[List.take_length,←hdb];refine gc ?_;refine H.pd (x:=slc p _ _ _ _ _) ?_;exact qaV
def DecP(f:Frag)(A:List HP)(R:List Req):Value→Frag→List HP→Prop:=fun v f' A'=>∃(p:Option Addr) (c:Nat),v= .slice p R.length c∧f'=f∧A'=slc p R.length c 49 40 (R.flatMap Req.vals)::A
theorem decided_fn(hfl:Le fl f)(hL:LI l T)(hT:T≤254)(hodd:l.n % 2=1):Fn prog 26 [.pointer (some ⟨lb,0,none⟩),.int .i64 (l.n:Int)] f (plogH fl lb l::F) (DecP f (plogH fl lb l::F) (decL l)):=by
 have hb:=fun G=>dbest_fn f G hfl (lb:=lb) hL hT hodd;have hlog:=fun G=>pllogO_fn f G (fl:=fl) (lb:=lb) hL jA (decB l).1
 have hle:=decB_le l;have hd:decL l=(allO (l.vw (decB l).1)).take (decB l).2:=rfl
 have hdl:=decL_len l;unfold DecP
 rw[hdl];generalize decB l=b at hle hd hlog hb hdl;refine Fn.e2 func26 ntmps26 fun base=>?_;refine gI ?_;refine H.cr (hb _) ?_;refine gO ?_;refine H.cl (hlog _) fun x f' A' hr=>?_;obtain⟨p,c,rfl,rfl,rfl⟩:=hr;generalize allO (l.vw b.1)=R at hle hd⊢;refine gO ?_;refine qjH fun hcap _ hpl=>?_;refine H.sliceTo (hv:=b.2) rfl rfl rfl rfl jA rfl ?_;refine H.slc_trunc (m':=b.2) (ys:=(decL l).flatMap Req.vals) hle hcap (by rw[hd,flat_take Req.len]) ?_;exact qdf
theorem dview_fn(hfl:Le fl f)(hL:LI l T)(hT:T≤254)(hodd:l.n % 2=1):Fn prog 43 [.pointer (some ⟨lb,0,none⟩),.int .i64 (l.n:Int)] f (plogH fl lb l::F) (Ret (.int .u64 (decB l).1) f (plogH fl lb l::F)):=by
 refine Fn.e2 func43 ntmps43 fun base=>?_;refine gI ?_;refine H.Af rfl rfl rfl (dbest_fn f _ hfl (lb:=lb) hL hT hodd) ?_;refine gY ?_;exact qaj
end
end Go.Proofs.YtkaknokcbhiigaaGreatDoor
