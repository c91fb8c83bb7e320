/- Parts of the proof. No conditions. -/
import Derived.Test.YtkaknokcbhiigaaGreatDoorZ09
import Derived.Test.YtkaknokcbhiigaaGreatDoorRows
import Derived.Test.YtkaknokcbhiigaaGreatDoorCards
import Derived.Test.YtkaknokcbhiigaaGreatDoorTie
set_option linter.unusedSectionVars false
set_option linter.unusedSimpArgs false
set_option linter.unusedVariables false
set_option maxHeartbeats 6400000
set_option maxRecDepth 20000
namespace Go.Proofs.YtkaknokcbhiigaaGreatDoor
open Go Go.Proofs.Tryz
structure SfR(n:Nat)(l li PL:List MV)(D:List Req)(need:Nat→Int):Prop where
 fk:(audR n (li.map MV.m)).fk=[]
 dec:decL (audR n (li.map MV.m)).l=D
 pre:D<+: decL (lgsOf n (l.map MV.m))
 yes:0<D.length→prvB n (li.map MV.m) ((D.length:Nat):Int)∧PL=prvL n li ((D.length:Nat):Int)∧accR n (PL.map MV.m) ((D.length:Nat):Int)=(D,0)
 no:D.length=0→PL=[]
 knw:Knw (l.map MV.m) need
 pl:PL.map MV.m=sub need (l.map MV.m)
 len:D.length≤(decL (lgsOf n (PL.map MV.m))).length
 mem:∀x∈PL,x∈l
 le:PL.length≤l.length
def subV(k:Nat→Int)(l:List MV):List MV:=l.filter fun x=>decide (x.m.number≤k (orgI x.m))
theorem subV_map(k:Nat→Int)(l:List MV):(subV k l).map MV.m=sub k (l.map MV.m):=by
 unfold subV sub;rw[List.filter_map];rfl
variable {n:Nat} {l:List MV}
theorem safe_one(h3:3≤n)(h11:n≤11)(hodd:n % 2=1)(hW:WOK n (l.map MV.m))(hv:∀m∈l.map MV.m,0≤m.body.view)(hC:CLO (l.map MV.m)){k:Nat→Int}(hk:Knw (l.map MV.m) k):∃PL D need,SfR n l (subV k l) PL D need:=by
 have hsv:=subV_map k l;have h0:∀i,0≤k i:=fun i=>(hk.le i).1
 have hWU:WOK n ((subV k l).map MV.m):=by rw[hsv];exact WOK.sub h0 _ hW hk.closed
 have hvU:∀m∈(subV k l).map MV.m,0≤m.body.view:=fun m hm=>by rw[hsv]at hm;exact hv m (zbp.1 hm).1
 have hCU:CLO ((subV k l).map MV.m):=by rw[hsv];exact CLO_sub hC k
 obtain⟨_,_,hlg,hfk⟩:=audR_order hWU;have hpre:=dec_sub hW hk hv h3 h11 hodd;rw[←hsv,←hlg]at hpre
 by_cases hD:(decL (audR n ((subV k l).map MV.m)).l).length=0
 ·have hz:sub (fun _=>0) (l.map MV.m)=[]:=by
   unfold sub;rw[List.filter_eq_nil_iff];intro x hx;obtain⟨i,hi⟩:=List.getElem?_of_mem hx
   have:=(hW i x hi).num;simp only[decide_eq_true_eq]
   omega
  exact⟨[],_,fun _=>0,hfk,rfl,hpre,fun h=>absurd h jA,fun _=>rfl,Knw.zero hW,hz.symm,by rw[hD];exact Nat.zero_le _,fun x hx=>absurd hx List.not_mem_nil,Nat.zero_le _⟩
 ·obtain⟨t,ht⟩:∃t,t=(decL (audR n ((subV k l).map MV.m)).l).length:=⟨_,rfl⟩;obtain⟨p1,p2⟩:=prove_law0 h3 h11 hodd hWU hvU hCU (t:=t) jA jA;have htl:t≤(decL (lgsOf n ((subV k l).map MV.m))).length:=by rw[←hlg,←ht];exact Nat.le_refl _
  obtain⟨q1,_,q3,_⟩:=proof_law h3 h11 hodd hWU hvU hCU (t:=t) jA htl;have e2:=(prvL_eq (ml:=subV k l) hWU (t:Int)).2;generalize needV n ((subV k l).map MV.m) (t:Int)=need at *
  have hle:∀i,need i≤k i:=fun i=>by
   have h1:=(q1.le i).2;rw[hsv,cnt_sub h0 _ hW i]at h1
   exact Int.le_trans h1 (minU_le k _ i).1
  have hss:sub need ((subV k l).map MV.m)=sub need (l.map MV.m):=by
   rw[hsv];unfold sub;rw[List.filter_filter];refine List.filter_congr fun x hx=>?_;by_cases h:x.number≤need (orgI x)
   ·exact qdK
   ·rw[decide_eq_false h];rfl
  have hacc:=p2.acc;refine⟨prvL n (subV k l) (t:Int),_,need,hfk,rfl,hpre,fun _=>⟨by rw[←ht];exact p1,by rw[←ht],?_⟩,fun h=>absurd h hD,⟨fun i=>⟨(q1.le i).1,?_⟩,fun x hx hxn i hi=>?_⟩,by rw[e2,hss],?_,fun x hx=>?_,?_⟩
  ·rw[←ht,hacc,ht,List.take_length]
  ·have h1:=(q1.le i).2;rw[hsv,cnt_sub h0 _ hW i]at h1
   exact Int.le_trans h1 (minU_le k _ i).2
  ·refine q1.closed x ?_ hxn i hi;rw[hsv];exact zbp.2 ⟨hx,Int.le_trans hxn (hle _)⟩
  ·rw[←ht,e2];exact q3
  ·exact(List.mem_filter.1 (p2.sub x hx)).1
  ·exact Nat.le_trans p2.le (List.length_filter_le _ _)
theorem safe_both(h3:3≤n)(h11:n≤11)(hodd:n % 2=1)(hW:WOK n (l.map MV.m))(hv:∀m∈l.map MV.m,0≤m.body.view){la PA lb PB:List MV}{A B:List Req}{na nb:Nat→Int}(ha:SfR n l la PA A na)(hb:SfR n l lb PB B nb):(audR n ((PA++PB).map MV.m)).fk=[]∧A.length≤(decL (audR n ((PA++PB).map MV.m)).l).length∧B.length≤(decL (audR n ((PA++PB).map MV.m)).l).length:=by
 have hmx:=maxV_ge na nb
 have hK:Knw (l.map MV.m) (maxV na nb):=by
  refine⟨fun i=>?_,fun x hx hxn i hi=>?_⟩
  ·have h1:=ha.knw.le i;have h2:=hb.knw.le i
   have h4:=hmx i;rcases h4.2.2 with e|e<;>rw[e]
   ·exact h1
   ·exact h2
  ·have h4:=hmx (orgI x);have h5:=hmx i
   rcases h4.2.2 with e|e
   ·rw[e]at hxn;exact Int.le_trans (ha.knw.closed x hx hxn i hi) h5.1
   ·rw[e]at hxn;exact Int.le_trans (hb.knw.closed x hx hxn i hi) h5.2.1
 have h0:∀i,0≤maxV na nb i:=fun i=>(hK.le i).1;have hWV:WOK n (sub (maxV na nb) (l.map MV.m)):=WOK.sub h0 _ hW hK.closed
 have hvV:∀m∈sub (maxV na nb) (l.map MV.m),0≤m.body.view:=fun m hm=>hv m (zbp.1 hm).1;have hmap:(PA++PB).map MV.m=sub na (l.map MV.m)++sub nb (l.map MV.m):=by rw[List.map_append,ha.pl,hb.pl]
 have w:=audR_world h3 h11 hWV hvV (ms:=(PA++PB).map MV.m) (fun m hm=>by
  rw[hmap]at hm;rcases List.mem_append.1 hm with h|h
  ·obtain⟨a,b⟩:=zbp.1 h;exact zbp.2 ⟨a,Int.le_trans b (hmx _).1⟩
  ·obtain⟨a,b⟩:=zbp.1 h
   exact zbp.2 ⟨a,Int.le_trans b (hmx _).2.1⟩) (fun m hm=>by
  rw[hmap];obtain⟨a,b⟩:=zbp.1 hm;rcases(hmx (orgI m)).2.2 with e|e
  ·rw[e]at b;exact List.mem_append_left _ (zbp.2 ⟨a,b⟩)
  ·rw[e]at b;exact List.mem_append_right _ (zbp.2 ⟨a,b⟩))
 have one:∀ {k:Nat→Int},Knw (l.map MV.m) k→(∀i,k i≤maxV na nb i)→(decL (lgsOf n (sub k (l.map MV.m)))).length≤(decL (lgsOf n (sub (maxV na nb) (l.map MV.m)))).length:=fun {k} hk hle=>by
  have hKV:Knw (sub (maxV na nb) (l.map MV.m)) k:=by
   refine⟨fun i=>⟨(hk.le i).1,?_⟩,fun x hx hxn i hi=>hk.closed x (zbp.1 hx).1 hxn i hi⟩;rw[cnt_sub h0 _ hW i,minU_all hK];exact hle i
  have hss:sub k (sub (maxV na nb) (l.map MV.m))=sub k (l.map MV.m):=by
   unfold sub;rw[List.filter_filter];refine List.filter_congr fun x hx=>?_;by_cases h:x.number≤k (orgI x)
   ·exact qdK
   ·rw[decide_eq_false h];rfl
  have:=dec_sub hWV hKV hvV h3 h11 hodd;rw[hss]at this
  exact this.length_le
 refine⟨w.fk,?_,?_⟩
 ·rw[w.lg];have h1:=ha.len;rw[ha.pl]at h1
  exact Nat.le_trans h1 (one ha.knw fun i=>(hmx i).1)
 ·rw[w.lg];have h1:=hb.len;rw[hb.pl]at h1
  exact Nat.le_trans h1 (one hb.knw fun i=>(hmx i).2.1)
def bothN(PL:Nat→List MV)(i:Nat):List MV:=(List.range i).flatMap PL
theorem bothN_succ(PL:Nat→List MV)(i:Nat):bothN PL (i+1)=bothN PL i++PL i:=by
 unfold bothN;rw[List.range_succ,List.flatMap_append];show _++(PL i++[])=_;rw[List.append_nil]
def rowD(DD:Nat→List Req)(i j:Nat):List Req:=if j<i then DD j else []
def rowZ(DD:Nat→List Req)(i:Nat)(qs:Nat→Option Addr×Nat):List Value:=[.slice (qs 0).1 (rowD DD i 0).length (qs 0).2,.slice (qs 1).1 (rowD DD i 1).length (qs 1).2]
theorem rowD_same{DD:Nat→List Req}{i:Nat}(h:DD i=[])(j:Nat):rowD DD (i+1) j=rowD DD i j:=by
 unfold rowD;by_cases e:j=i
 ·subst e;rw[if_pos (Nat.lt_succ_self _),if_neg (Nat.lt_irrefl _),h]
 ·exact qd
theorem rowD_next(DD:Nat→List Req)(i j:Nat):rowD DD (i+1) j=if j=i then DD i else rowD DD i j:=by
 unfold rowD;by_cases e:j=i
 ·subst e;rw[if_pos (Nat.lt_succ_self _),if_pos rfl]
 ·rw[if_neg e];exact qd
theorem rowZ_set(DD:Nat→List Req){i:Nat}(hi:i<2)(qs:Nat→Option Addr×Nat)(p:Option Addr)(c:Nat):SetV (rowZ DD i qs) (0+i*1) (.slice p (DD i).length c) (rowZ DD (i+1) (updF qs i (p,c))):=by
 unfold rowZ;rw[rowD_next,rowD_next]
 match i,hi with
 |0,_=>exact .here _ _ _
 |1,_=>exact SetV.there _ (SetV.here _ _ _)
variable {j:Nat} {x:MV}
theorem subV_yes{k:Nat→Int}(hx:l[j]?=some x)(h:x.m.number≤k (orgI x.m)):subV k (l.take (j+1))=subV k (l.take j)++[x]:=by
 unfold subV;rw[zax hx,List.filter_append];congr 1;rw[List.filter_cons,if_pos (decide_eq_true h)];rfl
theorem subV_no{k:Nat→Int}(hx:l[j]?=some x)(h:¬x.m.number≤k (orgI x.m)):subV k (l.take (j+1))=subV k (l.take j):=by
 unfold subV;rw[zax hx,List.filter_append,List.filter_cons,if_neg (by rw[decide_eq_false h];decide)];exact List.append_nil _
section
variable (f:Frag) (F:List HP)
theorem auditSafe_fn(htab:TabAt f){n8:UInt8}{p:Option Addr}{c:Nat}{xs:List A15}(hat:ListAt f p 12 A15.vals xs)(hh:∀x∈xs,x.Has f)(hxl:xs.length≤9223372036854775807)(a8 b8:UInt8):Fn prog 5 [.int .u8 (n8.toNat:Nat),.slice p xs.length c,.int .u8 (a8.toNat:Nat),.int .u8 (b8.toNat:Nat)] f F (Ret (.bool true) f F):=by
 have hfew:=few15_fn f F (c:=c) hat hxl
 cases hf:few15 xs with
 | false =>
  rw[hf]at hfew;refine Fn.e4 func5 ntmps5 fun base=>?_;refine qkq ?_;refine gS ?_;exact qdw
 | true =>
  rw[hf]at hfew;obtain⟨hl100,hq20⟩:=few15_all hf;by_cases h70:xs.length≤70
  ·obtain⟨n,hn8⟩:∃n,n=3+2*(n8.toNat % 5):=⟨_,rfl⟩;have hn3:3≤n∧n≤11:=jA
   have hodd:n % 2=1:=jA
   have hfz:=fewz_odd hn8;have hacts:=fun G=>acts15_fn f G hn8 (c:=c) hat (fun x hx=>⟨hh x hx,hq20 x hx⟩) hl100
   have hinv:WInv n (world15 n xs).w:=by have:=(world15_inv hn3.1 hn3.2 xs xs.length jA).w;rwa [List.take_length]at this
   have hwl:(world15 n xs).w.all.length≤70:=by have:=world15_len n xs xs.length;rw[List.take_length]at this;omega
   have hclo:CLO (world15 n xs).w.all:=by have:=world_clo hn3.1 hn3.2 xs xs.length jA;rwa [List.take_length]at this
   generalize world15 n xs=W15' at *;refine Fn.e4 func5 ntmps5 fun base=>?_;refine qkq ?_;refine gg ?_;refine H.cl (hacts _) fun v f' A' hr=>?_;obtain⟨g,wb,rfl,hd,rfl,rfl⟩:=hr;have le0:=Le.un f g;generalize un f g=f0 at *
   refine H.world15 fun g1 kb ap ac lb l hd1 hwat=>?_;have le1:=le0.trans (Le.un f0 g1);generalize un f0 g1=f1 at *
   have hta:=zbg htab le1;clear hacts hfew hd hd1
   have hlm:l.map MV.m=W15'.w.all:=hwat.m;have hW:WOK n (l.map MV.m):=by rw[hlm];exact hinv.ok
   rw[←hlm]at hwl hclo;rw[List.length_map]at hwl;have hlg:=hwat.g;have hla:=hwat.a
   have hkat:=hwat.k
   have hvw:∀m∈l.map MV.m,0≤m.body.view:=fun m hm=>by
    obtain⟨x,hx,rfl⟩:=List.mem_map.1 hm;exact(hlg x hx).2.2.1.1
   have horg:∀x∈l,1≤x.m.origin∧x.m.origin≤(n:Int):=fun x hx=>by
    obtain⟨i,hi⟩:=List.getElem?_of_mem (List.mem_map.2 ⟨x,hx,rfl⟩:x.m∈l.map MV.m);exact(hW i x.m hi).org
   have hknw:=fun r hr=>hinv.knw r hr;rw[←hlm]at hknw
   have hn0:0<n:=jA
   obtain⟨wh,hwh⟩:∃wh:Nat→Nat,wh=fun i=>if i=0 then a8.toNat % n else b8.toNat % n:=⟨_,rfl⟩
   have hw0:wh 0=a8.toNat % n:=by rw[hwh];rfl
   have hw1:wh 1=b8.toNat % n:=by rw[hwh];rfl
   have hwn:∀i,wh i<n:=fun i=>by rw[hwh];show(if i=0 then _ else _)<n;split<;>exact Nat.mod_lt _ hn0
   have hS:∀i:Nat,∃PL D need,SfR n l (subV (W15'.w.kv (wh i)) l) PL D need:=fun i=>safe_one hn3.1 hn3.2 hodd hW hvw hclo (hknw (wh i) (hwn i));obtain⟨PL,hS⟩:=Classical.skolem.1 hS
   obtain⟨DD,hS⟩:=Classical.skolem.1 hS;obtain⟨nd,hS⟩:=Classical.skolem.1 hS;have hbth:=safe_both hn3.1 hn3.2 hodd hW hvw (hS 0) (hS 1);have hpre0:=(hS 0).pre
   have hpre1:=(hS 1).pre
   have hDl:(decL (lgsOf n (l.map MV.m))).length≤254:=by
    rw[decL_len];have h1:=decB_le (lgsOf n (l.map MV.m))
    cases hv:(lgsOf n (l.map MV.m)).vw (decB (lgsOf n (l.map MV.m))).1 with
    |none=>rw[hv]at h1;exact Nat.le_trans h1 (Nat.zero_le _)
    | some w =>
     rw[hv]at h1;have h2:=(lgsOf_LI hn3.1 hn3.2 (l.map MV.m) hvw).al w (vw_v hv).2;rw[List.length_map]at h2
     have h1:(decB (lgsOf n (l.map MV.m))).2≤w.all.length:=h1;omega
   generalize W15'.w.kv=kv at *;clear hinv hlm hwat hwh hknw hclo;have hwk:=fun e (he:Le f1 e) G=>works29_fn e G (zbg hta he);have ha8:=a8.toNat_lt
   have hb8:=b8.toNat_lt;have hra:((a8.toNat:Nat):Int).tmod (n:Int)=((wh 0:Nat):Int):=zal (a:=a8.toNat) (b:=n) hw0.symm
   have hrb:((b8.toNat:Nat):Int).tmod (n:Int)=((wh 1:Nat):Int):=zal (a:=b8.toNat) (b:=n) hw1.symm;refine gF ?_
   refine H.db (S:=[]) rfl ?_;refine HB.qu [0,1,2,3,4,5,6,7] 2 ?_;refine gK ?_;refine HQ.rem (z:=((wh 0:Nat):Int)) rfl rfl rfl jA hra rfl ?_;refine gK ?_;refine HQ.rem (z:=((wh 1:Nat):Int)) rfl rfl rfl jA hrb rfl ?_;refine qeo ?_;refine HB.ev 8 ?_;refine H.Aq (out:=[.int .i64 ((wh 0:Nat):Int),.int .i64 ((wh 1:Nat):Int)]) rfl rfl rfl rfl jC jC rfl rfl fun hb=>?_;refine qeg ?_;refine HB.qu [9] 0 ?_;refine qgv ?_;clear hw0 hw1 hra hrb;refine gA ?_;refine H.Aj (ls:=[.slice none 0 0,.slice none 0 0]) rfl rfl rfl fun zb=>?_;refine gT ?_;refine H.slc0 54 121 ?_
   refine H.lo (ι:=Nat×(Option Addr×Nat)×(Nat→Option Addr×Nat)×Frag) (fun s=>[(14,.int .i64 (s.1:Int)),(13,.slice s.2.1.1 (bothN PL s.1).length s.2.1.2),(12,.pointer (some ⟨zb,0,none⟩)),(11,.slice (some ⟨hb,0,none⟩) 2 2),(10,.int .i64 (n:Nat)),(9,.pointer (some ⟨wb,0,none⟩))]) (fun s=>s.2.2.2)
    (fun s=>slc s.2.1.1 (bothN PL s.1).length s.2.1.2 54 121 ((bothN PL s.1).flatMap MV.vals)::row zb 63 (rowZ DD s.1 s.2.2.1)::row hb 3 [.int .i64 ((wh 0:Nat):Int),.int .i64 ((wh 1:Nat):Int)]::row wb 32 (w15C kb n ap l.length ac lb)::F)
    (fun s=>s.1≤2∧Le f1 s.2.2.2∧(∀j,j<2→ListAt s.2.2.2 (s.2.2.1 j).1 40 Req.vals (rowD DD s.1 j)∧(rowD DD s.1 j).length≤(s.2.2.1 j).2)∧(bothN PL s.1).length≤s.1*100) (fun s=>2-s.1)
    (0,(none,0),(fun _=>(none,0)),f1) ⟨by omega,Le.refl _,fun j hj=>⟨fun i x h=>by simp[rowD]at h,Nat.le_refl _⟩,Nat.le_refl _⟩ fun s hs=>?_
   obtain⟨i,⟨bp,bc⟩,qs,e⟩:=s;obtain⟨hi,hle,hqs,hbl⟩:i≤2∧Le f1 e∧(∀j,j<2→ListAt e (qs j).1 40 Req.vals (rowD DD i j)∧(rowD DD i j).length≤(qs j).2)∧(bothN PL i).length≤i*100:=hs;show H _ _ _ [(14,.int .i64 (i:Int)),(13,.slice bp (bothN PL i).length bc),_,_,_,_] e (slc bp (bothN PL i).length bc 54 121 ((bothN PL i).flatMap MV.vals)::row zb 63 (rowZ DD i qs)::_::_::F) _;by_cases hi2:i<2
   ·have hwi:=hwn i
    have hwv:([.int .i64 ((wh 0:Nat):Int),.int .i64 ((wh 1:Nat):Int)]:List Value)[i]?=some (.int .i64 ((wh i:Nat):Int)):=by
     rcases(show i=0∨i=1 by omega)with rfl|rfl<;>rfl
    have hkr:=fun e (he:Le f1 e) G=>(hkat.mono he).rd G hwi;have hSi:=hS i
    generalize hkd:kv (wh i)=k at *;refine gG ?_;refine H.slc0 54 121 ?_
    refine H.lo (ι:=Nat×Option Addr×Nat) (fun s=>[(16,.int .i64 (s.1:Int)),(15,.slice s.2.1 (subV k (l.take s.1)).length s.2.2),(14,.int .i64 (i:Int)),(13,.slice bp (bothN PL i).length bc),(12,.pointer (some ⟨zb,0,none⟩)),(11,.slice (some ⟨hb,0,none⟩) 2 2),(10,.int .i64 (n:Nat)),(9,.pointer (some ⟨wb,0,none⟩))]) (fun _=>e)
     (fun s=>slc s.2.1 (subV k (l.take s.1)).length s.2.2 54 121 ((subV k (l.take s.1)).flatMap MV.vals)::slc bp (bothN PL i).length bc 54 121 ((bothN PL i).flatMap MV.vals)::row zb 63 (rowZ DD i qs)::row hb 3 [.int .i64 ((wh 0:Nat):Int),.int .i64 ((wh 1:Nat):Int)]::row wb 32 (w15C kb n ap l.length ac lb)::F)
     (fun s=>s.1≤l.length) (fun s=>l.length-s.1) (0,none,0) (Nat.zero_le _) fun s hs=>?_
    obtain⟨j,lp,lc⟩:=s;have hj:j≤l.length:=hs;show H _ _ _ [(16,.int .i64 (j:Int)),(15,.slice lp (subV k (l.take j)).length lc),_,_,_,_,_,_] e (slc lp (subV k (l.take j)).length lc 54 121 ((subV k (l.take j)).flatMap MV.vals)::_) _
    have hsl:(subV k (l.take j)).length≤70:=by
     have h1:(subV k (l.take j)).length≤(l.take j).length:=List.length_filter_le _ _;rw[List.length_take]at h1
     omega
    by_cases hjl:j<l.length
    ·obtain⟨x,hx⟩:∃x,l[j]?=some x:=⟨_,lgE hjl⟩;have hxo:=horg x (List.mem_of_getElem? hx);have hoz:x.m.origin-1=((orgI x.m:Nat):Int):=by unfold orgI;omega
     have ho11:orgI x.m<11:=by unfold orgI;omega
     obtain⟨ba,off,hap,rdA⟩:=hla.all MV.len jC jA;subst hap;have rdx:=fun A=>rdA e A j x hle hx;have hkx:=fun G=>hkr e hle G
     refine qg ?_;refine H.pf (x:=row hb _ _) ?_;refine gM ?_;refine H.dq ?_;refine qkc ?_;refine gP ?_;refine HQ.Ab rfl rfl rfl (Rd1.of (i:=1) (rdx _) rfl) rfl ?_;refine gP ?_;refine HQ.Ak (i:=i) rfl rfl rfl rfl hi2 rfl ?_;refine HQ.Ab rfl rfl rfl (by rw[Nat.zero_add,Nat.mul_one];exact Rd1.ofRow aP0 (by rw[nthV_eq];exact hwv)) rfl ?_;refine qkc ?_;refine gP ?_;refine HQ.Ab rfl rfl rfl (Rd1.of (i:=0) (rdx _) rfl) rfl ?_;refine gK ?_;refine HQ.Ak (i:=wh i) rfl rfl rfl rfl hwi rfl ?_;refine HQ.Al (i:=orgI x.m) rfl rfl rfl hoz ho11 rfl ?_;refine HQ.Ab rfl rfl rfl (by rw[Nat.zero_add,Nat.mul_one];exact Rd1.of (i:=orgI x.m) (hkx _) (zau _ ho11)) rfl ?_;refine gZ ?_;by_cases hle2:x.m.number≤k (orgI x.m)
     ·have hfl:(subV k (l.take j)).flatMap MV.vals++x.vals=(subV k (l.take (j+1))).flatMap MV.vals:=by
       rw[subV_yes hx hle2,List.flatMap_append];show _=_++(x.vals++[]);rw[List.append_nil]
      have hln:(subV k (l.take (j+1))).length=(subV k (l.take j)).length+1:=by rw[subV_yes hx hle2,lnA];rfl
      refine gg ?_;refine H.Ak (i:=j) rfl rfl rfl rfl hjl rfl ?_;refine H.Ad (ls:=x.vals) rfl rfl rfl (rdx _) rfl rfl ?_;refine H.Aq (out:=x.vals) rfl rfl rfl rfl jC jC rfl rfl fun sb=>?_;refine H.Av (sz:=121) (p:=lp) (n0:=(subV k (l.take j)).length) (c:=lc) (xs:=(subV k (l.take j)).flatMap MV.vals) (m:=1) (news:=x.vals) rfl rfl rfl rfl rfl (fun p' c'=>jB) (Src.slice (Rd.ofRow jB) rfl) (zaa rfl) rfl jA jA fun p2 c2=>?_;rw[hfl,←hln];refine H.pd (x:=row sb _ _) ?_;refine qk ?_;refine qky ?_;refine gW ?_;exact H.ag (j+1,p2,c2) (by show j+1≤l.length;omega) kT
     ·have hno:=subV_no hx hle2;refine gc ?_
      refine qk ?_;refine H.pf (x:=slc lp _ _ _ _ _) ?_;exact H.Ar (j+1,lp,lc) (by show j+1≤l.length;omega) kT ⟨rfl,by rw[hno];rfl,rfl,rfl,rfl,rfl,rfl,rfl,trivial⟩ rfl (by rw[hno])
    ·have ej:j=l.length:=jA
     subst ej;rw[List.take_length]at hsl⊢;obtain⟨li,hli⟩:∃li,li=subV k l:=⟨_,rfl⟩;have hlig:∀z∈li,z.Good f1:=fun z hz=>by rw[hli]at hz;exact hlg z (List.mem_filter.1 hz).1
     rw[←hli]at hsl hSi⊢;clear hli;refine qjm fun g2 hg2 hd2=>?_;have hatI:ListAt (un e g2) lp 121 MV.vals li:=(zbh MV.len hg2).mono (Le.right hd2);have le2:=Le.un e g2
     clear hg2 hd2;generalize un e g2=e2 at *;have hle2:=hle.trans le2
     have hvi:∀m∈li.map MV.m,0≤m.body.view:=fun m hm=>by
      obtain⟨x,hx,rfl⟩:=List.mem_map.1 hm;exact(hlig x hx).2.2.1.1
     have hvl:=(audR_I hfz (ms:=li.map MV.m) hvi jo).1.vl;have hrun:=fun G=>audRun_fn e2 G (zbg hta hle2) hfz (c:=lc) hatI (fun z hz=>(hlig z hz).mono hle2) jA
     obtain⟨s1,s2,s3,s4,s5,s6,s7,s8,s9,s10⟩:=hSi;unfold RunP repA repC at hrun;rw[s2]at hrun;clear s1 s2 s3 s6 s7 s8 hvl;generalize audR n (li.map MV.m)=R at *;generalize knownS (strm R.M)=kn at *;generalize(decB R.l).1=dv at *;generalize hDi:DD i=D at *;generalize hPi:PL i=Pi at *;refine gM ?_;refine H.cl (hrun _) fun v f' A' hr=>?_;obtain⟨g3,vp,vc,fp,fc,dp,dc,hd3,rfl,rfl,rfl⟩:=hr;have le3:=le2.trans (Le.un e2 g3);have hatI3:=hatI.mono (Le.un e2 g3)
     clear hrun hd3 hatI;generalize un e2 g3=e3 at *;show H _ _ _ _ _ (slc vp R.vd.length vc 56 1 (R.vd.flatMap vdV)::slc fp R.fk.length fc 68 4 (R.fk.flatMap fkV)::slc dp D.length dc 49 40 (D.flatMap Req.vals)::_) _;refine qhk ?_;refine H.pd (x:=slc dp _ _ 49 _ _) ?_;refine gO ?_;refine qjn fun rb=>?_;refine H.Ag (ls:=repZ) (vs:=repV vp R.vd.length vc fp R.fk.length fc kn dp D.length dc dv) (ls':=repV vp R.vd.length vc fp R.fk.length fc kn dp D.length dc dv) rfl rfl rfl (zaa rfl) rfl rfl (Nat.le_refl 15) jB ?_;by_cases hD0:D.length=0
     ·have hD0':(D.length:Int)=0:=jA
      have hb2:bothN PL (i+1)=bothN PL i:=by rw[bothN_succ,hPi,s5 hD0,List.append_nil]
      have hr2:=fun j=>rowD_same (DD:=DD) (i:=i) (by rw[hDi];exact List.eq_nil_of_length_eq_zero hD0) j;have hz2:rowZ DD (i+1) qs=rowZ DD i qs:=by unfold rowZ;rw[hr2,hr2]
      refine gN ?_;refine H.pd (x:=row rb _ _) ?_
      exact H.Ar (i+1,(bp,bc),qs,e3) ⟨by show i+1≤2;omega,hle.trans le3,fun j hj=>by
       show ListAt e3 (qs j).1 40 Req.vals (rowD DD (i+1) j)∧(rowD DD (i+1) j).length≤(qs j).2;rw[hr2]
       exact⟨(hqs j hj).1.mono le3,(hqs j hj).2⟩,by show(bothN PL (i+1)).length≤(i+1)*100;rw[hb2];omega⟩ (by show 2-(i+1)<2-i;omega) ⟨rfl,by rw[hb2];rfl,rfl,rfl,rfl,rfl,trivial⟩ rfl (by rw[hb2,hz2];rfl)
     ·have hD0':¬(D.length:Int)=0:=jA
      obtain⟨y1,y2,y3⟩:=s4 jA;have hpy:=fun G=>prove_yes e3 G (zbg hta (hle.trans le3)) hfz (c:=lc) hatI3 (fun z hz=>(hlig z hz).mono (hle.trans le3)) jA (t:=((D.length:Nat):Int)) y1;rw[←y2]at hpy
      have hPl:Pi.length≤70:=jA
      refine gN ?_;refine H.cl (hpy _) fun v f' A' hr=>?_;obtain⟨g4,pp,pc,hd4,rfl,rfl,rfl⟩:=hr;have le4:=le3.trans (Le.un e3 g4);clear hpy hd4 hatI3
      generalize un e3 g4=e4 at *;refine qjm fun g5 hg5 hd5=>?_;have hatP:ListAt (un e4 g5) pp 121 MV.vals Pi:=(zbh MV.len hg5).mono (Le.right hd5);have le5:=le4.trans (Le.un e4 g5)
      clear hg5 hd5;generalize un e4 g5=e5 at *;have hPg:∀x∈Pi,x.Good e5:=fun x hx=>(hlg x (s9 x hx)).mono (hle.trans le5);have hacc:=fun G=>accepts_fn e5 G (zbg hta (hle.trans le5)) hfz (c:=pc) hatP hPg jA ((D.length:Nat):Int)
      unfold AccP at hacc;rw[y3]at hacc;have hacc:∀G,Fn prog 13 [.int .i64 (n:Nat),.slice pp Pi.length pc,.int .i64 (D.length:Nat)] e5 G (fun v f' A'=>∃(g:Frag) (p:Option Addr) (c:Nat),Dj e5 g∧v= .tuple #[.slice p D.length c,.int .i64 0]∧f'=un e5 g∧A'=slc p D.length c 49 40 (D.flatMap Req.vals)::G):=hacc;refine gR ?_
      refine H.cl (hacc _) fun v f' A' hr=>?_;obtain⟨g6,dq,dqc,hd6,rfl,rfl,rfl⟩:=hr;have le6:=le5.trans (Le.un e5 g6);have hatP6:=hatP.mono (Le.un e5 g6)
      clear hacc hd6 hatP;generalize un e5 g6=e6 at *;refine H.Cm (p:=dq) (m:=D.length) (c:=dqc) (T:=49) (sz:=40) (xs:=D.flatMap Req.vals) aP0 fun hcap _ _=>?_;refine qjm fun g7 hg7 hd7=>?_;have hatQ:ListAt (un e6 g7) dq 40 Req.vals D:=(zbh Req.len hg7).mono (Le.right hd7);have le7:=le6.trans (Le.un e6 g7)
      have hatP7:=hatP6.mono (Le.un e6 g7);clear hg7 hd7 hatP6
      generalize un e6 g7=e7 at *;have hset:=rowZ_set DD hi2 qs dq dqc;rw[hDi]at hset
      have hsrc:∀G,Src prog e7 G (.slice pp Pi.length pc) 121 Pi.length (Pi.flatMap MV.vals):=fun G=>hatP7.src MV.len jC;have hb2:bothN PL (i+1)=bothN PL i++Pi:=by rw[bothN_succ,hPi]
      have hb3:(bothN PL (i+1)).length=(bothN PL i).length+Pi.length:=by rw[hb2,lnA]
      have hfl:(bothN PL i).flatMap MV.vals++Pi.flatMap MV.vals=(bothN PL (i+1)).flatMap MV.vals:=by rw[hb2,List.flatMap_append]
      have hb100:(bothN PL i).length≤200:=jA
      refine gY ?_;refine H.Al (i:=i) rfl rfl rfl rfl hi2 rfl ?_;refine H.Ba rfl rfl rfl rfl jB hset ?_;refine gI ?_;refine H.Av (sz:=121) (p:=bp) (n0:=(bothN PL i).length) (c:=bc) (xs:=(bothN PL i).flatMap MV.vals) (m:=Pi.length) (news:=Pi.flatMap MV.vals) rfl rfl rfl rfl rfl (fun p' c'=>jB) (hsrc _) (MVs_one Pi) rfl jA jA fun p2 c2=>?_;rw[hfl,←hb3];refine H.pd (x:=row rb _ _) ?_;refine qky ?_;refine gW ?_
      exact H.Ar (i+1,(p2,c2),updF qs i (dq,dqc),e7) ⟨by show i+1≤2;omega,hle.trans le7,fun j hj=>by
       show ListAt e7 (updF qs i (dq,dqc) j).1 40 Req.vals (rowD DD (i+1) j)∧(rowD DD (i+1) j).length≤(updF qs i (dq,dqc) j).2;rw[rowD_next];by_cases ej:j=i
       ·subst ej;rw[if_pos rfl,zae,hDi];exact⟨hatQ,hcap⟩
       ·rw[if_neg ej,zag _ _ ej]
        exact⟨(hqs j hj).1.mono le7,(hqs j hj).2⟩,by show(bothN PL (i+1)).length≤(i+1)*100;omega⟩ (by show 2-(i+1)<2-i;omega) ⟨rfl,rfl,rfl,rfl,rfl,rfl,trivial⟩ rfl rfl
   ·have ei:i=2:=jA
    subst ei;have hb2:bothN PL 2=PL 0++PL 1:=by rw[bothN_succ,bothN_succ];rfl
    have hr0:rowD DD 2 0=DD 0:=if_pos jC;have hr1:rowD DD 2 1=DD 1:=if_pos jC
    obtain⟨hq0,hc0⟩:=hqs 0 jA;obtain⟨hq1,hc1⟩:=hqs 1 jA;have hz:rowZ DD 2 qs=[.slice (qs 0).1 (DD 0).length (qs 0).2,.slice (qs 1).1 (DD 1).length (qs 1).2]:=by unfold rowZ;rw[hr0,hr1]
    rw[hr0]at hq0 hc0;rw[hr1]at hq1 hc1;rw[hz]
    have hbg:∀z∈bothN PL 2,z.Good f1:=fun z hz=>by
     rw[hb2]at hz;rcases List.mem_append.1 hz with h|h
     ·exact hlg z ((hS 0).mem z h)
     ·exact hlg z ((hS 1).mem z h)
    have hD0:(DD 0).length≤254:=Nat.le_trans hpre0.length_le hDl;have hD1:(DD 1).length≤254:=Nat.le_trans hpre1.length_le hDl
    rw[←hb2]at hbth;generalize bothN PL 2=B at *;generalize DD 0=D0 at *;generalize DD 1=D1 at *;generalize qs 0=z0 at *;generalize qs 1=z1 at *;obtain⟨q0,c0⟩:=z0;obtain⟨q1,c1⟩:=z1;have hq0:ListAt e q0 40 Req.vals D0:=hq0;have hq1:ListAt e q1 40 Req.vals D1:=hq1
    have hc0:D0.length≤c0:=hc0;have hc1:D1.length≤c1:=hc1
    obtain⟨m,hm⟩:∃m,m=min D0.length D1.length:=⟨_,rfl⟩;obtain⟨mx,hmx⟩:∃mx,mx=max D0.length D1.length:=⟨_,rfl⟩;have htk:=pre_take hpre0 hpre1;rw[←hm]at htk
    clear hpre0 hpre1 hS hr0 hr1 hz hqs hb2;refine qjm fun g2 hg2 hd2=>?_;have hatB:ListAt (un e g2) bp 121 MV.vals B:=(zbh MV.len hg2).mono (Le.right hd2);have le2:=hle.trans (Le.un e g2)
    have hq0b:=hq0.mono (Le.un e g2);have hq1b:=hq1.mono (Le.un e g2)
    clear hg2 hd2 hq0 hq1;generalize un e g2=e2 at *;have hrun:=fun G=>audRun_fn e2 G (zbg hta le2) hfz (c:=bc) hatB (fun z hz=>(hbg z hz).mono le2) jA;unfold RunP repA repC at hrun
    obtain⟨b1,b2,b3⟩:=hbth;rw[b1]at hrun;clear b1;generalize audR n (B.map MV.m)=R at *;generalize knownS (strm R.M)=kn at *;generalize(decB R.l).1=dv at *;generalize decL R.l=D at *;show H _ _ _ [_,(13,.slice bp B.length bc),(12,.pointer (some ⟨zb,0,none⟩)),(11,.slice (some ⟨hb,0,none⟩) 2 2),(10,.int .i64 (n:Nat)),(9,.pointer (some ⟨wb,0,none⟩))] _ (row zb 63 [.slice q0 D0.length c0,.slice q1 D1.length c1]::_::_::F) _;refine gY ?_;refine H.Al (i:=0) rfl rfl rfl rfl jC rfl ?_;refine gF ?_;refine H.Al (i:=1) rfl rfl rfl rfl jC rfl ?_;refine gF ?_;refine H.min2 (z:=((m:Nat):Int)) rfl rfl rfl jl rfl ?_;refine gI ?_;refine H.cl (hrun _) fun v f' A' hr=>?_;obtain⟨g3,vp,vc,fp,fc,dp,dc,hd3,rfl,rfl,rfl⟩:=hr;have le3:=le2.trans (Le.un e2 g3);have hq0c:=hq0b.mono (Le.un e2 g3)
    have hq1c:=hq1b.mono (Le.un e2 g3);clear hrun hd3 hq0b hq1b hatB
    generalize un e2 g3=e3 at *;show H _ _ _ _ _ (slc vp R.vd.length vc 56 1 (R.vd.flatMap vdV)::slc fp 0 fc 68 4 []::slc dp D.length dc 49 40 (D.flatMap Req.vals)::_) _;refine qhk ?_;refine H.pd (x:=slc dp _ _ 49 _ _) ?_
    have hsame:∀G,Fn prog 11 [.slice q0 m c0,.slice q1 m c1] e3 G (Ret (.bool true) e3 G):=fun G=>by
     have h1:=hq0c.take m;have h2:=hq1c.take m
     rw[←htk]at h2;have h3:=sameR_fn e3 G (ca:=c0) (cb:=c1) h1 h2 jd;rw[List.length_take,show min m D0.length=m by omega]at h3
     exact h3
    have hwk3:=fun G=>hwk e3 le3 G;clear htk
    refine gO ?_;refine qjn fun rb=>?_;refine H.Ag (ls:=repZ) (vs:=repV vp R.vd.length vc fp 0 fc kn dp D.length dc dv) (ls':=repV vp R.vd.length vc fp 0 fc kn dp D.length dc dv) rfl rfl rfl (zaa rfl) rfl rfl (Nat.le_refl 15) jB ?_;refine H.pf (x:=row zb _ _) ?_;refine H.pf (x:=row rb _ _) ?_;refine gI ?_;refine qgu ?_;refine HB.qu [0,1,2,3,4,5,6,7,8,9,10,11,12,13,14,15,16,17,18,19,20,21,22,23,24,25,26,27,28,29] 6 ?_;refine gZ ?_;refine HQ.Al (i:=0) rfl rfl rfl rfl jC rfl ?_;refine gP ?_;refine HQ.Al (i:=1) rfl rfl rfl rfl jC rfl ?_;refine gP ?_;refine HQ.max2 (z:=((mx:Nat):Int)) rfl rfl rfl jl rfl ?_;refine gZ ?_;refine HQ.Al (i:=0) rfl rfl rfl rfl jC rfl ?_;refine gP ?_;refine HQ.slice (lo:=none) (hi:=some (.tmp 183)) (mx:=none) (lv:=0) (hv:=m) (mv:=c0) rfl rfl rfl ⟨_,_,rfl,rfl⟩ rfl (fun h=>by cases h) (Nat.zero_le _) jA (Nat.le_refl _) rfl ?_;rw[slP0,Nat.sub_zero,Nat.sub_zero];skip;refine HQ.Al (i:=1) rfl rfl rfl rfl jC rfl ?_;refine gP ?_;refine HQ.slice (lo:=none) (hi:=some (.tmp 187)) (mx:=none) (lv:=0) (hv:=m) (mv:=c1) rfl rfl rfl ⟨_,_,rfl,rfl⟩ rfl (fun h=>by cases h) (Nat.zero_le _) jA (Nat.le_refl _) rfl ?_;rw[slP0,Nat.sub_zero,Nat.sub_zero];skip;refine qeo ?_;refine HB.ev 30 ?_;skip;refine H.cr (hsame _) ?_;refine qeg ?_;refine HB.qu [31,32] 3 ?_;refine qhY ?_;refine HB.ev 33 ?_;skip;refine H.cr (hwk3 _) ?_;refine qeg ?_;refine HB.qu [34,35] 0 ?_;refine qkM ?_;refine H.pd (x:=row rb _ _) ?_;refine H.pd (x:=row zb _ _) ?_;refine H.pd (x:=row hb _ _) ?_;refine H.pd (x:=row wb _ _) ?_;refine H.weakL (le1.trans le3) ?_;exact qaj
  ·skip;refine Fn.e4 func5 ntmps5 fun base=>?_;refine qkq ?_;refine gg ?_;exact qdw
end
end Go.Proofs.YtkaknokcbhiigaaGreatDoor

namespace Go.Proofs.YtkaknokcbhiigaaGreatDoor
open Go Go.Proofs.Tryz Go.ChangeShapes Go.WideShapes Go.RowKit Go.Deep
theorem and_t{a b:Bool}(ha:a=true)(hb:b=true):(a&&b)=true:=by rw[ha,hb];rfl
theorem Tryz.own:ownKnob prog.godebug=none:=by kernel_rfl
theorem Tryz.laidOut:laidOutB prog=true:=by kernel_rfl
abbrev laidL : List (String × DataW Unit) := [("ratchet/sha.table", Rows.laid_ratchet_sha_table)]
theorem door_met(os:Os)(args:Array Value):laidMetH prog laidL ((World.doorLaid prog 400 os).forCall (fun _ _=>0) ⟨#[],args,[]⟩).memory:=
 laidMetH_of_parts3 (fuel:=8) (laidMet_of_run' 8 jE jE) jE jE
theorem tab_eq:(Rows.laid_ratchet_sha_table:DataW Unit)= .agg ((Sha.k.map fun x=>((x.toNat:Nat):Int)).map fun z=>.lit (.int .u32 z)):=by kernel_rfl
theorem tab_of{W:World}(h:laidMetH prog laidL W):TabAt (memOf W):=by
 have h2 : laidMetH prog [("ratchet/sha.table", .agg ((Sha.k.map fun x => ((x.toNat : Nat) : Int)).map fun z => .lit (.int .u32 z)))] W := by rw [← tab_eq]; exact h
 exact laid_ints h2 jE jE (t:=235) (e:=183) underlying235 underlying183 jE
end Go.Proofs.YtkaknokcbhiigaaGreatDoor
