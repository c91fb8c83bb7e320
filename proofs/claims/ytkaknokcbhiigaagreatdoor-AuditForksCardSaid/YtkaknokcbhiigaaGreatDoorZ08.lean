/- Parts of the proof. No conditions. -/
import Derived.Test.YtkaknokcbhiigaaGreatDoorZ07
import Derived.RangeFuncLeaves
import Derived.RangeFuncRecord
import Derived.RangeFuncIn
set_option linter.unusedSectionVars false
/- Layer 15: the program's logs: a binary search; how many Prepares a number knows. No condition. -/
set_option maxHeartbeats 3200000
set_option maxRecDepth 20000
namespace Go.Proofs.YtkaknokcbhiigaaGreatDoor
open Go Tryz
def lowN(P:List (Int×Req))(t:Int):Nat:=(P.filter fun y=>decide (y.1<t)).length
def RiseN(P:List (Int×Req)):Prop:=∀(i j:Nat) (y z:Int×Req),i<j→P[i]? =some y→P[j]? =some z→y.1<z.1
variable {P:List (Int × Req)}
theorem low_eq{t:Int}{k:Nat}(hk:k≤P.length)(h1:∀(j:Nat) (y:Int×Req),j<k→P[j]? =some y→y.1<t)(h2:∀(j:Nat) (y:Int×Req),k≤j→P[j]? =some y→t≤y.1):lowN P t=k:=by
 unfold lowN;conv=>lhs;rw[←List.take_append_drop k P]
 rw[List.filter_append,List.length_append]
 have e1:(P.take k).filter (fun y=>decide (y.1<t))=P.take k:=List.filter_eq_self.2 fun y hy=>by
  obtain⟨j,hj⟩:=List.getElem?_of_mem hy
  have hjk:j<k:=by
   have:=(List.getElem?_eq_some_iff.1 hj).1;rw[List.length_take]at this
   omega
  rw[List.getElem?_take_of_lt hjk]at hj;exact decide_eq_true (h1 j y hjk hj)
 have e2:(P.drop k).filter (fun y=>decide (y.1<t))= []:=List.filter_eq_nil_iff.2 fun y hy=>by
  obtain⟨j,hj⟩:=List.getElem?_of_mem hy;rw[List.getElem?_drop]at hj
  have:=h2 (k+j) y jA hj;simp
  omega
 rw[e1,e2,List.length_take];show min k P.length+0=k;omega
theorem low_knows(hs:RiseN P)(t:Int):(P.filter fun y=>decide (y.1≤t)).length=lowN P t+(if P.any (fun y=>decide (y.1=t))=true then 1 else 0):=by
 induction P with
 |nil=>rfl
 | cons x P ih =>
  have hs2:RiseN P:=fun i j y z hij hy hz=>hs (i+1) (j+1) y z jA (by simpa using hy) (by simpa using hz)
  have hup:∀y∈P,x.1<y.1:=fun y hy=>by
   obtain⟨j,hj⟩:=List.getElem?_of_mem hy;exact hs 0 (j+1) x y jA rfl (by simpa using hj)
  have ih:=ih hs2;unfold lowN at ih⊢
  rw[List.filter_cons,List.filter_cons,List.any_cons];by_cases h1:x.1<t
  ·rw[if_pos (decide_eq_true jA),if_pos (decide_eq_true h1),decide_eq_false jA,Bool.false_or,List.length_cons,List.length_cons,ih];omega
  ·have e2:P.filter (fun y=>decide (y.1<t))= []:=List.filter_eq_nil_iff.2 fun y hy=>by have:=hup y hy;simp;omega
   have e3:P.filter (fun y=>decide (y.1≤t))= []:=List.filter_eq_nil_iff.2 fun y hy=>by have:=hup y hy;simp;omega
   have e4:P.any (fun y=>decide (y.1=t))=false:=List.any_eq_false.2 fun y hy=>by have:=hup y hy;simp;omega
   rw[e2,e3,e4,Bool.or_false,if_neg (show¬decide (x.1<t)=true by rw[decide_eq_false h1];decide)];by_cases h2:x.1=t
   ·rw[if_pos (decide_eq_true jA),decide_eq_true h2];rfl
   ·rw[if_neg (show¬decide (x.1≤t)=true by rw[decide_eq_false jA];decide),decide_eq_false h2];rfl
theorem shr1(m:Nat):shiftI .shr .u64 (m:Int) 1=some ((m / 2:Nat):Int):=by
 show some ((m:Int).fdiv 2)=some _;congr 1;rw[Int.fdiv_eq_ediv_of_nonneg _ jC];omega
theorem numV_len(y:Int×Req):(numV y).length=1:=rfl
variable {f:Frag} {A A':List HP} {c:Nat}
theorem num_rd{b:Nat}{T:TypeId}{i:Nat}{y:Int×Req}(h:At A (slc (some ⟨b,0,none⟩) P.length c T 1 (P.flatMap numV)) A' (slc (some ⟨b,0,none⟩) P.length c T 1 (P.flatMap numV)))(hy:P[i]? =some y):Rd1 f A b (0+i*1) (.int .u64 y.1):=by
 have h1:=Rd1.of (i:=0) (Rd.slcElem (f:=f) numV_len jC h hy) (v:=.int .u64 y.1) rfl;rw[Nat.add_zero]at h1
 rw[Nat.zero_add];exact h1
variable {p:Option Addr}
section
variable (f:Frag) (F:List HP)
theorem nan1_fn(x:Int):Fn prog 222 [.int .u64 x] f F (Ret (.bool false) f F):=by
 exact qdO
theorem nan2_fn(x:Int):Fn prog 218 [.int .u64 x] f F (Ret (.bool false) f F):=by
 refine Fn.e1 func218 ntmps218 fun base=>?_;exact qbR
theorem less64_fn(x y:Int):Fn prog 197 [.int .u64 x,.int .u64 y] f F (Ret (.bool (decide (x<y))) f F):=by
 refine Fn.e2 func197 ntmps197 fun base=>?_;refine gK ?_;refine H.Af rfl rfl rfl (nan1_fn f _ x) ?_;refine gU ?_;exact qam
theorem bsearch_fn(hs:RiseN P)(hl:P.length≤100000)(t:Int):
  Fn prog 190 [.slice p P.length c,.int .u64 t] f (slc p P.length c 35 1 (P.flatMap numV)::F)
   (Ret (.tuple #[.int .i64 (lowN P t:Nat),.bool (P.any fun y=>decide (y.1=t))]) f (slc p P.length c 35 1 (P.flatMap numV)::F)):=by
 refine Fn.e2 func190 ntmps190 fun base=>?_;refine gT ?_
 refine H.lo (ι:=Nat×Nat) (fun s=>[(7,.int .i64 (s.1:Int)),(8,.int .i64 (s.2:Int)),(6,.int .i64 (P.length:Nat)),(0,.slice p P.length c),(1,.int .u64 t)]) (fun _=>f)
  (fun _=>slc p P.length c 35 1 (P.flatMap numV)::F)
  (fun s=>s.1≤s.2∧s.2≤P.length∧(∀(j:Nat) (y:Int×Req),j<s.1→P[j]? =some y→y.1<t)∧∀(j:Nat) (y:Int×Req),s.2≤j→P[j]? =some y→t≤y.1) (fun s=>s.2-s.1)
  (0,P.length) ⟨Nat.zero_le _,Nat.le_refl _,fun j y h=>absurd h (Nat.not_lt_zero _),fun j y h hy=>by have:=(List.getElem?_eq_some_iff.1 hy).1;have h:P.length≤j:=h;omega⟩ fun s hs2=>?_
 obtain⟨i,j⟩:=s;obtain⟨hij,hjl,hlo,hhi⟩:i≤j∧j≤P.length∧(∀(k:Nat) (y:Int×Req),k<i→P[k]? =some y→y.1<t)∧∀(k:Nat) (y:Int×Req),j≤k→P[k]? =some y→t≤y.1:=hs2;show H _ _ _ [(7,.int .i64 (i:Int)),(8,.int .i64 (j:Int)),_,_,_] _ _ _;by_cases hlt:i<j
 ·obtain⟨h,hh⟩:∃h,h=(i+j) / 2:=⟨_,rfl⟩;have hhl:h<P.length:=jA
  obtain⟨y,hy⟩:∃y,P[h]? =some y:=⟨_,List.getElem?_eq_getElem hhl⟩;refine H.Ar (p:=p) (n0:=P.length) (c:=c) aP0 jA fun sb hp=>?_;subst hp;refine gZ ?_;refine H.Bo (op:=.shr) rfl rfl rfl (shr1 (i+j)) jC (congrArg Nat.cast hh.symm) rfl ?_;refine gV ?_;refine H.Ak (i:=h) rfl rfl rfl rfl hhl rfl ?_;refine H.Ad rfl rfl rfl (num_rd aP0 hy) rfl ?_;refine gK ?_;refine H.Af rfl rfl rfl (less64_fn f _ _ _) ?_;by_cases hyt:y.1<t
  ·skip;refine gZ ?_
   exact H.Av (h+1,j) ⟨by show h+1≤j;omega,hjl,fun k z hk hz=>by
    have hk:k<h+1:=hk;by_cases e:k=h
    ·rw[e,hy]at hz;cases hz;exact hyt
    ·have:=hs k h z y jA hz hy;omega,hhi⟩ (by show j-(h+1)<j-i;omega) ⟨rfl,rfl,rfl,rfl,rfl,trivial⟩ rfl rfl
  ·skip;refine gZ ?_
   exact H.Av (i,h) ⟨by show i≤h;omega,by show h≤P.length;omega,hlo,fun k z hk hz=>by
    have hk:h≤k:=hk;by_cases e:k=h
    ·rw[e,hy]at hz;cases hz;omega
    ·have:=hs h k y z jA hy hz;omega⟩ (by show h-i<j-i;omega) ⟨rfl,rfl,rfl,rfl,rfl,trivial⟩ rfl rfl
 ·have hij2:i=j:=jA
  have hlow:lowN P t=i:=low_eq jA hlo (fun k y h=>hhi k y jA);rw[hlow]
  by_cases hin:i<P.length
  ·obtain⟨y,hy⟩:∃y,P[i]? =some y:=⟨_,List.getElem?_eq_getElem hin⟩;refine H.Ar (p:=p) (n0:=P.length) (c:=c) aP0 jA fun sb hp=>?_;subst hp;by_cases hyt:y.1=t
   ·have hany:P.any (fun y=>decide (y.1=t))=true:=List.any_eq_true.2 ⟨y,List.mem_of_getElem? hy,decide_eq_true hyt⟩;rw[hany]
    refine gg ?_;refine qhx ?_;refine gg ?_;exact qbe
   ·have hany:P.any (fun y=>decide (y.1=t))=false:=List.any_eq_false.2 fun z hz=>by
     obtain⟨k,hk⟩:=List.getElem?_of_mem hz;rw[decide_eq_true_eq];intro e;rcases Nat.lt_trichotomy k i with h|h|h
     ·have:=hlo k z h hk;omega
     ·rw[h,hy]at hk;cases hk;exact hyt e
     ·have h1:=hs i k y z h hy hk;have h2:=hhi i y jA hy
      omega
    rw[hany];refine gg ?_;refine qhx ?_;refine gJ ?_;refine qhx ?_;refine H.Af rfl rfl rfl (nan2_fn f _ _) ?_;refine gX ?_;exact qbe
  ·have hany:P.any (fun y=>decide (y.1=t))=false:=List.any_eq_false.2 fun z hz=>by
    obtain⟨k,hk⟩:=List.getElem?_of_mem hz;rw[decide_eq_true_eq];intro e
    have:=(List.getElem?_eq_some_iff.1 hk).1
    have:=hlo k z jA hk;omega
   rw[hany];refine gU ?_;exact qbe
theorem until_fn{b hb:Nat}{w:Vw}{lp:Option Addr}{lc:Nat}{np:Option Addr}{nc:Nat}(hs:RiseN w.p)(hl:w.all.length≤100000)(t:Int):
  Fn prog 137 [.pointer (some ⟨b,0,none⟩),.int .u64 t] f (slc np w.p.length nc 35 1 (w.p.flatMap numV)::row b 162 (vwC w.num w.s.length lp w.all.length lc np w.p.length nc hb)::F)
   (Ret (.int .i64 (knowsV w t:Nat)) f (slc np w.p.length nc 35 1 (w.p.flatMap numV)::row b 162 (vwC w.num w.s.length lp w.all.length lc np w.p.length nc hb)::F)):=by
 have hal:=w.all_len;have hk:=low_knows hs t
 have hkl:knowsV w t=w.s.length+(lowN w.p t+(if w.p.any (fun y=>decide (y.1=t))=true then 1 else 0)):=by unfold knowsV;rw[hk]
 have hlow:lowN w.p t≤w.p.length:=List.length_filter_le _ _;have hbs:=fun G=>bsearch_fn f G (p:=np) (c:=nc) hs jA t
 rw[hkl];generalize lowN w.p t=k at *
 cases ha:w.p.any fun y=>decide (y.1=t)with
 | true =>
  rw[ha]at hbs;rw[if_pos rfl];exact qbZ
 | false =>
  rw[ha]at hbs;rw[if_neg jC];exact qbZ
end
def setD(d:Nat→Int)(k:Nat)(v:Int):Nat→Int:=fun j=>if j=k then v else d j
def Cs.deps(s:Cs):Nat→(Nat→Int)×Cs
 |0=>(fun _=>0,s)
 |k+1=>(setD (s.deps k).1 k ((s.deps k).2.num 8:Nat),(s.deps k).2.skip 8)
variable {d:Nat}
section
variable (f:Frag) (F:List HP)
theorem bequal_fn{r:Option Addr}{a b:List UInt8}(ha:Src prog f F (.slice p a.length c) 1 a.length (bytesV a))(hb:Src prog f F (.slice r b.length d) 1 b.length (bytesV b))(hpa:p=none→a= [])(hrb:r=none→b= []):
  Fn prog 73 [.slice p a.length c,.slice r b.length d] f F (Ret (.bool (decide (a=b))) f F):=by
 have e2:((⟨a.toArray⟩:ByteArray).toList == (⟨b.toArray⟩:ByteArray).toList)=decide (a=b):=by
  rw[ByteArray.toList_eq,ByteArray.toList_eq,Bool.eq_iff_iff,beq_iff_eq,decide_eq_true_eq]
 refine Fn.e2 func73 ntmps73 fun base=>?_;refine gK ?_;refine H.convBS rfl rfl ha hpa rfl ?_;refine gK ?_;refine H.convBS rfl rfl hb hrb rfl ?_;refine H.streq rfl rfl rfl rfl e2 rfl ?_;refine gT ?_;exact qam
end
def Cs.headD(b:List UInt8):Nat→Int:=((⟨b,false⟩:Cs).skip 1 |>.deps 11).1
def Cs.headS(b:List UInt8):Cs:=((⟨b,false⟩:Cs).skip 1 |>.deps 11).2
def kindOf(b:List UInt8):UInt8:=(Cs.headS b).byte
def bodyOf(b:List UInt8):Bod×Cs:=((Cs.headS b).skip 1).bodyK 32 128 (kindOf b) (kindOf b).toNat
def orgOf(b:List UInt8):Int:=((⟨b,false⟩:Cs).num 1:Nat)
variable {n m:Nat} {L:Env}
theorem H.slc_none{P:Program}{base:World}{K:Kont}{sz:Nat}{T:TypeId}{xs:List Value}(h:At A (slc p m c T sz xs) A' (slc p m c T sz xs))(k:(p=none→m=0)→H P base n L f A K):H P base n L f A K:=.mk fun a w hf s=>by
 obtain⟨h1,h2,h3⟩:=s.slc_at h
 refine(k ?_).out a w hf s
 intro hp
 rcases h3 with⟨h0,_⟩|⟨b,sp,hb,_⟩
 ·exact h0
 ·rw[hp]at hb;cases hb
section
variable (f:Frag) (F:List HP)
end
section
variable (f:Frag) (F:List HP)
end
section
variable (f:Frag) (F:List HP)
theorem tclient_fn(htab:TabAt f){i:Int}(h1:1≤i)(h2:i≤8):Fn prog 217 [.int .i64 i] f F (BytesR (Sha.word32 clientW i) f F):=by
 refine Fn.e1 func217 ntmps217 fun base=>?_;refine gK ?_;refine H.Al rfl rfl rfl (tkey_fn (w:=⟨#[114,97,116,99,104,101,116,32,99,108,105,101,110,116]⟩) f _ htab h1 h2 jC jC) fun p1 c1=>?_;exact qbn
theorem sign_fn(htab:TabAt f){r:Req}(ha:r.asked):Fn prog 188 [.agg r.vals.toArray] f F (Ret (.agg (b32 r.sig).toArray) f F):=by
 have hbl:=Req.bytes_max ha;have hcl:=fun G=>tclient_fn f G htab ha.1 ha.2.1
 have hrq:=fun G p c=>request_fn f G (p:=p) (c:=c) (l:=[]) r ha jC;have hk:(Sha.word32 clientW r.client).length=32:=rfl
 unfold Req.sig;generalize Sha.word32 clientW r.client=key at hk hcl⊢;rw[show([]:List UInt8)++r.bytes=r.bytes from rfl]at hrq;generalize r.bytes=rb at hbl hrq⊢;refine Fn.e1 func188 ntmps188 fun base=>?_;refine qeL fun qb=>?_;refine qgz fun ob=>?_;refine gA ?_;refine qey ?_;refine qeH ?_;refine HB.qu [0,1,3] 4 ?_;refine gR ?_;refine qfo ?_;refine qel ?_;refine HB.ev 2 ?_;refine H.Al rfl rfl rfl (hcl _) fun p1 c1=>?_;refine qft ?_;refine HB.ev 4 ?_;refine H.slc0 5 1 ?_;refine H.Al rfl rfl rfl (hrq _ none 0) fun p2 c2=>?_;refine qia fun hc2 _ _=>?_;refine gA ?_;refine qj ?_;refine HB.ev 5 ?_;refine H.pf (x:=slc p2 _ _ _ _ _) ?_;refine H.pf (x:=slc p1 _ _ _ _ _) ?_;refine H.Af rfl rfl rfl (thmac_ss f _ htab (key:=key) (b:=rb) hc2 jA jA) ?_;generalize Sha.hmac key rb=t;refine qjn ?_;refine qed ?_;refine HB.ev 6 ?_;refine H.Ag (ls:=zb 32) (vs:=b32 t) (ls':=b32 t) rfl rfl rfl (zaa rfl) rfl rfl (Nat.le_refl 32) at1 ?_;refine qeQ ?_;refine qjb ?_;exact qbT
theorem auth_fn(htab:TabAt f)(r:Req):Fn prog 134 [.agg r.vals.toArray] f F (Ret (.bool r.auth) f F):=by
 have has:=fun G=>asked_fn f G r;unfold Req.auth
 by_cases ha:r.asked
 ·have hsg:=fun G=>sign_fn f G htab ha;have hsm:=fun G=>tsame_fn f G (a:=r.tag) (b:=r.sig)
  rw[decide_eq_true ha,Bool.true_and];rw[decide_eq_true ha]at has;generalize eq32 r.tag r.sig=e at hsm⊢;generalize r.sig=t at hsg hsm;refine Fn.e1 func134 ntmps134 fun base=>?_;refine qeL fun qb=>?_;refine qir ?_;refine HB.qu [0] 9 ?_;refine qgS ?_;refine HB.qu [2,3,4,5] 4 ?_;refine gR ?_;refine HQ.Ab (ls:=b32 r.tag) rfl rfl rfl (req_tag aP0) rfl rfl ?_;refine qfo ?_;refine qiI ?_;refine H.cr (hsg _) ?_;refine qed ?_;refine HB.ev 7 ?_;refine H.cr (hsm _) ?_;refine gA ?_;exact qdX
 ·rw[decide_eq_false ha,Bool.false_and];rw[decide_eq_false ha]at has;refine Fn.e1 func134 ntmps134 fun base=>?_;refine qeL fun qb=>?_;refine qir ?_;refine HB.qu [0] 9 ?_;refine qgS ?_;refine HB.qu [2,3,4,5] 4 ?_;refine gS ?_;refine qiI ?_;refine qgG ?_;refine HB.ev 7 ?_;refine gC ?_;exact qdX
end
theorem past_updF(pb:Nat→Nat)(past:Nat→PM)(r:Nat)(s:PM):updF (fun j=>pastH (pb j) (past j)) r (pastH (pb r) s)=fun j=>pastH (pb j) (updF past r s j):=by
 funext j;unfold updF;by_cases h:j=r
 ·subst h;rw[if_pos rfl,if_pos rfl]
 ·rw[if_neg h,if_neg h]
variable {V:List PV}
theorem ent_set{j:Nat}{X Y:PV}(hX:V[j]? =some X)(h1:Y.w.v=X.w.v)(h2:Y.b=X.b):(V.set j Y).map PV.ent=V.map PV.ent:=by
 rw[List.map_set];refine set_self ?_;rw[List.getElem?_map,hX];show some X.ent=some Y.ent;unfold PV.ent;rw[h1,h2]
variable {qc:Nat}
theorem msg_req{mb:Nat}{T:TypeId}{m:Msg}{q:Option Addr}(h:At A (row mb T (m.vals q qc)) A' (row mb T (m.vals q qc))):Rd f A mb (0+13+3) m.body.req.vals:=by
 have h1:=zcc (f:=f) h;have e:m.body.vals q qc= [.int .u8 (m.body.kind.toNat:Nat),.int .u64 m.body.view,.int .u64 m.body.k]++m.body.req.vals++([.slice q m.body.q.length qc]++b32 m.body.dig):=by unfold Bod.vals;simp only[List.append_assoc]
 exact qbQ
theorem Vw.put_all(w:Vw)(y:Int×Req):({w with p:=w.p++ [y]}:Vw).all=w.all++ [y.2]:=by
 unfold Vw.all;show w.s++(w.p++ [y]).map Prod.snd=w.s++w.p.map Prod.snd++ [y.2];rw[List.map_append,List.append_assoc];rfl
variable {T r lb:Nat} {fl:Frag} {l:Lgs} {x:MV}
section
variable (f:Frag) (F:List HP)
theorem plprep_fn(htab:TabAt f)(hfl:Le fl f)(hL:LI l T)(hT:T≤50000)(hm:MIn l.n x.m)(hk:x.m.body.kind=1){i:PPt}(hi:plφ fl l i)(hre:r=orgI x.m):
  Fn prog 93 [.pointer (some ⟨lb,0,none⟩),.agg x.vals.toArray,.pointer (some ⟨i.pb r,0,none⟩)] f (plB lb l i++F) (Ret (.bool (l.counts x.m).1) f (plogH f lb (l.counts x.m).2::F)):=by
 have hiF:=hi.mono hfl;have hn:=hL.n3
 have hor:=hm.o;have hr:r<l.n:=by rw[hre];unfold orgI;omega
 have hwf:=hL.wf r hr;have hil:=hL.il r hr
 have hvl:=hL.vl;have hv0:=hm.v
 have hvs:=hi.vs;obtain⟨V,vb,pp,pc,cp,cc,pb,cs⟩:=i
 have hvs:(V.map PV.w).Perm l.vs:=hvs;have hprim:=fun G=>plprim_fn f G (lb:=lb) (n:=l.n) (kn:=l.known) (vb:=vb) (pp:=pp) (pc:=pc) (cp:=cp) (cc:=cc) jA hv0
 refine qek ?_
 cases hat:vwAt l.vs x.m.body.view with
 | none =>
  rw[Lgs.counts_1n hk hat];have hget:(getKV (V.map PV.ent) x.m.body.view).getD (.pointer none)= .pointer none:=by rw[view_none hvs hat];rfl
  by_cases hp:primZ l.n x.m.body.view=x.m.origin
  ·exact qai
  ·exact qai
 | some iv =>
  obtain⟨⟨w,hw,hwv⟩,_⟩:=zar.1 hat;obtain⟨j,X,hX,hXw,hgetX⟩:=view_some hvs hL.rise hat hw;have hget:(getKV (V.map PV.ent) x.m.body.view).getD (.pointer none)= .pointer (some ⟨X.b,0,none⟩):=by rw[hgetX];rfl
  rw[Lgs.counts_1 hk hat hw,←hre];subst hXw;have hXl:=hL.al X.w (List.mem_of_getElem? hw);have hXa:=X.w.all_len
  by_cases hp:primZ l.n x.m.body.view=x.m.origin
  ·have hau:=fun G=>auth_fn f G htab x.m.body.req
   cases ha:x.m.body.req.auth with
   | false =>
    rw[if_pos (.inr (.inl rfl))];rw[ha]at hau;refine Fn.e3 func93 ntmps93 fun base=>?_;refine qej fun mb=>?_;refine qeK fun qb=>?_;refine qes ?_;refine H.Ck (x:=X.own) (i:=j) jH ?_;refine qgs ?_;refine gA ?_;exact qbS
   | true =>
    rw[ha]at hau
    have hheld:(getKV (heldKV X.w.all) (x.m.body.req.client,x.m.body.req.time)).getD (.bool false)= .bool (holdsB X.w.all x.m.body.req.client x.m.body.req.time):=by
     rw[held_get];cases holdsB X.w.all x.m.body.req.client x.m.body.req.time<;>rfl
    cases hh:holdsB X.w.all x.m.body.req.client x.m.body.req.time with
    | true =>
     rw[hh]at hheld;rw[if_pos (.inr (.inr (.inl rfl)))];refine Fn.e3 func93 ntmps93 fun base=>?_;refine qej fun mb=>?_;refine qeK fun qb=>?_;refine qes ?_;refine H.Ck (x:=X.own) (i:=j) jH ?_;refine qeU ?_;refine gC ?_;exact qao
    | false =>
     rw[hh]at hheld;have hpr:=fun G=>prepare_fn f G (pb r) (l.past r) (hwf.mono (B':=60000) jA) jC jA x.m.body.view;refine Fn.e3 func93 ntmps93 fun base=>?_
     refine qej fun mb=>?_;refine qeK fun qb=>?_;refine qes ?_;refine H.Ck (x:=X.own) (i:=j) jH ?_;refine qeU ?_;refine qkq ?_;refine H.cr (hpr _) ?_
     cases hop:(l.past r).isOpen x.m.body.view with
     | false =>
      rw[if_pos (.inr (.inr (.inr rfl)))];rw[show(l.past r).prepare x.m.body.view=l.past r by unfold PM.prepare;rw[hop];rfl];refine qjl ?_;refine gA ?_;refine qgw ?_;refine H.pf (x:=row qb _ _) ?_;exact qao
     | true =>
      rw[if_neg (by rintro(h|h|h|h)<;>first|exact of_decide_eq_false h hp|cases h)];refine qhy ?_;rw[past_updF];refine gA ?_;refine qgw ?_;refine qj ?_;refine HB.qu [31,32] 0 ?_;refine qfh ?_;refine gV ?_;refine H.Ab (ls:=x.m.body.req.vals) rfl rfl rfl (Rd.ofRow aP0) rfl rfl ?_;refine H.pf (x:=mp X.hb _ _) ?_;refine H.pf (x:=slc X.lp _ X.lc _ _ _) ?_;refine qib ?_;refine H.Aq rfl rfl rfl (vput_fn f _ jA x.m.body.req) fun v f' A' hR=>?_;obtain⟨lp2,lc2,hff,rfl⟩:=hR;rw[hff];have hput:=X.w.put_all (x.m.number,x.m.body.req);show H _ _ _ _ _ (row X.b _ (vwC X.w.num X.w.s.length lp2 (X.w.all++ [x.m.body.req]).length lc2 X.np X.w.p.length X.nc X.hb)::slc lp2 (X.w.all++ [x.m.body.req]).length lc2 _ 40 ((X.w.all++ [x.m.body.req]).flatMap Req.vals)::mp X.hb encA (heldKV (X.w.all++ [x.m.body.req]))::_) _
      rw[←hput];clear hput;refine gA ?_;refine qib ?_;refine qer ?_;refine qkO ?_;refine HB.qu [0,1,2,3,4,5,6] 5 ?_;refine qfu ?_;refine HB.ev 7 ?_;refine H.Am (out:=numV (x.m.number,x.m.body.req)) rfl rfl rfl rfl jC jC rfl rfl fun eb=>?_;refine gA ?_;refine qib ?_;refine qjZ ?_;refine HB.ev 8 ?_;refine H.Au (sz:=1) (p:=X.np) (n0:=X.w.p.length) (c:=X.nc) (xs:=X.w.p.flatMap numV) (m:=1) (news:=numV (x.m.number,x.m.body.req)) rfl rfl rfl rfl rfl (fun p' c'=>jB) (Src.slice (Rd.ofRow jB) rfl) (zaa rfl) rfl jA jA fun np2 nc2=>?_;refine qkE ?_;refine qgU ?_;refine HB.qu [9,10] 1 ?_;refine qfu ?_;refine HB.ev 11 ?_;refine H.Bb (ls:=vwC X.w.num X.w.s.length lp2 ({X.w with p:=X.w.p++ [(x.m.number,x.m.body.req)]}:Vw).all.length lc2 X.np X.w.p.length X.nc X.hb) (ls':=vwC X.w.num X.w.s.length lp2 ({X.w with p:=X.w.p++ [(x.m.number,x.m.body.req)]}:Vw).all.length lc2 np2 (X.w.p.length+1) nc2 X.hb) rfl rfl rfl rfl at1 jJ ?_;refine qeQ ?_;refine gT ?_;have e1:X.w.p.length+1=(X.w.p++ [(x.m.number,x.m.body.req)]).length:=by rw[List.length_append];rfl
      have e2:X.w.p.flatMap numV++numV (x.m.number,x.m.body.req)=(X.w.p++ [(x.m.number,x.m.body.req)]).flatMap numV:=by rw[List.flatMap_append];rfl
      rw[e1,e2];refine H.pf (x:=mp X.hb _ _) ?_;refine H.pf (x:=slc np2 _ nc2 _ _ _) ?_;refine H.pf (x:=slc lp2 _ lc2 _ _ _) ?_;refine qib ?_;refine H.imp (zbw (x:=⟨{X.w with p:=X.w.p++ [(x.m.number,x.m.body.req)]},X.b,lp2,lc2,np2,nc2,X.hb⟩)) ?_;obtain⟨Y,hY⟩:∃Y:PV,Y=⟨{X.w with p:=X.w.p++ [(x.m.number,x.m.body.req)]},X.b,lp2,lc2,np2,nc2,X.hb⟩:=⟨_,rfl⟩;rw[←hY];refine H.pf (x:=lst ((V.map PV.own).set j emp)) ?_;refine H.pf (x:=Y.own) ?_;refine H.lstPut (x0:=X.own) jH ?_;rw[←List.map_set,←ent_set (Y:=Y) hX (by rw[hY]) (by rw[hY])];have hVw:(V.map PV.w)[j]? =some X.w:=by rw[List.getElem?_map,hX];rfl
      have hperm:((V.set j Y).map PV.w).Perm (l.vs.set iv {X.w with p:=X.w.p++ [(x.m.number,x.m.body.req)]}):=by
       rw[List.map_set,show Y.w= {X.w with p:=X.w.p++ [(x.m.number,x.m.body.req)]} by rw[hY]];exact perm_set hvs hVw hw
      refine qeD ?_;refine H.pd (x:=row qb _ _) ?_;refine qeO ?_;refine H.pf (x:=lst ((V.set j Y).map PV.own)) ?_;refine qkd ?_;refine H.imp (zal (l:={l with past:=updF l.past r ((l.past r).prepare x.m.body.view),vs:=l.vs.set iv {X.w with p:=X.w.p++ [(x.m.number,x.m.body.req)]} }) ⟨V.set j Y,vb,pp,pc,cp,cc,pb,cs⟩ ⟨hperm,hiF.p⟩) ?_;exact qam
  ·rw[if_pos (.inl (decide_eq_false hp))];refine Fn.e3 func93 ntmps93 fun base=>?_;refine qej fun mb=>?_;refine qeK fun qb=>?_;refine qes ?_;refine H.Ck (x:=X.own) (i:=j) jH ?_;refine qkX ?_;refine qh ?_;refine gC ?_;exact qbS
end
section
variable (f:Frag) (F:List HP)
theorem plcommit_fn(hfl:Le fl f)(hL:LI l T)(hT:T≤50000)(hok:x.m.body.Ok)(hm:MIn l.n x.m)(hk:x.m.body.kind=2)(hR:∀w∈l.vs,RiseN w.p){i:PPt}(hi:plφ fl l i)(hre:r=orgI x.m):
  Fn prog 94 [.pointer (some ⟨lb,0,none⟩),.agg x.vals.toArray,.pointer (some ⟨i.pb r,0,none⟩)] f (plB lb l i++F) (Ret (.bool (l.counts x.m).1) f (plogH f lb (l.counts x.m).2::F)):=by
 have hiF:=hi.mono hfl;have hn:=hL.n3
 have hor:=hm.o;have hr:r<l.n:=by rw[hre];unfold orgI;omega
 have hwf:=hL.wf r hr;have hil:=hL.il r hr
 have hvl:=hL.vl;have hv0:=hm.v
 have hvs:=hi.vs;obtain⟨V,vb,pp,pc,cp,cc,pb,cs⟩:=i
 have hvs:(V.map PV.w).Perm l.vs:=hvs;have hprim:=fun G=>plprim_fn f G (lb:=lb) (n:=l.n) (kn:=l.known) (vb:=vb) (pp:=pp) (pc:=pc) (cp:=cp) (cc:=cc) jA hv0
 have hpl:primI l.n x.m.body.view<11:=by
  exact qdb
 have hpz:primZ l.n x.m.body.view-1=(primI l.n x.m.body.view:Nat):=by unfold primZ;omega
 refine qek ?_
 cases hat:vwAt l.vs x.m.body.view with
 | none =>
  rw[Lgs.counts_2n hk hat];have hget:(getKV (V.map PV.ent) x.m.body.view).getD (.pointer none)= .pointer none:=by rw[view_none hvs hat];rfl
  by_cases hp:primZ l.n x.m.body.view=x.m.origin
  ·skip;exact qaq
  ·skip;exact qaq
 | some iv =>
  obtain⟨⟨w,hw,hwv⟩,_⟩:=zar.1 hat;obtain⟨j,X,hX,hXw,hgetX⟩:=view_some hvs hL.rise hat hw;have hget:(getKV (V.map PV.ent) x.m.body.view).getD (.pointer none)= .pointer (some ⟨X.b,0,none⟩):=by rw[hgetX];rfl
  rw[Lgs.counts_2 hk hat hw,←hre];subst hXw;have hXl:=hL.al X.w (List.mem_of_getElem? hw);have hXa:=X.w.all_len
  have hXr:=hR X.w (List.mem_of_getElem? hw);by_cases hp:primZ l.n x.m.body.view=x.m.origin
  ·rw[decide_eq_true hp,if_pos rfl];exact qaq
  ·rw[decide_eq_false hp,if_neg jC];have hkn:=knowsV_le X.w (x.m.deps (primI l.n x.m.body.view));have hun:=fun G=>until_fn f G (b:=X.b) (hb:=X.hb) (w:=X.w) (lp:=X.lp) (lc:=X.lc) (np:=X.np) (nc:=X.nc) hXr jA (x.m.deps (primI l.n x.m.body.view))
   have hvd:(v11 x.m.deps)[primI l.n x.m.body.view]? =some (.int .u64 (x.m.deps (primI l.n x.m.body.view))):=zav _ hpl;generalize hmo:(knowsV X.w (x.m.deps (primI l.n x.m.body.view)):Nat)=most at *
   have hcm:=fun G=>commit_fn f G (pb r) (l.past r) (hwf.mono (B':=60000) jA) jC jA x.m.body.view x.m.body.k (most:Int) hok.2.1 jA;refine Fn.e3 func94 ntmps94 fun base=>?_
   refine qej fun mb=>?_;refine qfw ?_;refine qet ?_;refine H.cr (hprim _) ?_;refine gK ?_;refine qer ?_;refine qeH ?_;refine HB.qu [0,1,2,3,4,5,6,7,8,9,10,11,12,13,14,15,16,17,18,19] 4 ?_;refine gP ?_;refine HQ.Ao (i:=primI l.n x.m.body.view) rfl rfl rfl hpz hpl rfl ?_;refine HQ.Ad rfl rfl rfl (by rw[Nat.mul_one];exact Rd1.of (zau (m:=x.m) (q:=x.qp) (qc:=x.qc) aP0) hvd) rfl ?_;skip;refine qel ?_;refine HB.ev 20 ?_;refine qhU ?_;refine H.Ck (x:=X.own) (i:=j) jH ?_;refine H.ownOpen ?_;refine qeu ?_;refine H.pf (x:=slc X.np _ X.nc _ _ _) ?_;refine H.cr (hun _) ?_;refine qez ?_;refine H.Cl jH ?_;refine qfA ?_;refine HB.ev 21 ?_;refine qkq ?_;refine H.cr (hcm _) ?_;refine qhy ?_;rw[past_updF];refine qfA ?_;refine HB.qu [22,23] 0 ?_;refine qfh ?_;refine gT ?_;exact qbc
end
theorem Lgs.begins_kn(l:Lgs)(k:Nat→Int)(m:Msg):({l with known:=k}:Lgs).begins m=((l.begins m).1,{(l.begins m).2 with known:=k}):=by
 unfold Lgs.begins;by_cases h1:m.body.q.length≠(l.n-1) / 2+1
 ·rw[if_pos h1,if_pos h1]
 ·rw[if_neg h1,if_neg h1];by_cases h2:(m.body.q.all fun q=>decide (q.2≤m.deps (q.1-1).toNat)&& chB l q m.body.view)=false
  ·rw[if_pos h2];rw[if_pos (show(m.body.q.all fun q=>decide (q.2≤m.deps (q.1-1).toNat)&& chB {l with known:=k} q m.body.view)=false from h2)]
  ·rw[if_neg h2];rw[if_neg (show¬(m.body.q.all fun q=>decide (q.2≤m.deps (q.1-1).toNat)&& chB {l with known:=k} q m.body.view)=false from h2)];show(if(l.past (orgI m)).enterOk m.body.view (bestQ l.past m.body.view m.body.q (0,0)).2=false then _ else _)=_;split<;>rfl
theorem Lgs.counts_kn(l:Lgs)(k:Nat→Int)(m:Msg):({l with known:=k}:Lgs).counts m=((l.counts m).1,{(l.counts m).2 with known:=k}):=by
 by_cases h3:m.body.kind=3
 ·rw[Lgs.counts_3 h3,Lgs.counts_3 h3];show(if(l.past (orgI m)).changeOk m.body.view=true then _ else _)=_;split<;>rfl
 ·by_cases h4 : m.body.kind = 4
  ·rw[Lgs.counts_4 h4,Lgs.counts_4 h4,Lgs.begins_kn];exact qde
  ·by_cases h5 : m.body.kind = 5
   ·cases hat:vwAt l.vs m.body.view with
    |none=>rw[Lgs.counts_5n (l:={l with known:=k}) h5 hat,Lgs.counts_5n h5 hat]
    | some i =>
     obtain⟨⟨w,hw,_⟩,_⟩:=zar.1 hat;rw[Lgs.counts_5 (l:={l with known:=k}) h5 hat hw,Lgs.counts_5 h5 hat hw];show(if m.deps (primI l.n m.body.view)<w.num then _ else _)=_;split<;>rfl
   ·by_cases h1 : m.body.kind = 1
    ·cases hat:vwAt l.vs m.body.view with
     |none=>rw[Lgs.counts_1n (l:={l with known:=k}) h1 hat,Lgs.counts_1n h1 hat]
     | some i =>
      obtain⟨⟨w,hw,_⟩,_⟩:=zar.1 hat;rw[Lgs.counts_1 (l:={l with known:=k}) h1 hat hw,Lgs.counts_1 h1 hat hw];show(if decide (primZ l.n m.body.view=m.origin)=false∨m.body.req.auth=false∨holdsB w.all m.body.req.client m.body.req.time=true∨(l.past (orgI m)).isOpen m.body.view=false then _ else _)=_;split<;>rfl
    ·by_cases h2 : m.body.kind = 2
     ·cases hat:vwAt l.vs m.body.view with
      |none=>rw[Lgs.counts_2n (l:={l with known:=k}) h2 hat,Lgs.counts_2n h2 hat]
      | some i =>
       obtain⟨⟨w,hw,_⟩,_⟩:=zar.1 hat;rw[Lgs.counts_2 (l:={l with known:=k}) h2 hat hw,Lgs.counts_2 h2 hat hw];exact qde
     ·rw[Lgs.counts_x h3 h4 h5 h1 h2,Lgs.counts_x h3 h4 h5 h1 h2]
theorem plC_set(n:Nat)(kn:Nat→Int)(vb:Nat)(pp:Option Addr)(pc:Nat)(cp:Option Addr)(cc:Nat)(z:Int){o:Nat}(h:o<11):SetV (plC n kn vb pp pc cp cc) (0+1+o*1) (.int .u64 z) (plC n (updF kn o z) vb pp pc cp cc):=by
 have h1:=(v11_upd kn z h).mid [.int .i64 (n:Int)] [.map (some vb),.slice pp n pc,.slice cp n cc];rw[Nat.mul_one]
 exact h1
def Lgs.more(l:Lgs)(m:Msg):Lgs:={l with known:=updF l.known (orgI m) (l.known (orgI m)+1)}
variable {vb pc cc:Nat} {pp cp:Option Addr} {fid:FuncId}
section
variable (f:Frag) (F:List HP)
theorem pltk1_fn{lv:Nat}{kn:Nat→Int}(x:Int×Int):Fn prog 51 ([]++ [.agg (pairV x).toArray]++ [.pointer (some ⟨lv,0,none⟩)]) f (row lv 80 [.pointer (some ⟨lb,0,none⟩)]::row lb 124 (plC n kn vb pp pc cp cc)::F)
  (Ret (.bool (decide ((n:Int)<x.1))) f (row lv 80 [.pointer (some ⟨lb,0,none⟩)]::row lb 124 (plC n kn vb pp pc cp cc)::F)):=by
 refine Fn.e2 func51 ntmps51 fun base=>?_;exact qco
theorem pltake_fn(hfl:Le fl f)(hL:LI l T)(hT:T≤40000)(hx:x.Good f)[Fun prog fid]
  (hB:∀G,Fn prog 52 [.int .u8 (x.m.body.kind.toNat:Nat)] f G (Ret (.func (.func fid) #[] #[]) f G))
  (hC:x.m.may=true→MIn l.n x.m→∀(i:PPt) (G:List HP),plφ fl (l.more x.m) i→Fn prog fid [.pointer (some ⟨lb,0,none⟩),.agg x.vals.toArray,.pointer (some ⟨i.pb (orgI x.m),0,none⟩)] f (plB lb (l.more x.m) i++G) (Ret (.bool ((l.more x.m).counts x.m).1) f (plogH f lb ((l.more x.m).counts x.m).2::G))) :
  Fn prog 25 [.pointer (some ⟨lb,0,none⟩),.agg x.vals.toArray] f (plogH fl lb l::F) (Ret (.tuple #[.bool (l.take x.m).1.1,.int .i64 (l.take x.m).1.2]) f (plogH f lb (l.take x.m).2::F)):=by
 refine qjW fun i0 hi=>?_;obtain⟨V,vb,pp,pc,cp,cc,pb,cs⟩:=i0;have hiF:=hi.mono hfl;have hn:=hL.n3
 have hmay:=fun G=>mmay_fn f G hx;refine qek ?_
 refine Fn.e2 func25 ntmps25 fun base=>?_;refine qgk fun lv=>?_;refine qjk fun mb=>?_;refine gc ?_;refine qfq ?_;refine H.cr (hmay _) ?_
 cases hm:x.m.may with
 | false =>
  refine qjq ?_;refine gD ?_;refine qfE ?_;refine H.Ba rfl rfl rfl (fun _ h=>h) ⟨?_,rfl,?_⟩
  ·unfold Lgs.take;rw[if_pos (.inl hm)]
  ·unfold Lgs.take;rw[if_pos (.inl hm)]
 | true =>
  have hou:=Msg.may_outer hm;unfold Msg.outer at hou
  refine qhP ?_;by_cases ho:(l.n:Int)<x.m.origin
  ·skip;refine gV ?_;refine qkH ?_;refine gG ?_;refine qfE ?_;refine H.Ba rfl rfl rfl (fun _ h=>h) ⟨?_,rfl,?_⟩
   ·unfold Lgs.take;rw[if_pos (.inr (.inl ho))]
   ·unfold Lgs.take;rw[if_pos (.inr (.inl ho))]
  ·skip;refine gV ?_;refine qkH ?_;refine gJ ?_; have hql : x.m.body.q.length ≤ 1000000000 := by have := hx.2.1; omega
   have hcl:=fun G=>hasQ_fn f (row lv 80 [.pointer (some ⟨lb,0,none⟩)]::row lb 124 (plC l.n l.known vb pp pc cp cc)::G) (c:=x.qc) hx.1 hql (fun p=>decide ((l.n:Int)<p.1)) fun p _=>pltk1_fn f G p;refine qet ?_
   refine H.pf (x:=row lv _ _) ?_;refine H.cr (hcl _) ?_;clear hcl;refine qer ?_
   cases hany:x.m.body.q.any fun p=>decide ((l.n:Int)<p.1)with
   | true =>
    have hqin:qIn l.n x.m=false:=by
     obtain⟨y,hy,h1⟩:=List.any_eq_true.1 hany;have h1:=of_decide_eq_true h1;exact List.all_eq_false.2 ⟨y,hy,by rw[decide_eq_false jA];decide⟩
    refine gD ?_;refine qfE ?_;refine H.Ba rfl rfl rfl (fun _ h=>h) ⟨?_,rfl,?_⟩
    ·unfold Lgs.take;rw[if_pos (.inr (.inr hqin))]
    ·unfold Lgs.take;rw[if_pos (.inr (.inr hqin))]
   | false =>
    have hqin:qIn l.n x.m=true:=List.all_eq_true.2 fun y hy=>by
     have h1:=List.any_eq_false.1 hany y hy;rw[decide_eq_true_eq]at h1
     exact decide_eq_true jA
    have hmi:MIn l.n x.m:=may_MIn hm jA hqin hx.2.2.1.1
    have hno:¬(x.m.may=false∨(l.n:Int)<x.m.origin∨qIn l.n x.m=false):=by
     exact qcV
    obtain⟨o,hoe⟩:∃o,o=orgI x.m:=⟨_,rfl⟩;have hoz:x.m.origin-1=(o:Nat):=by rw[hoe];unfold orgI;omega
    have ho11:o<11:=jA
    have hon:o<l.n:=jA
    have hkn:=hL.kn o;have hCl:=hC hm hmi
    clear hany hmay hC;refine gV ?_;refine H.dq ?_;refine qiK ?_;refine gI ?_;by_cases hnum:x.m.number=l.known o+1
    ·skip;refine gJ ?_;refine qjL ?_
     refine H.lo (ι:=Nat) (fun i=>[(42,.int .i64 (i:Int)),(41,.agg (v11 x.m.deps).toArray),(2,.pointer (some ⟨lv,0,none⟩)),(3,.pointer (some ⟨mb,0,none⟩))]) (fun _=>f) (fun _=>row mb 54 x.vals::row lv 80 [.pointer (some ⟨lb,0,none⟩)]::row lb 124 (plC l.n l.known vb pp pc cp cc)::mp vb keyU (V.map PV.ent)::lst (V.map PV.own)::fam (fun r=>pastH (pb r) (l.past r)) l.n::slc cp l.n cc 226 1 (chRow l cs)::fam (pcFam l cs) l.n::F)
      (fun i=>i≤11∧∀j,j<i→x.m.deps j≤l.known j) (fun i=>11-i) 0 ⟨Nat.zero_le _,fun j hj=>by omega⟩ fun i hi3=>?_
     obtain⟨hi3,hdn⟩:i≤11∧∀j,j<i→x.m.deps j≤l.known j:=hi3;by_cases hi11:i<11
     ·skip;refine gG ?_;refine H.indexV (xs:=v11 x.m.deps) (i:=i) rfl rfl rfl rfl hi11 rfl (zav x.m.deps hi11) rfl ?_;refine gF ?_;refine H.Ao (i:=i) rfl rfl rfl rfl hi11 rfl ?_;refine H.Ad rfl rfl rfl (by rw[Nat.mul_one];exact Rd1.of (plC_kn at2) (zav l.known hi11)) rfl ?_;by_cases hdt:x.m.deps i≤l.known i
      ·exact qbA
      ·have hdf:depsIn x.m l.known=false:=List.all_eq_false.2 ⟨i,List.mem_range.2 hi11,by rw[decide_eq_false hdt];decide⟩;refine gG ?_
       refine qfE ?_;refine H.Ba rfl rfl rfl (fun _ h=>h) ⟨?_,rfl,?_⟩
       ·unfold Lgs.take;rw[if_neg hno,if_pos (.inr hdf)]
       ·unfold Lgs.take;rw[if_neg hno,if_pos (.inr hdf)]
     ·have hdin:depsIn x.m l.known=true:=List.all_eq_true.2 fun j hj=>decide_eq_true (hdn j kA);have hnk:=l.counts_nk x.m
      have htk:l.take x.m=((((l.more x.m).counts x.m).1,0),((l.more x.m).counts x.m).2):=by
       have e1:=l.counts_kn (updF l.known (orgI x.m) (l.known (orgI x.m)+1)) x.m
       have e2:l.take x.m=(((l.counts x.m).1,0),{(l.counts x.m).2 with known:=updF (l.counts x.m).2.known (orgI x.m) ((l.counts x.m).2.known (orgI x.m)+1)}):=by
        exact qcr
       unfold Lgs.more;rw[e1,e2,hnk.2]
      rw[htk];clear htk hnk;have hiM:plφ fl (l.more x.m) ⟨V,vb,pp,pc,cp,cc,pb,cs⟩:=⟨hi.vs,hi.p⟩;have hpa:=fun G=>plpast_fn f G hfl (lb:=lb) hiM (by show l.n≤11;omega) (o:=o) (by show o<l.n;exact hon) (r:=x.m.origin) jA
      have hpl:plB lb (l.more x.m) ⟨V,vb,pp,pc,cp,cc,pb,cs⟩= [row lb 124 (plC l.n (updF l.known o (l.known o+1)) vb pp pc cp cc),mp vb keyU (V.map PV.ent),lst (V.map PV.own),fam (fun r=>pastH (pb r) (l.past r)) l.n,slc cp l.n cc 226 1 (chRow l cs),fam (pcFam l cs) l.n]:=by
       rw[hoe];rfl
      have hrow:row lb 124 (plC (l.more x.m).n (l.more x.m).known vb pp pc cp cc)=row lb 124 (plC l.n (updF l.known o (l.known o+1)) vb pp pc cp cc):=by rw[hoe];rfl
      have hCi:=fun G=>hCl ⟨V,vb,pp,pc,cp,cc,pb,cs⟩ G hiM;rw[hpl,←hoe]at hCi
      have hpa:∀G,Fn prog 53 [.pointer (some ⟨lb,0,none⟩),.int .i64 x.m.origin] f (row lb 124 (plC l.n (updF l.known o (l.known o+1)) vb pp pc cp cc)::G) (Ret (.pointer (some ⟨pb o,0,none⟩)) f (row lb 124 (plC l.n (updF l.known o (l.known o+1)) vb pp pc cp cc)::G)):=fun G=>by
       have h:=hpa G;rw[show row lb 124 (plC (l.more x.m).n (l.more x.m).known (⟨V,vb,pp,pc,cp,cc,pb,cs⟩:PPt).vb (⟨V,vb,pp,pc,cp,cc,pb,cs⟩:PPt).pp (⟨V,vb,pp,pc,cp,cc,pb,cs⟩:PPt).pc (⟨V,vb,pp,pc,cp,cc,pb,cs⟩:PPt).cp (⟨V,vb,pp,pc,cp,cc,pb,cs⟩:PPt).cc)=_ from hrow]at h
       exact h
      generalize(l.more x.m).counts x.m=res at hCi⊢;clear hpl hrow hCl hiM;refine gZ ?_;refine H.dc [0,1,2,3,4,5,6,7,8,9,10] (S:=[_,_,_]) rfl ?_;refine HB.qu [0,1,2,3,4,5,6,7,8,9,10] 2 ?_;refine qiK ?_;refine gW ?_;refine qeC ?_;refine HB.qu [11] 1 ?_;refine HQ.Ao (i:=o) rfl rfl rfl hoz ho11 rfl ?_;refine qh ?_;refine H.Bb (ls:=plC l.n l.known vb pp pc cp cc) (ls':=plC l.n (updF l.known o (l.known o+1)) vb pp pc cp cc) rfl rfl rfl rfl at2 (plC_set _ _ _ _ _ _ _ _ ho11) ?_;refine qk ?_;refine qgm ?_;refine HB.qu [0,1,2,4,5,6,7,8] 5 ?_;refine gR ?_;refine qgH ?_;refine qfu ?_;refine HB.ev 3 ?_;refine H.cr (hB _) ?_;refine qed ?_;refine HB.ev 9 ?_;refine qet ?_;refine H.cr (hpa _) ?_;refine gA ?_;refine qet ?_;refine H.pf (x:=row lv _ _) ?_;refine qjZ ?_;refine HB.ev 10 ?_;refine qeO ?_;refine qgb ?_;refine H.callVR (fs:=[]) (cs:=[]) rfl rfl rfl rfl (hCi _) ?_;refine gA ?_;refine H.pf (x:=row lv _ _) ?_;refine qjZ ?_;refine HB.qu [11,12] 0 ?_;refine qgq ?_;refine qhf ?_;refine H.pd (x:=row lv _ _) ?_;exact qbe
    ·skip;refine gG ?_;refine qfE ?_;refine H.Ba rfl rfl rfl (fun _ h=>h) ⟨?_,rfl,?_⟩
     ·exact qdC
     ·exact qdC
end
theorem LI.more(h:LI l T)(m:Msg):LI (l.more m) (T+1):=by
 have hc:=h.step;refine⟨hc.n3,fun i=>?_,hc.wf,hc.il,hc.vl,hc.cl,hc.al,hc.log,hc.zero,hc.rise,hc.begun,hc.gb⟩
 show 0≤updF l.known (orgI m) _ i∧updF l.known (orgI m) _ i≤_
 have:=h.kn i;exact qdq
variable {iv:Nat}
section
variable (f:Frag) (F:List HP)
theorem by1_fn:Fn prog 52 [.int .u8 1] f F (Ret (.func (.func 93) #[] #[]) f F):=by
 exact qbx
theorem by2_fn:Fn prog 52 [.int .u8 2] f F (Ret (.func (.func 94) #[] #[]) f F):=by
 exact qbx
theorem pltake1_fn(htab:TabAt f)(hfl:Le fl f)(hL:LI l T)(hT:T≤40000)(hx:x.Good f)(hk:x.m.body.kind=1):
  Fn prog 25 [.pointer (some ⟨lb,0,none⟩),.agg x.vals.toArray] f (plogH fl lb l::F) (Ret (.tuple #[.bool (l.take x.m).1.1,.int .i64 (l.take x.m).1.2]) f (plogH f lb (l.take x.m).2::F)):=
 pltake_fn f F hfl hL hT hx (fid:=93) (fun G=>by rw[hk];exact by1_fn f G) fun _ hm i G hi=>plprep_fn f G htab hfl (hL.more x.m) jA hm hk hi rfl
theorem pltake2_fn(hfl:Le fl f)(hL:LI l T)(hT:T≤40000)(hR:∀w∈l.vs,RiseN w.p)(hx:x.Good f)(hk:x.m.body.kind=2):
  Fn prog 25 [.pointer (some ⟨lb,0,none⟩),.agg x.vals.toArray] f (plogH fl lb l::F) (Ret (.tuple #[.bool (l.take x.m).1.1,.int .i64 (l.take x.m).1.2]) f (plogH f lb (l.take x.m).2::F)):=
 pltake_fn f F hfl hL hT hx (fid:=94) (fun G=>by rw[hk];exact by2_fn f G) fun _ hm i G hi=>plcommit_fn f G hfl (hL.more x.m) jA hx.2.2 hm hk hR hi rfl
def LogR(f:Frag)(A:List HP)(R:List Req):Value→Frag→List HP→Prop:=fun v f' A'=>∃(p:Option Addr) (c:Nat),v= .tuple #[.slice p R.length c,.bool true]∧f'=f∧A'=slc p R.length c 49 40 (R.flatMap Req.vals)::A
theorem qclone_fn{R:List Req}(hl:R.length≤100000):
  Fn prog 96 [.slice p R.length c] f (slc p R.length c 49 40 (R.flatMap Req.vals)::F)
   (fun v f' A'=>∃(p':Option Addr) (c':Nat),v= .slice p' R.length c'∧f'=f∧A'=slc p' R.length c' 49 40 (R.flatMap Req.vals)::slc p R.length c 49 40 (R.flatMap Req.vals)::F):=by
 cases p with
 | none =>
  by_cases h0:0<R.length
  ·refine Fn.e1 func96 ntmps96 fun base=>?_;refine H.Ar (p:=none) (n0:=R.length) (c:=c) aP0 h0 fun sb hp=>?_;cases hp
  ·obtain rfl:R= []:=List.eq_nil_of_length_eq_zero jA;refine Fn.e1 func96 ntmps96 fun base=>?_;refine gc ?_;refine H.slc0 49 40 ?_;exact qcx
 | some a =>
  refine Fn.e1 func96 ntmps96 fun base=>?_;refine gc ?_;refine qhB fun eb=>?_;refine H.asSlc (k:=0) (sz:=40) rfl jC ?_;refine gK ?_;refine H.Au (xs:=[]) (m:=R.length) (news:=R.flatMap Req.vals) rfl rfl rfl rfl rfl (fun p' c'=>.here _ _ _) (Src.slcS at1 (zbn Req.len R)) (Reqs_one R) rfl jA jA fun p2 c2=>?_;rw[Nat.zero_add,List.nil_append];refine gT ?_;exact H.r1 ⟨p2,c2,rfl,rfl,rfl⟩
theorem plvoted_fn(hfl:Le fl f)(hn:l.n≤11){o:Nat}(ho:o<l.n){r v:Int}(hr:r=((o+1:Nat):Int)):
  Fn prog 44 [.pointer (some ⟨lb,0,none⟩),.int .i64 r,.int .u64 v] f (plogH fl lb l::F) (Ret (.tuple #[.int .i64 ((PM.voted (l.past o).all v).getD 0),.bool (PM.voted (l.past o).all v).isSome]) f (plogH fl lb l::F)):=by
 refine qjW fun i hi=>?_;have hpa:=fun G=>plpast_fn f G hfl (lb:=lb) hi hn ho hr;obtain⟨V,vb,pp,pc,cp,cc,pb,cs⟩:=i
 have hvo:=fun G=>voted_fn f G (pb o) (l.past o) v;refine qek ?_
 refine Fn.e3 func44 ntmps44 fun base=>?_;refine gK ?_;refine H.cr (hpa _) ?_;refine gK ?_;refine qg ?_;refine H.Bp ho ?_;refine H.cr (hvo _) ?_;refine H.Cg (g:=fun r=>pastH (pb r) (l.past r)) ho ?_;refine gX ?_;exact qbY
theorem pllog_fn(hL:LI l T)(hT:T≤50000){w:Vw}{v:Int}(hat:vwAt l.vs v=some iv)(hw:l.vs[iv]? =some w):
  Fn prog 55 [.pointer (some ⟨lb,0,none⟩),.int .u64 v] f (plogH fl lb l::F) (LogR f (plogH fl lb l::F) w.all):=by
 refine qjW fun i hi=>?_;have hvs:=hi.vs;obtain⟨V,vb,pp,pc,cp,cc,pb,cs⟩:=i
 have hvs:(V.map PV.w).Perm l.vs:=hvs;have hal:=hL.al w (List.mem_of_getElem? hw)
 obtain⟨j,X,hX,hXw,hgetX⟩:=view_some hvs hL.rise hat hw;have hget:(getKV (V.map PV.ent) v).getD (.pointer none)= .pointer (some ⟨X.b,0,none⟩):=by rw[hgetX];rfl
 subst hXw;refine qek ?_;refine Fn.e2 func55 ntmps55 fun base=>?_;refine qhU ?_;refine H.Ck (x:=X.own) (i:=j) jH ?_;refine H.ownOpen ?_;refine qeu ?_;refine gc ?_;refine qiA ?_;refine gg ?_;refine qiA ?_;refine gF ?_;refine H.pf (x:=slc X.lp _ X.lc _ _ _) ?_;refine H.Aq rfl rfl rfl (qclone_fn f _ jA) fun v' f' A' hR=>?_;obtain⟨p2,c2,rfl,hff,rfl⟩:=hR;rw[hff];refine gT ?_;refine qez ?_;refine H.Cl jH ?_;refine qjJ ?_;exact H.Ba rfl rfl rfl (fun _ h=>h) ⟨p2,c2,rfl,rfl,rfl⟩
-- where there are no logs
end
def r15u:Req:={Req.zero with client:=1,time:=1,kind:=2,key:=byteS 97,val:=byteS 49}
def r15:Req:=r15u.signed
theorem r15_asked:r15u.asked:=by decide+kernel
theorem signed_auth{r:Req}(h:r.asked):r.signed.auth=true∧r.signed.client=r.client∧r.signed.time=r.time:=by
 unfold Req.signed;rw[if_pos h];refine⟨?_,rfl,rfl⟩;show(decide r.asked&& eq32 r.sig r.sig)=true;rw[decide_eq_true h,Bool.true_and];unfold eq32;exact eqC_refl rfl
def p15(r:Req)(t:Nat→UInt8):Msg:=⟨1,1,fun _=>0,{Bod.zero 1 with req:=r},t⟩
def d15(t:Nat→UInt8):Msg:=⟨2,1,fun i=>if i=0 then 1 else 0,{Bod.zero 2 with k:=1},t⟩
theorem p15_may:(p15 r15 noTag).may=true:=by decide+kernel
theorem d15_may:(d15 noTag).may=true:=by decide+kernel
theorem signed_is{m:Msg}(h:m.may=true):∃t,m.signed= {m with tag:=t}:=by
 unfold Msg.signed;rw[if_pos h];exact⟨_,rfl⟩
theorem tk_ok{m:Msg}(h1:m.may=true)(h2:m.origin≤(l.n:Int))(h3:qIn l.n m=true)(h4:m.number=l.known (orgI m)+1)(h5:depsIn m l.known=true):l.take m=((((l.more m).counts m).1,0),((l.more m).counts m).2):=by
 have e1:=l.counts_kn (updF l.known (orgI m) (l.known (orgI m)+1)) m;have hnk:=l.counts_nk m
 have e2:l.take m=(((l.counts m).1,0),{(l.counts m).2 with known:=updF (l.counts m).2.known (orgI m) ((l.counts m).2.known (orgI m)+1)}):=by
  unfold Lgs.take;rw[if_neg (by rintro(h|h|h);rw[h1]at h;cases h;omega;rw[h3]at h;cases h),if_neg (by rintro(h|h);exact h h4;rw[h5]at h;cases h)]
 unfold Lgs.more;rw[e1,e2,hnk.2]
def L1(r:Req):Lgs:=⟨3,updF (fun _=>0) 0 1,[⟨0,0,[],[(1,r)]⟩],updF (fun _=>PM.new) 0 (PM.new.prepare 0),fun _=>[]⟩
theorem t15a{r:Req}{t:Nat→UInt8}(hm:(p15 r t).may=true)(ha:r.auth=true):(Lgs.new 3).take (p15 r t)=((true,0),L1 r):=by
 rw[tk_ok hm (by show(1:Int)≤3;decide) rfl rfl rfl,Lgs.counts_1 (i:=0) (w:=⟨0,0,[],[]⟩) rfl rfl rfl,if_neg]
 ·rfl
 ·rintro(h|h|h|h)
  ·exact Bool.noConfusion (show true=false from h)
  ·have h:r.auth=false:=h;rw[ha]at h;cases h
  ·exact Bool.noConfusion (show false=true from h)
  ·exact Bool.noConfusion (show true=false from h)
section
variable (f:Frag) (F:List HP)
end
theorem pcFam_upd(l:Lgs)(cs:Nat→Option Addr×Nat)(r:Nat)(p:Option Addr)(c:Nat)(y:Int×Int)(past:Nat→PM):updF (pcFam l cs) r (slc p ((l.ch r).length+1) c 228 2 ((l.ch r).flatMap chV++chV y))=pcFam {l with past:=past,ch:=updF l.ch r (l.ch r++ [y])} (updF cs r (p,c)):=by
 funext j;unfold pcFam;exact qbg
section
variable (f:Frag) (F:List HP)
theorem plcheck_fn(hfl:Le fl f)(hk:x.m.body.kind=6){i:PPt}(hi:plφ fl l i){pv:Value}:
  Fn prog 95 [.pointer (some ⟨lb,0,none⟩),.agg x.vals.toArray,pv] f (plB lb l i++F) (Ret (.bool (l.counts x.m).1) f (plogH f lb (l.counts x.m).2::F)):=by
 have hiF:=hi.mono hfl;have e:l.counts x.m=(true,l):=by rw[Lgs.counts_x jt jt jt jt jt,hk];rfl
 rw[e];obtain⟨V,vb,pp,pc,cp,cc,pb,cs⟩:=i;refine qek ?_;refine Fn.e3 func95 ntmps95 fun base=>?_;refine qej fun mb=>?_;refine qjb ?_;refine qkK ?_;exact qam
theorem plchange_fn(hfl:Le fl f)(hL:LI l T)(hT:T≤50000)(hm:MIn l.n x.m)(hk:x.m.body.kind=3){i:PPt}(hi:plφ fl l i)(hre:r=orgI x.m):
  Fn prog 90 [.pointer (some ⟨lb,0,none⟩),.agg x.vals.toArray,.pointer (some ⟨i.pb r,0,none⟩)] f (plB lb l i++F) (Ret (.bool (l.counts x.m).1) f (plogH f lb (l.counts x.m).2::F)):=by
 have hiF:=hi.mono hfl;have hn:=hL.n3
 have hor:=hm.o;have hr:r<l.n:=by rw[hre];unfold orgI;omega
 have hrz:x.m.origin-1=(r:Nat):=by rw[hre];unfold orgI;omega
 have hcl:=hL.cl r;obtain⟨V,vb,pp,pc,cp,cc,pb,cs⟩:=i
 have hch:=fun G=>change_fn f G (pb r) (l.past r) x.m.body.view;rw[Lgs.counts_3 hk,←hre]
 refine qek ?_;refine Fn.e3 func90 ntmps90 fun base=>?_;refine qej fun mb=>?_;refine gF ?_;refine qkq ?_;refine H.cr (hch _) ?_
 cases hck:(l.past r).changeOk x.m.body.view with
 | false =>
  rw[show(l.past r).change x.m.body.view=l.past r by unfold PM.change;rw[hck];rfl];refine qjl ?_;refine qjq ?_;refine gD ?_;rw[if_neg jC];exact qdy
 | true =>
  refine qhy ?_;rw[past_updF];refine qhP ?_;refine gV ?_;rw[if_pos rfl];refine qkg fun cb hcb=>?_;subst hcb;refine qfp ?_;refine H.dc [0,1,2,3,4,5,6,7,8,9,10,11,12,13,14,15,16,17,18,19,20,21] (S:=[_,_,_]) rfl ?_;refine HB.qu [0,1,2,3,4,5,6,7,8,9,10,11,12,13,14,15,16,17,18,19] 4 ?_;refine qhj ?_;refine gW ?_;refine qel ?_;refine HB.ev 20 ?_;refine qkW fun eb=>?_;refine gA ?_;refine qfp ?_;refine qeM ?_;refine HB.ev 21 ?_;refine H.pf (x:=row eb _ _) ?_;refine H.pf (x:=fam (pcFam l cs) _) ?_;refine H.Bp hr ?_;refine qgp fun p2 c2=>?_;refine H.famPut (g:=pcFam l cs) hr ?_;rw[pcFam_upd l cs r p2 c2 (x.m.body.view,x.m.number) (updF l.past r ((l.past r).change x.m.body.view))];refine qkE ?_;refine qfp ?_;refine qgU ?_;refine HB.qu [22] 1 ?_;refine qks ?_;refine qel ?_;refine HB.ev 23 ?_;refine qkA ?_;rw[chRow_upd l cs r p2 c2 (x.m.body.view,x.m.number) (updF l.past r ((l.past r).change x.m.body.view))];refine qeQ ?_;refine qhf ?_;refine H.pf (x:=fam (pcFam _ (updF cs r (p2,c2))) _) ?_;refine qkJ ?_;refine qg ?_;refine qgb ?_;refine H.imp (zal (l:={l with past:=updF l.past r ((l.past r).change x.m.body.view),ch:=updF l.ch r (l.ch r++ [(x.m.body.view,x.m.number)])}) ⟨V,vb,pp,pc,some ⟨cb,0,none⟩,cc,pb,updF cs r (p2,c2)⟩ ⟨hiF.vs,hiF.p⟩) ?_;exact qam
end
def FnPostM(P:Program)(fn:Func)(base:World)(R:Value→Frag→List HP→Prop):Exit→Act→World→Prop
 | .normal,a,w=>bodyPostM Fence.wide 3 P fn (fun e w'=>∃v f' A',e= .returned v∧R v f' A'∧Sat base w' f' A') .normal a w
 | .ret,a,w=>bodyPostM Fence.wide 3 P fn (fun e w'=>∃v f' A',e= .returned v∧R v f' A'∧Sat base w' f' A') .ret a w
 |_,_,_=>False
def codeR(P:Program)(lp:Nat)(c:Code)(q:Post):Kont:=.out .normal (.fn fun _ a w=>c.wpIn (Fence.wide.inRound lp) 2 P (q.den P) a w)
def seqR(P:Program)(lp:Nat)(y:Code)(q:Post):Post:=.fn (Exit.then (y.wpIn (Fence.wide.inRound lp) 2 P (q.den P)) (q.den P))
def opsIn(P:Program)(l rest:List Oper)(q:Post):Kont:=.out .normal (.fn fun _ a w=>wpListIn Fence.wide 3 P l.toArray (q.den P) rest a w)
def inList(P:Program)(l rest:List Oper)(q:Post):Post:=.fn (Exit.then (wpListIn Fence.wide 3 P l.toArray (q.den P) rest) (q.den P))
def beginP(P:Program)(lp:Nat)(body:Code)(q:Post):Post:=
 .fn (Exit.then (fun a₁ w₁=>∃w₂,(Instr.beginRound lp).run P w₁= .ok () w₂∧body.wpIn (Fence.wide.inRound lp) 2 P (q.den P) a₁ w₂) (fun _ _ _=>False))
def RW(base:World)(R:Value→Frag→List HP→Prop):Ending→World→Prop:=fun e w'=>∃v f' A',e= .returned v∧R v f' A'∧Sat base w' f' A'
def roundP(P:Program)(lp:Nat)(base:World)(R:Value→Frag→List HP→Prop):Post:=.fn (roundPost P lp (RW base R))
def Post.shut(P:Program)(q:Post):Prop:=∀a w,¬q.den P .outgrown a w
def YieldFn(P:Program)(lp:Nat)(args:List Value)(f:Frag)(A:List HP)(R:Value→Frag→List HP→Prop):Prop:=
 ∀base w,Sat base w f A→∃fn tmps assign body,(Instr.yield lp args.toArray).run P w= .ok (.round lp fn tmps assign body) w∧RoundIn Fence.wide 2 P lp fn tmps assign body w (RW base R)
def loopH(n:Nat)(L:Env)(lp:Nat)(ps:List Tmp)(assign body:Code)(D:Nat)(st:LoopState):HP:=fun h=>
 ∃fn tmps,tmps.size=n∧(∀i v,look? L i=some v→tmps[i]? =some v)∧pts lp (.loop {state:=st,pending:=none,fn,tmps,params:=ps.toArray,assign,body,defers:=D}) h
def setsE:List Tmp→List Value→Env→Env
 |p::ps,v::vs,L=>setsE ps vs ((p,v)::L)
 |_,_,L=>L
variable {b assign body y:Code} {w:World} {o:Oper} {v:Value} {L0:Env} {lp D t id n0:Nat} {ps:List Tmp} {st:LoopState} {fn:Func} {args vs fs cs:List Value} {R R1:Value→Frag→List HP→Prop} {a:Act} {rest:List Oper} {xs:List Operand} {ats:Array TypeId} {ty:TypeId} {pos:String} {af:Array Edge} {gd:Option (Nat × Bool)} {A1:List HP} {g:Operand} {gf:FuncId}
section
variable {P:Program} {base:World} {n:Nat} {L:Env} {f f':Frag} {A A':List HP} {q:Post}
theorem Sat.loop(s:Sat base w f (loopH n L0 lp ps assign body D st::A)):
  ∃fn tmps,tmps.size=n∧(∀i v,look? L0 i=some v→tmps[i]? =some v)∧Sat base w f (pts lp (.loop {state:=st,pending:=none,fn,tmps,params:=ps.toArray,assign,body,defers:=D})::A):=by
 obtain⟨a,b,c,d,e,m,hm,hd,hw⟩:=s;obtain⟨m1,m2,dj,rfl,⟨fn,tmps,h1,h2,h3⟩,h4⟩:=hm;exact⟨fn,tmps,h1,h2,a,b,c,d,e,_,⟨m1,m2,dj,rfl,h3,h4⟩,hd,hw⟩
theorem Sat.ofLoop{fn:FuncId}{tmps:Array Value}(h1:tmps.size=n)(h2:∀i v,look? L0 i=some v→tmps[i]? =some v)
  (s:Sat base w f (pts lp (.loop {state:=st,pending:=none,fn,tmps,params:=ps.toArray,assign,body,defers:=D})::A)):Sat base w f (loopH n L0 lp ps assign body D st::A):=by
 obtain⟨a,b,c,d,e,m,hm,hd,hw⟩:=s;obtain⟨m1,m2,dj,rfl,h3,h4⟩:=hm;exact⟨a,b,c,d,e,_,⟨m1,m2,dj,rfl,⟨fn,tmps,h1,h2,h3⟩,h4⟩,hd,hw⟩
theorem Fn.enterM{c:Code}(hf:P.funcs[fid]? =some fn)(hb:fn.body=some c)(hn:fn.ntmps=m)(hl:Nat.ble args.length m=true)(hL:SubE (envOf 0 args) L)
  (h:∀base,H P base m L f A (.code c (.fn (FnPostM P fn base R)))) (hsm:Nat.ble m 1000003=true:=by exact rfl):Fn P fid args f A R:=fun base w s=>by
 have hl':=Nat.le_of_ble_eq_true hl
 have hsm':=Nat.le_of_ble_eq_true hsm
 refine callsIn_wide.1 (callsIn_of_wp_marks (n:=3) hf hb trivial (wpIn_mono (Q:=FnPostM P fn base R) (wpIn_wide.2 ?_) ?_))
 ·have hmk:dmOf L= []:=by
   exact qcM
  refine(h base).out _ w ⟨by simp[hn];omega,hsm',hmk.symm,fun i v hi=>?_⟩ s
  obtain⟨_,h2⟩:=look?_envOf args 0 i v (hL.get i v hi)
  simp only[Nat.sub_zero]at h2
  have hlt:i<args.length:=by
   rcases Nat.lt_or_ge i args.length with h|h
   ·exact h
   ·simp[List.getElem?_eq_none h]at h2
  rw[Array.getElem?_append_left (by simpa using hlt)]
  simpa using h2
 ·intro e a w' h
  cases e with
  |normal=>exact h
  |ret=>exact h
  |exit id=>exact h.elim
  |goto l=>exact h.elim
  |panic c=>exact h.elim
  |outgrown=>exact h.elim
theorem bodyPostM_ret{R:Ending→World→Prop}(hr:(results fn a.tmps).run P w= .ok v w)(hd:a.defers= [])(hR:R (.returned v) w):bodyPostM Fence.wide 3 P fn R .ret a w:=by
 show LeavesInM Fence.wide 3 P fn a.tmps R a.defers .returning w;rw[hd];exact⟨v,hr,hR⟩
theorem bodyPostM_mark{R:Ending→World→Prop}(hr:∀w',(results fn a.tmps).run P w'= .ok v w')(hd:a.defers= [{target:=.collected D,args:=#[]}])(hD:w.heap[D]? =some (.deferred (some [])))(hR:R (.returned v) (w.putObj D (.deferred none))):bodyPostM Fence.wide 3 P fn R .ret a w:=by
 show LeavesInM Fence.wide 3 P fn a.tmps R a.defers .returning w;rw[hd];exact⟨by simp,.inl ⟨D,_,rfl,run_takeDeferred hD,⟨v,hr _,hR⟩⟩⟩
theorem H.retM(hr:fn.results= #[.tmp t])(hv:look? L t=some v)(hA:∀x,stars A x→stars A' x)(h:R v f A')(hmk:mk? L=none:=by exact rfl):H P base n L f A (.out .ret (.fn (FnPostM P fn base R))):=.mk fun a w hf s=>by
 show bodyPostM Fence.wide 3 P fn (fun e w'=>∃v f' A',e= .returned v∧R v f' A'∧Sat base w' f' A') .ret a w
 exact bodyPostM_ret (by rw[results_tmp hr]) (hf.bare hmk) ⟨v,f,A',by simp[hf.get t v hv],h,s.imp hA⟩
theorem Fr.marked(h:Fr n a L)(hm:mk? L=some (.pointer (some ⟨D,0,none⟩))):a.defers= [{target:=.collected D,args:=#[]}]:=h.defers.trans (by unfold dmOf;rw[hm])
theorem H.retMk{A'':List HP}(hr:fn.results= #[.tmp t])(hv:look? L t=some v)(hm:mk? L=some (.pointer (some ⟨D,0,none⟩)))(hD:Pull A (pts D (.deferred (some []))) A')(hA:∀x,stars A' x→stars A'' x)(h:R v f A''):H P base n L f A (.out .ret (.fn (FnPostM P fn base R))):=.mk fun a w hf s=>by
 show bodyPostM Fence.wide 3 P fn (fun e w'=>∃v f' A',e= .returned v∧R v f' A'∧Sat base w' f' A') .ret a w
 have s1:=s.front hD
 have hg:=s1.got (.here _ _ (pts D (.deferred (some []))))
 refine bodyPostM_mark (v:=v) (D:=D) (fun w'=>by rw[results_tmp hr];simp[hf.get t v hv]) (hf.marked hm) hg ⟨v,f,A'',rfl,h,?_⟩
 exact((s1.set (w':=w.putObj D (.deferred none)) aP0 rfl rfl rfl rfl).drop (.here _ _)).imp hA
theorem blind_fnM:(Post.fn (FnPostM P fn base R)).blind P:=fun _ _ _ _ _ h=>h.elim
/-! ### Shut -/
theorem zaw:(Post.fn (FnPostM P fn base R)).shut P:=fun _ _ h=>h.elim
theorem zbg:(Post.fn (FnPost P fn base R)).shut P:=fun a w h=>by
 obtain⟨_,_,_,h,_⟩:=h
 cases h
theorem zao:(roundP P lp base R).shut P:=fun _ _ h=>h.elim
theorem zam:(beginP P lp b q).shut P:=fun _ _ h=>h.elim
theorem zax(h:q.shut P):(Post.seq y q).shut P:=h
theorem zan(h:q.shut P):(Post.block id q).shut P:=h
theorem zas{I:Act→World→Prop}(h:q.shut P):(Post.loop I q).shut P:=h
theorem zat(h:q.shut P):(seqR P lp y q).shut P:=h
theorem zbh{l:List Oper}(h:q.shut P):(inList P l rest q).shut P:=h
/-! ### From the plain walk into a fence -/
theorem uponIn_of_upon{F:Fence}(hd:F.depth=none)(hc:∀m f args w R,Calls P f args w R→CallsIn F m P f args w R)(hr:∀m row args w R,Rows P row args w R→RowsIn F m P row args w R){next next':Act→World→Prop}{Q Q':Exit→Act→World→Prop}(hn:∀a w,next a w→next' a w)(hq:∀e a w,e≠ .normal→Q e a w→Q' e a w):
  ∀r,o.upon P a next Q r→o.uponIn F m P a next' Q' r:=by
 intro r h;have hdd:F.depth.isSome=true→1≤m:=fun h=>by rw[hd]at h;cases h
 match r,h with
 | .ok (.value v) w',h=>exact hn _ _ h
 | .ok .skip w',h=>exact hn _ _ h
 | .ok (.defer d) w',h=>exact hn _ _ h
 | .ok (.enter f args) w', h =>
  refine⟨hdd,(hc _ _ _ _ _ h).mono fun e w'' he=>?_⟩
  cases e with
  |returned v=>exact hn _ _ he
  |panicked c=>exact hq _ _ _ jL he
  |outgrown=>obtain⟨a0,w0,h0⟩:=he;exact⟨a0,w0,hq _ _ _ jL h0⟩
 | .ok (.row row args) w',h=>exact⟨hdd,(hr _ _ _ _ _ h).mono fun v w'' he=>hn _ _ he⟩
 | .halt (.panic v) w',h=>exact hq _ _ _ jL h
theorem rowsIn_wide{row:String}{args:Array Value}{R:Value→World→Prop}(h:Rows P row args w R):RowsIn Fence.wide m P row args w R:=
 fun c cs _=>let⟨v,w',r,s⟩:=h c cs;⟨v,w',r,stepsIn_wide.2 s⟩
theorem wpListIn_of{F:Fence}{m:Nat}(hfn:∀f,F.fn f)(hd:F.depth=none)(hc:∀m f args w R,Calls P f args w R→CallsIn F m P f args w R)(hr:∀m row args w R,Rows P row args w R→RowsIn F m P row args w R)
  {ops:Array Oper} {rest:List Oper} {Q Q':Exit→Act→World→Prop} (hn:∀a w,Q .normal a w→wpListIn F m P ops Q' rest a w) (hq:∀e a w,e≠ .normal→Q e a w→Q' e a w) (ho:∀a w,¬Q .outgrown a w) :
  ∀(l:List Oper),(∀o∈l,∀ρ,o.semAt F.round ρ=execOp ρ o)→∀a w,wpList P ops Q l a w→wpListIn F m P ops Q' (l++rest) a w
 | [],_,a,w,h=>hn a w h
 | o :: l, hs, a, w, h => by
  unfold wpList at h
  show wpListIn F m P ops Q' (o::(l++rest)) a w
  unfold wpListIn
  have ih:=wpListIn_of hfn hd hc hr hn hq ho l (fun o h=>hs o (List.mem_cons_of_mem _ h))
  by_cases hw:Region.wanted o (yielded ops a.tmps)=true
  ·rw[if_pos hw]at h⊢
   rcases h with h|⟨_,a0,w0,h⟩
   ·refine⟨fun f _=>hfn f,?_⟩
    rw[hs o (List.mem_cons_self ..)]
    exact uponIn_of_upon hd hc hr ih hq _ h
   ·exact(ho a0 w0 h).elim
  ·rw[if_neg hw]at h⊢
   exact⟨fun f _=>hfn f,ih _ _ h⟩
def plainOp(o:Oper):Bool:=match o.op with
 | .defer _=>false
 |_=>true
/-! ### Code in a round -/
theorem H.seqR{x:Code}(h:H P base n L f A (codeR P lp x (seqR P lp y q))):H P base n L f A (codeR P lp (.seq x y) q):=.mk fun a w hf s=>wpIn_seq (h.out a w hf s)
theorem H.thenR(h:H P base n L f A (codeR P lp y q)):H P base n L f A (.out .normal (Go.Proofs.YtkaknokcbhiigaaGreatDoor.seqR P lp y q)):=.mk h.out
theorem H.skipR(h:H P base n L f A (.out .normal q)):H P base n L f A (codeR P lp .skip q):=.mk fun a w hf s=>wpIn_skip (h.out a w hf s)
theorem H.blockR{c:Code}(h:H P base n L f A (codeR P lp c (.block id q))):H P base n L f A (codeR P lp (.block id c) q):=.mk fun a w hf s=>wpIn_block (h.out a w hf s)
theorem H.condR{c:Operand}{x:Code}{t:Bool}(hc:ev? L c=some (.bool t))(ht:t=true→H P base n L f A (codeR P lp x q))(hf':t=false→H P base n L f A (codeR P lp y q)):
  H P base n L f A (codeR P lp (.cond c x y) q):=.mk fun a w hf s=>wpIn_cond_split (hf.eval hc) (fun e=>(ht e).out a w hf s) (fun e=>(hf' e).out a w hf s)
theorem H.condR_true{c:Operand}{x:Code}(hc:ev? L c=some (.bool true))(ht:H P base n L f A (codeR P lp x q)):H P base n L f A (codeR P lp (.cond c x y) q):=H.condR hc (fun _=>ht) (fun e=>by cases e)
theorem H.condR_false{c:Operand}{x:Code}(hc:ev? L c=some (.bool false))(ht:H P base n L f A (codeR P lp y q)):H P base n L f A (codeR P lp (.cond c x y) q):=H.condR hc (fun e=>by cases e) (fun _=>ht)
theorem H.condR_yes{c:Operand}{x:Code}{p:Prop}{_:Decidable p}(hc:ev? L c=some (.bool (decide p)))(hp:p)(ht:H P base n L f A (codeR P lp x q)):H P base n L f A (codeR P lp (.cond c x y) q):=H.condR_true (by rw[hc,decide_eq_true hp]) ht
theorem H.condR_no{c:Operand}{x:Code}{p:Prop}{_:Decidable p}(hc:ev? L c=some (.bool (decide p)))(hp:¬p)(ht:H P base n L f A (codeR P lp y q)):H P base n L f A (codeR P lp (.cond c x y) q):=H.condR_false (by rw[hc,decide_eq_false hp]) ht
theorem H.regionR{l:List Oper}(hp:l.all plainOp=true)(hs:q.shut P)(h:H P base n L f A (.ops l l q)):H P base n L f A (codeR P lp (.region id l.toArray false) q):=.mk fun a w hf s=>by
 refine wpIn_region_lit ?_
 have:=wpListIn_of (P:=P) (F:=Fence.wide.inRound lp) (m:=2) (ops:=l.toArray) (rest:=[]) (Q:=q.den P) (Q':=q.den P) (fun _=>trivial) rfl (fun m f args w R h=>(callsIn_wide.2 h:CallsIn Fence.wide m P f args w R)) (fun m row args w R h=>rowsIn_wide h) (fun a w h=>h) (fun e a w _ h=>h) hs l (fun o ho ρ=>?_) a w (h.out a w hf s)
 ·rw[List.append_nil]at this
  exact this
 ·have:=List.all_eq_true.1 hp o ho
  exact Oper.semAt_eq _ _ _ fun c hc=>by simp[plainOp,hc]at this
/-! ### A region that calls yield -/
theorem H.regionY{l:List Oper}(h:H P base n L f A (opsIn P l l q)):H P base n L f A (.code (.region id l.toArray false) q):=.mk fun a w hf s=>wpIn_wide.1 (wpIn_region_lit (n:=3) (h.out a w hf s))
theorem H.inOp{l:List Oper}(hs:q.shut P)(h:H P base n L f A (.ops l [o] (inList P l rest q))):H P base n L f A (opsIn P l (o::rest) q):=.mk fun a w hf s=>
 wpListIn_of (P:=P) (F:=Fence.wide) (m:=3) (ops:=l.toArray) (rest:=rest) (Q:=(inList P l rest q).den P) (Q':=q.den P) (fun _=>trivial) rfl (fun m f args w R h=>callsIn_wide.2 h) (fun m row args w R h=>rowsIn_wide h) (fun a w h=>h) (fun e a w he h=>by cases e<;>first|exact(he rfl).elim|exact h) hs [o] (fun o _ ρ=>rfl) a w (h.out a w hf s)
theorem H.Bu{l:List Oper}(h:H P base n L f A (opsIn P l rest q)):H P base n L f A (.out .normal (inList P l rest q)):=.mk h.out
theorem H.inNil{l:List Oper}(h:H P base n L f A (.out .normal q)):H P base n L f A (opsIn P l [] q):=.mk h.out
theorem run_yieldV(a:Act){dd:Option Tmp}{x:Operand}(hx:a.eval x= .func (.yield lp) #[] #[])(hargs:xs.map a.eval=vs):
  (execOp a.eval ⟨dd,.call ⟨.value x,xs.toArray,ats⟩,ty,pos,af,gd⟩).run P w=(Instr.yield lp vs.toArray).run P w:=by
 have e1:(#[]++Array.map a.eval xs.toArray:Array Value)=vs.toArray:=by simp[hargs]
 simp only[execOp,resolve,hx,Deferred.ofValue,Sem.run_bind,Sem.run_pure,Result.andThen_ok,invoke,e1]
theorem H.yield{l:List Oper}{x:Operand}(hx:ev? L x=some (.func (.yield lp) #[] #[]))(hw:want? l L gd=true)(hd:Nat.ble (d+1) n=true)
  (hxs:evs? L xs=some vs) (hc:YieldFn P lp vs f A R)
  (k:∀v f' A',R v f' A'→H P base n ((d,v)::L) f' A' (opsIn P l rest q)) :
  H P base n L f A (opsIn P l (⟨some d,.call ⟨.value x,xs.toArray,ats⟩,ty,pos,af,gd⟩::rest) q):=.mk fun a w hf s=>by
 show wpListIn Fence.wide 3 P l.toArray (q.den P) _ a w
 unfold wpListIn
 rw[if_pos (hf.want (o:=⟨some d,_,ty,pos,af,gd⟩) hw)]
 refine⟨fun _ _=>trivial,?_⟩
 obtain⟨fn,tmps,assign,body,h1,h2⟩:=hc base w s
 have hrun:=(run_yieldV (P:=P) (dd:=some d) (ats:=ats) (ty:=ty) (pos:=pos) (af:=af) (gd:=gd) (w:=w) a (hf.eval hx) (hf.evals hxs)).trans h1
 have hrun':Sem.run P (Oper.semAt Fence.wide.round a.eval ⟨some d,.call ⟨.value x,xs.toArray,ats⟩,ty,pos,af,gd⟩) w= .ok (.round lp fn tmps assign body) w:=hrun
 rw[hrun',Oper.uponIn_round]
 refine⟨(fun h=>by cases h),h2.mono ?_⟩
 rintro e w' ⟨v,f',A',rfl,hr,s'⟩
 exact(k v f' A' hr).out _ _ (hf.put (Nat.le_of_ble_eq_true hd) v) s'
/-! ### A round -/
theorem sets_fr:∀(ps:List Tmp) (vs:List Value) (tmps:Array Value) (L:Env),(ps.all fun p=>Nat.ble (p+1) n)=true→tmps.size=n→(∀i v,look? L i=some v→tmps[i]? =some v)→
  ((ps.zip vs).foldl (fun tmps (t,a)=>tmps.setIfInBounds t a) tmps).size=n∧∀i v,look? (setsE ps vs L) i=some v→((ps.zip vs).foldl (fun tmps (t,a)=>tmps.setIfInBounds t a) tmps)[i]? =some v
 | [],vs,tmps,L,_,h1,h2=>by simpa [setsE]using⟨h1,h2⟩
 |p::ps,[],tmps,L,_,h1,h2=>by simpa [setsE]using⟨h1,h2⟩
 | p :: ps, v :: vs, tmps, L, hp, h1, h2 => by
  simp only[List.all_cons,Bool.and_eq_true]at hp
  have hlt:=Nat.le_of_ble_eq_true hp.1
  refine sets_fr ps vs (tmps.setIfInBounds p v) ((p,v)::L) hp.2 (by simpa using h1) fun i u hi=>?_
  rw[look?_cons (look?_lt hi)]at hi
  by_cases e:p=i
  ·subst e
   rw[if_pos rfl]at hi
   injection hi with hi
   subst hi
   rw[Array.getElem?_setIfInBounds_self_of_lt jA]
  ·rw[if_neg e]at hi
   rw[Array.getElem?_setIfInBounds_ne e]
   exact h2 i u hi
theorem H.begin(h:H P base n L f (loopH n0 L0 lp ps assign b D .busy::A) (codeR P lp body q)):H P base n L f (loopH n0 L0 lp ps assign b D .ready::A) (.out .normal (beginP P lp body q)):=.mk fun a w hf s=>by
 obtain⟨fn,tmps,h1,h2,s1⟩:=s.loop
 have hg:=s1.got (.here _ _ emp)
 refine⟨_,run_beginRound hg rfl,h.out a _ hf (Sat.ofLoop (fn:=fn) (tmps:=tmps) h1 h2 ?_)⟩
 exact s1.set aP0 rfl rfl rfl rfl
theorem H.endRound(h:R (.bool true) f (loopH n0 L0 lp ps assign b D .ready::A)):H P base n L f (loopH n0 L0 lp ps assign b D .busy::A) (.out .normal (roundP P lp base R)):=.mk fun a w hf s=>by
 obtain⟨fn,tmps,h1,h2,s1⟩:=s.loop
 have hg:=s1.got (.here _ _ emp)
 refine⟨_,_,run_endRound none hg,_,f,_,rfl,h,Sat.ofLoop (fn:=fn) (tmps:=tmps) h1 h2 ?_⟩
 exact s1.set aP0 rfl rfl rfl rfl
theorem YieldFn.of(hp:(ps.all fun p=>Nat.ble (p+1) n)=true)(hz:(Nat.beq args.length ps.length)=true)(hsm:Nat.ble n 1000003=true)(hmk:mk? (setsE ps args L)=none)
  (h:∀base,H P base n (setsE ps args L) f (loopH n L lp ps assign body D .ready::A) (codeR P lp assign (beginP P lp body (roundP P lp base R)))) :
  YieldFn P lp args f (loopH n L lp ps assign body D .ready::A) R:=fun base w s=>by
 obtain⟨fn,tmps,h1,h2,s1⟩:=s.loop
 have hg:=s1.got (.here _ _ emp)
 have hz':args.toArray.size=ps.toArray.size:=by simpa using Nat.eq_of_beq_eq_true hz
 have hy:=run_yield (P:=P) (w:=w) (args:=args.toArray) hg hz'
 refine⟨_,_,_,_,hy,roundIn_of_wpIn (F:=Fence.wide) (n:=2) trivial ?_⟩
 obtain⟨h3,h4⟩:=sets_fr ps args tmps L hp h1 h2
 have e:(ps.toArray.zip args.toArray).foldl (fun tmps (t,a)=>tmps.setIfInBounds t a) tmps=(ps.zip args).foldl (fun tmps (t,a)=>tmps.setIfInBounds t a) tmps:=by simp
 have hfr:Fr n {tmps:=(ps.toArray.zip args.toArray).foldl (fun tmps (t,a)=>tmps.setIfInBounds t a) tmps,defers:=[]} (setsE ps args L):=by
  refine⟨?_,Nat.le_of_ble_eq_true hsm,by unfold dmOf;rw[hmk],fun i v hi=>?_⟩
  ·show Array.size (Array.foldl _ _ _)=n;rw[e];exact h3
  ·show(Array.foldl _ _ _)[i]? =some v;rw[e];exact h4 i v hi
 exact(h base).out _ w hfr s
theorem Fn.wrap(hA:∀h,stars A h→stars A1 h)(h:Fn P fid args f A1 R1)(hR:∀v g B,R1 v g B→∃B',R v g B'∧∀h,stars B h→stars B' h):Fn P fid args f A R:=fun base w s=>
 (h base w (s.imp hA)).mono fun _ _ ⟨v,f',B,e,r,s'⟩=>let⟨B',r',hi⟩:=hR _ _ _ r;⟨v,f',B',e,r',s'.imp hi⟩
theorem YieldFn.wrap(hA:∀h,stars A h→stars A1 h)(h:YieldFn P lp args f A1 R1)(hR:∀v g B,R1 v g B→∃B',R v g B'∧∀h,stars B h→stars B' h):YieldFn P lp args f A R:=fun base w s=>
 let⟨fn,tmps,assign,body,h1,h2⟩:=h base w (s.imp hA)
 ⟨fn,tmps,assign,body,h1,h2.mono fun _ _ ⟨v,f',B,e,r,s'⟩=>let⟨B',r',hi⟩:=hR _ _ _ r;⟨v,f',B',e,r',s'.imp hi⟩⟩
theorem pack_all(X A:List HP):∀h,stars (X++A) h→stars (stars X::A) h:=fun h hh=>by rw[zby]at hh;exact hh
theorem open_all(X A:List HP):∀h,stars (stars X::A) h→stars (X++A) h:=fun h hh=>by rw[zby];exact hh
/-! ### The statement -/
theorem H.rangeFunc{ι:Type}{A':ι→Nat→List HP}[hfun:Fun P gf](hg:ev? L g=some (.func (.func gf) fs.toArray cs.toArray))(hmk:mk? L=none)
  (hc:∀D lp,Fn P gf (fs++ [.func (.yield lp) #[] #[]]++cs) f (loopH n L lp ps assign body D .ready::pts D (.deferred (some []))::A) (fun _ g B=>∃i,g=f'∧B=loopH n L lp ps assign body D .ready::A' i D))
  (k:∀i D,H P base n ((1000003,.pointer (some ⟨D,0,none⟩))::L) f' (A' i D) (.out .normal q)) :
  H P base n L f A (.code (.rangeFunc g ps.toArray assign body) q):=.mk fun a w hf s=>by
 refine wpIn_wide.1 (wpIn_rangeFunc (F:=Fence.wide) (n:=3) fun fn _=>?_)
 obtain⟨fnc,e1,e2,e3⟩:=hfun.eq
 have hev:a.eval g= .func (.func gf) fs.toArray cs.toArray:=hf.eval hg
 have hd0:a.defers= []:=hf.bare hmk
 have sA:Sat base (w.alloc (.deferred (some []))) f (pts w.heap.size (.deferred (some []))::A):=s.alloc rfl rfl rfl rfl
 have sB:=sA.alloc (w':=(w.alloc (.deferred (some []))).alloc (.loop {state:=.ready,pending:=none,fn,tmps:=a.tmps,params:=ps.toArray,assign,body,defers:=w.heap.size})) rfl rfl rfl rfl
 rw[World.size_alloc]at sB
 have sC:Sat base _ f (loopH n L (w.heap.size+1) ps assign body w.heap.size .ready::pts w.heap.size (.deferred (some []))::A):=Sat.ofLoop (fn:=fn) (tmps:=a.tmps) hf.size hf.get sB
 have hrun:=run_enterLoop_outer (P:=P) (w:=w) fn a.tmps ps.toArray assign body
 generalize(w.alloc (.deferred (some []))).alloc (.loop {state:=.ready,pending:=none,fn,tmps:=a.tmps,params:=ps.toArray,assign,body,defers:=w.heap.size})=W at sC hrun
 have hcall:=hc w.heap.size (w.heap.size+1) base W sC
 refine⟨w.heap.size+1,_,W,{target:=.fn (.func gf) cs.toArray,args:=fs.toArray++ #[Value.func (.yield (w.heap.size+1)) #[] #[]]},W,gf,(fs++ [Value.func (.yield (w.heap.size+1)) #[] #[]]++cs).toArray,W,hrun,?_,fun _ _=>trivial,?_,(fun h=>by cases h),callsIn_wide.2 (hcall.mono ?_)⟩
 ·have:Array.map a.eval #[Operand.const (Value.func (.yield (w.heap.size+1)) #[] #[])]= #[Value.func (.yield (w.heap.size+1)) #[] #[]]:=by simp[Act.eval]
  simp only[rangeCall,resolve,hev,Deferred.ofValue,Sem.run_pure,this]
 ·simp only[invoke,callFunc,Sem.run_bind,run_program,Result.andThen_ok,e1,e2,e3,Bool.false_eq_true,if_false,Sem.run_pure]
  simp
 ·rintro e w' ⟨v,f1,B,rfl,⟨i,rfl,rfl⟩,s'⟩
  obtain⟨fn',tmps',h1,h2,s1⟩:=s'.loop
  have hgl:=s1.got (.here _ _ emp)
  refine⟨none,_,run_endLoop hgl jL,?_⟩
  refine(k i w.heap.size).out _ _ ⟨hf.size,hf.small,?_,fun j u hj=>?_⟩ ((s1.set (w':=w'.putObj (w.heap.size+1) _) aP0 rfl rfl rfl rfl).drop (.here _ _))
  ·show _++a.defers=dmOf _
   rw[hd0]
   rfl
  ·have hl:=look?_lt hj
   rw[look?_cons hl,if_neg jA]at hj
   exact hf.get j u hj
theorem H.rangeFuncE[hfun:Fun P gf](hg:ev? L g=some (.func (.func gf) fs.toArray cs.toArray))(hmk:mk? L=none)
  (hb : ∀ LH : Nat → Nat → LoopState → HP, (LH = fun D lp st => loopH n L lp ps assign body D st) → ∃ (ι : Type) (A' : ι → Nat → List HP),
   (∀D lp,Fn P gf (fs++ [.func (.yield lp) #[] #[]]++cs) f (LH D lp .ready::pts D (.deferred (some []))::A) (fun _ g B=>∃i,g=f'∧B=LH D lp .ready::A' i D))∧
   ∀i D,H P base n ((1000003,.pointer (some ⟨D,0,none⟩))::L) f' (A' i D) (.out .normal q)) :
  H P base n L f A (.code (.rangeFunc g ps.toArray assign body) q):=by
 obtain⟨ι,A',h1,h2⟩:=hb _ rfl;exact H.rangeFunc hg hmk h1 h2
end
theorem eqC_ch(x y:Int×Int):eqC (chV x) (chV y)=decide (x=y):=by
 obtain⟨a,b⟩:=x;obtain⟨c,d⟩:=y;by_cases h1:a=c<;>by_cases h2:b=d<;>simp[eqC,eqv,chV,h1,h2]
def qokB(l:Lgs)(m:Msg):Bool:=m.body.q.all fun q=>decide (q.2≤m.deps (q.1-1).toNat)&& chB l q m.body.view
variable {ys:List (Int × Int)}
section
variable (f:Frag) (F:List HP)
theorem chidx_fn(hl:ys.length≤1000000)(y:Int×Int):
  Fn prog 215 [.slice p ys.length c,.agg (chV y).toArray] f (slc p ys.length c 228 2 (ys.flatMap chV)::F) (Ret (.int .i64 (idxI (fun x=>decide (x=y)) ys)) f (slc p ys.length c 228 2 (ys.flatMap chV)::F)):=by
 refine Fn.e2 func215 ntmps215 fun base=>?_;refine gA ?_;refine H.box (ls:=chV y) rfl rfl rfl rfl fun vb=>?_;refine gT ?_;refine H.lo (ι:=Nat) (fun i=>[(8,.int .i64 (i:Int)),(7,.int .i64 (ys.length:Nat)),(0,.slice p ys.length c),(3,.pointer (some ⟨vb,0,none⟩))]) (fun _=>f) (fun _=>row vb 228 (chV y)::slc p ys.length c 228 2 (ys.flatMap chV)::F) (fun i=>i≤ys.length∧∀j x,j<i→ys[j]? =some x→decide (x=y)=false) (fun i=>ys.length-i) 0 ⟨Nat.zero_le _,fun j x hj=>by omega⟩ fun i hi=>?_;obtain⟨hi,hb⟩:i≤ys.length∧∀j x,j<i→ys[j]? =some x→decide (x=y)=false:=hi;by_cases hlt:i<ys.length
 ·obtain⟨x,hx⟩:∃x,ys[i]? =some x:=⟨_,List.getElem?_eq_getElem hlt⟩;refine H.Ar (p:=p) (n0:=ys.length) (c:=c) (T:=228) (sz:=2) (xs:=ys.flatMap chV) at1 jA fun sb hp=>?_;subst hp
  have rd:∀G:List HP,Rd f (row vb 228 (chV y)::slc (some ⟨sb,0,none⟩) ys.length c 228 2 (ys.flatMap chV)::G) sb (0+i*2) (chV x):=fun G=>by
   rw[Nat.zero_add];exact Rd.slcElem (vals:=chV) (xs:=ys) (n:=ys.length) (c:=c) (T:=228) chV_len jC at1 hx
  refine gG ?_;refine H.dq ?_;refine HQ.Ab (ls:=chV y) rfl rfl rfl (Rd.ofRow aP0) rfl rfl ?_;refine gB ?_;refine HQ.Ak (i:=i) rfl rfl rfl rfl hlt rfl ?_;refine HQ.Ab (ls:=chV x) rfl rfl rfl (rd _) rfl rfl ?_;have he:eqC (chV y) (chV x)=decide (x=y):=by rw[eqC_ch];exact decide_eq_decide.2 ⟨fun h=>h.symm,fun h=>h.symm⟩
  refine HQ.aggEq (xs:=chV y) (ys:=chV x) (D:=4) (b:=decide (x=y)) rfl rfl rfl rfl jD jD jD jD jC he rfl ?_
  cases hxy:decide (x=y)with
  | true =>
   refine gL ?_;refine gD ?_;refine qeJ ?_;refine H.Ae rfl rfl (fun _ h=>h) ⟨?_,rfl,rfl⟩;rw[idxI_at (pr:=fun x=>decide (x=y)) hx hxy hb]
  | false =>
   refine gL ?_;refine gV ?_;refine H.ag (i+1) ⟨by show i+1≤ys.length;omega,fun j z hj hz=>?_⟩ (by show ys.length-(i+1)<ys.length-i;omega);by_cases e:j=i
   ·subst e;rw[hx]at hz;cases hz;exact hxy
   ·exact hb j z jA hz
 ·have e:i=ys.length:=jA
  subst e;refine gZ ?_;refine qeJ ?_;refine H.Ae rfl rfl (fun _ h=>h) ⟨?_,rfl,rfl⟩;rw[idxI_none (pr:=fun x=>decide (x=y)) hb]
theorem chhas_fn(hl:ys.length≤1000000)(y:Int×Int):
  Fn prog 184 [.slice p ys.length c,.agg (chV y).toArray] f (slc p ys.length c 228 2 (ys.flatMap chV)::F) (Ret (.bool (ys.any fun x=>decide (x=y))) f (slc p ys.length c 228 2 (ys.flatMap chV)::F)):=by
 have h1:=idxI_any (fun x=>decide (x=y)) ys;have hc:=fun G=>chidx_fn f G (p:=p) (c:=c) hl y
 refine Fn.e2 func184 ntmps184 fun base=>?_;refine gA ?_;refine H.box (ls:=chV y) rfl rfl rfl rfl fun vb=>?_;refine gK ?_;refine H.Ab (ls:=chV y) rfl rfl rfl (Rd.ofRow aP0) rfl rfl ?_;refine qeJ ?_;refine H.cr (hc _) ?_;exact qci
theorem chB_eq(l:Lgs)(q:Int×Int)(v:Int):((l.ch (q.1-1).toNat).any fun c=>decide (c=(v,q.2)))=chB l q v:=by
 unfold chB;congr 1;funext c;obtain⟨a,b⟩:=c;by_cases h1:a=v<;>by_cases h2:b=q.2<;>simp[h1,h2]
theorem plquorum_fn(hL:LI l T)(hT:T≤50000)(hx:x.Good f)(hm:MIn l.n x.m){cs:Nat→Option Addr×Nat}:
  Fn prog 130 [.pointer (some ⟨lb,0,none⟩),.agg x.vals.toArray] f (row lb 124 (plC l.n l.known vb pp pc cp cc)::slc cp l.n cc 226 1 (chRow l cs)::fam (pcFam l cs) l.n::F)
   (Ret (.bool (qokB l x.m&& decide (x.m.body.q.length=l.n / 2+1))) f (row lb 124 (plC l.n l.known vb pp pc cp cc)::slc cp l.n cc 226 1 (chRow l cs)::fam (pcFam l cs) l.n::F)):=by
 have hn:=hL.n3;have hqat:ListAt f x.qp 2 pairV x.m.body.q:=hx.1
 have hql:x.m.body.q.length≤1000000:=by have:=hx.2.1;omega
 refine Fn.e2 func130 ntmps130 fun base=>?_;refine qej fun mb=>?_;refine gN ?_;refine qkg fun cb hcb=>?_;subst hcb
 refine H.lo (ι:=Nat) (fun i=>[(11,.int .i64 (i:Int)),(10,.int .i64 (x.m.body.q.length:Nat)),(9,.slice x.qp x.m.body.q.length x.qc),(0,.pointer (some ⟨lb,0,none⟩)),(3,.pointer (some ⟨mb,0,none⟩))]) (fun _=>f)
  (fun _=>row mb 54 x.vals::row lb 124 (plC l.n l.known vb pp pc (some ⟨cb,0,none⟩) cc)::slc (some ⟨cb,0,none⟩) l.n cc 226 1 (chRow l cs)::fam (pcFam l cs) l.n::F)
  (fun i=>i≤x.m.body.q.length∧∀j p,j<i→x.m.body.q[j]? =some p→p.2≤x.m.deps (p.1-1).toNat∧chB l p x.m.body.view=true) (fun i=>x.m.body.q.length-i) 0 ⟨Nat.zero_le _,fun j p hj=>by omega⟩ fun i hi1=>?_
 obtain⟨hi1,hb⟩:i≤x.m.body.q.length∧∀j p,j<i→x.m.body.q[j]? =some p→p.2≤x.m.deps (p.1-1).toNat∧chB l p x.m.body.view=true:=hi1;by_cases hlt:i<x.m.body.q.length
 ·obtain⟨p,hp⟩:∃p,x.m.body.q[i]? =some p:=⟨_,List.getElem?_eq_getElem hlt⟩;have hpm:=List.mem_of_getElem? hp;have hpq:=hm.q p hpm
  obtain⟨r,hre⟩:∃r,r=(p.1-1).toNat:=⟨_,rfl⟩;have hr:r<l.n:=jA
  have hr11:r<11:=jA
  have hrz:p.1-1=(r:Nat):=jA
  obtain⟨qb,qoff,qcs,qT,qfr,hqp,hqfb,hqcs⟩:=hqat i p hp;have rd:∀A,Rd f A qb (qoff+i*2) (pairV p):=fun A=>Rd.imm hqfb hqcs;have hch:=fun G=>chhas_fn f G (p:=(cs r).1) (c:=(cs r).2) (ys:=l.ch r) (Nat.le_trans (hL.cl r) jA) (x.m.body.view,p.2)
  have hcbe:=chB_eq l p x.m.body.view;rw[←hre]at hcbe
  rw[hcbe]at hch;refine gG ?_;refine H.Ak (b:=qb) (off:=qoff) (i:=i) rfl kE rfl rfl hlt rfl ?_;refine qkM fun ab=>?_;refine qjR ?_;refine gA ?_;refine H.db (S:=[_,_,_,_]) rfl ?_;refine HB.qu [0,1,2,3,4,5,6,7,8,9,10,11,12,13,14,15,16,17,18,19,20,21,22,23,24] 3 ?_;refine qhe ?_;by_cases h1:p.2≤x.m.deps r
  ·skip;refine gP ?_;refine qgL ?_;refine HB.ev 25 ?_;skip;refine H.pf (x:=fam (pcFam l cs) _) ?_;refine H.Bp hr ?_;refine H.cr (hch _) ?_;refine H.Cg (g:=pcFam l cs) hr ?_;refine qfp ?_;refine qeT ?_
   cases hcb:chB l p x.m.body.view with
   | true =>
    refine qed ?_;refine HB.qu [26,27] 0 ?_;refine qfh ?_;refine gV ?_;refine qiq ?_;exact qbs
   | false =>
    have hqo:qokB l x.m=false:=List.all_eq_false.2 ⟨p,hpm,by rw[hcb,Bool.and_false];decide⟩;refine gA ?_
    exact qbv
  ·have hqo:qokB l x.m=false:=List.all_eq_false.2 ⟨p,hpm,by rw[←hre,decide_eq_false h1,Bool.false_and];decide⟩;refine gP ?_
   refine qel ?_;refine HB.ev 25 ?_;refine gC ?_;exact qbv
 ·have hqo:qokB l x.m=true:=List.all_eq_true.2 fun p hp=>by
   exact qbX
  have hqz:decide (((x.m.body.q.length:Nat):Int)=((l.n / 2:Nat):Int)+1)=decide (x.m.body.q.length=l.n / 2+1):=decide_eq_decide.2 jA;clear hb
  rw[hqo,Bool.true_and,←hqz];refine gZ ?_;refine H.dq ?_;refine gR ?_;refine HQ.quo (z:=((l.n / 2:Nat):Int)) rfl rfl rfl jC ji rfl ?_;refine gI ?_;refine gT ?_;exact qce
end
def bmax(a z:Int×Int):Int×Int:=if a.1<z.1∨(z.1=a.1∧a.2<z.2)then z else a
variable {bv:Int} {z:Int × Int}
theorem bestOf_yes{r:List (Int×Int)}{a:Int×Int}(h:z.1<bv):bestOf bv (z::r) a=bestOf bv r (bmax a z):=by
 rw[bestOf_cons];unfold bmax;by_cases h2:a.1<z.1∨(z.1=a.1∧a.2<z.2)
 ·rw[if_pos ⟨h,h2⟩,if_pos h2]
 ·rw[if_neg (fun h3=>h2 h3.2),if_neg h2]
theorem bestOf_no{r:List (Int×Int)}{a:Int×Int}(h:¬z.1<bv):bestOf bv (z::r) a=bestOf bv r a:=by
 rw[bestOf_cons,if_neg (fun h3=>h h3.1)]
theorem voted_at:∀ {l:List (Int×Int)},(l.map (·.1)).Pairwise (· < ·)→∀ {z:Int×Int},z∈l→PM.voted l z.1=some z.2
 | [],_,z,h=>by cases h
 | (w, n) :: r, hr, z, h => by
  rw[List.map_cons,List.pairwise_cons]at hr
  unfold PM.voted
  by_cases e:z.1=w
  ·rw[if_pos e]
   rcases List.mem_cons.1 h with h|h
   ·rw[h]
   ·have:=hr.1 z.1 (List.mem_map.2 ⟨z,h,rfl⟩)
    simp only at this
    omega
  ·rw[if_neg e]
   rcases List.mem_cons.1 h with h|h
   ·rw[h]at e;exact absurd rfl e
   ·exact voted_at hr.2 h
section
variable (f:Frag) (F:List HP)
theorem plvoted1_fn{b:Nat}{s:PM}(hz:PM.voted s.all z.1=some z.2):Fn prog 76 [.pointer (some ⟨b,0,none⟩),.int .u64 z.1] f (pastH b s::F) (Ret (.tuple #[.int .i64 z.2,.bool true]) f (pastH b s::F)):=by
 have h:=voted_fn f F b s z.1;rw[hz]at h
 exact h
theorem votes_fn:Fn prog 131 [.pointer (some ⟨lb,0,none⟩),.slice p m c,.int .u64 bv] f F
  (RetE (α := Nat × Nat × Nat) (fun b => .func (.func 185) #[] #[.pointer (some ⟨b.1, 0, none⟩), .pointer (some ⟨b.2.1, 0, none⟩), .pointer (some ⟨b.2.2, 0, none⟩)]) f
   (fun b=>row b.1 50 [.slice p m c]::row b.2.1 80 [.pointer (some ⟨lb,0,none⟩)]::row b.2.2 35 [.int .u64 bv]::F)):=by
 refine Fn.e3 func131 ntmps131 fun base=>?_;refine qgk fun b2=>?_;refine H.box (ls:=[.slice p m c]) rfl rfl rfl rfl fun b1=>?_;refine H.box (ls:=[.int .u64 bv]) rfl rfl rfl rfl fun b3=>?_;refine gX ?_;refine H.pf (x:=row b2 _ _) ?_;refine H.pf (x:=row b1 _ _) ?_;exact H.r1 ⟨(b1,b2,b3),rfl,rfl,rfl⟩
theorem votes1_fn(hfl:Le fl f)(hL:LI l T)(hT:T≤50000){i:PPt}(hi:plφ fl l i){qp:Option Addr}{q:List (Int×Int)}(hq:QAt f qp q)(hql:q.length≤1000000)(hm:∀p∈q,1≤p.1∧p.1≤(l.n:Int)){X:Int×Int→HP}
  (hY:∀(a z:Int×Int) (G:List HP),YieldFn prog lp [.int .u64 z.1,.int .i64 z.2] f (X a::G) (fun v g B=>v= .bool true∧g=f∧B=X (bmax a z)::G)) {b1 b2 b3:Nat} (a0:Int×Int) :
  Fn prog 185 ([]++ [.func (.yield lp) #[] #[]]++ [.pointer (some ⟨b1,0,none⟩),.pointer (some ⟨b2,0,none⟩),.pointer (some ⟨b3,0,none⟩)]) f
   (X a0::row b1 50 [.slice qp q.length qc]::row b2 80 [.pointer (some ⟨lb,0,none⟩)]::row b3 35 [.int .u64 bv]::row lb 124 (plC l.n l.known i.vb i.pp i.pc i.cp i.cc)::fam (fun r=>pastH (i.pb r) (l.past r)) l.n::F)
   (Ret (.tuple #[]) f (X (bestQ l.past bv q a0)::row b1 50 [.slice qp q.length qc]::row b2 80 [.pointer (some ⟨lb,0,none⟩)]::row b3 35 [.int .u64 bv]::row lb 124 (plC l.n l.known i.vb i.pp i.pc i.cp i.cc)::fam (fun r=>pastH (i.pb r) (l.past r)) l.n::F)):=by
 have hn:=hL.n3;have hqat:ListAt f qp 2 pairV q:=hq
 have hpa:=fun(o:Nat) (ho:o<l.n) (r:Int) (hr:r=((o+1:Nat):Int)) (G:List HP)=>plpast_fn f G hfl (lb:=lb) hi hn.2 ho hr;obtain⟨V,vb,pp,pc,cp,cc,pb,cs⟩:=i
 show Fn _ _ _ f (_::_::_::_::row lb 124 (plC l.n l.known vb pp pc cp cc)::fam (fun r=>pastH (pb r) (l.past r)) l.n::F) (Ret _ f (_::_::_::_::row lb 124 (plC l.n l.known vb pp pc cp cc)::fam (fun r=>pastH (pb r) (l.past r)) l.n::F));have hpa:∀(o:Nat),o<l.n→∀(r:Int),r=((o+1:Nat):Int)→∀(G:List HP),Fn prog 53 [.pointer (some ⟨lb,0,none⟩),.int .i64 r] f (row lb 124 (plC l.n l.known vb pp pc cp cc)::G) (Ret (.pointer (some ⟨pb o,0,none⟩)) f (row lb 124 (plC l.n l.known vb pp pc cp cc)::G)):=hpa;refine Fn.e4 func185 ntmps185 fun base=>?_
 refine gN ?_
 refine H.lo (ι:=Nat×Int×Int) (fun s=>[(14,.int .i64 (s.1:Int)),(13,.int .i64 (q.length:Nat)),(12,.slice qp q.length qc),(0,.func (.yield lp) #[] #[]),(2,.pointer (some ⟨b2,0,none⟩)),(3,.pointer (some ⟨b3,0,none⟩))]) (fun _=>f)
  (fun s=>X s.2::row b1 50 [.slice qp q.length qc]::row b2 80 [.pointer (some ⟨lb,0,none⟩)]::row b3 35 [.int .u64 bv]::row lb 124 (plC l.n l.known vb pp pc cp cc)::fam (fun r=>pastH (pb r) (l.past r)) l.n::F)
  (fun s=>s.1≤q.length∧bestQ l.past bv (q.drop s.1) s.2=bestQ l.past bv q a0) (fun s=>q.length-s.1) (0,a0) ⟨Nat.zero_le _,rfl⟩ fun s hs=>?_
 obtain⟨j,a⟩:=s;obtain⟨hj1,hbq⟩:j≤q.length∧bestQ l.past bv (q.drop j) a=bestQ l.past bv q a0:=hs;show H _ _ _ [(14,.int .i64 (j:Int)),_,_,_,_,_] f (X a::_::_::_::_::_::F) _;by_cases hlt:j<q.length
 ·obtain⟨p,hp⟩:∃p,q[j]? =some p:=⟨_,List.getElem?_eq_getElem hlt⟩;have hpm:=List.mem_of_getElem? hp;have hpq:=hm p hpm
  obtain⟨r,hre⟩:∃r,r=(p.1-1).toNat:=⟨_,rfl⟩;have hr:r<l.n:=jA
  obtain⟨qb,qoff,qcs,qT,qfr,hqp,hqfb,hqcs⟩:=hqat j p hp;have rd:∀A,Rd f A qb (qoff+j*2) (pairV p):=fun A=>Rd.imm hqfb hqcs;rw[show q.drop j=p::q.drop (j+1) by rw[List.drop_eq_getElem_cons hlt,(List.getElem?_eq_some_iff.1 hp).2]]at hbq
  rw[bestQ_cons]at hbq;rw[←hre]at hbq;have hwf:=hL.wf r hr;have hil:=hL.il r hr
  have halen:=all_len (l.past r);have hen:=fun G=>entered_fn f G (pb r) (l.past r) jA
  have hpar:=hpa r hr p.1 jA;clear hpa
  refine gG ?_;refine H.Ak (b:=qb) (off:=qoff) (i:=j) rfl kE rfl rfl hlt rfl ?_;refine qkM fun ab=>?_;refine qjR ?_;refine gF ?_;refine qet ?_;refine H.cr (hpar _) ?_;refine gK ?_;refine qkq ?_;refine H.cl (hen _) fun v f' A' hR=>?_;obtain⟨ep,ec,rfl,hff,rfl⟩:=hR;rw[hff];clear hen hff;refine gT ?_;refine H.pf (x:=row b3 _ _) ?_;refine H.pf (x:=X a) ?_
  refine H.lo (ι:=Nat×Int×Int) (fun s=>[(25,.int .i64 (s.1:Int)),(24,.int .i64 (((l.past r).init.length+1:Nat):Int)),(23,.slice ep ((l.past r).init.length+1) ec),(7,.pointer (some ⟨pb r,0,none⟩)),(14,.int .i64 (j:Int)),(13,.int .i64 (q.length:Nat)),(12,.slice qp q.length qc),(0,.func (.yield lp) #[] #[]),(2,.pointer (some ⟨b2,0,none⟩)),(3,.pointer (some ⟨b3,0,none⟩))]) (fun _=>f)
   (fun s=>X s.2::row b3 35 [.int .u64 bv]::slc ep ((l.past r).init.length+1) ec 35 1 (viewsV (l.past r).all)::pastH (pb r) (l.past r)::fam (updF (fun r=>pastH (pb r) (l.past r)) r emp) l.n::row lb 124 (plC l.n l.known vb pp pc cp cc)::row ab 127 (pairV p)::row b1 50 [.slice qp q.length qc]::row b2 80 [.pointer (some ⟨lb,0,none⟩)]::F)
   (fun s=>s.1≤(l.past r).all.length∧bestOf bv ((l.past r).all.drop s.1) s.2=bestOf bv (l.past r).all a) (fun s=>(l.past r).all.length-s.1) (0,a) ⟨Nat.zero_le _,rfl⟩ fun s hs=>?_
  obtain⟨k,a2⟩:=s;obtain⟨hk1,hbo⟩:k≤(l.past r).all.length∧bestOf bv ((l.past r).all.drop k) a2=bestOf bv (l.past r).all a:=hs;show H _ _ _ [(25,.int .i64 (k:Int)),_,_,_,_,_,_,_,_,_] f (X a2::_::_::_::_::_::_::_::_::F) _;by_cases hk:k<(l.past r).all.length
  ·obtain⟨z,hz⟩:∃z,(l.past r).all[k]? =some z:=⟨_,List.getElem?_eq_getElem hk⟩;rw[show(l.past r).all.drop k=z::(l.past r).all.drop (k+1) by rw[List.drop_eq_getElem_cons hk,(List.getElem?_eq_some_iff.1 hz).2]]at hbo;have hvo:=fun G=>plvoted1_fn f G (b:=pb r) (s:=l.past r) (z:=z) (voted_at hwf.rise (List.mem_of_getElem? hz));refine H.Ar (p:=ep) (n0:=(l.past r).init.length+1) (c:=ec) (T:=35) (sz:=1) (xs:=viewsV (l.past r).all) at2 jA fun eb hep=>?_
   subst hep;refine gG ?_;refine qgJ ?_;refine H.Ad rfl rfl rfl (by rw[Nat.zero_add,Nat.mul_one];exact Rd1.at0 (Rd.ofSlc at2 jA) (v:=.int .u64 z.1) (by rw[viewsV,List.getElem?_map,hz];rfl)) rfl ?_;refine gK ?_;refine H.pf (x:=pastH (pb r) _) ?_;refine H.cr (hvo _) ?_
   iterate 8 ( first
    |((first|apply H.Aw|apply H.Be|apply H.Bd|apply H.Bi|apply H.Bs|apply H.Bt);(iterate 3 exact rfl))
    |(apply H.Bm;(iterate 3 exact rfl);exact inferInstance;exact rfl)
    |(apply H.Ad;(iterate 3 exact rfl);apply Rd1.ofRow;(repeat(first|exact .here _ _ _|apply At.there));(iterate 2 exact rfl))
    |(first|apply H.seq|apply H.Bg|apply H.nil|apply H.Bj)
    |((first|apply H.cmp|apply H.Ay);(iterate 5 exact rfl))
    |((first|(apply H.ar;(iterate 4 exact rfl))|(apply H.Bk;(iterate 2 exact rfl)));(first|(with_reducible apply zbe;omega)|(with_reducible apply zbf;omega)|(with_reducible apply zbd;omega)|(with_reducible apply wr_i64;omega)|(with_reducible apply wr_u64;omega)|(with_reducible apply wr_u8;omega)|(with_reducible apply wr_u16;omega)|rfl);exact rfl)
    |(apply H.pass;(iterate 2 exact rfl))
    |(apply H.pass0;exact rfl)
    |(apply H.pickT;(iterate 4 exact rfl))
    |((first|apply H.Br|apply H.Bv|apply H.not|apply H.Co);(iterate 4 exact rfl))
    |((first|apply H.ptrNil|apply H.sliceNil);(iterate 5 exact rfl))
    |(apply H.Bb;(iterate 4 exact rfl);(repeat(first|exact .here _ _ _|apply At.there));(repeat(first|exact .here _ _ _|apply SetV.there)))
    |(apply H.Cp;exact rfl)
    |(apply H.Cn;exact rfl)
    |(first|apply H.skip|apply H.ret|apply H.Cc|apply H.Ce|apply H.exit|apply H.Bl|apply H.Bq|apply H.Ca|apply H.Cf|apply H.Bz|apply H.Cb)
    |(apply H.in_miss;exact rfl)
    |(apply H.gyes;(iterate 3 exact rfl);(first|assumption|omega))
    |(apply H.gno;(iterate 3 exact rfl);(first|assumption|omega))
    |(apply H.Ci;exact rfl;(first|assumption|omega))
    |(apply H.Cj;exact rfl;(first|assumption|omega))
    |((first|apply H.gtrue);(iterate 3 exact rfl);assumption)
    |(apply H.gfalse;(iterate 3 exact rfl);assumption)
    |(apply H.cond_t;exact rfl;assumption)
    |(apply H.cond_f;exact rfl;assumption) )
   refine H.regionY ?_;refine H.inOp jE ?_;refine gK ?_;refine H.Bu ?_;refine H.inOp jE ?_;refine gF ?_;refine H.Bu ?_;refine H.inOp jE ?_;refine gQ ?_;refine H.Bu ?_;refine H.inOp jE ?_;refine gK ?_;refine H.Bu ?_;by_cases hzb:z.1<bv
   ·rw[bestOf_yes hzb]at hbo;refine H.inOp jE ?_;refine gQ ?_;refine H.Bu ?_;refine H.inOp jE ?_;refine gK ?_;refine H.Bu ?_;refine H.inOp jE ?_;refine gK ?_;refine H.Bu ?_;refine H.pf (x:=X a2) ?_;refine H.yield rfl rfl rfl rfl (hY a2 z _) fun v f' A' hR=>?_;obtain⟨rfl,hff,rfl⟩:=hR;rw[hff];clear hff;refine H.inOp jE ?_;refine gY ?_;refine H.Bu ?_;refine H.inOp jE ?_;refine gQ ?_;refine qgQ ?_;exact H.ag (k+1,bmax a2 z) ⟨by show k+1≤(l.past r).all.length;omega,hbo⟩ jR
   ·rw[bestOf_no hzb]at hbo;refine H.inOp jE ?_;refine gU ?_;refine H.Bu ?_;refine H.inOp jE ?_;refine gC ?_;refine H.Bu ?_;refine H.inOp jE ?_;refine gC ?_;refine H.Bu ?_;refine H.inOp jE ?_;refine gC ?_;refine H.Bu ?_;refine H.inOp jE ?_;refine gC ?_;refine H.Bu ?_;refine H.inOp jE ?_;refine gY ?_;refine qgQ ?_;exact H.ag (k+1,a2) ⟨by show k+1≤(l.past r).all.length;omega,hbo⟩ jR
  ·have e:k=(l.past r).all.length:=jA
   subst e;rw[List.drop_length]at hbo;have hbo:a2=bestOf bv (l.past r).all a:=hbo;rw[←hbo]at hbq
   refine gZ ?_;refine H.pd (x:=slc ep _ ec _ _ _) ?_;refine qiq ?_;refine H.pf (x:=fam (updF _ _ _) _) ?_;refine H.pf (x:=pastH (pb r) _) ?_;refine qjl ?_;refine qjT ?_;refine H.pf (x:=X _) ?_;exact H.ag (j+1,a2) ⟨by show j+1≤q.length;omega,hbq⟩ (by show q.length-(j+1)<q.length-j;omega)
 ·have e:j=q.length:=jA
  subst e;rw[List.drop_length]at hbq;have hbq:a=bestQ l.past bv q a0:=hbq;rw[←hbq]
  refine gZ ?_;exact qaZ
end
theorem Lgs.begins_no{m:Msg}(ho:l.n % 2=1)(h:(qokB l m&& decide (m.body.q.length=l.n / 2+1))=false):l.begins m=(false,l):=by
 unfold Lgs.begins;by_cases h1:m.body.q.length≠(l.n-1) / 2+1
 ·rw[if_pos h1]
 ·rw[if_neg h1,if_pos];rw[decide_eq_true (show m.body.q.length=l.n / 2+1 by omega),Bool.and_true]at h;exact h
theorem Lgs.begins_en{m:Msg}(ho:l.n % 2=1)(h:(qokB l m&& decide (m.body.q.length=l.n / 2+1))=true){u:Int}{ln:Nat}{w:Vw}(hb:bestQ l.past m.body.view m.body.q (0,0)=(u,(ln:Int)))(hat:vwAt l.vs u=some iv)(hw:l.vs[iv]? =some w):l.begins m=
  if(l.past (orgI m)).enterOk m.body.view ln=false then(false,l)else
  (true,{l with past:=updF l.past (orgI m) ((l.past (orgI m)).enter m.body.view ln),vs:=insV ⟨m.body.view,m.number,w.all.take ln,[]⟩ l.vs}):=by
 rw[Bool.and_eq_true]at h;have h2:=of_decide_eq_true h.2;unfold Lgs.begins
 have h1:(m.body.q.all fun q=>decide (q.2≤m.deps (q.1-1).toNat)&& chB l q m.body.view)=true:=h.1
 have h3:((match vwAt l.vs u with|none=>[]|some i=>(l.vs[i]?.map Vw.all).getD []).take (ln:Int).toNat)=w.all.take ln:=by
  rw[hat];show((l.vs[iv]?.map Vw.all).getD []).take (ln:Int).toNat=_;rw[hw];rfl
 rw[hb,if_neg jA,if_neg kS,←h3];rfl
theorem LI.fresh(h:LI l T){v k:Int}(hr:primI l.n v<l.n)(he:(l.past (primI l.n v)).enterOk v k=true):vwAt l.vs v=none:=by
 have hw:=h.wf _ hr;have he:=of_decide_eq_true he
 refine vwAt_none.2 fun w hm e=>?_;by_cases h0:w.v=0
 ·have:=hw.last;omega
 ·obtain⟨p,hp,h1⟩:=h.begun w hm h0;rw[e]at hp h1;exact hw.not_all he.1 (List.mem_map.2 ⟨p,hp,h1⟩)
theorem ent_fresh(h:(V.map PV.w).Perm l.vs){v:Int}(hv:vwAt l.vs v=none):v∉(V.map PV.ent).map (·.1):=fun hm=>by
 obtain⟨e,he,h1⟩:=List.mem_map.1 hm
 obtain⟨x,hx,rfl⟩:=List.mem_map.1 he
 exact vwAt_none.1 hv x.w (h.mem_iff.1 (List.mem_map.2 ⟨x,hx,rfl⟩)) h1
section
variable (f:Frag) (F:List HP)
theorem plnew_view_fn(hfl:Le fl f)(hL:LI l T)(hT:T≤50000)(hodd:l.n % 2=1)(hx:x.Good f)(hm:MIn l.n x.m)(hk:x.m.body.kind=4){i:PPt}(hi:plφ fl l i)(hre:r=orgI x.m):
  Fn prog 91 [.pointer (some ⟨lb,0,none⟩),.agg x.vals.toArray,.pointer (some ⟨i.pb r,0,none⟩)] f (plB lb l i++F) (Ret (.bool (l.counts x.m).1) f (plogH f lb (l.counts x.m).2::F)):=by
 have hiF:=hi.mono hfl;have hn:=hL.n3
 have hor:=hm.o;have hr:r<l.n:=by rw[hre];unfold orgI;omega
 have hwf:=hL.wf r hr;have hil:=hL.il r hr
 have hvl:=hL.vl;have hv0:=hm.v
 have hvs:=hi.vs;have hql:x.m.body.q.length≤1000000:=by have:=hx.2.1;omega
 have hvo1:=fun(lp:Nat) (X:Int×Int→HP) (hY) (b1 b2 b3:Nat) (G:List HP)=>votes1_fn f G hfl (lb:=lb) hL hT hi (q:=x.m.body.q) (qc:=x.qc) hx.1 hql hm.q (bv:=x.m.body.view) (lp:=lp) (X:=X) hY (b1:=b1) (b2:=b2) (b3:=b3) (0,0);obtain⟨V,vb,pp,pc,cp,cc,pb,cs⟩:=i
 have hvs:(V.map PV.w).Perm l.vs:=hvs
 have hvo1:∀(lp:Nat) (X:Int×Int→HP),(∀(a z:Int×Int) (G:List HP),YieldFn prog lp [.int .u64 z.1,.int .i64 z.2] f (X a::G) (fun v g B=>v= .bool true∧g=f∧B=X (bmax a z)::G))→∀(b1 b2 b3:Nat) (G:List HP),Fn prog 185 ([]++ [.func (.yield lp) #[] #[]]++ [.pointer (some ⟨b1,0,none⟩),.pointer (some ⟨b2,0,none⟩),.pointer (some ⟨b3,0,none⟩)]) f
   (X (0,0)::row b1 50 [.slice x.qp x.m.body.q.length x.qc]::row b2 80 [.pointer (some ⟨lb,0,none⟩)]::row b3 35 [.int .u64 x.m.body.view]::row lb 124 (plC l.n l.known vb pp pc cp cc)::fam (fun r=>pastH (pb r) (l.past r)) l.n::G)
   (Ret (.tuple #[]) f (X (bestQ l.past x.m.body.view x.m.body.q (0,0))::row b1 50 [.slice x.qp x.m.body.q.length x.qc]::row b2 80 [.pointer (some ⟨lb,0,none⟩)]::row b3 35 [.int .u64 x.m.body.view]::row lb 124 (plC l.n l.known vb pp pc cp cc)::fam (fun r=>pastH (pb r) (l.past r)) l.n::G)):=hvo1
 have hprim:=fun G=>plprim_fn f G (lb:=lb) (n:=l.n) (kn:=l.known) (vb:=vb) (pp:=pp) (pc:=pc) (cp:=cp) (cc:=cc) jA hv0;have hqu:=fun G=>plquorum_fn f G hL hT hx hm (lb:=lb) (vb:=vb) (pp:=pp) (pc:=pc) (cp:=cp) (cc:=cc) (cs:=cs)
 rw[Lgs.counts_4 hk];refine qek ?_;by_cases hp:primZ l.n x.m.body.view=x.m.origin
 ·rw [if_pos (decide_eq_true hp)]
  cases hqk:qokB l x.m&& decide (x.m.body.q.length=l.n / 2+1)with
  | false =>
   rw[Lgs.begins_no hodd hqk];rw[hqk]at hqu;refine qhr fun base=>?_;refine qej fun mb=>?_;refine gF ?_;refine H.drawB jD jK jM (S:=[_]) rfl ?_;refine qfC ?_;refine qja ?_;exact qaQ
  | true =>
   obtain⟨⟨u,z⟩,hbq⟩:∃b,bestQ l.past x.m.body.view x.m.body.q (0,0)=b:=⟨_,rfl⟩;have hbest:=hL.best hm;rw[hbq]at hbest hvo1
   obtain⟨iv,w,hat,hw,hz0,hz1⟩:∃i w,vwAt l.vs u=some i∧l.vs[i]? =some w∧0≤z∧z≤(w.all.length:Int):=hbest;obtain⟨ln,rfl⟩:∃ln:Nat,z=(ln:Int):=⟨z.toNat,by omega⟩;have hln:ln≤w.all.length:=jA
   obtain⟨j,X,hX,hXw,hgetX⟩:=view_some hvs hL.rise hat hw;have hget:(getKV (V.map PV.ent) u).getD (.pointer none)= .pointer (some ⟨X.b,0,none⟩):=by rw[hgetX];rfl
   subst hXw;have hXl:=hL.al X.w (List.mem_of_getElem? hw);rw[Lgs.begins_en hodd hqk hbq hat hw,←hre]
   rw[hqk]at hqu;refine qhr fun base=>?_;refine qej fun mb=>?_;refine gF ?_;refine H.drawB jD jK jM (S:=[_]) rfl ?_;refine qfC ?_;refine qfA ?_;refine HB.qu [10,11] 0 ?_;refine qfh ?_;refine gV ?_;refine H.Aj (ls:=[.int .u64 0]) rfl rfl rfl fun ub=>?_;refine H.Aj (ls:=[.int .i64 0]) rfl rfl rfl fun nb=>?_;refine gc ?_;refine H.callE rfl rfl rfl (votes_fn f _) fun b=>?_;obtain⟨b1,b2,b3⟩:=b;refine gT ?_;refine H.sb [(35,.func (.func 185) #[] #[.pointer (some ⟨b1,0,none⟩),.pointer (some ⟨b2,0,none⟩),.pointer (some ⟨b3,0,none⟩)]),(9,.pointer (some ⟨nb,0,none⟩)),(8,.pointer (some ⟨ub,0,none⟩)),(7,.int .u64 x.m.body.view),(4,.pointer (some ⟨mb,0,none⟩)),(2,.pointer (some ⟨pb r,0,none⟩)),(0,.pointer (some ⟨lb,0,none⟩))] ?_;refine qg ?_;refine qjT ?_;refine qjX ?_;refine H.pf (x:=row ub _ _) ?_;refine H.rangeFuncE (f':=f) (fs:=[]) (cs:=[.pointer (some ⟨b1,0,none⟩),.pointer (some ⟨b2,0,none⟩),.pointer (some ⟨b3,0,none⟩)]) rfl rfl fun LH hLH=>⟨Unit,fun _ D=>pts D (.deferred (some []))::row ub 35 [.int .u64 u]::row nb 3 [.int .i64 (ln:Int)]::row b1 50 [.slice x.qp x.m.body.q.length x.qc]::row b2 80 [.pointer (some ⟨lb,0,none⟩)]::row b3 35 [.int .u64 x.m.body.view]::row lb 124 (plC l.n l.known vb pp pc cp cc)::fam (fun r=>pastH (pb r) (l.past r)) l.n::row mb 54 x.vals::slc cp l.n cc 226 1 (chRow l cs)::fam (pcFam l cs) l.n::mp vb keyU (V.map PV.ent)::lst (V.map PV.own)::F,fun D lp=>?_,fun _ D=>?_⟩
   ·refine Fn.wrap (pack_all [LH D lp .ready,pts D (.deferred (some [])),row ub 35 [.int .u64 0],row nb 3 [.int .i64 0]] _) (hvo1 lp (fun a=>stars [LH D lp .ready,pts D (.deferred (some [])),row ub 35 [.int .u64 a.1],row nb 3 [.int .i64 a.2]]) (fun a z G=>?_) b1 b2 b3 _) fun v g B hR=>?_
    ·refine YieldFn.wrap (R1:=fun v g B=>v= .bool true∧g=f∧B=LH D lp .ready::pts D (.deferred (some []))::row ub 35 [.int .u64 (bmax a z).1]::row nb 3 [.int .i64 (bmax a z).2]::G) (open_all _ _) ?_ ?_
     ·subst hLH;refine YieldFn.of rfl rfl rfl rfl fun base=>?_;repeat(first|(first|(first|apply H.seqR|apply H.thenR)|(apply H.regionR;exact rfl;exact jE))|(first|((apply H.Be);(iterate 3 exact rfl))|(apply H.nil)))
      refine H.begin ?_;by_cases h1:a.1<z.1
      ·rw[show bmax a z=z by unfold bmax;rw[if_pos (.inl h1)]];repeat(first|(first|(first|apply H.seqR|apply H.thenR|apply H.blockR)|(apply H.regionR;exact rfl;exact jE)|(apply H.condR_true;exact rfl))|(first|((apply H.Aw);(iterate 3 exact rfl))|(apply H.Ad;(iterate 3 exact rfl);apply Rd1.ofRow;(repeat(first|exact .here _ _ _|apply At.there));(iterate 2 exact rfl))|(apply H.nil)|((apply H.cmp);(iterate 5 exact rfl))|(apply H.pass;(iterate 2 exact rfl))|(apply H.pickT;(iterate 4 exact rfl))|(apply H.Bb;(iterate 4 exact rfl);(repeat(first|exact .here _ _ _|apply At.there)))|(apply H.Bq)|(apply H.gyes;(iterate 3 exact rfl);(assumption))))
       exact qdm
      ·by_cases h2 : z.1 = a.1
       ·by_cases h3:a.2<z.2
        ·rw[show bmax a z=z by unfold bmax;rw[if_pos (.inr ⟨h2,h3⟩)]];repeat(first|(first|(first|apply H.seqR|apply H.thenR|apply H.blockR)|(apply H.regionR;exact rfl;exact jE)|(apply H.condR_yes;exact rfl;(assumption)))|(first|((apply H.Aw);(iterate 3 exact rfl))|(apply H.Ad;(iterate 3 exact rfl);apply Rd1.ofRow;(repeat(first|exact .here _ _ _|apply At.there));(iterate 2 exact rfl))|(apply H.nil)|((apply H.cmp);(iterate 5 exact rfl))|(apply H.pickT;(iterate 4 exact rfl))|((apply H.Br);(iterate 4 exact rfl))|(apply H.Bb;(iterate 4 exact rfl);(repeat(first|exact .here _ _ _|apply At.there)))|(apply H.Bq)|(apply H.gyes;(iterate 3 exact rfl);(assumption))|(apply H.gno;(iterate 3 exact rfl);(assumption))))
         exact qdm
        ·rw[show bmax a z=a by unfold bmax;rw[if_neg (by rintro(h|h);exact h1 h;exact h3 h.2)]];repeat(first|(first|(first|apply H.seqR|apply H.thenR|apply H.skipR|apply H.blockR)|(apply H.regionR;exact rfl;exact jE)|(apply H.condR_no;exact rfl;(assumption)))|(first|((apply H.Aw);(iterate 3 exact rfl))|(apply H.Ad;(iterate 3 exact rfl);apply Rd1.ofRow;(repeat(first|exact .here _ _ _|apply At.there));(iterate 2 exact rfl))|(apply H.nil)|((apply H.cmp);(iterate 5 exact rfl))|(apply H.pickT;(iterate 4 exact rfl))|((apply H.Br);(iterate 4 exact rfl))|(apply H.Bq)|(apply H.gyes;(iterate 3 exact rfl);(assumption))|(apply H.gno;(iterate 3 exact rfl);(assumption))))
         exact qdm
       ·rw[show bmax a z=a by unfold bmax;rw[if_neg (by rintro(h|h);exact h1 h;exact h2 h.1)]];repeat(first|(first|(first|apply H.seqR|apply H.thenR|apply H.skipR|apply H.blockR)|(apply H.regionR;exact rfl;exact jE)|(apply H.condR_false;exact rfl))|(first|((apply H.Aw);(iterate 3 exact rfl))|(apply H.Ad;(iterate 3 exact rfl);apply Rd1.ofRow;(repeat(first|exact .here _ _ _|apply At.there));(iterate 2 exact rfl))|(apply H.nil)|((apply H.cmp);(iterate 5 exact rfl))|(apply H.pass;(iterate 2 exact rfl))|((apply H.Br);(iterate 4 exact rfl))|(apply H.Bq)|(apply H.gno;(iterate 3 exact rfl);(assumption))))
        exact qdm
     ·rintro v g B ⟨rfl,rfl,rfl⟩;exact⟨_,⟨rfl,rfl,rfl⟩,pack_all [_,_,_,_] G⟩
    ·obtain⟨rfl,rfl,rfl⟩:=hR;exact⟨_,⟨(),rfl,rfl⟩,open_all [_,_,_,_] _⟩
   ·have hent:=fun G=>enter_fn f G (pb r) (l.past r) hwf jA x.m.body.view (ln:Int);show H _ _ _ _ f (pts D (.deferred (some []))::row ub 35 [.int .u64 u]::row nb 3 [.int .i64 (ln:Int)]::row b1 50 [.slice x.qp x.m.body.q.length x.qc]::row b2 80 [.pointer (some ⟨lb,0,none⟩)]::row b3 35 [.int .u64 x.m.body.view]::row lb 124 (plC l.n l.known vb pp pc cp cc)::fam (fun r=>pastH (pb r) (l.past r)) l.n::row mb 54 x.vals::slc cp l.n cc 226 1 (chRow l cs)::fam (pcFam l cs) l.n::mp vb keyU (V.map PV.ent)::lst (V.map PV.own)::F) _
    refine H.pd (x:=row b1 _ _) ?_;refine H.pd (x:=row b2 _ _) ?_;refine H.pd (x:=row b3 _ _) ?_;refine gN ?_;refine qkq ?_;refine H.cr (hent _) ?_
    cases hek:(l.past r).enterOk x.m.body.view ln with
    | false =>
     rw[if_pos rfl];rw[show(l.past r).enter x.m.body.view ln=l.past r by unfold PM.enter;rw[hek];rfl];refine qjl ?_;refine gX ?_;refine qiu ?_;refine qgb ?_;refine qkK ?_;exact qdx
    | true =>
     rw[if_neg jC];refine qhy ?_;rw[past_updF];refine gU ?_;refine H.makeMap encA rfl rfl fun hb=>?_;refine H.Ay (t:=162) (out:=vwC x.m.number ln none 0 0 none 0 0 hb) rfl rfl rfl jD rfl ?_;refine H.box (ls:=vwC x.m.number ln none 0 0 none 0 0 hb) rfl rfl rfl rfl fun wb=>?_;refine gK ?_;refine qhU ?_;refine H.Ck (x:=X.own) (i:=j) jH ?_;refine H.ownOpen ?_;refine qeu ?_;refine H.slc_cap (p:=X.lp) (m:=X.w.all.length) (c:=X.lc) (T:=49) (sz:=40) (xs:=X.w.all.flatMap Req.vals) at1 fun hcap _ _=>?_;refine H.drawQ jD jK jM ?_;refine gR ?_;refine HQ.Bn (enc:=keyU) (k:=u) rfl rfl rfl jB rfl hget rfl ?_;refine gR ?_;refine HQ.slice (lo:=none) (hi:=some (.tmp 73)) (mx:=none) (lv:=0) (hv:=ln) (mv:=X.lc) rfl rfl rfl ⟨_,_,rfl,rfl⟩ rfl (fun h=>by cases h) (Nat.zero_le _) jA (Nat.le_refl _) rfl ?_;rw[slP0,Nat.sub_zero,Nat.sub_zero];refine gL ?_;refine gT ?_;refine H.slc0 49 40 ?_;refine H.pf (x:=mp hb _ _) ?_;refine H.pf (x:=slc none 0 0 _ _ _) ?_;refine qfv ?_
     refine H.loop (ι:=Nat×Option Addr×Nat) (fun s=>[(76,.int .i64 (s.1:Int)),(75,.int .i64 (ln:Int)),(74,.slice X.lp ln X.lc),(12,.pointer (some ⟨wb,0,none⟩)),(7,.int .u64 x.m.body.view),(0,.pointer (some ⟨lb,0,none⟩)),(1000003,.pointer (some ⟨D,0,none⟩))]) (fun _=>f)
      (fun s=>row wb 162 (vwC x.m.number ln s.2.1 (X.w.all.take s.1).length s.2.2 none 0 0 hb)::slc s.2.1 (X.w.all.take s.1).length s.2.2 49 40 ((X.w.all.take s.1).flatMap Req.vals)::mp hb encA (heldKV (X.w.all.take s.1))::row X.b 162 (vwC X.w.num X.w.s.length X.lp X.w.all.length X.lc X.np X.w.p.length X.nc X.hb)::slc X.lp X.w.all.length X.lc 49 40 (X.w.all.flatMap Req.vals)::slc X.np X.w.p.length X.nc 35 1 (X.w.p.flatMap numV)::mp X.hb encA (heldKV X.w.all)::lst ((V.map PV.own).set j emp)::fam (fun j=>pastH (pb j) (updF l.past r ((l.past r).enter x.m.body.view ln) j)) l.n::pts D (.deferred (some []))::row ub 35 [.int .u64 u]::row nb 3 [.int .i64 (ln:Int)]::row lb 124 (plC l.n l.known vb pp pc cp cc)::row mb 54 x.vals::slc cp l.n cc 226 1 (chRow l cs)::fam (pcFam l cs) l.n::mp vb keyU (V.map PV.ent)::F)
      (fun s=>s.1≤ln) (fun s=>ln-s.1) (0,none,0) (Nat.zero_le _) ⟨rfl,rfl,rfl,rfl,rfl,rfl,rfl,rfl⟩ rfl rfl fun s hs=>?_
     obtain⟨k,lp2,lc2⟩:=s;have hk2:k≤ln:=hs;show H _ _ _ [(76,.int .i64 (k:Int)),_,_,_,_,_,_] f (row wb _ (vwC x.m.number ln lp2 (X.w.all.take k).length lc2 none 0 0 hb)::slc lp2 (X.w.all.take k).length lc2 _ 40 ((X.w.all.take k).flatMap Req.vals)::mp hb encA (heldKV (X.w.all.take k))::_) _
     by_cases hlt:k<ln
     ·obtain⟨rq,hrq⟩:∃rq,X.w.all[k]? =some rq:=⟨_,List.getElem?_eq_getElem jA⟩;have htk:X.w.all.take (k+1)=X.w.all.take k++ [rq]:=by rw[List.take_add_one,hrq];rfl
      refine H.Ar (p:=X.lp) (n0:=X.w.all.length) (c:=X.lc) (T:=49) (sz:=40) (xs:=X.w.all.flatMap Req.vals) at4 jA fun sb hsb=>?_
      have rd:∀(a1 a2 a3 a4:HP) (G:List HP),Rd f (a1::a2::a3::a4::slc X.lp X.w.all.length X.lc 49 40 (X.w.all.flatMap Req.vals)::G) sb (0+k*40) rq.vals:=fun a1 a2 a3 a4 G=>by
       rw[Nat.zero_add];exact Rd.slcElem (vals:=Req.vals) (xs:=X.w.all) (n:=X.w.all.length) (c:=X.lc) (T:=49) Req.len jC (by rw[←hsb];exact .there _ at3) hrq
      refine gG ?_;refine H.Ak (b:=sb) (off:=0) (i:=k) rfl (by rw[←hsb];rfl) rfl rfl hlt rfl ?_;refine H.Ab (ls:=rq.vals) rfl rfl rfl (rd _ _ _ _ _) rfl rfl ?_;refine qgK fun qb=>?_;refine H.Ag (ls:=Req.zero.vals) (vs:=rq.vals) (ls':=rq.vals) rfl rfl rfl (zaa rfl) rfl rfl (Nat.le_refl 40) aP0 ?_;refine gK ?_;refine H.Ab (ls:=rq.vals) rfl rfl rfl (Rd.ofRow aP0) rfl rfl ?_;refine H.pd (x:=row qb _ _) ?_;refine H.Aq rfl rfl rfl (vput_fn f _ jl rq) fun v f' A' hR=>?_;obtain⟨lp3,lc3,hff,rfl⟩:=hR;rw[hff];rw[←htk];refine gV ?_;exact H.Av (k+1,lp3,lc3) (by show k+1≤ln;omega) (by show ln-(k+1)<ln-k;omega) ⟨rfl,rfl,rfl,rfl,rfl,rfl,rfl,rfl⟩ rfl rfl
     ·obtain rfl:k=ln:=jA
      refine gN ?_;refine H.mapUpdate (enc:=keyU) (k:=x.m.body.view) (v:=.pointer (some ⟨wb,0,none⟩)) rfl rfl rfl rfl jB rfl ?_;refine gT ?_;have hpr:primI l.n x.m.body.view=r:=by unfold primZ at hp;rw[hre];unfold orgI;omega
      have hfr:=hL.fresh (v:=x.m.body.view) (k:=(k:Int)) (by rw[hpr];exact hr) (by rw[hpr];exact hek);have hsl:(X.w.all.take k).length=k:=by rw[List.length_take];omega
      obtain⟨Y,hY⟩:∃Y:PV,Y=⟨⟨x.m.body.view,x.m.number,X.w.all.take k,[]⟩,wb,lp2,lc2,none,0,hb⟩:=⟨_,rfl⟩;have hYa:Y.w.all=X.w.all.take k:=by rw[hY];exact List.append_nil _
      have hof:=fun G=>zbw (x:=Y) (A:=G)
      have hparts:Y.parts= [row wb 162 (vwC x.m.number k lp2 (X.w.all.take k).length lc2 none 0 0 hb),slc lp2 (X.w.all.take k).length lc2 49 40 ((X.w.all.take k).flatMap Req.vals),slc none 0 0 35 1 [],mp hb encA (heldKV (X.w.all.take k))]:=by
       unfold PV.parts PV.cells;rw[hYa,hY];show [row wb _ [_,.int .i64 (((X.w.all.take k).length:Nat):Int),_,_,_],_,_,_]=_;rw[hsl];rfl
      rw[hparts]at hof
      have hent2:putKV (V.map PV.ent) x.m.body.view (.pointer (some ⟨wb,0,none⟩))=(V++ [Y]).map PV.ent:=by
       rw[PM.put_absent _ _ _ (ent_fresh hvs hfr),List.map_append,hY];rfl
      rw[hent2]
      have hperm:((V++ [Y]).map PV.w).Perm (insV ⟨x.m.body.view,x.m.number,X.w.all.take k,[]⟩ l.vs):=by
       rw[List.map_append,List.map_cons,List.map_nil,show Y.w=⟨x.m.body.view,x.m.number,X.w.all.take k,[]⟩ by rw[hY]];exact((List.perm_append_singleton _ _).trans ((List.perm_cons _).2 hvs)).trans (insV_perm _ _)
      refine H.slc0 35 1 ?_;refine H.pf (x:=mp hb _ _) ?_;refine H.pf (x:=slc none 0 0 35 _ _) ?_;refine H.pf (x:=slc lp2 _ lc2 _ _ _) ?_;refine qfv ?_;refine H.imp (hof _) ?_;clear hof hparts hent2 hYa;refine qez ?_;refine H.Cl jH ?_;refine H.pf (x:=Y.own) ?_;refine H.lstMore (ys:=(V++ [Y]).map PV.own) (by rw[List.map_append];exact(List.perm_append_singleton _ _).symm) ?_;refine qiu ?_;refine H.pf (x:=lst ((V++ [Y]).map PV.own)) ?_;refine qkd ?_;refine H.imp (zal (l:={l with past:=updF l.past r ((l.past r).enter x.m.body.view k),vs:=insV ⟨x.m.body.view,x.m.number,X.w.all.take k,[]⟩ l.vs}) ⟨V++ [Y],vb,pp,pc,cp,cc,pb,cs⟩ ⟨hperm,hiF.p⟩) ?_;exact qdx
 ·rw[if_neg (fun h=>hp (of_decide_eq_true h))];refine qhr fun base=>?_;refine qej fun mb=>?_;refine gF ?_;refine H.drawB jD jK jM (S:=[_]) rfl ?_;refine qjc ?_;refine gP ?_;refine qhL ?_;refine gC ?_;exact qaQ
end
section
variable (f:Frag) (F:List HP)
theorem plenter_fn(hfl:Le fl f)(hL:LI l T)(hT:T≤50000)(hm:MIn l.n x.m)(hk:x.m.body.kind=5){i:PPt}(hi:plφ fl l i)(hre:r=orgI x.m):
  Fn prog 92 [.pointer (some ⟨lb,0,none⟩),.agg x.vals.toArray,.pointer (some ⟨i.pb r,0,none⟩)] f (plB lb l i++F) (Ret (.bool (l.counts x.m).1) f (plogH f lb (l.counts x.m).2::F)):=by
 have hiF:=hi.mono hfl;have hn:=hL.n3
 have hor:=hm.o;have hr:r<l.n:=by rw[hre];unfold orgI;omega
 have hwf:=hL.wf r hr;have hil:=hL.il r hr
 have hvl:=hL.vl;have hv0:=hm.v
 have hvs:=hi.vs;obtain⟨V,vb,pp,pc,cp,cc,pb,cs⟩:=i
 have hvs:(V.map PV.w).Perm l.vs:=hvs;have hprim:=fun G=>plprim_fn f G (lb:=lb) (n:=l.n) (kn:=l.known) (vb:=vb) (pp:=pp) (pc:=pc) (cp:=cp) (cc:=cc) jA hv0
 have hpl:primI l.n x.m.body.view<11:=by
  exact qdb
 have hpz:primZ l.n x.m.body.view-1=(primI l.n x.m.body.view:Nat):=by unfold primZ;omega
 have hvd:(v11 x.m.deps)[primI l.n x.m.body.view]? =some (.int .u64 (x.m.deps (primI l.n x.m.body.view))):=zav _ hpl;refine qek ?_
 cases hat:vwAt l.vs x.m.body.view with
 | none =>
  rw[Lgs.counts_5n hk hat];have hget:(getKV (V.map PV.ent) x.m.body.view).getD (.pointer none)= .pointer none:=by rw[view_none hvs hat];rfl
  refine Fn.e3 func92 ntmps92 fun base=>?_;refine qej fun mb=>?_;refine qfw ?_;refine qeH ?_;refine HB.qu [0,1,2,3,4,5,6,7,8,11] 16 ?_;refine gP ?_;refine qhL ?_;refine qgG ?_;refine HB.qu [10,12,13,14,15,16,17,18,19,20,21,22] 3 ?_;refine gS ?_;refine qki ?_;exact qdy
 | some iv =>
  obtain⟨⟨w,hw,hwv⟩,_⟩:=zar.1 hat;obtain⟨j,X,hX,hXw,hgetX⟩:=view_some hvs hL.rise hat hw;have hget:(getKV (V.map PV.ent) x.m.body.view).getD (.pointer none)= .pointer (some ⟨X.b,0,none⟩):=by rw[hgetX];rfl
  rw[Lgs.counts_5 hk hat hw,←hre];subst hXw;have hXl:=hL.al X.w (List.mem_of_getElem? hw);have hXa:=X.w.all_len
  by_cases h1:X.w.num≤x.m.deps (primI l.n x.m.body.view)
  ·rw[if_neg jA];have hen:=fun G=>enter_fn f G (pb r) (l.past r) hwf jA x.m.body.view ((X.w.s.length:Nat):Int);refine Fn.e3 func92 ntmps92 fun base=>?_
   refine qej fun mb=>?_;refine qfw ?_;refine qhU ?_;refine H.Ck (x:=X.own) (i:=j) jH ?_;refine H.ownOpen ?_;refine qfb ?_;refine gP ?_;refine qel ?_;refine HB.ev 23 ?_;refine qkq ?_;refine H.cr (hen _) ?_;refine qhy ?_;rw[past_updF];refine qja ?_;refine qib ?_;refine qeM ?_;refine HB.qu [24,25] 0 ?_;refine qfh ?_;refine gT ?_;refine qez ?_;refine H.Cl jH ?_;exact qbc
  ·rw[if_pos jA];refine Fn.e3 func92 ntmps92 fun base=>?_;refine qej fun mb=>?_;refine qfw ?_;refine qhU ?_;refine H.Ck (x:=X.own) (i:=j) jH ?_;refine H.ownOpen ?_;refine qfb ?_;refine gP ?_;refine qki ?_;refine qez ?_;refine H.Cl jH ?_;exact qdy
end
end Go.Proofs.YtkaknokcbhiigaaGreatDoor
