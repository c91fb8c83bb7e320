/- Parts of the proof. No conditions. -/
import Derived.Test.YtdpgpmbebbaoiaaGreatDoorZ09
set_option linter.unusedSectionVars false
set_option linter.unusedSimpArgs false
set_option linter.unusedVariables false
set_option maxHeartbeats 3200000
set_option maxRecDepth 100000
namespace Go.Proofs.YtdpgpmbebbaoiaaGreatDoor
open Go Go.Proofs.Tryz
theorem Pkts_one(l:List Pkt):∀v∈l.flatMap Pkt.vals,one v=true:=by
 intro v hv;simp only[List.mem_flatMap]at hv;exact qcU
def msl(p:Option Addr)(c:Nat)(l:List MV):HP:=slc p l.length c 41 121 (l.flatMap MV.vals)
theorem set_same{α:Type}{l:List α}{i:Nat}{a:α}(h:l[i]?=some a):l.set i a=l:=by
 apply List.ext_getElem?;intro j;rw[List.getElem?_set];split
 ·rename_i e;subst e
  split
  ·rw[h]
  ·rename_i hn
   rw[List.getElem?_eq_none jB]at h;cases h
 ·rfl
variable {p:Option Addr} {c:Nat} {f g h:Frag}
section
variable (f:Frag) (F:List HP)
theorem cloneM_fn{l:List MV}(h:ListAt f p 121 MV.vals l)(hl:l.length≤1000000):Fn prog 299 [.slice p l.length c] f F (fun v f' A'=>∃p c,v= .slice p l.length c∧f'=f∧A'=msl p c l::F):=by
 have hs:=h.src (P:=prog) (A:=F) (c:=c) MV.len jE
 cases p with
 | none =>
  have:=h.none_nil rfl;subst this
  refine AB func299 ntmps299 fun base=>?_;apply (gP);refine AY 41 121 ?_;exact qbJ
 | some a =>
  refine AB func299 ntmps299 fun base=>?_;apply (gR);refine (qhd) fun eb=>?_;refine CB (k:=0) (sz:=121) rfl jE ?_;apply (gG);refine AQ (xs:=[]) rfl rfl rfl rfl rfl (fun p' c'=>.here _ _ _) hs.cons (MVs_one l) rfl jB jB fun p' c'=>?_;rw[Nat.zero_add];apply (gK);exact qbi
theorem Dj.un3{f:Frag}(h1:Dj f g)(h2:Dj (un f g) h):Dj f (un g h):=Dj.un_right.2 ⟨h1,(Dj.un_left.1 h2).1⟩
theorem copied_fn{p:Pkt}(hp:p.Good f):Fn prog 249 [.agg p.vals.toArray] f F
  (fun v f' A'=>∃(g:Frag) (p':Pkt),v= .agg p'.vals.toArray∧p'.core=p.core∧p'.Good g∧Dj f g∧f'=un f g∧A'=F):=by
 obtain⟨hat,hgood,hlen⟩:=hp;refine AB func249 ntmps249 fun base=>?_;refine (qgL) fun pb=>?_;refine (qhq) fun ob=>?_;apply (gO);refine AG rfl rfl rfl (cloneM_fn f _ hat hlen) fun mp mc=>?_;apply (gS)
 refine H.loop (ι:=Nat×List MV×Frag) (fun i=>[(12,.int .i64 (i.1:Int)),(11,.int .i64 (p.msgs.length:Nat)),(10,.slice mp p.msgs.length mc),(1,.pointer (some ⟨pb,0,none⟩)),(2,.pointer (some ⟨ob,0,none⟩))]) (fun i=>un f i.2.2)
  (fun i=>msl mp mc i.2.1::row ob 49 Pkt.zero.vals::row pb 49 ({p with mp:=mp,mc:=mc}:Pkt).vals::F)
  (fun i=>i.1≤p.msgs.length∧Dj f i.2.2∧i.2.1.map MV.m=p.msgs.map MV.m∧(∀j x,j<i.1→i.2.1[j]?=some x→x.Good i.2.2)∧(∀j,i.1≤j→i.2.1[j]?=p.msgs[j]?)) (fun i=>p.msgs.length-i.1)
  (0,p.msgs,nil0) ⟨Nat.zero_le _,Dj.nil f,rfl,fun j x hj=>absurd hj (Nat.not_lt_zero j),fun j _=>rfl⟩ ⟨rfl,rfl,rfl,rfl,rfl,trivial⟩ (un_nil f).symm rfl fun i hi=>?_
 obtain⟨i,ms,G⟩:=i;obtain⟨hi,hdj,hms,hlo,hhi⟩:i≤p.msgs.length∧Dj f G∧ms.map MV.m=p.msgs.map MV.m∧(∀j x,j<i→ms[j]?=some x→x.Good G)∧(∀j,i≤j→ms[j]?=p.msgs[j]?):=hi;have hml:ms.length=p.msgs.length:=by have:=congrArg List.length hms;simpa using this
 show H _ _ _ [(12,.int .i64 (i:Int)),_,(10,.slice mp p.msgs.length mc),_,_] (un f G) (msl mp mc ms::_::row pb _ _::F) _;by_cases hlt:i<p.msgs.length
 ·obtain⟨x,hx⟩:∃x,p.msgs[i]?=some x:=⟨p.msgs[i],List.getElem?_eq_getElem hlt⟩;have hxm:ms[i]?=some x:=by rw[hhi i (Nat.le_refl _)];exact hx
  have hxg:x.Good f:=hgood x (List.mem_of_getElem? hx);have hxq:QAt (un f G) x.qp x.m.body.q:=hxg.1.mono (Le.un f G)
  refine AO aP0 jB fun mb hb=>?_;subst hb;apply (gN);refine Dv rfl rfl rfl rfl hlt rfl ?_;refine AD (ls:=x.vals) rfl rfl rfl (Rd.slcElem MV.len jE aP0 hxm) rfl rfl ?_;refine AJ (ls:=(⟨0,0,fun _=>0,Bod.zero 0,noTag⟩:Msg).vals none 0) rfl rfl rfl fun xb=>?_;apply (gG);apply (qhs);apply (gA);apply (qe);apply (qfl);apply (qex);apply A6 [0,1,2,3,4,5] 5;apply (qdX);apply A7 6;refine AG rfl rfl rfl (cloneQ_fn _ _ hxq hxg.2.1) fun qp' qc'=>?_;apply (gA);refine H.freeze (.here _ _) fun g2 hg2 hd2=>?_;refine H.on [] (Le.un _ _) rfl ?_;apply A6 [7,8,9] 1;refine CC rfl rfl rfl rfl hlt rfl ?_;apply (qdX);apply (qke);refine Cz (xs:=ms.flatMap MV.vals) (xs':=(ms.set i ⟨x.m,qp',qc'⟩).flatMap MV.vals) rfl rfl rfl rfl jA (by rw[show i*121+13+43=i*121+56 by omega];exact flat_set MV.len hxm jG) ?_;apply (qeX);apply (gD);apply (qhZ);apply (qed);apply (qeO);have hdg:Dj G g2:=(Dj.un_left.1 hd2).2;refine AX (i+1,ms.set i ⟨x.m,qp',qc'⟩,un G g2) ⟨by show i+1≤p.msgs.length;omega,Dj.un3 hdj hd2,?_,?_,?_⟩ jm ⟨rfl,rfl,rfl,rfl,rfl,trivial⟩ (un_assoc _ _ _) ?_
  ·show(ms.set i ⟨x.m,qp',qc'⟩).map MV.m=_;rw[List.map_set,set_same (by rw[List.getElem?_map,hxm];rfl),hms]
  ·intro j y hj hy;have hj:j<i+1:=hj;have hy:(ms.set i ⟨x.m,qp',qc'⟩)[j]?=some y:=hy
   by_cases e:i=j
   ·subst e;rw[List.getElem?_set_self jB]at hy;cases hy
    exact⟨(qs_qat0 hg2).mono (Le.right hdg),hxg.2⟩
   ·rw[List.getElem?_set_ne e]at hy;exact(hlo j y jB hy).mono (Le.un _ _)
  ·intro j hj;have hj:i+1≤j:=hj;show(ms.set i ⟨x.m,qp',qc'⟩)[j]?=_
   rw[List.getElem?_set_ne jB];exact hhi j jB
  ·show _=msl _ mc (ms.set i ⟨x.m,qp',qc'⟩)::_;unfold msl;rw[List.length_set,hml]
 ·have hil:i=p.msgs.length:=jB
  subst hil;apply (gN);refine H.freeze (.here _ _) fun g3 hg3 hd3=>?_;have hdg:Dj G g3:=(Dj.un_left.1 hd3).2;refine AD (ls:=({p with mp:=mp,mc:=mc}:Pkt).vals) rfl rfl rfl (Rd.ofRow jA) rfl rfl ?_
  refine AC (ls:=Pkt.zero.vals) (vs:=({p with mp:=mp,mc:=mc}:Pkt).vals) (ls':=({p with mp:=mp,mc:=mc}:Pkt).vals) rfl rfl rfl (zaa rfl) rfl rfl (Nat.le_refl 14) jA ?_;apply (gK);apply (qfP);refine BS (ls:=({p with mp:=mp,mc:=mc}:Pkt).vals) rfl rfl rfl (Rd.ofRow jA) rfl (fun _ s=>s.drop (.here _ _)) ⟨un G g3,{p with msgs:=ms,mp:=mp,mc:=mc},?_,?_,?_,Dj.un3 hdj hd3,un_assoc _ _ _,rfl⟩
  ·unfold Pkt.vals;rw[hml]
  ·unfold Pkt.core;rw[hms]
  ·refine⟨(slc_listAt MV.len hg3).mono (Le.right hdg),fun x hx=>?_,by show ms.length≤_;omega⟩;obtain⟨j,hj⟩:=List.getElem?_of_mem hx;refine(hlo j x ?_ hj).mono (Le.un _ _);rcases Nat.lt_or_ge j ms.length with h|h
   ·omega
   ·rw[List.getElem?_eq_none h]at hj;cases hj
end
def lostV(c:Nat→Bool)(n:Nat):List Value:=(List.range n).map fun k=>.bool (c k)
theorem lostV_len(c:Nat→Bool)(n:Nat):(lostV c n).length=n:=by simp[lostV]
variable {n:Nat}
theorem lostV_get(c:Nat→Bool){k:Nat}(h:k<n):(lostV c n)[k]?=some (.bool (c k)):=by
 unfold lostV;exact qcK
structure NetM where
 row:List Pkt
 lost:Nat→Bool
structure NetC where
 row:List Core
 lost:Nat→Bool
def NetM.core(N:NetM):NetC:=⟨N.row.map Pkt.core,N.lost⟩
def NetC.push(c:NetC)(p:Core):Int×NetC:=if 256≤c.row.length then(7,c)else(0,{c with row:=c.row++[p]})
def NetC.put(c:NetC)(p:Core):Int×NetC:=if p.may=true then(if c.lost (p.src.toNat *12+p.dst.toNat)=true then(0,c)else c.push p)else(1,c)
def NetC.got(c:NetC)(k:Int):Option Core:=if 0≤k then c.row[k.toNat]? else none
def NetC.took(c:NetC)(k:Int):NetC:=if 0≤k then {c with row:=c.row.eraseIdx k.toNat}else c
def Core.zero:Core:=⟨0,0,fun _=>0,[]⟩
def psl(p:Option Addr)(c:Nat)(l:List Pkt):HP:=slc p l.length c 49 14 (l.flatMap Pkt.vals)
def netH(h:Frag)(nb:Nat)(N:NetM):HP:=pack (fun _:Option Addr×Nat=>(∀p∈N.row,p.Good h)∧N.row.length≤256)
 (fun i=>[row nb 135 (.slice i.1 N.row.length i.2::lostV N.lost 144),psl i.1 i.2 N.row])
def NetR(f fN:Frag)(nb:Nat)(F:List HP)(r:Int×NetC):Value→Frag→List HP→Prop:=fun v f' A'=>
 ∃(g:Frag) (N:NetM),v= .int .i64 r.1∧N.core=r.2∧Dj f g∧f'=un f g∧A'=netH (un fN g) nb N::F
variable {A A':List HP} {nb j:Nat} {T:TypeId}
theorem lost_rd{s:Value}{c:Nat→Bool}(h:At A (row nb T (s::lostV c 144)) A' (row nb T (s::lostV c 144))){i:Nat}(hi:i<12)(hj:j<12):Rd1 f A nb (0+1+i*12+j*1) (.bool (c (i*12+j))):=by
 have h1:=Rd.ofRow (f:=f) h
 have h2:(s::lostV c 144)[1+(i*12+j)]?=some (.bool (c (i*12+j))):=by
  rw[Nat.add_comm 1,List.getElem?_cons_succ];exact lostV_get c jB
 have h3:=Rd1.of h1 h2;rw[show 0+1+i*12+j*1=0+(1+(i*12+j)) by omega]
 exact h3
def tot2(a b:Nat):Nat→Nat
 |0=>0
 |1=>a
 |_=>a+b
def acc2{α:Type}(a b:List α):Nat→List α
 |0=>[]
 |1=>a
 |_=>a++b
section
variable (f:Frag) (F:List HP)
theorem growP_fn(m:Nat)(hm:m≤1000000):Fn prog 250 [.slice none 0 0,.int .i64 (m:Nat)] f F (fun v f' A'=>∃p c,v= .slice p 0 c∧f'=f∧A'=psl p c []::F):=by
 by_cases hg:0<m
 ·refine A9 func250 ntmps250 fun base=>?_;apply (gT);refine AY 49 14 ?_;refine CV (hv:=0) rfl rfl rfl rfl (Nat.le_refl _) rfl ?_;apply (gG);refine ER (m:=m) rfl rfl rfl rfl jB (fun p' c'=>.here _ _ _) rfl jB jB jB jB fun p' c'=>?_;apply (gG);refine (qjT) fun hc' _ _=>?_;refine CV (hv:=0) rfl rfl rfl rfl (Nat.zero_le _) rfl ?_;refine DV (m':=0) (ys:=[]) (Nat.zero_le _) hc' jI ?_;apply (gK);exact qbi
 ·have hm0:m=0:=jB
  subst hm0;refine A9 func250 ntmps250 fun base=>?_;apply (gT);refine AY 49 14 ?_;exact qbJ
theorem concat_fn{sb:Nat}{p1 p2:Option Addr}{c1 c2:Nat}{l1 l2:List Pkt}(h1:∀G,Src prog f (G++F) (.slice p1 l1.length c1) 14 l1.length (l1.flatMap Pkt.vals))(h2:∀G,Src prog f (G++F) (.slice p2 l2.length c2) 14 l2.length (l2.flatMap Pkt.vals))
  (hl1:l1.length≤1000) (hl2:l2.length≤1000) :
  Fn prog 182 [.slice (some ⟨sb,0,none⟩) 2 2] f (row sb 131 [.slice p1 l1.length c1,.slice p2 l2.length c2]::F)
   (fun v f' A'=>∃p c,v= .slice p (l1++l2).length c∧f'=f∧A'=psl p c (l1++l2)::F):=by
 refine AB func182 ntmps182 fun base=>?_;apply (gK)
 refine AF (ι:=Nat) (fun i=>[(11,.int .i64 (i:Int)),(10,.int .i64 ((2:Nat):Int)),(9,.slice (some ⟨sb,0,none⟩) 2 2),(3,.int .i64 (tot2 l1.length l2.length i:Nat)),(0,.slice (some ⟨sb,0,none⟩) 2 2)]) (fun _=>f)
  (fun _=>row sb 131 [.slice p1 l1.length c1,.slice p2 l2.length c2]::F) (fun i=>i≤2) (fun i=>2-i) 0 (Nat.zero_le _) fun i hi=>?_
 have hi:i≤2:=hi
 match i,hi with
 | 0, _ =>
  apply (qik);have e:tot2 l1.length l2.length 0=0:=rfl;rw[e]
  apply (gT);exact AX 1 jE jE ⟨rfl,rfl,rfl,by show some (Value.int .i64 ((0+l1.length:Nat):Int))=some (Value.int .i64 ((l1.length:Nat):Int));rw[Nat.zero_add],rfl,trivial⟩ rfl rfl
 | 1, _ =>
  apply (qig);have e:tot2 l1.length l2.length 1=l1.length:=rfl;rw[e]
  apply (gT);exact AI 2 jE jE
 | 2, _ =>
  apply (gE);have e:tot2 l1.length l2.length 2=l1.length+l2.length:=rfl;rw[e]
  refine AG rfl rfl rfl (growP_fn f _ (l1.length+l2.length) jB) fun p0 c0=>?_;apply (gK)
  refine AF (ι:=Nat×Option Addr×Nat) (fun i=>[(27,.int .i64 (i.1:Int)),(26,.int .i64 ((2:Nat):Int)),(25,.slice (some ⟨sb,0,none⟩) 2 2),(6,.slice i.2.1 (acc2 l1 l2 i.1).length i.2.2)]) (fun _=>f)
   (fun i=>psl i.2.1 i.2.2 (acc2 l1 l2 i.1)::row sb 131 [.slice p1 l1.length c1,.slice p2 l2.length c2]::F) (fun i=>i.1≤2) (fun i=>2-i.1) (0,p0,c0) (Nat.zero_le _) fun i hi=>?_
  obtain⟨i,p',c'⟩:=i;have hi:i≤2:=hi
  match i,hi with
  | 0, _ =>
   show H _ _ _ [_,_,_,(6,.slice p' 0 c')] _ (slc p' 0 c' _ 14 []::_::F) _;apply (qik);apply (gG);refine AQ (xs:=[]) rfl rfl rfl rfl rfl (fun p' c'=>.here _ _ _) (h1 [_,_]) (Pkts_one _) rfl jB jB fun p3 c3=>?_;rw[Nat.zero_add];apply (gD);exact AI (1,p3,c3) (by show 1≤2;decide) (by show 2-1<2-0;decide)
  | 1, _ =>
   show H _ _ _ [_,_,_,(6,.slice p' l1.length c')] _ (slc p' l1.length c' _ 14 (l1.flatMap Pkt.vals)::_::F) _;apply (qig);apply (gG);refine AQ (xs:=l1.flatMap Pkt.vals) rfl rfl rfl rfl rfl (fun p' c'=>.here _ _ _) (h2 [_,_]) (Pkts_one _) rfl jB jB fun p3 c3=>?_;apply (gD);have e1:(l1++l2).length=l1.length+l2.length:=List.length_append;have e2:(l1++l2).flatMap Pkt.vals=l1.flatMap Pkt.vals++l2.flatMap Pkt.vals:=List.flatMap_append
   refine AX (2,p3,c3) (by show 2≤2;decide) (by show 2-2<2-1;decide) ⟨rfl,rfl,rfl,?_,trivial⟩ rfl ?_
   ·show some _=some (Value.slice p3 (l1++l2).length c3);rw[e1]
   ·show _=psl p3 c3 (l1++l2)::_;unfold psl;rw[e1,e2]
  | 2, _ =>
   show H _ _ _ [_,_,_,(6,.slice p' (l1++l2).length c')] _ (psl p' c' (l1++l2)::_::F) _;apply (gE);apply (qkw);exact qbi
end
def netRow(i:Option Addr×Nat)(N:NetM):List Value:=.slice i.1 N.row.length i.2::lostV N.lost 144
def NetM.new:NetM:=⟨[],fun _=>false⟩
variable {N:NetM} {F:List HP}
theorem netH_fold(i:Option Addr×Nat)(hi:(∀p∈N.row,p.Good h)∧N.row.length≤256):∀x,stars (row nb 135 (.slice i.1 N.row.length i.2::lostV N.lost 144)::psl i.1 i.2 N.row::F) x→stars (netH h nb N::F) x:=
 zap (B:=fun i:Option Addr×Nat=>[row nb 135 (.slice i.1 N.row.length i.2::lostV N.lost 144),psl i.1 i.2 N.row]) (A:=F) i hi
section
variable (f:Frag) (F:List HP) (h:Frag) (nb:Nat) (N:NetM)
theorem netNew_fn:Fn prog 27 [] f F (RetE (fun nb=>.pointer (some ⟨nb,0,none⟩)) f (fun nb=>netH h nb NetM.new::F)):=by
 refine BX func27 ntmps27 fun base=>?_;apply (gJ);refine H.box (ls:=netRow (none,0) NetM.new) rfl rfl rfl rfl fun nb=>?_;apply (gK);refine AY 49 14 ?_;apply (qdM);exact AE rfl rfl (netH_fold (N:=NetM.new) (none,0) ⟨(fun p hp=>by cases hp),by decide⟩) ⟨nb,rfl,rfl,rfl⟩
theorem netLen_fn:Fn prog 132 [.pointer (some ⟨nb,0,none⟩)] f (netH h nb N::F) (Ret (.int .i64 (N.row.length:Nat)) f (netH h nb N::F)):=by
 refine (qfu) fun i hi=>?_;refine AB func132 ntmps132 fun base=>?_;apply (gT);exact AE rfl rfl (netH_fold i hi) ⟨rfl,rfl,rfl⟩
theorem netHas_fn(k:Int):Fn prog 181 [.pointer (some ⟨nb,0,none⟩),.int .i64 k] f (netH h nb N::F) (Ret (.bool (decide (0≤k∧k<N.row.length))) f (netH h nb N::F)):=by
 by_cases h1:0≤k
 ·refine A9 func181 ntmps181 fun base=>?_;apply (gJ);refine A8 rfl rfl rfl (netLen_fn f F h nb N) ?_;apply (gJ);refine AE rfl rfl iD ⟨?_,rfl,rfl⟩;congr 1;apply decide_eq_decide.2;omega
 ·refine A9 func181 ntmps181 fun base=>?_;apply (gS);refine AE rfl rfl iD ⟨?_,rfl,rfl⟩;rw[decide_eq_false jB]
theorem netPush_fn{p:Pkt}(hh:Le h f)(hp:p.Good f):Fn prog 178 [.pointer (some ⟨nb,0,none⟩),.agg p.vals.toArray] f (netH h nb N::F) (NetR f h nb F (N.core.push p.core)):=by
 refine (qfu) fun i hi=>?_;obtain⟨hgood,hlen⟩:=hi;have hcl:N.core.row.length=N.row.length:=by simp[NetM.core]
 unfold NetC.push;rw[hcl];by_cases hf:256≤N.row.length
 ·rw[if_pos hf];refine A9 func178 ntmps178 fun base=>?_;refine (qgL) fun pb=>?_;apply (gT);apply (qfP);exact AE rfl rfl (netH_fold i ⟨hgood,hlen⟩) ⟨nil0,N,rfl,rfl,Dj.nil f,(un_nil f).symm,by rw[un_nil];rfl⟩
 ·rw[if_neg hf];refine A9 func178 ntmps178 fun base=>?_;refine (qgL) fun pb=>?_;apply (gT);apply (qdM);apply (qe);refine H.dc [0,1,2,3,4,5,6,7,8] (S:=[_,_]) rfl ?_;apply A6 [0,1,2,3,4,5] 6;apply (gF);refine AH (ls:=p.vals) rfl rfl rfl (Rd.ofRow jA) rfl rfl ?_;apply (qfK);refine AV rfl rfl rfl (copied_fn f _ hp) fun v f' A' hr=>?_;obtain⟨g,p',rfl,hcore,hpg,hdj,rfl,rfl⟩:=hr;apply (gA);refine H.on [] (Le.un _ _) rfl ?_;apply A7 7;refine AS (out:=p'.vals) rfl rfl rfl rfl jE jE rfl rfl fun tb=>?_;apply (gA);apply (qdM);apply (qe);apply (qdO);apply A7 8;refine AQ (m:=1) (xs:=N.row.flatMap Pkt.vals) (news:=p'.vals) rfl rfl rfl rfl rfl (fun p' c'=>jA) (Src.slice (Rd.ofRow at2) rfl) (zaa rfl) rfl jB jB fun p3 c3=>?_;apply (qdE);apply (qeJ);apply A6 [9,10] 1;apply (qdX);apply A7 11;apply (qeI);apply (gK);apply (qfP);apply (qeG);have e1:(N.row++[p']).length=N.row.length+1:=by rw[List.length_append];rfl
  have e2:(N.row++[p']).flatMap Pkt.vals=N.row.flatMap Pkt.vals++p'.vals:=by simp
  have hfold:=netH_fold (h:=un h g) (nb:=nb) (N:=⟨N.row++[p'],N.lost⟩) (F:=F) (p3,c3) ⟨fun p hp=>?_,by show(N.row++[p']).length≤256;rw[e1];omega⟩
  ·unfold psl at hfold;rw[e1,e2]at hfold;refine AE rfl rfl hfold ⟨g,⟨N.row++[p'],N.lost⟩,rfl,?_,hdj,rfl,rfl⟩;simp[NetM.core,hcore]
  ·rw[List.mem_append]at hp
   have hdh:Dj h g:=fun k=>by
    rcases hdj k with e|e
    ·cases hk:h k with
     |none=>exact .inl rfl
     |some o=>rw[hh k o hk]at e;cases e
    ·exact .inr e
   rcases hp with hp|hp
   ·exact(hgood p hp).mono (Le.un h g)
   ·rw[List.mem_singleton]at hp;subst hp;exact hpg.mono (Le.right hdh)
end
theorem NetM.core_len(N:NetM):N.core.row.length=N.row.length:=by simp[NetM.core]
theorem NetM.core_get(N:NetM)(k:Nat):N.core.row[k]?=(N.row[k]?).map Pkt.core:=by simp[NetM.core]
section
variable (f:Frag) (F:List HP) (h:Frag) (nb:Nat) (N:NetM)
theorem pairP_of_may{p:Core}(hm:p.may=true):pairP p.src p.dst:=by
 unfold Core.may at hm;simp only[Bool.and_eq_true,decide_eq_true_eq]at hm;exact hm.2.1
theorem netPut_fn{p:Pkt}(hh:Le h f)(hp:p.Good f):Fn prog 117 [.pointer (some ⟨nb,0,none⟩),.agg p.vals.toArray] f (netH h nb N::F) (NetR f h nb F (N.core.put p.core)):=by
 have hmay:=fun G=>netMay_fn f G hp;rw[Pkt.may_core]at hmay
 unfold NetC.put;by_cases hm:p.core.may=true
 ·rw[if_pos hm];rw[hm]at hmay;have hpp:pairP p.src p.dst:=pairP_of_may hm;obtain⟨a1,a2,a3,a4,_⟩:=hpp
  have hn:(!true)=false:=rfl;have hlost:N.core.lost (p.core.src.toNat *12+p.core.dst.toNat)=N.lost (p.src.toNat *12+p.dst.toNat):=rfl
  rw[hlost];refine A9 func117 ntmps117 fun base=>?_;refine (qgL) fun pb=>?_;apply (gR);apply (qiA);apply A5 (hmay _);apply (gR);apply A3 (netH h nb N);refine AM fun i hi=>?_;refine BB ?_;repeat(first|(apply B6;(iterate 3 exact rfl);exact lost_rd aP0 jB jB;exact rfl)|(apply (gV))|(apply EV;(iterate 3 exact rfl);omega;exact rfl))
  cases hl:N.lost (p.src.toNat *12+p.dst.toNat)with
  | true =>
   rw[if_pos rfl];apply (gR);apply (qfP);exact AE rfl rfl (netH_fold i hi) ⟨nil0,N,rfl,rfl,Dj.nil f,(un_nil f).symm,by rw[un_nil]⟩
  | false =>
   rw[if_neg jE];apply (gE);refine H.imp (netH_fold i hi) ?_;apply (qiA);refine AV rfl rfl rfl (netPush_fn f _ h nb N hh hp) fun v f' A' hr=>?_;obtain⟨g,N',rfl,hc,hdj,rfl,rfl⟩:=hr;apply (gK);apply (qfP);exact AU ⟨g,N',rfl,hc,hdj,rfl,rfl⟩
 ·rw[if_neg hm];rw[Bool.eq_false_iff.2 hm]at hmay;have hn:(!false)=true:=rfl;refine A9 func117 ntmps117 fun base=>?_
  refine (qgL) fun pb=>?_;apply (gR);apply (qiA);apply A5 (hmay _);apply (gR);apply (qfP);exact AE rfl rfl iD ⟨nil0,N,rfl,rfl,Dj.nil f,(un_nil f).symm,by rw[un_nil]⟩
def TakeR(f h:Frag)(nb:Nat)(F:List HP)(c:NetC)(k:Int):Value→Frag→List HP→Prop:=fun v f' A'=>
 ∃(p:Pkt) (N:NetM),v= .tuple #[.agg p.vals.toArray,.bool (c.got k).isSome]∧p.core=(c.got k).getD Core.zero∧p.Good h∧N.core=c.took k∧f'=f∧A'=netH h nb N::F
theorem netTake_fn(k:Int):Fn prog 119 [.pointer (some ⟨nb,0,none⟩),.int .i64 k] f (netH h nb N::F) (TakeR f h nb F N.core k):=by
 by_cases hk:0≤k∧k<N.row.length
 ·obtain⟨x,hx⟩:∃x,N.row[k.toNat]?=some x:=⟨N.row[k.toNat]' jB,List.getElem?_eq_getElem jB⟩;have hgot:N.core.got k=some x.core:=by unfold NetC.got;rw[if_pos hk.1,NetM.core_get,hx];rfl
  have htook:N.core.took k=({row:=N.row.take k.toNat++N.row.drop (k.toNat+1),lost:=N.lost}:NetM).core:=by
   unfold NetC.took NetM.core;rw[if_pos hk.1,List.eraseIdx_eq_take_drop_succ];simp
  have hl1:(N.row.take k.toNat).length=k.toNat:=by rw[List.length_take];omega
  have hl2:(N.row.drop (k.toNat+1)).length=N.row.length-(k.toNat+1):=List.length_drop;refine A9 func119 ntmps119 fun base=>?_
  apply (gA);refine (qhq) fun ob=>?_;apply (qkG);rw[decide_eq_true hk];apply (gL);refine AM fun i hi=>?_;have hxg:x.Good h:=hi.1 x (List.mem_of_getElem? hx);obtain⟨pp,pc⟩:=i
  refine (qio) fun sb hb=>?_;have hb:pp=_:=hb;subst hb
  refine DA aP1 fun hcap _ hpl=>?_;apply (gO);refine Dv (i:=k.toNat) rfl rfl rfl jB jB rfl ?_;refine AD (ls:=x.vals) rfl rfl rfl (Rd.slcElem Pkt.len jE aP1 hx) rfl rfl ?_;refine AC (ls:=Pkt.zero.vals) (vs:=x.vals) (ls':=x.vals) rfl rfl rfl (zaa rfl) rfl rfl (Nat.le_refl 14) jA ?_;apply (gA);refine H.dc [0,1,2,3,4,5,6,7,8,9,10,11,12,13,14,15] (S:=[_]) rfl ?_;apply A6 [0,1,2,3,4,5,6,7,8,9,10,11,12,13] 5;apply (gF);refine HQ.slice (lo:=none) (hi:=some (.tmp 22)) (mx:=none) (lv:=0) (hv:=k.toNat) (mv:=pc) rfl rfl rfl ⟨_,_,rfl,by omega⟩ rfl (fun h=>by cases h) (Nat.zero_le _) jB (Nat.le_refl _) rfl ?_;rw[slP0];apply (gM);refine HQ.slice (lo:=some (.tmp 29)) (hi:=none) (mx:=none) (lv:=k.toNat+1) (hv:=N.row.length) (mv:=pc) rfl rfl ⟨_,_,rfl,by omega⟩ rfl rfl (fun h=>by cases h) jB hcap (Nat.le_refl _) rfl ?_;apply (qdG);apply A7 14;refine AS (out:=[.slice (some ⟨sb,0,none⟩) (k.toNat-0) (pc-0),.slice (slP (some ⟨sb,0,none⟩) (k.toNat+1) pc 14) (N.row.length-(k.toNat+1)) (pc-(k.toNat+1))]) rfl rfl rfl rfl jE jE rfl rfl fun vb=>?_;apply (qgd);apply A7 15;apply (qku)
  have hcat:=concat_fn f (F:=row nb 135 (.slice (some ⟨sb,0,none⟩) N.row.length pc::lostV N.lost 144)::psl (some ⟨sb,0,none⟩) pc N.row::row ob 49 x.vals::F) (sb:=vb) (p1:=some ⟨sb,0,none⟩) (p2:=slP (some ⟨sb,0,none⟩) (k.toNat+1) pc 14) (c1:=pc-0) (c2:=pc-(k.toNat+1)) (l1:=N.row.take k.toNat) (l2:=N.row.drop (k.toNat+1))
   (fun G=>by rw[hl1,←flat_take Pkt.len];exact Src.append (Src.slcTake aP1 jB hpl))
   (fun G=>by rw[hl2,←flat_drop Pkt.len _ jB];exact Src.append (Src.slcDrop aP1 jB hpl)) jB jB
  rw[hl1,hl2]at hcat;refine AG rfl rfl rfl hcat fun p3 c3=>?_;apply (qgd);apply (qeJ);apply A6 [16,17] 1;apply (qdX);apply A7 18;apply (qeI);apply (gA);apply A4 (psl (some ⟨sb,0,none⟩) pc N.row);apply (qfR);apply (gG);refine AC (ls:=x.vals) (vs:=x.vals) (ls':=x.vals) rfl rfl rfl (zaa rfl) rfl rfl (Nat.le_refl 14) jA ?_;apply (gK);apply A3 (psl p3 c3 _);apply (qdM);apply (qed)
  have hi':(∀p∈(⟨N.row.take k.toNat++N.row.drop (k.toNat+1),N.lost⟩:NetM).row,p.Good h)∧(⟨N.row.take k.toNat++N.row.drop (k.toNat+1),N.lost⟩:NetM).row.length≤256:=by
   refine⟨fun p hp=>hi.1 p ?_,?_⟩
   ·rcases List.mem_append.1 hp with hp|hp
    ·exact List.mem_of_mem_take hp
    ·exact List.mem_of_mem_drop hp
   ·show(N.row.take k.toNat++N.row.drop (k.toNat+1)).length≤256;rw[List.length_append,hl1,hl2]
    have:=hi.2;omega
  refine B5 (ls:=x.vals) rfl rfl rfl rfl (Rd.ofRow aP0) rfl (fun _ s=>(s.drop (.here _ _)).imp (netH_fold (p3,c3) hi')) ⟨x,⟨N.row.take k.toNat++N.row.drop (k.toNat+1),N.lost⟩,?_,?_,hxg,htook.symm,rfl,rfl⟩
  ·rw[hgot];rfl
  ·rw[hgot];rfl
 ·have hgot:N.core.got k=none:=by
   unfold NetC.got;by_cases h0:0≤k
   ·rw[if_pos h0];exact List.getElem?_eq_none (by rw[NetM.core_len];omega)
   ·rw[if_neg h0]
  have htook:N.core.took k=N.core:=by
   unfold NetC.took;by_cases h0:0≤k
   ·rw[if_pos h0,List.eraseIdx_of_length_le (by rw[NetM.core_len];omega)]
   ·rw[if_neg h0]
  refine A9 func119 ntmps119 fun base=>?_;apply (gA);refine (qhq) fun ob=>?_;apply (qkG);rw[decide_eq_false hk];apply (gE);refine AD (ls:=Pkt.zero.vals) rfl rfl rfl (Rd.ofRow jA) rfl rfl ?_;apply (gG);refine AC (ls:=Pkt.zero.vals) (vs:=Pkt.zero.vals) (ls':=Pkt.zero.vals) rfl rfl rfl (zaa rfl) rfl rfl (Nat.le_refl 14) jA ?_;apply (gK);apply (qed);refine B5 (ls:=Pkt.zero.vals) rfl rfl rfl rfl (Rd.ofRow aP0) rfl (fun _ s=>s.drop (.here _ _)) ⟨Pkt.zero,N,?_,?_,Pkt.zero_good h,htook.symm,rfl,rfl⟩
  ·rw[hgot];rfl
  ·rw[hgot];rfl
end
section
variable (f:Frag) (F:List HP) (h:Frag) (nb:Nat) (N:NetM)
theorem netHeal_fn:Fn prog 124 [.pointer (some ⟨nb,0,none⟩)] f (netH h nb N::F) (Ret (.tuple #[]) f (netH h nb ⟨N.row,fun _=>false⟩::F)):=by
 refine (qfu) fun i hi=>?_;refine AB func124 ntmps124 fun base=>?_;apply (gL);refine C4 (lo:=none) (hi:=none) (mx:=none) (lv:=0) (hv:=12) (mv:=12) rfl rfl rfl rfl rfl (fun h=>by cases h) jE jE jE rfl ?_
 have hz:∀s:Value,splice (s::lostV N.lost 144) (0+1) (lostV (fun _=>false) 144)=s::lostV (fun _=>false) 144:=fun s=>by
  unfold splice;rw[List.drop_eq_nil_of_le (by rw[List.length_cons,lostV_len,lostV_len];omega),List.append_nil];rfl
 have e:(Builtin.zeroCells (Value.agg (List.replicate 12 (Value.bool false)).toArray).cells (11+1)).toList=lostV (fun _=>false) 144:=by kernel_rfl
 refine H.clear (m:=11) (ls':=.slice i.1 N.row.length i.2::lostV (fun _=>false) 144) rfl rfl ?_ ?_ ?_ ?_ aP0 ?_
 ·rw[e];exact zaa rfl
 ·rw[e];exact hz _
 ·rw[e,List.length_cons,lostV_len,lostV_len];omega
 ·rw[e];intro h;have:=congrArg List.length h;rw[lostV_len]at this;cases this
 apply (gA);exact BA rfl (netH_fold (N:=⟨N.row,fun _=>false⟩) i hi) ⟨rfl,rfl,rfl⟩
end
def watC(r:Bool)(e d:Nat):List Value:=[.int .u64 16,.bool r,.int .u64 (e:Nat),.int .u64 (d:Nat),.int .u64 0]
variable {wb e d now:Nat}
section
variable (f:Frag) (F:List HP)
theorem watNew_fn:Fn prog 82 [] f F (RetE (fun wb:Nat=>.pointer (some ⟨wb,0,none⟩)) f (fun wb=>row wb 258 (watC false 0 0)::F)):=by
 refine BX func82 ntmps82 fun base=>?_;repeat(first|(refine AT (out:=watC false 0 0) rfl rfl rfl jD rfl ?_)|(apply (gU)))
 refine H.box (ls:=watC false 0 0) rfl rfl rfl rfl fun wb=>?_;apply (gK);exact AU ⟨wb,rfl,rfl,rfl⟩
theorem watRun_fn{kb:Nat}{r:Bool}(hn:now≤4611686018427387904):Fn prog 344 ([]++[]++[.pointer (some ⟨nb,0,none⟩),.pointer (some ⟨kb,0,none⟩)]) f
  (row kb 94 [.pointer (some ⟨wb,0,none⟩)]::row nb 29 [.int .u64 (now:Nat)]::row wb 258 (watC r e d)::F)
  (Ret (.tuple #[]) f (row kb 94 [.pointer (some ⟨wb,0,none⟩)]::row nb 29 [.int .u64 (now:Nat)]::row wb 258 (watC true (now+16) d)::F)):=by
 refine A9 func344 ntmps344 fun base=>?_;apply (qex);apply A6 [0,1,2,3,4,5] 8;apply (qdX);apply A7 6;apply (gO);apply (qdO);apply A6 [7,8,9] 4;apply (qfq);apply (qke);apply (gC);apply (qdO);apply A6 [11,12] 1;apply (qdX);apply A7 13;apply (gC);exact qdB
theorem look0_fn{k:Nat}{r:Bool}(hn:now≤4611686018427387904):Fn prog 292 [.pointer (some ⟨wb,0,none⟩),.int .u64 (now:Nat),.bool false,.bool true,.int .u64 (k:Nat),.int .u64 0] f (row wb 258 (watC r e d)::F) (Ret (.int .u64 0) f (row wb 258 (watC false e k)::F)):=by
 refine DT func292 ntmps292 fun base=>?_;refine (qfI) fun kb=>?_;refine (qgZ) fun nb=>?_;apply (qgP);apply (gE);exact qcX
theorem look1_fn{k:Nat}{r:Bool}(hn:now≤4611686018427387904)(hk:d<k):Fn prog 292 [.pointer (some ⟨wb,0,none⟩),.int .u64 (now:Nat),.bool true,.bool true,.int .u64 (k:Nat),.int .u64 0] f (row wb 258 (watC r e d)::F) (Ret (.int .u64 0) f (row wb 258 (watC true (now+16) k)::F)):=by
 refine DT func292 ntmps292 fun base=>?_;refine (qfI) fun kb=>?_;refine (qgZ) fun nb=>?_;apply (qgP);apply (gR);exact qaS
theorem look2_fn{k:Nat}(hn:now≤4611686018427387904)(hk:¬d<k):Fn prog 292 [.pointer (some ⟨wb,0,none⟩),.int .u64 (now:Nat),.bool true,.bool true,.int .u64 (k:Nat),.int .u64 0] f (row wb 258 (watC false e d)::F) (Ret (.int .u64 0) f (row wb 258 (watC true (now+16) k)::F)):=by
 refine DT func292 ntmps292 fun base=>?_;refine (qfI) fun kb=>?_;refine (qgZ) fun nb=>?_;apply (qdV);apply (qeI);apply (gS);exact qaS
theorem look3_fn{k:Nat}(hn:now≤4611686018427387904)(hk:¬d<k)(he:now<e):Fn prog 292 [.pointer (some ⟨wb,0,none⟩),.int .u64 (now:Nat),.bool true,.bool true,.int .u64 (k:Nat),.int .u64 0] f (row wb 258 (watC true e d)::F) (Ret (.int .u64 0) f (row wb 258 (watC true e k)::F)):=by
 refine DT func292 ntmps292 fun base=>?_;refine (qfI) fun kb=>?_;refine (qgZ) fun nb=>?_;apply (qdV);apply (qeI);apply (gS);apply (qhz);apply (gN);exact qcX
end
def cms(n:Nat)(x:UInt8)(l:List QM):CM:=l.foldl (fun M m=>(M.take n (mkM x m)).2) []
theorem cms_snoc(n:Nat)(x:UInt8)(l:List QM)(m:QM):cms n x (l++[m])=((cms n x l).take n (mkM x m)).2:=by
 unfold cms;rw[List.foldl_append];rfl
def toldC(td:List Nat):List Value:=td.flatMap fun c=>toldV ((c:Nat):Int)
def ksV(ks:List (List Nat)):Nat→Nat→Int:=fun i=>qnI (ks.getD i [])
theorem ksV_set{ks:List (List Nat)}{i:Nat}(h:i<ks.length)(k:List Nat):ksV (ks.set i k)=updF (ksV ks) i (qnI k):=by
 funext j;unfold ksV updF;rw[List.getD_eq_getElem?_getD,List.getElem?_set];by_cases e:i=j
 ·subst e;rw[if_pos rfl,if_pos h,if_pos rfl];rfl
 ·rw[if_neg e,if_neg (fun h=>e h.symm)];show _=qnI (ks.getD j []);rw[List.getD_eq_getElem?_getD]
structure RP where
 i:PI
 pp:Option Addr
 pc:Nat
 tp:Option Addr
 tc:Nat
def repB(rb n o:Nat)(x:UInt8)(r:QR)(ws:List Msg)(a:RP):List HP:=[row rb 97 (repC n o a.i a.pp r.pd.length a.pc a.tp r.td.length a.tc r.ck),loQ a.i.lr n (r.l.map (mkM x)),waQ a.i.wt ws,lgH a.i.lg n (qnth r.kn) r.lg (qnth r.vt) x,chkH a.i.ck n (cms n x r.l),row a.i.pe 266 (peC n (ksV r.ks)),runH a.i.rn r.row x,row a.i.wc 258 (watC r.runs r.fin r.done),
 slc a.pp r.pd.length a.pc 34 40 (r.pd.flatMap (pndV x)),slc a.tp r.td.length a.tc 136 5 (toldC r.td)]
def repH(rb n o:Nat)(x:UInt8)(r:QR)(ws:List Msg):HP:=pack (fun _:RP=>True) (repB rb n o x r ws)
variable {r:QR} {rb o:Nat} {x:UInt8} {ws:List Msg}
theorem zbb(a:RP):∀z,stars (repB rb n o x r ws a++F) z→stars (repH rb n o x r ws::F) z:=zap a trivial
/-! ### What waits. -/
variable {m:QM} {r':QR}
theorem zby{i:Nat}{ws:List QM}(h:qdrain n i (m::ws) r=some r'):(∀y∈ws,qopen (qchk r y)=true∧(m.o<y.o∨qchk r y≠0))∧∃r1,qtake n i r m=some r1∧qdrain n i ws r1=some r':=by
 unfold qdrain at h
 cases ha:ws.all (fun y=>qopen (qchk r y)&&(Nat.blt m.o y.o|| !(qchk r y == 0)))with
 |false=>rw[ha]at h;cases h
 | true =>
  rw[ha,cond_true]at h;refine⟨fun y hy=>?_,?_⟩
  ·have:=List.all_eq_true.1 ha y hy;simp only[Bool.and_eq_true,Bool.or_eq_true,Nat.blt_eq,Bool.not_eq_true',beq_eq_false_iff_ne,ne_eq]at this
   exact this
  ·cases ht:qtake n i r m with
   |none=>rw[ht]at h;cases h
   |some r1=>rw[ht]at h;exact⟨r1,rfl,h⟩
def qkey(m:QM):Nat×Nat:=(m.o,m.num)
theorem qopen_num(h:qopen (qchk r m)=true):qnth r.kn (m.o-1)<m.num:=by
 cases c1:Nat.ble m.num (qnth r.kn (m.o-1))with
 | true =>
  have:qchk r m=13:=by unfold qchk;rw[c1];rfl
  rw[this]at h;cases h
 | false =>
  have:¬m.num≤qnth r.kn (m.o-1):=by rw[←Nat.ble_eq,c1];decide
  omega
theorem qdrain_num{i:Nat}:∀ {ws:List QM} {r r':QR},qdrain n i ws r=some r'→∀y∈ws,qnth r.kn (y.o-1)<y.num
 | [],_,_,_,y,hy=>by cases hy
 | m :: ws, r, r', h, y, hy => by
  obtain⟨h1,r1,h2,h3⟩:=zby h
  rcases List.mem_cons.1 hy with e|e
  ·rw[e]
   have:=(qchk_zero (qtake_is h2).c0).1
   omega
  ·exact qopen_num (h1 y e).1
theorem qdrain_keys{n i:Nat}:∀ {ws:List QM} {r r':QR},QInv n r→qdrain n i ws r=some r'→(ws.map qkey).Nodup
 | [],_,_,_,_=>List.nodup_nil
 | m :: ws, r, r', hi, h => by
  obtain⟨h1,r1,h2,h3⟩:=zby h
  have t:=qtake_is h2
  refine List.nodup_cons.2 ⟨fun hm=>?_,qdrain_keys (t.next hi) h3⟩
  obtain⟨y,hy,he⟩:=List.mem_map.1 hm
  have e1:y.o=m.o:=congrArg Prod.fst he
  have e2:y.num=m.num:=congrArg Prod.snd he
  have h4:=qdrain_num h3 y hy
  have h5:=(qchk_zero t.c0).1
  have h6:=t.ok.o1
  have h7:=t.ok.on
  rw[t.kn,qinc_at _ _ _ (by rw[hi.kl];omega),if_pos jB]at h4
  omega
theorem keyM_mk(x:UInt8)(m:QM):keyM (mkM x m)=(((m.o:Nat):Int),((m.num:Nat):Int)):=by
 unfold keyM;rw[mkM_o,mkM_num]
theorem qopen_z(c:Nat):openZ ((c:Nat):Int)=qopen c:=by
 unfold openZ qopen;rw[Bool.eq_iff_iff];simp only[Bool.or_eq_true,decide_eq_true_eq,beq_iff_eq];omega
section
variable (f:Frag) (F:List HP)
theorem tklog_fn(htab:TabAt f){lg i:Nat}(h3:3≤n)(h11:n≤11)(hI:QInv n r)(t:QTook n i r m r')(q:Option Addr)(c:Nat):Fn prog 152 [.pointer (some ⟨lg,0,none⟩),.agg (⟨mkM x m,q,c⟩:MV).vals.toArray] f (lgH lg n (qnth r.kn) r.lg (qnth r.vt) x::F) (Ret (.tuple #[.bool true,.int .i64 0]) f (lgH lg n (qnth r'.kn) r'.lg (qnth r'.vt) x::F)):=by
 have hg:=mkM_good f x t.ok q c;have hmay:=mkM_may h11 x t.ok
 have h1:=t.ok.o1;have h2:=t.ok.on
 have hz:=qchk_zero t.c0;have hkb:=qnth_le hI.kb (m.o-1)
 have hkn:qnth r'.kn=updF (qnth r.kn) (m.o-1) (qnth r.kn (m.o-1)+1):=by rw[t.kn];exact qinc_upd (by rw[hI.kl];omega)
 have hd:∀j,j<11→qnth m.d j≤qnth r.kn j:=fun j _=>t.dle hI j;have ho:m.o-1+1=m.o:=jB
 rw[hkn];rcases t.how with⟨k1,k2,k3,k4,e1,e2,e3,e4⟩|⟨k1,k2,k3,k4,k5,e1,e2,e3,e4⟩|⟨k1,e1,e2,e3,e4⟩
 ·have hv:=hI.vt8 0;have hc:=mkM_cells1 x k1 k2 q c
  rw[k3,k4]at hc;have e0:m.o-1=0:=jB
  rw[e0]at hz⊢;rw[e1,e2,qinc_upd (by rw[hI.vl];omega)];exact lgtake1_fn f F htab h3 h11 hg hmay hc (by have:=t.ok.a8;omega) jB jB hd
 ·have hc:=mkM_cells2 x k1 q c;rw[k3,←ho]at hc
  rw[e1,e2,qinc_upd (by rw[hI.vl];omega)];exact lgtake2_fn f F h3 h11 hg hmay hc hI.lg jB jB jB hz.1 jB hd
 ·have hc:=mkM_cells6 x k1 q c;rw[←ho]at hc
  rw[e1,e2];exact lgtake6_fn f F h3 h11 hg hmay hc jB hz.1 jB hd
theorem rtake_fn(htab:TabAt f){y:MV}(h3:3≤n)(h11:n≤11)(ho:o<n)(hI:QInv n r)(ht:qtake n (o+1) r m=some r')(hy:y.m=mkM x m):Fn prog 104 [.pointer (some ⟨rb,0,none⟩),.agg y.vals.toArray] f (repH rb n o x r ws::F) (Ret (.int .i64 0) f (repH rb n o x r' ws::F)):=by
 have t:=qtake_is ht;have hck:=hI.ck
 obtain⟨_,q,c⟩:=y;have hy:_=mkM x m:=hy;subst hy
 refine B2 fun⟨⟨lr,wt,lg,ck,pe,rn,wc⟩,pp,pc,tp,tc⟩ _=>?_;have hadd:=fun G=>ladd0_fn f G htab (lb:=lr) (n:=n) (ms:=r.l.map (mkM x)) (y:=⟨mkM x m,q,c⟩) (NoQ.of_mk x r.l) (mkM_q x m) (mkM_good f x t.ok q c).2.2 (by rw[List.length_map];have:=t.len;omega) (by show chk n _ (mkM x m)=0;rw[chk_q h11 hI x t.ok,t.c0];rfl);have hlog:=fun G=>tklog_fn f G htab (lg:=lg) (x:=x) h3 h11 hI t q c
 have hchk:=fun G=>ctake_fn f G (cb:=ck) (n:=n) (M:=cms n x r.l) (mkM_good f x t.ok q c);rw[show r.l.map (mkM x)++[(⟨mkM x m,q,c⟩:MV).m]=(r.l++[m]).map (mkM x) by rw[List.map_append];rfl]at hadd
 rw[show((cms n x r.l).take n (⟨mkM x m,q,c⟩:MV).m).2=cms n x (r.l++[m])from(cms_snoc n x r.l m).symm]at hchk;have hvl:(⟨mkM x m,q,c⟩:MV).vals.length=121:=rfl;obtain⟨_,_,_,hl,hkn,hks,hrow,hpd,htd,hrun,hfin,hdone,how⟩:=t
 have hfo:=zbb (rb:=rb) (n:=n) (o:=o) (x:=x) (r:=r') (ws:=ws) (F:=F) ⟨⟨lr,wt,lg,ck,pe,rn,wc⟩,pp,pc,tp,tc⟩;unfold repB at hfo
 rw[hl,hks,hrow,hpd,htd,hrun,hfin,hdone]at hfo;apply (qdN);generalize((cms n x r.l).take n (⟨mkM x m,q,c⟩:MV).m).1=bt at hchk;rcases how with⟨k1,k2,k3,k4,e1,e2,e3,e4⟩|⟨k1,k2,k3,k4,k5,e1,e2,e3,e4⟩|⟨k1,e1,e2,e3,e4⟩
 ·rw[e4]at hfo;obtain⟨vs,hvs⟩:∃vs,vs=(⟨mkM x m,q,c⟩:MV).vals:=⟨_,rfl⟩;have hc:=mkM_cells x m q c;rw[←hvs]at hadd hlog hchk hc hvl⊢
  clear hvs;rw[k1,mkB_1]at hc;exact qab
 ·rw[e4]at hfo;obtain⟨vs,hvs⟩:∃vs,vs=(⟨mkM x m,q,c⟩:MV).vals:=⟨_,rfl⟩;have hc:=mkM_cells x m q c;rw[←hvs]at hadd hlog hchk hc hvl⊢
  clear hvs;rw[k1,mkB_2]at hc;exact qab
 ·rw[e4]at hfo;obtain⟨vs,hvs⟩:∃vs,vs=(⟨mkM x m,q,c⟩:MV).vals:=⟨_,rfl⟩;have hc:=mkM_cells x m q c;rw[←hvs]at hadd hlog hchk hc hvl⊢
  clear hvs;rw[←mkM_cells x m q c,mkM_cells6 x k1 q c]at hc;generalize Sha.sum (staBytes x m.a)=dg at hc;subst hc;by_cases c1:m.o=o+1
  ·by_cases c2:m.a=r.ck+4
   ·rw[show(m.o == o+1&&m.a == r.ck+4)=true by simp[c1,c2],cond_true]at hfo;refine A9 func104 ntmps104 fun base=>?_;apply (gA);refine H.box (ls:=_) rfl rfl rfl rfl fun yb=>?_;apply (qff);apply (gS);exact qbd
   ·rw[show(m.o == o+1&&m.a == r.ck+4)=false by simp[c2],cond_false]at hfo;refine A9 func104 ntmps104 fun base=>?_;apply (gA);refine H.box (ls:=_) rfl rfl rfl rfl fun yb=>?_;apply (qff);apply (gN);exact qbd
  ·rw[show(m.o == o+1&&m.a == r.ck+4)=false by simp[c1],cond_false]at hfo;exact qa
end
def b128(t:Nat→UInt8):List Value:=(List.range 128).map fun i=>.int .u8 ((t i).toNat:Nat)
theorem zam(t:Nat→UInt8):(b128 t).length=128:=by simp[b128]
theorem b128_get(t:Nat→UInt8){i:Nat}(h:i<128):(b128 t)[i]?=some (.int .u8 ((t i).toNat:Nat)):=by
 unfold b128;exact qcK
theorem b128_one(t:Nat→UInt8):∀v∈b128 t,one v=true:=by
 intro v hv;unfold b128 at hv;obtain⟨i,_,rfl⟩:=List.mem_map.1 hv;rfl
theorem b128_bytes(t:Nat→UInt8):b128 t=bytesV ((List.range 128).map t):=by unfold b128 bytesV;rw[List.map_map];rfl
theorem bytes_b128{l:List UInt8}(h:l.length=128):bytesV l=b128 fun i=>l.getD i 0:=by
 apply List.ext_getElem?;intro i;by_cases hi:i<128
 ·rw[b128_get _ hi];unfold bytesV;rw[List.getElem?_map,List.getElem?_eq_getElem jB];simp[List.getD_eq_getElem?_getD,List.getElem?_eq_getElem (show i<l.length by omega)]
 ·rw[List.getElem?_eq_none (by unfold bytesV;rw[List.length_map];omega),List.getElem?_eq_none kS]
def secL(t:Nat→UInt8):List Value:=b128 t++[.bool false]
def wrL(e:Int×(Nat→UInt8)):List Value:=.int .i64 e.1::b128 e.2
theorem secL_len(t:Nat→UInt8):(secL t).length=129:=by unfold secL;rw[List.length_append,zam];rfl
theorem wrL_len(e:Int×(Nat→UInt8)):(wrL e).length=129:=by unfold wrL;rw[List.length_cons,zam]
theorem secL_one(t:Nat→UInt8):∀v∈secL t,one v=true:=fun v hv=>by
 rcases List.mem_append.1 hv with h|h
 ·exact b128_one t v h
 ·rw[List.mem_singleton.1 h];rfl
theorem wrL_one(e:Int×(Nat→UInt8)):∀v∈wrL e,one v=true:=fun v hv=>by
 rcases List.mem_cons.1 hv with h|h
 ·rw[h];rfl
 ·exact b128_one _ v h
abbrev keyIn(k:Int):Value:=.int .i64 k
instance:KeyT prog 3 keyIn:=keyT_int ⟨underlying3⟩
abbrev DM:=List (Int×(Nat→UInt8))
def secE(e:Int×(Nat→UInt8)):Int×Value:=(e.1,.agg (secL e.2).toArray)
def dget:DM→Int→Nat→UInt8
 | [],_=>fun _=>0
 |e::r,k=>if k=e.1 then e.2 else dget r k
def dput:DM→Int→(Nat→UInt8)→DM
 | [],k,t=>[(k,t)]
 |e::r,k,t=>if k=e.1 then(k,t)::r else e::dput r k t
theorem dget_kv:∀(m:DM) (k:Int),(getKV (m.map secE) k).getD (.agg (secL fun _=>0).toArray)= .agg (secL (dget m k)).toArray
 | [],_=>rfl
 | e :: r, k => by
  show(if k=e.1 then some (Value.agg (secL e.2).toArray)else getKV (r.map secE) k).getD _= .agg (secL (if k=e.1 then e.2 else dget r k)).toArray
  by_cases h:k=e.1
  ·rw[if_pos h,if_pos h];rfl
  ·rw[if_neg h,if_neg h];exact dget_kv r k
theorem dput_kv:∀(m:DM) (k:Int) (t:Nat→UInt8),putKV (m.map secE) k (.agg (secL t).toArray)=(dput m k t).map secE
 | [],_,_=>rfl
 | e :: r, k, t => by
  show(if k=e.1 then(k,Value.agg (secL t).toArray)::r.map secE else secE e::putKV (r.map secE) k _)=(if k=e.1 then(k,t)::r else e::dput r k t).map secE
  by_cases h:k=e.1
  ·rw[if_pos h,if_pos h];rfl
  ·rw[if_neg h,if_neg h,dput_kv r k t];rfl
theorem dget_put:∀(m:DM) (k:Int) (t:Nat→UInt8) (j:Int),dget (dput m k t) j=if j=k then t else dget m j
 | [],_,_,_=>rfl
 | e :: r, k, t, j => by
  unfold dput
  by_cases h:k=e.1
  ·rw[if_pos h]
   subst h
   unfold dget
   by_cases hj:j=e.1
   ·simp[hj]
   ·simp[hj]
  ·rw[if_neg h]
   unfold dget
   by_cases hj:j=e.1
   ·rw[if_pos hj,if_pos hj,if_neg (by rw[hj];exact fun e=>h e.symm)]
   ·rw[if_neg hj,if_neg hj,dget_put r k t j]
structure DI where
 s:Nat
 nw:Nat
 ms:List (Int×Value)
 p:Option Addr
 c:Nat
 ws:DM
def dkC(i:DI):List Value:=[.map (some i.s),.map (some i.nw),.slice i.p i.ws.length i.c,.bool false,.int .i64 (-1)]
def diskB(db:Nat)(m:DM)(i:DI):List HP:=[row db 145 (dkC i),mp i.nw keyIn (m.map secE),mp i.s keyIn i.ms,slc i.p i.ws.length i.c 322 129 (i.ws.flatMap wrL)]
def diskH(db z:Nat)(m:DM):HP:=pack (fun i:DI=>i.ws.length≤z) (diskB db m)
theorem disk_fold{db z:Nat}{m:DM}(i:DI)(h:i.ws.length≤z):∀x,stars (diskB db m i++F) x→stars (diskH db z m::F) x:=zap i h
section
variable (f:Frag) (F:List HP) {db z:Nat} {m:DM}
theorem dnew_fn:Fn prog 29 [] f F (RetE (fun db:Nat=>.pointer (some ⟨db,0,none⟩)) f (fun db=>diskH db 0 []::F)):=by
 refine BX func29 ntmps29 fun base=>?_;apply (gG);refine H.makeMap keyIn rfl rfl fun s=>?_;refine H.makeMap keyIn rfl rfl fun nw=>?_;repeat((refine AT (out:=dkC ⟨s,nw,[],none,0,[]⟩) rfl rfl rfl jD rfl ?_))
 refine H.box (ls:=dkC ⟨s,nw,[],none,0,[]⟩) rfl rfl rfl rfl fun db=>?_;apply (gK);refine AY 322 129 ?_;apply A3 (mp s _ _);apply A3 (mp nw _ _);apply (qiN);refine H.imp (disk_fold (m:=[]) (z:=0) ⟨s,nw,[],none,0,[]⟩ (Nat.le_refl 0)) ?_;exact AU ⟨db,rfl,rfl,rfl⟩
theorem dpower_fn:Fn prog 34 [.pointer (some ⟨db,0,none⟩)] f (diskH db z m::F) (Ret (.bool true) f (diskH db z m::F)):=by
 refine (qfu) fun i hi=>?_;show Fn _ _ _ f (row _ _ _::_::_::_::F) _;refine AB func34 ntmps34 fun base=>?_;apply (qeN);exact AE rfl rfl (disk_fold i hi) ⟨rfl,rfl,rfl⟩
theorem dready_fn(i:DI){k:Int}(h0:0≤k)(h1:k<32768):Fn prog 198 [.pointer (some ⟨db,0,none⟩),.int .i64 k] f (row db 145 (dkC i)::F) (Ret (.int .i64 0) f (row db 145 (dkC i)::F)):=by
 refine A9 func198 ntmps198 fun base=>?_;apply (gT);exact qad
theorem dburns_fn(i:DI):Fn prog 199 [.pointer (some ⟨db,0,none⟩)] f (row db 145 (dkC i)::F) (Ret (.bool false) f (row db 145 (dkC i)::F)):=by
 refine AB func199 ntmps199 fun base=>?_;apply (gT);exact qad
theorem dread_fn{k:Int}(h0:0≤k)(h1:k<32768):Fn prog 203 [.pointer (some ⟨db,0,none⟩),.int .i64 k] f (diskH db z m::F) (Ret (.tuple #[.agg (b128 (dget m k)).toArray,.int .i64 0]) f (diskH db z m::F)):=by
 refine (qfu) fun i hi=>?_;show Fn _ _ _ f (row _ _ _::_::_::_::F) _;refine A9 func203 ntmps203 fun base=>?_;apply (gA);refine (qfw) fun bb=>?_;apply (gG);apply (qiN);refine A8 rfl rfl rfl (dready_fn f _ i h0 h1) ?_;apply (gT);refine Cp (enc:=keyIn) (k:=k) rfl rfl rfl jA rfl (dget_kv m k) rfl ?_;refine AJ (ls:=secL fun _=>0) rfl rfl jD fun xb=>?_;refine AC (ls:=secL fun _=>0) (vs:=secL (dget m k)) (ls':=secL (dget m k)) rfl rfl rfl (secL_one _) (secL_len _) (by unfold splice;rw[secL_len,List.take_zero,List.drop_eq_nil_of_le (by rw[secL_len];omega)];simp) (by rw[secL_len,secL_len];omega) aP0 ?_;apply (gS);refine AD (ls:=b128 (dget m k)) rfl rfl rfl (Rd.sub (pre:=[]) (post:=[.bool false]) (k:=0) (Rd.ofRow jA) rfl) (zam _) rfl ?_;refine AC (ls:=b128 fun _=>0) (vs:=b128 (dget m k)) (ls':=b128 (dget m k)) rfl rfl rfl (b128_one _) (zam _) (by unfold splice;rw[zam,List.take_zero,List.drop_eq_nil_of_le kS];simp) jo jA ?_;apply (gK);apply (qhZ);apply (qeS);refine B5 (ls:=b128 (dget m k)) rfl rfl rfl rfl (Rd.ofRow aP0) (zam _) (fun _ s=>(s.drop (.here _ _)).imp (disk_fold i hi)) ⟨rfl,rfl,rfl⟩
theorem dwrite_fn{k:Int}(h0:0≤k)(h1:k<32768)(hz:z≤1000000)(t:Nat→UInt8):Fn prog 162 [.pointer (some ⟨db,0,none⟩),.int .i64 k,.agg (b128 t).toArray] f (diskH db z m::F) (Ret (.int .i64 0) f (diskH db (z+1) (dput m k t)::F)):=by
 refine (qfu) fun i hi=>?_;show Fn _ _ _ f (row _ _ _::mp _ _ _::mp _ _ _::slc _ _ _ _ _ _::F) _;refine AP func162 ntmps162 fun base=>?_;apply (gA);refine H.box (ls:=b128 t) rfl rfl rfl rfl fun bb=>?_;apply (gG);apply (qiN);refine A8 rfl rfl rfl (dready_fn f _ i h0 h1) ?_;apply (gE);refine BY 7 jD jJ ?_;apply (gH);refine C1 (ls:=b128 t) rfl rfl rfl (Rd.ofRow jA) (zam t) rfl ?_;refine ED (out:=secL t) rfl rfl rfl jD rfl ?_;apply (gI);refine CN (enc:=keyIn) (k:=k) (v:=.agg (secL t).toArray) rfl rfl rfl rfl jA rfl ?_;apply (gA);rw[dput_kv];apply (qeS);apply (qiN);apply (qkg);apply A6 [0,1,2,3,4,5,6,7] 5;apply (gF);refine AH (ls:=b128 t) rfl rfl rfl (Rd.ofRow jA) (zam t) rfl ?_;refine Ct (out:=wrL (k,t)) rfl rfl rfl jD rfl ?_;apply (qdG);apply A7 8;refine AS (out:=wrL (k,t)) rfl rfl rfl rfl jE jE jD rfl fun eb=>?_;apply (gA);apply (qeS);apply (qiN);apply (qdO);apply (qkF);refine AQ (p:=i.p) (n0:=i.ws.length) (c:=i.c) (xs:=i.ws.flatMap wrL) (m:=1) (news:=wrL (k,t)) rfl rfl rfl rfl rfl (fun p' c'=>jA) (Src.slice (Rd.ofRow jA) (wrL_len _)) (wrL_one _) jD jB jB fun p2 c2=>?_;apply (qij);apply (qeJ);apply A6 [10,11] 1;apply (qdX);apply A7 12;have e1:i.ws.flatMap wrL++wrL (k,t)=(i.ws++[(k,t)]).flatMap wrL:=by rw[List.flatMap_append];simp
 have e2:(i.ws++[(k,t)]).length=i.ws.length+1:=by rw[List.length_append];rfl
 refine AZ (ls:=dkC i) (ls':=dkC {i with p:=p2,c:=c2,ws:=i.ws++[(k,t)]}) rfl rfl (by rw[←e2];rfl) rfl jA jG ?_;apply (qeX);apply (gG);apply (qiN);refine A8 rfl rfl rfl (dburns_fn f _ {i with p:=p2,c:=c2,ws:=i.ws++[(k,t)]}) ?_;apply (gE);apply A4 (row bb _ _);rw[e1,←e2];apply (qeO);apply A3 (mp i.s _ _);apply A3 (mp i.nw _ _);apply (qiN);exact AE rfl rfl (disk_fold {i with p:=p2,c:=c2,ws:=i.ws++[(k,t)]} (by show(i.ws++[(k,t)]).length≤_;omega)) ⟨rfl,rfl,rfl⟩
theorem dsync_fn(hz:z≤1000000):Fn prog 136 [.pointer (some ⟨db,0,none⟩)] f (diskH db z m::F) (Ret (.int .i64 0) f (diskH db 0 m::F)):=by
 refine (qfu) fun i hi=>?_;obtain⟨sb,nw,ms,p,c,ws⟩:=i;have hi:ws.length≤z:=hi;show Fn _ _ _ f (row _ _ _::mp _ _ _::mp _ _ _::slc p ws.length c _ _ _::F) _
 refine AB func136 ntmps136 fun base=>?_;apply (gG);refine A8 rfl rfl rfl (dready_fn f _ ⟨sb,nw,ms,p,c,ws⟩ jE jE) ?_;apply (gE);refine A8 rfl rfl rfl (dburns_fn f _ ⟨sb,nw,ms,p,c,ws⟩) ?_;apply (gT)
 refine AF (ι:=Nat×List (Int×Value)) (fun s=>[(18,.int .i64 (s.1:Int)),(17,.int .i64 (ws.length:Nat)),(16,.slice p ws.length c),(0,.pointer (some ⟨db,0,none⟩))]) (fun _=>f)
  (fun s=>row db 145 (dkC ⟨sb,nw,ms,p,c,ws⟩)::mp nw keyIn (m.map secE)::mp sb keyIn s.2::slc p ws.length c 322 129 (ws.flatMap wrL)::F) (fun s=>s.1≤ws.length) (fun s=>ws.length-s.1) (0,ms) (Nat.zero_le _) fun s hs=>?_
 obtain⟨k,ms⟩:=s;have hs:k≤ws.length:=hs;show H _ _ _ [(18,.int .i64 (k:Int)),_,_,_] _ (_::_::mp sb _ ms::_) _
 by_cases hlt:k<ws.length
 ·obtain⟨x,hx⟩:∃x,ws[k]?=some x:=⟨_,List.getElem?_eq_getElem hlt⟩;refine AO (p:=p) (n0:=ws.length) (c:=c) jA jB fun b hp=>?_;subst hp;apply (gN);refine B7 (i:=k) rfl rfl rfl rfl hlt rfl ?_;rw[Nat.zero_add];refine AD (ls:=wrL x) rfl rfl rfl (Rd.slcElem wrL_len jE jA hx) (wrL_len x) rfl ?_;refine AJ (ls:=wrL (0,fun _=>0)) rfl rfl jD fun xb=>?_;refine AC (ls:=wrL (0,fun _=>0)) (vs:=wrL x) (ls':=wrL x) rfl rfl rfl (wrL_one _) (wrL_len _) (by unfold splice;rw[wrL_len,List.take_zero,List.drop_eq_nil_of_le (by rw[wrL_len];omega)];simp) (by rw[wrL_len,wrL_len];omega) aP0 ?_;apply (gA);refine BY 13 jD jJ ?_;apply (gH);refine F1 (enc:=keyIn) (k:=x.1) rfl rfl rfl jA rfl (dget_kv m x.1) rfl ?_;apply (gI);refine CN (enc:=keyIn) (k:=x.1) rfl rfl rfl rfl jA rfl ?_;apply (gD);apply (qhZ);exact AI (k+1,_) (by show k+1≤ws.length;omega) (by show ws.length-(k+1)<ws.length-k;omega)
 ·apply (gS);apply (qgM);refine AY 322 129 ?_;apply A3 (mp sb _ _);apply A3 (mp nw _ _);apply (qiN);exact AE rfl rfl (disk_fold ⟨sb,nw,ms,none,0,[]⟩ (Nat.le_refl 0)) ⟨rfl,rfl,rfl⟩
theorem dfuse_fn:Fn prog 125 [.pointer (some ⟨db,0,none⟩),.int .i64 (-1)] f (diskH db z m::F) (Ret (.tuple #[]) f (diskH db z m::F)):=by
 refine (qfu) fun i hi=>?_;show Fn _ _ _ f (row _ _ _::_::_::_::F) _;refine A9 func125 ntmps125 fun base=>?_;repeat(first|(apply (gU))|(refine H.max2 (z:=-1) rfl rfl rfl rfl rfl ?_))
 exact BA rfl (disk_fold i hi) ⟨rfl,rfl,rfl⟩
end
def placeC(db p:Nat):List Value:=[.pointer (some ⟨db,0,none⟩),.int .i64 (p:Int)]
def cellAll(b:List UInt8):List UInt8:=be 2 (b.length:Nat)++b++List.replicate (1198-b.length) 0
variable {b:List UInt8}
theorem cellAll_len(h:b.length≤1198):(cellAll b).length=1200:=by
 unfold cellAll;rw[List.length_append,List.length_append,be_len,List.length_replicate];omega
def secB(n:Int)(all:List UInt8)(i:Nat):List UInt8:=be 8 n++(all.drop (i*120)).take 120
def secT(n:Int)(all:List UInt8)(i:Nat):Nat→UInt8:=fun j=>(secB n all i).getD j 0
variable {all:List UInt8}
theorem secB_len{n:Int}{i:Nat}(h:all.length=1200)(hi:i<10):(secB n all i).length=128:=by
 unfold secB;rw[List.length_append,be_len,List.length_take,List.length_drop];omega
def wrN(m:DM)(a:Nat)(n:Int)(all:List UInt8):Nat→DM
 |0=>m
 |i+1=>dput (wrN m a n all i) ((a+i:Nat):Int) (secT n all i)
variable {sz:Nat}
section
variable (f:Frag) (F:List HP) {db z:Nat} {m:DM}
theorem pmay_fn{p:Nat}(hp:p≤32748):Fn prog 134 [.agg (placeC db p).toArray] f F (Ret (.int .i64 0) f F):=by
 refine AB func134 ntmps134 fun base=>?_;refine (qjV) fun pb=>?_;apply (gT);exact qaI
theorem sectors_fn{n:Int}(hs:Src prog f F (.slice p b.length c) 1 b.length (bytesV b))(hl:b.length≤1100):Fn prog 197 [.int .u64 n,.slice p b.length c] f F (fun v f' A'=>∃cb ab p' c',v= .func (.func 262) #[] #[.pointer (some ⟨cb,0,none⟩),.pointer (some ⟨ab,0,none⟩)]∧f'=f∧
   A'=row cb 29 [.int .u64 n]::row ab 46 [.slice p' 1200 c']::slc p' 1200 c' 5 1 (bytesV (cellAll b))::F):=by
 refine A9 func197 ntmps197 fun base=>?_;apply (gA);refine H.box (ls:=[.int .u64 n]) rfl rfl rfl rfl fun cb=>?_;apply (gD);refine AG rfl rfl rfl (half_fn (n:=(b.length:Nat)) f _ (l:=[]) Src.nil (fun _=>rfl) jE) fun p1 c1=>?_;apply (gG);refine AQ (p:=p1) (n0:=2) (c:=c1) (xs:=bytesV (be 2 (b.length:Nat))) (m:=b.length) (news:=bytesV b) rfl rfl rfl rfl rfl (fun p' c'=>jA) hs.cons.cons (zao _) rfl jB jB fun p2 c2=>?_;refine (qhe) fun ab=>?_;apply (gL);refine Ed (p:=p2) (n0:=2+b.length) (c:=c2) (m:=1198-b.length) (bs:=be 2 (b.length:Nat)++b) rfl rfl rfl rfl jB (by rw[List.length_append,be_len]) (fun p' c'=>by rw[zak];exact .there _ (.here _ _ _)) jB fun p3 c3=>?_;apply (gS);have e:2+b.length+(1198-b.length)=1200:=jB
 rw[e];apply (qdL);exact AU ⟨cb,ab,p3,c3,rfl,rfl,rfl⟩
theorem slP_at{b l:Nat}(h:c≠l):slP (some ⟨b,0,none⟩) l c sz=some ⟨b,l*sz,none⟩:=by
 unfold slP;rw[if_neg h];simp[Addr.add];omega
theorem bytes_win{b k m:Nat}(h:Rd f A b 0 (bytesV all)):Rd f A b (0+(all.take k).length) (bytesV ((all.drop k).take m)):=by
 have e:bytesV all=bytesV (all.take k)++bytesV ((all.drop k).take m)++bytesV ((all.drop k).drop m):=by
  rw[←zak,←zak,List.append_assoc,List.take_append_drop,List.take_append_drop]
 rw[e]at h;exact Rd.sub h (zab _)
theorem sectors1_fn{n:Int}{lp cb ab:Nat}(hall:all.length=1200){X:Nat→HP}
  (hY:∀i,i<10→∀G,YieldFn prog lp [.int .i64 (i:Nat),.agg (b128 (secT n all i)).toArray] f (X i::G) (fun v g C=>v= .bool true∧g=f∧C=X (i+1)::G)) :
  Fn prog 262 ([]++[.func (.yield lp) #[] #[]]++[.pointer (some ⟨cb,0,none⟩),.pointer (some ⟨ab,0,none⟩)]) f
   (X 0::row cb 29 [.int .u64 n]::row ab 46 [.slice p 1200 c]::slc p 1200 c 5 1 (bytesV all)::F)
   (Ret (.tuple #[]) f (X 10::row cb 29 [.int .u64 n]::row ab 46 [.slice p 1200 c]::slc p 1200 c 5 1 (bytesV all)::F)):=by
 refine AP func262 ntmps262 fun base=>?_;refine AO (p:=p) (n0:=1200) (c:=c) jA jB fun b hp=>?_;subst hp;refine DA (p:=some ⟨b,0,none⟩) (m:=1200) (c:=c) (T:=5) (sz:=1) (xs:=bytesV all) jA fun hcap _ _=>?_;apply (gK)
 refine AF (ι:=Nat) (fun i=>[(6,.int .i64 (i:Nat)),(0,.func (.yield lp) #[] #[]),(1,.pointer (some ⟨cb,0,none⟩)),(2,.pointer (some ⟨ab,0,none⟩))]) (fun _=>f)
  (fun i=>X i::row cb 29 [.int .u64 n]::row ab 46 [.slice (some ⟨b,0,none⟩) 1200 c]::slc (some ⟨b,0,none⟩) 1200 c 5 1 (bytesV all)::F) (fun i=>i≤10) (fun i=>10-i) 0 (Nat.zero_le _) fun i hi=>?_
 have hi:i≤10:=hi;by_cases hlt:i<10
 ·have hy:=hY i hlt;apply (gN)
  apply (qeR);apply (qdL);apply (qkg);apply A6 [0,2,3,4,5,6,7,8] 3;apply (gM);refine HQ.slice (lo:=some (.tmp 13)) (hi:=some (.tmp 16)) (mx:=none) (p:=some ⟨b,0,none⟩) (len:=1200) (cap:=c) (lv:=i*120) (hv:=(i+1)*120) (mv:=c) rfl rfl ⟨_,_,rfl,by omega⟩ ⟨_,_,rfl,by omega⟩ rfl (fun h=>by cases h) jB jB (Nat.le_refl _) rfl ?_;rw[slP_at (show c≠i*120 by omega),show(i+1)*120-i*120=120 by omega];apply (qhL);refine AG rfl rfl rfl (zbj (n:=n) f _ (l:=[]) Src.nil (fun _=>rfl) jE) fun p1 c1=>?_;apply (gA);apply (qeR);apply (qhW);apply (qkF)
  have hrd:∀A A':List HP,At A (slc (some ⟨b,0,none⟩) 1200 c 5 1 (bytesV all)) A' (slc (some ⟨b,0,none⟩) 1200 c 5 1 (bytesV all))→Rd f A b (i*120*1) (bytesV ((all.drop (i*120)).take 120)):=fun A A' h=>by
   have h1:=bytes_win f (k:=i*120) (m:=120) (Rd.ofSlc (f:=f) h jB);exact qcA
  have hwl:((all.drop (i*120)).take 120).length=120:=by rw[List.length_take,List.length_drop];omega
  refine AQ (p:=p1) (n0:=8) (c:=c1) (sz:=1) (xs:=bytesV (be 8 n)) (m:=120) (news:=bytesV ((all.drop (i*120)).take 120)) rfl rfl rfl rfl rfl (fun p' c'=>jA) (Src.slice (hrd _ _ jA) (by rw[zab,hwl])) (zao _) rfl jB jB fun p2 c2=>?_;apply (gA);rw[←zak];have hsl:(secB n all i).length=128:=secB_len hall hlt;change H _ _ _ _ _ (_::_::slc p2 128 c2 _ 1 (bytesV (secB n all i))::_) _
  rw[show bytesV (secB n all i)=b128 (secT n all i)from bytes_b128 hsl];apply (qdO);apply (qeJ);apply A6 [10] 0;apply (qdP);(repeat(first|apply H.seq|apply BF));refine DF ?_;refine AO (p:=p2) (n0:=128) (c:=c2) (T:=5) (sz:=1) (xs:=b128 (secT n all i)) jA jB fun b2 hp2=>?_;subst hp2;refine B1 jC ?_;apply (qfS);refine B1 jC ?_;apply (qfS);refine B1 jC ?_;apply (qfS);refine B1 jC ?_;refine Ec (m:=128) rfl rfl (Nat.le_refl 128) rfl ?_;apply (qkA);refine B1 jC ?_;refine AD (ls:=b128 (secT n all i)) rfl rfl rfl (Rd.ofSlc jA jB) (zam _) rfl ?_;apply (qkA);apply A3 (X i);refine H.yield rfl rfl rfl rfl (hy _) fun v f' A' hR=>?_;obtain⟨rfl,hff,rfl⟩:=hR;rw[hff];clear hff;refine B1 jC ?_;apply (qgg);apply (gA);apply (qjL);apply (gT);apply (qkD);apply A3 (slc (some ⟨b,0,none⟩) _ _ _ _ _);apply (qeR);apply (qdL);apply A3 (X (i+1));exact qcO
 ·have e:i=10:=jB
  subst e;apply (gE);exact qan
theorem b128_store(s t:Nat→UInt8):splice (b128 s) 0 (b128 t)=b128 t:=by
 unfold splice;rw[zam,List.take_zero,List.drop_eq_nil_of_le kS];simp
theorem cwrite_fn{p w:Nat}(hp:p≤32748)(hw:w≤1){n:Int}{bp:Option Addr}(hs:Src prog f F (.slice bp b.length c) 1 b.length (bytesV b))(hl:b.length≤1100)(hz:z≤1000):Fn prog 135 [.agg (placeC db p).toArray,.int .i64 (w:Nat),.int .u64 n,.slice bp b.length c] f (diskH db z m::F) (Ret (.int .i64 0) f (diskH db (z+10) (wrN m (p+w*10) n (cellAll b) 10)::F)):=by
 have hcl:=cellAll_len (b:=b) jB;have hse:=fun G (hs:Src prog f G (.slice bp b.length c) 1 b.length (bytesV b))=>sectors_fn f G (n:=n) hs hl
 generalize cellAll b=all at *;refine D0 func135 rfl ntmps135 rfl (L:=[(0,_),(1,_),(2,_),(3,_)]) ⟨rfl,rfl,rfl,rfl,trivial⟩ fun base=>?_;refine (qjV) fun pb=>?_;refine H.box (ls:=[.int .i64 (w:Nat)]) rfl rfl rfl rfl fun wb=>?_;refine (qfW) fun eb=>?_;apply (gG);refine AV rfl rfl rfl (hse _ hs.cons.cons.cons.cons) fun v f' A' hr=>?_;obtain⟨cb,ab,p',c',rfl,hff,rfl⟩:=hr;rw[hff];clear hff;apply (gK);refine H.sb [(14,.func (.func 262) #[] #[.pointer (some ⟨cb,0,none⟩),.pointer (some ⟨ab,0,none⟩)]),(4,.pointer (some ⟨pb,0,none⟩)),(5,.pointer (some ⟨wb,0,none⟩)),(8,.pointer (some ⟨eb,0,none⟩))] ?_;apply (qeD);apply (qel);apply (qdW);apply (qe)
 refine Ee (fs:=[]) (cs:=[.pointer (some ⟨cb,0,none⟩),.pointer (some ⟨ab,0,none⟩)]) (fun i=>[row pb 246 (placeC db p),row wb 3 [.int .i64 (w:Nat)],row eb 24 [.int .i64 0],diskH db (z+i) (wrN m (p+w*10) n all i)]) 10
  (fun i=>[.int .i64 (i:Nat),.agg (b128 (secT n all i)).toArray]) (row cb 29 [.int .u64 n]::row ab 46 [.slice p' 1200 c']::slc p' 1200 c' 5 1 (bytesV all)::F) rfl rfl rfl (fun lp X hY=>sectors1_fn f F hcl hY) (fun i hi D lp G=>?_) fun D=>?_
 ·refine (qjo) fun base=>?_;apply (qey);refine (qfw) fun xb=>?_;refine AC (ls:=b128 fun _=>0) (vs:=b128 (secT n all i)) (ls':=b128 (secT n all i)) rfl rfl rfl (b128_one _) (zam _) (b128_store _ _) jo aP0 ?_;apply (gA);apply A3 (loopH _ _ _ _ _ _ _ _);refine DO ?_;repeat(first|(first|(first|apply H.seqR|apply CP)|(apply BT;exact rfl;exact jC))|(first|((apply B3);(iterate 3 exact rfl))|(apply BH;(iterate 3 exact rfl);exact inferInstance;exact rfl)|(apply AL;(iterate 3 exact rfl);apply Rd1.ofRow;(repeat(first|exact .here _ _ _|apply At.there));(iterate 2 exact rfl))|((apply BC;(iterate 4 exact rfl));(with_reducible apply wr_i64;omega);exact rfl)))
  refine AD (ls:=b128 (secT n all i)) rfl rfl rfl (Rd.ofRow jA) (zam _) rfl ?_;have e2:((p:Int)+(w:Int)*10+(i:Int))=((p+w*10+i:Nat):Int):=jB
  apply (qeD);refine A8 rfl rfl rfl (dwrite_fn f _ jB jB jB _) ?_;repeat(first|(first|(first|apply H.seqR|apply C2|apply D5)|(apply BT;exact rfl;exact jC)|(apply DN;exact rfl))|(first|((first|apply B3|apply BE);(iterate 3 exact rfl))|(apply H.nil)|((apply BU);(iterate 5 exact rfl))|(apply BJ)))
  rw[e2];apply (qhZ);apply (qel);apply (qdW);apply (qe);exact qaQ
 ·show H _ _ _ _ f (pts D _::row pb _ _::row wb _ _::row eb _ _::diskH db (z+10) (wrN m (p+w*10) n all 10)::row cb _ _::row ab _ _::slc p' 1200 c' _ _ _::F) _;apply (gS);apply (qfP);apply A4 (row wb _ _);apply A4 (row cb _ _);apply A4 (row ab _ _);apply A4 (slc p' 1200 c' _ _ _);apply (qko);exact E9 (b:=eb) (off:=0) rfl rfl rfl rfl (.here _ _) (Rd1.ofRow jA rfl) (fun _ s=>s.drop (.here _ _)) ⟨rfl,rfl,rfl⟩
end
variable {P:Program}
theorem FQ{base:World}{L:Env}{K:Kont}{b:Nat}{ls:List Value}(h0:0<c)
  (k:ls.length=c*sz→c≤9223372036854775807→H P base n L f (row b T ls::A) K):H P base n L f (slc (some ⟨b,0,none⟩) c c T sz ls::A) K:=.mk fun a w hf s=>by
 obtain⟨mm,⟨m1,m2,dj,e,⟨h1,h2,h3⟩,r⟩,hd,hw⟩:=s.mem
 rcases h3 with⟨h,_⟩|⟨b',sp,hb,h4,h5,hn⟩
 ·omega
 ·cases hb
  have hsp:sp=[]:=by
   rw[List.length_append,h1]at h5;exact List.eq_nil_of_length_eq_zero jB
  subst hsp
  rw[List.append_nil]at hn
  exact(k h1 h2).out a w hf ⟨s.os,s.tape,s.output,s.size,s.imm,mm,⟨m1,m2,dj,e,hn,r⟩,hd,hw⟩
variable {v:Value}
theorem zc_mem{z:Array Value}{k:Nat}(h:v∈(Builtin.zeroCells z k).toList):v∈z.toList:=by
 unfold Builtin.zeroCells at h;rw[Array.toList_map]at h;obtain⟨i,hi,rfl⟩:=List.mem_map.1 h;rw[Array.toList_range,List.mem_range]at hi
 have hz:0<z.size:=by
  rcases Nat.eq_zero_or_pos z.size with e|e
  ·rw[e,Nat.mul_zero]at hi;omega
  ·exact e
 have hm:i % z.size<z.size:=Nat.mod_lt _ hz;rw[getElem!_pos z (i % z.size) hm]
 exact Array.getElem_mem_toList hm
variable {y:Nat} {fid:FuncId}
section
variable (f:Frag) (F:List HP)
theorem idxR_fn{X:HP}{pd:List Nat}(hl:pd.length≤1000000){cs:List Value}[Fun prog fid](pr:Nat→Bool)
  (hc:∀y,y∈pd→∀G,Fn prog fid ([]++[.agg (pndV x y).toArray]++cs) f (X::G) (Ret (.bool (pr y)) f (X::G))) :
  Fn prog 287 [.slice p pd.length c,.func (.func fid) #[] cs.toArray] f (X::slc p pd.length c 34 40 (pd.flatMap (pndV x))::F) (Ret (.int .i64 (idxI pr pd)) f (X::slc p pd.length c 34 40 (pd.flatMap (pndV x))::F)):=by
 refine A9 func287 ntmps287 fun base=>?_;apply (gK);refine AF (ι:=Nat) (fun i=>[(8,.int .i64 (i:Int)),(7,.int .i64 (pd.length:Nat)),(0,.slice p pd.length c),(1,.func (.func fid) #[] cs.toArray)]) (fun _=>f) (fun _=>X::slc p pd.length c 34 40 (pd.flatMap (pndV x))::F) (fun i=>i≤pd.length∧∀j y,j<i→pd[j]?=some y→pr y=false) (fun i=>pd.length-i) 0 ⟨Nat.zero_le _,fun j y hj=>by omega⟩ fun i hi=>?_;obtain⟨hi,hb⟩:i≤pd.length∧∀j y,j<i→pd[j]?=some y→pr y=false:=hi;by_cases hlt:i<pd.length
 ·refine AO (p:=p) (n0:=pd.length) (c:=c) jA jB fun pb hp=>?_;subst hp;have hx:pd[i]?=some pd[i]:=List.getElem?_eq_getElem hlt;generalize pd[i]=y at hx
  have hcx:=hc y (List.mem_of_getElem? hx);apply (qhD)
  refine AD (ls:=pndV x y) rfl rfl rfl (by rw[Nat.zero_add];exact Rd.slcElem (sz:=40) (vals:=pndV x) (xs:=pd) (fun _=>rfl) jE jA hx) rfl rfl ?_
  cases hp:pr y with
  | true =>
   rw[hp]at hcx;apply (qiF);exact qcE
  | false =>
   rw[hp]at hcx;apply (qiF);apply (gT);refine AI (i+1) ⟨by show i+1≤pd.length;omega,fun j z hj hz=>?_⟩ (by show pd.length-(i+1)<pd.length-i;omega);by_cases e:j=i
   ·subst e;rw[hx]at hz;cases hz;exact hp
   ·exact hb j z jB hz
 ·have e:i=pd.length:=jB
  exact qcD
theorem hasR_fn{X:HP}{pd:List Nat}(hl:pd.length≤1000000){cs:List Value}[Fun prog fid](pr:Nat→Bool)
  (hc:∀y,y∈pd→∀G,Fn prog fid ([]++[.agg (pndV x y).toArray]++cs) f (X::G) (Ret (.bool (pr y)) f (X::G))) :
  Fn prog 244 [.slice p pd.length c,.func (.func fid) #[] cs.toArray] f (X::slc p pd.length c 34 40 (pd.flatMap (pndV x))::F) (Ret (.bool (pd.any pr)) f (X::slc p pd.length c 34 40 (pd.flatMap (pndV x))::F)):=by
 have h1:=idxI_any pr pd;refine A9 func244 ntmps244 fun base=>?_
 apply (gG);refine A8 rfl rfl rfl (idxR_fn f F hl pr hc) ?_;apply (gN);exact AE rfl rfl iD ⟨by rw[←h1],rfl,rfl⟩
def keptR(pr:Nat→Bool)(pd:List Nat)(j:Nat):List Nat:=(pd.take j).filter fun y=>!pr y
theorem keptR_next{pr:Nat→Bool}{pd:List Nat}(h:pd[j]?=some y):keptR pr pd (j+1)=keptR pr pd j++(if pr y=true then []else [y]):=by
 unfold keptR;rw[List.take_add_one,h,List.filter_append];show _++List.filter _ [y]=_;cases hp:pr y<;>simp[hp]
theorem keptR_all(pr:Nat→Bool)(pd:List Nat):keptR pr pd pd.length=pd.filter fun y=>!pr y:=by unfold keptR;rw[List.take_length]
theorem delR_fn{X:HP}{pd:List Nat}(hl:pd.length≤1000){cs:List Value}[Fun prog fid](pr:Nat→Bool)
  (hc:∀y,y∈pd→∀G,Fn prog fid ([]++[.agg (pndV x y).toArray]++cs) f (X::G) (Ret (.bool (pr y)) f (X::G))) :
  Fn prog 289 [.slice p pd.length c,.func (.func fid) #[] cs.toArray] f (X::slc p pd.length c 34 40 (pd.flatMap (pndV x))::F)
   (Ret (.slice p (pd.filter fun y=>!pr y).length c) f (X::slc p (pd.filter fun y=>!pr y).length c 34 40 ((pd.filter fun y=>!pr y).flatMap (pndV x))::F)):=by
 have hix:=idxR_fn f F (p:=p) (c:=c) jB pr hc
 cases hq:pd.findIdx? pr with
 | none =>
  have hall:(pd.filter fun y=>!pr y)=pd:=by
   rw[List.filter_eq_self];intro y hy;rw[List.findIdx?_eq_none_iff]at hq;simp[hq y hy]
  have e1:idxI pr pd= -1:=by unfold idxI;rw[hq]
  rw[e1]at hix;rw[hall];refine A9 func289 ntmps289 fun base=>?_;apply (gG);refine A8 rfl rfl rfl hix ?_;apply (gP);exact qad
 | some i0 =>
  obtain⟨hi0,hp0,hb0⟩:=List.findIdx?_eq_some_iff_getElem.1 hq;have e1:idxI pr pd=(i0:Nat):=by unfold idxI;rw[hq]
  rw[e1]at hix
  have hk0:keptR pr pd i0=pd.take i0:=by
   unfold keptR;rw[List.filter_eq_self];intro y hy;obtain⟨j,hj,rfl⟩:=List.getElem_of_mem hy;rw[List.length_take]at hj
   have:=hb0 j jB;rw[List.getElem_take]
   simpa using this
  have hk1:keptR pr pd (i0+1)=pd.take i0:=by
   rw[keptR_next (List.getElem?_eq_getElem hi0),if_pos hp0,List.append_nil,hk0]
  have hkl:(keptR pr pd (i0+1)).length=i0:=by rw[hk1,List.length_take];omega
  refine A9 func289 ntmps289 fun base=>?_;apply (gG);refine A8 rfl rfl rfl hix ?_;refine AO (p:=p) (n0:=pd.length) (c:=c) jA jB fun pb hp=>?_;subst hp;apply (gT)
  refine H.loop (ι:=Nat) (fun j=>[(5,.int .i64 ((keptR pr pd j).length:Nat)),(6,.int .i64 (j:Nat)),(0,.slice (some ⟨pb,0,none⟩) pd.length c),(1,.func (.func fid) #[] cs.toArray)]) (fun _=>f)
   (fun j=>X::slc (some ⟨pb,0,none⟩) pd.length c 34 40 ((keptR pr pd j++pd.drop (keptR pr pd j).length).flatMap (pndV x))::F)
   (fun j=>j≤pd.length∧(keptR pr pd j).length<j) (fun j=>pd.length-j) (i0+1) ⟨hi0,by rw[hkl];omega⟩ ⟨by rw[hkl];rfl,rfl,rfl,rfl,trivial⟩ rfl (by rw[hkl,hk1,List.take_append_drop]) fun j hj=>?_
  obtain⟨hj,hkj⟩:j≤pd.length∧(keptR pr pd j).length<j:=hj;by_cases hlt:j<pd.length
  ·have hx:pd[j]?=some pd[j]:=List.getElem?_eq_getElem hlt;generalize pd[j]=y at hx
   have hcx:=hc y (List.mem_of_getElem? hx);have hn:=keptR_next (pr:=pr) hx
   generalize hke:keptR pr pd j=ke at hkj hn⊢
   have hat:(ke++pd.drop ke.length)[j]?=some y:=by
    rw[List.getElem?_append_right jB,List.getElem?_drop,show ke.length+(j-ke.length)=j by omega,hx]
   have hcl:(ke++pd.drop ke.length).length=pd.length:=by rw[List.length_append,List.length_drop];omega
   apply (qhY);refine AD (ls:=pndV x y) rfl rfl rfl (by rw[Nat.zero_add];exact Rd.slcElem (sz:=40) (vals:=pndV x) (xs:=ke++pd.drop ke.length) (fun _=>rfl) jE jA hat) rfl rfl ?_;refine (qfh) fun vb=>?_;refine AC (ls:=Req.zero.vals) (vs:=pndV x y) (ls':=pndV x y) rfl rfl rfl (zaa rfl) rfl rfl (Nat.le_refl 40) aP0 ?_;apply (gG);refine AD (ls:=pndV x y) rfl rfl rfl (Rd.ofRow aP0) rfl rfl ?_;apply A3 X
   cases hp:pr y with
   | true =>
    rw[hp]at hcx;rw[hp,if_pos rfl,List.append_nil]at hn;apply (qiF);apply (qdI);apply (qkv);exact AX (j+1) ⟨hlt,by rw[hn];omega⟩ kB ⟨by rw[hn];rfl,rfl,rfl,rfl,trivial⟩ rfl (by rw[hn])
   | false =>
    rw[hp]at hcx;rw[hp,if_neg jE]at hn;apply (qiF);apply (qeN);refine AD (ls:=pndV x y) rfl rfl rfl (Rd.ofRow jA) rfl rfl ?_;refine B7 (i:=ke.length) rfl rfl rfl rfl jB rfl ?_;apply (qkv);rw[Nat.zero_add];refine E3 (vals:=pndV x) (sz:=40) (xs:=ke++pd.drop ke.length) (i:=ke.length) (z:=y) (fun _=>rfl) jE (zaa rfl) rfl rfl rfl jB jA ?_;apply (gD)
    have hset:(ke++pd.drop ke.length).set ke.length y=ke++[y]++pd.drop (ke++[y]).length:=by
     rw[List.set_append_right _ _ (Nat.le_refl _),Nat.sub_self,List.length_append];rw[List.drop_eq_getElem_cons (show ke.length<pd.length by omega),List.set_cons_zero,List.append_assoc];rfl
    exact AX (j+1) ⟨hlt,by rw[hn,List.length_append];show ke.length+1<j+1;omega⟩ kB ⟨by rw[hn,List.length_append];rfl,rfl,rfl,rfl,trivial⟩ rfl (by rw[hn,hset])
  ·obtain rfl:j=pd.length:=jB
   rw[keptR_all]at hkj⊢;generalize(pd.filter fun y=>!pr y)=ke at hkj⊢;obtain⟨m,hm⟩:∃m,pd.length=ke.length+(m+1):=⟨pd.length-ke.length-1,by omega⟩;have hcl:(ke++pd.drop ke.length).length=pd.length:=by rw[List.length_append,List.length_drop];omega
   apply (gN);apply (qeO);refine EQ fun sp hsp hmc=>?_;refine FQ jB fun hrl hc63=>?_;refine H.slice (lv:=ke.length) (hv:=pd.length) (mv:=c) (sz:=40) rfl rfl ⟨.i64,_,rfl,rfl⟩ rfl rfl (fun h=>by cases h) jB hmc (Nat.le_refl _) rfl ?_;rw[slP_at (show c≠ke.length by omega),show pd.length-ke.length=m+1 by omega];have hzl:(Builtin.zeroCells (Value.agg Req.zero.vals.toArray).cells (m+1)).toList.length=(m+1)*40:=by rw[Array.length_toList,zeroCells_toList];rfl
   refine H.clear (m:=m) (z:=.agg Req.zero.vals.toArray) (ls':=splice ((ke++pd.drop ke.length).flatMap (pndV x)++sp) (ke.length*40) (Builtin.zeroCells (Value.agg Req.zero.vals.toArray).cells (m+1)).toList) rfl rfl (fun v hv=>zaa (l:=Req.zero.vals) rfl v (zc_mem hv)) rfl (by rw[hzl,hrl];omega) (fun h=>by rw[h]at hzl;simp at hzl) aP0 ?_;repeat(first|((apply B3);(iterate 3 exact rfl))|(first|apply H.seq|apply BD|apply H.nil|apply BF))
   refine CB (k:=c) (sz:=40) (by rw[splice_length _ _ _ (by rw[hzl,hrl];omega),hrl]) hc63 ?_;refine DV (m':=ke.length) (ys:=ke.flatMap (pndV x)) jB (Nat.le_refl _) ?_ ?_
   ·have hkl2:(ke.flatMap (pndV x)).length=ke.length*40:=zar (pndV_len x) ke;unfold splice
    rw[List.append_assoc,List.take_append_of_le_length (by rw[List.length_take,hrl];omega),List.take_take,Nat.min_self,List.flatMap_append,List.append_assoc,←hkl2,List.take_left]
   refine CV (hv:=ke.length) rfl rfl rfl rfl jB rfl ?_;apply (gK);apply A3 X;exact qad
end
variable {a:Nat}
section
variable (f:Frag) (F:List HP)
theorem rup1_fn{tb stb sb k pn pc tn tc ck:Nat}{i:PI}{pp tp:Option Addr}(h1:1≤a)(h8:a≤8):Fn prog 290 ([]++[.agg (pndV x a).toArray]++[.pointer (some ⟨tb,0,none⟩),.pointer (some ⟨stb,0,none⟩)]) f
   (row tb 59 [.pointer (some ⟨rb,0,none⟩)]::row stb 251 [.pointer (some ⟨sb,0,none⟩)]::row rb 97 (repC n o i pp pn pc tp tn tc ck)::runH i.rn k x::staH sb k x::F)
   (Ret (.bool (decide (a≤k))) f (row tb 59 [.pointer (some ⟨rb,0,none⟩)]::row stb 251 [.pointer (some ⟨sb,0,none⟩)]::row rb 97 (repC n o i pp pn pc tp tn tc ck)::runH i.rn k x::staH sb k x::F)):=by
 have hrp:=fun G=>runReply_fn f G (rb:=i.rn) (j:=k) (x:=x) h1;have hlt:=fun G=>rlate_fn f G (sb:=sb) (j:=k) (x:=x) h1 h8
 generalize hls:(if a≤k then toldV (a:Nat)else [.int .i64 0,.int .u64 0,.int .i64 0,.string .empty,.int .u64 0])=ls at hrp;have hlen:ls.length=5:=by rw[←hls];split<;>rfl
 have hone:∀v∈ls,one v=true:=by rw[←hls];split<;>exact zaa rfl
 have hset:∀l:List Value,l.length=5→splice l 0 ls=ls:=fun l hl=>by
  exact qbc
 refine AP func290 ntmps290 fun base=>?_;refine (qho) fun qb=>?_;apply (gG)
 refine H.cut (ι:=Nat) (fun ob=>[(6,.bool (decide (a≤k))),(3,.pointer (some ⟨qb,0,none⟩)),(2,.pointer (some ⟨stb,0,none⟩)),(5,.pointer (some ⟨ob,0,none⟩))]) (fun _=>f)
  (fun ob=>row ob 136 ls::row qb 34 (reqL x a (qS x a).tag)::row tb 59 [.pointer (some ⟨rb,0,none⟩)]::row stb 251 [.pointer (some ⟨sb,0,none⟩)]::row rb 97 (repC n o i pp pn pc tp tn tc ck)::runH i.rn k x::staH sb k x::F) (fun _=>True) _ (fun ob _=>?_) ?_
 ·by_cases hak:a≤k
  ·apply (gJ);apply (qgT);apply (qfs);exact AE rfl rfl iD ⟨by rw[decide_eq_true hak],rfl,rfl⟩
  ·apply (gS);refine AD (ls:=(qS x a).vals) rfl rfl rfl (Rd.ofRow jA) rfl rfl ?_;apply (qiM);apply A5 (hlt _);apply (gR);apply (qgB);apply (qdH);apply A3 (row stb _ _);apply (qdF);apply (qgT);apply (qfs);exact AE rfl rfl iD ⟨by rw[decide_eq_false hak],rfl,rfl⟩
 ·apply (qdH);apply (qdF);apply (qdR);apply (qgs);apply A6 [0,1,2,3,4,5,6,7] 7;apply (qdX);refine B9 (i:=8) (j:=12) jD rfl rfl ?_ ?_
  ·apply (qgB);apply A5 (hrp _);apply (qjP);apply A6 [9,10,11] 3;apply (qjG);refine (qeo) fun ob=>?_;apply (qjP);exact qaC
  ·refine (qeo) fun ob=>?_;apply (qjP);apply A7 8;apply (qgB);apply A5 (hrp _);apply (qjP);apply A6 [9,10,11] 2;apply (qfa);exact qaC
theorem toldC_up(td:List Nat)(j m:Nat):toldC td++tolL j m=toldC (td++(List.range m).map fun i=>j+1+i):=by
 unfold toldC tolL;rw[List.flatMap_append,List.flatMap_map];congr 1;congr 1;funext i;rw[show j+1+i=j+i+1 by omega]
theorem toldC_len(td:List Nat):(toldC td).length=td.length*5:=zar (show∀c:Nat,(toldV ((c:Nat):Int)).length=5 from fun _=>rfl) td
theorem toldC_one(td:List Nat):∀v∈toldC td,one v=true:=fun v hv=>by
 obtain⟨c,_,h⟩:=List.mem_flatMap.1 hv
 exact zaa (l:=toldV ((c:Nat):Int)) rfl v h
theorem tolL_c(j m:Nat):tolL j m=toldC ((List.range m).map fun i=>j+1+i):=toldC_up [] j m
theorem tolL_len(j m:Nat):(tolL j m).length=m*5:=by rw[tolL_c,toldC_len,List.length_map,List.length_range]
theorem tolL_one(j m:Nat):∀v∈tolL j m,one v=true:=by rw[tolL_c];exact toldC_one _
theorem QInv.up(h:QInv n r)(hr:r.row≤r.cm):QInv n (qup r):=by
 refine⟨h.ok,h.kl,h.kn,h.len,h.lg,h.vl,h.vt,h.cm,h.kb,h.ck,h.ck4,h.cm8,fun c hc=>h.pd c (List.mem_filter.1 hc).1,Nat.le_trans (List.length_filter_le _ _) h.pl,?_,h.ks,fun c hc=>?_⟩
 ·show(r.td++(List.range (r.cm-r.row)).map fun j=>r.row+1+j).length≤r.cm
  have:=h.td;rw[List.length_append,List.length_map,List.length_range]
  omega
 ·have hc:c∈r.td++(List.range (r.cm-r.row)).map fun j=>r.row+1+j:=hc;rcases List.mem_append.1 hc with g|g
  ·exact h.tdb c g
  ·obtain⟨j,hj,rfl⟩:=List.mem_map.1 g
   have:=List.mem_range.1 hj
   have:=h.cm8;omega
theorem rup_fn(htab:TabAt f)(h3:3≤n)(h11:n≤11)(hodd:n % 2=1)(hI:QInv n r)(hr:r.row≤r.cm):Fn prog 245 [.pointer (some ⟨rb,0,none⟩)] f (repH rb n o x r ws::F) (Ret (.tuple #[]) f (repH rb n o x (qup r) ws::F)):=by
 refine B2 fun⟨⟨lr,wt,lg,ck,pe,rn,wc⟩,pp,pc,tp,tc⟩ _=>?_;have hcm8:=hI.cm8;have hpl:=hI.pl
 have hpdb:=hI.pd;have hdec:=fun G=>rdecided_fn f G (b:=rb) (n:=n) (o:=o) (lg:=r.lg) (pn:=r.pd.length) (pc:=pc) (tn:=r.td.length) (tc:=tc) (ck:=r.ck) (i:=⟨lr,wt,lg,ck,pe,rn,wc⟩) (pp:=pp) (tp:=tp) (kn:=qnth r.kn) (vt:=qnth r.vt) (x:=x) h3 h11 hodd (by have:=hI.lg;omega) (fun o=>by have:=hI.vt8 o;omega)
 have hup:=fun G lp lc=>runUp_fn (lp:=lp) (lc:=lc) f G htab (rb:=rn) (j:=r.row) (k:=r.cm) (x:=x) hr hcm8;have hst:=fun G=>runState_fn f G (rb:=rn) (j:=r.cm) (x:=x) hcm8
 rw[hI.cmt]at hdec;apply (qdN);refine AB func245 ntmps245 fun base=>?_;apply (gA);refine H.box (ls:=[.pointer (some ⟨rb,0,none⟩)]) rfl rfl rfl rfl fun tb=>?_;apply (qgv);apply (qdF);apply (qex);apply A6 [0,1,2,3,4] 7;apply (qdX);apply A7 5;apply (qev);apply (qdH);refine AG rfl rfl rfl (hdec _) fun p1 c1=>?_;apply (qgv);apply (qeW);apply A7 6;apply (qgB);apply A3 (slc p1 _ _ _ _ _);refine AG rfl rfl rfl (hup _ _ _) fun p2 c2=>?_;apply (qgv);apply (qeW);apply A6 [7,8,9,10,11] 0;apply (qfa);refine AN ?_;apply (gA);apply A4 (slc p1 _ _ 34 _ _);apply (qih);apply (qdX);apply A7 6;refine AQ (sz:=5) (p:=tp) (n0:=r.td.length) (c:=tc) (xs:=toldC r.td) (m:=r.cm-r.row) (news:=tolL r.row (r.cm-r.row)) rfl rfl rfl rfl rfl (fun p' c'=>jA) (Src.slcS jA (by rw[tolL_len])) (tolL_one _ _) rfl (by have:=hI.td;omega) (by have:=hI.td;omega) fun p3 c3=>?_;rw[toldC_up];have htl:r.td.length+(r.cm-r.row)=(r.td++(List.range (r.cm-r.row)).map fun i=>r.row+1+i).length:=by rw[List.length_append,List.length_map,List.length_range]
 apply (qgv);apply (qeW);apply (qhV);apply (gO);apply A4 (slc p2 _ _ 136 _ (tolL _ _));apply (qgB);refine C3 (hst _) fun sb=>?_;refine (qgG) fun stb=>?_;apply (gC)
 have hfil:(r.pd.filter fun y=>!decide (y≤r.cm))=r.pd.filter fun c=>Nat.blt r.cm c:=by
  congr 1;funext c;rw[Bool.eq_iff_iff,Nat.blt_eq];simp
 have hdel:=fun G=>delR_fn f G (X:=stars [row tb 59 [.pointer (some ⟨rb,0,none⟩)],row stb 251 [.pointer (some ⟨sb,0,none⟩)],row rb 97 (repC n o ⟨lr,wt,lg,ck,pe,rn,wc⟩ pp r.pd.length pc p3 (r.td.length+(r.cm-r.row)) c3 r.ck),runH rn r.cm x,staH sb r.cm x]) (p:=pp) (c:=pc) (x:=x) (pd:=r.pd) jB (fid:=290) (cs:=[.pointer (some ⟨tb,0,none⟩),.pointer (some ⟨stb,0,none⟩)]) (fun y=>decide (y≤r.cm))
  (fun y hy G=>Fn.wrap (zbd _ _) (rup1_fn f G (i:=⟨lr,wt,lg,ck,pe,rn,wc⟩) (hpdb y hy).1 (hpdb y hy).2) (fun v g B hR=>by obtain⟨rfl,rfl,rfl⟩:=hR;exact⟨_,⟨rfl,rfl,rfl⟩,zbe [_,_,_,_,_] G⟩))
 rw[hfil]at hdel;apply (qdH);apply (qdF);apply (qih);apply (gF);refine EU rfl rfl rfl rfl ?_;apply (qfK);apply (qiZ);apply (qiM);apply (qgB);apply (qdH);apply A3 (row stb _ _);apply (qdF);refine H.imp (zbe [_,_,_,_,_] _) ?_;apply A5 (hdel _);refine H.imp (zbd [_,_,_,_,_] _) ?_;show H _ _ _ _ _ (row tb _ _::row stb _ _::row rb _ _::runH _ _ _::staH _ _ _::slc pp _ _ _ _ _::_) _;apply (qgv);apply (qeW);apply (qhV);apply (qeG);apply A4 (row stb _ _);apply A4 (staH _ _ _);apply A3 (slc p3 _ _ 136 _ _);apply A3 (slc pp _ _ 34 _ _);apply (qdC);rw[htl];refine H.imp (zbb (r:=qup r) ⟨⟨lr,wt,lg,ck,pe,rn,wc⟩,pp,pc,p3,c3⟩) ?_;exact qan
end
def sayV(o:Nat)(x:UInt8)(r:QR):List Value×Bool:=match qbody (o+1) r with
 |some (k,a)=>((mkB x k a).vals none 0,true)
 |none=>(bodK 0 0,false)
theorem sayV_ok(o:Nat)(x:UInt8)(r:QR):(sayV o x r).1.length=76∧∀v∈(sayV o x r).1,one v=true:=by
 unfold sayV;split
 ·exact⟨rfl,zaa rfl⟩
 ·exact⟨rfl,zbn _ _⟩
theorem sayX_V(o:Nat)(x:UInt8)(r:QR)(hc:¬r.ck+4≤r.row):sayX (o+1) x r.lg (qnth r.vt o) r.pd=sayV o x r:=by
 have h:=sayX_q o x r hc;unfold sayV
 cases hq:qbody (o+1) r with
 |none=>rw[hq]at h;exact h
 |some p=>rw[hq]at h;exact h.1
def bod6(k:Int)(dg:Nat→UInt8):List Value:=[.int .u8 6,.int .u64 0,.int .u64 k]++Req.zero.vals++[.slice none 0 0]++b32 dg
theorem sayV_chk(o:Nat)(x:UInt8)(r:QR)(hc:r.ck+4≤r.row):sayV o x r=(bod6 ((r.ck:Nat)+4) (Sha.sum (staBytes x (r.ck+4))),true):=by
 have e:qbody (o+1) r=some (6,r.ck+4):=by
  unfold qbody;rw[Nat.ble_eq_true_of_le hc,cond_true]
 unfold sayV;rw[e];rfl
structure QLook(now:Nat)(r r2:QR):Prop where
 l:r2.l=r.l
 kn:r2.kn=r.kn
 lg:r2.lg=r.lg
 vt:r2.vt=r.vt
 cm:r2.cm=r.cm
 ks:r2.ks=r.ks
 row:r2.row=r.row
 pd:r2.pd=r.pd
 td:r2.td=r.td
 ck:r2.ck=r.ck
variable {r2:QR}
theorem qlook_is(h:qlook now r=some r2):QLook now r r2:=by
 unfold qlook at h
 cases h1:r.pd.isEmpty with
 |true=>rw[h1,cond_true]at h;cases h;exact⟨rfl,rfl,rfl,rfl,rfl,rfl,rfl,rfl,rfl,rfl⟩
 | false =>
  rw[h1,cond_false]at h
  cases h2:(Nat.blt r.done r.row|| !r.runs)with
  |true=>rw[h2,cond_true]at h;cases h;exact⟨rfl,rfl,rfl,rfl,rfl,rfl,rfl,rfl,rfl,rfl⟩
  | false =>
   rw[h2,cond_false]at h
   cases h3:Nat.ble r.fin now with
   |true=>rw[h3]at h;cases h
   |false=>rw[h3,cond_false]at h;cases h;exact⟨rfl,rfl,rfl,rfl,rfl,rfl,rfl,rfl,rfl,rfl⟩
theorem QLook.inv(t:QLook now r r2)(h:QInv n r):QInv n r2:=by
 obtain⟨e1,e2,e3,e4,e5,e6,e7,e8,e9,e10⟩:=t;obtain⟨a1,a2,a3,a4,a5,a6,a7,a8,a9,b1,b2,b3,b4,b5,b6,b7,b8⟩:=h;constructor<;>simp only[e1,e2,e3,e4,e5,e6,e7,e8,e9,e10]<;>assumption
variable {wc:Nat}
section
variable (f:Frag) (F:List HP)
theorem look_fn(hn:now≤4611686018427387904)(h:qlook now r=some r2):Fn prog 292 [.pointer (some ⟨wc,0,none⟩),.int .u64 (now:Nat),.bool (decide ((0:Int)<(r.pd.length:Nat))),.bool true,.int .u64 (r.row:Nat),.int .u64 0] f (row wc 258 (watC r.runs r.fin r.done)::F)
  (Ret (.int .u64 0) f (row wc 258 (watC r2.runs r2.fin r2.done)::F)):=by
 unfold qlook at h
 cases h1:r.pd.isEmpty with
 | true =>
  rw[h1,cond_true]at h;cases h
  rw[List.isEmpty_iff.1 h1];exact look0_fn f F hn
 | false =>
  have hp:r.pd≠[]:=fun e=>by rw[e]at h1;cases h1
  have hl:=List.length_pos_iff.2 hp;rw[h1,cond_false]at h
  rw[decide_eq_true (show(0:Int)<(r.pd.length:Nat) by omega)]
  cases h2:Nat.blt r.done r.row with
  | true =>
   rw[h2,Bool.true_or,cond_true]at h;cases h
   exact look1_fn f F hn (by rw[Nat.blt_eq]at h2;exact h2)
  | false =>
   have h2':¬r.done<r.row:=by rw[←Nat.blt_eq,h2];decide
   rw[h2,Bool.false_or]at h
   cases h3:r.runs with
   | false =>
    rw[h3]at h;cases h
    exact look2_fn f F hn h2'
   | true =>
    rw[h3,Bool.not_true,cond_false]at h
    cases h4:Nat.ble r.fin now with
    |true=>rw[h4]at h;cases h
    | false =>
     rw[h4,cond_false]at h;cases h
     have h4':¬r.fin≤now:=by rw[←Nat.ble_eq,h4];decide
     exact look3_fn f F hn h2' jB
theorem rsay_fn(htab:TabAt f)(h3:3≤n)(h11:n≤11)(hodd:n % 2=1)(ho:o<n)(hn:now≤4611686018427387904)(hI:QInv n r)(hl:qlook now r=some r2):Fn prog 246 [.pointer (some ⟨rb,0,none⟩),.int .u64 (now:Nat)] f (repH rb n o x r ws::F) (Ret (.tuple #[.agg (sayV o x r2).1.toArray,.bool (sayV o x r2).2]) f (repH rb n o x r2 ws::F)):=by
 have t:=qlook_is hl;have hI2:=t.inv hI
 have hlk:=fun G wc=>look_fn (wc:=wc) f G hn hl;have hrow:=hI.row
 have hpl:=hI.pl;have hck:=hI.ck
 have hsv:=sayV_ok o x r2;refine B2 fun⟨⟨lr,wt,lg,ck,pe,rn,wc⟩,pp,pc,tp,tc⟩ _=>?_
 have hgr:=fun G=>rgreat_fn f G (b:=rb) (o:=o) (lg:=r.lg) (pn:=r.pd.length) (pc:=pc) (tn:=r.td.length) (tc:=tc) (ck:=r.ck) (i:=⟨lr,wt,lg,ck,pe,rn,wc⟩) (pp:=pp) (tp:=tp) (kn:=qnth r.kn) (vt:=qnth r.vt) (x:=x) h11 ho;have hrd:=fun G=>rready_fn f G (b:=rb) (o:=o) (lg:=r.lg) (pn:=r.pd.length) (pc:=pc) (tn:=r.td.length) (tc:=tc) (ck:=r.ck) (i:=⟨lr,wt,lg,ck,pe,rn,wc⟩) (pp:=pp) (tp:=tp) (kn:=qnth r.kn) (vt:=qnth r.vt) (x:=x) h3 h11 ho
 have hcn:=fun G=>runCountH_fn f G (rb:=rn) (j:=r.row) (x:=x) jB;have hjn:=fun G=>join_fn f G (lb:=lg) (n:=n) (lg:=r.lg) (i:=o+1) (kn:=qnth r.kn) (vt:=qnth r.vt) (x:=x) h3 h11 hodd jB jB
 have hfo:=zbb (rb:=rb) (n:=n) (o:=o) (x:=x) (r:=r2) (ws:=ws) (F:=F) ⟨⟨lr,wt,lg,ck,pe,rn,wc⟩,pp,pc,tp,tc⟩;unfold repB at hfo
 rw[t.l,t.kn,t.lg,t.vt,t.ks,t.row,t.pd,t.td,t.ck]at hfo;apply (qdN);refine A9 func246 ntmps246 fun base=>?_;refine (qfV) fun ob=>?_;apply (gG);apply (qdH);apply (qea);apply A6 [0,2,3,4,5] 4;apply (qdX);apply A7 1;apply (qev);apply (qdH);apply A5 (hgr _);apply (qeL);apply A7 6;apply (qgB);apply A5 (hcn _);apply (qeL);apply A6 [7,8] 0;apply (qdP);apply (qgv);apply (qea);apply A6 [0,1,2,3,4,5,6,7,8,9,10,11,13,14,16,17,18,19,20,21,22,23,24,25,26,27] 5;apply (qfq);apply A7 12;apply (qev);apply (qdH);apply A5 (hrd _);apply (qeL);apply A7 15;apply A3 (row wc _ _);apply A5 (hlk _ _);apply (qeL);apply A7 28;apply (qev);apply A5 (hjn _);apply (qeL);apply A6 [29,30] 0;refine HQ.max2 (z:=0) rfl rfl rfl rfl rfl ?_;apply (qdP);apply (gS);by_cases hc:r.ck+4≤r.row
 ·obtain⟨m,hm⟩:∃m,r.ck+4=4*(m+1):=⟨r.ck / 4,by have:=hI.ck4;omega⟩;have hdg:=fun G=>runDigest_fn f G (rb:=rn) (j:=r.row) (m:=m) (x:=x) jB jB;have e:((4*(m+1):Nat):Int)=((r.ck:Nat):Int)+4:=jB
  rw[e,←hm]at hdg;have hV:=sayV_chk o x r2 (by rw[t.ck,t.row];exact hc);rw[t.ck]at hV
  rw[hV];generalize Sha.sum (staBytes x (r.ck+4))=dg at hdg;apply (gS);apply (qgB);apply A5 (hdg _);apply (gO);refine (qfv) fun db=>?_;refine AC (ls:=zb 32) (vs:=b32 dg) (ls':=b32 dg) rfl rfl rfl (zaa rfl) rfl rfl (Nat.le_refl 32) jA ?_;apply (gG);refine AD (ls:=b32 dg) rfl rfl rfl (Rd.ofRow jA) rfl rfl ?_;refine AT (out:=bod6 ((r.ck:Nat)+4) dg) rfl rfl rfl jD rfl ?_;refine AC (ls:=bodZ) (vs:=bod6 ((r.ck:Nat)+4) dg) (ls':=bod6 ((r.ck:Nat)+4) dg) rfl rfl rfl (zaa rfl) rfl rfl (Nat.le_refl 76) jA ?_;apply (gK);apply A4 (row db _ _);apply (qdC);apply (qed);exact B5 (ls:=bod6 ((r.ck:Nat)+4) dg) rfl rfl rfl rfl (Rd.ofRow aP0) rfl (fun _ s=>(s.drop (.here _ _)).imp hfo) ⟨rfl,rfl,rfl⟩
 ·have hnx:=fun G=>dunext_fn f G htab (lb:=lg) (n:=n) (lg:=r.lg) (o:=o) (pc:=pc) (kn:=qnth r.kn) (vt:=qnth r.vt) (x:=x) (pp:=pp) (pd:=r.pd) h3 h11 hodd ho hI.pd jB (by have:=hI.lg;omega) (by have:=hI.vt8 o;omega);have hX:=sayX_V o x r2 (by rw[t.ck,t.row];exact hc)
  rw[t.lg,t.vt,t.pd]at hX;rw[hX]at hnx;generalize sayV o x r2=sv at hsv hnx;obtain⟨sv,sb⟩:=sv;obtain⟨hsl,hso⟩:=hsv;have hsl:sv.length=76:=hsl;have hso:∀v∈sv,one v=true:=hso
  have hset:splice bodZ 0 sv=sv:=qcr
  apply (gN);apply (qdH);apply (qea);apply A6 [0,1,2,3,4,5,6,7,8,9,10,11,12,13,14,15,16] 5;apply (qdX);apply A7 17;apply (qev);apply (qiZ);apply A5 (hnx _);apply (qeL);apply A6 [18,19] 2;apply (qfa);apply A7 20;apply (qjh);apply (qeL);apply A6 [21] 0;apply (qgJ);apply (qiZ);apply (qdC);apply (qed);exact B5 (ls:=sv) rfl rfl rfl rfl (Rd.ofRow aP0) hsl (fun _ s=>(s.drop (.here _ _)).imp hfo) ⟨rfl,rfl,rfl⟩
def nxtV(o:Nat)(x:UInt8)(r:QR):Value:=match qbody (o+1) r with
 |some (k,a)=>.tuple #[.agg ((mkR x {o:=o+1,num:=qnth r.kn o+1,k:=k,a:=a,d:=r.kn}).vals none 0).toArray,.bool true]
 |none=>.tuple #[.agg (msgZ.vals none 0).toArray,.bool false]
def nxtL(o:Nat)(kn:List Nat)(sv:List Value):List Value:=[Value.int .i64 ((o+1:Nat):Int),.int .u64 ((qnth kn o:Nat)+1)]++v11 (qnI kn)++sv++b32 noTag
theorem nxtV_is(o:Nat)(x:UInt8)(r:QR):nxtV o x r=if(sayV o x r).2=true then .tuple #[.agg (nxtL o r.kn (sayV o x r).1).toArray,.bool true]else .tuple #[.agg (msgZ.vals none 0).toArray,.bool false]:=by
 unfold nxtV sayV
 cases qbody (o+1) r with
 |none=>rfl
 |some p=>rfl
theorem sayV_ex(h:(sayV o x r).2=true):∃k a,(sayV o x r).1=(mkB x k a).vals none 0:=by
 unfold sayV at h⊢
 cases hq:qbody (o+1) r with
 |none=>rw[hq]at h;cases h
 |some p=>exact⟨p.1,p.2,rfl⟩
theorem rnext_fn(htab:TabAt f)(h3:3≤n)(h11:n≤11)(hodd:n % 2=1)(ho:o<n)(hn:now≤4611686018427387904)(hI:QInv n r)(hr:r.row≤r.cm)(hl:qlook now (qup r)=some r2):Fn prog 173 [.pointer (some ⟨rb,0,none⟩),.int .u64 (now:Nat)] f (repH rb n o x r ws::F) (Ret (nxtV o x r2) f (repH rb n o x r2 ws::F)):=by
 have hup:=fun G=>rup_fn f G htab (rb:=rb) (o:=o) (x:=x) (ws:=ws) h3 h11 hodd hI hr;have hsy:=fun G=>rsay_fn f G htab (rb:=rb) (o:=o) (x:=x) (ws:=ws) h3 h11 hodd ho hn (hI.up hr) hl
 have hI2:=(qlook_is hl).inv (hI.up hr);have hsv:=sayV_ok o x r2
 have hkb:=qnth_le hI2.kb o;have hex:=sayV_ex (o:=o) (x:=x) (r:=r2)
 rw[nxtV_is];generalize sayV o x r2=sv at hsv hsy hex⊢;obtain⟨sv,sb⟩:=sv;obtain⟨hsl,hso⟩:=hsv;have hsl:sv.length=76:=hsl;have hso:∀v∈sv,one v=true:=hso
 have hset:splice bodZ 0 sv=sv:=qcr
 refine A9 func173 ntmps173 fun base=>?_;apply (gA);refine (qfm) fun ob=>?_;apply (gR);apply (qec);apply A5 (hup _);apply (gG);apply A5 (hsy _);apply (gO);refine AJ (ls:=bodZ) rfl rfl rfl fun bb=>?_;apply (qjh);apply (qkh);refine AM fun⟨⟨lr,wt,lg,ck,pe,rn,wc⟩,pp,pc,tp,tc⟩ _=>?_;have hkn:=fun G=>lknown0_fn f G (lb:=lr) (n:=n) (ms:=r2.l.map (mkM x));rw[show knownS (strm (r2.l.map (mkM x)))=qnI r2.kn from funext (hI2.known x)]at hkn
 show H _ _ _ _ f (row rb _ (repC n o _ pp r2.pd.length pc tp r2.td.length tc r2.ck)::loQ lr n _::waQ wt ws::lgH lg n _ _ _ x::chkH ck n _::row pe _ _::runH rn _ x::row wc _ _::slc pp _ pc _ _ _::slc tp _ tc _ _ _::row bb _ sv::row ob _ _::F) _;apply (gO);apply (qgy);apply A5 (hkn _);refine (qjJ) fun vb=>?_;refine AC (ls:=v11 fun _=>0) (vs:=v11 (qnI r2.kn)) (ls':=v11 (qnI r2.kn)) rfl rfl rfl (zaa rfl) rfl rfl (Nat.le_refl 11) aP0 ?_;apply (gL);refine CI (i:=o) rfl rfl rfl jB jB rfl ?_;refine AL (v:=.int .u64 (qnth r2.kn o:Nat)) rfl rfl rfl (.of (Rd.ofRow jA) (by rw[Nat.mul_one];exact zbq _ jB)) rfl ?_
 cases sb with
 | false =>
  rw[if_neg (show¬((false:Bool)=true) by decide)];apply (qeN);apply (qgn);apply (qfT);exact B5 (ls:=msgZ.vals none 0) rfl rfl rfl rfl (Rd.ofRow aP0) rfl (fun _ s=>s.drop (.here _ _)) ⟨rfl,rfl,rfl⟩
 | true =>
  rw[if_pos rfl];apply (qdI);obtain⟨k,a,e⟩:=hex rfl;have e:sv=(mkB x k a).vals none 0:=e;subst e
  apply (qeS);apply (qku);apply (qdH);apply (qgs);apply A6 [0,1,2,3,4,5,6,7] 2;apply (gF);refine AH (ls:=v11 (qnI r2.kn)) rfl rfl rfl (Rd.ofRow jA) rfl rfl ?_;refine AH (ls:=(mkB x k a).vals none 0) rfl rfl rfl (Rd.ofRow jA) rfl rfl ?_;apply (qfq);apply A7 8;refine AC (ls:=msgZ.vals none 0) (vs:=nxtL o r2.kn ((mkB x k a).vals none 0)) (ls':=nxtL o r2.kn ((mkB x k a).vals none 0)) rfl rfl rfl (zaa rfl) rfl rfl (Nat.le_refl 121) jA ?_;apply (gA);apply (qeS);apply (qku);apply (qdH);apply (qdO);apply A6 [9] 0;apply (qdP);apply (qfT);exact B5 (ls:=nxtL o r2.kn ((mkB x k a).vals none 0)) rfl rfl rfl rfl (Rd.ofRow aP0) rfl (fun _ s=>s.drop (.here _ _)) ⟨rfl,rfl,rfl⟩
end
theorem any_elem(a:Nat):∀l:List Nat,(l.any fun y=>decide (y=a))=l.elem a
 | []=>rfl
 | y :: l => by
  rw[List.any_cons,any_elem a l,List.elem_cons]
  by_cases e:a=y
  ·subst e;simp
  ·rw[show(a == y)=false from beq_eq_false_iff_ne.2 e,decide_eq_false (fun h=>e h.symm)];rfl
variable {args:List Value}
theorem Em{x:HP}(hp:Pull A x A')(h:Fn P fid args f (x::A') (Ret v f (x::A'))):Fn P fid args f A (Ret v f A):=
 Fn.wrap (fun z hz=>by rw[hp.eq]at hz;exact hz) h fun v g B hR=>by
  obtain⟨rfl,rfl,rfl⟩:=hR
  exact⟨_,⟨rfl,rfl,rfl⟩,fun z hz=>by rw[hp.eq];exact hz⟩
variable {X:Option Addr→Nat→HP} {V:Option Addr→Nat→Value}
theorem En{x:HP}(hp:Pull A x A')(h:Fn P fid args f (x::A') (fun u g B=>∃p c,u=V p c∧g=f∧B=X p c::x::A')):Fn P fid args f A (fun u g B=>∃p c,u=V p c∧g=f∧B=X p c::A):=
 Fn.wrap (fun z hz=>by rw[hp.eq]at hz;exact hz) h fun v g B hR=>by
  obtain⟨p,c,rfl,rfl,rfl⟩:=hR
  refine⟨_,⟨p,c,rfl,rfl,rfl⟩,fun z hz=>?_⟩
  obtain⟨m1,m2,h1,h2,h3,h4⟩:=hz
  exact⟨m1,m2,h1,h2,h3,by rw[hp.eq];exact h4⟩
theorem FR{B B':List HP}(h:Fn P fid args f A (fun u g C=>∃p c,u=V p c∧g=f∧C=X p c::B))(hx:∀x,stars B x→stars B' x):Fn P fid args f A (fun u g C=>∃p c,u=V p c∧g=f∧C=X p c::B'):=
 Fn.monoA h fun _ _ _ r=>by
  obtain⟨p,c,rfl,rfl,rfl⟩:=r
  refine⟨_,⟨p,c,rfl,rfl,rfl⟩,fun z hz=>?_⟩
  obtain⟨m1,m2,h1,h2,h3,h4⟩:=hz
  exact⟨m1,m2,h1,h2,h3,hx _ h4⟩
section
variable (f:Frag) (F:List HP)
theorem rknown_fn(hI:QInv n r):Fn prog 77 [.pointer (some ⟨rb,0,none⟩)] f (repH rb n o x r ws::F) (Ret (.agg (v11 (qnI r.kn)).toArray) f (repH rb n o x r ws::F)):=by
 refine B2 fun⟨⟨lr,wt,lg,ck,pe,rn,wc⟩,pp,pc,tp,tc⟩ _=>?_;have hkn:=fun G=>lknown0_fn f G (lb:=lr) (n:=n) (ms:=r.l.map (mkM x));rw[show knownS (strm (r.l.map (mkM x)))=qnI r.kn from funext (hI.known x)]at hkn
 apply (qdN);refine AB func77 ntmps77 fun base=>?_;apply (gA);refine (qjJ) fun ob=>?_;apply (gT);apply (qgy);apply A5 (hkn _);refine AC (ls:=v11 fun _=>0) (vs:=v11 (qnI r.kn)) (ls':=v11 (qnI r.kn)) rfl rfl rfl (zaa rfl) rfl rfl (Nat.le_refl 11) jA ?_;apply (gK);apply (qdH);apply (qed);exact BS rfl rfl rfl (Rd.ofRow aP0) rfl (fun _ s=>(s.drop (.here _ _)).imp (zbb (r:=r) ⟨⟨lr,wt,lg,ck,pe,rn,wc⟩,pp,pc,tp,tc⟩)) ⟨rfl,rfl,rfl⟩
theorem rtold_fn:Fn prog 180 [.pointer (some ⟨rb,0,none⟩)] f (repH rb n o x r ws::F)
  (fun v g B=>∃(p:Option Addr) (c:Nat),v= .slice p r.td.length c∧g=f∧B=slc p r.td.length c 136 5 (toldC r.td)::repH rb n o x {r with td:=[]} ws::F):=by
 refine B2 fun⟨⟨lr,wt,lg,ck,pe,rn,wc⟩,pp,pc,tp,tc⟩ _=>?_;apply (qdN);refine AB func180 ntmps180 fun base=>?_;apply (gS);refine AY 136 5 ?_;apply A3 (slc pp _ _ 34 _ _);apply (qdC);refine H.imp (zbb (r:={r with td:=[]}) ⟨⟨lr,wt,lg,ck,pe,rn,wc⟩,pp,pc,none,0⟩) ?_;apply A3 (slc tp _ _ 136 _ _);exact AU ⟨tp,tc,rfl,rfl,rfl⟩
theorem rstable_fn(h11:n≤11):Fn prog 26 [.pointer (some ⟨rb,0,none⟩)] f (repH rb n o x r ws::F) (RetP (stR n (cms n x r.l)) stV f (fun _=>repH rb n o x r ws::F)):=by
 refine B2 fun⟨⟨lr,wt,lg,ck,pe,rn,wc⟩,pp,pc,tp,tc⟩ _=>?_;apply (qdN);refine AB func26 ntmps26 fun base=>?_;apply (gG);refine (qfv) fun ob=>?_;apply (gT);apply (qjt);refine DG rfl rfl rfl (cst_fn f _ h11) fun⟨k,d⟩ hst=>?_;show H _ _ _ ((_,.tuple #[.int .u64 k,encD d])::_) _ _ _;apply (gO)
 refine AC (ls:=zb 32) (vs:=dV d) (ls':=dV d) rfl rfl rfl (zao _) (dV_len d) (by
  unfold splice
  rw[List.take_zero,List.drop_eq_nil_of_le (by rw[Nat.zero_add,dV_len];exact Nat.le_refl 32)];simp) (by rw[dV_len];exact Nat.le_refl 32) jA ?_
 apply (gK);apply (qiW);apply (qed);exact Ej (ls:=dV d) rfl rfl rfl rfl (Rd.ofRow aP0) (dV_len d) (fun _ s=>(s.drop (.here _ _)).imp (zbb (r:=r) ⟨⟨lr,wt,lg,ck,pe,rn,wc⟩,pp,pc,tp,tc⟩)) ⟨(k,d),hst,rfl,rfl,rfl⟩
theorem rgreatH_fn(h11:n≤11)(ho:o<n):Fn prog 12 [.pointer (some ⟨rb,0,none⟩)] f (repH rb n o x r ws::F) (Ret (.int .u64 0) f (repH rb n o x r ws::F)):=by
 refine (qfu) fun a _=>?_;refine CX (B:=repB rb n o x r ws a++F) ?_ (zbb a);obtain⟨⟨lr,wt,lg,ck,pe,rn,wc⟩,pp,pc,tp,tc⟩:=a;show Fn _ _ _ f (row rb _ (repC n o _ pp r.pd.length pc tp r.td.length tc r.ck)::loQ lr n _::waQ wt ws::lgH lg n _ _ _ x::chkH ck n _::row pe _ _::runH rn _ x::row wc _ _::slc pp _ pc _ _ _::slc tp _ tc _ _ _::F) (Ret _ f (row rb _ (repC n o _ pp r.pd.length pc tp r.td.length tc r.ck)::loQ lr n _::waQ wt ws::lgH lg n _ _ _ x::chkH ck n _::row pe _ _::runH rn _ x::row wc _ _::slc pp _ pc _ _ _::slc tp _ tc _ _ _::F));refine Em (x:=lgH _ _ _ _ _ _) jA ?_;refine Em (x:=row rb _ _) jA ?_;exact rgreat_fn f _ h11 ho
theorem rdecH_fn(h3:3≤n)(h11:n≤11)(hodd:n % 2=1)(hI:QInv n r):Fn prog 17 [.pointer (some ⟨rb,0,none⟩)] f (repH rb n o x r ws::F)
  (fun u g B=>∃(p:Option Addr) (c:Nat),u= .slice p r.cm c∧g=f∧B=slc p r.cm c 34 40 ((qrow x r.cm).flatMap Req.vals)::repH rb n o x r ws::F):=by
 refine (qfu) fun a _=>?_;refine FR (V:=fun p c=>.slice p r.cm c) (X:=fun p c=>slc p r.cm c 34 40 ((qrow x r.cm).flatMap Req.vals)) (B:=repB rb n o x r ws a++F) ?_ (zbb a);obtain⟨⟨lr,wt,lg,ck,pe,rn,wc⟩,pp,pc,tp,tc⟩:=a;show Fn _ _ _ f (row rb _ (repC n o _ pp r.pd.length pc tp r.td.length tc r.ck)::loQ lr n _::waQ wt ws::lgH lg n _ _ _ x::chkH ck n _::row pe _ _::runH rn _ x::row wc _ _::slc pp _ pc _ _ _::slc tp _ tc _ _ _::F) (fun u g B=>∃p c,u=_∧g=f∧B=slc p _ c _ _ _::row rb _ (repC n o _ pp r.pd.length pc tp r.td.length tc r.ck)::loQ lr n _::waQ wt ws::lgH lg n _ _ _ x::chkH ck n _::row pe _ _::runH rn _ x::row wc _ _::slc pp _ pc _ _ _::slc tp _ tc _ _ _::F);refine En (V:=fun p c=>.slice p r.cm c) (X:=fun p c=>slc p r.cm c 34 40 ((qrow x r.cm).flatMap Req.vals)) (x:=lgH _ _ _ _ _ _) jA ?_;refine En (V:=fun p c=>.slice p r.cm c) (X:=fun p c=>slc p r.cm c 34 40 ((qrow x r.cm).flatMap Req.vals)) (x:=row rb _ _) jA ?_;have h:=rdecided_fn f (loQ lr n (r.l.map (mkM x))::waQ wt ws::chkH ck n (cms n x r.l)::row pe 266 (peC n (ksV r.ks))::runH rn r.row x::row wc 258 (watC r.runs r.fin r.done)::slc pp r.pd.length pc 34 40 (r.pd.flatMap (pndV x))::slc tp r.td.length tc 136 5 (toldC r.td)::F) (b:=rb) (n:=n) (o:=o) (lg:=r.lg) (pn:=r.pd.length) (pc:=pc) (tn:=r.td.length) (tc:=tc) (ck:=r.ck) (i:=⟨lr,wt,lg,ck,pe,rn,wc⟩) (pp:=pp) (tp:=tp) (kn:=qnth r.kn) (vt:=qnth r.vt) (x:=x) h3 h11 hodd (by have:=hI.lg;omega) (fun o=>by have:=hI.vt8 o;omega);rw[hI.cmt]at h
 exact h
theorem rask1_fn{qb:Nat}:Fn prog 240 ([]++[.agg (pndV x y).toArray]++[.pointer (some ⟨qb,0,none⟩)]) f (row qb 34 (reqL x a (qS x a).tag)::F) (Ret (.bool (decide (y=a))) f (row qb 34 (reqL x a (qS x a).tag)::F)):=by
 by_cases e:y=a
 ·refine A9 func240 ntmps240 fun base=>?_;apply (gA);refine H.box (ls:=reqL x y (qS x y).tag) rfl rfl rfl rfl fun tb=>?_;apply (gS);apply (qeG);refine AE rfl rfl iD ⟨?_,rfl,rfl⟩;rw[decide_eq_true e];first
  |rfl
  |(congr 1;simp)
 ·refine A9 func240 ntmps240 fun base=>?_;apply (gA);refine H.box (ls:=reqL x y (qS x y).tag) rfl rfl rfl rfl fun tb=>?_;apply (gS);apply (qeG);refine AE rfl rfl iD ⟨?_,rfl,rfl⟩;rw[decide_eq_false e]
theorem rask_fn(htab:TabAt f)(h3:3≤n)(h11:n≤11)(h1:1≤a)(h8:a≤8)(hI:QInv n r):Fn prog 170 [.pointer (some ⟨rb,0,none⟩),.agg (pndV x a).toArray] f (repH rb n o x r ws::F)
   (Ret (.tuple #[.agg (if a≤r.row then toldV (a:Nat)else [.int .i64 0,.int .u64 0,.int .i64 0,.string .empty,.int .u64 0]).toArray,.bool (decide (a≤r.row))]) f (repH rb n o x (if a≤r.row∨r.pd.elem a=true then r else {r with pd:=r.pd++[a]}) ws::F)):=by
 have hrow:=hI.row;have hpl:=hI.pl
 refine B2 fun⟨⟨lr,wt,lg,ck,pe,rn,wc⟩,pp,pc,tp,tc⟩ _=>?_;have hrp:=fun G=>runReply_fn f G (rb:=rn) (j:=r.row) (x:=x) h1;apply (qdN)
 by_cases hak:a≤r.row
 ·rw[if_pos (show a≤r.row∨r.pd.elem a=true from .inl hak),if_pos hak,decide_eq_true hak];rw[if_pos hak,decide_eq_true hak]at hrp;refine A9 func170 ntmps170 fun base=>?_;refine (qho) fun qb=>?_;refine (qeo) fun ob=>?_;apply (qeP);refine AC (ls:=[.int .i64 0,.int .u64 0,.int .i64 0,.string .empty,.int .u64 0]) (vs:=toldV (a:Nat)) (ls':=toldV (a:Nat)) rfl rfl rfl (zaa rfl) rfl rfl (Nat.le_refl 5) jA ?_;apply (qep);apply (qkb);apply (gR);refine AD (ls:=toldV (a:Nat)) rfl rfl rfl (Rd.ofRow jA) rfl rfl ?_;refine AC (ls:=toldV (a:Nat)) (vs:=toldV (a:Nat)) (ls':=toldV (a:Nat)) rfl rfl rfl (zaa rfl) rfl rfl (Nat.le_refl 5) jA ?_;apply (gK);apply (qfs);apply (qhn);apply (qed);exact B5 (ls:=toldV (a:Nat)) rfl rfl rfl rfl (Rd.ofRow aP0) rfl (fun _ s=>s.drop (.here _ _)) ⟨rfl,rfl,rfl⟩
 ·rw[if_neg hak,decide_eq_false hak];rw[if_neg hak,decide_eq_false hak]at hrp;have hau:=fun G=>auth_fn f G htab (qS x a);rw[qS_auth x h1 h8]at hau
  have hst:=fun G=>runState_fn f G (rb:=rn) (j:=r.row) (x:=x) hrow;have hlt:=fun G sb=>rlate_fn f G (sb:=sb) (j:=r.row) (x:=x) h1 h8
  have hhas:=fun G qb=>hasR_fn f G (X:=row qb 34 (reqL x a (qS x a).tag)) (p:=pp) (c:=pc) (x:=x) (pd:=r.pd) jB (fid:=240) (cs:=[.pointer (some ⟨qb,0,none⟩)]) (fun y=>decide (y=a)) (fun y _ G=>rask1_fn f G);rw[any_elem]at hhas
  by_cases hin:r.pd.elem a=true
  ·rw[if_pos (show a≤r.row∨r.pd.elem a=true from .inr hin)];rw[hin]at hhas;refine A9 func170 ntmps170 fun base=>?_;refine (qho) fun qb=>?_;refine (qeo) fun ob=>?_;apply (qhj);apply (qfB);apply (qjf);apply (qdG);apply A7 7;apply (qgB);refine C3 (hst _) fun sb=>?_;apply (qfj);apply (gE);apply A4 (staH _ _ _);apply (qeb);apply (gK);apply (qfs);apply (qhn);exact qbr
  ·rw[if_neg (show¬(a≤r.row∨r.pd.elem a=true)from fun h=>h.elim hak hin)];have hinf:r.pd.elem a=false:=by cases h:r.pd.elem a<;>simp_all
   rw[hinf]at hhas;refine A9 func170 ntmps170 fun base=>?_;refine (qho) fun qb=>?_;refine (qeo) fun ob=>?_;apply (qhj);apply (qfB);apply (qjf);apply (qdG);apply A7 7;apply (qgB);refine C3 (hst _) fun sb=>?_;apply (qfj);apply (gN);apply A4 (staH _ _ _);apply (qdR);apply (qdH);apply (qfU);apply (qfB);apply (qfK);refine AS (out:=pndV x a) rfl rfl rfl rfl jE jE jD rfl fun eb=>?_;apply (qep);apply A7 7;refine AQ (sz:=40) (p:=pp) (n0:=r.pd.length) (c:=pc) (xs:=r.pd.flatMap (pndV x)) (m:=1) (news:=pndV x a) rfl rfl rfl rfl rfl (fun p' c'=>jA) (Src.slice (Rd.ofRow jA) rfl) (zaa rfl) rfl jB jB fun pp2 pc2=>?_;apply (qeZ);rw[show r.pd.flatMap (pndV x)++pndV x a=(r.pd++[a]).flatMap (pndV x) by rw[List.flatMap_append];simp];apply (qep);apply (qgj);apply (qeI);apply (gJ);apply (qeb);apply (gK);apply (qfs);rw[show r.pd.length+1=(r.pd++[a]).length by simp];apply (qeH);refine H.imp (zbb (r:={r with pd:=r.pd++[a]}) ⟨⟨lr,wt,lg,ck,pe,rn,wc⟩,pp2,pc2,tp,tc⟩) ?_;exact qbr
end
def frz(g:Frag):HP:=fun h=>h=g
def netQ(nb:Nat)(cs:List Core):HP:=pack (fun i:Frag×NetM=>i.2.core=⟨cs,fun _=>false⟩) (fun i=>[netH i.1 nb i.2,frz i.1])
variable {cs:List Core}
theorem netQ_fold(h:N.core=⟨cs,fun _=>false⟩):∀z,stars (netH g nb N::frz g::F) z→stars (netQ nb cs::F) z:=
 zap (φ:=fun i:Frag×NetM=>i.2.core=⟨cs,fun _=>false⟩) (B:=fun i=>[netH i.1 nb i.2,frz i.1]) (g,N) h
theorem stars_swap{a b:HP}:∀z,stars (a::b::F) z→stars (b::a::F) z:=fun z hz=>by
 have:=(Pull.there a (Pull.here F b)).eq
 rw[this]at hz
 exact hz
section
variable (f:Frag) (F:List HP)
theorem netNew0_fn:Fn prog 27 [] f F (RetE (fun nb=>.pointer (some ⟨nb,0,none⟩)) f (fun nb=>netQ nb []::F)):=by
 refine El (netNew_fn f F nil0) ?_;rintro v f' A' ⟨nb,rfl,rfl,rfl⟩;exact⟨_,nil0,frz nil0,_,(un_nil _).symm,rfl,Dj.nil _,⟨nb,rfl,rfl,rfl⟩,fun z hz=>netQ_fold (g:=nil0) (N:=NetM.new) rfl z (stars_swap z hz)⟩
theorem netLen0_fn:Fn prog 132 [.pointer (some ⟨nb,0,none⟩)] f (netQ nb cs::F) (Ret (.int .i64 (cs.length:Nat)) f (netQ nb cs::F)):=by
 refine B2 fun⟨g,N⟩ hN=>?_;have hN:N.core=⟨cs,fun _=>false⟩:=hN;have hl:N.row.length=cs.length:=by rw[←NetM.core_len,hN]
 rw[←hl];exact CX (netLen_fn f _ g nb N) (netQ_fold hN)
theorem netHeal0_fn:Fn prog 124 [.pointer (some ⟨nb,0,none⟩)] f (netQ nb cs::F) (Ret (.tuple #[]) f (netQ nb cs::F)):=by
 refine B2 fun⟨g,N⟩ hN=>?_;have hN:N.core=⟨cs,fun _=>false⟩:=hN;refine CX (netHeal_fn f _ g nb N) (netQ_fold ?_)
 show(⟨N.row.map Pkt.core,fun _=>false⟩:NetC)=_;rw[show N.row.map Pkt.core=cs from congrArg NetC.row hN]
theorem netPut0_fn{p:Pkt}(hp:p.Good f)(hm:p.core.may=true)(hl:cs.length<256):Fn prog 117 [.pointer (some ⟨nb,0,none⟩),.agg p.vals.toArray] f (netQ nb cs::F) (Ret (.int .i64 0) f (netQ nb (cs++[p.core])::F)):=by
 refine B2 fun⟨g,N⟩ hN=>?_;have hN:N.core=⟨cs,fun _=>false⟩:=hN;refine Fn.front (x:=frz g) (.there _ (.here _ _)) ?_
 refine Fn.freeze fun g' hg' hd=>?_;obtain rfl:g'=g:=hg'
 have hput:(⟨cs,fun _=>false⟩:NetC).put p.core=(0,⟨cs++[p.core],fun _=>false⟩):=by
  unfold NetC.put NetC.push;rw[if_pos hm];show(if(false=true)then _ else _)=_;rw[if_neg jE,if_neg (by show¬256≤cs.length;omega)]
 have hle:Le g' (un f g'):=fun k o hk=>by
  exact qbK
 have h:=netPut_fn (un f g') F g' nb N hle (hp.mono (Le.un f g'));rw[hN,hput]at h
 refine El h ?_;rintro v f' A' ⟨g2,N2,rfl,hN2,hd2,rfl,rfl⟩;refine⟨f,un g' g2,frz (un g' g2),_,un_assoc f g' g2,rfl,Dj.un3 hd hd2,⟨rfl,rfl,rfl⟩,fun z hz=>netQ_fold hN2 z (stars_swap z hz)⟩
end
def coreQ(x:UInt8)(p:QP):Core:=⟨(p.src:Nat),(p.to:Nat),qnI p.kn,p.ms.map (mkM x)⟩
def pkM(pks:List Pkt):HP:=stars (pks.map fun k=>msL k.mp k.mc k.msgs)
variable {pks:List Pkt} {G:List HP}
theorem pkM_snoc{k:Pkt}:∀z,stars (pkM pks::msL k.mp k.mc k.msgs::G) z→stars (pkM (pks++[k])::G) z:=fun z hz=>by
 have h1:=zbd _ _ z hz
 unfold pkM
 refine zbe _ G z ?_
 rw[List.map_append,List.append_assoc]
 exact h1
theorem pkM_cons{k:Pkt}:∀z,stars (pkM (k::pks)::G) z→stars (msL k.mp k.mc k.msgs::pkM pks::G) z:=fun z hz=>by
 have h1:=zbd _ _ z hz
 obtain⟨m1,m2,h2,h3,h4,h5⟩:=h1
 exact⟨m1,m2,h2,h3,h4,zbe _ _ _ h5⟩
theorem pkM_nil{a:HP}:∀z,stars (a::G) z→stars (a::pkM []::G) z:=fun z hz=>by
 show star a (star (stars []) (stars G)) z
 rw[show star (stars []) (stars G)=stars G from emp_star _]
 exact hz
def qoutJ(o:Nat)(r:QR)(j:Nat):List QP:=((List.range j).filter fun k=>!(k+1 == o+1)).map fun k=>{src:=o+1,to:=k+1,kn:=r.kn,ms:=qsince (r.ks.getD k []) r.l}
theorem qoutJ_next(o:Nat)(r:QR)(j:Nat):qoutJ o r (j+1)=qoutJ o r j++(if j=o then []else [{src:=o+1,to:=j+1,kn:=r.kn,ms:=qsince (r.ks.getD j []) r.l}]):=by
 unfold qoutJ;rw[List.range_succ,List.filter_append,List.map_append];by_cases e:j=o
 ·subst e;simp
 ·simp[e]
theorem since_q(x:UInt8)(v:List Nat)(l:List QM):sinceM (qnI v) 8 (l.map (mkM x))=(qsince v l).map (mkM x):=by
 unfold sinceM qsince unk;rw[List.filter_map,List.map_take];congr 2;apply List.filter_congr;intro m _;show decide (qnI v (orgI (mkM x m))<(mkM x m).number)=_;rw[mkM_org,mkM_num,Bool.eq_iff_iff,Nat.blt_eq,decide_eq_true_eq];unfold qnI;omega
section
variable (f:Frag) (F:List HP)
theorem rout_fn(h11:n≤11)(hI:QInv n r):Fn prog 176 [.pointer (some ⟨rb,0,none⟩)] f (repH rb n o x r ws::F)
   (fun v g B=>∃(p:Option Addr) (c:Nat) (pks:List Pkt),v= .slice p pks.length c∧pks.map Pkt.core=(qout n (o+1) r).map (coreQ x)∧g=f∧B=psl p c pks::pkM pks::repH rb n o x r ws::F):=by
 refine B2 fun⟨⟨lr,wt,lg,ck,pe,rn,wc⟩,pp,pc,tp,tc⟩ _=>?_;have hkn:=fun G=>lknown0_fn f G (lb:=lr) (n:=n) (ms:=r.l.map (mkM x));rw[show knownS (strm (r.l.map (mkM x)))=qnI r.kn from funext (hI.known x)]at hkn
 have hlk:=fun G j (hj:j<n)=>lacks0_fn f G (pb:=pe) (n:=n) (i:=j) (lb:=lr) (m:=n) (vv:=ksV r.ks) hj h11 (ms:=r.l.map (mkM x)) (most:=8);apply (qdN)
 refine AB func176 ntmps176 fun base=>?_;apply (gR);refine AY 49 14 ?_;refine H.imp pkM_nil ?_
 refine AF (ι:=Nat×List Pkt×Option Addr×Nat) (fun s=>[(3,.int .i64 ((s.1+1:Nat):Int)),(2,.slice s.2.2.1 s.2.1.length s.2.2.2),(0,.pointer (some ⟨rb,0,none⟩))]) (fun _=>f)
  (fun s=>psl s.2.2.1 s.2.2.2 s.2.1::pkM s.2.1::row rb 97 (repC n o ⟨lr,wt,lg,ck,pe,rn,wc⟩ pp r.pd.length pc tp r.td.length tc r.ck)::loQ lr n (r.l.map (mkM x))::waQ wt ws::lgH lg n (qnth r.kn) r.lg (qnth r.vt) x::chkH ck n (cms n x r.l)::row pe 266 (peC n (ksV r.ks))::runH rn r.row x::row wc 258 (watC r.runs r.fin r.done)::slc pp r.pd.length pc 34 40 (r.pd.flatMap (pndV x))::slc tp r.td.length tc 136 5 (toldC r.td)::F)
  (fun s=>s.1≤n∧s.2.1.map Pkt.core=(qoutJ o r s.1).map (coreQ x)∧s.2.1.length≤s.1) (fun s=>n-s.1) (0,[],none,0) ⟨Nat.zero_le _,rfl,Nat.le_refl _⟩ fun s hs=>?_
 obtain⟨j,pks,p,c⟩:=s;obtain⟨hj,hpk,hpl⟩:j≤n∧pks.map Pkt.core=(qoutJ o r j).map (coreQ x)∧pks.length≤j:=hs;show H _ _ _ _ _ (psl p c pks::pkM pks::row rb _ _::_) _;by_cases hlt:j<n
 ·have hnx:=qoutJ_next o r j;by_cases hjo:j=o
  ·rw[if_pos hjo,List.append_nil]at hnx;apply (gT);exact AI (j+1,pks,p,c) ⟨hlt,by rw[hnx];exact hpk,by show pks.length≤j+1;omega⟩ jv
  ·rw[if_neg hjo]at hnx;have hlj:=fun G=>hlk G j hlt;rw[show ksV r.ks j=qnI (r.ks.getD j [])from rfl,since_q]at hlj
   apply (gT);apply (qdH);apply (qea);apply A6 [0,1,2,3,4,5,6,7,8,9,11,12,13,14,15,16,17,18,19] 6;apply (qdX);apply (qke);apply (qgy);apply A5 (hkn _);apply (qeL);apply A7 20;apply A3 (row pe _ _);apply (qgy);refine H.cl (hlj _) fun v f' A' hr=>?_;obtain⟨p2,c2,R,rfl,hR,hff,rfl⟩:=hr;rw[hff];clear hff;apply (qeL);apply A6 [21] 3;apply (qfq);apply A7 22;refine AS (out:=(⟨((o+1:Nat):Int),((j+1:Nat):Int),qnI r.kn,R,p2,c2⟩:Pkt).vals) rfl rfl rfl rfl jE jE jD rfl fun eb=>?_;apply (qeL);apply A7 23;refine AQ (sz:=14) (p:=p) (n0:=pks.length) (c:=c) (xs:=pks.flatMap Pkt.vals) (m:=1) (news:=(⟨((o+1:Nat):Int),((j+1:Nat):Int),qnI r.kn,R,p2,c2⟩:Pkt).vals) rfl rfl rfl rfl rfl (fun p' c'=>jA) (Src.slice (Rd.ofRow jA) rfl) (zaa rfl) rfl jB jB fun p3 c3=>?_;apply (qeZ);apply (qeL);apply A6 [24] 0;apply (qdP);apply (gD);rw[show pks.flatMap Pkt.vals++(⟨((o+1:Nat):Int),((j+1:Nat):Int),qnI r.kn,R,p2,c2⟩:Pkt).vals=(pks++[(⟨((o+1:Nat):Int),((j+1:Nat):Int),qnI r.kn,R,p2,c2⟩:Pkt)]).flatMap Pkt.vals by rw[List.flatMap_append];simp,show pks.length+1=(pks++[(⟨((o+1:Nat):Int),((j+1:Nat):Int),qnI r.kn,R,p2,c2⟩:Pkt)]).length by simp];apply (qeH);apply A3 (msL p2 c2 R);apply A3 (pkM _);refine H.imp (pkM_snoc (k:=⟨((o+1:Nat):Int),((j+1:Nat):Int),qnI r.kn,R,p2,c2⟩)) ?_;apply A3 (slc p3 _ _ 49 _ _)
   exact AX (j+1,pks++[⟨((o+1:Nat):Int),((j+1:Nat):Int),qnI r.kn,R,p2,c2⟩],p3,c3) ⟨hlt,by
    rw[hnx,List.map_append,List.map_append,hpk];show _=_++[coreQ x _];unfold coreQ
    rw[←hR];rfl,by show(pks++[_]).length≤j+1;rw[List.length_append];show pks.length+1≤j+1;omega⟩ jv ⟨rfl,rfl,rfl,trivial⟩ rfl rfl
 ·obtain rfl:j=n:=jB
  apply (gT);apply (qhn);apply A3 (pkM _);apply A3 (psl p c pks);exact AU ⟨p,c,pks,rfl,hpk,rfl,rfl⟩
end
theorem zcd(cu:Option MV):(nextV cu).length=121:=by cases cu<;>rfl
theorem nextV_one(cu:Option MV):∀v∈nextV cu,one v=true:=by cases cu<;>exact zaa rfl
theorem set121{l vs:List Value}(hl:l.length=121)(hv:vs.length=121):splice l 0 vs=vs:=by
 exact qbc
structure QHear(n:Nat)(p:QP)(r r':QR):Prop where
 ok:∀m∈p.ms,QOk n m
 own:∀m∈p.ms,qopen (qchk r m)=true→m.o≠p.to
 len:p.ms.length≤8
 s1:1≤p.src
 sn:p.src≤n
 ne:p.src≠p.to
 kl:p.kn.length=n
 t1:1≤p.to
 dr:qdrain n p.to (p.ms.filter fun m=>qopen (qchk r m)) {r with ks:=r.ks.set (p.src-1) p.kn}=some r'
theorem qhear_is{p:QP}(h:qhear n p r=some r'):QHear n p r r':=by
 unfold qhear at h
 cases hg:(p.ms.all (fun m=>!(qchk r m == 1)&&m.ok n&& !(m.o == p.to&&qopen (qchk r m)))&&Nat.ble p.ms.length 8&&Nat.ble 1 p.to&&Nat.ble 1 p.src&&Nat.ble p.src n&& !(p.src == p.to)&&p.kn.length == n&&r.ks.length == n)with
 |false=>rw[hg]at h;cases h
 | true =>
  rw[hg,cond_true]at h;simp only[Bool.and_eq_true,Nat.ble_eq,List.all_eq_true,Bool.not_eq_true',beq_eq_false_iff_ne,beq_iff_eq,ne_eq]at hg;obtain⟨⟨⟨⟨⟨⟨⟨g1,g2⟩,g0⟩,g3⟩,g4⟩,g5⟩,g6⟩,g7⟩:=hg
  have gown:∀m∈p.ms,qopen (qchk r m)=true→m.o≠p.to:=fun m hm hop e=>by
   have h1:=(g1 m hm).2;rw[hop,show(m.o == p.to)=true from beq_iff_eq.2 e]at h1
   cases h1
  exact⟨fun m hm=>QOk.of (g1 m hm).1.2,gown,g2,g3,g4,g5,g6,g0,h⟩
theorem QInv.setK(h:QInv n r)(s:Nat)(k:List Nat):QInv n {r with ks:=r.ks.set s k}:=
 ⟨h.ok,h.kl,h.kn,h.len,h.lg,h.vl,h.vt,h.cm,h.kb,h.ck,h.ck4,h.row,h.pd,h.pl,h.td,by show(r.ks.set s k).length=n;rw[List.length_set];exact h.ks,h.tdb⟩
theorem qdrain_inv{n i:Nat}:∀ {ws:List QM} {r r':QR},QInv n r→qdrain n i ws r=some r'→QInv n r'
 | [],_,_,hi,h=>by cases h;exact hi
 | m :: ws, r, r', hi, h => by
  obtain⟨_,r1,h2,h3⟩:=zby h
  exact qdrain_inv ((qtake_is h2).next hi) h3
theorem qdrain_l{n i:Nat}:∀ {ws:List QM} {r r':QR},qdrain n i ws r=some r'→r'.l=r.l++ws
 | [],_,_,h=>by cases h;simp
 | m :: ws, r, r', h => by
  obtain⟨_,r1,h2,h3⟩:=zby h
  rw[qdrain_l h3,(qtake_is h2).l,List.append_assoc];rfl
theorem qdrain_kn{n i o:Nat}:∀ {ws:List QM} {r r':QR},QInv n r→qdrain n i ws r=some r'→(∀m∈ws,m.o≠o+1)→qnth r'.kn o=qnth r.kn o
 | [],_,_,_,h,_=>by cases h;rfl
 | m :: ws, r, r', hi, h, ho => by
  obtain⟨_,r1,h2,h3⟩:=zby h
  have t:=qtake_is h2
  have h4:=ho m List.mem_cons_self
  have h5:=t.ok.o1
  have h6:=t.ok.on
  rw[qdrain_kn (t.next hi) h3 fun y hy=>ho y (List.mem_cons_of_mem _ hy),t.kn,qinc_at _ _ _ (by rw[hi.kl];omega),if_neg jB]
variable {wt lr:Nat}
section
variable (f:Frag) (F:List HP)
theorem rnx_fn(htab:TabAt f){i:Nat}{W:List QM}(h11:n≤11)(hI:QInv n r)(hok:∀m∈W,QOk n m)(hd:qdrain n i W r=some r'):Fn prog 253 [.pointer (some ⟨wt,0,none⟩),.pointer (some ⟨lr,0,none⟩)] f (waQ wt (W.map (mkM x))::loQ lr n (r.l.map (mkM x))::F)
   (fun v g B=>∃cu:Option MV,cu.map MV.m=W.head?.map (mkM x)∧v= .tuple #[.agg (nextV cu).toArray,.bool cu.isSome]∧g=f∧B=waQ wt (W.tail.map (mkM x))::loQ lr n (r.l.map (mkM x))::F):=by
 cases W with
 | nil =>
  refine Fn.mono (wnext0_no f F htab) ?_;rintro v g B ⟨rfl,rfl,rfl⟩;exact⟨none,rfl,rfl,rfl,rfl⟩
 | cons m W =>
  obtain⟨h1,r1,h2,h3⟩:=zby hd;have t:=qtake_is h2;refine Fn.mono (wnext0_fn f F htab (m0:=mkM x m) (ws:=W.map (mkM x)) (NoQ.of_mk x (m::W)) (by rw[chk_q h11 hI x t.ok,t.c0];rfl) ?_) ?_
  ·intro y hy;obtain⟨z,hz,rfl⟩:=List.mem_map.1 hy;rw[chk_q h11 hI x (hok z (List.mem_cons_of_mem _ hz)),qopen_z,mkM_o,mkM_o]
   have:=h1 z hz;exact⟨this.1,this.2.imp (fun h=>by omega) (fun h e=>h jB)⟩
  ·rintro v g B ⟨y,hy,rfl,rfl,rfl⟩;exact⟨some y,by show some y.m=_;rw[hy];rfl,rfl,rfl,rfl⟩
theorem rpt_fn(htab:TabAt f){pre:List QM}{y:MV}(h11:n≤11)(hI:QInv n r)(hok:QOk n m)(hy:y.m=mkM x m)(hl:pre.length≤8)(hk:qopen (qchk r m)=true→∀z∈pre,qkey z≠qkey m):Fn prog 252 [.pointer (some ⟨wt,0,none⟩),.pointer (some ⟨lr,0,none⟩),.agg y.vals.toArray] f (waQ wt (pre.map (mkM x))::loQ lr n (r.l.map (mkM x))::F)
   (RetE (fun z:Int=>.int .i64 z) f (fun _=>waQ wt ((pre++(if qopen (qchk r m)=true then [m]else [])).map (mkM x))::loQ lr n (r.l.map (mkM x))::F)):=by
 have hc:chk n (strm (r.l.map (mkM x))) y.m=((qchk r m:Nat):Int):=by rw[hy];exact chk_q h11 hI x hok
 have hq:y.m.body.q=[]:=by rw[hy];exact mkM_q x m
 have hb:y.m.body.Ok:=by rw[hy,mkM_b];exact mkB_ok x hok.a8 hok.k
 by_cases ho:qopen (qchk r m)=true
 ·rw[if_pos ho,List.map_append];show Fn _ _ _ _ _ (RetE _ f (fun _=>waQ wt (pre.map (mkM x)++[mkM x m])::_));rw[←hy];refine wput0_fn f F htab (NoQ.of_mk x pre) hq hb jl (by rw[hc,qopen_z];exact ho) ?_ ?_
  ·intro z hz;obtain⟨w,hw,rfl⟩:=List.mem_map.1 hz;rw[hy,keyM_mk,keyM_mk];intro e;have e1:=congrArg Prod.fst e;have e2:=congrArg Prod.snd e
   have e1:((w.o:Nat):Int)=((m.o:Nat):Int):=e1;have e2:((w.num:Nat):Int)=((m.num:Nat):Int):=e2
   exact hk ho w hw (by unfold qkey;rw[show w.o=m.o by omega,show w.num=m.num by omega])
  ·unfold cntO
   have:=List.length_filter_le (fun z:Msg=>decide (z.origin=y.m.origin)) (pre.map (mkM x));rw[List.length_map]at this
   omega
 ·rw[if_neg ho,List.append_nil];refine wput0_no f F htab (NoQ.of_mk x pre) hq hb jl ?_;rw[hc,qopen_z]
  cases h:qopen (qchk r m)with
  |true=>exact absurd h ho
  |false=>rfl
structure HS2 where
 cu:Option MV
 W:List QM
 r:QR
 R:List MV
 p:Option Addr
 c:Nat
 ob:Nat
structure HΦ(n o:Nat)(x:UInt8)(W0:List QM)(r':QR)(s:HS2):Prop where
 cu:s.cu.map MV.m=s.W.head?.map (mkM x)
 dr:qdrain n (o+1) s.W s.r=some r'
 inv:QInv n s.r
 ok:∀m∈s.W,QOk n m
 R:s.R.map MV.m++s.W.map (mkM x)=W0.map (mkM x)
 len:s.R.length+s.W.length≤8
theorem rhear_fn(htab:TabAt f){q:QP}{p:Pkt}(h3:3≤n)(h11:n≤11)(ho:o<n)(hI:QInv n r)(hp:p.Good f)(hc:p.core=coreQ x q)(hto:q.to=o+1)(hq:qhear n q r=some r'):Fn prog 184 [.pointer (some ⟨rb,0,none⟩),.agg p.vals.toArray] f (repH rb n o x r []::F)
   (fun v g B=>∃(pp:Option Addr) (c:Nat) (R:List MV),v= .tuple #[.slice pp R.length c,.int .i64 0]∧R.map MV.m=(q.ms.filter fun m=>qopen (qchk r m)).map (mkM x)∧g=f∧B=msL pp c R::repH rb n o x r' []::F):=by
 obtain⟨hok,_,hqlen,hs1,hsn,hne,hkl,_,hdr⟩:=qhear_is hq;obtain⟨src,dst,known,msgs,mp,mc⟩:=p;obtain⟨qs,qt,qk,qm⟩:=q;have e1:src=_:=congrArg Core.src hc;have e2:dst=_:=congrArg Core.dst hc
 have e3:known=_:=congrArg Core.known hc;have e4:msgs.map MV.m=qm.map (mkM x):=congrArg Core.msgs hc
 have hto:qt=o+1:=hto;have hne:qs≠qt:=hne
 have hok:∀m∈qm,QOk n m:=hok;have hqlen:qm.length≤8:=hqlen
 have hs1:1≤qs:=hs1;have hsn:qs≤n:=hsn
 have hdr:qdrain n qt (qm.filter fun m=>qopen (qchk r m)) {r with ks:=r.ks.set (qs-1) qk}=some r':=hdr;clear hc hq
 have e1:src=((qs:Nat):Int):=e1;have e2:dst=((qt:Nat):Int):=e2
 have e3:known=qnI qk:=e3;subst e1 e2 e3 hto
 obtain⟨hat,hgd,hml⟩:MsAt f mp msgs:=hp;have hlen:msgs.length=qm.length:=by simpa using congrArg List.length e4
 obtain⟨s,rfl⟩:∃s,qs=s+1:=⟨qs-1,by omega⟩;rw[Nat.add_sub_cancel]at hdr;show Fn _ _ _ _ _ (fun v g B=>∃pp c R,_∧List.map MV.m R=(qm.filter fun m=>qopen (qchk r m)).map (mkM x)∧_∧_);have hI1:=hI.setK s qk;have hWok:∀m∈qm.filter (fun m=>qopen (qchk r m)),QOk n m:=fun m hm=>hok m (List.mem_filter.1 hm).1
 have hkeys:=qdrain_keys hI1 hdr;refine B2 fun⟨⟨lr,wt,lg,ck,pe,rn,wc⟩,pp,pc,tp,tc⟩ _=>?_
 have hnx:=fun G=>rnx_fn f G htab (wt:=wt) (lr:=lr) (x:=x) h11 hI1 hWok hdr;have htl:=fun G=>told_fn f G (pb:=pe) (n:=n) (i:=s) (vv:=ksV r.ks) jB h11 (qnI qk)
 rw[←ksV_set (by rw[hI.ks];omega) qk]at htl;have hpt:=fun G (pre:List QM) (m:QM) (y:MV) (h1:QOk n m) (h2:y.m=mkM x m) (h3:pre.length≤8) (h4:qopen (qchk r m)=true→∀z∈pre,qkey z≠qkey m)=>rpt_fn f G htab (wt:=wt) (lr:=lr) (n:=n) (x:=x) (r:=r) h11 hI h1 h2 h3 h4;show Fn _ _ _ f (row rb _ (repC n o _ pp r.pd.length pc tp r.td.length tc r.ck)::loQ lr n _::waQ wt (([]:List QM).map (mkM x))::lgH lg n _ _ _ x::chkH ck n _::row pe _ _::runH rn _ x::row wc _ _::slc pp _ pc _ _ _::slc tp _ tc _ _ _::F) _
 refine A9 func184 ntmps184 fun base=>?_;apply (gA);refine H.box (ls:=[.int .i64 ((s+1:Nat):Int),.int .i64 ((o+1:Nat):Int)]++v11 (qnI qk)++[.slice mp msgs.length mc]) rfl rfl rfl rfl fun qb=>?_;apply (gR);apply (qhz);apply (gS);apply (qhz);apply (gT);apply (qhz);apply (gT);apply (qjN);refine C1 (ls:=v11 (qnI qk)) rfl rfl rfl (Rd.sub (pre:=[.int .i64 ((s+1:Nat):Int),.int .i64 ((o+1:Nat):Int)]) (post:=[.slice mp msgs.length mc]) (Rd.ofRow jA) rfl) rfl rfl ?_;apply (gI);apply A3 (row pe _ _);apply A5 (htl _);apply (gT);apply (qfs);apply (qeH)
 refine AF (ι:=Nat) (fun i=>[(55,.int .i64 (i:Int)),(54,.int .i64 (msgs.length:Nat)),(53,.slice mp msgs.length mc),(0,.pointer (some ⟨rb,0,none⟩)),(4,.slice none 0 0)]) (fun _=>f)
  (fun i=>row rb 97 (repC n o ⟨lr,wt,lg,ck,pe,rn,wc⟩ pp r.pd.length pc tp r.td.length tc r.ck)::loQ lr n (r.l.map (mkM x))::waQ wt (((qm.take i).filter fun m=>qopen (qchk r m)).map (mkM x))::lgH lg n (qnth r.kn) r.lg (qnth r.vt) x::chkH ck n (cms n x r.l)::row pe 266 (peC n (ksV (r.ks.set s qk)))::runH rn r.row x::row wc 258 (watC r.runs r.fin r.done)::slc pp r.pd.length pc 34 40 (r.pd.flatMap (pndV x))::slc tp r.td.length tc 136 5 (toldC r.td)::F)
  (fun i=>i≤msgs.length) (fun i=>msgs.length-i) 0 (Nat.zero_le _) fun i hi=>?_
 have hi:i≤msgs.length:=hi;by_cases hlt:i<msgs.length
 ·have hy:msgs[i]?=some msgs[i]:=List.getElem?_eq_getElem hlt;generalize msgs[i]=y at hy
  have hm:qm[i]?=some (qm[i]' jB):=List.getElem?_eq_getElem jB;generalize qm[i]' jB=m at hm
  have hym:y.m=mkM x m:=by
   have h1:=congrArg (fun l:List Msg=>l[i]?) e4;simp only[List.getElem?_map,hy,hm,Option.map_some,Option.some.injEq]at h1
   exact h1
  have htk:(qm.take (i+1)).filter (fun m=>qopen (qchk r m))=(qm.take i).filter (fun m=>qopen (qchk r m))++(if qopen (qchk r m)=true then [m]else []):=by
   rw[List.take_add_one,hm,List.filter_append];show _++List.filter _ [m]=_;rw[List.filter_cons];rfl
  have hpl:((qm.take i).filter fun m=>qopen (qchk r m)).length≤8:=by
   have h1:=List.length_filter_le (fun m=>qopen (qchk r m)) (qm.take i);rw[List.length_take]at h1
   omega
  have hk:qopen (qchk r m)=true→∀z∈(qm.take i).filter (fun m=>qopen (qchk r m)),qkey z≠qkey m:=fun hop z hz e=>by
   have h1:qm.filter (fun m=>qopen (qchk r m))=(qm.take (i+1)).filter (fun m=>qopen (qchk r m))++(qm.drop (i+1)).filter (fun m=>qopen (qchk r m)):=by rw[←List.filter_append,List.take_append_drop]
   rw[h1,htk,if_pos hop,List.map_append,List.map_append]at hkeys;have h2:=(List.nodup_append.1 (List.nodup_append.1 hkeys).1).2.2;exact h2 (qkey z) (List.mem_map_of_mem hz) (qkey m) jI e
  have hput:=fun G=>hpt G _ m y (hok m (List.mem_of_getElem? hm)) hym hpl hk;obtain⟨b,off,cs,T,fr,rfl,hfb,hcs⟩:=hat i y hy
  apply (qhD);refine AD (ls:=y.vals) rfl rfl rfl (Rd.imm hfb hcs) rfl rfl ?_;refine (qfm) fun tb=>?_;apply (qgl);refine BY 9 jD jJ ?_;apply (gH);refine C1 (ls:=y.vals) rfl rfl rfl (Rd.ofRow aP0) rfl rfl ?_;apply (gI);apply (qjU);refine C3 (hput _) fun z=>?_;apply (gD);apply (qeG);apply (qeH);exact AX (i+1) hlt (by show msgs.length-(i+1)<msgs.length-i;omega) ⟨rfl,rfl,rfl,rfl,rfl,trivial⟩ rfl (by rw[htk])
 ·obtain rfl:i=msgs.length:=jB
  rw[show qm.take msgs.length=qm by rw[hlen,List.take_length]];have hWl:(qm.filter fun m=>qopen (qchk r m)).length≤8:=Nat.le_trans (List.length_filter_le _ _) hqlen;generalize(qm.filter fun m=>qopen (qchk r m))=W at hdr hWok hnx hWl⊢
  apply (gN);refine H.cut (ι:=Option MV×Nat) (fun s=>[(9,.bool s.1.isSome),(8,.pointer (some ⟨s.2,0,none⟩)),(4,.slice none 0 0),(0,.pointer (some ⟨rb,0,none⟩))]) (fun _=>f) (fun z=>row z.2 41 (nextV z.1)::repH rb n o x {r with ks:=r.ks.set s qk} (W.tail.map (mkM x))::F) (fun z=>z.1.map MV.m=W.head?.map (mkM x)) _ (fun z hz=>?_) ?_
  ·obtain⟨cu,ob⟩:=z;apply (gK);refine AY 41 121 ?_;refine AF (ι:=HS2) (fun s=>[(9,.bool s.cu.isSome),(8,.pointer (some ⟨s.ob,0,none⟩)),(4,.slice s.p s.R.length s.c),(0,.pointer (some ⟨rb,0,none⟩))]) (fun _=>f) (fun s=>msL s.p s.c s.R::row s.ob 41 (nextV s.cu)::repH rb n o x s.r (s.W.tail.map (mkM x))::F) (HΦ n o x W r') (fun s=>s.W.length) ⟨cu,W,{r with ks:=r.ks.set s qk},[],none,0,ob⟩ ⟨hz,hdr,hI1,hWok,rfl,by show 0+W.length≤8;omega⟩ fun s hs=>?_;obtain⟨cu,W1,r2,R,p,c,ob⟩:=s;obtain⟨hcu,hd,hI2,hok2,hR,hRl⟩:=hs;have hRl:R.length+W1.length≤8:=hRl
   cases W1 with
   | nil =>
    cases cu with
    |some y=>cases hcu
    | none =>
     have hd:some r2=some r':=hd;cases hd
     show H _ _ _ _ _ (slc p R.length c _ _ _::row ob _ _::repH _ _ _ _ _ _::F) _;apply (gE);apply (qgT);exact BN rfl rfl rfl iD ⟨p,c,R,rfl,by simpa using hR,rfl,rfl⟩
   | cons m W1 =>
    cases cu with
    |none=>cases hcu
    | some y =>
     have hym:y.m=mkM x m:=Option.some.inj hcu;have hd:qdrain n (o+1) (m::W1) r2=some r':=hd
     obtain⟨h1,r3,h2,hd3⟩:=zby hd;have hI3:=(qtake_is h2).next hI2;have hI2:QInv n r2:=hI2
     have htk:=fun G=>rtake_fn f G htab (rb:=rb) (x:=x) (ws:=W1.map (mkM x)) h3 h11 ho hI2 h2 hym;have hok3:∀z∈W1,QOk n z:=fun z hz=>hok2 z (List.mem_cons_of_mem _ hz)
     have hRl:R.length+(W1.length+1)≤8:=hRl;show H _ _ _ _ _ (slc p R.length c _ _ _::row ob _ y.vals::repH _ _ _ _ _ _::F) _
     apply (gR);apply (qiz);apply (qec);apply A5 (htk _);apply (gG);apply (qiz);refine AS (out:=y.vals) rfl rfl rfl rfl jE jE jD rfl fun eb=>?_;refine AQ (sz:=121) (p:=p) (n0:=R.length) (c:=c) (xs:=R.flatMap MV.vals) (m:=1) (news:=y.vals) rfl rfl rfl rfl rfl (fun p' c'=>jA) (Src.slice (Rd.ofRow aP0) rfl) (zaa rfl) rfl jB jB fun p3 c3=>?_;apply (qeZ);apply (gK);apply (qiz);apply (gA);refine (qfm) fun ob2=>?_;apply (qgl);apply (qgT);apply (qec);refine AM fun⟨⟨lr,wt,lg,ck,pe,rn,wc⟩,pp,pc,tp,tc⟩ _=>?_;have hnx2:=fun G=>rnx_fn f G htab (wt:=wt) (lr:=lr) (x:=x) h11 hI3 hok3 hd3;show H _ _ _ _ f (row rb _ (repC n o _ pp r3.pd.length pc tp r3.td.length tc r3.ck)::loQ lr n _::waQ wt _::lgH lg n _ _ _ x::chkH ck n _::row pe _ _::runH rn _ x::row wc _ _::slc pp _ pc _ _ _::slc tp _ tc _ _ _::_) _
     apply (qdH);apply (qea);apply (qhr);apply (qjU);refine H.cl (hnx2 _) fun v f' A' hr=>?_;obtain⟨cu2,hcu2,rfl,hff,rfl⟩:=hr;rw[hff];clear hff;apply (qeL);apply A6 [9,10,11] 2;apply (qjG);refine AC (ls:=y.vals) (vs:=nextV cu2) (ls':=nextV cu2) rfl rfl rfl (nextV_one cu2) (zcd cu2) (set121 rfl (zcd cu2)) (by rw[zcd];exact Nat.le_refl 121) jA ?_;apply (qeL);apply (qkb);apply (qeH);refine H.imp (zbb (r:=r3) ⟨⟨lr,wt,lg,ck,pe,rn,wc⟩,pp,pc,tp,tc⟩) ?_;apply A3 (row ob2 _ _);apply A3 (slc p3 _ _ 41 _ _)
     exact AX ⟨cu2,W1,r3,R++[y],p3,c3,ob2⟩ ⟨hcu2,hd3,hI3,hok3,by
      rw[List.map_append,List.append_assoc,←hR,List.map_cons];show _++([y.m]++_)=_
      rw[hym];rfl,by show(R++[y]).length+W1.length≤8;rw[List.length_append];show R.length+1+W1.length≤8;omega⟩ (by show W1.length<W1.length+1;omega) ⟨rfl,rfl,by rw[List.length_append];rfl,rfl,trivial⟩ rfl (by show _=slc p3 (R++[y]).length c3 _ _ ((R++[y]).flatMap MV.vals)::_;rw[List.length_append,List.flatMap_append];simp)
  ·apply (qdH);apply (qea);apply A6 [0,1,2,3,4,5,6,7] 7;apply (qdX);refine B9 (i:=8) (j:=12) jD rfl rfl ?_ ?_
   ·apply (qjU);refine H.cl (hnx _) fun v f' A' hr=>?_;obtain⟨cu,hcu,rfl,hff,rfl⟩:=hr;rw[hff];clear hff;apply (qeL);apply A6 [9,10,11] 3;apply (qjG);refine (qfm) fun ob=>?_;apply (qeL);exact qat
   ·refine (qfm) fun ob=>?_;apply (qeL);apply A7 8;apply (qjU);refine H.cl (hnx _) fun v f' A' hr=>?_;obtain⟨cu,hcu,rfl,hff,rfl⟩:=hr;rw[hff];clear hff;apply (qeL);apply A6 [9,10,11] 2;apply (qfa);exact qat
end
def pv(b:Nat):Value:=.pointer (some ⟨b,0,none⟩)
def pn0:Value:=.pointer none
def repN(n o:Nat)(a2 a4 a5 a6:Value)(wt rn wc:Nat):List Value:=[.int .i64 (n:Nat),.int .i64 ((o+1:Nat):Int),a2,pv wt,a4,a5,a6,pv rn,pv wc,.slice none 0 0,.slice none 0 0,.int .u64 0]
variable {pb eb rn:Nat} {a2 a4 a5 a6:Value}
section
variable (f:Frag) (F:List HP)
theorem rnew1_fn(h3:3≤n)(h11:n≤11)(hodd:n % 2=1):Fn prog 83 ([]++[]++[pv nb,pv pb,pv eb]) f (row nb 3 [.int .i64 (n:Nat)]::row pb 59 [pv rb]::row eb 24 [.int .i64 0]::row rb 97 (repN n o a2 a4 a5 a6 wt rn wc)::F)
  (fun v g B=>∃lb:Nat,v= .tuple #[]∧g=f∧B=loQ lb n []::row nb 3 [.int .i64 (n:Nat)]::row pb 59 [pv rb]::row eb 24 [.int .i64 0]::row rb 97 (repN n o (pv lb) a4 a5 a6 wt rn wc)::F):=by
 unfold pv;have hfew:fewZ ((n:Nat):Int):=⟨by omega,by omega,by rw[show(2:Int)=((2:Nat):Int)from rfl,tmod64];omega⟩;refine AP func83 ntmps83 fun base=>?_
 apply (qgm);refine AW rfl rfl rfl (lnew0_fn f _ hfew) fun lb=>?_;apply (qei);apply (qfN);apply (qgy);exact qbV
theorem rnew2_fn(x:UInt8)(h3:3≤n)(h11:n≤11)(hodd:n % 2=1):Fn prog 85 ([]++[]++[pv nb,pv pb,pv eb]) f (row nb 3 [.int .i64 (n:Nat)]::row pb 59 [pv rb]::row eb 24 [.int .i64 0]::row rb 97 (repN n o a2 a4 a5 a6 wt rn wc)::F)
  (fun v g B=>∃lb:Nat,v= .tuple #[]∧g=f∧B=lgH lb n (fun _=>0) 0 (fun _=>0) x::row nb 3 [.int .i64 (n:Nat)]::row pb 59 [pv rb]::row eb 24 [.int .i64 0]::row rb 97 (repN n o a2 (pv lb) a5 a6 wt rn wc)::F):=by
 unfold pv;refine AP func85 ntmps85 fun base=>?_;apply (qgm);refine AW rfl rfl rfl (lgNew_fn f _ x h3 h11 hodd) fun lb=>?_;apply (qei);apply (qfN);apply (qev);exact qbV
theorem rnew3_fn(h3:3≤n)(h11:n≤11)(hodd:n % 2=1):Fn prog 87 ([]++[]++[pv nb,pv pb,pv eb]) f (row nb 3 [.int .i64 (n:Nat)]::row pb 59 [pv rb]::row eb 24 [.int .i64 0]::row rb 97 (repN n o a2 a4 a5 a6 wt rn wc)::F)
  (fun v g B=>∃lb:Nat,v= .tuple #[]∧g=f∧B=chkH lb n []::row nb 3 [.int .i64 (n:Nat)]::row pb 59 [pv rb]::row eb 24 [.int .i64 0]::row rb 97 (repN n o a2 a4 (pv lb) a6 wt rn wc)::F):=by
 unfold pv;refine AP func87 ntmps87 fun base=>?_;apply (qgm);refine AW rfl rfl rfl (cnew_fn f _ h3 h11 hodd) fun lb=>?_;apply (qei);apply (qfN);apply (qjt);exact qbV
theorem rnew4_fn(h3:3≤n)(h11:n≤11)(hodd:n % 2=1):Fn prog 89 ([]++[]++[pv nb,pv pb,pv eb]) f (row nb 3 [.int .i64 (n:Nat)]::row pb 59 [pv rb]::row eb 24 [.int .i64 0]::row rb 97 (repN n o a2 a4 a5 a6 wt rn wc)::F)
  (fun v g B=>∃lb:Nat,v= .tuple #[]∧g=f∧B=row lb 266 (peC n fun _ _=>0)::row nb 3 [.int .i64 (n:Nat)]::row pb 59 [pv rb]::row eb 24 [.int .i64 0]::row rb 97 (repN n o a2 a4 a5 (pv lb) wt rn wc)::F):=by
 unfold pv;have hfew:fewZ ((n:Nat):Int):=⟨by omega,by omega,by rw[show(2:Int)=((2:Nat):Int)from rfl,tmod64];omega⟩;refine AP func89 ntmps89 fun base=>?_
 apply (qgm);refine AW rfl rfl rfl (gnew_fn f _ hfew) fun lb=>?_;apply (qei);apply (qfN);apply (qeh);exact qbV
def nwA(n:Nat)(x:UInt8)(l1 l2 l3 l4:Nat):Nat→List HP
 |0=>[]
 |1=>[loQ l1 n []]
 |2=>[lgH l2 n (fun _=>0) 0 (fun _=>0) x,loQ l1 n []]
 |3=>[chkH l3 n [],lgH l2 n (fun _=>0) 0 (fun _=>0) x,loQ l1 n []]
 |_=>[row l4 266 (peC n fun _ _=>0),chkH l3 n [],lgH l2 n (fun _=>0) 0 (fun _=>0) x,loQ l1 n []]
def nwR(n o:Nat)(wt rn wc l1 l2 l3 l4:Nat):Nat→List Value
 |0=>repN n o pn0 pn0 pn0 pn0 wt rn wc
 |1=>repN n o (pv l1) pn0 pn0 pn0 wt rn wc
 |2=>repN n o (pv l1) (pv l2) pn0 pn0 wt rn wc
 |3=>repN n o (pv l1) (pv l2) (pv l3) pn0 wt rn wc
 |_=>repN n o (pv l1) (pv l2) (pv l3) (pv l4) wt rn wc
theorem qrep_kn(n:Nat):qnth (qrep n).kn=fun _=>0:=by
 funext i;show(List.replicate n 0).getD i 0=0;exact qdc
theorem qrep_vt(n:Nat):qnth (qrep n).vt=fun _=>0:=qrep_kn n
theorem qrep_ks(n:Nat):ksV (qrep n).ks=fun _ _=>0:=by
 funext i j;show qnI ((List.replicate n (List.replicate n 0)).getD i []) j=0;rw[List.getD_eq_getElem?_getD,List.getElem?_replicate];unfold qnI;split
 ·show(((List.replicate n 0).getD j 0:Nat):Int)=0;exact qdc
 ·rfl
theorem qrep_inv:QInv n (qrep n):=by
 refine⟨(fun m hm=>by cases hm),List.length_replicate,fun i hi=>?_,Nat.zero_le _,Nat.zero_le _,List.length_replicate,fun y hy=>?_,rfl,fun y hy=>?_,Nat.zero_le _,rfl,Nat.zero_le _,(fun c hc=>by cases hc),Nat.zero_le _,Nat.le_refl _,List.length_replicate,(fun c hc=>by cases hc)⟩
 ·rw[qrep_kn];rfl
 ·exact qdA
 ·exact qdA
theorem rnew_fn(x:UInt8)(h3:3≤n)(h11:n≤11)(hodd:n % 2=1)(ho:o<n):Fn prog 47 [.int .i64 (n:Nat),.int .i64 ((o+1:Nat):Int)] f F
  (RetE (fun rb:Nat=>.tuple #[.pointer (some ⟨rb,0,none⟩),.int .i64 0]) f (fun rb=>repH rb n o x (qrep n) []::F)):=by
 refine A9 func47 ntmps47 fun base=>?_;apply (gA);refine H.box (ls:=[.int .i64 (n:Nat)]) rfl rfl rfl rfl fun nb=>?_;apply (gG)
 refine H.cut (ι:=Nat×Nat×Nat×Nat×Nat) (fun s=>[(6,pv s.2.1),(2,pv nb),(1,.int .i64 ((o+1:Nat):Int)),(4,.pointer none),(5,.int .i64 0)]) (fun _=>f)
  (fun s=>row nb 3 [.int .i64 (n:Nat)]::row s.2.1 59 [pv s.1]::row s.1 97 (repN n o pn0 pn0 pn0 pn0 s.2.2.1 s.2.2.2.1 s.2.2.2.2)::waQ s.2.2.1 []::runH s.2.2.2.1 0 x::row s.2.2.2.2 258 (watC false 0 0)::F) (fun _=>True) _ (fun s _=>?_) ?_
 ·obtain⟨rb,pb,wt,rn,wc⟩:=s;show H _ _ _ [(6,pv pb),_,_,_,_] f (row nb _ _::row pb _ [pv rb]::row rb _ _::waQ wt _::runH rn _ _::row wc _ _::F) _;unfold pv pn0;apply (gA);refine (qfW) fun eb=>?_;apply (gO);refine AS (out:=[.func (.func 83) #[] #[pv nb,pv pb,pv eb],.func (.func 85) #[] #[pv nb,pv pb,pv eb],.func (.func 87) #[] #[pv nb,pv pb,pv eb],.func (.func 89) #[] #[pv nb,pv pb,pv eb]]) rfl rfl rfl rfl jE jE jD rfl fun sb=>?_;apply (gK);apply (qfO);apply (qdH);apply (qfN)
  refine AF (ι:=Nat×Nat×Nat×Nat×Nat) (fun s=>[(23,.int .i64 (s.1:Nat)),(22,.int .i64 4),(21,.slice (some ⟨sb,0,none⟩) 4 4),(6,pv pb),(2,pv nb),(7,pv eb),(1,.int .i64 ((o+1:Nat):Int))]) (fun _=>f)
   (fun s=>nwA n x s.2.1 s.2.2.1 s.2.2.2.1 s.2.2.2.2 s.1++(row nb 3 [.int .i64 (n:Nat)]::row pb 59 [pv rb]::row eb 24 [.int .i64 0]::row rb 97 (nwR n o wt rn wc s.2.1 s.2.2.1 s.2.2.2.1 s.2.2.2.2 s.1)::row sb 1 [.func (.func 83) #[] #[pv nb,pv pb,pv eb],.func (.func 85) #[] #[pv nb,pv pb,pv eb],.func (.func 87) #[] #[pv nb,pv pb,pv eb],.func (.func 89) #[] #[pv nb,pv pb,pv eb]]::waQ wt []::runH rn 0 x::row wc 258 (watC false 0 0)::F))
   (fun s=>s.1≤4) (fun s=>4-s.1) (0,0,0,0,0) (Nat.zero_le _) fun s hs=>?_
  ·obtain⟨i,l1,l2,l3,l4⟩:=s;have hs:i≤4:=hs;rcases(show i=0∨i=1∨i=2∨i=3∨i=4 by omega)with rfl|rfl|rfl|rfl|rfl
   ·show H _ _ _ [(23,.int .i64 0),_,_,(6,.pointer (some ⟨pb,0,none⟩)),(2,.pointer (some ⟨nb,0,none⟩)),(7,.pointer (some ⟨eb,0,none⟩)),_] f (row nb _ _::row pb _ _::row eb _ _::row rb _ (repN n o pn0 pn0 pn0 pn0 wt rn wc)::row sb _ [_,_,_,_]::waQ _ _::runH _ _ _::row wc _ _::F) _;apply (qhv);apply (qjy);refine BQ (fs:=[]) (cs:=[pv nb,pv pb,pv eb]) rfl rfl rfl rfl (rnew1_fn f _ h3 h11 hodd) fun v f' A' hR=>?_;obtain⟨lb,rfl,hff,rfl⟩:=hR;rw[hff];clear hff;unfold pv;apply (qfd);exact AI (1,lb,l2,l3,l4) (show 1≤4 by decide) (show 4-1<4-0 by decide)
   ·show H _ _ _ [(23,.int .i64 1),_,_,(6,.pointer (some ⟨pb,0,none⟩)),(2,.pointer (some ⟨nb,0,none⟩)),(7,.pointer (some ⟨eb,0,none⟩)),_] f (loQ _ _ _::row nb _ _::row pb _ _::row eb _ _::row rb _ (repN n o (pv l1) pn0 pn0 pn0 wt rn wc)::row sb _ [_,_,_,_]::waQ _ _::runH _ _ _::row wc _ _::F) _;apply (gP);refine B7 (i:=1) rfl rfl rfl rfl jE rfl ?_;apply (qjy);refine BQ (fs:=[]) (cs:=[pv nb,pv pb,pv eb]) rfl rfl rfl rfl (rnew2_fn f _ x h3 h11 hodd) fun v f' A' hR=>?_;obtain⟨lb,rfl,hff,rfl⟩:=hR;rw[hff];clear hff;unfold pv;apply (qfd);apply (qev);exact AI (2,l1,lb,l3,l4) (show 2≤4 by decide) (show 4-2<4-1 by decide)
   ·show H _ _ _ [(23,.int .i64 2),_,_,(6,.pointer (some ⟨pb,0,none⟩)),(2,.pointer (some ⟨nb,0,none⟩)),(7,.pointer (some ⟨eb,0,none⟩)),_] f (lgH _ _ _ _ _ _::loQ _ _ _::row nb _ _::row pb _ _::row eb _ _::row rb _ (repN n o (pv l1) (pv l2) pn0 pn0 wt rn wc)::row sb _ [_,_,_,_]::waQ _ _::runH _ _ _::row wc _ _::F) _;apply (gP);refine B7 (i:=2) rfl rfl rfl rfl jE rfl ?_;apply (qjy);refine BQ (fs:=[]) (cs:=[pv nb,pv pb,pv eb]) rfl rfl rfl rfl (rnew3_fn f _ h3 h11 hodd) fun v f' A' hR=>?_;obtain⟨lb,rfl,hff,rfl⟩:=hR;rw[hff];clear hff;unfold pv;apply (qfd);apply (qev);apply (qjt);exact AI (3,l1,l2,lb,l4) (show 3≤4 by decide) (show 4-3<4-2 by decide)
   ·show H _ _ _ [(23,.int .i64 3),_,_,(6,.pointer (some ⟨pb,0,none⟩)),(2,.pointer (some ⟨nb,0,none⟩)),(7,.pointer (some ⟨eb,0,none⟩)),_] f (chkH _ _ _::lgH _ _ _ _ _ _::loQ _ _ _::row nb _ _::row pb _ _::row eb _ _::row rb _ (repN n o (pv l1) (pv l2) (pv l3) pn0 wt rn wc)::row sb _ [_,_,_,_]::waQ _ _::runH _ _ _::row wc _ _::F) _;apply (gP);refine B7 (i:=3) rfl rfl rfl rfl jE rfl ?_;apply (qjy);refine BQ (fs:=[]) (cs:=[pv nb,pv pb,pv eb]) rfl rfl rfl rfl (rnew4_fn f _ h3 h11 hodd) fun v f' A' hR=>?_;obtain⟨lb,rfl,hff,rfl⟩:=hR;rw[hff];clear hff;unfold pv;apply (qfd);apply (qev);apply (qjt);apply A3 (row lb 266 _);exact AI (4,l1,l2,l3,lb) (show 4≤4 by decide) (show 4-4<4-3 by decide)
   ·have hfo:=zbb (rb:=rb) (n:=n) (o:=o) (x:=x) (r:=qrep n) (ws:=[]) (F:=F) ⟨⟨l1,wt,l2,l3,l4,rn,wc⟩,none,0,none,0⟩;unfold repB at hfo
    rw[qrep_kn,qrep_vt,qrep_ks]at hfo;show H _ _ _ [(23,.int .i64 4),_,_,(6,.pointer (some ⟨pb,0,none⟩)),(2,.pointer (some ⟨nb,0,none⟩)),(7,.pointer (some ⟨eb,0,none⟩)),_] f (row l4 _ _::chkH _ _ _::lgH _ _ _ _ _ _::loQ _ _ _::row nb _ _::row pb _ [.pointer (some ⟨rb,0,none⟩)]::row eb _ _::row rb _ (repN n o (pv l1) (pv l2) (pv l3) (pv l4) wt rn wc)::row sb _ [_,_,_,_]::waQ _ _::runH _ _ _::row wc _ _::F) _;apply (gS);apply (qiO);apply (qfP);apply (qeZ);apply (qkw);refine AY 136 5 ?_;refine AY 34 40 ?_;apply A3 (row wc _ _);apply (qgB);apply A3 (row l4 _ _);apply (qjt);apply (qiW);refine H.imp hfo ?_;exact BN rfl rfl rfl iD ⟨rb,rfl,rfl,rfl⟩
 ·apply (qea);apply A6 [0,1] 7;apply (qdX);refine B9 (i:=2) (j:=7) jD rfl rfl ?_ ?_
  ·refine AW rfl rfl rfl (wnew0_fn f _) fun wt=>?_;apply (qgd);refine B9 (i:=3) (j:=7) jD rfl rfl ?_ ?_
   ·refine AW rfl rfl rfl (runNew_fn f _ x) fun rn=>?_;apply (qgd);refine B9 (i:=4) (j:=7) jD rfl rfl ?_ ?_
    ·refine AW rfl rfl rfl (watNew_fn f _) fun wc=>?_;apply (qgd);apply A6 [5] 3;apply (qfq);refine B9 (i:=6) (j:=7) jD rfl rfl ?_ ?_
     ·refine H.box (ls:=repN n o pn0 pn0 pn0 pn0 wt rn wc) rfl rfl rfl rfl fun rb=>?_;apply (qgd);apply A7 7;refine (qgG) fun pb=>?_;exact qaf
     ·refine (qgG) fun pb=>?_;apply (qgd);apply A7 6;refine H.box (ls:=repN n o pn0 pn0 pn0 pn0 wt rn wc) rfl rfl rfl rfl fun rb=>?_;exact qaf
    ·refine (qgG) fun pb=>?_;exact qau
   ·refine (qgG) fun pb=>?_;exact qbF
  ·refine (qgG) fun pb=>?_;apply (qgd);apply A7 2;refine AW rfl rfl rfl (wnew0_fn f _) fun wt=>?_;exact qbF
end
end Go.Proofs.YtdpgpmbebbaoiaaGreatDoor
