/- Parts of the proof. No conditions. -/
import Derived.Test.YtdpgpmbebbaoiaaGreatDoorZ07
set_option linter.unusedSectionVars false
set_option linter.unusedSimpArgs false
set_option linter.unusedVariables false
set_option maxHeartbeats 1600000
set_option maxRecDepth 20000
namespace Go.Proofs.YtdpgpmbebbaoiaaGreatDoor
open Go Go.Proofs.Tryz
def cntD(T:Nat→Option D32)(d:D32):Nat→Nat
 |0=>0
 |r+1=>cntD T d r+(if T (r+1)=some d then 1 else 0)
def digR(n:Nat)(T:Nat→Option D32):Option D32→Prop
 |some d=>n / 2<cntD T d n
 |none=>∀d,cntD T d n≤n / 2
def dgV(o:Option D32):Value:=.tuple #[encD (o.getD dZ),.bool o.isSome]
theorem cntD_le(T:Nat→Option D32)(d:D32)(r:Nat):∀k,cntD T d r≤cntD T d (r+k)
 |0=>Nat.le_refl _
 |k+1=>Nat.le_trans (cntD_le T d r k) (by show _≤cntD T d (r+k)+_;omega)
theorem cntD_two(T:Nat→Option D32){a b:D32}(h:a≠b):∀r,cntD T a r+cntD T b r≤r
 |0=>Nat.le_refl _
 | r + 1 => by
  have ih:=cntD_two T h r
  show cntD T a r+(if T (r+1)=some a then 1 else 0)+(cntD T b r+(if T (r+1)=some b then 1 else 0))≤r+1
  by_cases h1:T (r+1)=some a
  ·rw[if_pos h1,if_neg (fun h2=>h (by rw[h1]at h2;exact Option.some.inj h2))]
   omega
  ·rw[if_neg h1]
   split<;>omega
variable {n:Nat}
theorem digR_one{T:Nat→Option D32}{a b:Option D32}(ha:digR n T a)(hb:digR n T b):a=b:=by
 cases a with
 | none =>
  cases b with
  |none=>rfl
  |some d=>exact absurd (ha d) (by have:n / 2<cntD T d n:=hb;omega)
 | some c =>
  cases b with
  |none=>exact absurd (hb c) (by have:n / 2<cntD T c n:=ha;omega)
  | some d =>
   by_cases e:c=d
   ·rw[e]
   ·have h1:n / 2<cntD T c n:=ha;have h2:n / 2<cntD T d n:=hb
    have:=cntD_two T e n;omega
def tells(M:CM)(k:Int):Nat→Option D32:=fun r=>tld M ((r:Int),k)
variable {cb mb clock:Nat} {M:CM} {es:List ((Int × Int) × Value × Nat)}
section
variable (f:Frag) (F:List HP)
theorem cdig_core{k:Int}(hes:es.map kvOf=mpV M)(hn:n≤11):Fn prog 78 [.pointer (some ⟨cb,0,none⟩),.int .u64 k] f (row cb 179 (chkRow n mb)::mpS mb encN es clock::F) (RetP (digR n (tells M k)) dgV f (fun _=>row cb 179 (chkRow n mb)::mpS mb encN es clock::F)):=by
 have hhalf:IntKind.wrap .i64 (((n:Nat):Int).tdiv 2)=((n / 2:Nat):Int):=qbe
 refine A9 func78 ntmps78 fun base=>?_;apply (gA);refine (qhi) fun ob=>?_;apply (gR);refine H.makeMap encD rfl rfl fun vb=>?_;apply (gK)
 refine AF (ι:=Nat×List (D32×Value)) (fun i=>[(7,.int .i64 ((i.1+1:Nat):Int)),(6,.map (some vb)),(0,.pointer (some ⟨cb,0,none⟩)),(1,.int .u64 k),(4,.pointer (some ⟨ob,0,none⟩)),(5,.bool false)]) (fun _=>f)
  (fun i=>mp vb encD i.2::row ob 32 (dV dZ)::row cb 179 (chkRow n mb)::mpS mb encN es clock::F)
  (fun i=>i.1≤n∧(∀d,(getKV i.2 d).getD (.int .i64 0)= .int .i64 (cntD (tells M k) d i.1:Nat))∧∀d,cntD (tells M k) d i.1≤n / 2) (fun i=>n-i.1) (0,[]) ⟨Nat.zero_le _,fun d=>rfl,fun d=>Nat.zero_le _⟩ fun i hi=>?_
 obtain⟨r,V⟩:=i;obtain⟨hr,hV,hle⟩:r≤n∧(∀d,(getKV V d).getD (.int .i64 0)= .int .i64 (cntD (tells M k) d r:Nat))∧∀d,cntD (tells M k) d r≤n / 2:=hi;show H _ _ _ ((7,.int .i64 ((r+1:Nat):Int))::_) _ (mp vb encD V::_) _;by_cases hlt:r<n
 ·cases hT:tells M k (r+1)with
  | none =>
   have hget:getKV (es.map kvOf) (((r+1:Nat):Int),k)=none:=by rw[hes,getKV_mpV];show(tells M k (r+1)).map encD=none;rw[hT];rfl
   have hg1:(getKV (es.map kvOf) (((r+1:Nat):Int),k)).getD (encD dZ)=encD dZ:=by rw[hget];rfl
   have hg2:(getKV (es.map kvOf) (((r+1:Nat):Int),k)).isSome=false:=by rw[hget];rfl
   refine (qin) fun xb=>?_;apply (qjg);repeat(first|(refine H.not (c:=true) rfl rfl rfl rfl ?_)|(apply (gU)))
   apply (qhZ)
   have hcn:∀d,cntD (tells M k) d (r+1)=cntD (tells M k) d r:=fun d=>by
    show cntD (tells M k) d r+(if tells M k (r+1)=some d then 1 else 0)=_;rw[hT,if_neg (fun h=>by cases h)];omega
   exact AI (r+1,V) ⟨by show r+1≤n;omega,fun d=>by show _=Value.int .i64 ((cntD (tells M k) d (r+1):Nat):Int);rw[hcn];exact hV d,fun d=>by show cntD (tells M k) d (r+1)≤n / 2;rw[hcn];exact hle d⟩ jU
  | some x =>
   have hget:getKV (es.map kvOf) (((r+1:Nat):Int),k)=some (encD x):=by rw[hes,getKV_mpV];show(tells M k (r+1)).map encD=some (encD x);rw[hT];rfl
   have hg1:(getKV (es.map kvOf) (((r+1:Nat):Int),k)).getD (encD dZ)=encD x:=by rw[hget];rfl
   have hg2:(getKV (es.map kvOf) (((r+1:Nat):Int),k)).isSome=true:=by rw[hget];rfl
   have hcx:=hV x;obtain⟨c,hc⟩:∃c,cntD (tells M k) x r=c:=⟨_,rfl⟩
   rw[hc]at hcx;have hcl:c≤n / 2:=by rw[←hc];exact hle x
   have hV2:∀d,(getKV (putKV (putKV V x (.int .i64 (c:Nat))) x (.int .i64 ((c+1:Nat):Int))) d).getD (.int .i64 0)= .int .i64 ((cntD (tells M k) d r+(if d=x then 1 else 0):Nat):Int):=fun d=>by
    by_cases e:d=x
    ·subst e;rw[zbp,if_pos rfl,hc];rfl
    ·rw[getKV_put_ne _ _ _ _ e,getKV_put_ne _ _ _ _ e,hV d,if_neg e];rfl
   have hcx2:(getKV (putKV V x (.int .i64 (c:Nat))) x).getD (.int .i64 0)= .int .i64 (c:Nat):=by rw[zbp];rfl
   refine (qin) fun xb=>?_;refine AC (ls:=dV dZ) (vs:=dV x) (ls':=dV x) rfl rfl rfl (dV_one _) (dV_len _) (zbl ja) jN jA ?_;repeat(first|(refine H.not (c:=false) rfl rfl rfl rfl ?_)|(apply (gU)))
   apply (qea);apply A6 [0,1] 5;apply (qiL);refine B9 (i:=2) (j:=4) jD rfl rfl ?_ ?_
   ·refine Cp (k:=x) rfl rfl rfl jA rfl hcx rfl ?_;apply (qdE);apply A6 [3] 3;apply (qfq);apply A7 4;refine H.mapEntry (k:=x) rfl rfl rfl (fun st=>jA) rfl rfl fun st=>?_;rw[hcx];apply (qdE);apply A6 [5] 1;apply (gI);exact qac
   ·refine H.mapEntry (k:=x) rfl rfl rfl (fun st=>jA) rfl rfl fun st=>?_;rw[hcx];apply (qdE);apply A6 [5] 3;apply (qfa);apply A7 2;refine FE (k:=x) rfl rfl rfl jA rfl hcx2 rfl ?_;apply (qdE);apply A6 [3] 1;apply (gM);exact qac
 ·have hrn:r=n:=jB
  subst hrn;have hres:digR r (tells M k) none:=hle;apply (gT)
  refine AD (ls:=dV dZ) rfl rfl rfl (Rd.ofRow jA) rfl rfl ?_;apply (qjg);apply (gK);apply A4 (mp vb _ _);exact B5 rfl rfl rfl rfl (Rd.ofRow jA) rfl (fun _ s=>s.drop (.here _ _)) ⟨none,hres,rfl,rfl,rfl⟩
end
variable {P:Program} {fn:Func} {ty:TypeId} {b off:Nat}
theorem results_tmp_cell{t u:Tmp}{tmps:Array Value}{w:World}{v x:Value}(h:fn.results= #[.tmp u,.cell t ty])(hp:tmps.getD t undef= .pointer (some ⟨b,off,none⟩))(hx:tmps.getD u undef=x)
  (hl:(loadVar ty ⟨b,off,none⟩).run P w= .ok v w):(results fn tmps).run P w= .ok (.tuple #[x,v]) w:=by
 have hp':tmps[t]?.getD undef= .pointer (some ⟨b,off,none⟩):=by simpa using hp
 have hx':tmps[u]?.getD undef=x:=by simpa using hx
 simp only[results,h];simp[Sem.run_bind,asAddr,hp',hx',hl]
variable {base:World} {L:Env} {f:Frag} {A A':List HP} {R:Value→Frag→List HP→Prop} {dd:TypeDesc} {m:Nat} {ls:List Value}
theorem Ej{t u:Nat}{x:Value}[hu:Und P ty dd][hs:Siz P ty m](hr:fn.results= #[.tmp u,.cell t ty])(hv:look? L t=some (.pointer (some ⟨b,off,none⟩)))(hx:look? L u=some x)(ha:aggD dd=true)
  (hrd:Rd f A b off ls) (hm:ls.length=m) (hA:∀w,Sat base w f A→Sat base w f A') (h:R (.tuple #[x,.agg ls.toArray]) f A') (hmk:mk? L=none:=by exact rfl):H P base n L f A (.out .ret (.fn (FnPost P fn base R))):=.mk fun a w hf s=>by
 show bodyPost P fn (fun e w'=>∃v f' A',e= .returned v∧R v f' A'∧Sat base w' f' A') .ret a w
 refine bodyPost_ret (v:=.tuple #[x,.agg ls.toArray]) ?_ (hf.bare hmk) ⟨_,f,A',rfl,h,hA w s⟩
 have h1:=hf.get t _ hv
 have h1':=hf.get u _ hx
 have h2:a.tmps.getD t undef= .pointer (some ⟨b,off,none⟩):=by simp[Array.getD_eq_getD_getElem?,h1]
 have h2':a.tmps.getD u undef=x:=by simp[Array.getD_eq_getD_getElem?,h1']
 have h3:=zbs (P:=P) hu ha hs (hrd base w s) hm
 unfold Instr.loadAt Instr.sureAddr at h3
 exact results_tmp_cell hr h2 h2' jY
def stR(n:Nat)(M:CM)(r:Int×D32):Prop:=(r=(0,dZ)∨(0<r.1∧digR n (tells M r.1) (some r.2)))∧∀k d,0<k→digR n (tells M k) (some d)→k≤r.1
def stV(r:Int×D32):Value:=.tuple #[.int .u64 r.1,encD r.2]
theorem cntD_pos{T:Nat→Option D32}{d:D32}:∀ {r:Nat},0<cntD T d r→∃i,T i=some d
 |0,h=>absurd h (Nat.lt_irrefl _)
 | r + 1, h => by
  by_cases e:T (r+1)=some d
  ·exact⟨_,e⟩
  ·have h:0<cntD T d r+(if T (r+1)=some d then 1 else 0):=h
   rw[if_neg e]at h
   exact cntD_pos h
theorem mem_keys(hes:es.map kvOf=mpV M){k:Int×Int}{d:D32}(h:(k,d)∈M):∃e∈es,e.1=k:=by
 have h1:(k,encD d)∈mpV M:=List.mem_map.2 ⟨_,h,rfl⟩;rw[←hes]at h1
 exact qcS
def unseen(es:List ((Int×Int)×Value×Nat))(seen:List (Int×Int)):Nat:=(es.filter fun e=>!seen.contains e.1).length
theorem unseen_lt{seen:List (Int×Int)}{e:(Int×Int)×Value×Nat}(he:e∈es)(hn:e.1∉seen):unseen es (e.1::seen)<unseen es seen:=by
 unfold unseen;refine filter_lt (fun x:(Int×Int)×Value×Nat=>!seen.contains x.1) (fun x=>!(e.1::seen).contains x.1) (fun x hx=>?_) e ?_ ?_ es he
 ·simp only[Bool.not_eq_true',List.contains_eq_mem,decide_eq_false_iff_not,List.mem_cons,not_or]at hx⊢;exact hx.2
 ·simpa using hn
 ·simp
section
variable (f:Frag) (F:List HP)
theorem cst_core(hes:es.map kvOf=mpV M)(hn:n≤11):Fn prog 43 [.pointer (some ⟨cb,0,none⟩)] f (row cb 179 (chkRow n mb)::mpS mb encN es clock::F) (RetP (stR n M) stV f (fun _=>row cb 179 (chkRow n mb)::mpS mb encN es clock::F)):=by
 refine AB func43 ntmps43 fun base=>?_;apply (gG);refine (qhi) fun ob=>?_;apply (gT);refine (qhJ) fun rb=>?_;apply (gK)
 refine AF (ι:=List (Int×Int)×Int×D32) (fun i=>[(14,.pointer (some ⟨rb,0,none⟩)),(0,.pointer (some ⟨cb,0,none⟩)),(2,.int .u64 i.2.1),(3,.pointer (some ⟨ob,0,none⟩))]) (fun _=>f)
  (fun i=>itr rb mb es clock i.1::row ob 32 (dV i.2.2)::row cb 179 (chkRow n mb)::mpS mb encN es clock::F)
  (fun i=>((i.2=(0,dZ))∨(0<i.2.1∧digR n (tells M i.2.1) (some i.2.2)))∧∀key∈i.1,∀d',digR n (tells M key.2) (some d')→key.2≤i.2.1) (fun i=>unseen es i.1) ([],0,dZ) ⟨.inl rfl,fun key hk=>by cases hk⟩ fun i hi=>?_
 obtain⟨seen,k,d⟩:=i;obtain⟨hkd0,hall0⟩:(((k,d):Int×D32)=(0,dZ)∨(0<k∧digR n (tells M k) (some d)))∧∀key∈seen,∀d',digR n (tells M key.2) (some d')→key.2≤k:=hi;show H _ _ _ [_,_,(2,.int .u64 k),_] _ (itr rb mb es clock seen::row ob _ (dV d)::_) _;apply (gA);refine H.next rfl rfl jA jA (fun _=>jA) rfl (fun hend=>?_) (fun e he hns=>?_)
 ·have hres:stR n M (k,d):=⟨hkd0,fun k' d' h0 hd'=>by
   have h1:n / 2<cntD (tells M k') d' n:=hd';obtain⟨r,hr⟩:=cntD_pos (show 0<cntD (tells M k') d' n by omega)
   obtain⟨e,he,hk⟩:=mem_keys hes (tld_mem hr);have h2:=hend e he;rw[hk]at h2
   exact hall0 _ h2 d' hd'⟩
  apply (gR);apply A4 (itr _ _ _ _ _);apply (qea);apply A6 [0,1,2] 1;repeat(first|(refine AH (ls:=dV d) rfl rfl rfl (Rd.ofRow jA) (dV_len d) rfl ?_)|(apply (gV)))
  apply (qdG);apply A7 3;refine AC (ls:=dV d) (vs:=dV d) (ls':=dV d) rfl rfl rfl (dV_one _) (dV_len _) (zbl rfl) (by rw[dV_len];decide) jA ?_;apply (qhU);exact Ej rfl rfl rfl rfl (Rd.ofRow jA) (dV_len d) (fun _ s=>s.drop (.here _ _)) ⟨(k,d),hres,rfl,rfl,rfl⟩
 ·apply (qgo);apply (gO);refine (qks) fun kb=>?_;refine AC (ls:=[.int .i64 0,.int .u64 0]) (vs:=[.int .i64 e.1.1,.int .u64 e.1.2]) (ls':=[.int .i64 e.1.1,.int .u64 e.1.2]) rfl rfl rfl (zaa rfl) rfl rfl (Nat.le_refl 2) jA ?_;apply (gO);apply A3 (mpS _ _ _ _);apply (qdL);refine DG rfl rfl rfl (cdig_core f _ hes hn) fun o ho=>?_;apply (gO);refine (qhi) fun yb=>?_;refine AC (ls:=dV dZ) (vs:=dV (o.getD dZ)) (ls':=dV (o.getD dZ)) rfl rfl rfl (dV_one _) (dV_len _) (zbl (by rw[dV_len,dV_len])) (by rw[dV_len,dV_len];decide) jA ?_;apply A3 (mpS _ _ _ _);apply (qdL);apply (qed);apply A3 (itr _ _ _ _ _)
  cases o with
  | none =>
   have hnew:∀d',digR n (tells M e.1.2) (some d')→e.1.2≤k:=fun d' hd'=>by cases digR_one ho hd'
   apply (gS);apply (qhh);apply A4 (row yb _ _);have hkd:=hkd0;have hall:=hall0
   exact qcN
  | some x =>
   by_cases hgt:k<e.1.2
   ·have hk0:0≤k:=by
     rcases hkd0 with h|h
     ·cases h;exact Int.le_refl _
     ·omega
    have hnew:∀d',digR n (tells M e.1.2) (some d')→e.1.2≤e.1.2:=fun _ _=>Int.le_refl _;have hkd:((e.1.2,x):Int×D32)=(0,dZ)∨(0<e.1.2∧digR n (tells M e.1.2) (some x)):=.inr ⟨by omega,ho⟩
    have hall:∀key∈seen,∀d',digR n (tells M key.2) (some d')→key.2≤e.1.2:=fun key hk d' hd'=>by
     have:=hall0 key hk d' hd';omega
    apply (gS);apply (qef);apply A3 (row yb _ _);apply (qex);apply A6 [0,1,2,3] 1;apply (qiL);apply A7 4;refine AC (ls:=dV d) (vs:=dV x) (ls':=dV x) rfl rfl rfl (dV_one _) (dV_len _) (zbl (by rw[dV_len,dV_len])) (by rw[dV_len,dV_len];decide) jA ?_;apply (qhU);apply (qhh);apply A4 (row yb _ _);clear hkd0 hall0 hk0 hgt;obtain⟨kk,hkk⟩:∃kk,e.1.2=kk:=⟨_,rfl⟩;rw[hkk]at hkd hall⊢;generalize x=dd at hkd⊢;have hnew:∀d',digR n (tells M e.1.2) (some d')→e.1.2≤kk:=fun _ _=>by rw[hkk];exact Int.le_refl _
    exact qaH
   ·have hnew:∀d',digR n (tells M e.1.2) (some d')→e.1.2≤k:=fun _ _=>by omega
    apply (gS);apply (qhh);apply A4 (row yb _ _);have hkd:=hkd0;have hall:=hall0
    clear hkd0 hall0 hgt;exact qcN
theorem cst_fn(hn:n≤11):Fn prog 43 [.pointer (some ⟨cb,0,none⟩)] f (chkH cb n M::F) (RetP (stR n M) stV f (fun _=>chkH cb n M::F)):=by
 refine (qfu) fun mb _=>?_;show Fn _ _ _ _ (row cb _ (chkRow n mb)::mp mb encN (mpV M)::F) _;refine Fn.front (.there _ (.here _ _)) ?_;refine DZ fun es clock hes=>?_;refine Fn.front (.there _ (.here _ _)) ?_;refine Fn.monoA (cst_core f F hes hn) ?_;rintro v f' A' ⟨o,ho,rfl,rfl,rfl⟩;refine⟨_,⟨o,ho,rfl,rfl,rfl⟩,fun x hx=>chkH_fold x (keep_stars (fun y hy=>?_) x hx)⟩;rw[←hes];exact mpS_fold y hy
end
theorem De{t:Nat}{x:Value}[hu:Und P ty dd](hr:fn.results= #[.cell t ty])(hv:look? L t=some (.pointer (some ⟨b,off,none⟩)))(ha:aggD dd=false)
  (hrd:Rd1 f A b off x) (hA:∀w,Sat base w f A→Sat base w f A') (h:R x f A') (hmk:mk? L=none:=by exact rfl):H P base n L f A (.out .ret (.fn (FnPost P fn base R))):=
 D3 (fun a w hf s=>by
  have h1:=hf.get t _ hv
  have h2:a.tmps.getD t undef= .pointer (some ⟨b,off,none⟩):=by simp[Array.getD_eq_getD_getElem?,h1]
  have h3:=zaz (P:=P) hu ha (hrd base w s)
  unfold Instr.loadAt Instr.sureAddr at h3
  exact results_cell hr h2 jY) hA h hmk
variable {p:Option Addr} {l:List UInt8} {c sz:Nat} {T:TypeId} {xs:List Value} {K:Kont}
theorem Co(h:At A (slc p l.length c T sz xs) A' (slc p l.length c T sz xs))
  (k:(p=none→l=[])→H P base n L f A K):H P base n L f A K:=.mk fun a w hf s=>by
 obtain⟨_,_,h3⟩:=s.slc_at h
 refine(k fun hp=>?_).out a w hf s
 rcases h3 with⟨e,_⟩|⟨b,sp,e,_⟩
 ·exact List.eq_nil_of_length_eq_zero e
 ·rw[hp]at e;cases e
def staR(lb tb j:Nat):List Value:=[.pointer (some ⟨lb,0,none⟩),.pointer (some ⟨tb,0,none⟩),.int .u64 (j:Nat)]
def staB(sb j:Nat)(x:UInt8)(i:Nat×Nat):List HP:=[row sb 346 (staR i.1 i.2 j),row i.2 402 (tabC j),ledH i.1 x (ledO j)]
def staH(sb j:Nat)(x:UInt8):HP:=pack (fun _:Nat×Nat=>True) (staB sb j x)
variable {x:UInt8} {j:Nat} {F:List HP}
theorem sta_fold{sb:Nat}(i:Nat×Nat):∀z,stars (staB sb j x i++F) z→stars (staH sb j x::F) z:=zap i trivial
def lastB(b:Bool):List UInt8:=be 8 (bif b then 1 else 0)++be 8 0++be 8 0
def itsB(x:UInt8):Option UInt8→List UInt8
 |none=>[]
 |some y=>be 8 1++[x]++(be 8 1++[y])
def staBytes(x:UInt8)(j:Nat):List UInt8:=be 8 (j:Nat)++(tabL j).flatMap lastB++be 8 (oc (ledO j):Nat)++itsB x (ledO j)
def bufH(bb:Nat)(l:List UInt8):HP:=pack (fun _:Option Addr×Nat=>True) fun i=>[row bb 46 [.slice i.1 l.length i.2],slc i.1 l.length i.2 5 1 (bytesV l)]
variable {bb:Nat}
theorem buf_fold(p:Option Addr)(c:Nat):∀z,stars (row bb 46 [.slice p l.length c]::slc p l.length c 5 1 (bytesV l)::F) z→stars (bufH bb l::F) z:=zap (B:=fun i:Option Addr×Nat=>[row bb 46 [.slice i.1 l.length i.2],slc i.1 l.length i.2 5 1 (bytesV l)]) (p,c) trivial
variable {τ:Nat→UInt8} {s:ByteArray}
section
variable (f:Frag) (F:List HP)
theorem staNew_fn(x:UInt8):Fn prog 137 [] f F (RetE (fun sb:Nat=>.pointer (some ⟨sb,0,none⟩)) f (fun sb=>staH sb 0 x::F)):=by
 refine BX func137 ntmps137 fun base=>?_;apply (gG);refine AW rfl rfl rfl (ledNew_fn f _ x) fun lb=>?_;refine AW rfl rfl rfl (sesNew_fn f _) fun tb=>?_;repeat((refine AT (out:=staR lb tb 0) rfl rfl rfl jD rfl ?_))
 refine H.box (ls:=staR lb tb 0) rfl rfl rfl rfl fun sb=>?_;apply (gK);refine H.imp (sta_fold (j:=0) (lb,tb)) ?_;exact AU ⟨sb,rfl,rfl,rfl⟩
theorem staLast_fn{sb i:Nat}(hi:i<8):Fn prog 284 [.pointer (some ⟨sb,0,none⟩),.int .i64 ((i+1:Nat):Int)] f (staH sb j x::F) (Ret (.agg (lastV (decide (i<j))).toArray) f (staH sb j x::F)):=by
 refine B2 fun⟨lb,tb⟩ _=>?_;apply (qiY);refine A9 func284 ntmps284 fun base=>?_;apply (gA);refine (qkk) fun xb=>?_;apply (gT);apply (qdF);refine A8 rfl rfl rfl (slast_fn f _ hi) ?_;refine AC (ls:=lastV false) (vs:=lastV (decide (i<j))) (ls':=lastV (decide (i<j))) rfl rfl rfl (lastV_one _) rfl rfl (Nat.le_refl 3) jA ?_;apply (gK);apply (qfO);apply (qfl);exact BS (ls:=lastV (decide (i<j))) rfl rfl rfl (Rd.ofRow aP0) rfl (fun _ s=>(s.drop (.here _ _)).imp (sta_fold (lb,tb))) ⟨rfl,rfl,rfl⟩
theorem staDo_fn{sb:Nat}(hj:j<8):Fn prog 342 [.pointer (some ⟨sb,0,none⟩),.agg (qreq x (j+1) τ).vals.toArray] f (staH sb j x::F) (Ret (.tuple #[.agg rpl0.toArray,.bool true]) f (staH sb (j+1) x::F)):=by
 refine B2 fun⟨lb,tb⟩ _=>?_;apply (qiY);refine A9 func342 ntmps342 fun base=>?_;apply (gA);refine H.box (ls:=reqL x (j+1) τ) rfl rfl rfl rfl fun qb=>?_;refine (qiS) fun rb=>?_;apply (gS);apply (qdR);apply (qfO);apply (qex);apply A6 [0,1,2,3,4,5,6,7,8] 5;apply (gF);refine AH (ls:=reqL x (j+1) τ) rfl rfl rfl (Rd.ofRow jA) rfl rfl ?_;apply (qdG);apply (qkF);apply A3 (ledH _ _ _);apply (qdF);refine A8 rfl rfl rfl (sdo_fn f _ hj) ?_;apply (gA);apply (qdR);apply (qfO);apply (qdO);apply A6 [10,11] 2;apply (qjG);apply (qgH);apply (qdE);apply A6 [13] 0;apply (qgJ);apply (qfs);apply (qjS);apply (qdH);exact B5 (ls:=rpl0) rfl rfl rfl rfl (Rd.ofRow aP0) rfl (fun _ s=>(s.drop (.here _ _)).imp (sta_fold (j:=j+1) (lb,tb))) ⟨rfl,rfl,rfl⟩
theorem snum_fn{v:Int}(hl:l.length≤1000000):Fn prog 338 [.int .u64 v,.pointer (some ⟨bb,0,none⟩)] f (bufH bb l::F) (Ret (.tuple #[]) f (bufH bb (l++be 8 v)::F)):=by
 refine B2 fun⟨p,c⟩ _=>?_;show Fn _ _ _ f (row _ _ [.slice p l.length c]::slc p _ c _ _ _::F) _;refine A9 func338 ntmps338 fun base=>?_;refine Co aP1 fun hn=>?_;apply (gO);refine AG rfl rfl rfl (zbj f _ (Src.slcS aP1 jO) hn jB) fun p2 c2=>?_;apply (gC);apply (qeS);refine H.imp (buf_fold p2 c2) ?_;apply A4 (slc p _ _ _ _ _);have e:(l++be 8 v).length=l.length+8:=by rw[List.length_append,be_len]
 exact qan
def numV(bb:Nat):Value:=.func (.func 338) #[] #[.pointer (some ⟨bb,0,none⟩)]
def txtV(nb bb:Nat):Value:=.func (.func 339) #[] #[.pointer (some ⟨nb,0,none⟩),.pointer (some ⟨bb,0,none⟩)]
theorem stxt_fn{nb:Nat}(hl:l.length≤10000)(hs:s.size≤1000):Fn prog 339 [.string s,.pointer (some ⟨nb,0,none⟩),.pointer (some ⟨bb,0,none⟩)] f (bufH bb l::row nb 478 [numV bb]::F) (Ret (.tuple #[]) f (bufH bb (l++be 8 (s.size:Nat)++s.data.toList)::row nb 478 [numV bb]::F)):=by
 have hn:=fun G=>snum_fn (bb:=bb) (l:=l) (v:=(s.size:Nat)) f G jB;have hl2:(l++be 8 (s.size:Nat)).length≤20000:=by rw[List.length_append,be_len];omega
 generalize hg:l++be 8 (s.size:Nat)=g at hn hl2;refine AP func339 ntmps339 fun base=>?_;apply (gL);refine BM (fs:=[]) (cs:=[.pointer (some ⟨bb,0,none⟩)]) rfl rfl rfl rfl (hn _) ?_;refine AM fun⟨p,c⟩ _=>?_;show H _ _ _ _ _ (row _ _ [.slice p g.length c]::slc p _ c _ _ _::_) _;apply (gO);refine AQ (sz:=1) (p:=p) (n0:=g.length) (c:=c) (xs:=bytesV g) (m:=s.size) (news:=bytesV s.data.toList) rfl rfl rfl rfl rfl (fun p' c'=>jA) Src.string (zao _) rfl jB jB fun p2 c2=>?_;have e:g.length+s.size=(g++s.data.toList).length:=by rw[List.length_append];rfl
 rw[e,←zak];apply (gC);refine H.imp (buf_fold p2 c2) ?_;exact qan
theorem tabB_len:∀L:List Bool,(L.flatMap lastB).length=L.length*24
 | []=>rfl
 |b::L=>by rw[List.flatMap_cons,List.length_append,tabB_len L,List.length_cons];simp only[lastB,List.length_append,be_len];omega
def preB(j i:Nat):List UInt8:=be 8 (j:Nat)++((tabL j).take i).flatMap lastB
theorem preB_len{i:Nat}:(preB j i).length≤200:=by
 unfold preB;rw[List.length_append,be_len,tabB_len,List.length_take,zbu];omega
theorem preB_next{i:Nat}(hi:i<8):preB j i++be 8 (bif decide (i<j)then 1 else 0)++be 8 0++be 8 ((ByteArray.empty).size:Nat)++(ByteArray.empty).data.toList=preB j (i+1):=by
 unfold preB;rw[List.take_add_one,tabL_at j hi,List.flatMap_append];show _=_++(_++(lastB _++[]));unfold lastB;simp only[List.append_assoc];rfl
theorem staB_eq(x:UInt8)(j:Nat):staBytes x j=preB j 8++be 8 (oc (ledO j):Nat)++itsB x (ledO j):=by
 unfold staBytes preB;rw[List.take_of_length_le kE]
theorem staB_len(x:UInt8)(j:Nat):(staBytes x j).length≤300:=by
 have:=preB_len (j:=j) (i:=8);rw[staB_eq,List.length_append,List.length_append,be_len]
 have:(itsB x (ledO j)).length≤18:=by cases ledO j<;>simp[itsB,be_len]
 omega
theorem staBytes_fn{sb:Nat}(hj:j≤8):Fn prog 286 [.pointer (some ⟨sb,0,none⟩)] f (staH sb j x::F)
  (fun u g B=>∃(p:Option Addr) (c:Nat),u= .slice p (staBytes x j).length c∧g=f∧B=slc p (staBytes x j).length c 5 1 (bytesV (staBytes x j))::staH sb j x::F):=by
 refine B2 fun⟨lb,tb⟩ _=>?_;apply (qiY);refine AB func286 ntmps286 fun base=>?_;apply (gA);refine (qhe) fun bb=>?_;refine AY 5 1 ?_;apply (qeS);refine H.imp (buf_fold (l:=[]) none 0) ?_;apply (gR);refine AJ (ls:=[.nilFunc]) rfl rfl rfl fun nb=>?_;refine AZ (ls:=[.nilFunc]) (ls':=[numV bb]) rfl rfl rfl rfl jA jG ?_;apply (gO);apply (qfO);apply (qdM);apply (qka);apply (qdX);apply A7 5;apply A3 (bufH bb _);refine BM (fs:=[]) (cs:=[.pointer (some ⟨bb,0,none⟩)]) rfl rfl rfl rfl (snum_fn f _ jE) ?_;apply (gA);apply (qfO);apply (qdM);apply (qhG);apply (gO);apply (qdF);refine AG rfl rfl rfl (slist_fn f _) fun tp tc=>?_;refine AO aP0 jE fun pb hp=>?_;subst hp;apply (gK);rw[show []++be 8 ((j:Nat):Int)=preB j 0 from(List.append_nil _).symm];apply (qdF);apply (qfO);apply (qeO);apply (qdM);apply A3 (bufH _ _)
 refine AF (ι:=Nat) (fun i=>[(26,.int .i64 (i:Nat)),(25,.int .i64 8),(24,.slice (some ⟨pb,0,none⟩) 8 tc),(4,txtV nb bb),(3,.pointer (some ⟨nb,0,none⟩)),(2,.pointer (some ⟨bb,0,none⟩)),(0,.pointer (some ⟨sb,0,none⟩))]) (fun _=>f)
  (fun i=>bufH bb (preB j i)::row nb 478 [numV bb]::slc (some ⟨pb,0,none⟩) 8 tc 399 3 (tabC j)::row sb 346 (staR lb tb j)::row tb 402 (tabC j)::ledH lb x (ledO j)::F)
  (fun i=>i≤8) (fun i=>8-i) 0 jE fun i hi=>?_
 have hi:i≤8:=hi;by_cases hlt:i<8
 ·have hl0:=preB_len (j:=j) (i:=i);have hnx:=preB_next (j:=j) hlt
  apply (qgc);refine (qkk) fun ib=>?_;refine AC (ls:=lastV false) (vs:=lastV (decide (i<j))) (ls':=lastV (decide (i<j))) rfl rfl rfl (lastV_one _) rfl rfl (Nat.le_refl 3) aP0 ?_;apply (gO);apply (qiQ);apply (gL);refine BM (fs:=[]) (cs:=[.pointer (some ⟨bb,0,none⟩)]) rfl rfl rfl rfl (snum_fn f _ jV) ?_;apply (gO);apply (qdM);apply A3 (bufH bb _);refine BM (fs:=[]) (cs:=[.pointer (some ⟨nb,0,none⟩),.pointer (some ⟨bb,0,none⟩)]) rfl rfl rfl rfl (stxt_fn f _ (by rw[List.length_append,List.length_append,be_len,be_len];omega) jE) ?_;rw[hnx];apply (gD);apply A4 (row ib _ _);exact qbn
 ·obtain rfl:i=8:=jB
  have hl0:=preB_len (j:=j) (i:=8);have hol:=oc_le (ledO j)
  apply (gT);apply A3 (ledH _ _ _);refine AG rfl rfl rfl (llist_fn f _) fun ip ic=>?_;apply (gL);apply (qiQ);apply (gK);apply A4 (slc (some ⟨pb,0,none⟩) _ _ _ _ _);apply (qeO);apply (qdM);apply A3 (bufH _ _);have hpl:(preB j 8++be 8 (oc (ledO j):Nat)).length≤300:=by rw[List.length_append,be_len];omega
  have heq:=staB_eq x j;generalize preB j 8++be 8 (oc (ledO j):Nat)=pre at hpl heq
  rw[heq];clear heq;generalize ho:ledO j=o;rw[ho]at hol
  refine AF (ι:=Nat) (fun i=>[(58,.int .i64 (i:Nat)),(57,.int .i64 (oc o:Nat)),(56,.slice ip (oc o) ic),(4,txtV nb bb),(3,.pointer (some ⟨nb,0,none⟩)),(2,.pointer (some ⟨bb,0,none⟩)),(0,.pointer (some ⟨sb,0,none⟩))]) (fun _=>f)
   (fun i=>bufH bb (bif i == 0 then pre else pre++itsB x o)::row nb 478 [numV bb]::slc ip (oc o) ic 473 2 (itL x o)::ledH lb x o::row sb 346 (staR lb tb j)::row tb 402 (tabC j)::F)
   (fun i=>i≤oc o) (fun i=>1-i) 0 (Nat.zero_le _) fun i hi=>?_
  have hi:i≤oc o:=hi;by_cases hlt:i<oc o
  ·obtain rfl:i=0:=jB
   obtain⟨y,rfl⟩:∃y,o=some y:=by
    cases o with
    |none=>exact absurd hlt (by simp[oc])
    |some y=>exact⟨y,rfl⟩
   show H _ _ _ [_,(57,.int .i64 1),(56,.slice ip 1 ic),_,_,_,_] _ (bufH bb pre::row nb _ _::slc ip 1 ic _ 2 (itV x y)::_) _;refine AO jA jB fun pb2 hp=>?_;subst hp;refine (qfF) fun ib=>?_;apply (qib);apply (qdM);apply A3 (bufH bb _);refine BM (fs:=[]) (cs:=[.pointer (some ⟨nb,0,none⟩),.pointer (some ⟨bb,0,none⟩)]) rfl rfl rfl rfl (stxt_fn f _ (s:=chr1 x) jB (show 1≤1000 by decide)) ?_;apply (gO)
   have h2:(pre++be 8 ((chr1 x).size:Nat)++(chr1 x).data.toList).length≤1000:=by
    rw[List.length_append,List.length_append,be_len];show _+1≤_;omega
   refine BM (fs:=[]) (cs:=[.pointer (some ⟨nb,0,none⟩),.pointer (some ⟨bb,0,none⟩)]) rfl rfl rfl rfl (stxt_fn f _ (s:=chr1 y) jB (show 1≤1000 by decide)) ?_;rw[show pre++be 8 ((chr1 x).size:Nat)++(chr1 x).data.toList++be 8 ((chr1 y).size:Nat)++(chr1 y).data.toList=pre++itsB x (some y) by simp only[itsB,List.append_assoc];rfl];exact qdn
  ·have e0:(bif i == 0 then pre else pre++itsB x o)=pre++itsB x o:=by
    cases o with
    |none=>cases i == 0<;>simp[itsB]
    | some y =>
     exact qd
   rw[e0];clear e0;refine AM fun⟨p,c⟩ _=>?_;show H _ _ _ _ _ (row bb _ [.slice p _ c]::slc p _ c _ _ _::_) _;apply (gS);subst ho;apply (qiO);apply A4 (slc ip _ _ _ _ _);apply (qjS);refine H.imp (sta_fold (lb,tb)) ?_;apply A3 (slc p _ _ _ _ _);apply (qeS);exact qcu
theorem DJ{f:Frag}{n0:Nat}(h:At A (slc p n0 c T sz xs) A' (slc p n0 c T sz xs))
  (k:n0≤c→H P base n L f A K):H P base n L f A K:=.mk fun a w hf s=>by
 obtain⟨_,_,h3⟩:=s.slc_at h
 refine(k ?_).out a w hf s
 rcases h3 with⟨e,_⟩|⟨b,sp,_,e,_⟩<;>omega
theorem shaSum_fn(htab:TabAt f){cap:Nat}{b:List UInt8}(hb:BAt f p b)(hcap:b.length≤cap)(hl:b.length≤1000000000):Fn prog 380 [.slice p b.length cap] f F (Ret (.agg (b32 (Sha.sum b)).toArray) f F):=by
 refine AB func380 ntmps380 fun base=>?_;apply (gA);refine (qhi) fun ob=>?_;apply (gA);refine AW rfl rfl rfl (snew_fn f _) fun hb'=>?_;apply (gG);refine A8 rfl rfl rfl (swrite_fn f _ htab hb hcap (by show 0+b.length≤_;omega)) ?_;apply (gG);refine A8 rfl rfl rfl (hsum_fn f _ htab (b:=[]++b) (by show b.length≤_;exact hl)) ?_;refine AC (ls:=dV dZ) (vs:=b32 (Sha.sum ([]++b))) (ls':=b32 (Sha.sum ([]++b))) rfl rfl rfl (zaa rfl) rfl rfl (Nat.le_refl 32) jA ?_;exact qdu
theorem shaSumO_fn(htab:TabAt f){b:List UInt8}(hcap:b.length≤c)(hl:b.length≤1000000000):Fn prog 380 [.slice p b.length c] f (slc p b.length c 5 1 (bytesV b)::F) (Ret (.agg (b32 (Sha.sum b)).toArray) f (slc p b.length c 5 1 (bytesV b)::F)):=
 Fn.frozen fun g hg hd=>shaSum_fn (un f g) F (IntsAt.mono (Le.un f g) htab) (slc_bat _ hg hd) hcap hl
theorem staDigest_fn(htab:TabAt f){sb:Nat}(hj:j≤8):Fn prog 343 [.pointer (some ⟨sb,0,none⟩)] f (staH sb j x::F) (Ret (.agg (b32 (Sha.sum (staBytes x j))).toArray) f (staH sb j x::F)):=by
 have hl:=staB_len x j;refine AB func343 ntmps343 fun base=>?_
 apply (gA);refine (qhi) fun ob=>?_;apply (gR);apply (qiM);refine AG rfl rfl rfl (staBytes_fn f _ hj) fun p c=>?_;refine DJ aP0 fun hc=>?_;refine A8 rfl rfl rfl (shaSumO_fn f _ htab hc jB) ?_;refine AC (ls:=dV dZ) (vs:=b32 (Sha.sum (staBytes x j))) (ls':=b32 (Sha.sum (staBytes x j))) rfl rfl rfl (zaa rfl) rfl rfl (Nat.le_refl 32) jA ?_;apply (gK);apply (qgM);apply (qed);exact qav
theorem bequal_fn{r:Option Addr}{d:Nat}{a b:List UInt8}(ha:Src prog f F (.slice p a.length c) 1 a.length (bytesV a))(hb:Src prog f F (.slice r b.length d) 1 b.length (bytesV b))(hpa:p=none→a=[])(hrb:r=none→b=[]):Fn prog 157 [.slice p a.length c,.slice r b.length d] f F (Ret (.bool (decide (a=b))) f F):=by
 have e2:((⟨a.toArray⟩:ByteArray).toList == (⟨b.toArray⟩:ByteArray).toList)=decide (a=b):=by
  rw[ByteArray.toList_eq,ByteArray.toList_eq,Bool.eq_iff_iff,beq_iff_eq,decide_eq_true_eq]
 refine A9 func157 ntmps157 fun base=>?_;apply (gG);refine D9 rfl rfl ha hpa rfl ?_;apply (gG);refine D9 rfl rfl hb hrb rfl ?_;refine EP rfl rfl rfl rfl e2 rfl ?_;apply (gK);exact qad
end
variable {v:Nat}
section
variable (f:Frag) (F:List HP) (cb:Nat)
theorem cleft_fn:Fn prog 97 [.pointer (some ⟨cb,0,none⟩)] f (cutH f cb l false::F) (Ret (.int .i64 (l.length:Nat)) f (cutH f cb l false::F)):=by
 exact qbQ
theorem cword_fn(hv:v<1000000)(hl:l.length≤1000000):Fn prog 95 [.pointer (some ⟨cb,0,none⟩)] f (cutH f cb (be 8 (v:Nat)++l) false::F) (Ret (.int .u64 (v:Nat)) f (cutH f cb l false::F)):=by
 have h:=cutWord_yes f F cb (l:=be 8 (v:Nat)++l) jV jV;rw[List.take_left' (be_len _ _),List.drop_left' (be_len _ _),numB_be (k:=8) jB]at h
 exact h
theorem ctext_fn(hs:s.size≤1000)(hl:l.length≤100000):Fn prog 335 [.pointer (some ⟨cb,0,none⟩)] f (cutH f cb (be 8 (s.size:Nat)++s.data.toList++l) false::F) (Ret (.string s) f (cutH f cb l false::F)):=by
 have hsl:s.data.toList.length=s.size:=rfl;have h1:=fun G=>cword_fn f G cb (l:=s.data.toList++l) (v:=s.size) jB jR
 have h2:=fun G=>raw_yes f G cb (l:=s.data.toList++l) (n:=s.size) jR jR;have h3:=fun G=>cleft_fn f G cb (l:=s.data.toList++l)
 rw[List.take_left' hsl,List.drop_left' hsl]at h2;have hle:¬((s.size:Nat):Int)>((s.data.toList++l).length:Nat):=by rw[List.length_append];omega
 have hll:(s.data.toList++l).length≤200000:=by rw[List.length_append];omega
 rw[List.append_assoc];generalize s.data.toList++l=w at *;refine AB func335 ntmps335 fun base=>?_;apply (gG);apply A5 (h1 _);apply (gG);apply A5 (h3 _);apply (gP);refine AG rfl rfl rfl (h2 _) fun p c=>?_;refine Co aP0 fun hn=>?_;refine D9 rfl rfl (Src.slcS aP0 jO) hn rfl ?_;apply (gK);exact qaI
end
def resB(x:UInt8)(j:Nat)(o:Option UInt8)(i:Nat):List UInt8:=((tabL j).drop i).flatMap lastB++(be 8 (oc o:Nat)++itsB x o)
theorem itsB_len(x:UInt8)(o:Option UInt8):(itsB x o).length≤18:=by cases o<;>simp[itsB,be_len]
theorem resB_len(x:UInt8)(j:Nat)(o:Option UInt8)(i:Nat):(resB x j o i).length≤300:=by
 have:=itsB_len x o;unfold resB
 rw[List.length_append,List.length_append,be_len,tabB_len,List.length_drop,zbu];omega
theorem resB_next{o:Option UInt8}{i:Nat}(hi:i<8):resB x j o i=be 8 ((bif decide (i<j)then 1 else 0:Nat):Nat)++(be 8 ((0:Nat):Nat)++(be 8 ((ByteArray.empty).size:Nat)++(ByteArray.empty).data.toList++resB x j o (i+1))):=by
 have e:(tabL j).drop i=decide (i<j)::(tabL j).drop (i+1):=by
  rw[List.drop_eq_getElem_cons (by rw[zbu];exact hi)];congr 1;have h1:=tabL_at j hi;rw[List.getElem?_eq_getElem (by rw[zbu];exact hi)]at h1
  exact Option.some.inj h1
 unfold resB;rw[e,List.flatMap_cons];unfold lastB;cases decide (i<j)<;>simp only[List.append_assoc]<;>rfl
theorem resB_zero(x:UInt8)(j:Nat):staBytes x j=be 8 ((j:Nat):Nat)++resB x j (ledO j) 0:=by
 unfold staBytes resB;simp only[List.drop_zero,List.append_assoc]
theorem resB_end(x:UInt8)(j:Nat)(o:Option UInt8):resB x j o 8=be 8 ((oc o:Nat):Nat)++itsB x o:=by
 unfold resB;rw[List.drop_eq_nil_of_le kE];rfl
theorem take_next{i:Nat}(hi:i<8):((tabL j).take i).flatMap lastV++lastV (decide (i<j))=((tabL j).take (i+1)).flatMap lastV:=by
 rw[List.take_add_one,tabL_at j hi,List.flatMap_append];show _=_++(_++[]);rw[List.append_nil]
section
variable (f:Frag) (F:List HP)
theorem staOf_fn(hj:j≤8):Fn prog 285 [.slice p (staBytes x j).length c] f (slc p (staBytes x j).length c 5 1 (bytesV (staBytes x j))::F)
  (RetE (fun sb:Nat=>.tuple #[.pointer (some ⟨sb,0,none⟩),.int .i64 0]) f (fun sb=>staH sb j x::slc p (staBytes x j).length c 5 1 (bytesV (staBytes x j))::F)):=by
 have hbl:=staB_len x j;have hbz:=resB_zero x j
 have hby:=fun(h:Frag) G sb=>staBytes_fn (sb:=sb) (j:=j) (x:=x) h G hj;generalize staBytes x j=b at *
 refine AB func285 ntmps285 fun base=>?_;refine Co aP0 fun hn=>?_;apply (gG);refine AV rfl rfl rfl (octNew_fn f _ (l:=b) (Src.slcS aP0 jO) hn jB) fun v f' A' hr=>?_;obtain⟨g,cb,pc,cc,rfl,hg,hd,hff,rfl⟩:=hr;rw[hff];clear hff;have hwk:Le f (un f g):=Le.un f g;generalize un f g=e at hwk
 rw[show cutH e cb b false=cutH e cb (be 8 ((j:Nat):Nat)++resB x j (ledO j) 0) false by rw[←hbz]];have hrl:=fun i=>resB_len x j (ledO j) i;apply (gG)
 refine A8 rfl rfl rfl (cword_fn e _ cb (v:=j) jB (by have:=hrl 0;omega)) ?_;repeat((refine AT (out:=[.pointer none,.pointer none,.int .u64 (j:Nat)]) rfl rfl rfl jD rfl ?_))
 refine H.box (ls:=[.pointer none,.pointer none,.int .u64 (j:Nat)]) rfl rfl rfl rfl fun sb=>?_;apply (gK);refine AY 399 3 ?_;apply (qfO);apply A3 (cutH _ _ _ _)
 refine AF (ι:=Nat×Option Addr×Nat) (fun i=>[(23,.int .i64 (i.1:Nat)),(7,.bool false),(6,.slice i.2.1 i.1 i.2.2),(5,.pointer (some ⟨sb,0,none⟩)),(4,.pointer (some ⟨cb,0,none⟩)),(0,.slice p b.length c)]) (fun _=>e)
  (fun i=>cutH e cb (resB x j (ledO j) i.1) false::row sb 346 [.pointer none,.pointer none,.int .u64 (j:Nat)]::slc i.2.1 i.1 i.2.2 399 3 (((tabL j).take i.1).flatMap lastV)::slc p b.length c 5 1 (bytesV b)::F)
  (fun i=>i.1≤8) (fun i=>8-i.1) (0,none,0) jE fun i hi=>?_
 obtain⟨i,p6,c6⟩:=i;have hi:i≤8:=hi;show H _ _ _ [(23,.int .i64 (i:Nat)),_,(6,.slice p6 i c6),_,_,_] _ (cutH e cb (resB x j (ledO j) i) false::row _ _ _::slc p6 i c6 _ 3 (((tabL j).take i).flatMap lastV)::_) _
 by_cases hlt:i<8
 ·have hr1:=hrl (i+1);have htn:=take_next (j:=j) hlt
  have hw:(bif decide (i<j)then 1 else 0:Nat)<1000000:=by cases decide (i<j)<;>decide
  have hlv:lastV (decide (i<j))=[.int .u64 ((bif decide (i<j)then 1 else 0:Nat):Nat),.int .i64 0,.string .empty]:=by cases decide (i<j)<;>rfl
  rw[resB_next hlt];rw[hlv]at htn;generalize(bif decide (i<j)then 1 else 0:Nat)=u at hw hlv htn⊢;apply (gN);refine A8 rfl rfl rfl (cword_fn e _ cb hw (by simp only[List.length_append,be_len];show _+(_+0+_)≤_;omega)) ?_;repeat((refine AT (out:=[.int .u64 (u:Nat),.int .i64 0,.string .empty]) rfl rfl rfl jD rfl ?_))
  refine (qkk) fun ib=>?_;refine AC (ls:=lastV false) (vs:=[.int .u64 (u:Nat),.int .i64 0,.string .empty]) (ls':=[.int .u64 (u:Nat),.int .i64 0,.string .empty]) rfl rfl rfl (zaa rfl) rfl rfl (Nat.le_refl 3) aP0 ?_;apply (gG);apply A3 (cutH _ _ _ _);refine A8 rfl rfl rfl (cword_fn e _ cb (v:=0) jE (by simp only[List.length_append,be_len];show _+0+_≤_;omega)) ?_;apply (gS);refine A8 rfl rfl rfl (ctext_fn e _ cb (s:=.empty) jE jB) ?_;apply (gS);refine AC (ls:=[.int .u64 (u:Nat),.int .i64 0,.string .empty]) (vs:=[.int .i64 0,.string .empty]) (ls':=[.int .u64 (u:Nat),.int .i64 0,.string .empty]) rfl rfl rfl (zaa rfl) rfl rfl (Nat.le_refl 3) jA ?_;apply (gG);refine AD (ls:=[.int .u64 (u:Nat),.int .i64 0,.string .empty]) rfl rfl rfl (Rd.ofRow jA) rfl rfl ?_;refine AS (out:=[.int .u64 (u:Nat),.int .i64 0,.string .empty]) rfl rfl rfl rfl jE jE jD rfl fun eb=>?_;refine AQ (sz:=3) (p:=p6) (n0:=i) (c:=c6) (xs:=((tabL j).take i).flatMap lastV) (m:=1) (news:=[.int .u64 (u:Nat),.int .i64 0,.string .empty]) rfl rfl rfl rfl rfl (fun p' c'=>jA) (Src.slice (Rd.ofRow jA) rfl) (zaa rfl) rfl jB jB fun p2 c2=>?_;rw[htn];apply (gD);apply (qeZ);apply A4 (row ib _ _);apply (qfO);apply A3 (cutH _ _ _ _);exact AI (i+1,p2,c2) kN js
 ·obtain rfl:i=8:=jB
  rw[resB_end,List.take_of_length_le kE];have hil:=itsB_len x (ledO j);have hol:=oc_le (ledO j)
  have hby:=hby e;generalize ho:ledO j=o at hil hol
  apply (gE);refine A8 rfl rfl rfl (cword_fn e _ cb (v:=oc o) jB jB) ?_;apply (gK);refine AY 473 2 ?_;apply A3 (cutH _ _ _ _)
  refine AF (ι:=Nat×Option Addr×Nat) (fun i=>[(11,.int .u64 (oc o-i.1:Nat)),(10,.slice i.2.1 i.1 i.2.2),(7,.bool false),(6,.slice p6 8 c6),(5,.pointer (some ⟨sb,0,none⟩)),(4,.pointer (some ⟨cb,0,none⟩)),(0,.slice p b.length c)]) (fun _=>e)
   (fun i=>cutH e cb (bif i.1 == 0 then itsB x o else []) false::slc i.2.1 i.1 i.2.2 473 2 (bif i.1 == 0 then []else itL x o)::row sb 346 [.pointer none,.pointer none,.int .u64 (j:Nat)]::slc p6 8 c6 399 3 (tabC j)::slc p b.length c 5 1 (bytesV b)::F)
   (fun i=>i.1≤oc o) (fun i=>1-i.1) (0,none,0) (Nat.zero_le _) fun i hi=>?_
  obtain⟨i,p1,c1⟩:=i;have hi:i≤oc o:=hi;by_cases hlt:i<oc o
  ·obtain rfl:i=0:=jB
   obtain⟨y,rfl⟩:∃y,o=some y:=by
    cases o with
    |none=>exact absurd hlt (by simp[oc])
    |some y=>exact⟨y,rfl⟩
   show H _ _ _ [(11,.int .u64 1),(10,.slice p1 0 c1),_,_,_,_,_] _ (cutH e cb (itsB x (some y)) false::slc p1 0 c1 _ 2 []::_) _;rw[show itsB x (some y)=be 8 ((chr1 x).size:Nat)++(chr1 x).data.toList++(be 8 ((chr1 y).size:Nat)++(chr1 y).data.toList++[]) by simp only[itsB,List.append_assoc,List.append_nil];rfl];apply (gJ);refine A8 rfl rfl rfl (cutLeft_fn e _ cb) ?_;apply (gS);refine A8 rfl rfl rfl (ctext_fn e _ cb (s:=chr1 x) (show 1≤1000 by decide) (by rw[List.length_append,List.length_append,be_len];show 8+1+0≤_;omega)) ?_;apply (gG);refine A8 rfl rfl rfl (ctext_fn e _ cb (s:=chr1 y) (show 1≤1000 by decide) jE) ?_;apply (gJ);refine AS (out:=itV x y) rfl rfl rfl rfl jE jE jD rfl fun eb=>?_;refine AQ (sz:=2) (p:=p1) (n0:=0) (c:=c1) (xs:=[]) (m:=1) (news:=itV x y) rfl rfl rfl rfl rfl (fun p' c'=>jA) (Src.slice (Rd.ofRow jA) rfl) (zaa rfl) rfl jB jB fun p2 c2=>?_;apply (gD);apply (qeZ);exact AI (1,p2,c2) (Nat.le_refl 1) (Nat.lt_succ_self 0)
  ·obtain rfl:i=oc o:=jB
   have e0:(bif oc o == 0 then itsB x o else [])=[]∧(bif oc o == 0 then []else itL x o)=itL x o:=by cases o<;>exact⟨rfl,rfl⟩
   show H _ _ _ [(11,.int .u64 (oc o-oc o:Nat)),(10,.slice p1 (oc o) c1),_,_,_,_,_] _ (cutH e cb (bif oc o == 0 then itsB x o else []) false::slc p1 (oc o) c1 _ 2 (bif oc o == 0 then []else itL x o)::_) _;rw[e0.1,e0.2,Nat.sub_self];clear e0;apply (gS);refine A8 rfl rfl rfl (cutLeft_fn e _ cb) ?_;apply (gO);refine A8 rfl rfl rfl (cleft_fn e _ cb) ?_;apply (gS);apply A3 (slc p6 _ _ _ _ _);refine AW rfl rfl rfl (sof_fn e _) fun tb=>?_;apply (gO);apply A3 (slc p1 _ _ _ _ _);refine AW rfl rfl rfl (lof_fn e _) fun lb=>?_;apply (gS);subst ho;apply (qjS);refine H.imp (sta_fold (lb,tb)) ?_;refine AG rfl rfl rfl (hby _ sb) fun q d=>?_;refine Co aP0 fun hnq=>?_;apply (gG);refine A8 rfl rfl rfl (bequal_fn e _ (a:=b) (b:=b) (Src.slcS jA jO) (Src.slcS jA jO) hnq hn) ?_;rw[show decide (b=b)=true by simp];apply (qdI);apply A4 (slc q _ _ _ _ _);apply A4 (slc p1 _ _ _ _ _);apply A4 (slc p6 _ _ _ _ _);apply A4 (cutH _ _ _ _);refine H.weakI hwk ?_;exact BN rfl rfl rfl iD ⟨sb,rfl,rfl,rfl⟩
end
def toldV(a:Int):List Value:=[.int .i64 a,.int .u64 1,.int .i64 0,.string .empty,.int .u64 a]
def saidV(a:Int)(b:Bool):List Value:=[.bool b,.int .i64 (bif b then a else 0),.int .u64 (bif b then 1 else 0),.int .i64 0,.string .empty,.int .u64 (bif b then a else 0)]
theorem saidV_len(a:Int)(b:Bool):(saidV a b).length=6:=rfl
theorem saidEq(a:Int)(b:Bool):eqC (saidV a b) (saidV a true)=b:=by
 cases b with
 |false=>simp[saidV,eqC,eqv]
 |true=>simp[saidV,eqC,eqv];rfl
def cliC(n:Nat)(a:Int)(t:Int)(p:Bool)(q:Req)(h:List Bool):List Value:=[.int .i64 (n:Nat),.int .i64 a,.int .u64 t,.bool p]++q.vals++h.flatMap (saidV a)
variable {t:Int} {h:List Bool}
theorem cliC_len{a:Int}{p:Bool}{q:Req}(hh:h.length=11):(cliC n a t p q h).length=110:=by
 unfold cliC;rw[List.length_append,List.length_append,zar (saidV_len a),hh];rfl
theorem cliC_said{a:Int}{p:Bool}{q:Req}(hr:Rd f A b 0 (cliC n a t p q h)):Rd f A b (0+44) (h.flatMap (saidV a)):=
 Rd.sub (pre:=[.int .i64 (n:Nat),.int .i64 a,.int .u64 t,.bool p]++q.vals) (post:=[]) (by rw[List.append_nil];exact hr) rfl
theorem cliC_q{a:Int}{p:Bool}{q:Req}(hr:Rd f A b 0 (cliC n a t p q h)):Rd f A b (0+4) q.vals:=
 Rd.sub (pre:=[.int .i64 (n:Nat),.int .i64 a,.int .u64 t,.bool p]) (post:=h.flatMap (saidV a)) hr rfl
theorem cliC_at{a:Int}{p:Bool}{q:Req}{x:Bool}(hr:Rd f A b 0 (cliC n a t p q h))(hj:h[j]?=some x):Rd f A b (0+44+j*6) (saidV a x):=by
 have h1:=cliC_said hr;rw[flat_split (vals:=saidV a) h hj]at h1
 exact Rd.sub h1 (by rw[zar (saidV_len a),List.length_take,Nat.min_eq_left (by have:=(List.getElem?_eq_some_iff.1 hj).1;omega)])
section
variable (f:Frag) (F:List HP)
theorem cliNew_fn{a:Int}(h3:3≤n)(h11:n≤11)(hodd:n % 2=1)(h1:1≤a)(h8:a≤8):Fn prog 28 [.int .i64 (n:Nat),.int .i64 a] f F (RetE (fun cb:Nat=>.tuple #[.pointer (some ⟨cb,0,none⟩),.int .i64 0]) f (fun cb=>row cb 141 (cliC n a 0 false Req.zero (List.replicate 11 false))::F)):=by
 have hr:((n:Nat):Int).tmod 2=1:=by rw[show(2:Int)=((2:Nat):Int)from rfl,tmod64,hodd];rfl
 refine A9 func28 ntmps28 fun base=>?_;repeat(first|(refine AT (t:=141) (out:=cliC n a 0 false Req.zero (List.replicate 11 false)) rfl rfl rfl jD rfl ?_)|(apply (gU))|(refine H.rem rfl rfl rfl jE hr rfl ?_))
 refine H.box (ls:=cliC n a 0 false Req.zero (List.replicate 11 false)) rfl rfl rfl rfl fun cb=>?_;apply (gK);exact qcp
theorem cliPend_fn{a:Int}{p:Bool}{q:Req}:Fn prog 131 [.pointer (some ⟨cb,0,none⟩)] f (row cb 141 (cliC n a t p q h)::F) (Ret (.tuple #[.agg q.vals.toArray,.bool p]) f (row cb 141 (cliC n a t p q h)::F)):=by
 refine AB func131 ntmps131 fun base=>?_;apply (gA);refine (qfh) fun qb=>?_;apply (gR);apply (qdL);apply (qea);apply A6 [0,1,2,3,4,5,6,7] 2;apply (gF);refine AH (ls:=q.vals) rfl rfl rfl (cliC_q (Rd.ofRow jA)) rfl rfl ?_;apply (qdX);apply A7 8;apply (qja);apply (qdE);apply A6 [9] 0;apply (qgJ);apply (qdR);exact qci
theorem tclient_fn(htab:TabAt f){i:Int}(h1:1≤i)(h2:i≤8):Fn prog 282 [.int .i64 i] f F (BytesR (Sha.word32 clientW i) f F):=by
 refine AB func282 ntmps282 fun base=>?_;apply (gG);refine AG rfl rfl rfl (tkey_fn (w:=⟨#[114,97,116,99,104,101,116,32,99,108,105,101,110,116]⟩) f _ htab h1 h2 jE jE) fun p1 c1=>?_;exact qbD
theorem sign_fn(htab:TabAt f){r:Req}(ha:r.asked):Fn prog 238 [.agg r.vals.toArray] f F (Ret (.agg (b32 r.sig).toArray) f F):=by
 have hbl:=Req.bytes_max ha;have hcl:=fun G=>tclient_fn f G htab ha.1 ha.2.1
 have hrq:=fun G p c=>request_fn f G (p:=p) (c:=c) (l:=[]) r ha jE;have hk:(Sha.word32 clientW r.client).length=32:=rfl
 unfold Req.sig;generalize Sha.word32 clientW r.client=key at hk hcl⊢;rw[show([]:List UInt8)++r.bytes=r.bytes from rfl]at hrq;generalize r.bytes=rb at hbl hrq⊢;refine AB func238 ntmps238 fun base=>?_;refine (qeQ) fun qb=>?_;refine (qfv) fun ob=>?_;apply (gA);apply (qee);apply (qea);apply A6 [0,1,3] 4;apply (gF);apply (qjb);apply (qdG);apply A7 2;refine AG rfl rfl rfl (hcl _) fun p1 c1=>?_;apply (qfi);apply A7 4;refine AY 5 1 ?_;refine AG rfl rfl rfl (hrq _ none 0) fun p2 c2=>?_;refine (qjT) fun hc2 _ _=>?_;apply (gA);apply (qgb);apply A7 5;apply A3 (slc p2 _ _ _ _ _);apply A3 (slc p1 _ _ _ _ _);refine A8 rfl rfl rfl (thmac_ss f _ htab (key:=key) (b:=rb) hc2 jB jB) ?_;generalize Sha.hmac key rb=t;apply (qjr);apply (qdE);apply A7 6;refine AC (ls:=zb 32) (vs:=b32 t) (ls':=b32 t) rfl rfl rfl (zaa rfl) rfl rfl (Nat.le_refl 32) aP1 ?_;apply (qhU);apply (qet);exact qbw
theorem signed_fn(htab:TabAt f)(r:Req):Fn prog 167 [.agg r.vals.toArray] f F (Ret (.agg r.signed.vals.toArray) f F):=by
 have has:=fun G=>asked_fn f G r;unfold Req.signed
 by_cases ha:r.asked
 ·have hsg:=fun G=>sign_fn f G htab ha;rw[if_pos ha]
  rw[decide_eq_true ha]at has;generalize r.sig=t at hsg⊢;refine AB func167 ntmps167 fun base=>?_;refine (qeQ) fun qb=>?_;refine (qfh) fun ob=>?_;apply (gA);apply (qgN);apply A5 (has _);apply (gR);apply (qgN);apply A5 (hsg _);apply (gL);refine AC (ls:=r.vals) (vs:=b32 t) (ls':=({r with tag:=t}:Req).vals) rfl rfl rfl (zaa rfl) rfl (splice_rtag r t) (by show 0+8+32≤40;decide) aP1 ?_;apply (gA);refine AD (ls:=({r with tag:=t}:Req).vals) rfl rfl rfl (Rd.ofRow aP1) rfl rfl ?_;refine AC (ls:=Req.zero.vals) (vs:=({r with tag:=t}:Req).vals) (ls':=({r with tag:=t}:Req).vals) rfl rfl rfl (zaa rfl) rfl rfl (Nat.le_refl 40) aP0 ?_;exact qdk
 ·rw[if_neg ha];rw[decide_eq_false ha]at has;refine AB func167 ntmps167 fun base=>?_;refine (qeQ) fun qb=>?_;refine (qfh) fun ob=>?_;apply (gA);apply (qgN);apply A5 (has _);apply (gE);apply (qgN);refine AC (ls:=Req.zero.vals) (vs:=r.vals) (ls':=r.vals) rfl rfl rfl (zaa rfl) rfl rfl (Nat.le_refl 40) aP0 ?_;exact qdk
theorem auth_fn(htab:TabAt f)(r:Req):Fn prog 241 [.agg r.vals.toArray] f F (Ret (.bool r.auth) f F):=by
 have has:=fun G=>asked_fn f G r;unfold Req.auth
 by_cases ha:r.asked
 ·have hsg:=fun G=>sign_fn f G htab ha;have hsm:=fun G=>tsame_fn f G (a:=r.tag) (b:=r.sig)
  rw[decide_eq_true ha,Bool.true_and];rw[decide_eq_true ha]at has;generalize eq32 r.tag r.sig=e at hsm⊢;generalize r.sig=t at hsg hsm;refine AB func241 ntmps241 fun base=>?_;refine (qeQ) fun qb=>?_;apply (qgz);apply (gF);refine AH (ls:=b32 r.tag) rfl rfl rfl (req_tag aP0) rfl rfl ?_;apply (qjb);apply (qfK);apply A5 (hsg _);apply (qdE);apply A7 7;apply A5 (hsm _);apply (qdE);apply A6 [8,9] 0;apply (gM);exact qdi
 ·rw[decide_eq_false ha,Bool.false_and];rw[decide_eq_false ha]at has;refine AB func241 ntmps241 fun base=>?_;refine (qeQ) fun qb=>?_;apply (qgz);apply (gQ);apply (qfK);apply (qjQ);apply A7 7;apply (qjQ);apply A6 [8,9] 0;apply (gI);exact qdi
end
def qS(x:UInt8)(a:Nat):Req:=qreq x a (qreq x a fun _=>0).sig
def qrow(x:UInt8)(j:Nat):List Req:=(List.range j).map fun i=>qS x (i+1)
theorem qrow_len(x:UInt8)(j:Nat):(qrow x j).length=j:=by simp[qrow]
theorem qrow_at(x:UInt8){i:Nat}(h:i<j):(qrow x j)[i]?=some (qS x (i+1)):=by unfold qrow;rw[List.getElem?_map,List.getElem?_range h];rfl
theorem qrow_next(x:UInt8)(j:Nat):qrow x j++[qS x (j+1)]=qrow x (j+1):=by simp[qrow,List.range_succ]
theorem qrow_take(x:UInt8){k:Nat}(h:j≤k):(qrow x k).take j=qrow x j:=by
 unfold qrow;rw[←List.map_take,List.take_range,Nat.min_eq_left h]
instance keyRun:KeyT prog 415 encN:=keyT_agg (cellsK:=fun k:Int×Int=>[.int .i64 k.1,.int .u64 k.2]) (D:=4) jD (fun k=>by kernel_rfl) jE (fun a b=>by
  obtain⟨a1,a2⟩:=a
  obtain⟨b1,b2⟩:=b
  show(a1 == b1&&(a2 == b2&&true))=_
  by_cases h1:a1=b1<;>by_cases h2:a2=b2<;>simp[h1,h2]) (fun k=>rfl)
def tolE(i:Nat):(Int×Int)×Value:=((((i+1:Nat):Int),1),.agg (toldV ((i+1:Nat):Int)).toArray)
def tolM(j:Nat):List ((Int×Int)×Value):=(List.range j).map tolE
def dgs(x:UInt8)(m:Nat):List (Nat→UInt8):=(List.range m).map fun i=>Sha.sum (staBytes x (4*(i+1)))
theorem dgs_len(x:UInt8)(m:Nat):(dgs x m).length=m:=by simp[dgs]
theorem dgs_at(x:UInt8){i:Nat}(h:i<m):(dgs x m)[i]?=some (Sha.sum (staBytes x (4*(i+1)))):=by unfold dgs;rw[List.getElem?_map,List.getElem?_range h];rfl
theorem dgs_next(x:UInt8)(m:Nat):dgs x m++[Sha.sum (staBytes x (4*(m+1)))]=dgs x (m+1):=by simp[dgs,List.range_succ]
theorem tolM_next(j:Nat):putKV (tolM j) (((j+1:Nat):Int),1) (.agg (toldV ((j+1:Nat):Int)).toArray)=tolM (j+1):=by
 have key:∀L:List ((Int×Int)×Value),(∀e∈L,e.1≠(((j+1:Nat):Int),1))→putKV L (((j+1:Nat):Int),1) (.agg (toldV ((j+1:Nat):Int)).toArray)=L++[tolE j]:=by
  intro L
  induction L with
  |nil=>intro _;rfl
  | cons e r ih =>
   exact qbB
 rw[key _ (fun e he=>?_)]
 ·simp[tolM,List.range_succ]
 ·obtain⟨i,hi,rfl⟩:=List.mem_map.1 he
  have:=List.mem_range.1 hi;exact qcF
variable {a:Nat}
theorem tolM_get(h0:1≤a):getKV (tolM j) ((a:Int),1)=if a≤j then some (.agg (toldV (a:Int)).toArray)else none:=by
 induction j with
 |zero=>rw[if_neg jB];rfl
 | succ j ih =>
  rw[←tolM_next];by_cases e:a=j+1
  ·subst e;rw[zbp,if_pos (Nat.le_refl _)]
  ·rw[getKV_put_ne _ _ _ _ (fun h=>e jh),ih];by_cases h:a≤j
   ·rw[if_pos h,if_pos jB]
   ·rw[if_neg h,if_neg jB]
variable {fid:FuncId}
theorem CX{args:List Value}{f':Frag}{B B':List HP}{v:Value}(h:Fn P fid args f A (Ret v f' B))(hx:∀x,stars B x→stars B' x):Fn P fid args f A (Ret v f' B'):=
 Fn.monoA h fun _ _ _ r=>by obtain⟨rfl,rfl,rfl⟩:=r;exact⟨_,⟨rfl,rfl,rfl⟩,hx⟩
structure RI where
 rp:Option Addr
 rc:Nat
 sb:Nat
 dp:Option Addr
 dc:Nat
 mb:Nat
def runR(j:Nat)(i:RI):List Value:=[.slice i.rp j i.rc,.pointer (some ⟨i.sb,0,none⟩),.slice i.dp (j / 4) i.dc,.map (some i.mb)]
def runB(rb j:Nat)(x:UInt8)(i:RI):List HP:=[row rb 256 (runR j i),slc i.rp j i.rc 34 40 ((qrow x j).flatMap Req.vals),staH i.sb j x,slc i.dp (j / 4) i.dc 32 32 ((dgs x (j / 4)).flatMap b32),mp i.mb encN (tolM j)]
def runH(rb j:Nat)(x:UInt8):HP:=pack (fun _:RI=>True) (runB rb j x)
variable {rb:Nat}
theorem run_fold(i:RI):∀z,stars (runB rb j x i++F) z→stars (runH rb j x::F) z:=zap i trivial
section
variable (f:Frag) (F:List HP)
theorem runNew_fn(x:UInt8):Fn prog 81 [] f F (RetE (fun rb:Nat=>.pointer (some ⟨rb,0,none⟩)) f (fun rb=>runH rb 0 x::F)):=by
 refine BX func81 ntmps81 fun base=>?_;apply (gG);refine AW rfl rfl rfl (staNew_fn f _ x) fun sb=>?_;refine H.makeMap encN rfl rfl fun mb=>?_;repeat((refine AT (out:=runR 0 ⟨none,0,sb,none,0,mb⟩) rfl rfl rfl jD rfl ?_))
 refine H.box (ls:=runR 0 ⟨none,0,sb,none,0,mb⟩) rfl rfl rfl rfl fun rb=>?_;apply (gK);refine AY 32 32 ?_;refine AY 34 40 ?_;apply (qg);apply A3 (slc _ _ _ 32 _ _);apply (qiM);apply A3 (slc _ _ _ 34 _ _);apply (qdH);refine H.imp (run_fold (j:=0) (x:=x) ⟨none,0,sb,none,0,mb⟩) ?_;exact AU ⟨rb,rfl,rfl,rfl⟩
theorem runCountG_fn{v1 v2 v3:Value}(hj:j≤1000):Fn prog 291 [.pointer (some ⟨rb,0,none⟩)] f (row rb 256 [.slice p j c,v1,v2,v3]::F) (Ret (.int .u64 (j:Nat)) f (row rb 256 [.slice p j c,v1,v2,v3]::F)):=by
 refine AB func291 ntmps291 fun base=>?_;apply (gS);exact qad
theorem runCount_fn{i:RI}(hj:j≤1000):Fn prog 291 [.pointer (some ⟨rb,0,none⟩)] f (row rb 256 (runR j i)::F) (Ret (.int .u64 (j:Nat)) f (row rb 256 (runR j i)::F)):=runCountG_fn f F hj
theorem runCountH_fn(hj:j≤1000):Fn prog 291 [.pointer (some ⟨rb,0,none⟩)] f (runH rb j x::F) (Ret (.int .u64 (j:Nat)) f (runH rb j x::F)):=by
 refine (qfu) fun i _=>?_;exact CX (runCount_fn f _ hj) (run_fold i)
theorem runState_fn(hj:j≤8):Fn prog 243 [.pointer (some ⟨rb,0,none⟩)] f (runH rb j x::F) (RetE (fun sb:Nat=>.pointer (some ⟨sb,0,none⟩)) f (fun sb=>staH sb j x::runH rb j x::F)):=by
 refine (qfu) fun i _=>?_;apply (qkx);refine AB func243 ntmps243 fun base=>?_;apply (gT);apply (qiM);refine AG rfl rfl rfl (staBytes_fn f _ hj) fun p c=>?_;refine AW rfl rfl rfl (staOf_fn f _ hj) fun sb=>?_;apply (gR);apply A4 (slc p _ _ 5 _ _);apply (qg);apply A3 (slc _ _ _ 32 _ _);apply A3 (staH i.sb _ _);apply A3 (slc _ _ _ 34 _ _);apply (qdH);refine H.imp (run_fold i) ?_;apply A3 (staH sb _ _);exact AU ⟨sb,rfl,rfl,rfl⟩
theorem runDigest_fn(hm:4*(m+1)≤j)(hj:j≤1000):Fn prog 295 [.pointer (some ⟨rb,0,none⟩),.int .u64 ((4*(m+1):Nat):Int)] f (runH rb j x::F) (Ret (.tuple #[.agg (b32 (Sha.sum (staBytes x (4*(m+1))))).toArray,.bool true]) f (runH rb j x::F)):=by
 refine B2 fun⟨rp,rc,sb,dp,dc,mb⟩ _=>?_;have hc:=fun G=>runCount_fn f G (rb:=rb) (i:=⟨rp,rc,sb,dp,dc,mb⟩) hj;have hfo:=run_fold (rb:=rb) (j:=j) (x:=x) (F:=F) ⟨rp,rc,sb,dp,dc,mb⟩
 unfold runB at hfo;show Fn _ _ _ f (row _ _ (runR j ⟨rp,rc,sb,dp,dc,mb⟩)::slc _ _ _ _ _ _::staH _ _ _::slc _ _ _ _ _ _::mp _ _ _::F) _;obtain⟨k,hk⟩:∃k,k=4*(m+1):=⟨_,rfl⟩
 have hr:((k:Nat):Int).tmod 4=0:=by
  rw[show(4:Int)=((4:Nat):Int)from rfl,tmod64,hk];omega
 have hq:((k:Nat):Int).tdiv 4=((m+1:Nat):Int):=by
  rw[show(4:Int)=((4:Nat):Int)from rfl,tdiv64,hk];omega
 rw[←hk]at hm⊢;have hdj:m<j / 4:=jB
 have hdat:=dgs_at x hdj;rw[←hk]at hdat
 generalize Sha.sum (staBytes x k)=t at hdat⊢;have hdl:=dgs_len x (j / 4);generalize dgs x (j / 4)=ds at hdat hdl hfo⊢
 refine A9 func295 ntmps295 fun base=>?_;apply (gA);refine (qfv) fun ob=>?_;repeat(first|(apply (gU))|(refine H.rem rfl rfl rfl jE hr rfl ?_))
 apply (qdH);apply A5 (hc _);apply (gS);refine H.quo (z:=((m+1:Nat):Int)) rfl rfl rfl jE (by rw[hq,wr_u64 jB]) rfl ?_;apply (gL);refine AO (p:=dp) (n0:=j / 4) (c:=dc) (xs:=ds.flatMap b32) (T:=32) (sz:=32) jA jB fun db hp=>?_;subst hp;refine B7 (i:=m) rfl rfl rfl jB hdj rfl ?_;refine AD (ls:=b32 t) rfl rfl rfl (by rw[Nat.zero_add];exact Rd.slcElem (sz:=32) (vals:=b32) (xs:=ds) (fun _=>rfl) jE jA hdat) rfl rfl ?_;refine AC (ls:=zb 32) (vs:=b32 t) (ls':=b32 t) rfl rfl rfl (zaa rfl) rfl rfl (Nat.le_refl 32) jA ?_;apply (gK);apply (qed);exact B5 (ls:=b32 t) rfl rfl rfl rfl (Rd.ofRow aP0) rfl (fun _ s=>(s.drop (.here _ _)).imp hfo) ⟨rfl,rfl,rfl⟩
theorem runReply_fn(h1:1≤a):Fn prog 239 [.pointer (some ⟨rb,0,none⟩),.int .i64 (a:Nat),.int .u64 1] f (runH rb j x::F) (Ret (.tuple #[.agg (if a≤j then toldV (a:Nat)else [.int .i64 0,.int .u64 0,.int .i64 0,.string .empty,.int .u64 0]).toArray,.bool (decide (a≤j))]) f (runH rb j x::F)):=by
 refine (qfu) fun i _=>?_;apply (qkx);have hg:=tolM_get (j:=j) h1;refine AP func239 ntmps239 fun base=>?_
 apply (gA);refine (qeo) fun ob=>?_;apply (gT);refine Dw (enc:=encN) (k:=((a:Int),1)) (v:=.agg (if a≤j then toldV (a:Nat)else [.int .i64 0,.int .u64 0,.int .i64 0,.string .empty,.int .u64 0]).toArray) (i:=decide (a≤j)) rfl rfl rfl jA rfl (by rw[hg];split<;>rfl) (by rw[hg];split<;>simp_all) rfl ?_;generalize hls:(if a≤j then toldV (a:Nat)else [.int .i64 0,.int .u64 0,.int .i64 0,.string .empty,.int .u64 0])=ls;have hlen:ls.length=5:=by rw[←hls];split<;>rfl
 have hone:∀v∈ls,one v=true:=by rw[←hls];split<;>exact zaa rfl
 have hset:∀l:List Value,l.length=5→splice l 0 ls=ls:=fun l hl=>by
  exact qbc
 apply (gO);refine (qeo) fun tb=>?_;refine AC (ls:=[.int .i64 0,.int .u64 0,.int .i64 0,.string .empty,.int .u64 0]) (vs:=ls) (ls':=ls) rfl rfl rfl hone hlen (hset _ rfl) (by rw[hlen];decide) aP0 ?_;apply (gG);refine AD (ls:=ls) rfl rfl rfl (Rd.ofRow jA) hlen rfl ?_;apply (gG);refine AC (ls:=[.int .i64 0,.int .u64 0,.int .i64 0,.string .empty,.int .u64 0]) (vs:=ls) (ls':=ls) rfl rfl rfl hone hlen (hset _ rfl) (by rw[hlen];decide) jA ?_;apply (gK);apply (qeG);apply (qed);exact B5 (ls:=ls) rfl rfl rfl rfl (Rd.ofRow aP0) hlen (fun _ s=>(s.drop (.here _ _)).imp (run_fold i)) ⟨rfl,rfl,rfl⟩
end
theorem req40(r:Req):r.vals.length=40:=rfl
theorem reqs_one(l:List Req):∀v∈l.flatMap Req.vals,one v=true:=fun v hv=>by
 obtain⟨r,_,h⟩:=List.mem_flatMap.1 hv
 exact zaa (l:=r.vals) rfl v h
theorem ListAt.takeQ{α:Type}{vals:α→List Value}{l:List α}(h:ListAt f p sz vals l)(k:Nat):ListAt f p sz vals (l.take k):=fun i x hx=>by
 rw[List.getElem?_take]at hx
 split at hx
 ·exact h i x hx
 ·cases hx
variable {pa lp:Option Addr} {ca lc:Nat}
section
variable (f:Frag) (F:List HP)
theorem reqsEq_fn{pb:Option Addr}{xs:List Req}(hA:ListAt f pa 40 Req.vals xs)(hB:ListAt f pb 40 Req.vals xs)(hl:xs.length≤1000000):Fn prog 18 [.slice pa xs.length ca,.slice pb xs.length cb] f F (Ret (.bool true) f F):=by
 refine A9 func18 ntmps18 fun base=>?_;apply (gN);refine AF (ι:=Nat) (fun i=>[(13,.int .i64 (i:Int)),(12,.int .i64 (xs.length:Int)),(0,.slice pa xs.length ca),(1,.slice pb xs.length cb)]) (fun _=>f) (fun _=>F) (fun i=>i≤xs.length) (fun i=>xs.length-i) 0 (Nat.zero_le _) fun i hi=>?_;have hi:i≤xs.length:=hi;by_cases hlt:i<xs.length
 ·obtain⟨y,hy⟩:∃y,xs[i]?=some y:=⟨_,List.getElem?_eq_getElem hlt⟩;obtain⟨b,off,cs,T,fr,rfl,hfb,hcs⟩:=hA i y hy;obtain⟨b2,off2,cs2,T2,fr2,rfl,hfb2,hcs2⟩:=hB i y hy;have he:eqC y.vals y.vals=true:=eqC_refl rfl;apply (gN)
  refine BB ?_;apply (gB);refine Cn (i:=i) rfl rfl rfl rfl hlt rfl ?_;refine AH (ls:=y.vals) rfl rfl rfl (Rd.imm hfb hcs) rfl rfl ?_;apply (gB);refine Cn (i:=i) rfl rfl rfl rfl hlt rfl ?_;refine AH (ls:=y.vals) rfl rfl rfl (Rd.imm hfb2 hcs2) rfl rfl ?_;refine DL (xs:=y.vals) (ys:=y.vals) (D:=4) (b:=false) rfl rfl rfl rfl jD jD jD jD jE (by rw[he];rfl) rfl ?_;apply (gQ);apply (gT);exact AI (i+1) (by show i+1≤xs.length;omega) (by show xs.length-(i+1)<xs.length-i;omega)
 ·have e:i=xs.length:=jB
  subst e;apply (gN);exact qad
theorem reqsEqO_fn{pb:Option Addr}{da:Nat}{xs:List Req}(hl:xs.length≤1000)(hj:j≤xs.length):Fn prog 18 [.slice pa j da,.slice pb j cb] f (slc pa xs.length ca 34 40 (xs.flatMap Req.vals)::slc pb j cb 34 40 ((xs.take j).flatMap Req.vals)::F)
   (Ret (.bool true) f (slc pa xs.length ca 34 40 (xs.flatMap Req.vals)::slc pb j cb 34 40 ((xs.take j).flatMap Req.vals)::F)):=by
 have hlt:(xs.take j).length=j:=by rw[List.length_take];omega
 refine Fn.frozen fun g hg hd=>Fn.frozen fun g2 hg2 hd2=>?_;have h1:ListAt (un (un f g) g2) pa 40 Req.vals (xs.take j):=(((slc_listAt req40 hg).mono (Le.right hd)).mono (Le.un _ g2)).takeQ j;have h2:ListAt (un (un f g) g2) pb 40 Req.vals (xs.take j):=(slc_listAt req40 (c:=cb) (T:=34) (by rw[hlt];exact hg2)).mono (Le.right hd2)
 have h3:=reqsEq_fn (un (un f g) g2) F (ca:=da) (cb:=cb) h1 h2 jB;rw[hlt]at h3
 exact h3
def tolL(j m:Nat):List Value:=(List.range m).flatMap fun i=>toldV ((j+i+1:Nat):Int)
theorem tolL_next(j m:Nat):tolL j m++toldV ((j+m+1:Nat):Int)=tolL j (m+1):=by simp[tolL,List.range_succ]
def runP(j:Nat)(i:RI)(p:Option Addr)(n c:Nat)(dp:Option Addr)(dn dc:Nat):List Value:=[.slice p n c,.pointer (some ⟨i.sb,0,none⟩),.slice dp dn dc,.map (some i.mb)]
theorem runUp_fn(htab:TabAt f){k:Nat}(hjk:j≤k)(hk:k≤8):Fn prog 288 [.pointer (some ⟨rb,0,none⟩),.slice lp k lc] f (slc lp k lc 34 40 ((qrow x k).flatMap Req.vals)::runH rb j x::F)
  (fun u g B=>∃(p:Option Addr) (c:Nat),u= .tuple #[.slice p (k-j) c,.int .i64 0]∧g=f∧B=slc p (k-j) c 136 5 (tolL j (k-j))::runH rb k x::slc lp k lc 34 40 ((qrow x k).flatMap Req.vals)::F):=by
 refine Fn.front (x:=runH _ _ _) (.there _ (.here _ _)) ?_;refine B2 fun⟨rp,rc,sb,dp,dc,mb⟩ _=>?_;have heq:=fun G=>reqsEqO_fn f G (pa:=lp) (pb:=rp) (ca:=lc) (da:=lc) (cb:=rc) (j:=j) (xs:=qrow x k) (by rw[qrow_len];omega) (by rw[qrow_len];exact hjk);rw[qrow_take x hjk,qrow_len]at heq
 show Fn _ _ _ f (row _ _ [.slice rp j rc,.pointer (some ⟨sb,0,none⟩),.slice dp (j / 4) dc,.map (some mb)]::slc rp _ _ _ _ _::staH _ _ _::slc dp _ _ _ _ _::mp _ _ _::slc lp _ _ _ _ _::F) _;refine A9 func288 ntmps288 fun base=>?_;refine DJ (p:=lp) (n0:=k) (c:=lc) (T:=34) (sz:=40) jA fun hcl=>?_;apply (gT);apply A3 (slc rp _ _ _ _ _);apply (qj);apply (qdH);apply (qea);apply A6 [0,1,2,3,4,5,6,7,8,9,10] 3;apply (gF);refine HQ.slice (lo:=none) (hi:=some (.tmp 28)) (mx:=none) (lv:=0) (hv:=j) (mv:=lc) rfl rfl rfl ⟨_,_,rfl,rfl⟩ rfl (fun h=>by cases h) (Nat.zero_le _) jB (Nat.le_refl _) rfl ?_;rw[slP0];apply (qdX);apply A7 11;apply A3 (slc rp _ _ _ _ _);apply (qj);apply A5 (heq _);apply (qeL);apply A6 [12,13] 0;refine HQ.not (b:=true) (c:=false) rfl rfl rfl rfl ?_;apply (qdP);apply (gT);refine H.slice (lo:=some (.tmp 41)) (hi:=none) (mx:=none) (lv:=j) (hv:=k) (mv:=lc) rfl rfl ⟨_,_,rfl,rfl⟩ rfl rfl (fun h=>by cases h) hjk hcl (Nat.le_refl _) rfl ?_;apply (gK);refine AY 136 5 ?_;apply (qj);apply (qg);apply A3 (slc dp _ _ _ _ _);apply (qiM);apply A3 (slc rp _ _ _ _ _);apply (qdH)
 refine AF (ι:=Nat×RI×Option Addr×Nat) (fun i=>[(44,.int .i64 (i.1:Nat)),(43,.int .i64 (k-j:Nat)),(42,.slice (slP lp j lc 40) (k-j) (lc-j)),(5,.int .i64 0),(4,.slice i.2.2.1 i.1 i.2.2.2),(0,.pointer (some ⟨rb,0,none⟩)),(1,.slice lp k lc)]) (fun _=>f)
  (fun i => row rb 256 (runR (j + i.1) i.2.1) :: slc i.2.1.rp (j + i.1) i.2.1.rc 34 40 ((qrow x (j + i.1)).flatMap Req.vals) :: staH i.2.1.sb (j + i.1) x :: slc i.2.1.dp ((j + i.1) / 4) i.2.1.dc 32 32 ((dgs x ((j + i.1) / 4)).flatMap b32) :: mp i.2.1.mb encN (tolM (j + i.1)) ::
   slc lp k lc 34 40 ((qrow x k).flatMap Req.vals)::slc i.2.2.1 i.1 i.2.2.2 136 5 (tolL j i.1)::F)
  (fun i=>i.1≤k-j) (fun i=>k-j-i.1) (0,⟨rp,rc,sb,dp,dc,mb⟩,none,0) (Nat.zero_le _) fun i hi=>?_
 clear heq;obtain⟨i,⟨rp,rc,sb,dp,dc,mb⟩,p4,c4⟩:=i;have hi:i≤k-j:=hi;obtain⟨J,hJ⟩:∃J,J=j+i:=⟨_,rfl⟩
 show H _ _ _ [(44,.int .i64 (i:Nat)),_,_,_,(4,.slice p4 i c4),_,_] _ (row rb _ (runR (j+i) ⟨rp,rc,sb,dp,dc,mb⟩)::slc rp (j+i) rc _ _ ((qrow x (j+i)).flatMap Req.vals)::staH sb (j+i) x::slc dp ((j+i) / 4) dc _ _ ((dgs x ((j+i) / 4)).flatMap b32)::mp mb encN (tolM (j+i))::_::slc p4 i c4 _ _ _::F) _;rw[←hJ];by_cases hlt:i<k-j
 ·refine AO (p:=lp) (n0:=k) (c:=lc) (T:=34) (sz:=40) jA jB fun lpb hp=>?_;subst hp;have hJ8:J<8:=jB
  rw[slP_ne (show lc≠j by omega),Nat.zero_add];show H _ _ _ _ _ (row rb _ [.slice rp J rc,.pointer (some ⟨sb,0,none⟩),.slice dp (J / 4) dc,.map (some mb)]::_) _;apply (qkm);rw[show j*40+i*40=J*40 by omega];refine AD (ls:=(qS x (J+1)).vals) rfl rfl rfl (Rd.slcElem (sz:=40) (vals:=Req.vals) (xs:=qrow x k) req40 jE jA (qrow_at x jB)) rfl rfl ?_;refine (qfh) fun qb=>?_;refine AC (ls:=Req.zero.vals) (vs:=(qS x (J+1)).vals) (ls':=reqL x (J+1) (qS x (J+1)).tag) rfl rfl rfl (zaa rfl) rfl rfl (Nat.le_refl 40) aP0 ?_;apply (gA);apply (qfU);apply (qki);apply (qfK);refine AS (out:=(qS x (J+1)).vals) rfl rfl rfl rfl jE jE jD rfl fun eb=>?_;apply (qgv);apply (qgb);apply A7 7;refine AQ (sz:=40) (p:=rp) (n0:=J) (c:=rc) (xs:=(qrow x J).flatMap Req.vals) (m:=1) (news:=(qS x (J+1)).vals) rfl rfl rfl rfl rfl (fun p' c'=>jA) (Src.slice (Rd.ofRow jA) rfl) (zaa rfl) rfl jB jB fun rp2 rc2=>?_;rw[show(qrow x J).flatMap Req.vals++(qS x (J+1)).vals=(qrow x (J+1)).flatMap Req.vals by rw[←qrow_next,List.flatMap_append];simp];apply (qij);apply (qgj);apply (qeI);apply (gA)
  refine H.cut (ι:=Nat) (fun ob=>[(8,.pointer (some ⟨ob,0,none⟩)),(9,.bool true),(7,.pointer (some ⟨qb,0,none⟩)),(44,.int .i64 (i:Nat)),(43,.int .i64 (k-j:Nat)),(42,.slice (some ⟨lpb,j*40,none⟩) (k-j) (lc-j)),(5,.int .i64 0),(4,.slice p4 i c4),(0,.pointer (some ⟨rb,0,none⟩)),(1,.slice (some ⟨lpb,0,none⟩) k lc)]) (fun _=>f)
   (fun ob => row ob 51 rpl0 :: row qb 34 (reqL x (J + 1) (qS x (J + 1)).tag) :: row rb 256 (runP J ⟨rp2, rc2, sb, dp, dc, mb⟩ rp2 (J + 1) rc2 dp (J / 4) dc) :: slc rp2 (J + 1) rc2 34 40 ((qrow x (J + 1)).flatMap Req.vals) :: staH sb (J + 1) x ::
    slc dp (J / 4) dc 32 32 ((dgs x (J / 4)).flatMap b32)::mp mb encN (tolM J)::slc (some ⟨lpb,0,none⟩) k lc 34 40 ((qrow x k).flatMap Req.vals)::slc p4 i c4 136 5 (tolL j i)::F) (fun _=>True) _ (fun ob _=>?_) ?_
  ·have hcn:=fun G v2=>runCountG_fn f G (rb:=rb) (j:=J+1) (c:=rc2) (p:=rp2) (v1:=.pointer (some ⟨sb,0,none⟩)) (v2:=v2) (v3:=.map (some mb)) jB;apply (gR)
   refine H.cut (ι:=Nat) (fun tb=>[(10,.pointer (some ⟨tb,0,none⟩)),(7,.pointer (some ⟨qb,0,none⟩)),(44,.int .i64 (i:Nat)),(43,.int .i64 (k-j:Nat)),(42,.slice (some ⟨lpb,j*40,none⟩) (k-j) (lc-j)),(5,.int .i64 0),(4,.slice p4 i c4),(0,.pointer (some ⟨rb,0,none⟩)),(1,.slice (some ⟨lpb,0,none⟩) k lc)]) (fun _=>f)
    (fun tb => row tb 136 (toldV ((J + 1 : Nat) : Int)) :: row qb 34 (reqL x (J + 1) (qS x (J + 1)).tag) :: row rb 256 (runP J ⟨rp2, rc2, sb, dp, dc, mb⟩ rp2 (J + 1) rc2 dp (J / 4) dc) :: slc rp2 (J + 1) rc2 34 40 ((qrow x (J + 1)).flatMap Req.vals) :: staH sb (J + 1) x ::
     slc dp (J / 4) dc 32 32 ((dgs x (J / 4)).flatMap b32)::mp mb encN (tolM J)::slc (some ⟨lpb,0,none⟩) k lc 34 40 ((qrow x k).flatMap Req.vals)::slc p4 i c4 136 5 (tolL j i)::F) (fun _=>True) _ (fun tb _=>?_) ?_
   ·have htm:=tolM_next J;show H _ _ _ _ _ (_::_::row rb _ [.slice rp2 (J+1) rc2,.pointer (some ⟨sb,0,none⟩),.slice dp (J / 4) dc,.map (some mb)]::_) _
    apply (gA);refine BY 10 jD jJ ?_;apply (gH);refine C1 (ls:=toldV ((J+1:Nat):Int)) rfl rfl rfl (Rd.ofRow jA) rfl rfl ?_;apply (gI);refine CN (enc:=encN) (k:=(((J+1:Nat):Int),1)) rfl rfl rfl rfl jA rfl ?_;rw[htm];apply (gG);refine AD (ls:=toldV ((J+1:Nat):Int)) rfl rfl rfl (Rd.ofRow jA) rfl rfl ?_;refine AS (out:=toldV ((J+1:Nat):Int)) rfl rfl rfl rfl jE jE jD rfl fun eb2=>?_;refine AQ (sz:=5) (p:=p4) (n0:=i) (c:=c4) (xs:=tolL j i) (m:=1) (news:=toldV ((J+1:Nat):Int)) rfl rfl rfl rfl rfl (fun p' c'=>jA) (Src.slice (Rd.ofRow jA) rfl) (zaa rfl) rfl jB jB fun p5 c5=>?_;rw[show tolL j i++toldV ((J+1:Nat):Int)=tolL j (i+1) by rw[←tolL_next,hJ]];apply (gG);apply A4 (row eb2 _ _);apply (qeG);apply (qdH);apply A5 (hcn _ _);refine H.rem rfl rfl rfl jE (show((J+1:Nat):Int).tmod ((4:Nat):Int)=_ from tmod64 _ _) rfl ?_;by_cases h4:(J+1) % 4=0
    ·have hdg:=dgs_next x (J / 4);rw[show 4*(J / 4+1)=J+1 by omega,show J / 4+1=(J+1) / 4 by omega]at hdg
     have hdn:J / 4+1=(J+1) / 4:=jB
     apply (gN);refine H.dc [0,1,2,3,4,5,6,7,8,9,10,11] (S:=[_]) rfl ?_;apply A6 [0,1,2,3,4,5,6,7,8] 6;apply (qdX);apply (qkF);apply A3 (staH sb _ _);refine A8 rfl rfl rfl (staDigest_fn f _ htab jB) ?_;apply (qeL);apply (qke);refine AS (out:=b32 (Sha.sum (staBytes x (J+1)))) rfl rfl rfl rfl jE jE jD rfl fun db=>?_;apply (qeL);apply A7 11;refine AQ (sz:=32) (p:=dp) (n0:=J / 4) (c:=dc) (xs:=(dgs x (J / 4)).flatMap b32) (m:=1) (news:=b32 (Sha.sum (staBytes x (J+1)))) rfl rfl rfl rfl rfl (fun p' c'=>jA) (Src.slice (Rd.ofRow jA) rfl) (zaa rfl) rfl jB jB fun dp2 dc2=>?_;rw[show(dgs x (J / 4)).flatMap b32++b32 (Sha.sum (staBytes x (J+1)))=(dgs x ((J+1) / 4)).flatMap b32 by rw[←hdg,List.flatMap_append];simp,hdn];apply (gA);apply A4 (row db _ _);apply (qdO);apply (qeJ);apply A6 [12,13] 1;apply (qdX);apply A7 14;apply (qeI);apply (gD);apply (qfs);subst hJ;apply (qiM);apply A3 (slc rp2 _ _ _ _ _);apply (qdH);exact AI (i+1,⟨rp2,rc2,sb,dp2,dc2,mb⟩,p5,c5) (by show i+1≤k-j;omega) (by show k-j-(i+1)<k-j-i;omega)
    ·rw[show J / 4=(J+1) / 4 by omega];apply (gP);apply (qfs);subst hJ;exact AI (i+1,⟨rp2,rc2,sb,dp,dc,mb⟩,p5,c5) (by show i+1≤k-j;omega) (by show k-j-(i+1)<k-j-i;omega)
   ·apply (qed);apply (qdR);apply (qex);apply A6 [0,1,2,3,4,5] 4;apply (gF);refine AH (ls:=rpl0) rfl rfl rfl (Rd.ofRow jA) rfl rfl ?_;apply (qgK);refine B9 (i:=6) (j:=8) jD rfl rfl ?_ ?_
    ·apply (qdH);apply A5 (hcn _ _);apply (qjw);apply A6 [7] 2;apply (qkB);apply A7 8;refine (qeo) fun tb=>?_;apply (qjw);exact qaD
    ·refine (qeo) fun tb=>?_;apply (qjw);apply A7 6;apply (qdH);apply A5 (hcn _ _);apply (qjw);apply A6 [7] 1;apply (qkB);exact qaD
  ·apply (qdH);apply (qdR);apply (qex);apply A6 [0,1,2,3,4] 7;apply (gF);apply (qki);apply (qdG);refine B9 (i:=5) (j:=9) jD rfl rfl ?_ ?_
   ·apply (qiy);apply A6 [6,7,8] 3;apply (qfa);apply (qkF);refine (qiS) fun ob=>?_;apply (qgv);apply (qgb);exact qaE
   ·refine (qiS) fun ob=>?_;apply (qgv);apply (qgb);apply A7 5;apply (qiy);apply A6 [6,7,8] 2;apply (qfa);exact qaE
 ·obtain rfl:i=k-j:=jB
  have hJk:J=k:=jB
  subst hJk;apply (gN);refine H.imp (run_fold ⟨rp,rc,sb,dp,dc,mb⟩) ?_;refine CE (x:=slc p4 _ _ _ _ _) (.there _ (.there _ (.here _ _))) ?_;exact BN rfl rfl rfl iD ⟨p4,c4,rfl,rfl,rfl⟩
end
abbrev key64(k:Int):Value:=.int .u64 k
instance keyT64:KeyT prog 29 key64:=keyT_int ⟨underlying29⟩
def pstB(pb v:Nat)(i:Option Addr×Nat×Nat):List HP:=[row pb 176 [.int .u64 0,.slice i.1 1 i.2.1,.map (some i.2.2)],slc i.1 1 i.2.1 29 1 [.int .u64 0],mp i.2.2 key64 [((0:Int),.int .i64 (v:Nat))]]
def pst0(pb v:Nat):HP:=pack (fun _:Option Addr×Nat×Nat=>True) (pstB pb v)
variable {pb:Nat}
theorem pst_fold(i:Option Addr×Nat×Nat):∀z,stars (pstB pb v i++F) z→stars (pst0 pb v::F) z:=zap i trivial
section
variable (f:Frag) (F:List HP) {pb v:Nat}
theorem pnew_fn:Fn prog 140 [] f F (RetE (fun pb:Nat=>.pointer (some ⟨pb,0,none⟩)) f (fun pb=>pst0 pb 0::F)):=by
 refine BX func140 ntmps140 fun base=>?_;apply (gG);refine (qiv) fun eb=>?_;refine H.makeMap key64 rfl rfl fun mb=>?_;refine Dx (enc:=key64) (k:=(0:Int)) rfl rfl rfl rfl jA rfl ?_;apply (gN);refine H.box (ls:=[.int .u64 0,.slice (some ⟨eb,0,none⟩) 1 1,.map (some mb)]) rfl rfl rfl rfl fun pb=>?_;apply (gK);apply (qel);refine CB (k:=1) (sz:=1) rfl jE ?_;apply (qe);refine H.imp (pst_fold (v:=0) (some ⟨eb,0,none⟩,1,mb)) ?_;exact AU ⟨pb,rfl,rfl,rfl⟩
theorem popen_fn(i:Option Addr×Nat×Nat):Fn prog 370 [.pointer (some ⟨pb,0,none⟩),.int .u64 0] f (pstB pb v i++F) (Ret (.bool true) f (pstB pb v i++F)):=by
 obtain⟨ep,ec,mb⟩:=i
 have hl:Fn prog 369 [.pointer (some ⟨pb,0,none⟩)] f (pstB pb v (ep,ec,mb)++F) (Ret (.int .u64 0) f (pstB pb v (ep,ec,mb)++F)):=by
  show Fn _ _ _ f (row _ _ [_,.slice ep 1 ec,_]::slc ep 1 ec _ _ _::mp _ _ _::F) _;refine AB func369 ntmps369 fun base=>?_;refine AO (p:=ep) (n0:=1) (c:=ec) (T:=29) (sz:=1) jA jE fun eb hp=>?_;subst hp;apply (gG);apply (qhz);refine Cn (i:=0) rfl rfl rfl rfl jE rfl ?_;refine B6 (v:=.int .u64 0) rfl rfl rfl (Rd1.of (i:=0) (Rd.ofSlc jA jE) rfl) rfl ?_;apply (gQ);apply (gK);exact qad
 show Fn _ _ _ f (row _ _ [_,.slice ep 1 ec,_]::slc ep 1 ec _ _ _::mp _ _ _::F) _;refine A9 func370 ntmps370 fun base=>?_;apply (gS);refine A8 rfl rfl rfl hl ?_;apply (gJ);exact qad
theorem pprep_fn(hv:v≤1000):Fn prog 330 [.pointer (some ⟨pb,0,none⟩),.int .u64 0] f (pst0 pb v::F) (Ret (.bool true) f (pst0 pb (v+1)::F)):=by
 refine B2 fun⟨ep,ec,mb⟩ _=>?_;have ho:=popen_fn f F (pb:=pb) (v:=v) (ep,ec,mb);show Fn _ _ _ f (row _ _ [_,.slice ep 1 ec,.map (some mb)]::slc ep 1 ec _ _ _::mp mb _ _::F) _
 refine A9 func330 ntmps330 fun base=>?_;apply (qie);exact qaU
theorem pcommit_fn{most:Nat}(hm:v<most)(hv:most≤1000):Fn prog 331 [.pointer (some ⟨pb,0,none⟩),.int .u64 0,.int .u64 ((v+1:Nat):Int),.int .i64 (most:Nat)] f (pst0 pb v::F) (Ret (.bool true) f (pst0 pb (v+1)::F)):=by
 refine B2 fun⟨ep,ec,mb⟩ _=>?_;have ho:=popen_fn f F (pb:=pb) (v:=v) (ep,ec,mb);show Fn _ _ _ f (row _ _ [_,.slice ep 1 ec,.map (some mb)]::slc ep 1 ec _ _ _::mp mb _ _::F) _
 refine BK func331 ntmps331 fun base=>?_;apply (qie);refine Cp (enc:=key64) (k:=(0:Int)) (v:=.int .i64 (v:Nat)) rfl rfl rfl jA rfl rfl rfl ?_;apply (gS);exact qaU
theorem pgreat_fn:Fn prog 42 [.pointer (some ⟨pb,0,none⟩)] f (pst0 pb v::F) (Ret (.int .u64 0) f (pst0 pb v::F)):=by
 refine B2 fun⟨ep,ec,mb⟩ _=>?_;show Fn _ _ _ f (row _ _ _::slc ep 1 ec _ _ _::mp mb _ _::F) _;refine AB func42 ntmps42 fun base=>?_;apply (gT);exact AE rfl rfl (pst_fold (ep,ec,mb)) ⟨rfl,rfl,rfl⟩
theorem pvoted_fn:Fn prog 258 [.pointer (some ⟨pb,0,none⟩),.int .u64 0] f (pst0 pb v::F) (Ret (.tuple #[.int .i64 (v:Nat),.bool true]) f (pst0 pb v::F)):=by
 refine B2 fun⟨ep,ec,mb⟩ _=>?_;show Fn _ _ _ f (row _ _ _::slc ep 1 ec _ _ _::mp mb _ _::F) _;refine A9 func258 ntmps258 fun base=>?_;apply (gT);refine Dw (enc:=key64) (k:=(0:Int)) (v:=.int .i64 (v:Nat)) (i:=true) rfl rfl rfl jA rfl rfl rfl rfl ?_;apply (gR);exact BN rfl rfl rfl (pst_fold (ep,ec,mb)) ⟨rfl,rfl,rfl⟩
end
open Go.Sort (ltInt)
theorem fam_more(g:Nat→HP)(k:Nat)(A:List HP):stars (g k::fam g k::A)=stars (fam g (k+1)::A):=by
 show star _ (star _ _)=star (star _ _) _;rw[star_assoc];rfl
theorem fam_congr{g g':Nat→HP}{k:Nat}(h:∀j,j<k→g j=g' j):fam g k=fam g' k:=by
 unfold fam;rw[rngH_congr k h]
theorem fam_zero(g:Nat→HP)(A:List HP):stars (fam g 0::A)=stars A:=emp_star _
instance keyAsk:KeyT prog 466 encN:=keyT_agg (cellsK:=fun k:Int×Int=>[.int .i64 k.1,.int .u64 k.2]) (D:=4) jD (fun k=>by kernel_rfl) jE (fun a b=>by
  obtain⟨a1,a2⟩:=a
  obtain⟨b1,b2⟩:=b
  show(a1 == b1&&(a2 == b2&&true))=_
  by_cases h1:a1=b1<;>by_cases h2:a2=b2<;>simp[h1,h2]) (fun k=>rfl)
def ptrV(b:Nat):List Value:=[.pointer (some ⟨b,0,none⟩)]
theorem pbs_next(pb:Nat→Nat)(i b:Nat):((List.range (i+1)).map (updF pb i b)).flatMap ptrV=((List.range i).map pb).flatMap ptrV++ptrV b:=by
 rw[List.range_succ,List.map_append,List.flatMap_append];congr 1
 ·congr 1;apply List.map_congr_left;intro j hj;exact zcf _ _ (by have:=List.mem_range.1 hj;omega)
 ·simp[zbg]
def numsV(m:Nat):List Value:=(List.range m).map fun i=>.int .u64 ((i+1:Nat):Int)
theorem numsV_at{i:Nat}(h:i<m):(numsV m)[i]?=some (.int .u64 ((i+1:Nat):Int)):=by unfold numsV;rw[List.getElem?_map,List.getElem?_range h];rfl
theorem numsV_next(m:Nat):numsV m++[.int .u64 ((m+1:Nat):Int)]=numsV (m+1):=by simp[numsV,List.range_succ]
def askE(i:Nat):(Int×Int)×Value:=((((i+1:Nat):Int),1),.bool true)
def askM(j:Nat):List ((Int×Int)×Value):=(List.range j).map askE
theorem askM_next(j:Nat):putKV (askM j) (((j+1:Nat):Int),1) (.bool true)=askM (j+1):=by
 have key:∀L:List ((Int×Int)×Value),(∀e∈L,e.1≠(((j+1:Nat):Int),1))→putKV L (((j+1:Nat):Int),1) (.bool true)=L++[askE j]:=by
  intro L
  induction L with
  |nil=>intro _;rfl
  | cons e r ih =>
   exact qbB
 rw[key _ (fun e he=>?_)]
 ·simp[askM,List.range_succ]
 ·obtain⟨i,hi,rfl⟩:=List.mem_map.1 he
  have:=List.mem_range.1 hi;exact qcF
theorem askM_get(h0:1≤a):(getKV (askM j) ((a:Int),1)).getD (.bool false)= .bool (decide (a≤j)):=by
 induction j with
 |zero=>rw[decide_eq_false jB];rfl
 | succ j ih =>
  rw[←askM_next];by_cases e:a=j+1
  ·subst e;rw[zbp,decide_eq_true (Nat.le_refl _)];rfl
  ·rw[getKV_put_ne _ _ _ _ (fun h=>e jh),ih];congr 1;rw[decide_eq_decide];omega
def vwC(num:Int)(s:Nat)(lp:Option Addr)(m lc:Nat)(np:Option Addr)(k nc hb:Nat):List Value:=[.int .u64 num,.int .i64 (s:Nat),.slice lp m lc,.slice np k nc,.map (some hb)]
def knV(kn:Nat→Nat):List Value:=v11 fun i=>((kn i:Nat):Int)
def lgC(n:Nat)(kn:Nat→Nat)(vb:Nat)(pp:Option Addr)(pl pc:Nat)(cp:Option Addr):List Value:=[.int .i64 (n:Nat)]++knV kn++[.map (some vb),.slice pp pl pc,.slice cp n n]
structure LI0 where
 vb:Nat
 pp:Option Addr
 pc:Nat
 cp:Option Addr
 wb:Nat
 lp:Option Addr
 lc:Nat
 np:Option Addr
 nc:Nat
 hb:Nat
 pb:Nat→Nat
def vwB(lg:Nat)(x:UInt8)(i:LI0):List HP:=[row i.wb 242 (vwC 0 0 i.lp lg i.lc i.np lg i.nc i.hb),slc i.lp lg i.lc 34 40 ((qrow x lg).flatMap Req.vals),mp i.hb encN (askM lg),slc i.np lg i.nc 29 1 (numsV lg)]
def lgB(lb n:Nat)(kn:Nat→Nat)(lg:Nat)(vt:Nat→Nat)(x:UInt8)(i:LI0):List HP:=
 [row lb 172 (lgC n kn i.vb i.pp n i.pc i.cp),mp i.vb key64 [((0:Int),.pointer (some ⟨i.wb,0,none⟩))]]++(vwB lg x i++[slc i.pp n i.pc 129 1 (((List.range n).map i.pb).flatMap ptrV),fam (fun o=>pst0 (i.pb o) (vt o)) n,slc i.cp n n 457 1 (zeros [.slice none 0 0] n)])
def lgH(lb n:Nat)(kn:Nat→Nat)(lg:Nat)(vt:Nat→Nat)(x:UInt8):HP:=pack (fun _:LI0=>True) (lgB lb n kn lg vt x)
variable {lb lg:Nat} {kn vt:Nat→Nat}
theorem lg_fold(i:LI0):∀z,stars (lgB lb n kn lg vt x i++F) z→stars (lgH lb n kn lg vt x::F) z:=zap i trivial
variable {vb pc pl o:Nat} {pp cp:Option Addr}
section
variable (f:Frag) (F:List HP)
theorem lgfew_fn(h3:3≤n)(h11:n≤11)(hodd:n % 2=1):Fn prog 139 [.int .i64 (n:Nat)] f F (Ret (.bool true) f F):=by
 have hr:((n:Nat):Int).tmod 2=1:=by rw[show(2:Int)=((2:Nat):Int)from rfl,tmod64,hodd];rfl
 have h:=decide_eq_true (show((n:Nat):Int)≤11 by omega);refine AB func139 ntmps139 fun base=>?_
 exact qcI
theorem lgprim_fn(h3:3≤n)(h11:n≤11):Fn prog 325 [.pointer (some ⟨lb,0,none⟩),.int .u64 0] f (row lb 172 (lgC n kn vb pp pl pc cp)::F) (Ret (.int .i64 1) f (row lb 172 (lgC n kn vb pp pl pc cp)::F)):=by
 refine A9 func325 ntmps325 fun base=>?_;apply (gL);refine H.rem (z:=0) rfl rfl rfl jB (by rw[Int.zero_tmod]) rfl ?_;apply (gD);exact qad
theorem lgpast_fn{pb:Nat→Nat}(h11:n≤11)(ho:o<n):Fn prog 41 [.pointer (some ⟨lb,0,none⟩),.int .i64 ((o+1:Nat):Int)] f (row lb 172 (lgC n kn vb pp n pc cp)::slc pp n pc 129 1 (((List.range n).map pb).flatMap ptrV)::F)
  (Ret (.pointer (some ⟨pb o,0,none⟩)) f (row lb 172 (lgC n kn vb pp n pc cp)::slc pp n pc 129 1 (((List.range n).map pb).flatMap ptrV)::F)):=by
 have hat:((List.range n).map pb)[o]?=some (pb o):=by rw[List.getElem?_map,List.getElem?_range ho];rfl
 refine A9 func41 ntmps41 fun base=>?_;refine AO (p:=pp) (n0:=n) (c:=pc) (T:=129) (sz:=1) jA jB fun ppb hp=>?_;subst hp;apply (gS);refine B7 (i:=o) rfl rfl rfl jB ho rfl ?_;refine AL (v:=.pointer (some ⟨pb o,0,none⟩)) rfl rfl rfl (by rw[Nat.zero_add];exact Rd1.of (i:=0) (Rd.slcElem (sz:=1) (vals:=ptrV) (xs:=(List.range n).map pb) (fun _=>rfl) jE jA hat) rfl) rfl ?_;apply (gK);exact qad
theorem lgNew_fn(x:UInt8)(h3:3≤n)(h11:n≤11)(hodd:n % 2=1):Fn prog 86 [.int .i64 (n:Nat)] f F (RetE (fun lb:Nat=>.tuple #[.pointer (some ⟨lb,0,none⟩),.int .i64 0]) f (fun lb=>lgH lb n (fun _=>0) 0 (fun _=>0) x::F)):=by
 have hf:=fun G=>lgfew_fn f G h3 h11 hodd;refine AB func86 ntmps86 fun base=>?_
 apply (gG);apply A5 (hf _);apply (qgg);apply (gE);refine H.makeMap key64 rfl rfl fun vb=>?_;refine H.makeMap encN rfl rfl fun hb=>?_;refine AT (t:=242) (out:=vwC 0 0 none 0 0 none 0 0 hb) rfl rfl rfl jD rfl ?_;refine H.box (ls:=vwC 0 0 none 0 0 none 0 0 hb) rfl rfl rfl rfl fun wb=>?_;refine Dx (enc:=key64) (k:=0) (m:=[]) rfl rfl rfl rfl jA rfl ?_;apply (gG);refine Eh (m:=n) (zs:=[.slice none 0 0]) rfl rfl rfl rfl rfl rfl rfl jE jB jB rfl fun cb=>?_;refine AT (t:=172) (out:=lgC n (fun _=>0) vb none 0 0 (some ⟨cb,0,none⟩)) rfl rfl rfl jD rfl ?_;refine H.box (ls:=lgC n (fun _=>0) vb none 0 0 (some ⟨cb,0,none⟩)) rfl rfl rfl rfl fun lb=>?_;apply (gK);refine AY 129 1 ?_;refine H.conv (fam_zero (fun r=>pst0 (0*r) 0) _).symm ?_;apply A3 (slc none 0 0 _ _ _);apply (qeh)
 refine AF (ι:=Nat×Option Addr×Nat×(Nat→Nat)) (fun s=>[(19,.int .i64 (s.1:Int)),(18,.int .i64 (n:Int)),(4,.pointer (some ⟨lb,0,none⟩))]) (fun _=>f)
  (fun s=>row lb 172 (lgC n (fun _=>0) vb s.2.1 s.1 s.2.2.1 (some ⟨cb,0,none⟩))::slc s.2.1 s.1 s.2.2.1 129 1 (((List.range s.1).map s.2.2.2).flatMap ptrV)::fam (fun r=>pst0 (s.2.2.2 r) 0) s.1::row cb 457 (zeros [.slice none 0 0] n)::row wb 242 (vwC 0 0 none 0 0 none 0 0 hb)::mp hb encN []::mp vb key64 [(0,.pointer (some ⟨wb,0,none⟩))]::F)
  (fun s=>s.1≤n) (fun s=>n-s.1) (0,none,0,fun r=>0*r) (Nat.zero_le _) fun s hs=>?_
 obtain⟨i,pp,pc,pb⟩:=s;have hi:i≤n:=hs;show H _ _ _ [(19,.int .i64 (i:Int)),_,_] f (row lb _ (lgC n _ vb pp i pc _)::slc pp i pc _ 1 (((List.range i).map pb).flatMap ptrV)::fam (fun r=>pst0 (pb r) 0) i::_::_::_::_::F) _
 by_cases hlt:i<n
 ·apply (gN);refine H.dc [0,1,2,3,4,5,6,7] (S:=[_]) rfl ?_;apply A6 [0,1,2,3,4] 6;apply (qdX);apply A7 5;refine AW rfl rfl rfl (pnew_fn f _) fun b=>?_;apply (gA);apply (qeh);apply (qdO);apply A7 6;refine AS (out:=ptrV b) rfl rfl rfl rfl jE jE rfl rfl fun eb=>?_;apply (gA);apply (qeh);apply (qdO);apply A7 7;refine AQ (sz:=1) (p:=pp) (n0:=i) (c:=pc) (xs:=((List.range i).map pb).flatMap ptrV) (m:=1) (news:=ptrV b) rfl rfl rfl rfl rfl (fun p' c'=>jA) (Src.slice (Rd.ofRow jA) rfl) (zaa rfl) rfl jB jB fun p2 c2=>?_;apply (qij);apply (qgj);refine AZ (ls:=lgC n (fun _=>0) vb pp i pc (some ⟨cb,0,none⟩)) (ls':=lgC n (fun _=>0) vb p2 (i+1) c2 (some ⟨cb,0,none⟩)) rfl rfl rfl rfl aP0 jG ?_;apply (qeX);apply (gD);apply (qiX);apply A3 (pst0 b 0)
  have e1:fam (fun r=>pst0 (pb r) 0) i=fam (fun r=>pst0 (updF pb i b r) 0) i:=fam_congr fun j hj=>by
   show _=pst0 (updF pb i b j) 0;rw[zcf _ _ jB]
  have e2:pst0 b 0=pst0 (updF pb i b i) 0:=by rw[zbg]
  rw[e1,e2];refine H.conv (fam_more (fun r=>pst0 (updF pb i b r) 0) i _) ?_;apply A3 (slc p2 _ c2 _ _ _);apply (qeh);refine AX (i+1,p2,c2,updF pb i b) (by show i+1≤n;omega) (by show n-(i+1)<n-i;omega) ⟨rfl,rfl,rfl,trivial⟩ rfl ?_;show _::slc p2 (i+1) c2 _ 1 _::_=_::slc p2 (i+1) c2 _ 1 (((List.range (i+1)).map (updF pb i b)).flatMap ptrV)::_;rw[pbs_next]
 ·have e:i=n:=jB
  subst e;apply (gN);apply (qdL);refine CB (k:=i) (sz:=1) (by rw[zeros_length];rfl) jB ?_;apply (qgC);refine AY 29 1 ?_;apply (qhH);refine AY 34 40 ?_;apply (qgr);refine H.imp (lg_fold (n:=i) (kn:=fun _=>0) (lg:=0) (vt:=fun _=>0) (x:=x) ⟨vb,pp,pc,some ⟨cb,0,none⟩,wb,none,0,none,0,hb,pb⟩) ?_;exact qco
end
open Go.Sort (ltInt)
theorem shr1(m:Nat):shiftI .shr .u64 (m:Int) 1=some ((m / 2:Nat):Int):=by
 show some ((m:Int).fdiv 2)=some _;congr 1;rw[Int.fdiv_eq_ediv_of_nonneg _ jE];omega
variable {hb nc:Nat} {np:Option Addr}
section
variable (f:Frag) (F:List HP)
theorem nanS_fn(x:Int):Fn prog 395 [.int .u64 x] f F (Ret (.bool false) f F):=by
 refine AB func395 ntmps395 fun base=>?_;exact qbY
theorem bs0_fn{t:Nat}(hm:m≤1000):Fn prog 371 [.slice p m c,.int .u64 (t:Nat)] f (slc p m c 29 1 (numsV m)::F)
  (Ret (.tuple #[.int .i64 (min (t-1) m:Nat),.bool (decide (1≤t∧t≤m))]) f (slc p m c 29 1 (numsV m)::F)):=by
 obtain⟨M,hM⟩:∃M,M=min (t-1) m:=⟨_,rfl⟩;rw[←hM];have hMm:M≤m:=jB
 refine A9 func371 ntmps371 fun base=>?_;apply (gK)
 refine AF (ι:=Nat×Nat) (fun s=>[(7,.int .i64 (s.1:Int)),(8,.int .i64 (s.2:Int)),(6,.int .i64 (m:Nat)),(0,.slice p m c),(1,.int .u64 (t:Nat))]) (fun _=>f) (fun _=>slc p m c 29 1 (numsV m)::F)
  (fun s=>s.1≤M∧M≤s.2∧s.2≤m) (fun s=>s.2-s.1) (0,m) ⟨Nat.zero_le _,hMm,Nat.le_refl _⟩ fun s hs=>?_
 obtain⟨i,j⟩:=s;obtain⟨h1,h2,h3⟩:i≤M∧M≤j∧j≤m:=hs;show H _ _ _ [(7,.int .i64 (i:Int)),(8,.int .i64 (j:Int)),_,_,_] _ _ _;by_cases hlt:i<j
 ·obtain⟨h,hh⟩:∃h,h=(i+j) / 2:=⟨_,rfl⟩;have hhl:h<m:=jB
  refine AO (p:=p) (n0:=m) (c:=c) aP0 jB fun sb hp=>?_;subst hp;apply (gP);refine H.shift (op:=.shr) rfl rfl rfl (shr1 (i+j)) jE (congrArg Nat.cast hh.symm) rfl ?_;apply (gD);refine B7 (i:=h) rfl rfl rfl rfl hhl rfl ?_;refine AL rfl rfl rfl (by rw[Nat.mul_one];exact Rd1.of (i:=h) (off:=0) (Rd.ofSlc aP0 jB) (numsV_at hhl)) rfl ?_;apply (gG);refine A8 rfl rfl rfl (less_fn f _ _ _) ?_;by_cases hyt:h<M
  ·rw[show ltInt ((h+1:Nat):Int) (t:Nat)=true from decide_eq_true jB];apply (gP);exact AI (h+1,j) ⟨by show h+1≤M;omega,h2,h3⟩ (by show j-(h+1)<j-i;omega)
  ·rw[show ltInt ((h+1:Nat):Int) (t:Nat)=false from decide_eq_false jB];apply (gE);exact AI (i,h) ⟨h1,by show M≤h;omega,by show h≤m;omega⟩ (by show h-i<j-i;omega)
 ·obtain rfl:i=M:=jB
  obtain rfl:j=i:=jB
  by_cases hin:j<m
  ·refine AO (p:=p) (n0:=m) (c:=c) aP0 jB fun sb hp=>?_;subst hp;by_cases h0:1≤t
   ·rw[decide_eq_true (show 1≤t∧t≤m by omega)];apply (qfr);apply (gJ);exact qaO
   ·rw[decide_eq_false (show¬(1≤t∧t≤m) by omega)];apply (qfr);apply (qfr);refine A8 rfl rfl rfl (nanS_fn f _ _) ?_;apply (gS);exact qaO
  ·have e:decide (1≤t∧t≤m)=false:=decide_eq_false jB;rw[e]
   apply (gS);exact qaO
theorem until0_fn{t:Nat}(hm:m≤1000):Fn prog 332 [.pointer (some ⟨b,0,none⟩),.int .u64 (t:Nat)] f (row b 242 (vwC 0 0 lp m lc np m nc hb)::slc np m nc 29 1 (numsV m)::F)
  (Ret (.int .i64 (0+min t m:Nat)) f (row b 242 (vwC 0 0 lp m lc np m nc hb)::slc np m nc 29 1 (numsV m)::F)):=by
 have hb0:=fun G=>bs0_fn f G (p:=np) (c:=nc) (t:=t) hm;refine A9 func332 ntmps332 fun base=>?_
 apply (gO);apply A3 (slc np _ _ _ _ _);apply A5 (hb0 _);by_cases h:1≤t∧t≤m
 ·rw[decide_eq_true h,show min t m=min (t-1) m+1 by omega];exact qdq
 ·rw[decide_eq_false h,show min t m=min (t-1) m by omega];exact qdq
theorem put0_fn{k:Nat}(hl:m≤1000):Fn prog 329 [.pointer (some ⟨b,0,none⟩),.agg (qS x (m+1)).vals.toArray] f (row b 242 (vwC 0 0 lp m lc np k nc hb)::slc lp m lc 34 40 ((qrow x m).flatMap Req.vals)::mp hb encN (askM m)::F)
   (fun v f' A'=>∃(lp:Option Addr) (lc:Nat),v= .tuple #[]∧f'=f∧A'=row b 242 (vwC 0 0 lp (m+1) lc np k nc hb)::slc lp (m+1) lc 34 40 ((qrow x (m+1)).flatMap Req.vals)::mp hb encN (askM (m+1))::F):=by
 have ham:=askM_next m
 have hqn:(qrow x m).flatMap Req.vals++reqL x (m+1) (qS x (m+1)).tag=(qrow x (m+1)).flatMap Req.vals:=by
  rw[←qrow_next,List.flatMap_append,List.flatMap_cons,List.flatMap_nil,List.append_nil];rfl
 generalize ht:(qS x (m+1)).tag=τ at hqn;show Fn _ _ [_,.agg (reqL x (m+1) (qS x (m+1)).tag).toArray] _ _ _;rw[ht];refine A9 func329 ntmps329 fun base=>?_;apply (gA);refine H.box (ls:=reqL x (m+1) τ) rfl rfl rfl rfl fun xb=>?_;apply (gA);apply (qfU);refine AH (ls:=reqL x (m+1) τ) rfl rfl rfl (Rd.ofRow aP0) rfl rfl ?_;apply (qfK);refine AS (out:=reqL x (m+1) τ) rfl rfl rfl rfl jE jE jD rfl fun eb=>?_;apply (gA);apply A3 (row b _ _);apply (qfl);apply (qdO);apply A7 7;refine AQ (sz:=40) (p:=lp) (n0:=m) (c:=lc) (xs:=(qrow x m).flatMap Req.vals) (m:=1) (news:=reqL x (m+1) τ) rfl rfl rfl rfl rfl (fun p' c'=>jA) (Src.slice (Rd.ofRow jA) rfl) (zaa rfl) rfl jB jB fun p2 c2=>?_;rw[hqn];apply (qij);apply (qgj);refine AZ (ls:=vwC 0 0 lp m lc np k nc hb) (ls':=vwC 0 0 p2 (m+1) c2 np k nc hb) rfl rfl rfl rfl aP1 jG ?_;apply (qeX);apply (gA);refine BY 9 jD jJ ?_;apply (gH);refine CN (enc:=encN) (k:=(((m+1:Nat):Int),1)) (v:=.bool true) rfl rfl rfl rfl jA rfl ?_;rw[ham];apply (gA);apply (qhZ);exact BA rfl iD ⟨p2,c2,rfl,rfl,rfl⟩
end
theorem qS_asked(x:UInt8)(h1:1≤a)(h8:a≤8):(qS x a).asked:=by
 show 1≤(a:Int)∧(a:Int)≤8∧(1:Int)≤1∧(1:Int)≤4611686018427387904∧(1≤32∧0≤32)∧(1≤128∧0≤128);omega
theorem qS_auth(x:UInt8)(h1:1≤a)(h8:a≤8):(qS x a).auth=true:=by
 have ha:=qS_asked x h1 h8;have e:(qS x a).sig=(qS x a).tag:=rfl
 unfold Req.auth;rw[e,decide_eq_true ha,Bool.true_and];unfold eq32;exact eqC_refl rfl
theorem qS_signed(x:UInt8)(τ:Nat→UInt8)(h1:1≤a)(h8:a≤8):(qreq x a τ).signed=qS x a:=by
 have ha:(qreq x a τ).asked:=qS_asked x h1 h8;unfold Req.signed
 rw[if_pos ha];rfl
def mL(o num:Nat)(d:Nat→Nat)(kd k:Nat)(rq:List Value)(q:Option Addr)(qc:Nat)(dg τ:Nat→UInt8):List Value:=[.int .i64 (o:Nat),.int .u64 (num:Nat)]++knV d++([.int .u8 (kd:Nat),.int .u64 0,.int .u64 (k:Nat)]++rq++[.slice q 0 qc]++b32 dg)++b32 τ
def mP(x:UInt8)(num:Nat)(d:Nat→Nat)(a:Nat)(σ:Nat→UInt8)(q:Option Addr)(qc:Nat)(dg τ:Nat→UInt8):List Value:=mL 1 num d 1 0 (reqL x a σ) q qc dg τ
variable {q:Option Addr} {d:Nat→Nat} {qc:Nat} {dg:Nat→UInt8}
section
variable (f:Frag) (F:List HP)
theorem lgprep_fn(htab:TabAt f){i:LI0}(h3:3≤n)(h11:n≤11)(hlg:lg<8)(hv:v≤1000):Fn prog 272 [.pointer (some ⟨lb,0,none⟩),.agg (mP x (lg+1) d (lg+1) (qS x (lg+1)).tag q qc dg τ).toArray,.pointer (some ⟨pb,0,none⟩)] f
   (row lb 172 (lgC n kn i.vb i.pp n i.pc i.cp)::mp i.vb key64 [((0:Int),.pointer (some ⟨i.wb,0,none⟩))]::vwB lg x i++pst0 pb v::F)
   (fun u g B=>∃(lp:Option Addr) (lc:Nat) (np:Option Addr) (nc:Nat),u= .bool true∧g=f∧B=row lb 172 (lgC n kn i.vb i.pp n i.pc i.cp)::mp i.vb key64 [((0:Int),.pointer (some ⟨i.wb,0,none⟩))]::vwB (lg+1) x {i with lp:=lp,lc:=lc,np:=np,nc:=nc}++pst0 pb (v+1)::F):=by
 obtain⟨vb,pp,pc,cp,wb,lp,lc,np,nc,hb,pbs⟩:=i;have hau:=fun G=>auth_fn f G htab (qS x (lg+1));rw[qS_auth x (a:=lg+1) jB jB]at hau
 have hpu:=fun G=>put0_fn f G (b:=wb) (m:=lg) (hb:=hb) (nc:=nc) (k:=lg) (lp:=lp) (lc:=lc) (np:=np) (x:=x) jB;have hag:=askM_get (j:=lg) (a:=lg+1) jB
 rw[decide_eq_false (show¬lg+1≤lg by omega)]at hag;change∀G,Fn _ _ [.agg (reqL x (lg+1) (qS x (lg+1)).tag).toArray] f G (Ret (.bool true) f G)at hau;change∀G,Fn _ _ [_,.agg (reqL x (lg+1) (qS x (lg+1)).tag).toArray] f _ _ at hpu;generalize(qS x (lg+1)).tag=σ at hau hpu;apply (qim);refine AP func272 ntmps272 fun base=>?_;apply (gA);refine H.box (ls:=mP x (lg+1) d (lg+1) σ q qc dg τ) rfl rfl rfl rfl fun tb=>?_;apply (qkq);apply A6 [0,1,2,3,4,5] 3;apply (gF);refine AH (ls:=reqL x (lg+1) σ) rfl rfl rfl (Rd.sub (k:=16) (pre:=[.int .i64 (1:Nat),.int .u64 (lg+1:Nat)]++knV d++[.int .u8 (1:Nat),.int .u64 0,.int .u64 (0:Nat)]) (post:=[.slice q 0 qc]++b32 dg++b32 τ) (Rd.ofRow jA) rfl) rfl rfl ?_;apply (qfK);refine (qfh) fun qb=>?_;apply (qgD);apply A6 [7] 1;apply (qgK);apply A7 8;refine AC (ls:=Req.zero.vals) (vs:=reqL x (lg+1) σ) (ls':=reqL x (lg+1) σ) rfl rfl rfl (zaa rfl) rfl rfl (Nat.le_refl 40) jA ?_;apply (qeX);apply (gO);apply (qeF);apply (gG);apply (qhH);apply (qdW);apply (qdR);apply (qdF);refine H.db (S:=[_,_,_,_]) rfl ?_;apply A6 [0,1,3,4] 29;apply (qdX);apply A7 2;apply (qeh);refine A8 rfl rfl rfl (lgprim_fn f _ h3 h11) ?_;apply (gA);apply (qhH);apply (qdW);apply (qdR);apply (qeW);apply A6 [5,6,7,8,9,10,11] 21;apply (gQ);refine AH (ls:=reqL x (lg+1) σ) rfl rfl rfl (Rd.ofRow jA) rfl rfl ?_;apply (qdG);apply A7 12;apply A5 (hau _);apply (qdE);apply A6 [13,14,15,16,17,18,19,20,21,22,23,24,25,26,27,28,29] 3;repeat(first|(refine HQ.not (b:=true) (c:=false) rfl rfl rfl rfl ?_)|(refine D4 (enc:=encN) (k:=(((lg+1:Nat):Int),1)) (v:=.bool false) rfl rfl rfl jA rfl hag rfl ?_)|(apply (gV)))
 apply (qdG);apply A7 30;apply A3 (pst0 _ _);refine A8 rfl rfl rfl (pprep_fn f _ hv) ?_;apply (gA);apply (qhH);apply (qdW);apply (qdR);apply (qeW);apply A6 [31,32] 0;apply (qgu);apply (qdG);refine AN ?_;apply (gE);refine AD (ls:=reqL x (lg+1) σ) rfl rfl rfl (Rd.ofRow jA) rfl rfl ?_;apply (qhH);apply (qj);apply (qdW);refine AG (v:=fun _ _=>.tuple #[]) rfl rfl rfl (hpu _) fun lp2 lc2=>?_;apply (gA);apply (qfs);apply (qdW);apply (qdF);refine H.dc [0,1,2,3,4,5,6,7,8] (S:=[_,_]) rfl ?_;apply A6 [0,1,2,3,4,5,6] 5;apply (qdX);apply A7 7;refine AS (out:=[.int .u64 ((lg+1:Nat):Int)]) rfl rfl rfl rfl jE jE rfl rfl fun eb=>?_;apply (gA);apply (qdW);apply (qeW);apply A7 8;refine AQ (sz:=1) (p:=np) (n0:=lg) (c:=nc) (xs:=numsV lg) (m:=1) (news:=[.int .u64 ((lg+1:Nat):Int)]) rfl rfl rfl rfl rfl (fun p' c'=>jA) (Src.slice (Rd.ofRow jA) rfl) (zaa rfl) rfl jB jB fun np2 nc2=>?_;rw[numsV_next];apply (qij);apply (qeJ);apply A6 [9,10] 1;apply (qdX);apply A7 11;refine AZ (ls:=vwC 0 0 lp2 (lg+1) lc2 np lg nc hb) (ls':=vwC 0 0 lp2 (lg+1) lc2 np2 (lg+1) nc2 hb) rfl rfl rfl rfl jA jG ?_;apply (qhU);apply (qeG);apply (qkf);exact AU ⟨lp2,lc2,np2,nc2,rfl,rfl,rfl⟩
def mC(o num:Nat)(d:Nat→Nat)(a:Nat)(q:Option Addr)(qc:Nat)(dg τ:Nat→UInt8):List Value:=mL o num d 2 a Req.zero.vals q qc dg τ
theorem lgcom_fn{num:Nat}{i:LI0}(h3:3≤n)(h11:n≤11)(hlg:lg≤8)(ho:o≠1)(hv:v<min (d 0) lg):Fn prog 273 [.pointer (some ⟨lb,0,none⟩),.agg (mC o num d (v+1) q qc dg τ).toArray,.pointer (some ⟨pb,0,none⟩)] f
   (row lb 172 (lgC n kn i.vb i.pp n i.pc i.cp)::mp i.vb key64 [((0:Int),.pointer (some ⟨i.wb,0,none⟩))]::vwB lg x i++pst0 pb v::F)
   (Ret (.bool true) f (row lb 172 (lgC n kn i.vb i.pp n i.pc i.cp)::mp i.vb key64 [((0:Int),.pointer (some ⟨i.wb,0,none⟩))]::vwB lg x i++pst0 pb (v+1)::F)):=by
 obtain⟨vb,pp,pc,cp,wb,lp,lc,np,nc,hb,pbs⟩:=i;have hun:=fun G=>until0_fn f G (b:=wb) (hb:=hb) (m:=lg) (t:=d 0) (lp:=lp) (lc:=lc) (np:=np) (nc:=nc) jB;rw[Nat.zero_add]at hun
 have hpc:=fun G=>pcommit_fn f G (pb:=pb) (v:=v) (most:=min (d 0) lg) hv jB;apply (qim)
 refine AP func273 ntmps273 fun base=>?_;apply (gA);refine H.box (ls:=mC o num d (v+1) q qc dg τ) rfl rfl rfl rfl fun tb=>?_;apply (gO);apply (qeF);apply (gG);apply (qeh);refine A8 rfl rfl rfl (lgprim_fn f _ h3 h11) ?_;apply (gG);apply (qdF);apply (qea);apply A6 [0,1,2,3,4,5,6,7,8,9,10,11,12,13,14,15,16,17,18,19] 4;apply (gQ);refine BO (i:=0) rfl rfl rfl jE jE rfl ?_;apply (qdX);apply A7 20;apply A3 (slc np _ _ _ _ _);apply (qdW);apply A5 (hun _);apply (qgD);apply A7 21;apply A3 (pst0 _ _);apply A5 (hpc _);apply (qgD);apply A6 [22,23] 0;apply (qjc);apply (gK);apply (qeG);apply (qeu);exact qad
theorem lgchk_fn(hl:ls.length=121)(h1:∀v∈ls,one v=true):Fn prog 274 [.pointer (some ⟨lb,0,none⟩),.agg ls.toArray,.pointer (some ⟨pb,0,none⟩)] f F (Ret (.bool true) f F):=by
 refine AP func274 ntmps274 fun base=>?_;apply (gA);refine H.box (ls:=ls) rfl rfl rfl rfl fun tb=>?_;apply (gK);exact qbs
end
theorem knV_set(n:Nat)(kn:Nat→Nat)(vb:Nat)(pp:Option Addr)(pl pc:Nat)(cp:Option Addr)(z:Nat)(h:o<11):SetV (lgC n kn vb pp pl pc cp) (0+1+o*1) (.int .u64 (z:Nat)) (lgC n (updF kn o z) vb pp pl pc cp):=by
 have e:v11 (updF (fun i=>((kn i:Nat):Int)) o ((z:Nat):Int))=knV (updF kn o z):=by
  unfold knV;congr 1;funext i;unfold updF;split<;>rfl
 have h1:=(v11_upd (fun i=>((kn i:Nat):Int)) ((z:Nat):Int) h).mid [.int .i64 (n:Nat)] [.map (some vb),.slice pp pl pc,.slice cp n n];rw[e]at h1
 rw[Nat.mul_one];exact h1
theorem knV_at(d:Nat→Nat){i:Nat}(h:i<11):(knV d)[i]?=some (.int .u64 ((d i:Nat):Int)):=zbq _ h
theorem lgC_kn(hr:Rd f A lb 0 (lgC n kn vb pp pl pc cp)):Rd f A lb (0+1) (knV kn):=
 Rd.sub (pre:=[.int .i64 (n:Nat)]) (post:=[.map (some vb),.slice pp pl pc,.slice cp n n]) hr rfl
def CountC(f:Frag)(fid:FuncId)(ls:List Value)(lb n o lg lg' v v':Nat)(x:UInt8):Prop:=∀(kn:Nat→Nat) (i:LI0) (pb:Nat) (G:List HP),
 Fn prog fid [.pointer (some ⟨lb,0,none⟩),.agg ls.toArray,.pointer (some ⟨pb,0,none⟩)] f
  (row lb 172 (lgC n kn i.vb i.pp n i.pc i.cp)::mp i.vb key64 [((0:Int),.pointer (some ⟨i.wb,0,none⟩))]::vwB lg x i++pst0 pb v::G)
  (fun u g B=>∃(lp:Option Addr) (lc:Nat) (np:Option Addr) (nc:Nat),u= .bool true∧g=f∧B=row lb 172 (lgC n kn i.vb i.pp n i.pc i.cp)::mp i.vb key64 [((0:Int),.pointer (some ⟨i.wb,0,none⟩))]::vwB lg' x {i with lp:=lp,lc:=lc,np:=np,nc:=nc}++pst0 pb v'::G)
variable {y:MV}
section
variable (f:Frag) (F:List HP)
theorem lgtake_gen{lg' v' num kd k:Nat}{rq:List Value}[hfun:Fun prog fid]
  (h3:3≤n) (h11:n≤11) (ho:o<n) (hy:y.Good f) (hmay:y.m.may=true) (hyv:y.vals=mL (o+1) num d kd k rq q qc dg τ) (hrq:rq.length=40)
  (hby:∀G,Fn prog 214 [.int .u8 (kd:Nat)] f G (Ret (.func (.func fid) #[] #[]) f G)) (hc:CountC f fid (mL (o+1) num d kd k rq q qc dg τ) lb n o lg lg' (vt o) v' x)
  (hnum:num=kn o+1) (hkn:kn o≤1000000) (hd:∀i,i<11→d i≤kn i) :
  Fn prog 152 [.pointer (some ⟨lb,0,none⟩),.agg y.vals.toArray] f (lgH lb n kn lg vt x::F) (Ret (.tuple #[.bool true,.int .i64 0]) f (lgH lb n (updF kn o (kn o+1)) lg' (updF vt o v') x::F)):=by
 have hma:=fun G=>mmay_fn f G hy;rw[hmay,hyv]at hma
 rw[hyv];clear hmay hyv hy;refine (qfu) fun i _=>?_;obtain⟨vb,pp,pc,cp,wb,lp,lc,np,nc,hb,pb⟩:=i;obtain⟨L,hL⟩:∃L,L=mL (o+1) num d kd k rq q qc dg τ:=⟨_,rfl⟩;rw[←hL]at hma hc⊢;have hma0:=hma
 have hLl:L.length=121:=by
  rw[hL];unfold mL knV v11 b32;simp only[List.length_append,hrq,List.length_cons,List.length_nil]
 have hL0:L[0]?=some (.int .i64 ((o+1:Nat):Int)):=by rw[hL];rfl
 have hL1:L[1]?=some (.int .u64 (num:Nat)):=by rw[hL];rfl
 have hL13:L[13]?=some (.int .u8 (kd:Nat)):=by rw[hL];rfl
 have hLd:L=[.int .i64 ((o+1:Nat):Int),.int .u64 (num:Nat)]++knV d++(([.int .u8 (kd:Nat),.int .u64 0,.int .u64 (k:Nat)]++rq++[.slice q 0 qc]++b32 dg)++b32 τ):=by rw[hL];unfold mL;simp only[List.append_assoc]
 have hL56:L[56]?=some (.slice q 0 qc):=by
  have e:L=([.int .i64 ((o+1:Nat):Int),.int .u64 (num:Nat)]++knV d++[.int .u8 (kd:Nat),.int .u64 0,.int .u64 (k:Nat)]++rq)++([.slice q 0 qc]++(b32 dg++b32 τ)):=by rw[hLd];simp only[List.append_assoc]
  rw[e,List.getElem?_append_right (by simp only[List.length_append,hrq];show 2+11+3+40≤56;decide)];have:56-([Value.int .i64 ((o+1:Nat):Int),Value.int .u64 (num:Nat)]++knV d++[Value.int .u8 (kd:Nat),Value.int .u64 0,Value.int .u64 (k:Nat)]++rq).length=0:=by simp only[List.length_append,hrq];rfl
  rw[this];rfl
 clear hL hma;have hmk:∀G,Fn prog 163 [.agg L.toArray] f G (Ret (.bool true) f G):=hma0;apply (qdK)
 refine A9 func152 ntmps152 fun base=>?_;refine (qgX) fun ab=>?_;refine H.box (ls:=L) rfl rfl rfl rfl fun tb=>?_;apply (gT);refine AD (ls:=L) rfl rfl rfl (Rd.ofRow jA) hLl rfl ?_;apply A5 (hmk _);apply (qdI);refine BB ?_;apply (qgi);apply (gM);apply (gT);refine AL (v:=.slice q 0 qc) rfl rfl rfl (Rd1.of (i:=56) (Rd.ofRow jA) hL56) rfl ?_;apply (gO);refine A8 rfl rfl rfl (hasQ_fn f _ (q:=[]) (p:=q) (c:=qc) (fid:=213) (cs:=[.pointer (some ⟨ab,0,none⟩)]) (QAt.nil f q) jE (fun _=>false) (fun x hx=>by cases hx)) ?_;apply (gE);have ho11:o<11:=jB
 refine BB ?_;apply (gF);refine B6 (v:=.int .u64 (num:Nat)) rfl rfl rfl (Rd1.of (i:=1) (Rd.ofRow jA) hL1) rfl ?_;apply (qgi);apply (gM);refine BO (i:=o) rfl rfl rfl jB ho11 rfl ?_;refine B6 (v:=.int .u64 ((kn o:Nat):Int)) rfl rfl rfl jS rfl ?_;apply (gM);apply (gT);refine AD (ls:=knV d) rfl rfl rfl (Rd.sub (pre:=[.int .i64 ((o+1:Nat):Int),.int .u64 (num:Nat)]) (post:=(([.int .u8 (kd:Nat),.int .u64 0,.int .u64 (k:Nat)]++rq++[.slice q 0 qc]++b32 dg)++b32 τ)) (by rw[←hLd];exact Rd.ofRow jA) rfl) rfl rfl ?_;apply (gK);apply (qeh);apply (qeR);apply (qdF)
 refine AF (ι:=Nat) (fun i=>[(42,.int .i64 (i:Nat)),(41,.agg (knV d).toArray),(5,.int .i64 0),(4,.bool false),(3,.pointer (some ⟨tb,0,none⟩)),(2,.pointer (some ⟨ab,0,none⟩))]) (fun _=>f)
  (fun _ => row tb 41 L :: row ab 90 [.pointer (some ⟨lb, 0, none⟩)] :: row lb 172 (lgC n kn vb pp n pc cp) :: mp vb key64 [((0 : Int), .pointer (some ⟨wb, 0, none⟩))] :: row wb 242 (vwC 0 0 lp lg lc np lg nc hb) :: slc lp lg lc 34 40 ((qrow x lg).flatMap Req.vals) :: mp hb encN (askM lg) :: slc np lg nc 29 1 (numsV lg) ::
   slc pp n pc 129 1 (((List.range n).map pb).flatMap ptrV)::fam (fun o=>pst0 (pb o) (vt o)) n::slc cp n n 457 1 (zeros [.slice none 0 0] n)::F)
  (fun i=>i≤11) (fun i=>11-i) 0 jE fun i hi=>?_
 have hi:i≤11:=hi;by_cases hlt:i<11
 ·have hdi:=hd i hlt;apply (gN)
  refine CW (xs:=knV d) (i:=i) rfl rfl rfl rfl hlt rfl (knV_at d hlt) rfl ?_;apply (gO);apply (qjZ);refine AL (v:=.int .u64 ((kn i:Nat):Int)) rfl rfl rfl (by rw[Nat.mul_one];exact Rd1.of (i:=i) (lgC_kn (Rd.ofRow jA)) (knV_at kn hlt)) rfl ?_;apply (gP);exact AI (i+1) kL jb
 ·apply (gN);refine BY 12 jD jJ ?_;apply (gH);refine Dk (v:=.int .i64 ((o+1:Nat):Int)) rfl rfl rfl (Rd1.of (i:=0) (Rd.ofRow jA) hL0) rfl ?_;apply (gH);refine Df (i:=o) rfl rfl rfl jB ho11 rfl ?_;refine Dk (v:=.int .u64 ((kn o:Nat):Int)) rfl rfl rfl jS rfl ?_;apply (gH);refine Df (i:=o) rfl rfl rfl jB ho11 rfl ?_;apply (gI);refine AZ (ls:=lgC n kn vb pp n pc cp) (ls':=lgC n (updF kn o (kn o+1)) vb pp n pc cp) rfl rfl rfl rfl jA (knV_set n kn vb pp n pc cp (kn o+1) ho11) ?_;apply (gA);apply (qeR);apply (qdF);apply (qex);apply A6 [0,1,2,4,5,6,7,8] 5;apply (gF);refine B6 (v:=.int .u8 (kd:Nat)) rfl rfl rfl (Rd1.of (i:=13) (Rd.ofRow jA) hL13) rfl ?_;apply (gF);refine AH (ls:=L) rfl rfl rfl (Rd.ofRow jA) hLl rfl ?_;apply (qgi);apply (qdG);apply A7 3;apply A5 (hby _);apply (qdE);apply (qkF);apply (qfG);apply (gA);apply (qeR);apply (qeW);apply (qke);apply (qiX);refine CA (i:=o) ho ?_;apply A3 (pst0 (pb o) _);apply (qeu);refine BQ (fs:=[]) (cs:=[]) rfl rfl rfl rfl (hc (updF kn o (kn o+1)) ⟨vb,pp,pc,cp,wb,lp,lc,np,nc,hb,pb⟩ (pb o) _) fun u g B hr=>?_;obtain⟨lp2,lc2,np2,nc2,rfl,hff,rfl⟩:=hr;rw[hff];clear hff;show H _ _ _ _ _ (row lb _ _::mp vb _ _::row wb _ (vwC 0 0 lp2 lg' lc2 np2 lg' nc2 hb)::slc lp2 lg' lc2 _ _ _::mp hb _ _::slc np2 lg' nc2 _ _ _::pst0 (pb o) v'::fam _ n::_) _;apply (gA);apply (qiX);apply A3 (pst0 (pb o) _);refine DH ho ?_
  rw[show fam (updF (fun r=>pst0 (pb r) (vt r)) o (pst0 (pb o) v')) n=fam (fun r=>pst0 (pb r) (updF vt o v' r)) n from fam_congr fun j _=>by
   unfold updF;by_cases e:j=o
   ·subst e;simp
   ·simp[e]]
  apply (qeR);apply (qeW);apply A6 [11,12] 0;apply (qgJ);apply (qeG);apply A4 (row ab _ _);apply A3 (slc cp _ _ _ _ _);apply (qgC);apply (qkf);refine H.imp (lg_fold (n:=n) (kn:=updF kn o (kn o+1)) (lg:=lg') (vt:=updF vt o v') (x:=x) ⟨vb,pp,pc,cp,wb,lp2,lc2,np2,nc2,hb,pb⟩) ?_;exact qaO
theorem lgby1_fn:Fn prog 214 [.int .u8 (1:Nat)] f F (Ret (.func (.func 272) #[] #[]) f F):=by
 exact qcV
theorem lgby2_fn:Fn prog 214 [.int .u8 (2:Nat)] f F (Ret (.func (.func 273) #[] #[]) f F):=by
 exact qcV
theorem lgby6_fn:Fn prog 214 [.int .u8 (6:Nat)] f F (Ret (.func (.func 274) #[] #[]) f F):=by
 refine AB func214 ntmps214 fun base=>?_;apply (gE);exact qad
theorem lgtake1_fn(htab:TabAt f)(h3:3≤n)(h11:n≤11)(hy:y.Good f)(hmay:y.m.may=true)
  (hyv:y.vals=mP x (lg+1) d (lg+1) (qS x (lg+1)).tag q qc dg τ) (hlg:lg<8) (hk0:kn 0=lg) (hv:vt 0≤1000) (hd:∀i,i<11→d i≤kn i) :
  Fn prog 152 [.pointer (some ⟨lb,0,none⟩),.agg y.vals.toArray] f (lgH lb n kn lg vt x::F) (Ret (.tuple #[.bool true,.int .i64 0]) f (lgH lb n (updF kn 0 (kn 0+1)) (lg+1) (updF vt 0 (vt 0+1)) x::F)):=
 lgtake_gen f F (fid:=272) (kd:=1) (k:=0) (o:=0) (num:=lg+1) (lg':=lg+1) (v':=vt 0+1) h3 h11 jB hy hmay hyv rfl (lgby1_fn f) (fun kn i pb G=>lgprep_fn f G htab h3 h11 hlg hv) jB jB hd
theorem lgtake2_fn{num:Nat}(h3:3≤n)(h11:n≤11)(hy:y.Good f)(hmay:y.m.may=true)
  (hyv:y.vals=mC (o+1) num d (vt o+1) q qc dg τ) (hlg:lg≤8) (ho:o<n) (ho0:o≠0) (hv:vt o<min (d 0) lg) (hnum:num=kn o+1) (hkn:kn o≤1000000) (hd:∀i,i<11→d i≤kn i) :
  Fn prog 152 [.pointer (some ⟨lb,0,none⟩),.agg y.vals.toArray] f (lgH lb n kn lg vt x::F) (Ret (.tuple #[.bool true,.int .i64 0]) f (lgH lb n (updF kn o (kn o+1)) lg (updF vt o (vt o+1)) x::F)):=
 lgtake_gen f F (fid:=273) (kd:=2) (k:=vt o+1) (o:=o) (num:=num) (lg':=lg) (v':=vt o+1) h3 h11 ho hy hmay hyv rfl (lgby2_fn f)
  (fun kn i pb G=>Fn.mono (lgcom_fn f G h3 h11 hlg jB hv) fun _ _ _ r=>by obtain⟨rfl,rfl,rfl⟩:=r;exact⟨i.lp,i.lc,i.np,i.nc,rfl,rfl,rfl⟩) hnum hkn hd
theorem lgtake6_fn{num k:Nat}(h3:3≤n)(h11:n≤11)(hy:y.Good f)(hmay:y.m.may=true)
  (hyv:y.vals=mL (o+1) num d 6 k Req.zero.vals q qc dg τ) (ho:o<n) (hnum:num=kn o+1) (hkn:kn o≤1000000) (hd:∀i,i<11→d i≤kn i) :
  Fn prog 152 [.pointer (some ⟨lb,0,none⟩),.agg y.vals.toArray] f (lgH lb n kn lg vt x::F) (Ret (.tuple #[.bool true,.int .i64 0]) f (lgH lb n (updF kn o (kn o+1)) lg vt x::F)):=by
 have h:=lgtake_gen f F (fid:=274) (kd:=6) (k:=k) (o:=o) (num:=num) (lg:=lg) (lg':=lg) (v':=vt o) (vt:=vt) (x:=x) (lb:=lb) h3 h11 ho hy hmay hyv rfl (lgby6_fn f)
  (fun kn i pb G=>Fn.mono (lgchk_fn f _ rfl (zaa rfl)) fun _ _ _ r=>by obtain⟨rfl,rfl,rfl⟩:=r;exact⟨i.lp,i.lc,i.np,i.nc,rfl,rfl,rfl⟩) hnum hkn hd
 rw[updF_self]at h;exact h
theorem lgvoted_fn(h11:n≤11)(ho:o<n):Fn prog 193 [.pointer (some ⟨lb,0,none⟩),.int .i64 ((o+1:Nat):Int),.int .u64 0] f (lgH lb n kn lg vt x::F) (Ret (.tuple #[.int .i64 (vt o:Nat),.bool true]) f (lgH lb n kn lg vt x::F)):=by
 refine (qfu) fun i _=>?_;obtain⟨vb,pp,pc,cp,wb,lp,lc,np,nc,hb,pb⟩:=i;apply (qdK);refine AP func193 ntmps193 fun base=>?_;apply (gG);apply (qfG);apply (gG);apply (qiX);refine CA (i:=o) ho ?_;refine A8 rfl rfl rfl (pvoted_fn f _) ?_;refine CH (g:=fun o=>pst0 (pb o) (vt o)) ho ?_;apply (gR);apply A3 (slc cp _ _ _ _ _);apply (qgC);apply (qeu);apply (qgE);exact qaO
theorem lggreat_fn(h11:n≤11)(ho:o<n):Fn prog 25 [.pointer (some ⟨lb,0,none⟩),.int .i64 ((o+1:Nat):Int)] f (lgH lb n kn lg vt x::F) (Ret (.int .u64 0) f (lgH lb n kn lg vt x::F)):=by
 refine (qfu) fun i _=>?_;obtain⟨vb,pp,pc,cp,wb,lp,lc,np,nc,hb,pb⟩:=i;apply (qdK);refine A9 func25 ntmps25 fun base=>?_;apply (gG);apply (qfG);apply (qiX);refine CA (i:=o) ho ?_;refine A8 rfl rfl rfl (pgreat_fn f _) ?_;refine CH (g:=fun o=>pst0 (pb o) (vt o)) ho ?_;apply (gK);apply A3 (slc cp _ _ _ _ _);apply (qgC);apply (qeu);exact qbZ
theorem rclone_fn(hls:ls.length=m*40)(h1:∀v∈ls,one v=true)(hl:m≤100000):Fn prog 21 [.slice p m c] f (slc p m c 34 40 ls::F)
   (fun v f' A'=>∃(p':Option Addr) (c':Nat),v= .slice p' m c'∧f'=f∧A'=slc p' m c' 34 40 ls::slc p m c 34 40 ls::F):=by
 cases p with
 | none =>
  by_cases h0:0<m
  ·refine AB func21 ntmps21 fun base=>?_;exact qcL
  ·obtain rfl:m=0:=jB
   obtain rfl:ls=[]:=List.eq_nil_of_length_eq_zero jB;refine AB func21 ntmps21 fun base=>?_;apply (gP);refine AY 34 40 ?_;exact qbJ
 | some a =>
  refine AB func21 ntmps21 fun base=>?_;refine (qic) fun eb=>?_;refine CB (k:=0) (sz:=40) rfl jE ?_;exact qaZ
theorem lglog_fn(hlg:lg≤1000):Fn prog 74 [.pointer (some ⟨lb,0,none⟩),.int .u64 0] f (lgH lb n kn lg vt x::F)
  (fun v g B=>∃(p:Option Addr) (c:Nat),v= .tuple #[.slice p lg c,.bool true]∧g=f∧B=slc p lg c 34 40 ((qrow x lg).flatMap Req.vals)::lgH lb n kn lg vt x::F):=by
 refine (qfu) fun i _=>?_;obtain⟨vb,pp,pc,cp,wb,lp,lc,np,nc,hb,pb⟩:=i;apply (qdK);refine A9 func74 ntmps74 fun base=>?_;apply (gL);apply (qeF);apply (gS);apply (qeF);apply (gO);apply (qj);refine AG rfl rfl rfl (rclone_fn f _ (by rw[zar req40,qrow_len]) (reqs_one _) jB) fun p c=>?_;apply (gK);apply A3 (slc cp _ _ _ _ _);apply (qiX);apply A3 (slc pp _ _ 129 _ _);apply A3 (slc np _ _ 29 _ _);apply (qhH);refine CE (x:=slc lp _ lc _ _ _) (.there _ (.there _ (.there _ (.there _ (.there _ (.there _ (.here _ _))))))) ?_;apply (qgr);apply (qgE);apply (qkp);exact BN rfl rfl rfl iD ⟨p,c,rfl,rfl,rfl⟩
theorem lgholds_fn(h1:1≤a):Fn prog 403 [.pointer (some ⟨lb,0,none⟩),.int .u64 0,.int .i64 (a:Nat),.int .u64 1] f (lgH lb n kn lg vt x::F) (Ret (.bool (decide (a≤lg))) f (lgH lb n kn lg vt x::F)):=by
 have hg:=askM_get (j:=lg) h1;refine (qfu) fun i _=>?_
 obtain⟨vb,pp,pc,cp,wb,lp,lc,np,nc,hb,pb⟩:=i;apply (qdK);refine BK func403 ntmps403 fun base=>?_;apply (gL);apply (qeF);apply (gL);apply (qeF);apply (gS);refine Cp (enc:=encN) (k:=((a:Int),1)) (v:=.bool (decide (a≤lg))) rfl rfl rfl jA rfl hg rfl ?_;apply (gJ);exact qbZ
theorem lgchange_fn(h11:n≤11)(ho:o<n):Fn prog 400 [.pointer (some ⟨lb,0,none⟩),.int .i64 ((o+1:Nat):Int)] f (lgH lb n kn lg vt x::F) (Ret (.tuple #[.int .u64 0,.int .u64 0]) f (lgH lb n kn lg vt x::F)):=by
 have hz:(zeros [Value.slice none 0 0] n)[o]?=some (.slice none 0 0):=by
  have key:∀m k,k<m→(zeros [Value.slice none 0 0] m)[k]?=some (.slice none 0 0):=by
   intro m
   induction m with
   |zero=>intro k h;omega
   | succ m ih =>
    intro k h
    cases k with
    |zero=>rfl
    |succ k=>exact ih k jB
  exact key n o ho
 refine (qfu) fun i _=>?_;obtain⟨vb,pp,pc,cp,wb,lp,lc,np,nc,hb,pb⟩:=i;apply (qdK);refine A9 func400 ntmps400 fun base=>?_;refine AO (p:=cp) (n0:=n) (c:=n) (T:=457) (sz:=1) jA jB fun cb hp=>?_;subst hp;apply (gG);apply (qfG);apply (gL);refine B7 (i:=o) rfl rfl rfl jB ho rfl ?_;refine AL (v:=.slice none 0 0) rfl rfl rfl (by rw[Nat.mul_one];exact Rd1.of (i:=o) (off:=0) (Rd.ofSlc jA jB) hz) rfl ?_;apply (gS);apply A3 (slc (some ⟨cb,0,none⟩) _ _ 457 _ _);apply (qgC);apply (qeu);refine H.imp (lg_fold (n:=n) (kn:=kn) (lg:=lg) (vt:=vt) (x:=x) ⟨vb,pp,pc,some ⟨cb,0,none⟩,wb,lp,lc,np,nc,hb,pb⟩) ?_;exact qaO
end
open Go.Sort (bitsLen)
def accB(sb i:Nat)(j:Option Addr×Nat):List HP:=[row sb 173 [.slice j.1 i j.2],slc j.1 i j.2 29 1 (List.replicate i (.int .u64 0))]
def accU(sb i:Nat):HP:=pack (fun _:Option Addr×Nat=>True) (accB sb i)
def kyV(mb:Nat):Value:=.func (.func 257) #[] #[.pointer (some ⟨mb,0,none⟩)]
variable {wb:Nat}
section
variable (f:Frag) (F:List HP)
theorem vkeys_fn{lp:Nat}{X:Nat→HP}(hY:∀i,i<1→∀G,YieldFn prog lp [.int .u64 0] f (X i::G) (fun v g B=>v= .bool true∧g=f∧B=X (i+1)::G)):Fn prog 257 ([]++[.func (.yield lp) #[] #[]]++[.pointer (some ⟨mb,0,none⟩)]) f (X 0::row mb 168 [.map (some vb)]::mp vb key64 [((0:Int),.pointer (some ⟨wb,0,none⟩))]::F)
   (Ret (.tuple #[]) f (X 1::row mb 168 [.map (some vb)]::mp vb key64 [((0:Int),.pointer (some ⟨wb,0,none⟩))]::F)):=by
 refine Fn.front (x:=mp _ _ _) (.there _ (.there _ (.here _ _))) ?_;refine DZ fun es clock hes=>?_
 obtain⟨e0,rfl⟩:∃e,es=[e]:=by
  have h:=congrArg List.length hes;rw[List.length_map]at h
  exact List.length_eq_one_iff.1 h
 have hk:e0.1=0:=congrArg Prod.fst (List.head_eq_of_cons_eq hes);refine A9 func257 ntmps257 fun base=>?_
 apply (gO);refine (qhJ) fun rb=>?_;apply (gK);apply A3 (X _)
 refine AF (ι:=Bool) (fun _=>[(5,.pointer (some ⟨rb,0,none⟩)),(0,.func (.yield lp) #[] #[])]) (fun _=>f)
  (fun s=>X (bif s then 1 else 0)::itr rb vb [e0] clock (bif s then [e0.1]else [])::mpS vb key64 [e0] clock::row mb 168 [.map (some vb)]::F) (fun _=>True) (fun s=>bif s then 0 else 1) false trivial fun s _=>?_
 show H _ _ _ [(5,_),_] f (X _::itr rb vb [e0] clock _::_::_::F) _;apply (gA);refine H.next rfl rfl jA jA (fun _=>jA) rfl (fun hend=>?_) (fun e he hns=>?_)
 ·have hs:s=true:=by
   cases s with
   |true=>rfl
   |false=>exact absurd (hend e0 List.mem_cons_self) jI
  subst hs;apply (gR);apply A4 (itr _ _ _ _ _);apply (qfM);rw[hes];apply (qfo);apply A3 (X _);exact qan
 ·have hee:e=e0:=List.mem_singleton.1 he;subst hee
  have hs:s=false:=by
   cases s with
   |true=>exact absurd List.mem_cons_self hns
   |false=>rfl
  subst hs;apply (qgo)
  iterate 5 ( first
   |((first|apply B3|apply BE|apply B8|apply BG|apply BV|apply BW);(iterate 3 exact rfl))
   |(apply BH;(iterate 3 exact rfl);exact inferInstance;exact rfl)
   |(apply AL;(iterate 3 exact rfl);apply Rd1.ofRow;(repeat(first|exact .here _ _ _|apply At.there));(iterate 2 exact rfl))
   |(first|apply H.seq|apply BD|apply H.nil|apply BF)
   |((first|apply BU|apply AT);(iterate 5 exact rfl))
   |((first|(apply BC;(iterate 4 exact rfl))|(apply BL;(iterate 2 exact rfl)));(first|(with_reducible apply zbm;omega)|(with_reducible apply zay;omega)|(with_reducible apply zbk;omega)|(with_reducible apply wr_i64;omega)|(with_reducible apply wr_u64;omega)|(with_reducible apply wr_u8;omega)|(with_reducible apply wr_u16;omega)|rfl);exact rfl)
   |(apply H.pass;(iterate 2 exact rfl))
   |(apply Dr;exact rfl)
   |(apply CZ;(iterate 4 exact rfl))
   |((first|apply CJ|apply CQ|apply H.not|apply CR);(iterate 4 exact rfl))
   |((first|apply CK|apply CG);(iterate 5 exact rfl))
   |(apply AZ;(iterate 4 exact rfl);(repeat(first|exact .here _ _ _|apply At.there));(repeat(first|exact .here _ _ _|apply SetV.there)))
   |(apply CS;exact rfl)
   |(apply CF;exact rfl)
   |(first|apply H.skip|apply H.ret|apply C5|apply C6|apply H.exit|apply H.block|apply BJ|apply BZ|apply C7|apply C8|apply C9)
   |(apply DB;exact rfl)
   |(apply Cy;(iterate 3 exact rfl);(first|assumption|omega))
   |(apply DC;(iterate 3 exact rfl);(first|assumption|omega))
   |(apply CT;exact rfl;(first|assumption|omega))
   |(apply CU;exact rfl;(first|assumption|omega))
   |((first|apply DR);(iterate 3 exact rfl);assumption)
   |(apply DS;(iterate 3 exact rfl);assumption)
   |(apply Dt;exact rfl;assumption)
   |(apply Du;exact rfl;assumption) )
  refine DF ?_;refine B1 jC ?_;apply (qfS);refine B1 jC ?_;apply (qfS);apply A3 (X _);rw[hk];refine H.yield rfl rfl rfl rfl (hY 0 jE _) fun v f' A' hR=>?_;obtain⟨rfl,hff,rfl⟩:=hR;rw[hff];clear hff;refine B1 jC ?_;apply (gO);apply (qjL);apply (gE);apply A3 (mpS _ _ _ _);apply A3 (itr _ _ _ _ _);apply A3 (X _);exact AX true trivial (Nat.lt_succ_self 0) ⟨rfl,rfl,trivial⟩ rfl (by rw[←hk];rfl)
theorem vseq_fn:Fn prog 305 [.slice none 0 0,kyV mb] f (row mb 168 [.map (some vb)]::mp vb key64 [((0:Int),.pointer (some ⟨wb,0,none⟩))]::F)
  (fun u g B=>∃(p:Option Addr) (c:Nat),u= .slice p 1 c∧g=f∧B=slc p 1 c 29 1 [.int .u64 0]::row mb 168 [.map (some vb)]::mp vb key64 [((0:Int),.pointer (some ⟨wb,0,none⟩))]::F):=by
 refine D0 func305 rfl ntmps305 rfl (L:=[(0,_),(1,_)]) ⟨rfl,rfl,trivial⟩ fun base=>?_;apply (gA);refine H.box (ls:=[.slice none 0 0]) rfl rfl rfl rfl fun sb=>?_;apply (gK);refine AY 29 1 ?_;apply (qfO);refine H.imp (A':=accU sb 0::row mb 168 [.map (some vb)]::mp vb key64 [((0:Int),.pointer (some ⟨wb,0,none⟩))]::F) (zap (B:=accB sb 0) (none,0) trivial) ?_;refine H.sb [(6,kyV mb),(2,.pointer (some ⟨sb,0,none⟩))] ?_;refine Ee (fs:=[]) (cs:=[.pointer (some ⟨mb,0,none⟩)]) (fun i=>[accU sb i]) 1 (fun _=>[.int .u64 0]) (row mb 168 [.map (some vb)]::mp vb key64 [((0:Int),.pointer (some ⟨wb,0,none⟩))]::F) rfl rfl rfl (fun lp X hY=>vkeys_fn f F hY) (fun i hi D lp G=>?_) fun D=>?_
 ·obtain rfl:i=0:=jB
  refine (qjo) fun base=>?_;apply (qdQ);repeat((first|(apply CP)|(apply BT;exact rfl;exact jC)))
  apply A3 (accU sb 0);refine AM fun⟨p,c⟩ _=>?_;show H _ _ _ _ f (row sb _ [.slice p 0 c]::slc p 0 c _ 1 []::_) _;repeat((first|((apply B3);(iterate 3 exact rfl))|(apply AL;(iterate 3 exact rfl);apply Rd1.ofRow;(repeat(exact .here _ _ _));(iterate 2 exact rfl))))
  refine (qiv) fun eb=>?_;refine AQ (sz:=1) (p:=p) (n0:=0) (c:=c) (xs:=[]) (m:=1) (news:=[.int .u64 0]) rfl rfl rfl rfl rfl (fun p' c'=>jA) (Src.slice (Rd.ofRow aP0) rfl) (zaa rfl) rfl jB jB fun p2 c2=>?_;repeat((first|(apply H.nil)|(apply AZ;(iterate 4 exact rfl);(repeat(first|exact .here _ _ _|apply At.there)))|(apply BJ)))
  apply (qeZ);refine H.imp (A':=accU sb 1::_) (zap (B:=accB sb 1) (p2,c2) trivial) ?_;exact qaQ
 ·refine CE (x:=accU sb 1) (.there _ (.here _ _)) ?_;refine AM fun⟨p,c⟩ _=>?_;show H _ _ _ _ f (row sb _ [.slice p 1 c]::slc p 1 c _ 1 [.int .u64 0]::pts D _::_) _;apply (gT);apply (qkw);exact F5 rfl rfl rfl (.there _ (.here _ _)) iD ⟨p,c,rfl,rfl,rfl⟩
theorem vsort_fn:Fn prog 256 [.slice p 1 c] f (slc p 1 c 29 1 [.int .u64 0]::F) (Ret (.tuple #[]) f (slc p 1 c 29 1 [.int .u64 0]::F)):=by
 have hl:=fun G=>len_fn f G (x:=1) jB
 have hi:∀G,Fn prog 349 [.slice p 1 c,.int .i64 0,.int .i64 (1:Nat)] f G (Ret (.tuple #[]) f G):=fun G=>by
  refine AP func349 ntmps349 fun base=>?_;apply (gD);refine AF (ι:=Unit) (fun _=>[(6,.int .i64 1),(0,.slice p 1 c),(1,.int .i64 0),(2,.int .i64 (1:Nat))]) (fun _=>f) (fun _=>G) (fun _=>True) (fun _=>0) () trivial fun s _=>?_;apply (gE);exact qan
 have hs:∀G lim,Fn prog 306 [.slice p 1 c,.int .i64 0,.int .i64 (1:Nat),.int .i64 lim] f G (Ret (.tuple #[]) f G):=fun G lim=>by
  refine BK func306 ntmps306 fun base=>?_;apply (gK);refine AF (ι:=Unit) (fun _=>[(0,.slice p 1 c),(1,.int .i64 0),(2,.int .i64 (1:Nat)),(3,.int .i64 lim)]) (fun _=>f) (fun _=>G) (fun _=>True) (fun _=>0) () trivial fun s _=>?_;apply (gP);apply A5 (hi _);apply (gK);exact Cq rfl iD ⟨rfl,rfl,rfl⟩
 exact qbS
theorem lgviews_fn:Fn prog 129 [.pointer (some ⟨lb,0,none⟩)] f (lgH lb n kn lg vt x::F)
  (fun u g B=>∃(p:Option Addr) (c:Nat),u= .slice p 1 c∧g=f∧B=slc p 1 c 29 1 [.int .u64 0]::lgH lb n kn lg vt x::F):=by
 refine (qfu) fun i _=>?_;obtain⟨vb,pp,pc,cp,wb,lp,lc,np,nc,hb,pb⟩:=i;apply (qdK)
 have hk:∀G,Fn prog 191 [.map (some vb)] f G (RetE (fun b:Nat=>kyV b) f (fun b=>row b 168 [.map (some vb)]::G)):=fun G=>by
  refine AB func191 ntmps191 fun base=>?_;apply (gA);refine H.box (ls:=[.map (some vb)]) rfl rfl rfl rfl fun b=>?_;apply (gR);exact AU ⟨b,rfl,rfl,rfl⟩
 have hso:∀mb G,Fn prog 190 [kyV mb] f (row mb 168 [.map (some vb)]::mp vb key64 [((0:Int),.pointer (some ⟨wb,0,none⟩))]::G)
   (fun u g B=>∃(p:Option Addr) (c:Nat),u= .slice p 1 c∧g=f∧B=slc p 1 c 29 1 [.int .u64 0]::row mb 168 [.map (some vb)]::mp vb key64 [((0:Int),.pointer (some ⟨wb,0,none⟩))]::G):=fun mb G=>by
  have hcol:Fn prog 255 [kyV mb] f (row mb 168 [.map (some vb)]::mp vb key64 [((0:Int),.pointer (some ⟨wb,0,none⟩))]::G)
   (fun u g B=>∃(p:Option Addr) (c:Nat),u= .slice p 1 c∧g=f∧B=slc p 1 c 29 1 [.int .u64 0]::row mb 168 [.map (some vb)]::mp vb key64 [((0:Int),.pointer (some ⟨wb,0,none⟩))]::G):=by
   refine AB func255 ntmps255 fun base=>?_
   apply (gG)
   refine AG rfl rfl rfl (vseq_fn f G) fun p c=>?_
   apply (gK)
   exact AU ⟨p,c,rfl,rfl,rfl⟩
  refine AB func190 ntmps190 fun base=>?_
  apply (gG)
  refine AG rfl rfl rfl hcol fun p c=>?_
  apply (gG)
  refine A8 rfl rfl rfl (vsort_fn f _) ?_
  apply (gK)
  exact AU ⟨p,c,rfl,rfl,rfl⟩
 refine AB func129 ntmps129 fun base=>?_;apply (gT);refine C3 (hk _) fun mb=>?_;apply A3 (mp vb _ _);apply (qfo);refine AG rfl rfl rfl (hso mb _) fun p c=>?_;apply (gK);apply (qfz);apply A3 (slc cp _ _ 457 _ _);apply (qiX);apply A3 (slc pp _ _ 129 _ _);refine CE (x:=slc np lg nc _ _ (numsV lg)) (.there _ (.there _ (.there _ (.there _ (.there _ (.there _ (.there _ (.there _ (.there _ (.here _ _)))))))))) ?_;apply (qhH);apply A3 (slc lp _ _ 34 _ _);apply (qgr);apply (qgE);apply A3 (slc p 1 c _ _ _);exact qbf
def cntV(n:Nat)(vt:Nat→Nat)(k:Nat):Nat:=((List.range n).map fun o=>((vt o:Nat):Int)).countP fun z=>decide ((k:Int)≤z)
def cmtV(n:Nat)(vt:Nat→Nat):Nat→Nat
 |0=>0
 |k+1=>if n / 2<cntV n vt (k+1)then k+1 else cmtV n vt k
theorem cmtV_le(n:Nat)(vt:Nat→Nat):∀m,cmtV n vt m≤m
 |0=>Nat.le_refl _
 | m + 1 => by
  have:=cmtV_le n vt m
  unfold cmtV
  split<;>omega
theorem desc_count{ys:List Int}(h:ys.Pairwise fun a b=>b≤a){i:Nat}{v:Int}(hi:ys[i]?=some v)(k:Int):i<ys.countP (fun z=>decide (k≤z))↔k≤v:=by
 induction ys generalizing i with
 |nil=>cases hi
 | cons y r ih =>
  rw[List.pairwise_cons]at h;rw[List.countP_cons]
  cases i with
  | zero =>
   obtain rfl:y=v:=Option.some.inj hi;by_cases hk:k≤y
   ·simp[hk]
   ·have:r.countP (fun z=>decide (k≤z))=0:=List.countP_eq_zero.2 fun z hz=>by have:=h.1 z hz;simp;omega
    simp[hk,this]
  | succ i =>
   have hv:v∈r:=List.mem_of_getElem? (by simpa using hi)
   have:=h.1 v hv;have ih:=ih h.2 (i:=i) (by simpa using hi)
   by_cases hk:k≤y
   ·simp only[hk,decide_true,if_true];omega
   ·have hz:r.countP (fun z=>decide (k≤z))=0:=List.countP_eq_zero.2 fun z hz=>by have:=h.1 z hz;simp;omega
    simp only[hk,decide_false,hz];constructor
    ·intro h;simp at h
    ·intro h;omega
theorem cmtV_eq{n:Nat}{vt:Nat→Nat}{ys:List Int}{v:Int}(hp:ys.Perm ((List.range n).map fun o=>((vt o:Nat):Int)))(hs:ys.Pairwise fun a b=>b≤a)(hv:ys[n / 2]?=some v)(h0:0≤v):∀m:Nat,min v (m:Int)=(cmtV n vt m:Nat)
 |0=>by show min v 0=0;omega
 | m + 1 => by
  have ih:=cmtV_eq hp hs hv h0 m
  have h1:=desc_count hs hv ((m+1:Nat):Int)
  rw[hp.countP_eq]at h1
  unfold cmtV
  by_cases hc:n / 2<cntV n vt (m+1)
  ·rw[if_pos hc]
   have:=h1.1 hc
   omega
  ·rw[if_neg hc]
   have h2:¬((m+1:Nat):Int)≤v:=fun h=>hc (h1.2 h)
   have:=cmtV_le n vt m
   omega
theorem dfew_fn(h3:3≤n)(h11:n≤11)(hodd:n % 2=1):Fn prog 192 [.int .i64 (n:Nat)] f F (Ret (.bool true) f F):=by
 have hr:((n:Nat):Int).tmod 2=1:=by rw[show(2:Int)=((2:Nat):Int)from rfl,tmod64,hodd];rfl
 have h:=decide_eq_true (show((n:Nat):Int)≤11 by omega);refine AB func192 ntmps192 fun base=>?_
 exact qcI
def vtI(vt:Nat→Nat)(i:Nat):List Int:=(List.range i).map fun o=>((vt o:Nat):Int)
theorem vtI_len(vt:Nat→Nat)(i:Nat):(vtI vt i).length=i:=by simp[vtI]
theorem vtI_next(vt:Nat→Nat)(i:Nat):(vtI vt i).flatMap iV++iV ((vt i:Nat):Int)=(vtI vt (i+1)).flatMap iV:=by simp[vtI,List.range_succ]
theorem dcommit_fn(h3:3≤n)(h11:n≤11)(hodd:n % 2=1)(hlg:lg≤1000)(hvt:∀o,vt o≤1000):Fn prog 130 [.pointer (some ⟨lb,0,none⟩),.int .i64 (n:Nat),.int .u64 0] f (lgH lb n kn lg vt x::F) (Ret (.int .i64 (cmtV n vt lg:Nat)) f (lgH lb n kn lg vt x::F)):=by
 have hq:IntKind.wrap .i64 (((n:Nat):Int).tdiv 2)=((n / 2:Nat):Int):=qbe
 refine AP func130 ntmps130 fun base=>?_;apply (gG);refine AG rfl rfl rfl (lglog_fn f _ hlg) fun ap ac=>?_;apply (qdI);refine A8 rfl rfl rfl (dfew_fn f _ h3 h11 hodd) ?_;apply (qdI);refine AY 3 1 ?_;apply (qev)
 refine AF (ι:=Nat×Option Addr×Nat) (fun i=>[(10,.int .i64 ((i.1+1:Nat):Int)),(9,.slice i.2.1 i.1 i.2.2),(7,.slice ap lg ac),(0,.pointer (some ⟨lb,0,none⟩)),(1,.int .i64 (n:Nat)),(2,.int .u64 0)]) (fun _=>f)
  (fun i=>lgH lb n kn lg vt x::slc i.2.1 i.1 i.2.2 3 1 ((vtI vt i.1).flatMap iV)::slc ap lg ac 34 40 ((qrow x lg).flatMap Req.vals)::F)
  (fun i=>i.1≤n) (fun i=>n-i.1) (0,none,0) (Nat.zero_le _) fun i hi=>?_
 obtain⟨i,vp,vc⟩:=i;have hi:i≤n:=hi;show H _ _ _ [(10,.int .i64 ((i+1:Nat):Int)),(9,.slice vp i vc),_,_,_,_] _ (_::slc vp i vc _ 1 ((vtI vt i).flatMap iV)::_::F) _
 by_cases hlt:i<n
 ·apply (gN);refine A8 rfl rfl rfl (lgvoted_fn f _ h11 hlt) ?_;apply (gO);refine AS (out:=iV ((vt i:Nat):Int)) rfl rfl rfl rfl jE jE rfl rfl fun eb=>?_;refine AQ (sz:=1) (p:=vp) (n0:=i) (c:=vc) (xs:=(vtI vt i).flatMap iV) (m:=1) (news:=iV ((vt i:Nat):Int)) rfl rfl rfl rfl rfl (fun p' c'=>jA) (Src.slice (Rd.ofRow aP0) rfl) (zaa rfl) rfl jB jB fun p2 c2=>?_;rw[vtI_next];apply (gD);apply (qeZ);exact AI (i+1,p2,c2) (by show i+1≤n;omega) (by show n-(i+1)<n-i;omega)
 ·obtain rfl:i=n:=jB
  apply (gN);apply A3 (slc vp _ _ 3 _ _);refine AV rfl rfl rfl (sortD_fn f _ (p:=vp) (n:=i) (c:=vc) (xs:=vtI vt i) (vtI_len vt i) jB) fun v f' A' hr=>?_;obtain⟨ys,hp,hs,rfl,hff,rfl⟩:=hr;rw[hff];clear hff;have hyl:ys.length=i:=by rw[hp.length_eq,vtI_len]
  obtain⟨z,hz⟩:∃z,ys[i / 2]?=some z:=⟨_,List.getElem?_eq_getElem jB⟩
  have hz0:0≤z∧z≤1000:=by
   have h1:z∈vtI vt i:=hp.mem_iff.1 (List.mem_of_getElem? hz);obtain⟨o,_,rfl⟩:=List.mem_map.1 h1
   have:=hvt o;omega
  have hcm:=cmtV_eq hp hs hz hz0.1 lg;refine AO (p:=vp) (n0:=i) (c:=vc) (T:=3) (sz:=1) aP0 jB fun vb hp2=>?_
  subst hp2;apply (gG);refine H.quo (z:=((i / 2:Nat):Int)) rfl rfl rfl jE hq rfl ?_;refine B7 (i:=i / 2) rfl rfl rfl rfl jB rfl ?_;refine AL (v:=.int .i64 z) rfl rfl rfl (by rw[Nat.zero_add];exact Rd1.of (i:=0) (Rd.slcElem (sz:=1) (vals:=iV) (xs:=ys) iV_len jE aP0 hz) rfl) rfl ?_;apply (gG);refine H.min2 (z:=((cmtV i vt lg:Nat):Int)) rfl rfl rfl (by rw[←hcm];split<;>omega) rfl ?_;apply (gK);apply A4 (slc (some ⟨vb,0,none⟩) _ _ _ _ _);apply A4 (slc ap _ _ _ _ _);exact qad
theorem dbest_fn(h3:3≤n)(h11:n≤11)(hodd:n % 2=1)(hlg:lg≤1000)(hvt:∀o,vt o≤1000):Fn prog 73 [.pointer (some ⟨lb,0,none⟩),.int .i64 (n:Nat)] f (lgH lb n kn lg vt x::F) (Ret (.tuple #[.int .u64 0,.int .i64 (cmtV n vt lg:Nat)]) f (lgH lb n kn lg vt x::F)):=by
 have hc:=fun G=>dcommit_fn f G (lb:=lb) (kn:=kn) (x:=x) h3 h11 hodd hlg hvt;generalize cmtV n vt lg=m at hc
 refine A9 func73 ntmps73 fun base=>?_;apply (gG);refine AG rfl rfl rfl (lgviews_fn f _) fun p c=>?_;refine AO aP0 jE fun pb hp=>?_;subst hp;apply (gK)
 refine AF (ι:=Nat) (fun i=>[(12,.int .i64 (i:Nat)),(11,.int .i64 1),(10,.slice (some ⟨pb,0,none⟩) 1 c),(4,.int .u64 0),(5,.int .i64 (bif i == 0 then 0 else m:Nat)),(0,.pointer (some ⟨lb,0,none⟩)),(1,.int .i64 (n:Nat))]) (fun _=>f)
  (fun _=>slc (some ⟨pb,0,none⟩) 1 c 29 1 [.int .u64 0]::lgH lb n kn lg vt x::F) (fun i=>i≤1) (fun i=>1-i) 0 jE fun i hi=>?_
 have hi:i≤1:=hi;by_cases hlt:i<1
 ·obtain rfl:i=0:=jB
  show H _ _ _ [_,_,_,_,(5,.int .i64 ((0:Nat):Int)),_,_] _ _ _;apply (qhv);refine AL (v:=.int .u64 0) rfl rfl rfl (Rd1.of (i:=0) (Rd.ofSlc aP0 jE) rfl) rfl ?_;apply (gG);apply (qev);apply A5 (hc _);by_cases h0:0<m
  ·apply (gP);apply (qeO);exact qcb
  ·obtain rfl:m=0:=jB
   apply (gT);apply (qeO);exact qcb
 ·obtain rfl:i=1:=jB
  show H _ _ _ [_,_,_,_,(5,.int .i64 (m:Nat)),_,_] _ _ _;apply (gE);apply (qgM);exact qaO
theorem decided_fn(h3:3≤n)(h11:n≤11)(hodd:n % 2=1)(hlg:lg≤1000)(hvt:∀o,vt o≤1000):Fn prog 36 [.pointer (some ⟨lb,0,none⟩),.int .i64 (n:Nat)] f (lgH lb n kn lg vt x::F)
  (fun u g B=>∃(p:Option Addr) (c:Nat),u= .slice p (cmtV n vt lg) c∧g=f∧B=slc p (cmtV n vt lg) c 34 40 ((qrow x (cmtV n vt lg)).flatMap Req.vals)::lgH lb n kn lg vt x::F):=by
 have hb:=fun G=>dbest_fn f G (lb:=lb) (kn:=kn) (x:=x) h3 h11 hodd hlg hvt;have hm:=cmtV_le n vt lg
 generalize cmtV n vt lg=m at hb hm;refine A9 func36 ntmps36 fun base=>?_;apply (gG);apply A5 (hb _);apply (gO);refine AG rfl rfl rfl (lglog_fn f _ hlg) fun p c=>?_;refine DJ aP0 fun hc=>?_;apply (gO);refine CV (hv:=m) rfl rfl rfl rfl jB rfl ?_;apply (gK);refine DV (m':=m) (ys:=(qrow x m).flatMap Req.vals) hm hc (by rw[←qrow_take x hm,flat_take req40]) ?_;exact qbf
end
open Go.Sort (bitsLen insertionSort ltInt)
def lookC(lb n i:Nat)(pp:Option Addr)(m pc v:Nat):List Value:=[.pointer (some ⟨lb,0,none⟩),.int .i64 (n:Nat),.int .i64 (i:Nat),.slice pp m pc,.int .u64 0,.int .u64 0,.bool true,.int .i64 (v:Nat)]
def bodK(kd:UInt8)(k:Nat):List Value:=({Bod.zero 0 with kind:=kd,k:=(k:Nat)}:Bod).vals none 0
theorem zbn(kd:UInt8)(k:Nat):∀v∈bodK kd k,one v=true:=zaa rfl
def bodZ:List Value:=(Bod.zero 0).vals none 0
variable {xb:Nat}
section
variable (f:Frag) (F:List HP)
theorem dufew_fn{i:Nat}(h3:3≤n)(h11:n≤11)(hodd:n % 2=1)(h1:1≤i)(hi:i≤n):Fn prog 345 [.pointer (some ⟨lb,0,none⟩),.int .i64 (n:Nat),.int .i64 (i:Nat)] f F (Ret (.bool true) f F):=by
 have hr:((n:Nat):Int).tmod 2=1:=by rw[show(2:Int)=((2:Nat):Int)from rfl,tmod64,hodd];rfl
 have h:=decide_eq_true (show((i:Nat):Int)≤(n:Nat) by omega);refine AP func345 ntmps345 fun base=>?_
 repeat(first|(refine H.rem rfl rfl rfl jE hr rfl ?_)|(apply (gU)))
 exact qcq
theorem duprim_fn{i:Nat}(h3:3≤n)(h11:n≤11):Fn prog 401 [.pointer (some ⟨xb,0,none⟩),.int .u64 0] f (row xb 486 (lookC lb n i pp m pc v)::F) (Ret (.bool (decide ((1:Int)=(i:Nat)))) f (row xb 486 (lookC lb n i pp m pc v)::F)):=by
 refine A9 func401 ntmps401 fun base=>?_;apply (gG);apply (qhz);refine HQ.rem (z:=0) rfl rfl rfl jB (by rw[Int.zero_tmod]) rfl ?_;apply (gM);apply (gK);exact qad
theorem duchange_fn{i:Nat}:Fn prog 381 [.pointer (some ⟨xb,0,none⟩)] f (row xb 486 (lookC lb n i pp m pc v)::F) (Ret (.tuple #[.agg (bodK 3 0).toArray,.bool false]) f (row xb 486 (lookC lb n i pp m pc v)::F)):=by
 refine AB func381 ntmps381 fun base=>?_;refine (qfV) fun ob=>?_;apply (gG);apply (qfl);apply (qea);apply A6 [0,1,2,3,4,5,6,7,8,9,10,11,12,13,14,15,16,17,18,19,20] 2;apply (qgO);apply A7 21;refine AC (ls:=bodZ) (vs:=bodK 3 0) (ls':=bodK 3 0) rfl rfl rfl (zbn _ _) rfl rfl (Nat.le_refl 76) jA ?_;apply (gA);apply (qfl);apply (qdO);apply A6 [22] 0;apply (qgJ);apply (qed);exact B5 (ls:=bodK 3 0) rfl rfl rfl rfl (Rd.ofRow aP0) rfl (fun _ s=>s.drop (.here _ _)) ⟨rfl,rfl,rfl⟩
end
open Go.Sort (bitsLen insertionSort insertionSort_holds ltInt swo_ltInt)
def zrs(m:Nat):List Value:=List.replicate m (.int .u64 0)
theorem zrs_next(m:Nat):zrs m++[.int .u64 0]=zrs (m+1):=by simp[zrs,List.replicate_succ']
theorem zrs_arr(m:Nat):arr (List.replicate m (0:Int)).toArray=zrs m:=by rw[arr_map];simp[zrs]
theorem zrs_sort(m:Nat):insertionSort ltInt (List.replicate m (0:Int)).toArray 0 m=(List.replicate m (0:Int)).toArray:=by
 have e:(List.replicate m (0:Int)).toArray.size=m:=by simp
 obtain⟨h1,_⟩:=insertionSort_holds (lt:=ltInt) swo_ltInt (List.replicate m (0:Int)).toArray 0 m (Nat.zero_le _) jB;generalize insertionSort ltInt (List.replicate m (0:Int)).toArray 0 m=d at h1;have hdn:d.size=m:=h1.1.trans e;have h3:=h1.2.2
 have e1:d.extract 0 m=d:=by rw[←hdn];exact Array.extract_size
 have e2:(List.replicate m (0:Int)).toArray.extract 0 m=(List.replicate m (0:Int)).toArray:=by
  have h:=Array.extract_size (xs:=(List.replicate m (0:Int)).toArray);rw[e]at h
  exact h
 rw[e1,e2]at h3;have h4:d.toList=List.replicate m 0:=List.perm_replicate.1 h3;rw[←h4]
section
variable (f:Frag) (F:List HP)
theorem zsort_fn(hm:m≤12):Fn prog 256 [.slice p m c] f (slc p m c 29 1 (zrs m)::F) (Ret (.tuple #[]) f (slc p m c 29 1 (zrs m)::F)):=by
 have hl:=fun G=>len_fn f G (x:=m) jB;have hi:=fun G=>insSort_fn f G (p:=p) (n:=m) (c:=c) (a:=0) (b:=m) (d0:=(List.replicate m (0:Int)).toArray) jI jB (Nat.le_refl _) (Nat.zero_le _)
 rw[zrs_sort,zrs_arr]at hi
 have hs:∀G lim,Fn prog 306 [.slice p m c,.int .i64 0,.int .i64 (m:Nat),.int .i64 lim] f (slc p m c 29 1 (zrs m)::G) (Ret (.tuple #[]) f (slc p m c 29 1 (zrs m)::G)):=fun G lim=>by
  have hi:=hi G;refine BK func306 ntmps306 fun base=>?_
  apply (gK);refine AF (ι:=Unit) (fun _=>[(0,.slice p m c),(1,.int .i64 0),(2,.int .i64 (m:Nat)),(3,.int .i64 lim)]) (fun _=>f) (fun _=>slc p m c 29 1 (zrs m)::G) (fun _=>True) (fun _=>0) () trivial fun s _=>?_;exact qbu
 exact qbS
def nJ(i k:Nat):Nat:=if i≤k then k-1 else k
theorem join_fn{i:Nat}(h3:3≤n)(h11:n≤11)(hodd:n % 2=1)(h1:1≤i)(hi:i≤n):Fn prog 294 [.pointer (some ⟨lb,0,none⟩),.int .i64 (n:Nat),.int .i64 (i:Nat)] f (lgH lb n kn lg vt x::F) (Ret (.int .u64 0) f (lgH lb n kn lg vt x::F)):=by
 have hq:IntKind.wrap .i64 (((n:Nat):Int).tdiv 2)=((n / 2:Nat):Int):=qbe
 refine AP func294 ntmps294 fun base=>?_;apply (gG);refine A8 rfl rfl rfl (dufew_fn f _ h3 h11 hodd h1 hi) ?_;apply (qdI);refine AY 29 1 ?_;apply (qev)
 refine H.loop (ι:=Nat×Option Addr×Nat) (fun s=>[(8,.int .i64 ((s.1+1:Nat):Int)),(7,.slice s.2.1 (nJ i s.1) s.2.2),(0,.pointer (some ⟨lb,0,none⟩)),(1,.int .i64 (n:Nat)),(2,.int .i64 (i:Nat))]) (fun _=>f)
  (fun s => lgH lb n kn lg vt x :: slc s.2.1 (nJ i s.1) s.2.2 29 1 (zrs (nJ i s.1)) :: F) (fun s => s.1 ≤ n) (fun s => n - s.1) (0, none, 0) (Nat.zero_le _) (by
   have e:nJ i 0=0:=by unfold nJ;rw[if_neg jB]
   show SubE _ [_,(7,.slice none (nJ i 0) 0),_,_,_]
   rw[e]
   exact⟨rfl,rfl,rfl,rfl,rfl,trivial⟩) rfl (by
   have e:nJ i 0=0:=by unfold nJ;rw[if_neg jB]
   show _=_::slc none (nJ i 0) 0 _ 1 (zrs (nJ i 0))::F
   rw[e];rfl) fun s hs=>?_
 obtain⟨r,vp,vc⟩:=s;have hs:r≤n:=hs;show H _ _ _ [(8,.int .i64 ((r+1:Nat):Int)),(7,.slice vp (nJ i r) vc),_,_,_] _ (_::slc vp (nJ i r) vc _ 1 (zrs (nJ i r))::F) _
 by_cases hlt:r<n
 ·by_cases hri:r+1=i
  ·have e:nJ i (r+1)=nJ i r:=by unfold nJ;rw[if_pos jB,if_neg jB];omega
   have hne:¬¬(((r+1:Nat):Int)=(i:Nat)):=jB
   apply (gT);refine AX (r+1,vp,vc) kO jU ?_ rfl ?_
   ·show SubE _ [_,(7,.slice vp (nJ i (r+1)) vc),_,_,_];exact qdt
   ·show _=_::slc vp (nJ i (r+1)) vc _ 1 (zrs (nJ i (r+1)))::F;rw[e]
  ·have e:nJ i (r+1)=nJ i r+1:=by unfold nJ;split<;>split<;>omega
   have hl:nJ i r≤11:=by unfold nJ;split<;>omega
   have hne:¬(((r+1:Nat):Int)=(i:Nat)):=jB
   apply (gN);refine A8 rfl rfl rfl (lggreat_fn f _ h11 hlt) ?_;refine (qiv) fun eb=>?_;refine AQ (sz:=1) (p:=vp) (n0:=nJ i r) (c:=vc) (xs:=zrs (nJ i r)) (m:=1) (news:=[.int .u64 0]) rfl rfl rfl rfl rfl (fun p' c'=>jA) (Src.slice (Rd.ofRow aP0) rfl) (zaa rfl) rfl jB jB fun p2 c2=>?_;rw[zrs_next];apply (gD);apply (qeZ);refine AX (r+1,p2,c2) kO jU ?_ rfl ?_
   ·show SubE _ [_,(7,.slice p2 (nJ i (r+1)) c2),_,_,_];exact qdt
   ·show _=_::slc p2 (nJ i (r+1)) c2 _ 1 (zrs (nJ i (r+1)))::F;rw[e]
 ·obtain rfl:r=n:=jB
  have e:nJ i r=r-1:=by unfold nJ;rw[if_pos hi]
  rw[e];apply (gN);apply (qeO);refine A8 rfl rfl rfl (zsort_fn f _ jB) ?_;refine AO (p:=vp) (n0:=r-1) (c:=vc) (T:=29) (sz:=1) aP0 jB fun vb hp2=>?_;subst hp2;apply (gG);refine H.quo (z:=((r / 2:Nat):Int)) rfl rfl rfl jE hq rfl ?_;apply (gL);refine B7 (i:=r-1-r / 2-1) rfl rfl rfl jB jB rfl ?_;refine AL (v:=.int .u64 0) rfl rfl rfl (by rw[Nat.mul_one];exact Rd1.of (i:=r-1-r / 2-1) (off:=0) (Rd.ofSlc aP0 jB) (by unfold zrs;rw[List.getElem?_replicate,if_pos jB])) rfl ?_;apply (gK);apply (qgM);exact qad
theorem dunew_fn{i:Nat}(h3:3≤n)(h11:n≤11):Fn prog 382 [.pointer (some ⟨xb,0,none⟩)] f (row xb 486 (lookC lb n i pp m pc v)::lgH lb n kn lg vt x::F) (Ret (.tuple #[.agg (bodK 4 0).toArray,.bool false]) f (row xb 486 (lookC lb n i pp m pc v)::lgH lb n kn lg vt x::F)):=by
 have hq:IntKind.wrap .i64 (((n:Nat):Int).tdiv 2)=((n / 2:Nat):Int):=qbe
 refine AB func382 ntmps382 fun base=>?_;refine (qfV) fun ob=>?_;apply (gK)
 refine AF (ι:=Nat) (fun r=>[(5,.int .i64 ((r+1:Nat):Int)),(4,.slice none 0 0),(3,.bool false),(2,.pointer (some ⟨ob,0,none⟩)),(0,.pointer (some ⟨xb,0,none⟩))]) (fun _=>f)
  (fun _=>row ob 39 bodZ::row xb 486 (lookC lb n i pp m pc v)::lgH lb n kn lg vt x::F) (fun r=>r≤n) (fun r=>n-r) 0 (Nat.zero_le _) fun r hr=>?_
 have hr:r≤n:=hr;by_cases hlt:r<n
 ·apply (gS);refine H.quo (z:=((n / 2:Nat):Int)) rfl rfl rfl jE hq rfl ?_;apply (gS);apply (qev);refine A8 rfl rfl rfl (lgchange_fn f _ h11 hlt) ?_;apply (gS);apply (qfl);apply (qed);exact qcR
 ·apply (gS);apply (qfl);apply (qea);apply A6 [0,1,2,3,4,5,6,7,8,9,10,11,12,13,14,15,16] 14;apply (qgu);apply (qdG);apply A7 17;apply (qjQ);apply A6 [18,19,20,21,22,23,24,25,26,27,28] 2;apply (qgO);apply A7 29;refine AC (ls:=bodZ) (vs:=bodK 4 0) (ls':=bodK 4 0) rfl rfl rfl (zbn _ _) rfl rfl (Nat.le_refl 76) jA ?_;apply (gA);apply (qfl);apply (qdO);apply A6 [30] 0;apply (qgJ);apply (qed);exact B5 (ls:=bodK 4 0) rfl rfl rfl rfl (Rd.ofRow aP0) rfl (fun _ s=>s.drop (.here _ _)) ⟨rfl,rfl,rfl⟩
theorem ducom_no(h3:3≤n)(h11:n≤11)(hlg:lg≤1000)(hv:v≤1000):Fn prog 385 [.pointer (some ⟨xb,0,none⟩)] f (row xb 486 (lookC lb n 1 pp m pc v)::lgH lb n kn lg vt x::F) (Ret (.tuple #[.agg (bodK 2 (v+1)).toArray,.bool false]) f (row xb 486 (lookC lb n 1 pp m pc v)::lgH lb n kn lg vt x::F)):=by
 refine AB func385 ntmps385 fun base=>?_;refine (qfV) fun ob=>?_;refine (qjR) fun ap ac=>?_;apply (qgR);apply (qjK);apply (qdE);apply A6 [22,23,24,25,26,27,28,29,30,31,32] 2;apply (qgu);exact qaF
theorem ducom_fn{i:Nat}(h3:3≤n)(h11:n≤11)(hi:i≠1)(hlg:lg≤1000)(hv:v≤1000):Fn prog 385 [.pointer (some ⟨xb,0,none⟩)] f (row xb 486 (lookC lb n i pp m pc v)::lgH lb n kn lg vt x::F) (Ret (.tuple #[.agg (bodK 2 (v+1)).toArray,.bool (decide ((v:Int)<(lg:Nat)))]) f (row xb 486 (lookC lb n i pp m pc v)::lgH lb n kn lg vt x::F)):=by
 have hd:decide ((1:Int)=(i:Nat))=false:=decide_eq_false jB;refine AB func385 ntmps385 fun base=>?_
 refine (qfV) fun ob=>?_;refine (qjR) fun ap ac=>?_;apply (qgR);apply (qjK);apply (qdE);apply A6 [22,23,24,25,26,27,28,29,30,31,32] 2;rw[hd];repeat(first|(refine HQ.not (b:=false) (c:=true) rfl rfl rfl rfl ?_)|(apply (gV)))
 exact qaF
def pndV(x:UInt8)(c:Nat):List Value:=(qS x c).vals
theorem pndV_len(x:UInt8)(c:Nat):(pndV x c).length=40:=rfl
def bodP(x:UInt8)(c:Nat):List Value:=({Bod.zero 1 with req:=qS x c}:Bod).vals none 0
theorem bodP_one(x:UInt8)(c:Nat):∀v∈bodP x c,one v=true:=zaa rfl
theorem duprep_no{i:Nat}(h3:3≤n)(h11:n≤11)(hi:i≠1):Fn prog 384 [.pointer (some ⟨xb,0,none⟩)] f (row xb 486 (lookC lb n i pp m pc v)::F) (Ret (.tuple #[.agg (bodK 0 0).toArray,.bool false]) f (row xb 486 (lookC lb n i pp m pc v)::F)):=by
 have hd:decide ((1:Int)=(i:Nat))=false:=decide_eq_false jB;refine AB func384 ntmps384 fun base=>?_
 refine (qfV) fun ob=>?_;apply (qdI);apply (qfl);apply (qjK);rw[hd];apply (qeN);exact qbM
def prepR(x:UInt8)(lg:Nat)(pd:List Nat):Value:=match pd.find? fun c=>decide (lg<c)with
 |some c=>.tuple #[.agg (bodP x c).toArray,.bool true]
 |none=>.tuple #[.agg (bodK 0 0).toArray,.bool false]
theorem find_first{l:List Nat}{p:Nat→Bool}{r:Nat}(hc:l[r]?=some c)(hp:p c=true)(hb:∀j c,j<r→l[j]?=some c→p c=false):l.find? p=some c:=by
 induction l generalizing r with
 |nil=>cases hc
 | cons y t ih =>
  cases r with
  | zero =>
   obtain rfl:y=c:=Option.some.inj hc;rw[List.find?_cons,hp]
  | succ r =>
   rw[List.find?_cons,hb 0 y jB rfl];exact ih (r:=r) (by simpa using hc) fun j c hj hc=>hb (j+1) c jB (by simpa using hc)
theorem duprep_fn(htab:TabAt f){pd:List Nat}(h3:3≤n)(h11:n≤11)(hpd:∀c∈pd,1≤c∧c≤8)(hpl:pd.length≤1000):Fn prog 384 [.pointer (some ⟨xb,0,none⟩)] f (row xb 486 (lookC lb n 1 pp pd.length pc v)::slc pp pd.length pc 34 40 (pd.flatMap (pndV x))::lgH lb n kn lg vt x::F)
   (Ret (prepR x lg pd) f (row xb 486 (lookC lb n 1 pp pd.length pc v)::slc pp pd.length pc 34 40 (pd.flatMap (pndV x))::lgH lb n kn lg vt x::F)):=by
 refine AB func384 ntmps384 fun base=>?_;refine (qfV) fun ob=>?_;apply (qdI);apply (qfl);apply (qjK);rw[show decide ((1:Int)=((1:Nat):Int))=true from rfl];apply (qdI)
 refine AF (ι:=Nat) (fun r=>[(26,.int .i64 (r:Nat)),(25,.int .i64 (pd.length:Nat)),(24,.slice pp pd.length pc),(3,.bool false),(2,.pointer (some ⟨ob,0,none⟩)),(0,.pointer (some ⟨xb,0,none⟩))]) (fun _=>f)
  (fun _=>row xb 486 (lookC lb n 1 pp pd.length pc v)::row ob 39 bodZ::slc pp pd.length pc 34 40 (pd.flatMap (pndV x))::lgH lb n kn lg vt x::F)
  (fun r=>r≤pd.length∧∀j c,j<r→pd[j]?=some c→decide (lg<c)=false) (fun r=>pd.length-r) 0 ⟨Nat.zero_le _,fun j c h=>absurd h (Nat.not_lt_zero _)⟩ fun r hr=>?_
 obtain⟨hr,hb⟩:r≤pd.length∧∀j c,j<r→pd[j]?=some c→decide (lg<c)=false:=hr;by_cases hlt:r<pd.length
 ·obtain⟨c,hc⟩:∃c,pd[r]?=some c:=⟨_,List.getElem?_eq_getElem hlt⟩;have hcb:=hpd c (List.mem_of_getElem? hc);have hau:=fun G=>auth_fn f G htab (qS x c)
  rw[qS_auth x hcb.1 hcb.2]at hau;refine AO (p:=pp) (n0:=pd.length) (c:=pc) (T:=34) (sz:=40) jA jB fun pb hp=>?_;subst hp;apply (gN);refine B7 (i:=r) rfl rfl rfl rfl hlt rfl ?_;refine AD (ls:=pndV x c) rfl rfl rfl (by rw[Nat.zero_add];exact Rd.slcElem (sz:=40) (vals:=pndV x) (xs:=pd) (pndV_len x) jE jA hc) rfl rfl ?_;refine (qfh) fun qb=>?_;refine AC (ls:=Req.zero.vals) (vs:=pndV x c) (ls':=reqL x c (qS x c).tag) rfl rfl rfl (zaa rfl) rfl rfl (Nat.le_refl 40) aP0 ?_;apply (gA);apply (qex);apply A6 [0] 17;refine AH (ls:=(qS x c).vals) rfl rfl rfl (Rd.ofRow jA) rfl rfl ?_;apply (qhL);apply A5 (hau _);apply (qdE);apply A6 [2,3,4,5,6,7,8,9,10,11,12,13,14] 3;apply (qdX);apply A7 15;apply (qev);refine A8 rfl rfl rfl (lgholds_fn f _ hcb.1) ?_;apply (gA);apply (qfl);apply (qgb);apply A6 [16,17] 0;by_cases hcl:c≤lg
  ·rw[decide_eq_true hcl];have hn:decide (lg<c)=false:=decide_eq_false jB;apply (qgu)
   apply (qdG);refine AN ?_;apply (gT);apply (qfs);apply A3 (slc (some ⟨pb,0,none⟩) _ _ _ _ _);apply (qed);apply (qfl)
   exact AX (r+1) ⟨by show r+1≤pd.length;omega,fun j c' hj hc'=>by
    by_cases e:j=r
    ·subst e;rw[hc]at hc';obtain rfl:=Option.some.inj hc';exact hn
    ·exact hb j c' jB hc'⟩ (by show pd.length-(r+1)<pd.length-r;omega) ⟨rfl,rfl,rfl,rfl,rfl,rfl,trivial⟩ rfl rfl
  ·rw[decide_eq_false hcl]
   have hfi:prepR x lg pd= .tuple #[.agg (bodP x c).toArray,.bool true]:=by
    unfold prepR;rw[find_first (p:=fun c=>decide (lg<c)) hc (decide_eq_true jB) hb]
   rw[hfi];repeat(first|(refine HQ.not (b:=false) (c:=true) rfl rfl rfl rfl ?_)|(apply (gV)))
   apply (qdG);refine AN ?_;apply (gR);apply (qex);apply A6 [0,1,2,3,4,5] 2;apply (gF);refine AH (ls:=(qS x c).vals) rfl rfl rfl (Rd.ofRow jA) rfl rfl ?_;apply (qfq);apply A7 6;refine AC (ls:=bodZ) (vs:=bodP x c) (ls':=bodP x c) rfl rfl rfl (bodP_one _ _) rfl rfl (Nat.le_refl 76) jA ?_;apply (qdE);apply A6 [7] 0;apply (qgJ);apply (qfs);apply A3 (slc (some ⟨pb,0,none⟩) _ _ _ _ _);apply (qfl);apply (qed);exact B5 (ls:=bodP x c) rfl rfl rfl rfl (Rd.ofRow aP0) rfl (fun _ s=>s.drop (.here _ _)) ⟨rfl,rfl,rfl⟩
 ·obtain rfl:r=pd.length:=jB
  have hfi:prepR x lg pd= .tuple #[.agg (bodK 0 0).toArray,.bool false]:=by
   unfold prepR;rw[List.find?_eq_none.2 fun c hc=>?_];obtain⟨j,hj⟩:=List.getElem?_of_mem hc
   have:=hb j c (List.getElem?_eq_some_iff.1 hj).1 hj;simp only[this,Bool.false_eq_true,not_false_eq_true]
  rw[hfi];apply (gN);exact qbM
end
end Go.Proofs.YtdpgpmbebbaoiaaGreatDoor
