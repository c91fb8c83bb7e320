/- Parts of the proof. No conditions. -/
import Derived.Test.YtdpgpmbebbaoiaaGreatDoorZ06
import Derived.OpenShut
import Derived.Test.YtdpgpmbebbaoiaaGreatDoorRows
import Derived.Sort.AssemblyPlain
import Derived.Lib.Tables
set_option linter.unusedSectionVars false
set_option linter.unusedSimpArgs false
set_option linter.unusedVariables false
set_option maxHeartbeats 3200000
set_option maxRecDepth 20000
namespace Go.Proofs.YtdpgpmbebbaoiaaGreatDoor
open Go Go.Proofs.Tryz
structure BP where
 p:Option Addr
 c:Nat
 l:List UInt8
def BP.val(x:BP):Value:=.slice x.p x.l.length x.c
def flat(ps:List BP):List UInt8:=ps.flatMap BP.l
def upto(ps:List BP)(i:Nat):List UInt8:=flat (ps.take i)
variable {ps:List BP}
theorem upto_succ{i:Nat}{x:BP}(h:ps[i]?=some x):upto ps (i+1)=upto ps i++x.l:=by
 unfold upto flat;rw[List.take_add_one,h,List.flatMap_append];simp
theorem upto_le(ps:List BP)(i:Nat):(upto ps i).length≤(flat ps).length:=by
 have:flat ps=upto ps i++flat (ps.drop i):=by
  unfold upto flat;rw[←List.flatMap_append,List.take_append_drop]
 rw[this,List.length_append];omega
theorem upto_all(ps:List BP):upto ps ps.length=flat ps:=by unfold upto;rw[List.take_length]
variable {r:Option Addr} {d:Nat} {b:List UInt8} {n:Int}
section
variable (f:Frag) (F:List HP)
theorem bconcat_fn{sb:Nat}(hs:∀x∈ps,∀G,Src prog f (G++F) (.slice x.p x.l.length x.c) 1 x.l.length (bytesV x.l))(hl:(flat ps).length≤1000000)(hn:ps.length≤1000):Fn prog 164 [.slice (some ⟨sb,0,none⟩) ps.length ps.length] f (row sb 46 (ps.map BP.val)::F) (BytesR (flat ps) f F):=by
 have hget:∀i,i<ps.length→∃x,ps[i]?=some x∧(ps.map BP.val)[i]?=some (.slice x.p x.l.length x.c)∧x∈ps:=fun i h=>
  ⟨ps[i],List.getElem?_eq_getElem h,by rw[List.getElem?_map,List.getElem?_eq_getElem h];rfl,List.getElem_mem h⟩
 have hu:=upto_le ps;refine AB func164 ntmps164 fun base=>?_
 apply (gK)
 refine AF (ι:=Nat) (fun i=>[(11,.int .i64 (i:Int)),(10,.int .i64 (ps.length:Nat)),(9,.slice (some ⟨sb,0,none⟩) ps.length ps.length),(3,.int .i64 ((upto ps i).length:Nat)),(0,.slice (some ⟨sb,0,none⟩) ps.length ps.length)]) (fun _=>f)
  (fun _=>row sb 46 (ps.map BP.val)::F) (fun i=>i≤ps.length) (fun i=>ps.length-i) 0 (Nat.zero_le _) fun i hi=>?_
 have hi:i≤ps.length:=hi;show H _ _ _ [(11,.int .i64 (i:Int)),_,_,(3,.int .i64 ((upto ps i).length:Nat)),_] _ _ _
 by_cases hlt:i<ps.length
 ·obtain⟨x,hx,hv,_⟩:=hget i hlt;have hs1:=upto_succ hx;have hu1:=hu (i+1)
  rw[hs1,List.length_append]at hu1;generalize upto ps i=a at hs1 hu1⊢;apply (qiG);apply (gT);refine H.know (d:=3) (u:=.int .i64 ((upto ps (i+1)).length:Nat)) rfl (congrArg (Value.int .i64) (by rw[hs1,List.length_append];try rfl)) ?_;exact AI (i+1) (by show i+1≤_;omega) kA
 ·have hie:i=ps.length:=jB
  subst hie;rw[upto_all];apply (gN);refine AY 5 1 ?_;refine AG rfl rfl rfl (growB_fn f _ (l:=[]) (m:=(flat ps).length) jE hl) fun p0 c0=>?_;apply (gK)
  refine AF (ι:=Nat×Option Addr×Nat) (fun i=>[(27,.int .i64 (i.1:Int)),(26,.int .i64 (ps.length:Nat)),(25,.slice (some ⟨sb,0,none⟩) ps.length ps.length),(6,.slice i.2.1 (upto ps i.1).length i.2.2)]) (fun _=>f)
   (fun i=>slc i.2.1 (upto ps i.1).length i.2.2 5 1 (bytesV (upto ps i.1))::row sb 46 (ps.map BP.val)::F) (fun i=>i.1≤ps.length) (fun i=>ps.length-i.1) (0,p0,c0) (Nat.zero_le _) fun i hi=>?_
  obtain⟨i,p',c'⟩:=i;have hi:i≤ps.length:=hi;show H _ _ _ [(27,.int .i64 (i:Int)),_,_,(6,.slice p' (upto ps i).length c')] _ (slc p' (upto ps i).length c' _ 1 (bytesV (upto ps i))::_::F) _
  by_cases hlt:i<ps.length
  ·obtain⟨x,hx,hv,hm⟩:=hget i hlt;have hs1:=upto_succ hx;have hu1:=hu (i+1)
   rw[hs1,List.length_append]at hu1;generalize upto ps i=a at hs1 hu1⊢;apply (qiG);apply (gG);refine AQ (xs:=bytesV a) rfl rfl rfl rfl rfl (fun p' c'=>.here _ _ _) (hs x hm [_,_]) (zao _) rfl jB jB fun p3 c3=>?_;apply (gD);refine AX (i+1,p3,c3) (by show i+1≤_;omega) kA ⟨rfl,rfl,rfl,?_,trivial⟩ rfl ?_
   ·show some (Value.slice p3 (a.length+x.l.length) c3)=some (Value.slice p3 (upto ps (i+1)).length c3);rw[hs1,List.length_append]
   ·show _=slc p3 (upto ps (i+1)).length c3 _ 1 (bytesV (upto ps (i+1)))::_;rw[hs1,List.length_append,zak]
  ·have hie:i=ps.length:=jB
   subst hie;rw[upto_all];apply (gN);apply (qkw);exact qbi
theorem thmac_ss(htab:TabAt f){p:Option Addr}{c:Nat}{key:List UInt8}(hd:b.length≤d)(hl:key.length≤64)(hl2:b.length≤10000000):Fn prog 215 [.slice p key.length c,.slice r b.length d] f (slc p key.length c 5 1 (bytesV key)::slc r b.length d 5 1 (bytesV b)::F) (Ret (.agg (b32 (Sha.hmac key b)).toArray) f (slc p key.length c 5 1 (bytesV key)::slc r b.length d 5 1 (bytesV b)::F)):=
 Fn.frozen fun g hg hj=>Fn.frozen fun g2 hg2 hj2=>thmac_fn (un (un f g) g2) F (IntsAt.mono (Le.un _ g2) (IntsAt.mono (Le.un f g) htab)) (BAt.mono (Le.un _ g2) (slc_bat _ hg hj)) (slc_bat _ hg2 hj2) hd hl hl2
theorem tnumbered_fn(htab:TabAt f){i:Int}(h1:1≤i)(h2:i≤11)(hs:∀G,Src prog f (G++F) (.slice r b.length d) 1 b.length (bytesV b))(hl:b.length≤900000):Fn prog 154 [.int .i64 i,.int .u64 n,.slice r b.length d] f F (Ret (.agg (b32 (Sha.numbered i n b)).toArray) f F):=by
 refine AP func154 ntmps154 fun base=>?_;apply (gA);refine (qfv) fun ob=>?_;refine (qjv) fun p1 c1=>?_;apply (gG);refine AG rfl rfl rfl (zbj (l:=[]) (n:=n) f _ Src.nil (fun _=>rfl) jE) fun p2 c2=>?_;rw[List.nil_append];have h8:=be_len 8 n;unfold Sha.numbered
 have hk:(Sha.word32 Sha.replicaW i).length=32:=rfl;generalize Sha.word32 Sha.replicaW i=key at hk⊢
 generalize be 8 n=w at h8⊢;repeat(((apply B3);(iterate 3 exact rfl)))
 refine AS (out:=[.slice p2 w.length c2,.slice r b.length d]) rfl rfl rfl rfl jE jE rfl rfl fun pb=>?_;refine AG rfl rfl rfl (bconcat_fn f _ (ps:=[⟨p2,c2,w⟩,⟨r,d,b⟩]) (fun x hx G=>?_) (by show(w++(b++[])).length≤_;rw[List.append_nil,List.length_append];omega) (by show 2≤1000;decide)) fun p3 c3=>?_
 ·rcases List.mem_cons.1 hx with rfl|hx
  ·exact Src.append (Src.slcS aP0 jH)
  ·rcases List.mem_cons.1 hx with rfl|hx
   ·have h:=hs (G++[slc p2 w.length c2 5 1 (bytesV w),slc p1 key.length c1 5 1 (bytesV key),row ob 32 (zb 32)]);rw[List.append_assoc]at h
    exact h
   ·cases hx
 have hfl:flat [⟨p2,c2,w⟩,⟨r,d,b⟩]=w++b:=by show w++(b++[])=_;rw[List.append_nil]
 rw[hfl];have hwl:(w++b).length≤10000000:=by rw[List.length_append];omega
 generalize w++b=l1 at hwl⊢;refine (qjT) fun hc3 _ _=>?_;apply A3 (slc p1 _ _ _ _ _);refine A8 rfl rfl rfl (thmac_ss f _ htab (key:=key) (b:=l1) hc3 jB hwl) ?_;apply (qjr);apply (qet);refine AC (ls:=zb 32) (vs:=b32 (Sha.hmac key l1)) (ls':=b32 (Sha.hmac key l1)) rfl rfl rfl (zaa rfl) rfl rfl (Nat.le_refl 32) jA ?_;apply (gK);exact qav
end
def orx(a b:Nat→UInt8):Nat→UInt8
 |0=>0
 |i+1=>orx a b i ||| (a i ^^^ b i)
theorem u8_or0(x y:UInt8):x ||| y=0↔x=0∧y=0:=by
 rw[←UInt8.toBitVec_inj,←UInt8.toBitVec_inj,←UInt8.toBitVec_inj];simp
theorem u8_xor0(x y:UInt8):x ^^^ y=0↔x=y:=by
 rw[←UInt8.toBitVec_inj,←UInt8.toBitVec_inj];simp
theorem u8_or(x y:UInt8):bitsI .or .u8 (x.toNat:Int) (y.toNat:Int)=some (((x ||| y).toNat:Nat):Int):=by
 have e:(BitVec.ofInt 8 (x.toNat:Int) ||| BitVec.ofInt 8 (y.toNat:Int)).toNat=(x ||| y).toNat:=by rw[u8_bv,u8_bv];rfl
 show some (IntKind.u8.wrap ((BitVec.ofInt 8 (x.toNat:Int) ||| BitVec.ofInt 8 (y.toNat:Int)).toNat:Int))=_;rw[e,u8_wrapN]
theorem orx_zero(a b:Nat→UInt8):∀i,orx a b i=0↔∀j,j<i→a j=b j
 |0=>⟨fun _ j h=>by omega,fun _=>rfl⟩
 | i + 1 => by
  show orx a b i ||| (a i ^^^ b i)=0↔_
  rw[u8_or0,u8_xor0,orx_zero a b i]
  constructor
  ·rintro⟨h1,h2⟩ j hj
   by_cases e:j=i
   ·rw[e];exact h2
   ·exact h1 j jB
  ·intro h
   exact⟨fun j hj=>h j jB,h i jB⟩
theorem eqC_bytes2:∀a b:List UInt8,eqC (bytesV a) (bytesV b)=decide (a=b)
 | [],[]=>rfl
 | [],_::_=>rfl
 |_::_,[]=>rfl
 | x :: a, y :: b => by
  show(eqv (.int .u8 x.toNat) (.int .u8 y.toNat)&&eqC (bytesV a) (bytesV b))=_
  rw[eqC_bytes2 a b]
  show(((x.toNat:Int) == (y.toNat:Int))&&_)=_
  rw[Bool.eq_iff_iff]
  simp only[Bool.and_eq_true,beq_iff_eq,decide_eq_true_eq,List.cons.injEq]
  constructor
  ·rintro⟨h1,h2⟩
   exact⟨UInt8.toNat_inj.1 jB,h2⟩
  ·rintro⟨h1,h2⟩
   exact⟨by rw[h1],h2⟩
theorem b32L_map(a:Nat→UInt8):b32L a=(List.range 32).map a:=rfl
def eq32(a b:Nat→UInt8):Bool:=eqC (b32 a) (b32 b)
theorem eq32_orx(a b:Nat→UInt8):eq32 a b=decide (orx a b 32=0):=by
 unfold eq32;rw[b32_bytes,b32_bytes,eqC_bytes2,b32L_map,b32L_map];refine decide_eq_decide.2 ?_;rw[List.map_inj_left,orx_zero];constructor
 ·intro h j hj;exact h j (List.mem_range.2 hj)
 ·intro h j hj;exact h j (List.mem_range.1 hj)
theorem orx_dec(a b:Nat→UInt8):decide (((orx a b 32).toNat:Int)=0)=eq32 a b:=by
 rw[eq32_orx];refine decide_eq_decide.2 ⟨fun h=>UInt8.toNat_inj.1 (by show(orx a b 32).toNat=0;omega),fun h=>by rw[h];rfl⟩
variable {P:Program} {f:Frag} {v:Value}
theorem Src.assoc{G:List HP}{x:HP}{F:List HP}{sz m:Nat}{news:List Value}(h:Src P f ((G++[x])++F) v sz m news):Src P f (G++x::F) v sz m news:=by
 rwa [List.append_assoc]at h
variable {t:Nat→UInt8}
section
variable (f:Frag) (F:List HP)
theorem tsame_fn{a b:Nat→UInt8}:Fn prog 283 [.agg (b32 a).toArray,.agg (b32 b).toArray] f F (Ret (.bool (eq32 a b)) f F):=by
 have hdec:=orx_dec a b;refine A9 func283 ntmps283 fun base=>?_
 apply (gA);refine H.box (ls:=b32 a) rfl rfl rfl rfl fun ab=>?_;refine H.box (ls:=b32 b) rfl rfl rfl rfl fun bb=>?_;apply (gK)
 refine AF (ι:=Nat) (fun i=>[(7,.int .i64 (i:Int)),(5,.int .u8 ((orx a b i).toNat:Nat)),(2,.pointer (some ⟨ab,0,none⟩)),(3,.pointer (some ⟨bb,0,none⟩))]) (fun _=>f)
  (fun _=>row bb 32 (b32 b)::row ab 32 (b32 a)::F) (fun i=>i≤32) (fun i=>32-i) 0 (Nat.zero_le _) fun i hi=>?_
 have hi:i≤32:=hi;show H _ _ _ [_,(5,.int .u8 ((orx a b i).toNat:Nat)),_,_] _ _ _
 by_cases hlt:i<32
 ·have ha:(b32 a)[i*1]?=some (.int .u8 ((a i).toNat:Nat)):=by rw[Nat.mul_one];exact b32_get a hlt
  have hb:(b32 b)[i*1]?=some (.int .u8 ((b i).toNat:Nat)):=by rw[Nat.mul_one];exact b32_get b hlt
  have hs:orx a b (i+1)=orx a b i ||| (a i ^^^ b i):=rfl;apply (gN)
  refine BB ?_;repeat(first|(apply BO (i:=i);(iterate 3 exact rfl);omega;omega;exact rfl)|(apply B6;(iterate 3 exact rfl);(first|exact .of (Rd.ofRow jA) ha|exact .of (Rd.ofRow jA) hb);exact rfl)|(apply (gV))|(apply HQ.bits (op:=.xor);(iterate 3 exact rfl);exact u8_xor _ _;(iterate 2 exact rfl))|(apply HQ.bits (op:=.or);(iterate 3 exact rfl);exact u8_or _ _;(iterate 2 exact rfl)))
  rw[←hs];apply (gD);exact AI (i+1) (by show i+1≤32;omega) (by show 32-(i+1)<32-i;omega)
 ·have hi32:i=32:=jB
  subst hi32;generalize orx a b 32=x at hdec⊢;rw[←hdec];clear hdec;apply (gE);exact qce
theorem ucheck_fn(htab:TabAt f){i:Int}(h1:1≤i)(h2:i≤11)(h3:1≤n)(h4:n≤65536)(hs:∀G,Src prog f (G++F) (.slice r b.length d) 1 b.length (bytesV b))(hl:b.length≤1024):Fn prog 323 [.int .i64 i,.int .u64 n,.slice r b.length d,.agg (b32 t).toArray] f F (Ret (.bool (eq32 t (Sha.numbered i n b))) f F):=by
 have hr:∀G,Fn prog 91 [.int .i64 i] f G (Ret (.bool true) f G):=fun G=>by
  refine AB func91 ntmps91 fun base=>?_;refine (qjv) fun p1 c1=>?_;have hk:(Sha.word32 Sha.replicaW i).length=32:=rfl;generalize Sha.word32 Sha.replicaW i=key at hk⊢
  apply (gN);apply (qet);exact qcP
 have hn:∀G,Fn prog 99 [.int .u64 n] f G (Ret (.bool true) f G):=fun G=>by
  refine AB func99 ntmps99 fun base=>?_;apply (gJ);exact qcP
 refine BK func323 ntmps323 fun base=>?_;apply (gA);refine H.box (ls:=b32 t) rfl rfl rfl rfl fun tb=>?_;apply (qkq);apply A6 [0] 19;apply (qgK);apply A7 1;apply A5 (hr _);apply (qdE);apply A6 [2,3] 16;apply (qgK);apply A7 4;apply A5 (hn _);apply (qdE);apply A6 [5,6,7,8,9,10,11,12,13,14,15] 4;repeat(first|(refine AH (ls:=b32 t) rfl rfl rfl (Rd.ofRow jA) rfl rfl ?_)|(apply (gV)))
 apply (qdG);apply A7 16;refine A8 rfl rfl rfl (tnumbered_fn f _ htab h1 h2 (fun G=>(hs (G++[_])).assoc) jB) ?_;generalize Sha.numbered i n b=u;apply (qdE);apply A7 17;refine A8 rfl rfl rfl (tsame_fn f _) ?_;apply (qdE);apply A6 [18,19] 0;apply (gM);exact qcm
end
theorem byteAt_nat(n:Nat)(j:Nat):(byteAt (n:Int) j).toNat=n / 256 ^ j % 256:=by
 unfold byteAt
 have e:(n:Int).fdiv (2 ^ (8*j)) % 256=((n / 256 ^ j % 256:Nat):Int):=by
  rw[show((2:Int) ^ (8*j))=((2 ^ (8*j):Nat):Int) by simp,Int.fdiv_eq_ediv_of_nonneg _ (Int.natCast_nonneg _),Nat.pow_mul];rfl
 rw[e,Int.toNat_natCast,UInt8.toNat_ofNat'];omega
theorem numB_beTop(k n:Nat):∀i,i≤k→numB (beTop k (n:Int) i)=n / 256 ^ (k-i) % 256 ^ i
 |0,_=>by simp[beTop,numB,Nat.mod_one]
 | i + 1, h => by
  unfold beTop
  rw[numB_snoc,numB_beTop k n i jB,byteAt_nat]
  have e1:k-i=(k-(i+1))+1:=jB
  have e2:k-1-i=k-(i+1):=jB
  rw[e1,e2]
  generalize k-(i+1)=m
  rw[Nat.pow_succ,Nat.pow_succ,←Nat.div_div_eq_div_mul]
  generalize n / 256 ^ m=a
  rw[Nat.mul_comm (256 ^ i) 256,Nat.mod_mul]
  omega
theorem numB_be{k n:Nat}(h:n<256 ^ k):numB (be k (n:Int))=n:=by
 unfold be;rw[numB_beTop k n k (Nat.le_refl _),Nat.sub_self,Nat.pow_zero,Nat.div_one,Nat.mod_eq_of_lt h]
variable {z:Int}
theorem numB_be8 (h : 0 ≤ z ∧ z ≤ 18446744073709551615) : ((numB (be 8 z) : Nat) : Int) = z := by
  obtain⟨n,rfl⟩:=Int.eq_ofNat_of_zero_le h.1
  rw [numB_be (by have : (256 : Nat) ^ 8 = 18446744073709551616 := by decide
                  omega)]
section
variable {a r:List UInt8} {n:Nat}
theorem Cs.ok_app(h:a.length=n):(⟨a++r,false⟩:Cs).ok n=true:=by
 rw[Cs.ok_iff];exact⟨rfl,by show n≤(a++r).length;rw[List.length_append];omega⟩
theorem Cs.num_app(h:a.length=n):(⟨a++r,false⟩:Cs).num n=numB a:=by
 unfold Cs.num;rw[if_pos (Cs.ok_app h)];show numB ((a++r).take n)=_;rw[←h,List.take_left]
theorem Cs.skip_app(h:a.length=n):(⟨a++r,false⟩:Cs).skip n=⟨r,false⟩:=by
 unfold Cs.skip;rw[if_pos (Cs.ok_app h)];show(⟨(a++r).drop n,false⟩:Cs)=_;rw[←h,List.drop_left]
theorem Cs.raw_app(h:a.length=n):(⟨a++r,false⟩:Cs).raw n=a:=by
 unfold Cs.raw;rw[if_pos (Cs.ok_app h)];show(a++r).take n=_;rw[←h,List.take_left]
theorem Cs.num8_be(h:0≤z∧z≤18446744073709551615):(((⟨be 8 z++r,false⟩:Cs).num 8:Nat):Int)=z:=by
 rw[Cs.num_app (be_len _ _),numB_be8 h]
theorem Cs.num1_b{b:UInt8}:(⟨b::r,false⟩:Cs).num 1=b.toNat:=by
 have:=Cs.num_app (a:=[b]) (r:=r) (n:=1) rfl;rw[List.singleton_append]at this
 rw[this];simp[numB]
theorem Cs.skip1_b{b:UInt8}:(⟨b::r,false⟩:Cs).skip 1=⟨r,false⟩:=Cs.skip_app (a:=[b]) rfl
theorem Cs.text_app{s:ByteArray}{most:Nat}(h:s.size≤most)(hm:most<65536):(⟨textB s++r,false⟩:Cs).text most=s.data.toList∧(⟨textB s++r,false⟩:Cs).textS most=⟨r,false⟩:=by
  unfold textB;rw[List.append_assoc]
  have h2:(⟨be 2 (s.size:Nat)++(s.data.toList++r),false⟩:Cs).num 2=s.size:=by
    rw [Cs.num_app (be_len _ _), numB_be (by have : (256 : Nat) ^ 2 = 65536 := by decide
                                             omega)]
  have hok:(⟨be 2 (s.size:Nat)++(s.data.toList++r),false⟩:Cs).ok 2=true:=Cs.ok_app (be_len _ _);have hdl:=data_len s
  have ht:(⟨be 2 (s.size:Nat)++(s.data.toList++r),false⟩:Cs).tok most=true:=by
    unfold Cs.tok;rw[hok,h2];simp only[Bool.true_and,Bool.and_eq_true];refine⟨Nat.ble_eq_true_of_le h,Nat.ble_eq_true_of_le ?_⟩;show 2+s.size≤(be 2 (s.size:Nat)++(s.data.toList++r)).length;rw[List.length_append,List.length_append,be_len,hdl];omega
  constructor
  · unfold Cs.text
    rw[if_pos ht,h2]
    show((be 2 (s.size:Nat)++(s.data.toList++r)).drop 2).take s.size=_
    rw[List.drop_left' (be_len _ _),List.take_left' hdl]
  · unfold Cs.textS
    rw[if_pos ht,h2]
    show(⟨(be 2 (s.size:Nat)++(s.data.toList++r)).drop (2+s.size),false⟩:Cs)=_
    rw[←List.drop_drop,List.drop_left' (be_len _ _),List.drop_left' hdl]
theorem Cs.hash_app:b32 ((⟨b32L t++r,false⟩:Cs).hash)=b32 t:=by
 have e:=Cs.raw_app (a:=b32L t) (r:=r) (n:=32) rfl;unfold Cs.hash
 simp only[e];rfl
end
theorem baOf_data(s:ByteArray):baOf s.data.toList=s:=by
 unfold baOf;rw[Array.toArray_toList]
def Req.Ok(r:Req):Prop:=(0≤r.time∧r.time≤18446744073709551615)∧(0≤r.amount∧r.amount≤18446744073709551615)
def Bod.Ok(x:Bod):Prop:=(0≤x.view∧x.view≤18446744073709551615)∧(0≤x.k∧x.k≤18446744073709551615)∧x.req.Ok
theorem req_back{q:Req}(h:q.Ok)(ha:q.asked)(r:List UInt8):((⟨q.bytes++b32L q.tag++r,false⟩:Cs).req 32 128).vals=q.vals∧(⟨q.bytes++b32L q.tag++r,false⟩:Cs).reqS 32 128=⟨r,false⟩:=by
 obtain⟨ht,hm⟩:=h;obtain⟨c1,c2,_,_,⟨k1,k2⟩,k3,k4⟩:=ha
 have e:q.bytes++b32L q.tag++r=b8 q.client::q.kind::(be 8 q.time++(be 8 q.amount++(textB q.key++(textB q.val++(textB q.old++(textB q.to++(b32L q.tag++r))))))):=by
  unfold Req.bytes Req.head;simp only[List.append_assoc,List.cons_append,List.nil_append];rfl
 rw[e];unfold Cs.req Cs.reqS;dsimp only;have t1:=Cs.text_app (s:=q.key) (most:=32) (r:=textB q.val++(textB q.old++(textB q.to++(b32L q.tag++r)))) k1 jE;have t2:=Cs.text_app (s:=q.val) (most:=128) (r:=textB q.old++(textB q.to++(b32L q.tag++r))) k3 jE
 have t3:=Cs.text_app (s:=q.old) (most:=128) (r:=textB q.to++(b32L q.tag++r)) k4 jE;have t4:=Cs.text_app (s:=q.to) (most:=32) (r:=b32L q.tag++r) k2 jE
 rw[Cs.num1_b,Cs.skip1_b,Cs.skip1_b,Cs.skip_app (be_len _ _),Cs.skip_app (be_len _ _),t1.1,t1.2,t2.1,t2.2,t3.1,t3.2,t4.1,t4.2,Cs.num8_be ht,Cs.num8_be hm];constructor
 ·unfold Cs.byte;rw[Cs.num1_b];unfold Req.vals;rw[Cs.hash_app,baOf_data,baOf_data,baOf_data,baOf_data,b8_small jB];simp
 ·exact Cs.skip_app (a:=b32L q.tag) rfl
theorem pairs_back:∀(q:List (Int×Int)) (w:Int) (r:List UInt8) (acc:List (Int×Int)),0≤w→quo w q=true→Cs.pairs q.length ⟨q.flatMap pairB++r,false⟩ acc=(acc++q,⟨r,false⟩)
 | [],w,r,acc,_,_=>by simp[Cs.pairs]
 | p :: q, w, r, acc, hw, h => by
  unfold quo at h
  split at h
  ·cases h
  ·rename_i hn
   have ih:=pairs_back q p.1 r (acc++[p]) jB h
   have e:(p::q).flatMap pairB++r=b8 p.1::(be 8 p.2++(q.flatMap pairB++r)):=by
    simp[pairB]
   rw[e]
   show(if false=true then _ else Cs.pairs q.length (((⟨_,false⟩:Cs).skip 1).skip 8) (acc++[((((⟨_,false⟩:Cs).num 1:Nat):Int),((((⟨_,false⟩:Cs).skip 1).num 8:Nat):Int))]))=_
   rw[if_neg jE,Cs.skip1_b,Cs.skip_app (be_len _ _),Cs.num1_b,Cs.num8_be jB,b8_small jB,ih]
   simp
def Bod.E(a b:Bod):Prop:=a.kind=b.kind∧a.view=b.view∧a.k=b.k∧a.req.vals=b.req.vals∧a.q=b.q∧b32 a.dig=b32 b.dig
theorem Bod.E.eqB{x a b:Bod}(h:Bod.E a b):Bod.eqB x a=Bod.eqB x b:=by
 obtain⟨h1,h2,h3,h4,h5,h6⟩:=h;unfold Bod.eqB;rw[h1,h2,h3,h4,h5,h6]
theorem eqv_comm(a b:Value):eqv a b=eqv b a:=by
 cases a with
 | bool x =>
  cases b with
  |bool y=>cases x<;>cases y<;>rfl
  |_=>rfl
 | int k x =>
  cases b with
  | int l y =>
   show(x == y)=(y == x);rw[Bool.eq_iff_iff,beq_iff_eq,beq_iff_eq];exact eq_comm
  |_=>rfl
 | string x =>
  cases b with
  | string y =>
   show(x == y)=(y == x);rw[beq_toListBytes,beq_toListBytes,Bool.eq_iff_iff,beq_iff_eq,beq_iff_eq];exact eq_comm
  |_=>rfl
 |_=>cases b<;>rfl
theorem eqC_comm:∀(a b:List Value),eqC a b=eqC b a
 | [],[]=>rfl
 | [],_::_=>rfl
 |_::_,[]=>rfl
 |x::xs,y::ys=>by simp only[eqC];rw[eqv_comm,eqC_comm xs ys]
theorem Bod.eqB_comm(a b:Bod):Bod.eqB a b=Bod.eqB b a:=by
 unfold Bod.eqB
 rw[eqC_comm a.req.vals,eqC_comm (b32 a.dig),show decide (((a.kind.toNat:Nat):Int)=b.kind.toNat)=decide (((b.kind.toNat:Nat):Int)=a.kind.toNat)from decide_eq_decide.2 eq_comm,
  show decide (a.view=b.view)=decide (b.view=a.view)from decide_eq_decide.2 eq_comm,show decide (a.k=b.k)=decide (b.k=a.k)from decide_eq_decide.2 eq_comm,show decide (a.q=b.q)=decide (b.q=a.q)from decide_eq_decide.2 eq_comm]
theorem own_q{x:Bod}(h:x.kind.toNat≠4):x.own.q=[]:=by
 unfold Bod.own;generalize x.kind.toNat=k at h
 match k,h with
 |0,_=>rfl
 |1,_=>rfl
 |2,_=>rfl
 |3,_=>rfl
 |4,h=>exact absurd rfl h
 |5,_=>rfl
 |6,_=>rfl
 |k+7,_=>rfl
theorem back_own{x:Bod}(hx:x.Ok)(hm:x.mayK x.kind.toNat=true):Bod.E (x.back x.kind.toNat) x.own:=by
 obtain⟨hv,hk,hr⟩:=hx;unfold Bod.back Bod.own;generalize x.kind.toNat=k at hm
 match k,hm with
 |0,hm=>exact absurd hm jW
 |k+7,hm=>exact absurd hm jW
 | 1, hm =>
  have ha:x.req.asked:=of_decide_eq_true hm;have e:x.putK 1=be 8 x.view++(x.req.bytes++b32L x.req.tag++[]):=by simp[Bod.putK]
  rw[e];have h1:=req_back hr ha [];refine⟨rfl,?_,rfl,?_,rfl,rfl⟩
  ·exact Cs.num8_be hv
  ·show(((⟨_,false⟩:Cs).skip 8).req 32 128).vals=_;rw[Cs.skip_app (be_len _ _)];exact h1.1
 | 2, _ =>
  have e:x.putK 2=be 8 x.view++(be 8 x.k++[]):=by simp[Bod.putK]
  rw[e];refine⟨rfl,Cs.num8_be hv,?_,rfl,rfl,rfl⟩;show((((⟨_,false⟩:Cs).skip 8).num 8:Nat):Int)=_;rw[Cs.skip_app (be_len _ _)];exact Cs.num8_be hk
 | 3, _ =>
  have e:x.putK 3=be 8 x.view++[]:=by simp[Bod.putK]
  exact qdp
 | 5, _ =>
  have e:x.putK 5=be 8 x.view++[]:=by simp[Bod.putK]
  exact qdp
 | 6, _ =>
  have e:x.putK 6=be 8 x.k++(b32L x.dig++[]):=by simp[Bod.putK]
  rw[e];refine⟨rfl,rfl,Cs.num8_be hk,rfl,rfl,?_⟩;show b32 (((⟨_,false⟩:Cs).skip 8).hash)=_;rw[Cs.skip_app (be_len _ _)];exact Cs.hash_app
 | 4, hm =>
  simp only[Bod.mayK,Bool.and_eq_true,decide_eq_true_eq]at hm;have hlen:=quo_len x.q 0 jB hm.2.1;have e:x.putK 4=be 8 x.view++(b8 x.q.length::(x.q.flatMap pairB++[])):=by simp[Bod.putK]
  rw[e];have hn:(b8 x.q.length).toNat=x.q.length:=by have:=b8_small (z:=(x.q.length:Int)) jB;omega
  have hp:=pairs_back x.q 0 [] [] (Int.le_refl 0) hm.2.1;refine⟨rfl,Cs.num8_be hv,rfl,rfl,?_,rfl⟩
  show(Cs.pairs (((⟨_,false⟩:Cs).skip 8).num 1) (((⟨_,false⟩:Cs).skip 8).skip 1) []).1=_;rw[Cs.skip_app (be_len _ _),Cs.num1_b,Cs.skip1_b,hn,hp];rfl
theorem mayB_eq{x:Bod}(hx:x.Ok):x.mayB=x.may:=by
 unfold Bod.mayB Bod.may Bod.mayP
 cases hm:x.mayK x.kind.toNat with
 |false=>simp
 | true =>
  have hk:1≤x.kind.toNat∧x.kind.toNat≤6:=by
   generalize x.kind.toNat=k at hm
   match k,hm with
   |0,hm=>exact absurd hm jW
   |k+7,hm=>exact absurd hm jW
   |1,_=>decide
   |2,_=>decide
   |3,_=>decide
   |4,_=>decide
   |5,_=>decide
   |6,_=>decide
  rw[decide_eq_true hk,Bod.E.eqB (back_own hx hm),Bod.eqB_comm x x.own];simp only[Bool.true_and,Bool.and_true]
  have hlen:Bod.eqB x.own x=true→x.q.length≤11:=fun h=>by
   have hq:=Bod.eqB_q h;by_cases h4:x.kind.toNat=4
   ·rw[h4]at hm;simp only[Bod.mayK,Bool.and_eq_true,decide_eq_true_eq]at hm
    have:=quo_len x.q 0 jB hm.2.1;omega
   ·rw[own_q h4]at hq;rw[←hq];exact Nat.zero_le _
  cases he:Bod.eqB x.own x with
  |false=>simp
  |true=>simp[hlen he]
structure MV where
 m:Msg
 qp:Option Addr
 qc:Nat
def MV.vals(x:MV):List Value:=x.m.vals x.qp x.qc
theorem MV.len(x:MV):x.vals.length=121:=rfl
def MV.Good(f:Frag)(x:MV):Prop:=QAt f x.qp x.m.body.q∧x.m.body.q.length≤1000000∧x.m.body.Ok
theorem MV.Good.mono{f g:Frag}(h:Le f g){x:MV}(hx:x.Good f):x.Good g:=⟨QAt.mono h hx.1,hx.2⟩
variable {x:MV}
section
variable (f:Frag) (F:List HP)
theorem mmay_fn(hx:x.Good f):Fn prog 163 [.agg x.vals.toArray] f F (Ret (.bool x.m.may) f F):=by
 have:=may_fn (m:=x.m) (qc:=x.qc) f F hx.1 (by have:=hx.2.1;omega);rw[mayB_eq hx.2.2]at this
 exact this
end
variable {A:List HP}
theorem Dh{base:World}{n:Nat}{L:Env}{V:List HP}{q:Post}{l rest:List Oper}{ty:TypeId}{pos:String}{af:Array Edge}{gd:Option (Nat×Bool)}
  {st:TypeId} {x:Operand} {i:Nat} {fs:List Field} {nm tg pk:String} {ft:TypeId} {fo bo:Nat} {em:Bool} {xs:List Value} {de:TypeDesc} [hu:Und P st (.struct fs.toArray)] (hw:want? l L gd=true)
  (hx:ev? L x=some (.agg xs.toArray)) (hf:nthF fs i=some ⟨nm,ft,fo,em,tg,pk,bo⟩) (he:Und P ft de) (ha:aggD de=false) (hv:nthV xs fo=some v) (hd:Nat.ble (d+1) n=true) {lst:Lst} {ti:Nat} {tt:List (Nat×Bool)}
  (k:HQ V ⟨lst.setIfInBounds ti true,tt⟩ P base n ((d,v)::L) f A (.ops l rest q)):HQ V ⟨lst,(ti,false)::tt⟩ P base n L f A (.ops l (⟨some d,.field st x i,ty,pos,af,gd⟩::rest) q):=
 As hw hd (fun a w hfr _=>by
  rw[nthF_eq]at hf
  rw[nthV_eq]at hv
  have h3:=run_isAgg he w
  simp[execOp,Instr.field,hfr.eval hx,hu.run,hf,asAgg,part,h3,ha,hv]) k
variable {m:Msg} {q:Option Addr} {qc:Nat}
section
variable (f:Frag) (F:List HP)
theorem mtagK_fn(kind:Nat)(hk:m.body.kind.toNat=kind)(f1 f2 f3:FuncId)[Fun prog f1](hput:PutC f1 kind)
  (hcod:getKV codecsM (kind:Int)=some (codecV f1 f2 f3)) (hq:QAt f q m.body.q) (hm:m.body.mayK kind=true) (hl:m.body.q.length≤11) :
  Fn prog 165 [.agg (m.vals q qc).toArray] f F (BytesR m.tagged f F):=by
 have hz:∀z,(getKV codecsM (kind:Int)).getD z=codecV f1 f2 f3:=fun z=>by rw[hcod];rfl
 have hkv:Value.int .u8 (m.body.kind.toNat:Nat)=encU8 (kind:Int):=by rw[hk];rfl
 have htg:m.tagged=[b8 m.origin]++depsB m.deps 11++[m.body.kind]++m.body.putK kind:=by unfold Msg.tagged Bod.put;rw[hk]
 rw[htg];clear htg;refine AB func165 ntmps165 fun base=>?_;refine (qhF) fun mb=>?_;apply (gL);rw[u8_b8];refine AS (out:=bytesV [b8 m.origin]) rfl rfl rfl rfl jE jE rfl rfl fun tb=>?_;refine CB (k:=1) (sz:=1) rfl jE ?_;repeat(first|(refine AD (ls:=v11 m.deps) rfl rfl rfl (msg_deps jA) rfl rfl ?_)|(apply (gU)))
 have hB0l:[b8 m.origin].length=1:=rfl;generalize [b8 m.origin]=B0 at hB0l⊢
 apply (qee)
 refine H.loop (ι:=Nat×Option Addr×Nat) (fun i=>[(12,.int .i64 (i.1:Int)),(11,.agg (v11 m.deps).toArray),(3,.slice i.2.1 (B0++depsB m.deps i.1).length i.2.2),(1,.pointer (some ⟨mb,0,none⟩))]) (fun _=>f)
  (fun i=>row mb 41 (m.vals q qc)::slc i.2.1 (B0++depsB m.deps i.1).length i.2.2 5 1 (bytesV (B0++depsB m.deps i.1))::F) (fun i=>i.1≤11) (fun i=>11-i.1) (0,some ⟨tb,0,none⟩,1) (Nat.zero_le _) ⟨rfl,rfl,?_,rfl,trivial⟩ rfl ?_ fun i hi=>?_
 ·show some (Value.slice _ 1 1)=some (Value.slice _ (B0++[]).length 1);rw[List.append_nil,hB0l]
 ·show _=_::slc _ (B0++[]).length 1 _ 1 (bytesV (B0++[]))::F;rw[List.append_nil,hB0l]
 ·obtain⟨i,p',c'⟩:=i;have hi:i≤11:=hi;show H _ _ _ [(12,.int .i64 (i:Int)),_,(3,.slice p' (B0++depsB m.deps i).length c'),_] _ (_::slc p' (B0++depsB m.deps i).length c' _ 1 (bytesV (B0++depsB m.deps i))::F) _
  have hal:(B0++depsB m.deps i).length=1+8*i:=by rw[List.length_append,depsB_len,hB0l]
  by_cases hlt:i<11
  ·have e1:B0++depsB m.deps (i+1)=(B0++depsB m.deps i)++be 8 (m.deps i):=by simp only[depsB,List.append_assoc]
   have hg:=zbq m.deps hlt;generalize B0++depsB m.deps i=acc at hal e1⊢
   repeat(first|(apply (gU))|(apply CW (i:=i);(iterate 4 exact rfl);exact hlt;exact rfl;exact hg;exact rfl))
   refine (qio) fun b1 hp=>?_;subst hp;refine AG rfl rfl rfl (zbj (l:=acc) f _ (Src.slcS jA jH) (fun h=>by cases h) jB) fun p1 c1=>?_;apply (gD);apply A4 (slc (some ⟨b1,0,none⟩) _ c' _ _ _);apply (qee);refine AX (i+1,p1,c1) kL jb ⟨rfl,rfl,?_,rfl,trivial⟩ rfl ?_
   ·show some _=some (Value.slice p1 (B0++depsB m.deps (i+1)).length c1);rw[e1]
   ·show _=_::slc p1 (B0++depsB m.deps (i+1)).length c1 _ 1 (bytesV (B0++depsB m.deps (i+1)))::F;rw[e1]
  ·have hi11:i=11:=jB
   subst hi11;generalize hacc:B0++depsB m.deps 11=acc at hal⊢;apply (gE);apply (qea);apply A6 [1,2,3,6,7,8,9,12,13] 7;repeat(first|(refine AH (ls:=m.body.vals q qc) rfl rfl rfl (msg_body jA) rfl rfl ?_)|(apply (gV)))
   apply (qdG);refine B9 (i:=0) (j:=10) jD rfl rfl ?_ ?_
   ·refine (qir) fun cb=>?_;apply (qfY);apply A6 [4,5] 4;apply (qgW);apply (qke);refine AS (out:=bytesV [m.body.kind]) rfl rfl rfl rfl jE jE rfl rfl fun tb2=>?_;apply (gA);apply (qg);apply (qfo);apply (qdO);exact qaj
   ·refine AS (out:=bytesV [m.body.kind]) rfl rfl rfl rfl jE jE rfl rfl fun tb2=>?_;apply (qhw);apply A7 0;refine (qir) fun cb=>?_;apply (qfY);apply A6 [4,5] 3;apply (qgW);exact qaj
theorem mtagged_fn(hq:QAt f q m.body.q)(hm:m.may=true):Fn prog 165 [.agg (m.vals q qc).toArray] f F (BytesR m.tagged f F):=by
 have h1:=(Bod.may_spec (Msg.may_body hm)).2.2;have h2:=Bod.may_q (Msg.may_body hm)
 generalize hk:m.body.kind.toNat=kind at h1
 match kind,hk,h1 with
 |1,hk,h1=>exact mtagK_fn f F 1 hk _ _ _ put1 jZ hq h1 h2
 |2,hk,h1=>exact mtagK_fn f F 2 hk _ _ _ put2 jZ hq h1 h2
 |3,hk,h1=>exact mtagK_fn f F 3 hk _ _ _ put3 jZ hq h1 h2
 |4,hk,h1=>exact mtagK_fn f F 4 hk _ _ _ put4 jZ hq h1 h2
 |5,hk,h1=>exact mtagK_fn f F 5 hk _ _ _ put5 jZ hq h1 h2
 |6,hk,h1=>exact mtagK_fn f F 6 hk _ _ _ put6 jZ hq h1 h2
 |0,_,h1=>exact absurd h1 jW
 |k+7,_,h1=>exact absurd h1 jW
end
def Msg.putB(m:Msg):List UInt8:=if m.may=true then be 8 m.number++m.tagged++b32L m.tag else []
def Msg.right(m:Msg):Bool:=m.may&&eq32 m.tag (Sha.numbered m.origin m.number m.tagged)
theorem putK_max(x:Bod)(kind:Nat)(hm:x.mayK kind=true)(hq:x.q.length≤11):(x.putK kind).length≤900:=by
 match kind,hm with
 | 1, hm =>
  obtain⟨_,_,_,_,⟨k1,k2⟩,k3,k4⟩:=of_decide_eq_true hm;show(be 8 x.view++x.req.bytes++b32L x.req.tag).length≤900;rw[List.length_append,List.length_append,be_len,Req.bytes_len];show 8+_+32≤900;omega
 |2,_=>simp[Bod.putK,be_len]
 |3,_=>simp[Bod.putK,be_len]
 | 4, _ =>
  show(be 8 x.view++[b8 x.q.length]++x.q.flatMap pairB).length≤900;rw[List.length_append,List.length_append,be_len,flat_pairB_len];show 8+1+_≤900;omega
 |5,_=>simp[Bod.putK,be_len]
 |6,_=>simp[Bod.putK,be_len,b32L]
theorem Msg.tagged_max(h:m.may=true):m.tagged.length≤1024:=by
 have h1:=Bod.may_spec (Msg.may_body h);have h2:=Bod.may_q (Msg.may_body h)
 have h3:=putK_max m.body m.body.kind.toNat h1.2.2 h2;unfold Msg.tagged Bod.put
 simp only[List.length_append,List.length_cons,List.length_nil,depsB_len];omega
theorem Msg.may_outer(h:m.may=true):m.outer:=by
 unfold Msg.may at h;simp only[Bool.and_eq_true,decide_eq_true_eq]at h;exact h.1
theorem msg_tag{A':List HP}{mb:Nat}{T:TypeId}(h:At A (row mb T (m.vals q qc)) A' (row mb T (m.vals q qc))):Rd f A mb (0+89) (b32 m.tag):=by
 have h1:=Rd.ofRow (f:=f) h;have e:m.vals q qc=([.int .i64 m.origin,.int .u64 m.number]++v11 m.deps++m.body.vals q qc)++b32 m.tag++[]:=by unfold Msg.vals;rw[List.append_nil]
 exact qbL
section
variable (f:Frag) (F:List HP)
theorem mbytes_fn(hx:x.Good f):Fn prog 158 [.agg x.vals.toArray] f F (BytesR x.m.bytes f F):=by
 have hmay:=fun G=>mmay_fn f G hx;unfold Msg.bytes
 by_cases hm:x.m.may=true
 ·rw[if_pos hm];rw[hm]at hmay;have htg:=fun G=>mtagged_fn (qc:=x.qc) f G hx.1 hm;generalize x.m.tagged=tg at htg⊢
  refine AB func158 ntmps158 fun base=>?_;refine (qdZ) fun mb=>?_;apply (gG);apply (qfR);apply A5 (hmay _);apply (gR);apply (qfR);refine AG rfl rfl rfl (htg _) fun p c=>?_;apply (gK);apply (qfz);exact qbf
 ·rw[if_neg hm];rw[Bool.eq_false_iff.2 hm]at hmay;refine AB func158 ntmps158 fun base=>?_;exact qaT
theorem mput_fn(hx:x.Good f):Fn prog 108 [.agg x.vals.toArray] f F (BytesR x.m.putB f F):=by
 have hmay:=fun G=>mmay_fn f G hx;unfold Msg.putB
 by_cases hm:x.m.may=true
 ·rw[if_pos hm];rw[hm]at hmay;have htg:=fun G=>mtagged_fn (qc:=x.qc) f G hx.1 hm;have htl:=Msg.tagged_max hm
  generalize x.m.tagged=tg at htg htl⊢;refine AB func108 ntmps108 fun base=>?_;refine (qdZ) fun mb=>?_;apply (gG);apply (qfR);apply A5 (hmay _);apply (gR);apply (qea);apply A6 [0,1,3,5,6] 5;apply (qjE);apply (qeC);apply (qdG);apply A7 2;refine AG rfl rfl rfl (zbj (l:=[]) (n:=x.m.number) f _ Src.nil (fun _=>rfl) jE) fun p1 c1=>?_;rw[List.nil_append];have h8:=be_len 8 x.m.number;generalize be 8 x.m.number=w at h8⊢
  apply (qhw);apply A7 4;refine AG rfl rfl rfl (htg _) fun p2 c2=>?_;apply (qhw);apply A7 7;refine AS (out:=[.slice p1 w.length c1,.slice p2 tg.length c2,.slice (some ⟨mb,89,none⟩) 32 32]) rfl rfl rfl rfl jE jE rfl rfl fun pb=>?_;apply (qhw);apply A7 8;apply (qe);have hfl:flat [⟨p1,c1,w⟩,⟨p2,c2,tg⟩,⟨some ⟨mb,89,none⟩,32,b32L x.m.tag⟩]=w++tg++b32L x.m.tag:=by show w++(tg++(b32L x.m.tag++[]))=_;rw[List.append_nil,List.append_assoc]
  refine AG rfl rfl rfl (bconcat_fn f _ (ps:=[⟨p1,c1,w⟩,⟨p2,c2,tg⟩,⟨some ⟨mb,89,none⟩,32,b32L x.m.tag⟩]) (fun y hy G=>?_) (by rw[hfl,List.length_append,List.length_append];show _+_+32≤_;omega) (by show 3≤1000;decide)) fun p3 c3=>?_
  ·rcases List.mem_cons.1 hy with rfl|hy
   ·exact qcJ
   ·rcases List.mem_cons.1 hy with rfl|hy
    ·exact qcJ
    ·rcases List.mem_cons.1 hy with rfl|hy
     ·exact Src.append (Src.slice (m:=32) (msg_tag (m:=x.m) (q:=x.qp) (qc:=x.qc) jA) rfl)
     ·cases hy
  rw[hfl];generalize w++tg++b32L x.m.tag=res;apply (qhw);apply A6 [9] 0;apply (qgJ);apply (qfz);apply A4 (slc p1 _ _ _ _ _);apply A4 (slc p2 _ _ _ _ _);exact AU ⟨p3,c3,rfl,rfl,rfl⟩
 ·rw[if_neg hm];rw[Bool.eq_false_iff.2 hm]at hmay;refine AB func108 ntmps108 fun base=>?_;exact qaT
theorem mright_fn(htab:TabAt f)(hx:x.Good f):Fn prog 266 [.agg x.vals.toArray] f F (Ret (.bool x.m.right) f F):=by
 have hmay:=fun G=>mmay_fn f G hx;unfold Msg.right
 by_cases hm:x.m.may=true
 ·rw[hm]at hmay⊢;rw[Bool.true_and];have htg:=fun G=>mtagged_fn (qc:=x.qc) f G hx.1 hm;have htl:=Msg.tagged_max hm
  have hou:=Msg.may_outer hm;generalize x.m.tagged=tg at htg htl⊢
  obtain⟨o1,o2,o3,o4,_⟩:=hou;refine AB func266 ntmps266 fun base=>?_;refine (qdZ) fun mb=>?_;apply (qga);repeat(first|(refine AH (ls:=x.vals) rfl rfl rfl (Rd.ofRow jA) rfl rfl ?_)|(refine AH (ls:=b32 x.m.tag) rfl rfl rfl (msg_tag (m:=x.m) (q:=x.qp) (qc:=x.qc) jA) rfl rfl ?_)|(apply (gV)))
  apply (qdG);apply A7 8;refine AG rfl rfl rfl (htg _) fun p1 c1=>?_;apply (qhw);apply A7 11;refine A8 rfl rfl rfl (ucheck_fn f _ htab o1 o2 o3 o4 (fun G=>Src.append (Src.slcS jA jH)) htl) ?_;apply (qdE);apply A6 [12,13] 0;apply (qjc);apply (gK);apply (qfz);apply A4 (slc p1 _ _ _ _ _);exact qad
 ·rw[Bool.eq_false_iff.2 hm]at hmay⊢;rw[Bool.false_and];refine AB func266 ntmps266 fun base=>?_;refine (qdZ) fun mb=>?_;apply (qga);apply (qgO);apply A7 8;apply (qjQ);apply A7 11;apply (qjQ);apply A6 [12,13] 0;apply (qfa);refine AN ?_;apply (gK);exact qch
theorem eqv_refl(v:Value)(h:(match v with| .bool _| .int _ _| .string _=>true|_=>false)=true):eqv v v=true:=by
 cases v<;>simp at h<;>simp[eqv]
 rename_i s
 rw[beq_toListBytes];simp
def plainC:List Value→Bool
 | []=>true
 |v::r=>(match v with| .bool _| .int _ _| .string _=>true|_=>false)&&plainC r
theorem eqC_refl:∀ {l:List Value},plainC l=true→eqC l l=true
 | [],_=>rfl
 | v :: r, h => by
  simp only[plainC,Bool.and_eq_true]at h
  simp only[eqC,eqv_refl v h.1,eqC_refl h.2,Bool.and_true]
theorem eq32_refl(t:Nat→UInt8):eq32 t t=true:=eqC_refl (l:=b32 t) rfl
end
end Go.Proofs.YtdpgpmbebbaoiaaGreatDoor

namespace Go.Proofs.YtdpgpmbebbaoiaaGreatDoor
open Go Go.Proofs.Tryz Go.ChangeShapes Go.WideShapes Go.RowKit Go.Deep
/-! ### Cells of arrays, strings and structs -/
/-! ### Messages, packets, steps -/
end Go.Proofs.YtdpgpmbebbaoiaaGreatDoor

namespace Go.Proofs.YtdpgpmbebbaoiaaGreatDoor
open Go Go.Proofs.Tryz
/-! ### Cells that are told apart by eqC alone -/
def kdV:Value→Value
 | .int k _=>.int k 0
 | .string _=>.bool true
 | .bool _=>.bool false
 |v=>v
theorem eqv_eq{a b:Value}(h:eqv a b=true)(hk:kdV a=kdV b):a=b:=by
 cases a with
 | bool x =>
  cases b<;>simp[eqv]at h
  subst h;rfl
 | int k x =>
  cases b with
  | int l y =>
   simp[eqv]at h;simp[kdV]at hk;subst h;subst hk;rfl
  |_=>simp[eqv]at h
 | string x =>
  cases b with
  | string y =>
   simp only[eqv]at h;rw[beq_toListBytes,ByteArray.toList_eq,ByteArray.toList_eq,beq_iff_eq]at h;rw[show x=y from ByteArray.ext (Array.ext' h)]
  |_=>simp[eqv]at h
 |_=>simp[eqv]at h
theorem eqC_eq:∀ {a b:List Value},eqC a b=true→a.map kdV=b.map kdV→a=b
 | [],[],_,_=>rfl
 | [],_::_,h,_=>by simp[eqC]at h
 |_::_,[],h,_=>by simp[eqC]at h
 | x :: xs, y :: ys, h, hk => by
  simp only[eqC,Bool.and_eq_true]at h
  simp only[List.map_cons,List.cons.injEq]at hk
  rw[eqv_eq h.1 hk.1,eqC_eq h.2 hk.2]
theorem u8_inj{a b:UInt8}(h:Value.int .u8 (a.toNat:Nat)=Value.int .u8 (b.toNat:Nat)):a=b:=by
 simp only[Value.int.injEq,true_and]at h;exact UInt8.toNat_inj.1 jB
theorem bytesV_inj:∀ {a b:List UInt8},bytesV a=bytesV b→a=b
 | [],[],_=>rfl
 | [],_::_,h=>by simp[bytesV]at h
 |_::_,[],h=>by simp[bytesV]at h
 | x :: xs, y :: ys, h => by
  simp only[bytesV,List.map_cons,List.cons.injEq]at h
  rw[u8_inj h.1,bytesV_inj h.2]
theorem b32_L{a b:Nat→UInt8}(h:b32 a=b32 b):b32L a=b32L b:=bytesV_inj (by rw[←b32_bytes,←b32_bytes];exact h)
theorem eq32_iff{a b:Nat→UInt8}:eqC (b32 a) (b32 b)=true↔b32 a=b32 b:=
 ⟨fun h=>eqC_eq h rfl,fun h=>by rw[h];exact eq32_refl b⟩
theorem v11_iff{a b:Nat→Int}:v11 a=v11 b↔∀i,i<11→a i=b i:=by
 constructor
 ·intro h i hi;have h1:=zbq a hi;have h2:=zbq b hi
  rw[h,h2]at h1;simp only[Option.some.injEq,Value.int.injEq,true_and]at h1;exact h1.symm
 ·intro h;unfold v11;exact qbA
theorem eqReq_iff{a b:Req}:eqC a.vals b.vals=true↔a.vals=b.vals:=
 ⟨fun h=>eqC_eq h rfl,fun h=>by rw[h];exact eqC_refl rfl⟩
theorem Bod.E.refl(a:Bod):Bod.E a a:=⟨rfl,rfl,rfl,rfl,rfl,rfl⟩
theorem Bod.E.symm{a b:Bod}(h:Bod.E a b):Bod.E b a:=⟨h.1.symm,h.2.1.symm,h.2.2.1.symm,h.2.2.2.1.symm,h.2.2.2.2.1.symm,h.2.2.2.2.2.symm⟩
theorem Bod.E.trans{a b c:Bod}(h:Bod.E a b)(g:Bod.E b c):Bod.E a c:=⟨h.1.trans g.1,h.2.1.trans g.2.1,h.2.2.1.trans g.2.2.1,h.2.2.2.1.trans g.2.2.2.1,h.2.2.2.2.1.trans g.2.2.2.2.1,h.2.2.2.2.2.trans g.2.2.2.2.2⟩
variable {a b:Bod}
theorem Bod.eqB_iff:Bod.eqB a b=true↔Bod.E a b:=by
 unfold Bod.eqB Bod.E;rw[Bool.and_eq_true,Bool.and_eq_true,Bool.and_eq_true,Bool.and_eq_true,Bool.and_eq_true,decide_eq_true_eq,decide_eq_true_eq,decide_eq_true_eq,decide_eq_true_eq,eqReq_iff,eq32_iff];constructor
 ·rintro⟨⟨⟨⟨⟨h1,h2⟩,h3⟩,h4⟩,h5⟩,h6⟩;exact⟨UInt8.toNat_inj.1 jB,h2,h3,h4,h5,h6⟩
 ·rintro⟨h1,h2,h3,h4,h5,h6⟩;exact⟨⟨⟨⟨⟨by rw[h1],h2⟩,h3⟩,h4⟩,h5⟩,h6⟩
/-! ### What the same bodies, and messages, have in common -/
theorem Req.vals_inj{a b:Req}(h:a.vals=b.vals):a.client=b.client∧a.time=b.time∧a.kind=b.kind∧a.key=b.key∧a.val=b.val∧a.old=b.old∧a.to=b.to∧a.amount=b.amount∧b32 a.tag=b32 b.tag:=by
 unfold Req.vals at h;have h1:=List.append_inj h rfl;have h2:=h1.1
 simp only[List.cons.injEq,Value.int.injEq,Value.string.injEq,true_and,and_true]at h2;obtain⟨a1,a2,a3,a4,a5,a6,a7,a8⟩:=h2;exact⟨a1,a2,UInt8.toNat_inj.1 jB,a4,a5,a6,a7,a8,h1.2⟩
theorem Req.bytes_congr{a b:Req}(h:a.vals=b.vals):a.bytes=b.bytes∧(a.asked↔b.asked)∧b32L a.tag=b32L b.tag:=by
 obtain⟨h1,h2,h3,h4,h5,h6,h7,h8,h9⟩:=Req.vals_inj h;unfold Req.bytes Req.head Req.asked;rw[h1,h2,h3,h4,h5,h6,h7,h8];exact⟨rfl,Iff.rfl,b32_L h9⟩
theorem Bod.mayK_congr(h:Bod.E a b)(k:Nat):a.mayK k=b.mayK k:=by
 obtain⟨h1,h2,h3,h4,h5,h6⟩:=h;obtain⟨_,r2,_⟩:=Req.bytes_congr h4;unfold Bod.mayK;rw[h2,h3,h5,decide_eq_decide.2 r2]
theorem Bod.own_congr(h:Bod.E a b):Bod.E a.own b.own:=by
 obtain⟨h1,h2,h3,h4,h5,h6⟩:=h;unfold Bod.own;rw[h1];generalize b.kind.toNat=k
 match k with
 |0=>exact⟨h1,rfl,rfl,rfl,rfl,rfl⟩
 |1=>exact⟨h1,h2,rfl,h4,rfl,rfl⟩
 |2=>exact⟨h1,h2,h3,rfl,rfl,rfl⟩
 |3=>exact⟨h1,h2,rfl,rfl,rfl,rfl⟩
 |4=>exact⟨h1,h2,rfl,rfl,h5,rfl⟩
 |5=>exact⟨h1,h2,rfl,rfl,rfl,rfl⟩
 |6=>exact⟨h1,rfl,h3,rfl,rfl,h6⟩
 |k+7=>exact⟨h1,rfl,rfl,rfl,rfl,rfl⟩
theorem Bod.may_congr(h:Bod.E a b):a.may=b.may:=by
 have h0:=Bod.own_congr h;unfold Bod.may
 rw[Bod.mayK_congr h,h.1,h.2.1,Bool.eq_iff_iff.2 (Bod.eqB_iff.trans (Iff.trans ⟨fun g=>h0.symm.trans (g.trans h),fun g=>h0.trans (g.trans h.symm)⟩ Bod.eqB_iff.symm))]
theorem maxTo_congr{a b:Nat→Int}:∀n,(∀i,i≤n→a i=b i)→maxTo a n=maxTo b n
 |0,h=>h 0 (Nat.le_refl _)
 | n + 1, h => by
  unfold maxTo
  rw[maxTo_congr n fun i hi=>h i jB,h (n+1) (Nat.le_refl _)]
def Msg.E0(a b:Msg):Prop:=a.origin=b.origin∧a.number=b.number∧v11 a.deps=v11 b.deps∧Bod.E a.body b.body
theorem Msg.may_congr{a b:Msg}(h:Msg.E0 a b):a.may=b.may:=by
 obtain⟨h1,h2,h3,h4⟩:=h;have h5:=v11_iff.1 h3;unfold Msg.may
 rw[Bod.may_congr h4]
 have e:a.outer↔b.outer:=by
  unfold Msg.outer;rw[h1,h2,maxTo_congr 10 fun i hi=>h5 i jB];constructor
  ·rintro⟨a1,a2,a3,a4,a5,a6⟩;exact⟨a1,a2,a3,a4,by rw[←h5 _ jB];exact a5,a6⟩
  ·rintro⟨a1,a2,a3,a4,a5,a6⟩;exact⟨a1,a2,a3,a4,by rw[h5 _ jB];exact a5,a6⟩
 rw[decide_eq_decide.2 e]
def rngH(g:Nat→HP):Nat→List HP
 |0=>[]
 |k+1=>g k::rngH g k
def fam(g:Nat→HP)(k:Nat):HP:=fun h=>stars (rngH g k) h
def updF{α:Type}(g:Nat→α)(i:Nat)(x:α):Nat→α:=fun j=>if j=i then x else g j
variable {α:Type}
theorem zbg(g:Nat→α)(i:Nat)(x:α):updF g i x i=x:=if_pos rfl
variable {j:Nat}
theorem zcf(g:Nat→α){i:Nat}(x:α)(h:j≠i):updF g i x j=g j:=if_neg h
theorem updF_self(g:Nat→α)(i:Nat):updF g i (g i)=g:=by
 funext j;unfold updF;split
 ·rename_i h;rw[h]
 ·rfl
theorem updF_updF(g:Nat→α)(i:Nat)(x y:α):updF (updF g i x) i y=updF g i y:=by
 funext j;unfold updF;split<;>rfl
theorem rngH_congr{g g':Nat→HP}:∀k,(∀j,j<k→g j=g' j)→rngH g k=rngH g' k
 |0,_=>rfl
 |k+1,h=>by unfold rngH;rw[h k jB,rngH_congr k fun j hj=>h j jB]
theorem fam_pull{g:Nat→HP}{i:Nat}:∀ {k:Nat},i<k→stars (rngH g k)=star (g i) (stars (rngH (updF g i emp) k))
 |0,h=>by omega
 | k + 1, h => by
  by_cases e:i=k
  ·subst e
   have e1:rngH (updF g i emp) i=rngH g i:=rngH_congr i fun j hj=>zcf g emp jB
   show star (g i) (stars (rngH g i))=star (g i) (star (updF g i emp i) (stars (rngH (updF g i emp) i)))
   rw[zbg,emp_star,e1]
  ·show star (g k) (stars (rngH g k))=star (g i) (star (updF g i emp k) (stars (rngH (updF g i emp) k)))
   rw[fam_pull (g:=g) (i:=i) (k:=k) jB,zcf g emp (fun h=>e h.symm),star_left_comm]
variable {g:Nat→HP} {x:HP}
theorem fam_put{i k:Nat}(h:i<k):star x (stars (rngH (updF g i emp) k))=stars (rngH (updF g i x) k):=by
 rw[fam_pull (g:=updF g i x) h,zbg,updF_updF]
theorem fam_pullA{i k:Nat}(A:List HP)(h:i<k):stars (fam g k::A)=stars (g i::fam (updF g i emp) k::A):=by
 show star (stars (rngH g k)) (stars A)=star (g i) (star (stars (rngH (updF g i emp) k)) (stars A));rw[fam_pull h,star_assoc]
theorem fam_putA{i k:Nat}(A:List HP)(h:i<k):stars (x::fam (updF g i emp) k::A)=stars (fam (updF g i x) k::A):=by
 show star x (star (stars (rngH (updF g i emp) k)) (stars A))=star (stars (rngH (updF g i x) k)) (stars A);rw[←star_assoc,fam_put h]
section
variable {P:Program} {base:World} {n:Nat} {L:Env} {f:Frag} {A:List HP} {K:Kont} {g:Nat→HP} {i k:Nat}
theorem CA(h:i<k)(kk:H P base n L f (g i::fam (updF g i emp) k::A) K):H P base n L f (fam g k::A) K:=
 H.conv (fam_pullA A h) kk
theorem DH(h:i<k)(kk:H P base n L f (fam (updF g i x) k::A) K):H P base n L f (x::fam (updF g i emp) k::A) K:=
 H.conv (fam_putA A h) kk
theorem CH(h:i<k)(kk:H P base n L f (fam g k::A) K):H P base n L f (g i::fam (updF g i emp) k::A) K:=
 DH h (by rw[updF_self];exact kk)
end
def c11(g:Nat→Value):List Value:=[g 0,g 1,g 2,g 3,g 4,g 5,g 6,g 7,g 8,g 9,g 10]
theorem c11_get(g:Nat→Value){i:Nat}(h:i<11):(c11 g)[i]?=some (g i):=by
 match i,h with
 |0,_=>rfl
 |1,_=>rfl
 |2,_=>rfl
 |3,_=>rfl
 |4,_=>rfl
 |5,_=>rfl
 |6,_=>rfl
 |7,_=>rfl
 |8,_=>rfl
 |9,_=>rfl
 |10,_=>rfl
theorem c11_set(g:Nat→Value){i:Nat}(v:Value)(h:i<11):SetV (c11 g) i v (c11 (updF g i v)):=by
 have e:c11 (updF g i v)=(c11 g).set i v:=by
  match i,h with
  |0,_=>rfl
  |1,_=>rfl
  |2,_=>rfl
  |3,_=>rfl
  |4,_=>rfl
  |5,_=>rfl
  |6,_=>rfl
  |7,_=>rfl
  |8,_=>rfl
  |9,_=>rfl
  |10,_=>rfl
 rw[e];exact SetV.mk v h
abbrev Strm:=Nat→List Msg
def aboveB(a b:Nat→Int):Bool:=(List.range 11).any fun i=>decide (b i<a i)
def knownS(S:Strm):Nat→Int:=fun i=>((S i).length:Nat)
def orgI(m:Msg):Nat:=(m.origin-1).toNat
def fitsB(n:Nat)(m:Msg):Bool:=m.may&&(decide (m.origin≤(n:Int))&&(m.body.q.all (fun p=>decide (p.1≤(n:Int)))&&(List.range 11).all (fun i=>decide (i<n)||decide (m.deps i≤0))))
def lastD(l:List Msg):Nat→Int:=match l.getLast? with
 |some x=>x.deps
 |none=>fun _=>0
def chk(n:Nat)(S:Strm)(m:Msg):Int:=
 if fitsB n m=false then 1 else if m.right=false then 11 else
 if m.number≤((S (orgI m)).length:Nat)then 13 else
 if m.number=(((S (orgI m)).length+1:Nat):Int)∧0<(S (orgI m)).length∧aboveB (lastD (S (orgI m))) m.deps=true then 1 else
 if(((S (orgI m)).length+1:Nat):Int)<m.number∨aboveB m.deps (knownS S)=true then 12 else 0
def addS(S:Strm)(m:Msg):Strm:=updF S (orgI m) (S (orgI m)++[m])
theorem aboveB_false{a b:Nat→Int}:aboveB a b=false↔∀i,i<11→a i≤b i:=by
 unfold aboveB;rw[List.any_eq_false];constructor
 ·intro h i hi
  have:=h i (List.mem_range.2 hi);simp only[decide_eq_true_eq]at this
  omega
 ·intro h i hi
  have:=h i (List.mem_range.1 hi);simp only[decide_eq_true_eq]
  omega
/-! ### The streams of a list of messages -/
def strm(l:List Msg):Strm:=fun i=>l.filter fun m=>decide (orgI m=i)
theorem strm_snoc(l:List Msg)(m:Msg):strm (l++[m])=addS (strm l) m:=by
 funext i;unfold strm addS updF;rw[List.filter_append];by_cases h:i=orgI m
 ·rw[if_pos h,←h];simp[h]
 ·rw[if_neg h];have:decide (orgI m=i)=false:=decide_eq_false fun e=>h e.symm;simp[this]
def cnt(l:List Msg)(i:Nat):Nat:=(strm l i).length
theorem take_snoc{l:List α}{k:Nat}{x:α}(h:l[k]?=some x):l.take (k+1)=l.take k++[x]:=by
 rw[List.take_add_one,h];rfl
def unk(u:Nat→Int)(l:List Msg):List Msg:=l.filter fun m=>decide (u (orgI m)<m.number)
theorem Msg.signed_E0(m:Msg):Msg.E0 m.signed m:=by
 unfold Msg.signed;split
 ·exact⟨rfl,rfl,rfl,Bod.E.refl _⟩
 ·exact⟨rfl,rfl,rfl,Bod.E.refl _⟩
theorem Msg.signed_may(m:Msg):m.signed.may=m.may:=Msg.may_congr m.signed_E0
theorem Msg.signed_parts(m:Msg):m.signed.origin=m.origin∧m.signed.number=m.number∧m.signed.deps=m.deps∧m.signed.body=m.body:=by
 unfold Msg.signed;split
 ·exact⟨rfl,rfl,rfl,rfl⟩
 ·exact⟨rfl,rfl,rfl,rfl⟩
def LOK(n:Nat)(l:List Msg):Prop:=∀j m,l[j]?=some m→chk n (strm (l.take j)) m=0
variable {n:Nat} {m:Msg}
theorem chk_zero{S:Strm}(h:chk n S m=0):fitsB n m=true∧m.right=true∧m.number=(((S (orgI m)).length+1:Nat):Int)∧(0<(S (orgI m)).length→∀i,i<11→lastD (S (orgI m)) i≤m.deps i)∧(∀i,i<11→m.deps i≤knownS S i):=by
 unfold chk at h;by_cases h1:fitsB n m=false
 ·rw[if_pos h1]at h;exact absurd h jE
 ·rw [if_neg h1] at h;by_cases h2 : m.right = false
  ·rw[if_pos h2]at h;exact absurd h jE
  ·rw [if_neg h2] at h;by_cases h3 : m.number ≤ ((S (orgI m)).length : Nat)
   ·rw[if_pos h3]at h;exact absurd h jE
   ·rw[if_neg h3]at h;by_cases h4:m.number=(((S (orgI m)).length+1:Nat):Int)∧0<(S (orgI m)).length∧aboveB (lastD (S (orgI m))) m.deps=true
    ·rw[if_pos h4]at h;exact absurd h jE
    ·rw[if_neg h4]at h;by_cases h5:(((S (orgI m)).length+1:Nat):Int)<m.number∨aboveB m.deps (knownS S)=true
     ·rw[if_pos h5]at h;exact absurd h jE
     ·have e:m.number=(((S (orgI m)).length+1:Nat):Int):=jB
      refine⟨by simpa using h1,by simpa using h2,e,fun hp=>?_,?_⟩
      ·refine aboveB_false.1 ?_
       cases ha:aboveB (lastD (S (orgI m))) m.deps with
       |false=>rfl
       |true=>exact absurd ⟨e,hp,ha⟩ h4
      ·refine aboveB_false.1 ?_
       cases ha:aboveB m.deps (knownS S)with
       |false=>rfl
       |true=>exact absurd (.inr ha) h5
theorem fits_org(h:fitsB n m=true):1≤m.origin∧m.origin≤(n:Int)∧m.may=true:=by
 unfold fitsB at h;simp only[Bool.and_eq_true,decide_eq_true_eq]at h;exact⟨(Msg.may_outer h.1).1,h.2.1,h.1⟩
variable {l:List Msg}
theorem LOK.snoc(h:LOK n l)(hm:chk n (strm l) m=0):LOK n (l++[m]):=fun j x hj=>by
 rcases Nat.lt_or_ge j l.length with hlt|hge
 ·rw[List.getElem?_append_left hlt]at hj
  rw[List.take_append_of_le_length jB]
  exact h j x hj
 ·rw[List.getElem?_append_right hge]at hj
  have e:j=l.length:=by
   rcases Nat.eq_or_lt_of_le hge with e|e
   ·exact e.symm
   ·rw[List.getElem?_eq_none jT]at hj;cases hj
  subst e
  rw[Nat.sub_self]at hj
  simp at hj
  subst hj
  rw[List.take_left]
  exact hm
theorem LOK.nil(n:Nat):LOK n []:=fun j m h=>by simp at h
theorem LOK.org(h:LOK n l){x:Msg}(hx:x∈l):1≤x.origin∧x.origin≤(n:Int):=by
 obtain⟨j,hj⟩:=List.getElem?_of_mem hx
 have:=fits_org (chk_zero (h j x hj)).1;exact⟨this.1,this.2.1⟩
theorem lastD_get{x:Msg}(h:l[l.length-1]?=some x):lastD l=x.deps:=by
 unfold lastD;rw[List.getLast?_eq_getElem?,h]
def clientW:List UInt8:=[114,97,116,99,104,101,116,32,99,108,105,101,110,116]
def Req.sig(r:Req):Nat→UInt8:=Sha.hmac (Sha.word32 clientW r.client) r.bytes
def Req.signed(r:Req):Req:=if r.asked then {r with tag:=r.sig}else r
def Req.auth(r:Req):Bool:=decide r.asked&&eq32 r.tag r.sig
variable {r:Req}
theorem Req.bytes_max(h:r.asked):r.bytes.length≤1000:=by
 obtain⟨_,_,_,_,⟨h1,h2⟩,h3,h4⟩:=h;rw[Req.bytes_len];omega
variable {f:Frag} {A:List HP}
theorem req_tag{A':List HP}{rb:Nat}{T:TypeId}(h:At A (row rb T r.vals) A' (row rb T r.vals)):Rd f A rb (0+8) (b32 r.tag):=by
 have h1:=Rd.ofRow (f:=f) h;have e:r.vals=[.int .i64 r.client,.int .u64 r.time,.int .u8 (r.kind.toNat:Nat),.string r.key,.string r.val,.string r.old,.string r.to,.int .u64 r.amount]++b32 r.tag++[]:=by unfold Req.vals;rw[List.append_nil]
 exact qbL
theorem splice_rtag(r:Req)(t:Nat→UInt8):splice r.vals (0+8) (b32 t)=({r with tag:=t}:Req).vals:=rfl
section
variable {P:Program} {base:World} {n:Nat} {L:Env} {f:Frag} {A V:List HP} {q:Post} {l rest:List Oper} {d:Nat} {ty:TypeId} {pos:String} {af:Array Edge} {gd:Option (Nat × Bool)}
end
def strmV(l:List MV):Nat→List MV:=fun i=>l.filter fun x=>decide (orgI x.m=i)
theorem strmV_map(l:List MV)(i:Nat):(strmV l i).map MV.m=strm (l.map MV.m) i:=by
 unfold strmV strm;rw[List.filter_map];rfl
theorem strmV_len(l:List MV)(i:Nat):(strmV l i).length=cnt (l.map MV.m) i:=by
 unfold cnt;rw[←strmV_map,List.length_map]
theorem strmV_snoc(l:List MV)(x:MV)(i:Nat):strmV (l++[x]) i=if i=orgI x.m then strmV l i++[x]else strmV l i:=by
 unfold strmV;rw[List.filter_append];by_cases h:i=orgI x.m
 ·rw[if_pos h];simp[h]
 ·rw[if_neg h];have:decide (orgI x.m=i)=false:=decide_eq_false fun e=>h e.symm;simp[this]
def placesFrom:List Msg→List Msg→List (Nat×Nat)
 |_,[]=>[]
 |pre,m::r=>(orgI m,cnt pre (orgI m))::placesFrom (pre++[m]) r
def placesOf(l:List Msg):List (Nat×Nat):=placesFrom [] l
theorem placesFrom_app:∀(a pre b:List Msg),placesFrom pre (a++b)=placesFrom pre a++placesFrom (pre++a) b
 | [],pre,b=>by simp[placesFrom]
 | m :: a, pre, b => by
  rw[List.cons_append]
  show _::placesFrom (pre++[m]) (a++b)=(_::placesFrom (pre++[m]) a)++_
  rw[placesFrom_app a (pre++[m]) b,List.cons_append]
  simp
theorem placesOf_snoc(l:List Msg)(m:Msg):placesOf (l++[m])=placesOf l++[(orgI m,cnt l (orgI m))]:=by
 unfold placesOf;rw[placesFrom_app];rfl
theorem placesFrom_len:∀(l pre:List Msg),(placesFrom pre l).length=l.length
 | [],_=>rfl
 | m :: l, pre => by
  show(placesFrom (pre++[m]) l).length+1=_
  rw[placesFrom_len l];rfl
theorem placesFrom_get:∀(l pre:List Msg) (j:Nat) (m:Msg),l[j]?=some m→(placesFrom pre l)[j]?=some (orgI m,cnt (pre++l.take j) (orgI m))
 | [],pre,j,m,h=>by simp at h
 | a :: l, pre, 0, m, h => by
  simp at h;subst h
  show some _=_
  simp
 | a :: l, pre, j + 1, m, h => by
  show(placesFrom (pre++[a]) l)[j]?=_
  rw[placesFrom_get l (pre++[a]) j m jc]
  simp
theorem placesOf_get(h:l[j]?=some m):(placesOf l)[j]?=some (orgI m,cnt (l.take j) (orgI m)):=by
 have:=placesFrom_get l [] j m h;rwa [List.nil_append]at this
def placeV(p:Nat×Nat):List Value:=[.int .i64 (p.1:Int),.int .i64 (p.2:Int)]
structure LP where
 P:Nat→Option Addr
 C:Nat→Nat
 po:Option Addr
 co:Nat
def loreCells(n:Nat)(l:List MV)(i:LP):List Value:=[.int .i64 (n:Int)]++c11 (fun k=>.slice (i.P k) (strmV l k).length (i.C k))++[.slice i.po l.length i.co]
def strH(l:List MV)(i:LP)(k:Nat):HP:=slc (i.P k) (strmV l k).length (i.C k) 41 121 ((strmV l k).flatMap MV.vals)
def ordH(l:List MV)(i:LP):HP:=slc i.po l.length i.co 360 2 ((placesOf (l.map MV.m)).flatMap placeV)
def loreφ(f:Frag)(n:Nat)(l:List MV):Prop:=(∀x∈l,x.Good f)∧l.length≤100000∧LOK n (l.map MV.m)∧n≤11
def loreH(f:Frag)(lb:Nat)(n:Nat)(l:List MV):HP:=pack (fun _:LP=>loreφ f n l) (fun i=>[row lb 262 (loreCells n l i),fam (strH l i) 11,ordH l i])
theorem loreφ.mono{f g:Frag}(h:Le f g){n:Nat}{l:List MV}(hl:loreφ f n l):loreφ g n l:=⟨fun x hx=>(hl.1 x hx).mono h,hl.2⟩
variable {lb:Nat}
theorem loreH_mono{g:Frag}(h:Le f g){l:List MV}:∀x,loreH f lb n l x→loreH g lb n l x:=fun x ⟨i,hi,hx⟩=>⟨i,hi.mono h,hx⟩
variable {P:Program} {base:World} {L:Env} {fl:Frag} {F:List HP} {K:Kont}
theorem FG{n0:Nat}{l:List MV}
  (k:∀i:LP,loreφ fl n l→H P base n0 L f (row lb 262 (loreCells n l i)::fam (strH l i) 11::ordH l i::F) K):H P base n0 L f (loreH fl lb n l::F) K:=
 AM fun i hi=>k i hi
theorem zbi{l:List MV}(i:LP)(h:loreφ fl n l):∀x,stars (row lb 262 (loreCells n l i)::fam (strH l i) 11::ordH l i::F) x→stars (loreH fl lb n l::F) x:=fun x hx=>
 zap (ι:=LP) (φ:=fun _:LP=>loreφ fl n l) (B:=fun i=>[row lb 262 (loreCells n l i),fam (strH l i) 11,ordH l i]) i h x hx
theorem loreCells_str(n:Nat)(l:List MV)(i:LP){k:Nat}(h:k<11):(loreCells n l i)[1+k]?=some (.slice (i.P k) (strmV l k).length (i.C k)):=by
 unfold loreCells;rw[List.append_assoc,List.getElem?_append_right (by show 1≤1+k;omega),show 1+k- [Value.int .i64 (n:Int)].length=k by show 1+k-1=k;omega,List.getElem?_append_left (by show k<11;exact h),c11_get _ h]
theorem rngH_nil{g:Nat→HP}:∀k,(∀j,j<k→g j nil0)→stars (rngH g k) nil0
 |0,_=>rfl
 |k+1,h=>⟨nil0,nil0,Dj.nil _,(un_nil _).symm,h k jB,rngH_nil k fun j hj=>h j jB⟩
theorem Ei(p:HP)(hp:p nil0)(k:H P base n L f (p::A) K):H P base n L f A K:=
 H.imp (A':=p::A) (fun h hh=>⟨nil0,h,(Dj.nil h).symm,(nil_un h).symm,hp,hh⟩) k
def fewZ(z:Int):Prop:=3≤z∧z≤11∧z.tmod 2=1
instance (z:Int):Decidable (fewZ z):=by unfold fewZ;infer_instance
def lp0:LP:=⟨fun _=>none,fun _=>0,none,0⟩
section
variable (f:Frag) (F:List HP)
theorem lfew_fn(z:Int):Fn prog 138 [.int .i64 z] f F (Ret (.bool (decide (fewZ z))) f F):=by
 by_cases h1:3≤z
 ·by_cases h2:z≤11
  ·refine AB func138 ntmps138 fun base=>?_;repeat(first|(refine H.rem (z:=z.tmod 2) rfl rfl rfl jE rfl rfl ?_)|(apply (gU)))
   refine AE rfl rfl iD ⟨?_,rfl,rfl⟩;simp[fewZ, *]
  ·exact qbN
 ·exact qbN
theorem lnew_fn(h:fewZ (n:Int)):Fn prog 84 [.int .i64 (n:Int)] f F (RetE (fun lb:Nat=>.tuple #[.pointer (some ⟨lb,0,none⟩),.int .i64 0]) f (fun lb=>loreH f lb n []::F)):=by
 have hf:=fun G=>lfew_fn f G (n:Int);rw[decide_eq_true h]at hf
 have hn:n≤11:=by have:=h.2.1;omega
 refine AB func84 ntmps84 fun base=>?_;apply (gG);apply A5 (hf _);apply (qgg);repeat(first|(refine AT (t:=262) (out:=loreCells n [] lp0) rfl rfl rfl jD rfl ?_)|(apply (gU)))
 refine H.box (ls:=loreCells n [] lp0) rfl rfl rfl rfl fun lb=>?_;apply (gK);refine Ei (ordH [] lp0) (slc_nil none _ 2) ?_;refine Ei (fam (strH [] lp0) 11) (rngH_nil 11 fun j _=>slc_nil none _ 121) ?_;apply (qfc);refine H.imp (zbi lp0 (fl:=f) ⟨fun x hx=>(by cases hx),Nat.zero_le _,LOK.nil n,hn⟩) ?_;exact qco
theorem above_fn(a b:Nat→Int):Fn prog 267 [.agg (v11 a).toArray,.agg (v11 b).toArray] f F (Ret (.bool (aboveB a b)) f F):=by
 refine A9 func267 ntmps267 fun base=>?_;apply (gA);refine H.box (ls:=v11 a) rfl rfl rfl rfl fun ab=>?_;refine H.box (ls:=v11 b) rfl rfl rfl rfl fun bb=>?_;apply (gG);refine AD (ls:=v11 a) rfl rfl rfl (Rd.ofRow aP1) rfl rfl ?_;apply (gK);refine AF (ι:=Nat) (fun i=>[(8,.int .i64 (i:Int)),(7,.agg (v11 a).toArray),(3,.pointer (some ⟨bb,0,none⟩))]) (fun _=>f) (fun _=>row bb 36 (v11 b)::row ab 36 (v11 a)::F) (fun i=>i≤11∧∀j,j<i→a j≤b j) (fun i=>11-i) 0 ⟨Nat.zero_le _,fun j hj=>by omega⟩ fun i hi=>?_;obtain⟨hi,hle⟩:i≤11∧∀j,j<i→a j≤b j:=hi;by_cases hlt:i<11
 ·apply (gN);refine CW (xs:=v11 a) (i:=i) rfl rfl rfl rfl hlt rfl (zbq a hlt) rfl ?_;apply (gG);apply (qjZ);refine AL rfl rfl rfl (.of (Rd.ofRow aP0) (by rw[Nat.mul_one];exact zbq b hlt)) rfl ?_;by_cases hab:b i<a i
  ·apply (gN);apply (qjr);refine AE rfl rfl iD ⟨?_,rfl,rfl⟩
   have:aboveB a b=true:=by
    unfold aboveB;rw[List.any_eq_true];exact⟨i,List.mem_range.2 hlt,decide_eq_true hab⟩
   rw[this]
  ·apply (gP)
   exact AX (i+1) ⟨by show i+1≤11;omega,fun j hj=>by
    by_cases e:j=i
    ·rw[e];omega
    ·exact hle j jB⟩ jb ⟨rfl,rfl,rfl,trivial⟩ rfl rfl
 ·apply (gN);apply (qjr);refine AE rfl rfl iD ⟨?_,rfl,rfl⟩;rw[aboveB_false.2 fun j hj=>hle j jB]
end
end Go.Proofs.YtdpgpmbebbaoiaaGreatDoor

namespace Go.Proofs.YtdpgpmbebbaoiaaGreatDoor
open Go Go.Proofs.Tryz Go.ChangeShapes Go.WideShapes Go.RowKit Go.Deep
def kRow(n:Nat)(kv:Nat→Nat→Int):List Value:=(List.range (n*11)).map fun j=>.int .u64 (kv (j / 11) (j % 11))
theorem kRow_len(n:Nat)(kv:Nat→Nat→Int):(kRow n kv).length=n*11:=by unfold kRow;rw[List.length_map,List.length_range]
variable {n:Nat} {kv:Nat→Nat→Int}
theorem kRow_at{j:Nat}(h:j<n*11):(kRow n kv)[j]?=some (.int .u64 (kv (j / 11) (j % 11))):=by
 unfold kRow;exact qcK
theorem kRow_get{o k:Nat}(ho:o<n)(hk:k<11):(kRow n kv)[o*11+k]?=some (.int .u64 (kv o k)):=by
 rw[kRow_at jB,show(o*11+k) / 11=o by omega,show(o*11+k) % 11=k by omega]
theorem v11_upd(d:Nat→Int)(v:Int){k:Nat}(h:k<11):SetV (v11 d) k (.int .u64 v) (v11 (updF d k v)):=by
 have e:v11 (updF d k v)=(v11 d).set k (.int .u64 v):=by
  match k,h with
  |0,_=>rfl
  |1,_=>rfl
  |2,_=>rfl
  |3,_=>rfl
  |4,_=>rfl
  |5,_=>rfl
  |6,_=>rfl
  |7,_=>rfl
  |8,_=>rfl
  |9,_=>rfl
  |10,_=>rfl
 rw[e];exact SetV.mk _ h
theorem v11_congr{a b:Nat→Int}(h:∀i,i<11→a i=b i):v11 a=v11 b:=v11_iff.2 h
section
variable (f:Frag) (F:List HP)
end
end Go.Proofs.YtdpgpmbebbaoiaaGreatDoor

namespace Go.Proofs.YtdpgpmbebbaoiaaGreatDoor
open Go Go.Proofs.Tryz
theorem updF_lt{d:Nat→Int}{i:Nat}:updF (fun j=>if j<i then d j else 0) i (d i)=fun j=>if j<i+1 then d j else 0:=by
 funext j;show(if j=i then d i else if j<i then d j else 0)=if j<i+1 then d j else 0
 by_cases e:j=i
 ·subst e;rw[if_pos rfl,if_pos jB]
 ·rw[if_neg e];by_cases h:j<i
  ·rw[if_pos h,if_pos jB]
  ·rw[if_neg h,if_neg jB]
variable {f:Frag} {A A':List HP} {lb n:Nat} {l:List MV}
theorem c11_rd{i:LP}(h:At A (row lb 262 (loreCells n l i)) A' (row lb 262 (loreCells n l i))):Rd f A lb (0+1) (c11 (fun k=>.slice (i.P k) (strmV l k).length (i.C k))):=by
 have h1:=Rd.ofRow (f:=f) h;unfold loreCells at h1
 exact h1.sub rfl
theorem knownS_len(l:List MV)(k:Nat):knownS (strm (l.map MV.m)) k=((strmV l k).length:Nat):=by
 show(((strm (l.map MV.m) k).length:Nat):Int)=_;rw[←strmV_map,List.length_map]
theorem strmV_le(l:List MV)(k:Nat):(strmV l k).length≤l.length:=List.length_filter_le _ _
variable {fl:Frag} {α:Type} {p:Option Addr} {c m:Nat} {q:List (Int × Int)} {fid:FuncId} {cs:List Value}
section
variable (f:Frag) (F:List HP)
theorem known_fn:Fn prog 133 [.pointer (some ⟨lb,0,none⟩)] f (loreH fl lb n l::F) (Ret (.agg (v11 (knownS (strm (l.map MV.m)))).toArray) f (loreH fl lb n l::F)):=by
 have hk:=knownS_len l;generalize knownS (strm (l.map MV.m))=kn at hk⊢
 have hle:=strmV_le l;refine (qfu) fun i hi=>?_
 have hll:=hi.2.1;refine AB func133 ntmps133 fun base=>?_
 apply (gA);refine (qjJ) fun ob=>?_;apply (gL);refine AD (ls:=c11 (fun k=>.slice (i.P k) (strmV l k).length (i.C k))) rfl rfl rfl (c11_rd aP1) rfl rfl ?_;apply (gK)
 refine AF (ι:=Nat) (fun k=>[(11,.int .i64 (k:Int)),(10,.agg (c11 (fun k=>.slice (i.P k) (strmV l k).length (i.C k))).toArray),(2,.pointer (some ⟨ob,0,none⟩))]) (fun _=>f)
  (fun k=>row ob 36 (v11 fun j=>if j<k then kn j else 0)::row lb 262 (loreCells n l i)::fam (strH l i) 11::ordH l i::F) (fun k=>k≤11) (fun k=>11-k) 0 (Nat.zero_le _) fun k hk11=>?_
 have hk11:k≤11:=hk11;by_cases hlt:k<11
 ·have h1:=hle k;have h2:=hk k
  apply (gN);refine CW (i:=k) rfl rfl rfl rfl hlt rfl (c11_get _ hlt) rfl ?_;apply (gD);refine CI (i:=k) rfl rfl rfl rfl hlt rfl ?_;refine AZ (v:=.int .u64 (kn k)) (ls':=v11 fun j=>if j<k+1 then kn j else 0) rfl rfl (by rw[h2];rfl) rfl aP0 (by rw[Nat.mul_one,Nat.zero_add,←updF_lt];exact v11_upd _ _ hlt) ?_;apply (gD);exact AI (k+1) (by show k+1≤11;omega) (by show 11-(k+1)<11-k;omega)
 ·have e:k=11:=jB
  subst e;have e:(v11 fun j=>if j<11 then kn j else 0)=v11 kn:=v11_congr fun j hj=>if_pos hj;rw[e]
  apply (gE);refine AD (ls:=v11 kn) rfl rfl rfl (Rd.ofRow aP0) rfl rfl ?_;refine AC (ls:=v11 kn) (vs:=v11 kn) (ls':=v11 kn) rfl rfl rfl (zaa rfl) rfl rfl (Nat.le_refl 11) aP0 ?_;apply (gK);exact BS rfl rfl rfl (Rd.ofRow aP0) rfl (fun _ s=>(s.drop (.here _ _)).imp (zbi i hi)) ⟨rfl,rfl,rfl⟩
/-! ### slices.ContainsFunc -/
def idxI{α:Type}(pr:α→Bool)(l:List α):Int:=match l.findIdx? pr with
 |some i=>(i:Nat)
 |none=>-1
theorem idxI_any(pr:α→Bool)(l:List α):decide (0≤idxI pr l)=l.any pr:=by
 unfold idxI
 cases h:l.findIdx? pr with
 | none =>
  rw[List.findIdx?_eq_none_iff]at h;have:l.any pr=false:=by rw[List.any_eq_false];intro x hx;simp[h x hx]
  rw[this];decide
 | some i =>
  obtain⟨hi,h1,_⟩:=List.findIdx?_eq_some_iff_getElem.1 h;have:l.any pr=true:=by rw[List.any_eq_true];exact⟨l[i],List.getElem_mem hi,h1⟩
  rw[this];exact decide_eq_true (show(0:Int)≤(i:Nat) by omega)
theorem idxI_at{pr:α→Bool}{l:List α}{i:Nat}{x:α}(h:l[i]?=some x)(hp:pr x=true)(hb:∀j y,j<i→l[j]?=some y→pr y=false):idxI pr l=(i:Nat):=by
 have hi:i<l.length:=by
  rcases Nat.lt_or_ge i l.length with h1|h1
  ·exact h1
  ·rw[List.getElem?_eq_none h1]at h;cases h
 have hx:l[i]=x:=by rw[List.getElem?_eq_getElem hi]at h;exact Option.some.inj h
 have:l.findIdx? pr=some i:=List.findIdx?_eq_some_iff_getElem.2 ⟨hi,by rw[hx];exact hp,fun j hj=>by
  have:=hb j l[j] hj (List.getElem?_eq_getElem jB)
  simp[this]⟩
 unfold idxI;rw[this]
theorem idxI_none{pr:α→Bool}{l:List α}(hb:∀j y,j<l.length→l[j]?=some y→pr y=false):idxI pr l= -1:=by
 have:l.findIdx? pr=none:=by
  rw[List.findIdx?_eq_none_iff];intro x hx;obtain⟨j,hj⟩:=List.getElem?_of_mem hx;rcases Nat.lt_or_ge j l.length with h1|h1
  ·exact hb j x h1 hj
  ·rw[List.getElem?_eq_none h1]at hj;cases hj
 unfold idxI;rw[this]
theorem idxQ_fn(hq:QAt f p q)(hl:q.length≤1000000000)[Fun prog fid](pr:Int×Int→Bool)
  (hc:∀x,x∈q→Fn prog fid ([]++[.agg (pairV x).toArray]++cs) f F (Ret (.bool (pr x)) f F)) :
  Fn prog 254 [.slice p q.length c,.func (.func fid) #[] cs.toArray] f F (Ret (.int .i64 (idxI pr q)) f F):=by
 refine A9 func254 ntmps254 fun base=>?_;apply (gK);refine AF (ι:=Nat) (fun i=>[(8,.int .i64 (i:Int)),(7,.int .i64 (q.length:Nat)),(0,.slice p q.length c),(1,.func (.func fid) #[] cs.toArray)]) (fun _=>f) (fun _=>F) (fun i=>i≤q.length∧∀j y,j<i→q[j]?=some y→pr y=false) (fun i=>q.length-i) 0 ⟨Nat.zero_le _,fun j y hj=>by omega⟩ fun i hi=>?_;obtain⟨hi,hb⟩:i≤q.length∧∀j y,j<i→q[j]?=some y→pr y=false:=hi;by_cases hlt:i<q.length
 ·have hx:q[i]?=some q[i]:=List.getElem?_eq_getElem hlt;generalize q[i]=x at hx
  have hxm:=List.mem_of_getElem? hx;obtain⟨b,off,cs2,T,fr,rfl,hfb,hcs⟩:=hq i x hx
  have rd:∀A,Rd f A b (off+i*2) (pairV x):=fun A=>Rd.imm hfb hcs;have hcx:=hc x hxm
  apply (qhD);refine AD (ls:=pairV x) rfl rfl rfl (rd _) rfl rfl ?_
  cases hp:pr x with
  | true =>
   rw[hp]at hcx;apply (qiU);exact qcE
  | false =>
   rw[hp]at hcx;apply (qiU);apply (gT);refine AI (i+1) ⟨by show i+1≤q.length;omega,fun j y hj hy=>?_⟩ (by show q.length-(i+1)<q.length-i;omega);by_cases e:j=i
   ·subst e;rw[hx]at hy;cases hy;exact hp
   ·exact hb j y jB hy
 ·have e:i=q.length:=jB
  exact qcD
theorem hasQ_fn(hq:QAt f p q)(hl:q.length≤1000000000)[Fun prog fid](pr:Int×Int→Bool)
  (hc:∀x,x∈q→Fn prog fid ([]++[.agg (pairV x).toArray]++cs) f F (Ret (.bool (pr x)) f F)) :
  Fn prog 188 [.slice p q.length c,.func (.func fid) #[] cs.toArray] f F (Ret (.bool (q.any pr)) f F):=by
 have h1:=idxI_any pr q;refine A9 func188 ntmps188 fun base=>?_
 apply (gG);refine A8 rfl rfl rfl (idxQ_fn f F hq hl pr hc) ?_;exact qcT
theorem idxU_fn{d:Nat→Int}(hr:∀i,i<m→∃b off,p=some ⟨b,off,none⟩∧Rd1 f F b (off+i) (.int .u64 (d i)))(hm:m≤1000000000)[Fun prog fid](pr:Int→Bool)
  (hc:∀z,Fn prog fid ([]++[.int .u64 z]++cs) f F (Ret (.bool (pr z)) f F)) :
  Fn prog 365 [.slice p m c,.func (.func fid) #[] cs.toArray] f F (Ret (.int .i64 (idxI (fun i=>pr (d i)) (List.range m))) f F):=by
 refine A9 func365 ntmps365 fun base=>?_;apply (gK);refine AF (ι:=Nat) (fun i=>[(8,.int .i64 (i:Int)),(7,.int .i64 (m:Nat)),(0,.slice p m c),(1,.func (.func fid) #[] cs.toArray)]) (fun _=>f) (fun _=>F) (fun i=>i≤m∧∀j,j<i→pr (d j)=false) (fun i=>m-i) 0 ⟨Nat.zero_le _,fun j hj=>by omega⟩ fun i hi=>?_;obtain⟨hi,hb⟩:i≤m∧∀j,j<i→pr (d j)=false:=hi;by_cases hlt:i<m
 ·obtain⟨b,off,rfl,hrd⟩:=hr i hlt;have hcx:=hc (d i);apply (gN)
  refine CD (i:=i) rfl rfl rfl rfl hlt rfl ?_;refine AL rfl rfl rfl hrd rfl ?_
  cases hp:pr (d i)with
  | true =>
   rw[hp]at hcx;apply (qiU);apply (gR);refine AE rfl rfl iD ⟨?_,rfl,rfl⟩
   rw[idxI_at (i:=i) (x:=i) (by rw[List.getElem?_range hlt]) hp fun j y hj hy=>by
    rw[List.getElem?_range jB]at hy;cases hy;exact hb j hj]
  | false =>
   rw[hp]at hcx;apply (qiU);apply (gT);refine AI (i+1) ⟨by show i+1≤m;omega,fun j hj=>?_⟩ (by show m-(i+1)<m-i;omega);by_cases e:j=i
   ·subst e;exact hp
   ·exact hb j jB
 ·have e:i=m:=jB
  subst e;apply (gN);refine AE rfl rfl iD ⟨?_,rfl,rfl⟩
  rw[idxI_none fun j y hj hy=>by
   have hj:j<i:=by rw[List.length_range]at hj;exact hj
   rw[List.getElem?_range hj]at hy;cases hy;exact hb j hj]
theorem hasU_fn{d:Nat→Int}(hr:∀i,i<m→∃b off,p=some ⟨b,off,none⟩∧Rd1 f F b (off+i) (.int .u64 (d i)))(hm:m≤1000000000)[Fun prog fid](pr:Int→Bool)
  (hc:∀z,Fn prog fid ([]++[.int .u64 z]++cs) f F (Ret (.bool (pr z)) f F)) :
  Fn prog 321 [.slice p m c,.func (.func fid) #[] cs.toArray] f F (Ret (.bool ((List.range m).any fun i=>pr (d i))) f F):=by
 have h1:=idxI_any (fun i=>pr (d i)) (List.range m);refine A9 func321 ntmps321 fun base=>?_
 apply (gG);refine A8 rfl rfl rfl (idxU_fn f F hr hm pr hc) ?_;exact qcT
theorem fits1_fn{pb:Nat}{i:LP}(x:Int×Int):Fn prog 320 ([]++[.agg (pairV x).toArray]++[.pointer (some ⟨pb,0,none⟩)]) f (row pb 88 [.pointer (some ⟨lb,0,none⟩)]::row lb 262 (loreCells n l i)::F)
  (Ret (.bool (decide ((n:Int)<x.1))) f (row pb 88 [.pointer (some ⟨lb,0,none⟩)]::row lb 262 (loreCells n l i)::F)):=by
 refine A9 func320 ntmps320 fun base=>?_;apply (gA);refine H.box (ls:=pairV x) rfl rfl rfl rfl fun qb=>?_;apply (gG);apply (qhz);apply (gK);exact qaI
theorem fits2_fn(z:Int):Fn prog 322 ([]++[.int .u64 z]++[]) f F (Ret (.bool (decide (0<z))) f F):=by
 refine AB func322 ntmps322 fun base=>?_;apply (gN);exact qad
end
theorem any_all(l:List α)(p:α→Bool)(q:α→Bool)(h:∀x,q x= !p x):l.all q= !l.any p:=by
 induction l with
 |nil=>rfl
 |cons a l ih=>rw[List.all_cons,List.any_cons,ih,h,Bool.not_or]
theorem deps_any(hn:n≤11)(d:Nat→Int):((List.range 11).all fun i=>decide (i<n)||decide (d i≤0))= !(List.range (11-n)).any fun i=>decide (0<d (n+i)):=by
 cases h:(List.range (11-n)).any fun i=>decide (0<d (n+i))with
 | true =>
  rw[List.any_eq_true]at h;obtain⟨i,hi,h⟩:=h;have hi:=List.mem_range.1 hi;rw[Bool.not_true,List.all_eq_false]
  refine⟨n+i,List.mem_range.2 jB,?_⟩;have h:=of_decide_eq_true h;rw[decide_eq_false jB,decide_eq_false jB];decide
 | false =>
  rw[List.any_eq_false]at h;rw[Bool.not_false,List.all_eq_true];intro i hi;have hi:=List.mem_range.1 hi;rw[Bool.or_eq_true,decide_eq_true_eq,decide_eq_true_eq]
  by_cases hlt:i<n
  ·exact .inl hlt
  ·have:=h (i-n) (List.mem_range.2 jB);rw[decide_eq_true_eq,show n+(i-n)=i by omega]at this
   exact .inr jB
theorem fitsB_q(hn:n≤11){m:Msg}(h1:m.may=true)(h2:m.origin≤(n:Int)):fitsB n m=(!(m.body.q.any fun p=>decide ((n:Int)<p.1))&& !(List.range (11-n)).any fun i=>decide (0<m.deps (n+i))):=by
 unfold fitsB
 rw[h1,decide_eq_true h2,deps_any hn,any_all m.body.q (fun p=>decide ((n:Int)<p.1)) (fun p=>decide (p.1≤(n:Int))) fun p=>by
  by_cases h:(n:Int)<p.1
  ·rw[decide_eq_true h,decide_eq_false jB];rfl
  ·rw[decide_eq_false h,decide_eq_true jB];rfl]
 rfl
variable {x:MV}
section
variable (f:Frag) (F:List HP)
theorem fits_fn{i:LP}(hn:n≤11)(hx:x.Good f):Fn prog 265 [.pointer (some ⟨lb,0,none⟩),.agg x.vals.toArray] f (row lb 262 (loreCells n l i)::F)
  (Ret (.bool (fitsB n x.m)) f (row lb 262 (loreCells n l i)::F)):=by
 have hmay:=fun G=>mmay_fn f G hx;by_cases hm:x.m.may=true
 ·rw[hm]at hmay;by_cases ho:x.m.origin≤(n:Int)
  ·rw[fitsB_q hn hm ho];refine A9 func265 ntmps265 fun base=>?_;refine (qgX) fun pb=>?_;refine (qkj) fun mb=>?_;apply (qez);apply (gS);apply (qeh);apply (qe);have hq:x.m.body.q.length≤1000000000:=by have:=hx.2.1;omega
   refine A8 rfl rfl rfl (hasQ_fn f _ (c:=x.qc) hx.1 hq (fun p=>decide ((n:Int)<p.1)) fun p _=>fits1_fn f _ p) ?_
   cases hany:x.m.body.q.any fun p=>decide ((n:Int)<p.1)with
   | true =>
    apply (qgg);apply (qhT);exact qch
   | false =>
    refine H.not (b:=false) (c:=true) rfl rfl rfl rfl ?_;repeat(first|((first|apply B3|apply B8);(iterate 3 exact rfl))|(apply BH;(iterate 3 exact rfl);exact inferInstance;exact rfl)|(apply AL;(iterate 3 exact rfl);apply Rd1.ofRow;(repeat(first|exact .here _ _ _|apply At.there));(iterate 2 exact rfl)))
    refine C4 (lo:=some _) (hi:=none) (mx:=none) (lv:=n) (hv:=11) (mv:=11) rfl rfl ⟨_,_,rfl,rfl⟩ rfl rfl (fun h=>by cases h) hn jE jE rfl ?_;refine A8 rfl rfl rfl (hasU_fn f _ (p:=slP (some ⟨mb,2,none⟩) n 11 1) (m:=11-n) (c:=11-n) (d:=fun i=>x.m.deps (n+i)) (fun i hi=>⟨mb,2+n,by unfold slP;rw[if_neg jB];show some (Addr.add ⟨mb,2,none⟩ (n*1))=_;rw[zas,Nat.mul_one],?_⟩) jB (fun z=>decide (0<z)) fun z=>fits2_fn f _ z) ?_
    ·rw[show 2+n+i=2+(n+i) by omega];exact Rd1.of (off:=2) (msg_deps (m:=x.m) (q:=x.qp) (qc:=x.qc) at2) (zbq x.m.deps jB)
    generalize(List.range (11-n)).any (fun i=>decide (0<x.m.deps (n+i)))=b;refine H.not (b:=b) (c:=!b) rfl rfl rfl rfl ?_;apply (gJ);apply (qet);exact qch
  ·have e:fitsB n x.m=false:=by unfold fitsB;rw[decide_eq_false ho];simp
   rw[e];refine A9 func265 ntmps265 fun base=>?_;refine (qgX) fun pb=>?_;refine (qkj) fun mb=>?_;apply (qez);apply (gN);exact qce
 ·have hm:x.m.may=false:=Bool.eq_false_iff.2 hm;have e:fitsB n x.m=false:=by unfold fitsB;rw[hm];rfl
  rw[hm]at hmay;rw[e];refine A9 func265 ntmps265 fun base=>?_;refine (qgX) fun pb=>?_;refine (qkj) fun mb=>?_;apply (qez);apply (gR);exact qce
end
theorem strm_lenV(l:List MV)(o:Nat):(strm (l.map MV.m) o).length=(strmV l o).length:=by rw[←strmV_map,List.length_map]
variable {b:Nat} {T:TypeId}
theorem slc_deps{xs:List MV}(h:At A (slc (some ⟨b,0,none⟩) n c T 121 (xs.flatMap MV.vals)) A' (slc (some ⟨b,0,none⟩) n c T 121 (xs.flatMap MV.vals))){k:Nat}{y:MV}(hy:xs[k]?=some y):Rd f A b (k*121+2) (v11 y.m.deps):=by
 have h1:=Rd.slcElem (f:=f) MV.len jE h hy;have e:y.vals=[.int .i64 y.m.origin,.int .u64 y.m.number]++v11 y.m.deps++(y.m.body.vals y.qp y.qc++b32 y.m.tag):=by unfold MV.vals Msg.vals;simp only[List.append_assoc]
 exact qbL
theorem fits_at{m:Msg}(h:fitsB n m=true)(hn:n≤11):∃o:Nat,orgI m=o∧m.origin-1=(o:Nat)∧o<n∧o<11∧1≤m.origin∧m.origin≤11:=by
 have h1:=fits_org h;refine⟨(m.origin-1).toNat,rfl,?_⟩
 omega
section
variable (f:Frag) (F:List HP)
theorem lcheck_fn(htab:TabAt f)(hx:x.Good f):Fn prog 211 [.pointer (some ⟨lb,0,none⟩),.agg x.vals.toArray] f (loreH fl lb n l::F)
  (Ret (.int .i64 (chk n (strm (l.map MV.m)) x.m)) f (loreH fl lb n l::F)):=by
 refine (qfu) fun i hi=>?_;have hn:=hi.2.2.2;have hfits:∀ {G},Fn prog 265 [.pointer (some ⟨lb,0,none⟩),.agg x.vals.toArray] f (row lb 262 (loreCells n l i)::G) (Ret (.bool (fitsB n x.m)) f (row lb 262 (loreCells n l i)::G)):=fun {G}=>fits_fn f G hn hx
 have hright:∀ {G},Fn prog 266 [.agg x.vals.toArray] f G (Ret (.bool x.m.right) f G):=fun {G}=>mright_fn f G htab hx
 cases h1:fitsB n x.m with
 | false =>
  rw[h1]at hfits;refine (qis) fun base=>?_;refine (qdZ) fun mb=>?_;apply (gR);apply (qfH);apply (qeh);refine A8 rfl rfl rfl hfits ?_;apply (qiu);apply (gR);apply (qeq);apply (qfz);refine AE rfl rfl iD ⟨?_,rfl,rfl⟩;unfold chk;rw[if_pos h1]
 | true =>
  obtain⟨o,hoo,hoz,hon,ho11,ho1,ho2⟩:=fits_at h1 hn;rw[h1]at hfits
  cases h2:x.m.right with
  | false =>
   rw[h2]at hright;refine (qis) fun base=>?_;refine (qdZ) fun mb=>?_;apply (qdJ);apply (gR);apply (qeq);apply (qfz);refine AE rfl rfl iD ⟨?_,rfl,rfl⟩;unfold chk;rw[if_neg (by rw[h1];decide),if_pos h2]
  | true =>
   rw[h2]at hright;have hsl:=strmV_le l o;have hll:=hi.2.1
   have hstr:=loreCells_str n l i ho11;have hlen:=strm_lenV l o
   have hchk:chk n (strm (l.map MV.m)) x.m=if x.m.number≤((strmV l o).length:Nat)then 13 else
     if x.m.number=(((strmV l o).length+1:Nat):Int)∧0<(strmV l o).length∧aboveB (lastD (strm (l.map MV.m) o)) x.m.deps=true then 1 else
     if(((strmV l o).length+1:Nat):Int)<x.m.number∨aboveB x.m.deps (knownS (strm (l.map MV.m)))=true then 12 else 0:=by
    unfold chk
    rw[if_neg (by rw[h1];decide),if_neg (by rw[h2];decide),hoo,hlen]
   by_cases h3:x.m.number≤((strmV l o).length:Nat)
   ·generalize hs:(strmV l o).length=s at *;refine (qis) fun base=>?_;refine (qdZ) fun mb=>?_;apply (qdJ);apply (gE);apply (qem);apply (qeq);apply (qfz);refine AE rfl rfl iD ⟨?_,rfl,rfl⟩;rw[hchk,if_pos h3]
   ·by_cases h4 : x.m.number = (((strmV l o).length + 1 : Nat) : Int)
    ·by_cases h0 : 0 < (strmV l o).length
     ·obtain⟨y,hy⟩:∃y,(strmV l o)[(strmV l o).length-1]?=some y:=⟨_,List.getElem?_eq_getElem jB⟩
      have hlast:lastD (strm (l.map MV.m) o)=y.m.deps:=by
       rw[←strmV_map];exact lastD_get (by rw[List.length_map,List.getElem?_map,hy];rfl)
      rw[hlast]at hchk;refine (qis) fun base=>?_;refine (qdZ) fun mb=>?_;apply (qdJ);apply (gE);apply A3 (fam (strH l i) 11);refine CA ho11 ?_;refine AO (p:=i.P o) (n0:=(strmV l o).length) (c:=i.C o) aP0 h0 fun sb hp=>?_
      have hrd:∀ {f G},Rd f (strH l i o::G) sb (((strmV l o).length-1)*121+2) (v11 y.m.deps):=fun {f G}=>by
       unfold strH;rw[hp];exact slc_deps aP0 hy
      rw[hp]at hstr;generalize hs:(strmV l o).length=s at *;apply (qeh);apply (qfo);apply (qem);apply (qfo);apply A3 (strH l i o);apply (qex);apply A6 [0,1,2,3,4,5,6,7,8,9,10,11,12,13,14,15,16,17] 3;apply (gQ);refine Cn (i:=s-1) rfl rfl rfl jB jB rfl ?_;apply (gF);refine AH (ls:=v11 y.m.deps) rfl rfl rfl (by rw[Nat.zero_add];exact hrd) rfl rfl ?_;apply (gF);refine AH (ls:=v11 x.m.deps) rfl rfl rfl (msg_deps (m:=x.m) (q:=x.qp) (qc:=x.qc) aP1) rfl rfl ?_;apply (qdG);apply A7 18;refine A8 rfl rfl rfl (above_fn f _ _ _) ?_
      cases hab:aboveB y.m.deps x.m.deps with
      | true =>
       apply (qdE);apply A6 [19,20] 0;apply (qjc);apply (gR);apply (qje);apply (qeq);apply (qfz);refine AE rfl rfl iD ⟨?_,rfl,rfl⟩;rw[hchk,if_neg h3,if_pos ⟨h4,h0,hab⟩]
      | false =>
       apply (qdE);apply A6 [19,20] 0;apply (qjc);apply (gS);apply (qje);have hc4:¬(x.m.number=((s+1:Nat):Int)∧0<s∧aboveB y.m.deps x.m.deps=true):=by rintro⟨_,_,h⟩;rw[hab]at h;cases h
       apply (qew);apply (qdP)
       cases hab:aboveB x.m.deps (knownS (strm (l.map MV.m)))with
       | true =>
        exact qby
       | false =>
        exact qbo
     ·have hc4:¬(x.m.number=(((strmV l o).length+1:Nat):Int)∧0<(strmV l o).length∧aboveB (lastD (strm (l.map MV.m) o)) x.m.deps=true):=fun h=>h0 h.2.1;generalize hs:(strmV l o).length=s at *
      refine (qis) fun base=>?_;refine (qdZ) fun mb=>?_;apply (qfx);apply (gS);apply (qew);apply (qdP)
      cases hab:aboveB x.m.deps (knownS (strm (l.map MV.m)))with
      | true =>
       exact qby
      | false =>
       exact qbo
    ·have hc4:¬(x.m.number=(((strmV l o).length+1:Nat):Int)∧0<(strmV l o).length∧aboveB (lastD (strm (l.map MV.m) o)) x.m.deps=true):=fun h=>h4 h.1;generalize hs:(strmV l o).length=s at *
     refine (qis) fun base=>?_;refine (qdZ) fun mb=>?_;apply (qfx);apply (gT);apply (qeq);apply (qfz);refine AE rfl rfl iD ⟨?_,rfl,rfl⟩;rw[hchk,if_neg jB,if_neg hc4,if_pos (.inl jB)]
end
variable {sz:Nat}
theorem ListAt.none_nil{vals:α→List Value}{xs:List α}(h:ListAt f p sz vals xs)(hp:p=none):xs=[]:=by
 cases xs with
 |nil=>rfl
 | cons x r =>
  obtain⟨b,off,cs,T,fr,h1,_⟩:=h 0 x rfl;rw[hp]at h1;cases h1
theorem MVs_one(l:List MV):∀v∈l.flatMap MV.vals,one v=true:=by
 intro v hv;simp only[List.mem_flatMap]at hv;exact qcU
def loreC(n:Nat)(g:Nat→Value)(s:Value):List Value:=[.int .i64 (n:Int)]++c11 g++[s]
theorem loreC_last(n:Nat)(g:Nat→Value)(s v:Value):SetV (loreC n g s) 12 v (loreC n g v):=by
 have e:loreC n g v=(loreC n g s).set 12 v:=rfl;rw[e]
 exact SetV.mk v (show 12<13 by decide)
theorem loreC_mid(n:Nat)(g:Nat→Value)(s v:Value){o:Nat}(h:o<11):SetV (loreC n g s) (1+o) v (loreC n (updF g o v) s):=
 SetV.mid' (c11_set g v h) [.int .i64 (n:Int)] [s]
theorem loreC_str(n:Nat)(g:Nat→Value)(s:Value){o:Nat}(h:o<11):(loreC n g s)[1+o]?=some (g o):=by
 unfold loreC;rw[List.append_assoc,List.getElem?_append_right (by show 1≤1+o;omega),show 1+o- [Value.int .i64 (n:Int)].length=o by show 1+o-1=o;omega,List.getElem?_append_left (by show o<11;exact h),c11_get _ h]
theorem c11_congr{g g':Nat→Value}(h:∀k,k<11→g k=g' k):c11 g=c11 g':=by
 unfold c11;exact qbA
variable {F:List HP} {f':Frag}
theorem lore_after{o:Nat}{i:LP}{p2 po2:Option Addr}{c2 co2:Nat}(hoo:orgI x.m=o)(h:loreφ f' n (l++[x])):∀y,stars (row lb 262 (loreC n (updF (fun k=>.slice (i.P k) (strmV l k).length (i.C k)) o (.slice p2 ((strmV l o).length+1) c2)) (.slice po2 (l.length+1) co2)) ::
   fam (updF (strH l i) o (slc p2 ((strmV l o).length+1) c2 41 121 ((strmV l o).flatMap MV.vals++x.vals))) 11 ::
   slc po2 (l.length+1) co2 360 2 ((placesOf (l.map MV.m)).flatMap placeV++placeV (o,(strmV l o).length))::F) y→stars (loreH f' lb n (l++[x])::F) y:=by
 have hcnt:cnt (l.map MV.m) o=(strmV l o).length:=(strmV_len l o).symm
 have e1:loreC n (updF (fun k=>.slice (i.P k) (strmV l k).length (i.C k)) o (.slice p2 ((strmV l o).length+1) c2)) (.slice po2 (l.length+1) co2)=loreCells n (l++[x]) ⟨updF i.P o p2,updF i.C o c2,po2,co2⟩:=by
  unfold loreC loreCells;rw[c11_congr (g':=fun k=>.slice ((updF i.P o p2) k) (strmV (l++[x]) k).length ((updF i.C o c2) k)) fun k _=>?_,List.length_append]
  ·rfl
  ·rw[strmV_snoc,hoo];by_cases e:k=o
   ·subst e;rw[zbg,zbg,zbg,if_pos rfl,List.length_append];rfl
   ·rw[zcf _ _ e,zcf _ _ e,zcf _ _ e,if_neg e]
 have e2:fam (updF (strH l i) o (slc p2 ((strmV l o).length+1) c2 41 121 ((strmV l o).flatMap MV.vals++x.vals))) 11=fam (strH (l++[x]) ⟨updF i.P o p2,updF i.C o c2,po2,co2⟩) 11:=by
  unfold fam;rw[rngH_congr 11 fun k _=>?_];unfold strH;rw[strmV_snoc,hoo];by_cases e:k=o
  ·subst e;show updF _ k _ k=slc (updF i.P k p2 k) _ (updF i.C k c2 k) _ _ _;rw[zbg,zbg,zbg,if_pos rfl,List.length_append,List.flatMap_append];show _=slc p2 _ c2 _ _ (_++(x.vals++[]));rw[List.append_nil];rfl
  ·show updF _ o _ k=slc (updF i.P o p2 k) _ (updF i.C o c2 k) _ _ _;rw[zcf _ _ e,zcf _ _ e,zcf _ _ e,if_neg e]
 have e3:slc po2 (l.length+1) co2 360 2 ((placesOf (l.map MV.m)).flatMap placeV++placeV (o,(strmV l o).length))=ordH (l++[x]) ⟨updF i.P o p2,updF i.C o c2,po2,co2⟩:=by
  unfold ordH;have hpl:=placesOf_snoc (l.map MV.m) x.m;rw[hoo,hcnt]at hpl
  rw[List.map_append,show [x].map MV.m=[x.m]from rfl,hpl,List.flatMap_append,List.length_append];rfl
 rw[e1,e2,e3];exact zbi _ h
theorem loreφ_snoc(hle:Le f f')(h:loreφ f n l)(hl:l.length<100000)(hc:chk n (strm (l.map MV.m)) x.m=0)(hx:x.Good f'):loreφ f' n (l++[x]):=by
 refine⟨fun y hy=>?_,?_,?_,h.2.2.2⟩
 ·rcases List.mem_append.1 hy with hy|hy
  ·exact(h.1 y hy).mono hle
  ·rw[List.mem_singleton]at hy;subst hy;exact hx
 ·rw[List.length_append];show l.length+1≤_;omega
 ·rw[List.map_append];exact h.2.2.1.snoc hc
def msgZ:Msg:=⟨0,0,fun _=>0,Bod.zero 0,noTag⟩
variable {g:Frag}
theorem qs_qat0(h:qs p c q g):QAt g p q:=slc_listAt (vals:=pairV) (fun _=>rfl) h
section
variable (f:Frag) (F:List HP)
theorem cloneQ_fn{l:List (Int×Int)}(h:QAt f p l)(hl:l.length≤1000000):Fn prog 268 [.slice p l.length c] f F (fun v f' A'=>∃p c,v= .slice p l.length c∧f'=f∧A'=qs p c l::F):=by
 have h':ListAt f p 2 pairV l:=h;have hs:=ListAt.src (P:=prog) (A:=F) (c:=c) (sz:=2) (vals:=pairV) (fun _=>rfl) jE h'
 cases p with
 | none =>
  have:=h'.none_nil rfl;subst this
  refine AB func268 ntmps268 fun base=>?_;apply (gP);refine AY 327 2 ?_;exact qbJ
 | some a =>
  refine AB func268 ntmps268 fun base=>?_;apply (gR);refine (qhd) fun eb=>?_;refine CB (k:=0) (sz:=2) rfl jE ?_;apply (gG);refine AQ (xs:=[]) rfl rfl rfl rfl rfl (fun p' c'=>.here _ _ _) hs.cons (pairsV_one l) rfl jB jB fun p' c'=>?_;rw[Nat.zero_add];apply (gK);exact qbi
theorem lown_fn(hx:x.Good f):Fn prog 212 [.agg x.vals.toArray] f F (fun v f' A'=>∃p c,v= .agg (x.m.vals p c).toArray∧f'=f∧A'=qs p c x.m.body.q::F):=by
 refine AB func212 ntmps212 fun base=>?_;refine (qdZ) fun mb=>?_;refine (qfm) fun ob=>?_;apply (gO);refine AG rfl rfl rfl (cloneQ_fn f _ hx.1 hx.2.1) fun qp qc=>?_;apply (gL);refine AD (ls:=x.m.vals qp qc) rfl rfl rfl (Rd.ofRow jA) rfl rfl ?_;refine AC (ls:=msgZ.vals none 0) (vs:=x.m.vals qp qc) (ls':=x.m.vals qp qc) rfl rfl rfl (zaa rfl) rfl rfl (Nat.le_refl 121) jA ?_;apply (gK);apply (qfz);apply (qed);exact BS rfl rfl rfl (Rd.ofRow aP0) rfl (fun _ s=>s.drop (.here _ _)) ⟨qp,qc,rfl,rfl,rfl⟩
def AddP(f:Frag)(F:List HP)(lb n:Nat)(l:List MV)(m:Msg):Value→Frag→List HP→Prop:=fun v f' A'=>
 ∃(g:Frag) (qp:Option Addr) (qc:Nat),v= .int .i64 (chk n (strm (l.map MV.m)) m)∧Dj f g∧f'=un f g∧A'=loreH f' lb n (if chk n (strm (l.map MV.m)) m=0 then l++[⟨m,qp,qc⟩]else l)::F
def AddQ(f:Frag)(F:List HP)(fl:Frag)(lb n:Nat)(l:List MV)(m:Msg):Value→Frag→List HP→Prop:=fun v f' A'=>
 ∃(g:Frag) (qp:Option Addr) (qc:Nat),v= .int .i64 (chk n (strm (l.map MV.m)) m)∧Dj f g∧f'=un f g∧A'=loreH (un fl g) lb n (if chk n (strm (l.map MV.m)) m=0 then l++[⟨m,qp,qc⟩]else l)::F
theorem Dj.le{f h:Frag}(h1:Le f g)(h2:Dj g h):Dj f h:=fun k=>by
 rcases h2 k with e|e
 ·cases hf:f k with
  |none=>exact .inl rfl
  |some o=>rw[h1 k o hf]at e;cases e
 ·exact .inr e
theorem laddQ_fn(htab:TabAt f)(hfl:Le fl f)(hx:x.Good f)(hlen:l.length<100000):Fn prog 151 [.pointer (some ⟨lb,0,none⟩),.agg x.vals.toArray] f (loreH fl lb n l::F) (AddQ f F fl lb n l x.m):=by
 by_cases hc:chk n (strm (l.map MV.m)) x.m=0
 ·obtain⟨z1,z2,z3,_,_⟩:=chk_zero hc;refine (qfu) fun i0 hi0=>?_;refine Fn.imp (zbi i0 hi0) ?_;have hn:=hi0.2.2.2;obtain⟨o,hoo,hoz,hon,ho11,ho1,ho2⟩:=fits_at z1 hn
  rw[hoo,strm_lenV]at z3;have hsub:IntKind.i64.wrap (x.m.origin-1)=((o:Nat):Int):=by rw[hoz];exact wr_i64 jB
  have hsl:=strmV_le l o;have hcnt:cnt (l.map MV.m) o=(strmV l o).length:=strm_lenV l o
  refine A9 func151 ntmps151 fun base=>?_;refine (qdZ) fun mb=>?_;apply (qjM);rw[hc];refine FG fun i hi=>?_;unfold ordH;have hstr:=loreCells_str n l i ho11;apply (qfo)
  apply (qhz);refine BO (i:=o) rfl rfl rfl hoz ho11 rfl ?_;apply (gQ);apply (gA);refine H.dc [0,1,2,3,4,5,6,7,8,9,10,11,12,13,14] (S:=[_,_]) rfl ?_;apply A6 [0,1,2,3,4,5,6,7,8,9,10,11,12] 5;repeat(first|(apply DQ;(iterate 4 exact rfl);exact hsub;exact rfl)|(refine B6 rfl rfl rfl (Rd1.at0 (Rd.ofRow aP1) jf) rfl ?_)|(apply (gV)))
  apply (qdG);apply A7 13;refine AS (out:=placeV (o,(strmV l o).length)) rfl rfl rfl rfl jE jE rfl rfl fun eb=>?_;apply (gA);apply (qeh);apply (qfo);apply (qdO);apply A7 14;have hpll:(placesOf (l.map MV.m)).length=l.length:=by unfold placesOf;rw[placesFrom_len,List.length_map]
  refine AQ (xs:=(placesOf (l.map MV.m)).flatMap placeV) (m:=1) (news:=placeV (o,(strmV l o).length)) rfl rfl rfl rfl rfl (fun p' c'=>jA) (Src.slice (Rd.ofRow jA) rfl) (zaa rfl) rfl jB jB fun po2 co2=>?_;apply (qij);apply (qeJ);apply A6 [15,16] 1;apply (qdX);apply A7 17;refine AZ (ls:=loreC n (fun k=>.slice (i.P k) (strmV l k).length (i.C k)) (.slice i.po l.length i.co)) (ls':=loreC n (fun k=>.slice (i.P k) (strmV l k).length (i.C k)) (.slice po2 (l.length+1) co2)) rfl rfl rfl rfl aP1 (loreC_last _ _ _ _) ?_;apply (qeX);apply (gA);refine H.dc [0,1,2,3,4,5,6,7] (S:=[_,_]) rfl ?_;apply A6 [0,1,2,3,4] 5;have hstr2:=loreC_str n (fun k=>.slice (i.P k) (strmV l k).length (i.C k)) (.slice po2 (l.length+1) co2) ho11;repeat(first|(refine B6 rfl rfl rfl (Rd1.at0 (Rd.ofRow aP1) (by rw[Nat.mul_one,Nat.zero_add];exact hstr2)) rfl ?_)|(refine AH (ls:=x.vals) rfl rfl rfl (Rd.ofRow aP0) rfl rfl ?_)|(apply (gV)))
  apply (qhC);refine AG rfl rfl rfl (lown_fn f _ hx) fun qp qc=>?_;apply (gA);refine H.freeze (.here _ _) fun g hg hd=>?_;refine H.on [] (Le.un f g) rfl ?_;apply A7 6;refine AS (out:=x.m.vals qp qc) rfl rfl rfl rfl jE jE rfl rfl fun eb=>?_;apply (gA);apply (qeh);apply (qfo);apply (qdO);apply A7 7;apply A3 (fam (strH l i) 11);refine CA ho11 ?_;unfold strH;refine AQ (xs:=(strmV l o).flatMap MV.vals) (m:=1) (news:=x.m.vals qp qc) rfl rfl rfl rfl rfl (fun p' c'=>.here _ _ _) (Src.slice (Rd.ofRow jA) rfl) (zaa rfl) rfl jB jB fun p2 c2=>?_;apply (gA);apply (qeZ);refine DH ho11 ?_;apply (qeh);apply (qfo);apply (qdO);apply (qeJ);apply A6 [8] 1;apply (qgK);apply (qkF);refine AZ (ls:=loreC n (fun k=>.slice (i.P k) (strmV l k).length (i.C k)) (.slice po2 (l.length+1) co2)) (ls':=loreC n (updF (fun k=>.slice (i.P k) (strmV l k).length (i.C k)) o (.slice p2 ((strmV l o).length+1) c2)) (.slice po2 (l.length+1) co2)) rfl rfl rfl rfl aP1 (by rw[Nat.mul_one,Nat.zero_add];exact loreC_mid _ _ _ _ ho11) ?_;apply (qhU);apply (qfz);have hxg:(⟨x.m,qp,qc⟩:MV).Good (un fl g):=⟨QAt.mono (Le.right (Dj.le hfl hd)) (qs_qat0 hg),hx.2⟩;refine H.imp (lore_after (x:=⟨x.m,qp,qc⟩) hoo (loreφ_snoc (Le.un fl g) hi hlen hc hxg)) ?_
  refine AE rfl rfl iD ⟨g,qp,qc,?_,hd,rfl,?_⟩
  ·rw[hc]
  ·rw[if_pos hc];rfl
 ·have hA:Fn prog 151 [.pointer (some ⟨lb,0,none⟩),.agg x.vals.toArray] f (loreH fl lb n l::F) (Ret (.int .i64 (chk n (strm (l.map MV.m)) x.m)) f (loreH fl lb n l::F)):=by
   refine A9 func151 ntmps151 fun base=>?_;refine (qdZ) fun mb=>?_;apply (qjM);exact qch
  refine Fn.monoA hA ?_;rintro v f' A' ⟨rfl,rfl,rfl⟩;refine⟨_,⟨nil0,none,0,rfl,Dj.nil _,(un_nil _).symm,rfl⟩,?_⟩;rw[if_neg hc];rintro y ⟨h1,h2,h3,h4,h5,h6⟩;exact⟨h1,h2,h3,h4,loreH_mono (Le.un fl nil0) _ h5,h6⟩
theorem ladd_fn(htab:TabAt f)(hfl:Le fl f)(hx:x.Good f)(hlen:l.length<100000):Fn prog 151 [.pointer (some ⟨lb,0,none⟩),.agg x.vals.toArray] f (loreH fl lb n l::F) (AddP f F lb n l x.m):=by
 refine Fn.monoA (laddQ_fn f F htab hfl hx hlen) ?_;rintro v f' A' ⟨g,qp,qc,e1,e2,rfl,rfl⟩;refine⟨_,⟨g,qp,qc,e1,e2,rfl,rfl⟩,?_⟩;rintro y ⟨h1,h2,h3,h4,h5,h6⟩;refine⟨h1,h2,h3,h4,loreH_mono (fun k o hk=>?_) _ h5,h6⟩;unfold un at hk⊢
 cases hfk:fl k with
 | none =>
  rw[hfk]at hk;rcases e2 k with e|e
  ·rw[e];exact hk
  ·have hk2:g k=some o:=hk;rw[e]at hk2;cases hk2
 | some o' =>
  rw[hfk]at hk;rw[hfl k o' hfk];exact hk
end
theorem flat_splice{vals:α→List Value}(hv:∀x,(vals x).length=sz){xs:List α}{i:Nat}(z:α)(hi:i<xs.length)(sp:List Value):splice (xs.flatMap vals++sp) (i*sz) (vals z)=(xs.set i z).flatMap vals++sp:=by
 have hx:xs[i]?=some xs[i]:=List.getElem?_eq_getElem hi;have hl:((xs.take i).flatMap vals).length=i*sz:=by rw[zar hv,List.length_take,Nat.min_eq_left jB]
 have h2:(xs.set i z)[i]?=some z:=by rw[List.getElem?_set_self hi]
 have e1:(xs.set i z).take i=xs.take i:=by rw[List.take_set_of_le (Nat.le_refl _)]
 have e2:(xs.set i z).drop (i+1)=xs.drop (i+1):=by rw[List.drop_set_of_lt jB]
 rw[flat_split xs hx,flat_split (xs.set i z) h2,e1,e2];generalize(xs.take i).flatMap vals=pre at hl;unfold splice;have e3:pre++vals xs[i]++(xs.drop (i+1)).flatMap vals++sp=pre++(vals xs[i]++((xs.drop (i+1)).flatMap vals++sp)):=by simp
 rw[e3,←hl,List.take_left,hv z,←hv xs[i],←List.drop_drop,List.drop_left,List.drop_left];simp
variable {t:TypeId} {y:Operand}
section
variable {P:Program} {base:World} {n:Nat} {L:Env} {f:Frag} {A:List HP} {q:Post} {l rest:List Oper} {ty:TypeId} {pos:String} {af:Array Edge} {gd:Option (Nat × Bool)}
theorem E3{vals:α→List Value}{x:Operand}{n0:Nat}{xs:List α}{i:Nat}{z:α}[hs:Siz P t sz](hv:∀x,(vals x).length=sz)(h0:0<sz)(hone:∀v∈vals z,one v=true)(hw:want? l L gd=true)
  (hx:ev? L x=some (.pointer (some ⟨b,i*sz,none⟩))) (hy:ev? L y=some (.agg (vals z).toArray)) (hi:i<xs.length)
  (hA:At A (slc (some ⟨b,0,none⟩) n0 c T sz (xs.flatMap vals)) A' (slc (some ⟨b,0,none⟩) n0 c T sz ((xs.set i z).flatMap vals)))
  (k:H P base n L f A' (.ops l rest q)):H P base n L f A (.ops l (⟨none,.store t x y,ty,pos,af,gd⟩::rest) q):=
 Cm hw (fun a w hfr s=>by
  obtain⟨hl,hc,h3⟩:=s.slc_at hA
  have hn:xs.length=n0:=by
   rw[zar hv]at hl
   exact Nat.eq_of_mul_eq_mul_right h0 hl
  rcases h3 with⟨e,_⟩|⟨b',sp,e,hnc,hcs,hb⟩
  ·omega
  ·cases e
   have hle:i*sz+(vals z).length≤(xs.flatMap vals++sp).length:=by
    rw[List.length_append,zar hv,hv]
    have:(i+1)*sz≤xs.length*sz:=Nat.mul_le_mul_right _ hi
    rw[Nat.add_mul]at this
    omega
   have h1:=run_storeCells (P:=P) (off:=i*sz) (vals z) (xs.flatMap vals++sp) 0 w hb hone hle
   have hne:vals z≠[]:=by intro h;have:=hv z;rw[h]at this;simp at this;omega
   rw[if_neg hne,Nat.add_zero,flat_splice hv z hi]at h1
   refine⟨World.putRow' w b T ((xs.set i z).flatMap vals++sp),?_,s.turnRow hA (b:=b) (o':=.cells ((xs.set i z).flatMap vals++sp).toArray T (0,0)) ?_ rfl rfl rfl ?_ ?_⟩
   ·simp only[execOp,hfr.eval hx,hfr.eval hy,Instr.storeAt,Instr.sureAddr,storeVar,Value.cells,Sem.run_bind,Sem.run_pure,Result.andThen_ok,hs.run,List.size_toArray,hv]
    simp[h1]
   ·rintro m1 ⟨_,_,h⟩
    rcases h with⟨h,_⟩|⟨b',sp',h,_,hcs',rfl⟩
    ·omega
    ·cases h;exact⟨_,rfl⟩
   ·rfl
   ·have e4:((xs.set i z).flatMap vals).length=(xs.flatMap vals).length:=by rw[zar hv,zar hv,List.length_set]
    refine⟨by rw[e4];exact hl,hc,.inr ⟨b,sp,rfl,hnc,?_,rfl⟩⟩
    rw[List.length_append,e4,←List.length_append]
    exact hcs) k
end
variable {xt yt:TypeId} {z:Int} {s:ByteArray}
section
variable {P:Program} {base:World} {n:Nat} {L:Env} {f:Frag} {A:List HP} {q:Post} {l:List Oper} {d:Nat} {ty:TypeId} {pos:String} {af:Array Edge} {gd:Option (Nat × Bool)} {listed:Array Bool} {fuel:Nat}
theorem FH{i:Nat}{op:Op}{v:Value}(hc:pureB l listed i=true)(ho:getO l i=some ⟨some d,op,ty,pos,af,gd⟩)(hw:want? l L gd=true)(hd:Nat.ble (d+1) n=true)
  (hx:∀a w,Fr n a L→(execOp a.eval ⟨some d,op,ty,pos,af,gd⟩).run P w= .ok (.value v) w)
  (k:HN (listed.setIfInBounds i true) fuel P base n ((d,v)::L) f A (.ops l [] q)):HN listed (fuel+1) P base n L f A (.ops l [] q):=.mk fun l' q' hK hs hb a w hf s=>by
 simp only[Kont.ops.injEq]at hK
 obtain⟨rfl,_,rfl⟩:=hK
 simp only[pureB,Bool.and_eq_true]at hc
 obtain⟨⟨⟨⟨⟨h1,h2⟩,h3⟩,h4⟩,h5⟩,h6⟩:=hc
 have h5':listed.size=l.toArray.size:=by simpa using Nat.eq_of_beq_eq_true h5
 have h6':l.toArray.size≠0:=by
  have:=Nat.le_of_ble_eq_true h6;simp only[List.size_toArray];omega
 have hk:=k.out l q rfl hs hb (a.put (some d) v) w (hf.put (Nat.le_of_ble_eq_true hd) v) s
 have hk2:=wpAnyC_true h6' _ _ _ _ (by simpa using h5') hk
 exact wpAnyC.any _ _ _ _ (wpAnyC_take (C:=fun _=>True) (cut:=#[]) (oi:=⟨some d,op,ty,pos,af,gd⟩) (v:=v) jy hs h2 h3 h4 h1 (fun c a w h=>hb c a _ _ w h) (.inl ⟨hf.want hw,fun w' _=>hx _ _ hf⟩) hk2)
theorem Eo{i:Nat}{op:BinOp}{x:Operand}{k:IntKind}{p p2 r:Int}(hc:pureB l listed i=true)(ho:getO l i=some ⟨some d,.binOp op xt x y yt,ty,pos,af,gd⟩)(hw:want? l L gd=true)(hx:ev? L x=some (.int k p))(hy:ev? L y=some (.int k p2))(ha:arP op k p p2=some r)(hz:r=z)(hd:Nat.ble (d+1) n=true)
  (kk:HN (listed.setIfInBounds i true) fuel P base n ((d,.int k z)::L) f A (.ops l [] q)):HN listed (fuel+1) P base n L f A (.ops l [] q):=
 FH hc ho hw hd (fun a w hf=>by
  cases op<;>simp only[arP,Option.some.injEq,reduceCtorEq]at ha<;>subst ha<;>subst hz<;>
   simp[execOp,eqGuard,binOp,Op.intArith,hf.eval hx,hf.eval hy]) kk
theorem FI{rest:List Oper}{i:Nat}{x:Operand}{ik:IntKind}{b:UInt8}[hu:Und P t .string](hw:want? l L gd=true)
  (hx:ev? L x=some (.string s)) (hy:ev? L y=some (.int ik z)) (hq:z=(i:Nat)) (hb:s[i]?=some b) (hd:Nat.ble (d+1) n=true)
  (k:H P base n ((d,.int .u8 (b.toNat:Nat))::L) f A (.ops l rest q)):H P base n L f A (.ops l (⟨some d,.index t x y,ty,pos,af,gd⟩::rest) q):=
 AK hw hd (fun a w hf _=>by
  subst hq
  have h1:=hu.run w
  have hi2:(0:Int)≤(i:Int):=jB
  simp only[execOp,hf.eval hx,hf.eval hy,Instr.index,asIntOf,Sem.run_bind,Sem.run_pure,Result.andThen_ok,h1,hi2,if_true,Int.toNat_natCast,hb]) k
end
open Go.Sort (swp ltInt insInner insOuter insertionSort)
def uV(z:Int):List Value:=[.int .u64 z]
theorem uV_len(z:Int):(uV z).length=1:=rfl
def arr(d:Array Int):List Value:=d.toList.flatMap uV
theorem swp_size(d:Array Int)(i j:Nat):(swp d i j).size=d.size:=by unfold swp;simp
variable {d:Array Int}
theorem arr_get{i:Nat}(h:i<d.size):d.toList[i]?=some d[i]!:=by
 rw[Array.getElem?_toList,getElem!_pos d i h];simp[h]
theorem arr_map(d:Array Int):arr d=d.toList.map fun z=>.int .u64 z:=by
 unfold arr
 induction d.toList with
 |nil=>rfl
 |cons x r ih=>rw[List.flatMap_cons,ih];rfl
theorem arr_setV{i:Nat}(h:i<d.size)(z:Int):SetV (arr d) (i*1) (.int .u64 z) (arr (d.setIfInBounds i z)):=by
 have e:arr (d.setIfInBounds i z)=(arr d).set i (.int .u64 z):=by rw[arr_map,arr_map,Array.toList_setIfInBounds,List.map_set]
 rw[e,Nat.mul_one];exact SetV.mk _ (by rw[arr_map,List.length_map];simpa using h)
theorem Rd.arr(h:At A (slc (some ⟨b,0,none⟩) n c 29 1 (arr d)) A' (slc (some ⟨b,0,none⟩) n c 29 1 (arr d))){i:Nat}(hi:i<d.size):Rd1 f A b (i*1) (.int .u64 d[i]!):=
 Rd1.of (i:=0) (Rd.slcElem (vals:=uV) (xs:=d.toList) uV_len jE h (arr_get hi)) rfl
variable {a:Nat} {d0:Array Int}
section
variable (f:Frag) (F:List HP)
theorem nan_fn(x:Int):Fn prog 389 [.int .u64 x] f F (Ret (.bool false) f F):=by
 refine AB func389 ntmps389 fun base=>?_;exact qbY
theorem less_fn(x y:Int):Fn prog 355 [.int .u64 x,.int .u64 y] f F (Ret (.bool (ltInt x y)) f F):=by
 refine A9 func355 ntmps355 fun base=>?_;apply (gG);refine A8 rfl rfl rfl (nan_fn f _ x) ?_;apply (gS);exact qad
theorem insSort_fn(hd0:d0.size=n)(hn:n≤1000000)(hb:b≤n)(ha:a≤n):Fn prog 349 [.slice p n c,.int .i64 (a:Int),.int .i64 (b:Int)] f (slc p n c 29 1 (arr d0)::F) (Ret (.tuple #[]) f (slc p n c 29 1 (arr (insertionSort ltInt d0 a b))::F)):=by
 refine AP func349 ntmps349 fun base=>?_;apply (gD)
 refine AF (ι:=Nat×Array Int) (fun s=>[(6,.int .i64 (s.1:Int)),(0,.slice p n c),(1,.int .i64 (a:Int)),(2,.int .i64 (b:Int))]) (fun _=>f) (fun s=>slc p n c 29 1 (arr s.2)::F)
  (fun s=>s.1≤n+1∧s.2.size=n∧insOuter ltInt a b s.1 s.2=insertionSort ltInt d0 a b) (fun s=>b-s.1) (a+1,d0) ⟨by show a+1≤n+1;omega,hd0,rfl⟩ fun s hs=>?_
 obtain⟨i,d1⟩:=s;obtain⟨hi,hd1,hR⟩:i≤n+1∧d1.size=n∧insOuter ltInt a b i d1=insertionSort ltInt d0 a b:=hs;show H _ _ _ [(6,.int .i64 (i:Int)),_,_,_] f (slc p n c _ 1 (arr d1)::F) _;rw[insOuter]at hR;by_cases hlt:i<b
 ·rw[if_pos hlt]at hR;apply (gN)
  refine AF (ι:=Nat×Array Int) (fun s=>[(7,.int .i64 (s.1:Int)),(6,.int .i64 (i:Int)),(0,.slice p n c),(1,.int .i64 (a:Int)),(2,.int .i64 (b:Int))]) (fun _=>f) (fun s=>slc p n c 29 1 (arr s.2)::F)
   (fun s=>s.1≤i∧s.2.size=n∧insInner ltInt a s.1 s.2=insInner ltInt a i d1) (fun s=>s.1) (i,d1) ⟨Nat.le_refl i,hd1,rfl⟩ fun s hs=>?_
  obtain⟨k,d⟩:=s;obtain⟨hk,hd,hr⟩:k≤i∧d.size=n∧insInner ltInt a k d=insInner ltInt a i d1:=hs;show H _ _ _ [(7,.int .i64 (k:Int)),_,_,_,_] f (slc p n c _ 1 (arr d)::F) _;refine AO (p:=p) (n0:=n) (c:=c) (T:=29) (sz:=1) (xs:=arr d) aP0 jB fun sb hp=>?_;subst hp;by_cases hka:a<k
  ·obtain⟨j,rfl⟩:∃j,k=j+1:=⟨k-1,by omega⟩;rw[insInner]at hr;have hja:decide (j+1>a)=true:=decide_eq_true hka;rw[hja,Bool.true_and]at hr
   apply (qkJ);apply A6 [0,1,2,3,4,5,6,7,8,9,10,11,12] 2;apply (gQ);refine CC (i:=j+1) rfl rfl rfl rfl jB rfl ?_;apply (qhR);apply (gM);apply (qgp);apply (qhR);apply (qdG);apply A7 13;refine A8 rfl rfl rfl (less_fn f _ d[j+1]! d[j]!) ?_;apply (qdE);apply A6 [14] 0;apply (qjc)
   cases hlj:ltInt d[j+1]! d[j]! with
   | false =>
    rw[hlj,if_neg jE]at hr;rw[←hr]at hR;apply (gT);exact qaW
   | true =>
    rw[hlj,if_pos rfl]at hr;apply (gR);refine DW jD jJ jK ?_;apply (qgq);refine DX [0,1,5,6,7,8,9,10,11,12,13] (S:=[slc (some ⟨sb,0,none⟩) n c 29 1 (arr d)]) rfl ?_;apply A6 [0,1,5,6,7,8,9,10,11,12,13] 4;apply (gM);apply (qgp);apply (qhR);apply (gB);apply (qjO);apply (qhR);apply (qhu);refine Cz rfl rfl rfl rfl aP0 (arr_setV jB _) ?_;apply (qkl);refine Cz rfl rfl rfl rfl aP0 (arr_setV (by rw[Array.size_setIfInBounds];omega) _) ?_;apply (qeX);show H _ _ _ _ f (slc (some ⟨sb,0,none⟩) n c _ 1 (arr (swp d (j+1) (j)))::_) _;exact qbX
  ·have hr2:insInner ltInt a k d=d:=by
    cases k with
    |zero=>rfl
    |succ j=>rw[insInner,if_neg jn]
   rw[hr2]at hr;rw[←hr]at hR;apply (qkJ);apply A6 [0,1,2,3,4,5,6,7,8,9,10,11,12] 2;apply (qgO);apply A7 13;apply (qjQ);apply A6 [14] 0;apply (gI);exact qdb
 ·exact qdl
end
open Go.Sort (swp ltInt insInner insOuter insertionSort siftDown heapBuild heapPop heapSort reverseLoop reverseRange scanUp scanDown partLoop partEqLoop scanSorted shiftDown shiftUp partialIns partialInsertionSort)
section
variable (f:Frag) (F:List HP)
end
open Go.Sort (swp ltInt insInner insOuter insertionSort siftDown heapBuild heapPop heapSort reverseLoop reverseRange scanUp scanDown partLoop partEqLoop scanSorted shiftDown shiftUp partialIns partialInsertionSort)
section
variable (f:Frag) (F:List HP)
end
open Go.Sort (swp ltInt insInner insOuter insertionSort siftDown heapBuild heapPop heapSort reverseLoop reverseRange scanUp scanDown partLoop partEqLoop scanSorted shiftDown shiftUp partialIns partialInsertionSort)
open Go.Sort (bitsLen PermIn swp_permIn permIn_trans permIn_refl)
theorem tab8:∀i:Fin 256,Lib.len8tab[i.val]?=some (UInt8.ofNat (bitsLen i.val))∧i.val<2 ^ bitsLen i.val∧(8≤i.val→2 ^ bitsLen i.val≤2*i.val)∧bitsLen i.val≤8:=by decide+kernel
section
variable (f:Frag) (F:List HP)
theorem len64_fn{x:Nat}(hx:x<256):Fn prog 316 [.int .u64 (x:Int)] f F (Ret (.int .i64 (bitsLen x:Nat)) f F):=by
 have ht:=tab8 ⟨x,hx⟩
 have hb:(UInt8.ofNat (bitsLen x)).toNat=bitsLen x:=by
  have:=ht.2.2.2;have:bitsLen x≤8:=this
  exact qcY
 have hb8:bitsLen x≤8:=ht.2.2.2;refine AB func316 ntmps316 fun base=>?_
 apply (gP);refine FI (s:=Lib.len8tab) (i:=x) rfl jD rfl rfl ht.1 rfl ?_;rw[hb];apply (gD);refine AE rfl rfl iD ⟨?_,rfl,rfl⟩;first|rfl|(congr 1;omega)
theorem len_fn{x:Nat}(hx:x<256):Fn prog 260 [.int .u64 (x:Int)] f F (Ret (.int .i64 (bitsLen x:Nat)) f F):=by
 have h:=fun G=>len64_fn f G hx;refine AB func260 ntmps260 fun base=>?_
 apply (gE);apply A5 (h _);apply (gK);exact qad
end
open Go.Sort (bitsLen PermIn SortedIn swp insInner insOuter insertionSort insertionSort_holds SWO)
def iV(z:Int):List Value:=[.int .i64 z]
theorem iV_len(z:Int):(iV z).length=1:=rfl
def gtI(x y:Int):Bool:=decide (y<x)
def arrI(d:Array Int):List Value:=d.toList.flatMap iV
theorem arrI_map(d:Array Int):arrI d=d.toList.map fun z=>.int .i64 z:=by
 unfold arrI
 induction d.toList with
 |nil=>rfl
 |cons x r ih=>rw[List.flatMap_cons,ih];rfl
theorem arrI_setV{i:Nat}(h:i<d.size)(z:Int):SetV (arrI d) (i*1) (.int .i64 z) (arrI (d.setIfInBounds i z)):=by
 rw[Nat.mul_one,arrI_map,arrI_map,Array.toList_setIfInBounds,List.map_set];exact SetV.mk _ (by rw[List.length_map];simpa using h)
theorem Rd.arrI(h:At A (slc (some ⟨b,0,none⟩) n c 3 1 (arrI d)) A' (slc (some ⟨b,0,none⟩) n c 3 1 (arrI d))){i:Nat}(hi:i<d.size):Rd1 f A b (i*1) (.int .i64 d[i]!):=
 Rd1.of (i:=0) (Rd.slcElem (vals:=iV) (xs:=d.toList) iV_len jE h (arr_get hi)) rfl
def cmpI(x y:Int):Int:=if y<x then-1 else if x<y then 1 else 0
variable {xs:List Int} {lim:Int}
section
variable (f:Frag) (F:List HP)
theorem nanI_fn(x:Int):Fn prog 261 [.int .i64 x] f F (Ret (.bool false) f F):=by
 refine AB func261 ntmps261 fun base=>?_;exact qbY
theorem compareI_fn(x y:Int):Fn prog 196 [.int .i64 y,.int .i64 x] f F (Ret (.int .i64 (cmpI x y)) f F):=by
 refine A9 func196 ntmps196 fun base=>?_;apply (gG);refine A8 rfl rfl rfl (nanI_fn f _ y) ?_;apply (gG);refine A8 rfl rfl rfl (nanI_fn f _ x) ?_;by_cases h1:y<x
 ·have e:cmpI x y= -1:=by unfold cmpI;rw[if_pos h1]
  exact qdm
 ·by_cases h2:x<y
  ·have e:cmpI x y=1:=by unfold cmpI;rw[if_neg h1,if_pos h2]
   exact qdm
  ·have e:cmpI x y=0:=by unfold cmpI;rw[if_neg h1,if_neg h2]
   exact qdm
theorem cmpC_fn(x y:Int):Fn prog 195 [.int .i64 x,.int .i64 y] f F (Ret (.int .i64 (cmpI x y)) f F):=by
 refine A9 func195 ntmps195 fun base=>?_;apply (gG);refine A8 rfl rfl rfl (compareI_fn f _ x y) ?_;apply (gK);exact qad
theorem cmpI_lt(x y:Int):decide (cmpI x y<0)=gtI x y:=by
 unfold cmpI gtI;by_cases h:y<x
 ·rw[if_pos h,decide_eq_true h];rfl
 ·rw[if_neg h,decide_eq_false h];split<;>rfl
def cmpV:Value:=.func (.func 195) #[] #[]
theorem insSortC_fn(hd0:d0.size=n)(hn:n≤1000000)(hb:b≤n)(ha:a≤n):Fn prog 307 [.slice p n c,.int .i64 (a:Int),.int .i64 (b:Int),cmpV] f (slc p n c 3 1 (arrI d0)::F) (Ret (.tuple #[]) f (slc p n c 3 1 (arrI (insertionSort gtI d0 a b))::F)):=by
 refine BK func307 ntmps307 fun base=>?_;apply (gD)
 refine AF (ι:=Nat×Array Int) (fun s=>[(8,.int .i64 (s.1:Int)),(0,.slice p n c),(1,.int .i64 (a:Int)),(2,.int .i64 (b:Int)),(3,cmpV)]) (fun _=>f) (fun s=>slc p n c 3 1 (arrI s.2)::F)
  (fun s=>s.1≤n+1∧s.2.size=n∧insOuter gtI a b s.1 s.2=insertionSort gtI d0 a b) (fun s=>b-s.1) (a+1,d0) ⟨by show a+1≤n+1;omega,hd0,rfl⟩ fun s hs=>?_
 obtain⟨i,d1⟩:=s;obtain⟨hi,hd1,hR⟩:i≤n+1∧d1.size=n∧insOuter gtI a b i d1=insertionSort gtI d0 a b:=hs;show H _ _ _ [(8,.int .i64 (i:Int)),_,_,_,_] f (slc p n c _ 1 (arrI d1)::F) _;rw[insOuter]at hR;by_cases hlt:i<b
 ·rw[if_pos hlt]at hR;apply (gN)
  refine AF (ι:=Nat×Array Int) (fun s=>[(9,.int .i64 (s.1:Int)),(8,.int .i64 (i:Int)),(0,.slice p n c),(1,.int .i64 (a:Int)),(2,.int .i64 (b:Int)),(3,cmpV)]) (fun _=>f) (fun s=>slc p n c 3 1 (arrI s.2)::F)
   (fun s=>s.1≤i∧s.2.size=n∧insInner gtI a s.1 s.2=insInner gtI a i d1) (fun s=>s.1) (i,d1) ⟨Nat.le_refl i,hd1,rfl⟩ fun s hs=>?_
  obtain⟨k,d⟩:=s;obtain⟨hk,hd,hr⟩:k≤i∧d.size=n∧insInner gtI a k d=insInner gtI a i d1:=hs;show H _ _ _ [(9,.int .i64 (k:Int)),_,_,_,_,_] f (slc p n c _ 1 (arrI d)::F) _;refine AO (p:=p) (n0:=n) (c:=c) (T:=3) (sz:=1) (xs:=arrI d) aP0 jB fun sb hp=>?_;subst hp;by_cases hka:a<k
  ·obtain⟨j,rfl⟩:∃j,k=j+1:=⟨k-1,by omega⟩;rw[insInner]at hr;have hja:decide (j+1>a)=true:=decide_eq_true hka;rw[hja,Bool.true_and]at hr
   apply (qkJ);apply A6 [0,1,2,3,4,5,6,7,8,9,10,11,12,13] 3;apply (gQ);refine CC (i:=j+1) rfl rfl rfl rfl jB rfl ?_;apply (qhM);apply (gM);apply (qgp);apply (qhM);apply (qdG);apply A7 14;refine BM (fs:=[]) (cs:=[]) rfl rfl rfl rfl (cmpC_fn f _ d[j+1]! d[j]!) ?_;apply (qdE);have hc:=cmpI_lt d[j+1]! d[j]!
   cases hlj:gtI d[j+1]! d[j]! with
   | false =>
    rw[hlj]at hc;rw[hlj,if_neg jE]at hr;rw[←hr]at hR;have hc:=of_decide_eq_false hc;generalize cmpI d[j+1]! d[j]! =cz at hc⊢
    apply A6 [15,16] 0;apply (qjc);apply (gP);exact qaW
   | true =>
    rw[hlj]at hc;rw[hlj,if_pos rfl]at hr;have hc:=of_decide_eq_true hc;generalize cmpI d[j+1]! d[j]! =cz at hc⊢
    apply A6 [15,16] 0;apply (qjc);apply (gN);refine DW jD jJ (by with_reducible (repeat(first|exact zaw|refine zaq ?_|refine zat ?_|refine zbh ?_))) ?_;apply (qgq);refine DX [0,1,5,6,7,8,9,10,11,12,13] (S:=[slc (some ⟨sb,0,none⟩) n c 3 1 (arrI d)]) rfl ?_;apply A6 [0,1,5,6,7,8,9,10,11,12,13] 4;apply (gM);apply (qgp);apply (qhM);apply (gB);apply (qjO);apply (qhM);apply (qhu);refine Cz rfl rfl rfl rfl aP0 (arrI_setV jB _) ?_;apply (qkl);refine Cz rfl rfl rfl rfl aP0 (arrI_setV (by rw[Array.size_setIfInBounds];omega) _) ?_;apply (qeX);show H _ _ _ _ f (slc (some ⟨sb,0,none⟩) n c _ 1 (arrI (swp d (j+1) (j)))::_) _;exact qbX
  ·have hr2:insInner gtI a k d=d:=by
    cases k with
    |zero=>rfl
    |succ j=>rw[insInner,if_neg jn]
   rw[hr2]at hr;rw[←hr]at hR;apply (qkJ);apply A6 [0,1,2,3,4,5,6,7,8,9,10,11,12,13] 3;apply (qgO);apply A7 14;apply (qjQ);apply A6 [15,16] 0;apply (gQ);exact qdb
 ·exact qdl
theorem swo_gtI:SWO gtI:=⟨fun x=>decide_eq_false (Int.lt_irrefl x),fun x y z h1 h2=>by
  have h1:=of_decide_eq_true h1
  have h2:=of_decide_eq_true h2
  exact decide_eq_true jB,fun x y z h1 h2=>by
  have h1:=of_decide_eq_false h1
  have h2:=of_decide_eq_false h2
  exact decide_eq_false jB⟩
theorem insC_ok(hx:xs.length=n):(insertionSort gtI xs.toArray 0 n).toList.Perm xs∧(insertionSort gtI xs.toArray 0 n).toList.Pairwise (fun a b=>b≤a):=by
 have e:xs.toArray.size=n:=by simpa using hx
 obtain⟨h1,h2⟩:=insertionSort_holds (lt:=gtI) swo_gtI xs.toArray 0 n (Nat.zero_le _) jB;generalize insertionSort gtI xs.toArray 0 n=d at h1 h2;have hdn:d.size=n:=h1.1.trans e;refine⟨?_,?_⟩
 ·have h3:=h1.2.2;have e1:d.extract 0 n=d:=by rw[←hdn];exact Array.extract_size
  have e2:xs.toArray.extract 0 n=xs.toArray:=by rw[←e];exact Array.extract_size
  rw[e1,e2]at h3;exact h3
 ·rw[List.pairwise_iff_getElem];intro i j hi hj hij;have hi':i<d.size:=by simpa using hi
  have hj':j<d.size:=by simpa using hj
  have h3:=h2 i j (Nat.zero_le _) hij jB;rw[getElem!_pos d i hi',getElem!_pos d j hj']at h3
  have h3:=of_decide_eq_false h3;simp only[Array.getElem_toList]
  omega
theorem pdqC_fn(hd0:d0.size=n)(hn:n≤12):Fn prog 259 [.slice p n c,.int .i64 0,.int .i64 (n:Int),.int .i64 lim,cmpV] f (slc p n c 3 1 (arrI d0)::F) (Ret (.tuple #[]) f (slc p n c 3 1 (arrI (insertionSort gtI d0 0 n))::F)):=by
 have hi:=insSortC_fn f F (p:=p) (n:=n) (c:=c) (a:=0) (b:=n) hd0 jB (Nat.le_refl _) (Nat.zero_le _);refine DD func259 ntmps259 fun base=>?_
 apply (gK);refine AF (ι:=Unit) (fun _=>[(0,.slice p n c),(1,.int .i64 0),(2,.int .i64 (n:Int)),(3,.int .i64 lim),(4,cmpV)]) (fun _=>f) (fun _=>slc p n c 3 1 (arrI d0)::F) (fun _=>True) (fun _=>0) () trivial fun s _=>?_;exact qbu
theorem sortD_fn(hx:xs.length=n)(hn:n≤12):Fn prog 194 [.slice p n c,cmpV] f (slc p n c 3 1 (xs.flatMap iV)::F)
   (fun v f' A'=>∃ys:List Int,ys.Perm xs∧ys.Pairwise (fun a b=>b≤a)∧v= .tuple #[]∧f'=f∧A'=slc p n c 3 1 (ys.flatMap iV)::F):=by
 have hl:=fun G=>len_fn f G (x:=n) jB;have hs:=pdqC_fn f F (p:=p) (n:=n) (c:=c) (lim:=(bitsLen n:Nat)) (d0:=xs.toArray) kR hn
 obtain⟨h1,h2⟩:=insC_ok hx;show Fn _ _ _ f (slc p n c 3 1 (arrI xs.toArray)::F) _;refine A9 func194 ntmps194 fun base=>?_;apply (gD);apply A5 (hl _);apply (gG);refine A8 rfl rfl rfl hs ?_;apply (gA);exact BA rfl iD ⟨_,h1,h2,rfl,rfl,rfl⟩
end
open Go.Sort (bitsLen)
theorem beq_ba(a b:ByteArray):(a == b)=decide (a=b):=by
 rw[beq_toListBytes,ByteArray.toList_eq,ByteArray.toList_eq,Bool.eq_iff_iff];obtain⟨⟨x⟩⟩:=a;obtain⟨⟨y⟩⟩:=b;simp
abbrev keyS(s:ByteArray):Value:=.string s
theorem keyT_str{P:Program}{kt:TypeId}(hu:Und P kt .string):KeyT P kt keyS where
 chk:=fun k e w=>by
  have h:∀m,(Instr.checkKey e (m+1) kt (.string k)).run P w= .ok () w:=fun m=>by
   simp[Instr.checkKey,hu.run]
  exact h 9999
 same:=fun k=>by
  have:∀m,Instr.sameBits m (.string k) (.string k)=true:=fun m=>by cases m<;>simp[Instr.sameBits,beq_ba]
  exact this 10000
 fnd:=fun k es ks w h=>by
  have key:∀(es:List MapEntry) (ks:List ByteArray) (j:Nat),es.map (·.key)=ks.map keyS→
    Instr.findNow .string (.string k) es j=some ((ks.findIdx? (k= ·)).bind fun i=>(es[i]?).map fun e=>(j+i,e.val)):=by
   intro es
   induction es with
   |nil=>intro ks j h;cases ks<;>simp at h;simp[Instr.findNow]
   | cons e r ih =>
    intro ks j h
    cases ks with
    |nil=>simp at h
    | cons k' ks =>
     simp only[List.map_cons,List.cons.injEq]at h;simp only[Instr.findNow,h.1,Instr.sameNow,List.findIdx?_cons,beq_ba];by_cases c:k=k'
     ·simp[c]
     ·simp only[c,ih ks (j+1) h.2,decide_false,Bool.false_eq_true,if_false]
      cases ks.findIdx? (k= ·)with
      |none=>simp
      |some i=>simp[Nat.add_assoc,Nat.add_comm 1]
  unfold Instr.findKey
  have:=key es ks 0 h
  simp only[Nat.zero_add]at this
  simp only[Sem.run_bind,hu.run,Result.andThen_ok,this,Sem.run_pure]
instance:KeyT prog 9 keyS:=keyT_str ⟨underlying9⟩
def chr1(x:UInt8):ByteArray:=⟨#[x]⟩
def opL(x y:UInt8):List Value:=[.int .u8 2,.string (chr1 x),.string (chr1 y),.string .empty,.string .empty,.int .u64 0]
def rpl0:List Value:=[.int .i64 0,.string .empty]
def itV(x y:UInt8):List Value:=[.string (chr1 x),.string (chr1 y)]
def ledM(x:UInt8):Option UInt8→List (ByteArray×Value)
 |none=>[]
 |some y=>[(chr1 x,.string (chr1 y))]
theorem ledM_get(x:UInt8)(o:Option UInt8):(getKV (ledM x o) (chr1 x)).isSome=o.isSome:=by
 cases o<;>simp[ledM,getKV]
theorem ledM_was(x:UInt8)(o:Option UInt8):∃v,(getKV (ledM x o) (chr1 x)).getD (.string .empty)= .string v:=by
 cases o with
 |none=>exact⟨_,rfl⟩
 |some y=>exact⟨chr1 y,by simp[ledM,getKV]⟩
theorem ledM_put(x y:UInt8)(o:Option UInt8):putKV (ledM x o) (chr1 x) (.string (chr1 y))=ledM x (some y):=by
 cases o<;>simp[ledM,putKV]
theorem ledM_len(x:UInt8)(o:Option UInt8):(ledM x o).length≤1:=by cases o<;>simp[ledM]
def ledB(lb:Nat)(x:UInt8)(o:Option UInt8)(mb:Nat):List HP:=[row lb 397 [.map (some mb)],mp mb keyS (ledM x o)]
def ledH(lb:Nat)(x:UInt8)(o:Option UInt8):HP:=pack (fun _=>True) (ledB lb x o)
variable {o:Option UInt8}
theorem led_fold{x:UInt8}(mb:Nat):∀z,stars (ledB lb x o mb++F) z→stars (ledH lb x o::F) z:=zap mb trivial
section rules
variable {P:Program} {base:World} {n:Nat} {L:Env} {f:Frag} {A:List HP} {q:Post}
variable {l rest:List Oper} {d:Nat} {ty:TypeId} {pos:String} {af:Array Edge} {gd:Option (Nat × Bool)}
theorem FJ{x:Operand}{t:ByteArray}{b:Bool}(hw:want? l L gd=true)(hx:ev? L x=some (.string s))(hy:ev? L y=some (.string t))(hb:(Op.bytesLess s.toList t.toList||s.toList == t.toList)=b)(hd:Nat.ble (d+1) n=true)
  (kk:H P base n ((d,.bool b)::L) f A (.ops l rest q)):H P base n L f A (.ops l (⟨some d,.binOp .leq xt x y yt,ty,pos,af,gd⟩::rest) q):=
 AK hw hd (fun a w hf _=>by
  subst hb
  simp[execOp,eqGuard,binOp,Op.stringOp,hf.eval hx,hf.eval hy]) kk
end rules
variable {mb:Nat}
section
variable (f:Frag) (F:List HP)
theorem keyed_fn(x:UInt8):Fn prog 236 [.string (chr1 x)] f F (Ret (.bool true) f F):=by
 refine AB func236 ntmps236 fun base=>?_;apply (gG);refine EP (c:=true) rfl rfl rfl rfl (by simp[ByteArray.toList_eq,chr1]) rfl ?_;apply (gJ);exact qad
theorem valued_fn(s:ByteArray)(hs:s.size≤1):Fn prog 237 [.string s] f F (Ret (.bool true) f F):=by
 have h:=decide_eq_true (show(s.size:Int)≤128 by omega);refine AB func237 ntmps237 fun base=>?_
 apply (gN);exact qcq
theorem lmay_fn(x y:UInt8):Fn prog 166 [.agg (opL x y).toArray] f F (Ret (.bool true) f F):=by
 refine AB func166 ntmps166 fun base=>?_;refine (qkr) fun tb=>?_;apply (gT);refine AJ (ls:=[.int .u8 0,.string .empty,.string .empty,.string .empty,.string .empty,.int .u64 0]) rfl rfl rfl fun ob=>?_;refine AC (ls:=[.int .u8 0,.string .empty,.string .empty,.string .empty,.string .empty,.int .u64 0]) (vs:=[.int .u8 2,.string (chr1 x),.string .empty,.string .empty,.string .empty,.int .u64 0]) (ls':=[.int .u8 2,.string (chr1 x),.string .empty,.string .empty,.string .empty,.int .u64 0]) rfl rfl rfl (zaa rfl) rfl rfl (Nat.le_refl 6) aP0 ?_;apply (gS);apply (qix);apply (qix);refine Cr (D:=3) (xs:=opL x y) (ys:=opL x y) (b:=true) rfl rfl rfl rfl jD jD jD jD jE (by simp[opL,eqC,eqv,beq_ba]) rfl ?_;apply (gO);refine A8 rfl rfl rfl (keyed_fn f _ x) ?_;apply (gL);refine A8 rfl rfl rfl (valued_fn f _ (chr1 y) (Nat.le_refl 1)) ?_;apply (gL);refine A8 rfl rfl rfl (valued_fn f _ .empty (Nat.zero_le 1)) ?_;apply (gJ);apply (qgT);exact qbs
theorem lby_fn:Fn prog 416 [.int .u8 2] f F (Ret (.func (.func 422) #[] #[]) f F):=by
 refine AB func416 ntmps416 fun base=>?_;apply (gP);exact qad
theorem ledNew_fn(x:UInt8):Fn prog 200 [] f F (RetE (fun lb:Nat=>.pointer (some ⟨lb,0,none⟩)) f (fun lb=>ledH lb x none::F)):=by
 refine BX func200 ntmps200 fun base=>?_;apply (gG);refine H.makeMap keyS rfl rfl fun mb=>?_;apply (gJ);refine H.box (ls:=[.map (some mb)]) rfl rfl rfl rfl fun lb=>?_;apply (gK);refine H.imp (led_fold (o:=none) (x:=x) mb) ?_;exact AU ⟨lb,rfl,rfl,rfl⟩
theorem lfull_fn{x:UInt8}:Fn prog 427 [.pointer (some ⟨lb,0,none⟩),.string (chr1 x)] f (ledB lb x o mb++F) (Ret (.bool false) f (ledB lb x o mb++F)):=by
 obtain⟨v,hv⟩:=ledM_was x o;show Fn _ _ _ f (row _ _ _::mp _ _ _::F) _;have hl:=ledM_len x o;refine A9 func427 ntmps427 fun base=>?_
 apply (gO);refine Dw (enc:=keyS) (k:=chr1 x) rfl rfl rfl jA rfl hv (ledM_get x o) rfl ?_
 cases o with
 | none =>
  repeat(first|(refine H.not (b:=false) (c:=true) rfl rfl rfl rfl ?_)|(refine Ex (enc:=keyS) rfl rfl jA rfl ?_)|(apply (gU)))
  exact qad
 | some y =>
  exact qcC
theorem lput_fn{x y:UInt8}(w:ByteArray):Fn prog 422 [.pointer (some ⟨lb,0,none⟩),.agg (opL x y).toArray,.string w] f (ledB lb x o mb++F) (Ret (.agg rpl0.toArray) f (ledB lb x (some y) mb++F)):=by
 have hf:=fun G=>lfull_fn (lb:=lb) (mb:=mb) (x:=x) (o:=o) f G;have hp:=ledM_put x y o
 show Fn _ _ _ f (row _ _ _::mp _ _ _::F) _;refine AP func422 ntmps422 fun base=>?_;refine (qkr) fun tb=>?_;refine (qiS) fun rb=>?_;apply (gO);apply A3 (mp mb _ _);apply (qeh);apply A5 (hf _);show H _ _ _ _ _ (row _ _ _::mp _ _ _::_) _;apply (gE);apply (qjN);refine CN (enc:=keyS) (k:=chr1 x) rfl rfl rfl rfl jA rfl ?_;rw[hp];apply (gJ);apply (qgH);apply (gK);apply (qeG);apply (qdH);exact BS (ls:=rpl0) rfl rfl rfl (Rd.ofRow aP0) rfl (fun _ s=>s.drop (.here _ _)) ⟨rfl,rfl,rfl⟩
theorem ldo_fn{x y:UInt8}:Fn prog 399 [.pointer (some ⟨lb,0,none⟩),.agg (opL x y).toArray] f (ledH lb x o::F) (Ret (.agg rpl0.toArray) f (ledH lb x (some y)::F)):=by
 obtain⟨v,hv⟩:=ledM_was x o;have hp:=fun G mb=>lput_fn (lb:=lb) (mb:=mb) (x:=x) (y:=y) (o:=o) f G v;refine (qfu) fun mb _=>?_
 show Fn _ _ _ f (row _ _ _::mp _ _ _::F) _;refine A9 func399 ntmps399 fun base=>?_;refine (qkr) fun tb=>?_;refine (qiS) fun rb=>?_;apply (gR);apply (qix);refine A8 rfl rfl rfl (lmay_fn f _ x y) ?_;apply (qdI);refine BB ?_;repeat(first|(refine D7 (enc:=keyS) (k:=chr1 x) rfl rfl rfl jA rfl hv (ledM_get x o) rfl ?_)|(apply (gV)))
 apply (gO)
 cases o with
 | none =>
  exact qar
 | some z =>
  exact qar
end
open Go.Sort (bitsLen)
def itL(x:UInt8):Option UInt8→List Value
 |none=>[]
 |some y=>itV x y
def oc:Option UInt8→Nat
 |none=>0
 |some _=>1
theorem oc_le(o:Option UInt8):oc o≤1:=by cases o<;>simp[oc]
def cmpItV:Value:=.func (.func 377) #[] #[]
section
variable (f:Frag) (F:List HP)
theorem insIt_fn(hn:n≤1):Fn prog 406 [.slice p n c,.int .i64 0,.int .i64 (n:Nat),cmpItV] f F (Ret (.tuple #[]) f F):=by
 refine BK func406 ntmps406 fun base=>?_;apply (gD);refine AF (ι:=Unit) (fun _=>[(8,.int .i64 1),(0,.slice p n c),(1,.int .i64 0),(2,.int .i64 (n:Nat)),(3,cmpItV)]) (fun _=>f) (fun _=>F) (fun _=>True) (fun _=>0) () trivial fun s _=>?_;apply (gN);exact qan
theorem pdqIt_fn(hn:n≤1):Fn prog 397 [.slice p n c,.int .i64 0,.int .i64 (n:Nat),.int .i64 lim,cmpItV] f F (Ret (.tuple #[]) f F):=by
 have hi:=insIt_fn f F (p:=p) (c:=c) hn;refine DD func397 ntmps397 fun base=>?_
 apply (gK);refine AF (ι:=Unit) (fun _=>[(0,.slice p n c),(1,.int .i64 0),(2,.int .i64 (n:Nat)),(3,.int .i64 lim),(4,cmpItV)]) (fun _=>f) (fun _=>F) (fun _=>True) (fun _=>0) () trivial fun s _=>?_;exact qbu
theorem sortIt_fn(hn:n≤1):Fn prog 376 [.slice p n c,cmpItV] f F (Ret (.tuple #[]) f F):=by
 have hl:=fun G=>len_fn f G (x:=n) jB;have hs:=pdqIt_fn f F (p:=p) (n:=n) (c:=c) (lim:=(bitsLen n:Nat)) hn
 refine A9 func376 ntmps376 fun base=>?_;apply (gD);apply A5 (hl _);apply (gG);refine A8 rfl rfl rfl hs ?_;apply (gA);exact qan
theorem llist_fn{x:UInt8}:Fn prog 341 [.pointer (some ⟨lb,0,none⟩)] f (ledH lb x o::F)
  (fun u g B=>∃(p:Option Addr) (c:Nat),u= .slice p (oc o) c∧g=f∧B=slc p (oc o) c 473 2 (itL x o)::ledH lb x o::F):=by
 refine (qfu) fun mb _=>?_;refine Fn.front (x:=mp _ _ _) (.there _ (.here _ _)) ?_;refine DZ fun es clock hes=>?_;have hfold:=fun(p:Option Addr) (c:Nat)=>led_fold (lb:=lb) (x:=x) (o:=o) (F:=F) mb;refine AB func341 ntmps341 fun base=>?_
 apply (gT);refine (qhJ) fun rb=>?_;apply (gK);refine AY 473 2 ?_
 refine AF (ι:=Bool×Option Addr×Nat) (fun i=>[(11,.pointer (some ⟨rb,0,none⟩)),(0,.pointer (some ⟨lb,0,none⟩)),(2,.slice i.2.1 (bif i.1 then 1 else 0) i.2.2)]) (fun _=>f)
  (fun i=>slc i.2.1 (bif i.1 then 1 else 0) i.2.2 473 2 (bif i.1 then itL x o else [])::itr rb mb es clock (bif i.1 then [chr1 x]else [])::mpS mb keyS es clock::row lb 397 [.map (some mb)]::F)
  (fun i=>i.1=true→o.isSome=true) (fun i=>bif i.1 then 0 else 1) (false,none,0) (fun h=>by cases h) fun i hi=>?_
 obtain⟨dn,p,c⟩:=i;have hi:dn=true→o.isSome=true:=hi;show H _ _ _ [_,_,(2,.slice p (bif dn then 1 else 0) c)] _ (slc p (bif dn then 1 else 0) c _ 2 (bif dn then itL x o else [])::itr rb mb es clock (bif dn then [chr1 x]else [])::_) _
 apply (gA);refine H.next rfl rfl jA jA (fun _=>jA) rfl (fun hend=>?_) (fun e he hns=>?_)
 ·have hn:(bif dn then 1 else 0)=oc o∧(bif dn then itL x o else [])=itL x o:=by
   cases dn with
   | true =>
    cases o with
    |none=>exact absurd (hi rfl) jI
    |some y=>exact⟨rfl,rfl⟩
   | false =>
    cases o with
    |none=>exact⟨rfl,rfl⟩
    | some y =>
     cases es with
     |nil=>cases hes
     |cons e r=>exact absurd (hend e List.mem_cons_self) jI
  rw[hn.1,hn.2];clear hend hn hi;have hol:=oc_le o;apply (gR)
  refine A8 rfl rfl rfl (sortIt_fn f _ hol) ?_;apply (gK);apply A4 (itr _ _ _ _ _);apply (qfM);rw[hes];apply (qeh);refine H.imp (led_fold mb) ?_;apply (qeO);exact qbf
 ·have hz:dn=false:=by
   cases dn with
   |false=>rfl
   | true =>
    obtain⟨y,hy⟩:=Option.isSome_iff_exists.1 (hi rfl);subst hy;have h1:kvOf e∈ledM x (some y):=hes▸List.mem_map_of_mem he;have h2:e.1=chr1 x:=congrArg Prod.fst (List.mem_singleton.1 h1)
    rw[h2]at hns;exact absurd List.mem_cons_self hns
  subst hz
  obtain⟨y,hy,h1⟩:∃y,o=some y∧kvOf e=(chr1 x,.string (chr1 y)):=by
   have h1:kvOf e∈ledM x o:=hes▸List.mem_map_of_mem he
   cases o with
   |none=>cases h1
   |some y=>exact⟨y,rfl,List.mem_singleton.1 h1⟩
  have hk:e.1=chr1 x:=congrArg Prod.fst h1;have hv:e.2.1= .string (chr1 y):=congrArg Prod.snd h1
  apply (qgo);rw[hk,hv];subst hy;apply (gS);refine AS (out:=itV x y) rfl rfl rfl rfl jE jE jD rfl fun eb=>?_;refine AQ (sz:=2) (p:=p) (n0:=0) (c:=c) (xs:=[]) (m:=1) (news:=itV x y) rfl rfl rfl rfl rfl (fun p' c'=>jA) (Src.slice (Rd.ofRow jA) rfl) (zaa rfl) rfl jB jB fun p2 c2=>?_;apply (gK);apply (qeZ);apply A3 (itr _ _ _ _ _);apply (qeO);exact AI (true,p2,c2) (fun _=>rfl) (Nat.lt_succ_self 0)
theorem lof_fn{x:UInt8}:Fn prog 337 [.slice p (oc o) c] f (slc p (oc o) c 473 2 (itL x o)::F)
  (RetE (fun lb:Nat=>.tuple #[.pointer (some ⟨lb,0,none⟩),.int .i64 0]) f (fun lb=>ledH lb x o::slc p (oc o) c 473 2 (itL x o)::F)):=by
 have hol:=oc_le o;refine AB func337 ntmps337 fun base=>?_
 apply (gG);refine AW rfl rfl rfl (ledNew_fn f _ x) fun lb=>?_;refine AM fun mb _=>?_;show H _ _ _ _ _ (row _ _ _::mp _ _ _::slc _ _ _ _ _ _::F) _;apply (gK)
 refine AF (ι:=Nat) (fun i=>[(11,.int .i64 (i:Nat)),(9,.slice p (oc o) c),(10,.int .i64 (oc o:Nat)),(4,.pointer (some ⟨lb,0,none⟩)),(5,.string (bif i == 0 then .empty else chr1 x)),(0,.slice p (oc o) c)]) (fun _=>f)
  (fun i=>row lb 397 [.map (some mb)]::mp mb keyS (ledM x (bif i == 0 then none else o))::slc p (oc o) c 473 2 (itL x o)::F)
  (fun i=>i≤oc o) (fun i=>1-i) 0 (Nat.zero_le _) fun i hi=>?_
 have hi:i≤oc o:=hi;by_cases hlt:i<oc o
 ·have e0:i=0:=jB
  subst e0
  obtain⟨y,rfl⟩:∃y,o=some y:=by
   cases o with
   |none=>exact absurd hlt (by simp[oc])
   |some y=>exact⟨y,rfl⟩
  show H _ _ _ [_,(9,.slice p 1 c),(10,.int .i64 1),_,(5,.string .empty),_] _ (row _ _ _::mp mb keyS (ledM x none)::slc p 1 c _ 2 (itV x y)::F) _;refine AO jA jB fun pb hp=>?_;subst hp;refine (qfF) fun ib=>?_;apply (qib);refine A8 rfl rfl rfl (keyed_fn f _ x) ?_;apply (qdI);refine A8 rfl rfl rfl (valued_fn f _ (chr1 y) (Nat.le_refl 1)) ?_;apply (qdI);refine FJ (b:=false) rfl rfl rfl (by simp[ByteArray.toList_eq,chr1,Op.bytesLess]) rfl ?_;apply (gR);apply (qeh);apply (qfy);apply (qex);apply A6 [0,1,2,3,4,5,6,7,8,9] 4;apply (qdX);apply (qke);refine H.mapEntry (enc:=keyS) (k:=chr1 x) rfl rfl rfl (fun st=>jA) rfl rfl fun st=>?_;apply (qdE);apply A6 [11] 2;apply (qjG);refine H.entryStore rfl rfl rfl rfl jA ?_;rw[show putKV (putKV (ledM x none) (chr1 x) ((getKV (ledM x none) (chr1 x)).getD (Value.string ByteArray.empty))) (chr1 x) (.string (chr1 y))=ledM x (some y) by simp[ledM,putKV]];apply (qdE);apply (qkb);exact qdn
 ·have e0:(bif i == 0 then none else o)=o:=by
   cases o with
   |none=>cases i == 0<;>rfl
   | some y =>
    exact qd
  rw[e0];apply (gN);refine H.imp (led_fold mb) ?_;exact qco
end
variable {dT sT:TypeId} {dl:Nat} {xv:Value}
section rules
variable {P:Program} {base:World} {n:Nat} {L:Env} {f:Frag} {A:List HP} {q:Post}
variable {l rest:List Oper} {d:Nat} {ty:TypeId} {pos:String} {af:Array Edge} {gd:Option (Nat × Bool)}
theorem run_copy_ownZ{w:World}{elem:TypeId}{o dc:Nat}{cur:Array Value}(hu:Und P dT (.slice elem))(hs:Siz P elem sz)
  (hg:w.heap[b]?=some (.cells cur T (0,0))) (hlen:(Builtin.lenOf xv).run P w= .ok m w) (hcs:(Builtin.firstCells sz (Nat.min m dl) xv).run P w= .ok cs.toArray w) (hfit:o+cs.length≤cur.size) (h1:∀v∈cs,v.oneCell'=true) :
  (Builtin.copy_ #[dT,sT] ty #[.slice (some ⟨b,o,none⟩) dl dc,xv]).run P w= .ok (goInt (Nat.min m dl)) (w.setRow b (cur.toList.take o++cs++cur.toList.drop (o+cs.length)).toArray):=by
 have hst:=run_storeCells_at P b o T cs 0 cur w hg ju h1;simp only[Nat.add_zero]at hst
 exact qdj
theorem FK{e:TypeId}{x:Operand}{o dc k0:Nat}{ls ls':List Value}[hu:Und P dT (.slice e)][hs:Siz P e sz](hw:want? l L gd=true)(hd:Nat.ble (d+1) n=true)
  (hx:ev? L x=some (.slice (some ⟨b,o,none⟩) dl dc)) (hy:ev? L y=some xv) (hlen:∀w,(Builtin.lenOf xv).run P w= .ok m w) (hk:Nat.min m dl=k0) (hcs:∀base w,Sat base w f A→(Builtin.firstCells sz k0 xv).run P w= .ok cs.toArray w)
  (hset:splice ls o cs=ls') (hfit:o+cs.length≤ls.length) (h1:∀v∈cs,one v=true) (hA:At A (row b T ls) A' (row b T ls'))
  (k:H P base n ((d,.int .i64 (k0:Nat))::L) f A' (.ops l rest q)):H P base n L f A (.ops l (⟨some d,.call ⟨.builtin .copy,#[x,y],#[dT,sT]⟩,ty,pos,af,gd⟩::rest) q):=
 C0 (ι:=Unit) (fun _=>.int .i64 (k0:Nat)) (fun _=>f) (fun _=>A') (fun _=>True) hw hd (fun a w hfr s'=>by
  subst hset;subst hk
  have hb:=s'.got hA
  have hr:=run_copy_ownZ (P:=P) (ty:=ty) (sT:=sT) (dc:=dc) hu hs hb (hlen w) (hcs base w s') ju (fun v hv=>by rw[one_eq];exact h1 v hv)
  refine⟨(),_,trivial,run_builtin_copy jQ,?_⟩
  exact s'.set hA rfl rfl rfl (setRow_is hb)) (fun _ _=>k)
end rules
def yv(a:Nat):UInt8:=UInt8.ofNat (48+a)
def qreq(x:UInt8)(a:Nat)(τ:Nat→UInt8):Req:=⟨(a:Nat),1,2,chr1 x,chr1 (yv a),.empty,.empty,0,τ⟩
def reqL(x:UInt8)(a:Nat)(τ:Nat→UInt8):List Value:=[.int .i64 (a:Nat),.int .u64 1,.int .u8 2,.string (chr1 x),.string (chr1 (yv a)),.string .empty,.string .empty,.int .u64 0]++b32 τ
def ledO(j:Nat):Option UInt8:=if j=0 then none else some (yv j)
def lastV(b:Bool):List Value:=[.int .u64 (bif b then 1 else 0),.int .i64 0,.string .empty]
theorem lastV_len(b:Bool):(lastV b).length=3:=rfl
theorem lastV_one(b:Bool):∀v∈lastV b,one v=true:=zaa rfl
def tabL(j:Nat):List Bool:=(List.range 8).map fun i=>decide (i<j)
def tabC(j:Nat):List Value:=(tabL j).flatMap lastV
theorem zbu(j:Nat):(tabL j).length=8:=by simp[tabL]
theorem tabC_len(j:Nat):(tabC j).length=8*3:=by unfold tabC;rw[zar lastV_len,zbu]
theorem tabL_at(j:Nat){i:Nat}(hi:i<8):(tabL j)[i]?=some (decide (i<j)):=by unfold tabL;rw[List.getElem?_map,List.getElem?_range hi];rfl
variable {j:Nat}
theorem tabL_set(hj:j<8):(tabL j).set j true=tabL (j+1):=by
 apply List.ext_getElem?;intro i;by_cases hi:i<8
 ·rw[tabL_at _ hi,List.getElem?_set,zbu];by_cases e:j=i
  ·subst e;simp[hj]
  ·rw[if_neg e,tabL_at _ hi];congr 1;rw[decide_eq_decide];omega
 ·rw[List.getElem?_eq_none (by rw[List.length_set,zbu];omega),List.getElem?_eq_none (by rw[zbu];omega)]
theorem tabC_set(hj:j<8):splice (tabC j) (0+0+j*3) (lastV true)=tabC (j+1):=by
 have h:=flat_splice (vals:=lastV) lastV_len (xs:=tabL j) (i:=j) true (by rw[zbu];exact hj) [];rw[List.append_nil,List.append_nil,tabL_set hj]at h
 rw[show 0+0=0 from rfl,Nat.zero_add];exact h
theorem tabC_one(j:Nat):∀v∈tabC j,one v=true:=fun v hv=>by
 obtain⟨b,_,h⟩:=List.mem_flatMap.1 hv
 exact lastV_one b v h
theorem tabC_at{i:Nat}(hr:Rd f A b 0 (tabC j))(hi:i<8):Rd f A b (0+0+i*3) (lastV (decide (i<j))):=by
 have h1:=hr;unfold tabC at h1
 rw[flat_split (vals:=lastV) _ (tabL_at j hi)]at h1;have h2:=Rd.sub h1 (show _=i*3 by rw[zar lastV_len,List.length_take,zbu];omega);rw[Nat.zero_add]at h2
 rw[show 0+0=0 from rfl,Nat.zero_add];exact h2
theorem tabC_new(hr:Rd f A b 0 (tabC (j+1)))(hj:j<8):Rd f A b (0+0+j*3) ([.int .u64 1]++rpl0++[]):=by
 have h:=tabC_at hr hj;rw[show decide (j<j+1)=true by simp]at h
 exact h
variable {tb:Nat}
section
variable (f:Frag) (F:List HP)
theorem sesNew_fn:Fn prog 201 [] f F (RetE (fun tb:Nat=>.pointer (some ⟨tb,0,none⟩)) f (fun tb=>row tb 402 (tabC 0)::F)):=by
 refine BX func201 ntmps201 fun base=>?_;repeat(first|(refine AT (out:=tabC 0) rfl rfl rfl jD rfl ?_)|(apply (gU)))
 refine H.box (ls:=tabC 0) rfl rfl rfl rfl fun tb=>?_;apply (gK);exact AU ⟨tb,rfl,rfl,rfl⟩
theorem sclient_fn{i:Nat}(hi:i<8):Fn prog 372 [.int .i64 ((i+1:Nat):Int)] f F (Ret (.bool true) f F):=by
 have h:=decide_eq_true (show((i+1:Nat):Int)≤8 by omega);refine AB func372 ntmps372 fun base=>?_
 apply (gJ);exact qcq
theorem slast_fn{i:Nat}(hi:i<8):Fn prog 334 [.pointer (some ⟨tb,0,none⟩),.int .i64 ((i+1:Nat):Int)] f (row tb 402 (tabC j)::F) (Ret (.agg (lastV (decide (i<j))).toArray) f (row tb 402 (tabC j)::F)):=by
 generalize hb:decide (i<j)=b;refine A9 func334 ntmps334 fun base=>?_;apply (gA);refine (qkk) fun xb=>?_;apply (gR);refine A8 rfl rfl rfl (sclient_fn f _ hi) ?_;apply (gS);refine CI (i:=i) rfl rfl rfl jB hi rfl ?_;refine AD (ls:=lastV b) rfl rfl rfl (by rw[←hb];exact tabC_at (Rd.ofRow jA) hi) rfl rfl ?_;refine AC (ls:=lastV false) (vs:=lastV b) (ls':=lastV b) rfl rfl rfl (lastV_one _) rfl rfl (Nat.le_refl 3) aP0 ?_;apply (gA);refine AD (ls:=lastV b) rfl rfl rfl (Rd.ofRow jA) rfl rfl ?_;refine AC (ls:=lastV b) (vs:=lastV b) (ls':=lastV b) rfl rfl rfl (lastV_one _) rfl rfl (Nat.le_refl 3) aP0 ?_;apply (gK);exact BS (ls:=lastV b) rfl rfl rfl (Rd.ofRow aP0) rfl (fun _ s=>s.drop (.here _ _)) ⟨rfl,rfl,rfl⟩
theorem slist_fn:Fn prog 340 [.pointer (some ⟨tb,0,none⟩)] f (row tb 402 (tabC j)::F)
  (fun u g B=>∃(p:Option Addr) (c:Nat),u= .slice p 8 c∧g=f∧B=slc p 8 c 399 3 (tabC j)::row tb 402 (tabC j)::F):=by
 have hcl:∀G:List HP,Fn prog 375 [.slice (some ⟨tb,0,none⟩) 8 8] f (row tb 402 (tabC j)::G)
   (fun u g B=>∃(p:Option Addr) (c:Nat),u= .slice p 8 c∧g=f∧B=slc p 8 c 399 3 (tabC j)::row tb 402 (tabC j)::G):=fun G=>by
  refine AB func375 ntmps375 fun base=>?_
  apply (gR)
  refine AS (out:=[]) rfl rfl rfl rfl jE jE rfl rfl fun eb=>?_
  refine CB (k:=0) (sz:=3) rfl jE ?_
  apply (gG)
  refine AQ (xs:=[]) (m:=8) (news:=tabC j) rfl rfl rfl rfl rfl (fun p' c'=>.here _ _ _) (Src.slice (Rd.ofRow jA) (tabC_len j)) (tabC_one j) rfl jB jB fun p2 c2=>?_
  apply (gK)
  exact AU ⟨p2,c2,rfl,rfl,rfl⟩
 refine AB func340 ntmps340 fun base=>?_;apply (gT);apply (qjx);refine AG rfl rfl rfl (hcl _) fun p c=>?_;apply (gK);exact qbf
theorem sdo_fn{x:UInt8}{τ:Nat→UInt8}(hj:j<8):Fn prog 379 [.pointer (some ⟨tb,0,none⟩),.pointer (some ⟨lb,0,none⟩),.agg (qreq x (j+1) τ).vals.toArray] f (row tb 402 (tabC j)::ledH lb x (ledO j)::F)
  (Ret (.tuple #[.agg rpl0.toArray,.bool true]) f (row tb 402 (tabC (j+1))::ledH lb x (ledO (j+1))::F)):=by
 have hd:=fun G=>ldo_fn (lb:=lb) (x:=x) (y:=yv (j+1)) (o:=ledO j) f G;rw[show some (yv (j+1))=ledO (j+1)from rfl]at hd
 have hat:decide (j<j)=false:=by simp
 refine AP func379 ntmps379 fun base=>?_;apply (gA);refine H.box (ls:=reqL x (j+1) τ) rfl rfl rfl rfl fun qb=>?_;refine (qiS) fun rb=>?_;apply (gT);refine A8 rfl rfl rfl (sclient_fn f _ hj) ?_;apply (qdI);refine BB ?_;repeat(first|(refine BO (i:=j) rfl rfl rfl jB hj rfl ?_)|(apply (gV)))
 apply (gK);apply (qhk);apply (qhk);apply (qdR);apply (qea);apply A6 [0,1,2,3,4,5] 4;apply (gF);refine AH (ls:=opL x (yv (j+1))) rfl rfl rfl (Rd.sub (pre:=[.int .i64 ((j+1:Nat):Int),.int .u64 1]) (post:=b32 τ) (Rd.ofRow jA) rfl) rfl rfl ?_;apply (qfK);apply A3 (ledH lb _ _);apply A5 (hd _);apply (gA);apply (qgb);apply A6 [7,8] 1;apply (qgO);apply (qkF);refine AC (ls:=tabC j) (vs:=lastV true) (ls':=tabC (j+1)) rfl rfl rfl (lastV_one _) rfl (tabC_set hj) (by rw[tabC_len];show 0+0+j*3+3≤24;omega) jA ?_;apply (qeX);apply (gO);refine AD (ls:=rpl0) rfl rfl rfl (Rd.sub (pre:=[.int .u64 1]) (post:=[]) (tabC_new (Rd.ofRow jA) hj) rfl) rfl rfl ?_;apply (qgH);apply (gK);apply (qfs);apply (qdF);apply (qdH);exact B5 (ls:=rpl0) rfl rfl rfl rfl (Rd.ofRow aP0) rfl (fun _ s=>s.drop (.here _ _)) ⟨rfl,rfl,rfl⟩
theorem sof1_fn(b:Bool):Fn prog 374 [.agg (lastV b).toArray] f F (Ret (.bool false) f F):=by
 cases b with
 | true =>
  refine AB func374 ntmps374 fun base=>?_;apply (gA);refine H.box (ls:=[.int .u64 1,.int .i64 0,.string .empty]) rfl rfl rfl rfl fun tb=>?_;apply (gS);exact qbs
 | false =>
  refine AB func374 ntmps374 fun base=>?_;apply (gA);refine H.box (ls:=[.int .u64 0,.int .i64 0,.string .empty]) rfl rfl rfl rfl fun tb=>?_;apply (gS);refine AD (ls:=lastV false) rfl rfl rfl (Rd.ofRow jA) rfl rfl ?_;apply (gJ);refine F2 (D:=3) (xs:=lastV false) (ys:=lastV false) (b:=false) rfl rfl rfl rfl jD jD jD jD jE (by simp[lastV,eqC,eqv,beq_ba]) rfl ?_;apply (gJ);exact qbs
theorem sidx_fn:Fn prog 396 [.slice p 8 c,.func (.func 374) #[] #[]] f (slc p 8 c 399 3 (tabC j)::F) (Ret (.int .i64 (-1)) f (slc p 8 c 399 3 (tabC j)::F)):=by
 refine A9 func396 ntmps396 fun base=>?_;refine AO (p:=p) (n0:=8) (c:=c) aP0 jE fun pb hp=>?_;subst hp;apply (gK)
 refine AF (ι:=Nat) (fun i=>[(8,.int .i64 (i:Nat)),(7,.int .i64 8),(4,.int .i64 0),(0,.slice (some ⟨pb,0,none⟩) 8 c),(1,.func (.func 374) #[] #[])]) (fun _=>f)
  (fun _=>slc (some ⟨pb,0,none⟩) 8 c 399 3 (tabC j)::F) (fun i=>i≤8) (fun i=>8-i) 0 jE fun i hi=>?_
 have hi:i≤8:=hi;by_cases hlt:i<8
 ·apply (qgc);refine BM (fs:=[]) (cs:=[]) rfl rfl rfl rfl (sof1_fn f _ _) ?_;apply (gT);exact qbn
 ·apply (gN);exact qad
theorem sof_fn:Fn prog 336 [.slice p 8 c] f (slc p 8 c 399 3 (tabC j)::F)
  (RetE (fun tb:Nat=>.tuple #[.pointer (some ⟨tb,0,none⟩),.int .i64 0]) f (fun tb=>row tb 402 (tabC j)::slc p 8 c 399 3 (tabC j)::F)):=by
 have hcf:∀G:List HP,Fn prog 373 [.slice p 8 c,.func (.func 374) #[] #[]] f (slc p 8 c 399 3 (tabC j)::G) (Ret (.bool false) f (slc p 8 c 399 3 (tabC j)::G)):=fun G=>by
  refine A9 func373 ntmps373 fun base=>?_;apply (gG);refine A8 rfl rfl rfl (sidx_fn f _) ?_;apply (gN);exact qad
 refine AB func336 ntmps336 fun base=>?_;apply (gS);apply A5 (hcf _);apply (gR);refine AW rfl rfl rfl (sesNew_fn f _) fun tb=>?_;apply (gO);apply (qjx);apply (gG);refine FK (b:=tb) (o:=0) (sz:=3) (m:=8) (k0:=8) (ls:=tabC 0) (ls':=tabC j) (cs:=tabC j) rfl rfl rfl rfl (fun _=>rfl) rfl (Src.slcS jA (tabC_len j)).cells (by unfold splice;rw[tabC_len,List.take_zero,List.drop_eq_nil_of_le (by rw[tabC_len];decide)];simp) (by rw[tabC_len,tabC_len];decide) (tabC_one j) jA ?_;apply (gK);exact BN rfl rfl rfl iD ⟨tb,rfl,rfl,rfl⟩
end
abbrev D32:={l:List UInt8 // l.length=32}
def dV(d:D32):List Value:=bytesV d.1
def dZ:D32:=⟨List.replicate 32 0,rfl⟩
def dOf(t:Nat→UInt8):D32:=⟨b32L t,rfl⟩
theorem dV_len(d:D32):(dV d).length=32:=by unfold dV;rw[zab];exact d.2
theorem dV_one(d:D32):∀v∈dV d,one v=true:=zao d.1
theorem eqC_bytes:∀a b:List UInt8,eqC (bytesV a) (bytesV b)=decide (a=b)
 | [],[]=>rfl
 | [],_::_=>rfl
 |_::_,[]=>rfl
 | x :: a, y :: b => by
  show(eqv (.int .u8 (x.toNat:Nat)) (.int .u8 (y.toNat:Nat))&&eqC (bytesV a) (bytesV b))=_
  rw[eqC_bytes a b]
  have e:eqv (.int .u8 (x.toNat:Nat)) (.int .u8 (y.toNat:Nat))=decide (x=y):=by
   show(((x.toNat:Nat):Int) == ((y.toNat:Nat):Int))=_;by_cases h:x=y
   ·subst h;simp
   ·have:¬((x.toNat:Nat):Int)=((y.toNat:Nat):Int):=fun h2=>h (UInt8.toNat_inj.1 jB);rw[decide_eq_false h]
    simpa using this
  rw[e]
  by_cases h1:x=y<;>by_cases h2:a=b<;>simp[h1,h2]
theorem dV_plain:∀l:List UInt8,plnC (bytesV l)=true
 | []=>rfl
 |_::l=>dV_plain l
def encN(k:Int×Int):Value:=.agg ([.int .i64 k.1,.int .u64 k.2]:List Value).toArray
def encD(d:D32):Value:=.agg (dV d).toArray
instance keyN:KeyT prog 181 encN:=keyT_agg (cellsK:=fun k:Int×Int=>[.int .i64 k.1,.int .u64 k.2]) (D:=4) jD (fun k=>by kernel_rfl) jE (fun a b=>by
  obtain⟨a1,a2⟩:=a
  obtain⟨b1,b2⟩:=b
  show(a1 == b1&&(a2 == b2&&true))=_
  by_cases h1:a1=b1<;>by_cases h2:a2=b2<;>simp[h1,h2]) (fun k=>rfl)
theorem dV_shp(d:D32):shp prog 4 32 (dV d)=true:=by
 unfold dV;rw[←b32L_get d.2];generalize(fun i=>d.1.getD i 0)=t;kernel_rfl
instance keyD:KeyT prog 32 encD:=keyT_agg (cellsK:=dV) (D:=4) jD dV_shp jE (fun a b=>by
  unfold dV
  rw[eqC_bytes]
  by_cases h:a.1=b.1
  ·rw[decide_eq_true h,decide_eq_true (Subtype.ext h)]
  ·rw[decide_eq_false h,decide_eq_false (fun e=>h (by rw[e]))]) (fun d=>dV_plain d.1)
abbrev CM:=List ((Int×Int)×D32)
def mpV(M:CM):List ((Int×Int)×Value):=M.map fun e=>(e.1,encD e.2)
def tld:CM→Int×Int→Option D32
 | [],_=>none
 |(k',d)::r,k=>if k=k' then some d else tld r k
theorem getKV_mpV:∀(M:CM) (k:Int×Int),getKV (mpV M) k=(tld M k).map encD
 | [],_=>rfl
 | (k', d) :: r, k => by
  show(if k=k' then some (encD d)else getKV (mpV r) k)=(if k=k' then some d else tld r k).map encD
  rw[getKV_mpV r k]
  split<;>rfl
theorem putKV_mpV:∀(M:CM) (k:Int×Int) (d:D32),tld M k=none→putKV (mpV M) k (encD d)=mpV (M++[(k,d)])
 | [],_,_,_=>rfl
 | (k', u) :: r, k, d, h => by
  have h1:¬k=k':=fun e=>by
   have:tld ((k',u)::r) k=some u:=if_pos e
   rw[this]at h;cases h
  have h2:tld r k=none:=by
   have:tld ((k',u)::r) k=tld r k:=if_neg h1;rw[this]at h;exact h
  show(if k=k' then _ else(k',encD u)::putKV (mpV r) k (encD d))=_
  rw[if_neg h1,putKV_mpV r k d h2]
  rfl
theorem tld_snoc(M:CM)(k j:Int×Int)(d:D32):tld (M++[(k,d)]) j=(tld M j).or (if j=k then some d else none):=by
 induction M with
 |nil=>show(if j=k then some d else none)=_;simp[tld]
 | cons e r ih =>
  show(if j=e.1 then some e.2 else tld (r++[(k,d)]) j)=(if j=e.1 then some e.2 else tld r j).or _;rw[ih];split<;>simp
theorem tld_mem:∀ {M:CM} {k:Int×Int} {d:D32},tld M k=some d→(k,d)∈M
 | (k', u) :: r, k, d, h => by
  by_cases e:k=k'
  ·have:tld ((k',u)::r) k=some u:=if_pos e
   rw[this]at h
   cases h
   rw[e]
   exact List.mem_cons_self
  ·have:tld ((k',u)::r) k=tld r k:=if_neg e
   rw[this]at h
   exact List.mem_cons_of_mem _ (tld_mem h)
def chkRow(n:Nat)(mb:Nat):List Value:=[.int .i64 (n:Nat),.map (some mb)]
def chkH(cb n:Nat)(M:CM):HP:=pack (fun _:Nat=>True) (fun mb=>[row cb 179 (chkRow n mb),mp mb encN (mpV M)])
variable {cb:Nat} {M:CM}
theorem chkH_fold:∀x,stars (row cb 179 (chkRow n mb)::mp mb encN (mpV M)::F) x→stars (chkH cb n M::F) x:=
 zap (ι:=Nat) (B:=fun mb=>[row cb 179 (chkRow n mb),mp mb encN (mpV M)]) mb trivial
def CM.take(M:CM)(n:Nat)(m:Msg):Bool×CM:=
 if m.may=true∧m.origin≤(n:Int)∧(m.body.kind.toNat:Int)=6∧tld M (m.origin,m.body.k)=none then(true,M++[((m.origin,m.body.k),dOf m.body.dig)])else(false,M)
theorem mv_dig(h:At A (row mb T x.vals) A' (row mb T x.vals)):Rd f A mb (0+13+44) (bytesV (b32L x.m.body.dig)):=by
 have h1:=Rd.ofRow (f:=f) h;unfold MV.vals Msg.vals Bod.vals at h1
 rw[←b32_bytes];have h2:=Rd.sub (f:=f) (A:=A) (b:=mb) (off:=0) (k:=57) (pre:=[.int .i64 x.m.origin,.int .u64 x.m.number]++v11 x.m.deps++([.int .u8 (x.m.body.kind.toNat:Nat),.int .u64 x.m.body.view,.int .u64 x.m.body.k]++x.m.body.req.vals++[.slice x.qp x.m.body.q.length x.qc])) (l:=b32 x.m.body.dig) (post:=b32 x.m.tag) (by simpa only[List.append_assoc]using h1) rfl;exact h2
section
variable (f:Frag) (F:List HP)
theorem cnew_fn(h3:3≤n)(h11:n≤11)(hodd:n % 2=1):Fn prog 88 [.int .i64 (n:Nat)] f F (RetE (fun cb=>.tuple #[.pointer (some ⟨cb,0,none⟩),.int .i64 0]) f (fun cb=>chkH cb n []::F)):=by
 have hr:((n:Nat):Int).tmod 2=1:=by rw[show(2:Int)=((2:Nat):Int)from rfl,tmod64,hodd];rfl
 refine AB func88 ntmps88 fun base=>?_;repeat(first|(apply (gU))|(refine H.rem rfl rfl rfl jE hr rfl ?_))
 refine H.makeMap encN rfl rfl fun mb=>?_;apply (gJ);refine H.box (ls:=chkRow n mb) rfl rfl rfl rfl fun cb=>?_;apply (gK);refine H.imp (chkH_fold (M:=[])) ?_;exact qcp
theorem ctake_fn(hx:x.Good f):Fn prog 153 [.pointer (some ⟨cb,0,none⟩),.agg x.vals.toArray] f (chkH cb n M::F) (Ret (.bool (M.take n x.m).1) f (chkH cb n (M.take n x.m).2::F)):=by
 refine (qfu) fun mb _=>?_;have hmay:=fun G=>mmay_fn f G hx
 cases hm:x.m.may with
 | false =>
  rw[hm]at hmay;have hno:M.take n x.m=(false,M):=if_neg (fun h=>by rw[hm]at h;cases h.1);rw[hno]
  clear hm;refine (qjn) fun base=>?_;refine (qfJ) fun xb=>?_;apply (qdT);repeat(first|(refine HQ.not (c:=true) rfl rfl rfl rfl ?_)|(apply (gV)))
  exact qde
 | true =>
  rw[hm]at hmay;by_cases h1:x.m.origin≤(n:Int)
  ·by_cases h2 : (x.m.body.kind.toNat : Int) = 6
   ·cases ht:tld M (x.m.origin,x.m.body.k)with
    | some d =>
     have hno:M.take n x.m=(false,M):=if_neg (fun h=>by rw[ht]at h;cases h.2.2.2);rw[hno]
     clear hm hno;have hget:getKV (mpV M) (x.m.origin,x.m.body.k)=some (encD d):=by rw[getKV_mpV,ht];rfl
     have hg1:(getKV (mpV M) (x.m.origin,x.m.body.k)).getD (encD dZ)=encD d:=by rw[hget];rfl
     have hg2:(getKV (mpV M) (x.m.origin,x.m.body.k)).isSome=true:=by rw[hget];rfl
     clear hget ht;refine (qjn) fun base=>?_;refine (qfJ) fun xb=>?_;apply (qge);apply (gT);refine (qks) fun kb=>?_;refine (qer) fun db=>?_;apply (qjF);refine AC (ls:=dV dZ) (vs:=dV d) (ls':=dV d) rfl rfl rfl (dV_one _) (dV_len _) (zbl ja) jN jA ?_;apply (qiD);apply (gR);apply A4 (row db _ _);apply (qhh);exact qba
    | none =>
     have hyes:M.take n x.m=(true,M++[((x.m.origin,x.m.body.k),dOf x.m.body.dig)]):=if_pos ⟨hm,h1,h2,ht⟩;rw[hyes]
     clear hm hyes;have hget:getKV (mpV M) (x.m.origin,x.m.body.k)=none:=by rw[getKV_mpV,ht];rfl
     have hput:=putKV_mpV M (x.m.origin,x.m.body.k) (dOf x.m.body.dig) ht;have hg1:(getKV (mpV M) (x.m.origin,x.m.body.k)).getD (encD dZ)=encD dZ:=by rw[hget];rfl
     have hg2:(getKV (mpV M) (x.m.origin,x.m.body.k)).isSome=false:=by rw[hget];rfl
     clear hget ht;refine (qjn) fun base=>?_;refine (qfJ) fun xb=>?_;apply (qge);apply (gT);refine (qks) fun kb=>?_;refine (qer) fun db=>?_;apply (qjF);refine AC (ls:=dV dZ) (vs:=dV dZ) (ls':=dV dZ) rfl rfl rfl (dV_one _) (dV_len _) (zbl ja) jN jA ?_;apply (qiD);apply (gE);apply A4 (row db _ _);refine H.dc [0,1,2,3,4,5,6,7] (S:=[_,_,_,_]) rfl ?_;apply A6 [0,1,2,3,4,5,6,7] 1;repeat(first|(refine AH (ls:=[.int .i64 x.m.origin,.int .u64 x.m.body.k]) rfl rfl rfl (Rd.ofRow jA) rfl rfl ?_)|(refine AH (ls:=bytesV (b32L x.m.body.dig)) rfl rfl rfl (mv_dig jA) rfl rfl ?_)|(apply (gV)))
     apply (qdG);apply (qeJ);apply A7 8;refine CN (k:=(x.m.origin,x.m.body.k)) (v:=encD (dOf x.m.body.dig)) rfl rfl rfl rfl jA rfl ?_;rw[hput];apply (qhU);apply (qhh);exact qba
   ·have hno:M.take n x.m=(false,M):=if_neg (fun h=>h2 h.2.2.1);rw[hno]
    clear hm hno;refine (qjn) fun base=>?_;refine (qfJ) fun xb=>?_;apply (qge);apply (gN);exact qba
  ·have hno:M.take n x.m=(false,M):=if_neg (fun h=>h1 h.2.1);rw[hno]
   clear hm hno;refine (qjn) fun base=>?_;refine (qfJ) fun xb=>?_;apply (qdT);repeat(first|(refine HQ.not (c:=false) rfl rfl rfl rfl ?_)|(apply (gV)))
   exact qde
end
end Go.Proofs.YtdpgpmbebbaoiaaGreatDoor
