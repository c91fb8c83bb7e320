/- Parts of the proof. No conditions. -/
import Derived.Test.YtkaknokcbhiigaaGreatDoorZ03
import Derived.Laws.MakeOwn
import Derived.OpenShut
import Derived.Test.YtkaknokcbhiigaaGreatDoorRows
set_option linter.unusedSectionVars false
set_option linter.unusedSimpArgs false
set_option linter.unusedVariables false
set_option maxHeartbeats 1600000
set_option maxRecDepth 20000
namespace Go.Proofs.YtkaknokcbhiigaaGreatDoor
open Go Go.Proofs.Tryz
variable {m:Msg} {q:Option Addr} {qc:Nat}
section
variable (f:Frag) (F:List HP)
theorem rmay_fn(hq:QAt f q m.body.q)(hl:m.body.q.length≤1000000000):Fn prog 27 [.agg (m.vals q qc).toArray] f F (Ret (.bool (decide m.outer&&m.body.may)) f F):=by
 by_cases h1:1≤m.origin
 ·by_cases h2 : m.origin ≤ 11
  ·by_cases h3 : 1 ≤ m.number
   ·by_cases h4 : m.number ≤ 65536
    ·by_cases h5 : m.deps (m.origin.toNat - 1) = m.number - 1
     ·skip;refine Fn.e1 func27 ntmps27 fun base=>?_;refine qfJ fun mb=>?_;refine qfk ?_;refine gc ?_;refine H.lo (ι:=Nat) (fun i=>[(3,.int .i64 (i:Int)),(1,.pointer (some ⟨mb,0,none⟩))]) (fun _=>f) (fun _=>row mb 54 (m.vals q qc)::F) (fun i=>i≤11∧∀j,j<i→m.deps j≤65536) (fun i=>11-i) 0 ⟨Nat.zero_le _,fun j hj=>absurd hj (Nat.not_lt_zero j)⟩ fun i hi=>?_;obtain⟨hi,hle⟩:i≤11∧∀j,j<i→m.deps j≤65536:=hi;by_cases hlt:i<11
      ·refine qhE ?_;by_cases h6:m.deps i≤65536
       ·refine gc ?_
        exact H.Ar (i+1) ⟨by show i+1≤11;omega,fun j hj=>by
         by_cases e:j=i
         ·rw[e];exact h6
         ·exact hle j (by have:j<i+1:=hj;omega)⟩ jU ⟨rfl,rfl,trivial⟩ rfl rfl
       ·refine gG ?_;refine qeK ?_;refine H.Ae rfl rfl iD ⟨?_,rfl,rfl⟩;rw[decide_eq_false (fun h=>h6 ((maxTo_le m.deps 65536 10).1 h.2.2.2.2.2 i jA))];rfl
      ·have hi11:i=11:=jA
       subst hi11;have h7:m.outer:=⟨h1,h2,h3,h4,h5,(maxTo_le m.deps 65536 10).2 fun j hj=>hle j jA⟩;rw[decide_eq_true h7,Bool.true_and]
       refine qkp ?_;refine H.Af rfl rfl rfl (rbody_fn f _ hq hl) ?_;refine gT ?_;exact qaF
     ·skip;refine Fn.e1 func27 ntmps27 fun base=>?_;exact qaL
    ·exact qbC
   ·exact qbC
  ·exact qbC
 ·exact qbC
end
def depsB(d:Nat→Int):Nat→List UInt8
 |0=>[]
 |i+1=>depsB d i++be 8 (d i)
theorem depsB_len(d:Nat→Int):∀n,(depsB d n).length=8*n
 |0=>rfl
 |n+1=>by simp only[depsB,lnA,be_len,depsB_len d n];omega
def Msg.tagged(m:Msg):List UInt8:=[b8 m.origin]++depsB m.deps 11++[m.body.kind]++m.body.put
def Msg.may(m:Msg):Bool:=decide m.outer&&m.body.may
def Msg.bytes(m:Msg):List UInt8:=if m.may=true then m.tagged else []
variable {P:Program} {base:World} {n sz:Nat} {L:Env} {f:Frag} {A:List HP} {T:TypeId} {ls:List Value}
theorem H.asSlc{K:Kont}{b k:Nat}(hl:ls.length=k*sz)(hk:k≤9223372036854775807)
  (h:H P base n L f (slc (some ⟨b,0,none⟩) k k T sz ls::A) K):H P base n L f (row b T ls::A) K:=
 H.imp (A':=slc (some ⟨b,0,none⟩) k k T sz ls::A) (fun x ⟨m1,m2,d,e,a,r⟩=>⟨m1,m2,d,e,row_slc hl hk a,r⟩) h
variable {z:Int}
theorem b8_small(h:0≤z∧z<256):((b8 z).toNat:Int)=z:=by
 unfold b8;exact qcA
theorem quo_len:∀(q:List (Int×Int)) (w:Int),w≤11→quo w q=true→(q.length:Int)≤11-w
 | [],w,hw,_=>by simp;omega
 | p :: r, w, hw, h => by
  unfold quo at h
  split at h
  ·cases h
  ·have ih:=quo_len r p.1 jA h
   rw[List.length_cons];omega
variable {x:Bod}
theorem Bod.may_spec(h:x.may=true):Bod.eqB x.own x=true∧x.view<1073741824∧x.mayK x.kind.toNat=true:=by
 unfold Bod.may at h;simp only[Bool.and_eq_true,decide_eq_true_eq]at h;exact⟨h.1.1,h.1.2,h.2⟩
theorem Bod.eqB_q{a b:Bod}(h:Bod.eqB a b=true):a.q=b.q:=by
 unfold Bod.eqB at h;simp only[Bool.and_eq_true,decide_eq_true_eq]at h;exact h.1.2
theorem Bod.may_q(h:x.may=true):x.q.length≤11:=by
 obtain⟨h1,h2,h3⟩:=Bod.may_spec h;have h4:=Bod.eqB_q h1;unfold Bod.own at h4
 generalize hk:x.kind.toNat=k at h3 h4
 match k,h3,h4 with
 |0,h3,_=>exact absurd h3 jX
 |1,_,h4=>have h4:[]=x.q:=h4;rw[←h4];exact Nat.zero_le _
 |2,_,h4=>have h4:[]=x.q:=h4;rw[←h4];exact Nat.zero_le _
 |3,_,h4=>have h4:[]=x.q:=h4;rw[←h4];exact Nat.zero_le _
 |5,_,h4=>have h4:[]=x.q:=h4;rw[←h4];exact Nat.zero_le _
 |6,_,h4=>have h4:[]=x.q:=h4;rw[←h4];exact Nat.zero_le _
 |k+7,h3,_=>exact absurd h3 jX
 | 4, h3, _ =>
  simp only[Bod.mayK,Bool.and_eq_true,decide_eq_true_eq]at h3
  have:=quo_len x.q 0 jA h3.2.1;omega
theorem Msg.may_body(h:m.may=true):m.body.may=true:=by
 unfold Msg.may at h;simp only[Bool.and_eq_true]at h;exact h.2
section
variable (f:Frag) (F:List HP)
theorem rbytes_fn(hq:QAt f q m.body.q)(hl:m.body.q.length≤1000000000):Fn prog 29 [.agg (m.vals q qc).toArray] f F (BytesR m.bytes f F):=by
 have hmay:=fun G=>rmay_fn (m:=m) (qc:=qc) f G hq hl;unfold Msg.bytes
 have e0:m.may=(decide m.outer&&m.body.may):=rfl;rw[←e0]at hmay
 by_cases hm:m.may=true
 ·rw [if_pos hm];rw [hm] at hmay;refine Fn.e1 func29 ntmps29 fun base => ?_;refine qfJ fun mb => ?_;refine gI ?_;refine qgk ?_;refine gR ?_;rw [u8_b8];refine H.Aq (out := bytesV [b8 m.origin]) rfl rfl rfl rfl jC jC rfl rfl fun tb => ?_;refine H.asSlc (k := 1) (sz := 1) rfl jC ?_;refine gT ?_;generalize hB0 : [b8 m.origin] = B0; have hB0l : B0.length = 1 := by rw [← hB0]; rfl
  refine qeC ?_
  refine H.loop (ι:=Nat×Option Addr×Nat) (fun i=>[(4,.int .i64 (i.1:Int)),(3,.slice i.2.1 (B0++depsB m.deps i.1).length i.2.2),(1,.pointer (some ⟨mb,0,none⟩))]) (fun _=>f)
   (fun i=>row mb 54 (m.vals q qc)::slc i.2.1 (B0++depsB m.deps i.1).length i.2.2 5 1 (bytesV (B0++depsB m.deps i.1))::F) (fun i=>i.1≤11) (fun i=>11-i.1) (0,some ⟨tb,0,none⟩,1) (Nat.zero_le _) ⟨rfl,?_,rfl,trivial⟩ rfl ?_ fun i hi=>?_
  ·exact qcR
  ·exact qcW
  ·obtain⟨i,p',c'⟩:=i;have hi:i≤11:=hi;show H _ _ _ [(4,.int .i64 (i:Int)),(3,.slice p' (B0++depsB m.deps i).length c'),_] _ (_::slc p' (B0++depsB m.deps i).length c' _ 1 (bytesV (B0++depsB m.deps i))::F) _
   have hal:(B0++depsB m.deps i).length=1+8*i:=by rw[lnA,depsB_len,hB0l]
   by_cases hlt:i<11
   ·have e1:B0++depsB m.deps (i+1)=(B0++depsB m.deps i)++be 8 (m.deps i):=by simp only[depsB,List.append_assoc]
    generalize B0++depsB m.deps i=acc at hal e1⊢;refine qhE ?_;refine H.Am rfl rfl rfl (zcb (l:=acc) f _ (Src.slcS jB jG) jA) fun p1 c1=>?_;refine gW ?_;refine H.pd (x:=slc p' _ c' _ _ _) ?_;refine qeC ?_;refine H.Ar (i+1,p1,c1) kf jU ⟨rfl,?_,rfl,trivial⟩ rfl ?_
    ·exact qdk
    ·exact qcz
   ·have hi11:i=11:=jA
    subst hi11;generalize hacc:B0++depsB m.deps 11=acc at hal⊢;refine qkp ?_;refine qeB fun yb=>?_;refine H.Ag (ls:=(Bod.zero 0).vals none 0) (vs:=m.body.vals q qc) (ls':=m.body.vals q qc) rfl rfl rfl (zaa rfl) rfl rfl (Nat.le_refl 76) jB ?_;refine gF ?_;refine qig fun tb=>?_;refine H.Av (m:=1) (xs:=bytesV acc) rfl rfl rfl rfl rfl (fun p' c'=>jB) (Src.slice (Rd.ofRow jB) rfl) (zaj _) rfl jA jA fun p2 c2=>?_;refine gM ?_;refine qja ?_;have e2:(acc++[m.body.kind]).length=acc.length+1:=by rw[lnA];rfl
    have e3:bytesV (acc++[m.body.kind])=bytesV acc++bytesV [m.body.kind]:=zaf _ _;show H _ _ _ ((33,_)::(32,_)::(31,_)::(3,.slice p2 (acc.length+1) c2)::_) _ (_::_::slc p2 (acc.length+1) c2 _ 1 (bytesV acc++bytesV [m.body.kind])::F) _
    rw[←e2,←e3];have htag:m.tagged=(acc++[m.body.kind])++m.body.putK m.body.kind.toNat:=by rw[←hacc,←hB0];rfl
    rw[htag];have hal2:(acc++[m.body.kind]).length=90:=jA
    generalize acc++[m.body.kind]=l0 at hal2⊢;have hbm:=Bod.may_spec (Msg.may_body hm);have hql:=Bod.may_q (Msg.may_body hm)
    have hmk:=hbm.2.2;generalize hk:m.body.kind.toNat=kind at hmk
    match kind,hk,hmk with
    |0,hk,hmk=>exact absurd hmk jX
    |k+7,hk,hmk=>exact absurd hmk jX
    | 2, hk, hmk =>
     refine gU ?_;refine qfN fun p3 c3=>?_;refine H.pd (x:=slc p2 _ c2 _ _ _) ?_;have e4:(l0++be 8 m.body.view).length=98:=by rw[lnA,be_len,hal2]
     generalize hl1:l0++be 8 m.body.view=l1 at e4;refine gN ?_;refine H.Am rfl rfl rfl (zcb (l:=l1) f _ (Src.slcS jB jG) jA) fun p4 c4=>?_;refine H.pd (x:=slc p3 _ c3 _ _ _) ?_;refine qjF ?_;have e9:l0++m.body.putK 2=l1++be 8 m.body.k:=by rw[←hl1];simp only[Bod.putK,List.append_assoc]
     exact H.Ae rfl rfl iD ⟨p4,c4,by rw[e9],rfl,by rw[e9]⟩
    | 3, hk, hmk =>
     exact qaZ
    | 5, hk, hmk =>
     exact qaZ
    | 6, hk, hmk =>
     refine gN ?_;refine qeJ ?_;refine HB.qu [0,1,2,4,5] 3 ?_;refine qib ?_;refine qfN fun p3 c3=>?_;refine gA ?_;refine H.pd (x:=slc p2 _ c2 _ _ _) ?_;refine qjz ?_;have e4:(l0++be 8 m.body.k).length=98:=by rw[lnA,be_len,hal2]
     generalize hl1:l0++be 8 m.body.k=l1 at e4;refine HB.ev 6 ?_;refine H.Av (m:=32) (xs:=bytesV l1) rfl rfl rfl rfl rfl (fun p' c'=>jB) (Src.slice (row_dig jB) rfl) (zaj _) rfl jA jA fun p4 c4=>?_;refine qeg ?_;refine HB.qu [7] 0 ?_;refine qgv ?_;refine qjF ?_;have e9:l0++m.body.putK 6=l1++b32L m.body.dig:=by rw[←hl1];simp only[Bod.putK,List.append_assoc]
     exact H.Ae rfl rfl iD ⟨p4,c4,by rw[e9,lnA];rfl,rfl,by rw[e9,lnA,zaf];rfl⟩
    | 1, hk, hmk =>
     have ha:m.body.req.asked:=of_decide_eq_true hmk
     have hrl:m.body.req.bytes.length≤1000:=qdq
     refine gU ?_;refine qfN fun p3 c3=>?_;refine H.pd (x:=slc p2 _ c2 _ _ _) ?_;have e4:(l0++be 8 m.body.view).length=98:=by rw[lnA,be_len,hal2]
     generalize hl1:l0++be 8 m.body.view=l1 at e4;refine gM ?_;refine H.pf (x:=row yb _ _) ?_;refine qeJ ?_;refine HB.qu [0,1,2,4,5,6] 3 ?_;refine gP ?_;refine HQ.Ad (ls:=m.body.req.vals) rfl rfl rfl (zbw jB) rfl rfl ?_;refine qib ?_;refine H.pf (x:=slc p3 _ c3 _ _ _) ?_;refine H.Am rfl rfl rfl (rrequest_fn (l:=l1) f _ m.body.req ha jA) fun p4 c4=>?_;have e5:(l1++m.body.req.bytes).length=l1.length+m.body.req.bytes.length:=lnA;generalize hl2:l1++m.body.req.bytes=l2 at e5
     refine gA ?_;refine qjz ?_;refine HB.ev 7 ?_;refine H.Av (m:=32) (xs:=bytesV l2) rfl rfl rfl rfl rfl (fun p' c'=>jB) (Src.slice (row_rtag jB) rfl) (zaj _) rfl jA jA fun p5 c5=>?_;refine qeg ?_;refine HB.qu [8] 0 ?_;refine qgv ?_;refine qjF ?_;have e9:l0++m.body.putK 1=l2++b32L m.body.req.tag:=by rw[←hl2,←hl1];simp only[Bod.putK,List.append_assoc]
     exact H.Ae rfl rfl iD ⟨p5,c5,by rw[e9,lnA];rfl,rfl,by rw[e9,lnA,zaf];rfl⟩
    | 4, hk, hmk =>
     refine gU ?_;refine qfN fun p3 c3=>?_;refine H.pd (x:=slc p2 _ c2 _ _ _) ?_;have e4:(l0++be 8 m.body.view).length=98:=by rw[lnA,be_len,hal2]
     generalize hl1:l0++be 8 m.body.view=l1 at e4;refine gN ?_;have hlv:Value.int .u8 ((m.body.q.length:Nat):Int)= .int .u8 ((b8 m.body.q.length).toNat:Int):=by rw[b8_small jA]
     refine H.Bh (d:=62) rfl hlv ?_;refine H.Aq (out:=bytesV [b8 m.body.q.length]) rfl rfl rfl rfl jC jC rfl rfl fun tb=>?_;refine H.Av (m:=1) (xs:=bytesV l1) rfl rfl rfl rfl rfl (fun p' c'=>jB) (Src.slice (Rd.ofRow aP0) rfl) (zaj _) rfl jA jA fun p4 c4=>?_;refine gT ?_;refine qja ?_;have e5:(l1++[b8 m.body.q.length]).length=l1.length+1:=by rw[lnA];rfl
     have e6:bytesV (l1++[b8 m.body.q.length])=bytesV l1++bytesV [b8 m.body.q.length]:=zaf _ _;generalize hl2:l1++[b8 m.body.q.length]=l2 at e5 e6
     refine qeu ?_;refine H.pf (x:=row yb _ _) ?_
     refine H.loop (ι:=Nat×Option Addr×Nat) (fun i=>[(6,.int .i64 (i.1:Int)),(3,.slice i.2.1 (l2++(m.body.q.take i.1).flatMap pairB).length i.2.2),(5,.pointer (some ⟨yb,0,none⟩))]) (fun _=>f)
      (fun i=>row yb 52 (m.body.vals q qc)::row mb 54 (m.vals q qc)::slc i.2.1 (l2++(m.body.q.take i.1).flatMap pairB).length i.2.2 5 1 (bytesV (l2++(m.body.q.take i.1).flatMap pairB))::F)
      (fun i=>i.1≤m.body.q.length∧(l2++(m.body.q.take i.1).flatMap pairB).length=99+9*i.1) (fun i=>m.body.q.length-i.1) (0,p4,c4) ⟨Nat.zero_le _,by show(l2++[]).length=99;rw[List.append_nil];omega⟩ ⟨rfl,?_,rfl,trivial⟩ rfl ?_ fun i hi=>?_
     ·show some (Value.slice p4 (l1.length+1) c4)=some (Value.slice p4 (l2++[]).length c4);rw[List.append_nil,e5]
     ·show _=_::_::slc p4 (l2++[]).length c4 _ 1 (bytesV (l2++[]))::F;rw[List.append_nil,e5,e6];rfl
     ·obtain⟨i,p',c'⟩:=i;obtain⟨hi,hlen⟩:i≤m.body.q.length∧(l2++(m.body.q.take i).flatMap pairB).length=99+9*i:=hi;show H _ _ _ [(6,.int .i64 (i:Int)),(3,.slice p' (l2++(m.body.q.take i).flatMap pairB).length c'),_] _ (_::_::slc p' (l2++(m.body.q.take i).flatMap pairB).length c' _ 1 (bytesV (l2++(m.body.q.take i).flatMap pairB))::F) _;generalize hac:l2++(m.body.q.take i).flatMap pairB=ac at hlen;by_cases hlt:i<m.body.q.length
      ·obtain⟨pr,hx⟩:∃pr,m.body.q[i]?=some pr:=⟨m.body.q[i],lgE hlt⟩
       have e7:l2++(m.body.q.take (i+1)).flatMap pairB=ac++[b8 pr.1]++be 8 pr.2:=by
        rw[List.take_add_one,hx,←hac];simp[pairB]
       obtain⟨b,off,cs,T,fr,rfl,hfb,hcs⟩:=hq i pr hx;have rd:∀A,Rd f A b (off+i*2) (pairV pr):=fun A=>Rd.imm hfb hcs;clear hcs hfb
       refine gM ?_;refine qeJ ?_;refine HB.qu [0,1,2,3,4,5,6,7,10,11,12,13,14,15] 4 ?_;refine gP ?_;refine HQ.Ak rfl rfl rfl rfl hlt rfl ?_;refine gP ?_;refine HQ.Ab rfl rfl rfl (.of (rd _) (i:=0) rfl) rfl ?_;refine gV ?_;rw[u8_b8];refine HQ.Ak rfl rfl rfl rfl hlt rfl ?_;refine gP ?_;refine HQ.Ab rfl rfl rfl (.of (rd _) (i:=1) rfl) rfl ?_;refine qeo ?_;refine HB.ev 8 ?_;refine H.Aq (out:=bytesV [b8 pr.1]) rfl rfl rfl rfl jC jC rfl rfl fun tb=>?_;refine gA ?_;refine qjz ?_;refine HB.ev 9 ?_;refine H.Av (m:=1) (xs:=bytesV ac) rfl rfl rfl rfl rfl (fun p' c'=>jB) (Src.slice (Rd.ofRow at1) rfl) (zaj _) rfl jA jA fun p5 c5=>?_;refine gA ?_;refine qja ?_;refine qeS ?_;refine HB.ev 16 ?_;have f0:(ac++[b8 pr.1]).length=ac.length+1:=by rw[lnA];rfl
       have f1:bytesV (ac++[b8 pr.1])=bytesV ac++bytesV [b8 pr.1]:=zaf _ _;generalize ac++[b8 pr.1]=l4 at f0 f1 e7
       show H _ _ _ _ _ (row _ _ _::row _ _ _::slc p5 (ac.length+1) c5 _ _ (bytesV ac++bytesV [b8 pr.1])::F) _;rw[←f0,←f1];refine H.Am rfl rfl rfl (zcb (l:=l4) f _ (Src.slcS jB jG) jA) fun p6 c6=>?_;refine gA ?_;refine H.pd (x:=slc p5 _ c5 _ _ _) ?_;refine qeu ?_;refine qjz ?_;refine HB.qu [17] 0 ?_;refine qgv ?_;refine gW ?_;refine H.Ar (i+1,p6,c6) ⟨by show i+1≤m.body.q.length;omega,?_⟩ (by show m.body.q.length-(i+1)<m.body.q.length-i;omega) ⟨rfl,?_,rfl,trivial⟩ rfl ?_
       ·show(l2++(m.body.q.take (i+1)).flatMap pairB).length=99+9*(i+1);rw[e7,lnA,be_len];omega
       ·show some _=some (Value.slice p6 (l2++(m.body.q.take (i+1)).flatMap pairB).length c6);rw[e7]
       ·show _=_::_::slc p6 (l2++(m.body.q.take (i+1)).flatMap pairB).length c6 _ 1 (bytesV (l2++(m.body.q.take (i+1)).flatMap pairB))::F;rw[e7];rfl
      ·have hiq:i=m.body.q.length:=jA
       rw[hiq,List.take_length]at hac;refine gM ?_;refine H.pd (x:=row yb _ _) ?_;refine qeH ?_;have e9:l0++m.body.putK 4=ac:=by rw[←hac,←hl2,←hl1];simp only[Bod.putK,List.append_assoc]
       exact qdz
 ·rw[if_neg hm];rw[Bool.eq_false_iff.2 hm]at hmay;refine Fn.e1 func29 ntmps29 fun base=>?_;refine qfJ fun mb=>?_;refine gI ?_;refine qgk ?_;refine gY ?_;refine qeK ?_;exact qeb
end
theorem b32_get(t:Nat→UInt8){i:Nat}(h:i<32):(b32 t)[i]?=some (.int .u8 ((t i).toNat:Nat)):=by
 match i,h with
 |0,_=>rfl
 |1,_=>rfl
 |2,_=>rfl
 |3,_=>rfl
 |4,_=>rfl
 |5,_=>rfl
 |6,_=>rfl
 |7,_=>rfl
 |8,_=>rfl
 |9,_=>rfl
 |10,_=>rfl
 |11,_=>rfl
 |12,_=>rfl
 |13,_=>rfl
 |14,_=>rfl
 |15,_=>rfl
 |16,_=>rfl
 |17,_=>rfl
 |18,_=>rfl
 |19,_=>rfl
 |20,_=>rfl
 |21,_=>rfl
 |22,_=>rfl
 |23,_=>rfl
 |24,_=>rfl
 |25,_=>rfl
 |26,_=>rfl
 |27,_=>rfl
 |28,_=>rfl
 |29,_=>rfl
 |30,_=>rfl
 |31,_=>rfl
 |n+32,h=>exact absurd h jA
theorem tmod64(n m:Nat):((n:Int)).tmod (m:Int)=((n % m:Nat):Int):=rfl
theorem tdiv64(n m:Nat):((n:Int)).tdiv (m:Int)=((n / m:Nat):Int):=rfl
namespace Sha
theorem padded_len(b:List UInt8):(padded b).length=b.length+1+padZ b.length+8:=by
 unfold padded;simp only[lnA,List.length_cons,List.length_nil,List.length_replicate,be_len]
theorem padded_mod(b:List UInt8):(padded b).length % 64=0:=by
 rw[padded_len];unfold padZ;omega
theorem pad_not{i:Nat}(h:i<padZ n):(n+1+i) % 64≠56:=by
 unfold padZ at h;omega
theorem pad_is(n:Nat):(n+1+padZ n) % 64=56:=by
 unfold padZ;omega
theorem chunk_get(P:List UInt8){j i:Nat}(hi:i<64):((P.drop (64*j)).take 64).getD i 0=P.getD (64*j+i) 0:=by
 rw[List.getD_eq_getElem?_getD,List.getElem?_take,if_pos hi,List.getElem?_drop,←List.getD_eq_getElem?_getD]
end Sha
variable {b:List UInt8} {p:Option Addr} {c:Nat}
section
variable (f:Frag) (F:List HP)
def zb(n:Nat):List Value:=List.replicate n (.int .u8 0)
theorem rsum_fn(hs:Src prog f F (.slice p b.length c) 1 b.length (bytesV b))(hl:b.length≤1000000000):Fn prog 60 [.slice p b.length c] f F (Ret (.agg (b32 (Sha.sum b)).toArray) f F):=by
 refine Fn.e1 func60 ntmps60 fun base=>?_;refine gA ?_;refine qgB fun ob=>?_;refine gA ?_;refine qeU fun eb=>?_;refine H.asSlc (k:=0) (sz:=1) rfl jC ?_;refine gI ?_;refine H.Av (xs:=[]) rfl rfl rfl rfl rfl (fun p' c'=>.here _ _ _) hs.cons.cons (zaj b) rfl jA jA fun p1 c1=>?_;rw[Nat.zero_add,List.nil_append];refine H.Aq (out:=bytesV [0x80]) rfl rfl rfl rfl jC jC rfl rfl fun tb=>?_;refine H.Av (m:=1) (xs:=bytesV b) rfl rfl rfl rfl rfl (fun p' c'=>jB) (Src.slice (Rd.ofRow aP0) rfl) (zaj _) rfl jA jA fun p2 c2=>?_;refine qja ?_;refine gT ?_;have e1:(b++[0x80]).length=b.length+1:=by rw[lnA];rfl
 have e2:bytesV (b++[0x80])=bytesV b++bytesV [0x80]:=zaf _ _
 refine H.loop (ι:=Nat×Option Addr×Nat) (fun i=>[(3,.slice i.2.1 (b++[0x80]++List.replicate i.1 0).length i.2.2),(0,.slice p b.length c),(2,.pointer (some ⟨ob,0,none⟩))]) (fun _=>f)
  (fun i=>slc i.2.1 (b++[0x80]++List.replicate i.1 0).length i.2.2 5 1 (bytesV (b++[0x80]++List.replicate i.1 0))::row ob 47 (zb 32)::F) (fun i=>i.1≤Sha.padZ b.length) (fun i=>Sha.padZ b.length-i.1) (0,p2,c2) (Nat.zero_le _) ⟨?_,rfl,rfl,trivial⟩ rfl ?_ fun i hi=>?_
 ·show some (Value.slice p2 (b.length+1) c2)=some (Value.slice p2 (b++[0x80]++[]).length c2);rw[List.append_nil,e1]
 ·show _=slc p2 (b++[0x80]++[]).length c2 _ 1 (bytesV (b++[0x80]++[]))::_;rw[List.append_nil,e1,e2];rfl
 obtain⟨i,p',c'⟩:=i;have hi:i≤Sha.padZ b.length:=hi;have hpz:Sha.padZ b.length<64:=Nat.mod_lt _ jC
 show H _ _ _ [(3,.slice p' (b++[0x80]++List.replicate i 0).length c'),_,_] _ (slc p' (b++[0x80]++List.replicate i 0).length c' _ 1 (bytesV (b++[0x80]++List.replicate i 0))::_) _;have hal:(b++[0x80]++List.replicate i 0).length=b.length+1+i:=by rw[lnA,e1,List.length_replicate]
 by_cases hlt:i<Sha.padZ b.length
 ·have hnot:=Sha.pad_not hlt;have e3:b++[0x80]++List.replicate (i+1) 0=(b++[0x80]++List.replicate i 0)++[0]:=by rw[List.replicate_succ',←List.append_assoc]
  generalize b++[0x80]++List.replicate i 0=acc at hal e3⊢;refine gI ?_;refine H.rem rfl rfl rfl jC (tmod64 acc.length 64) rfl ?_;refine gG ?_;refine qiP fun tb=>?_;refine qhU fun p3 c3=>?_;refine qja ?_;refine gT ?_;refine H.Ar (i+1,p3,c3) jz (by show Sha.padZ b.length-(i+1)<Sha.padZ b.length-i;omega) ⟨?_,rfl,rfl,trivial⟩ rfl ?_
  ·show some (Value.slice p3 (acc.length+1) c3)=some (Value.slice p3 (b++[0x80]++List.replicate (i+1) 0).length c3);exact qed
  ·show _=slc p3 (b++[0x80]++List.replicate (i+1) 0).length c3 _ 1 (bytesV (b++[0x80]++List.replicate (i+1) 0))::_;exact qdM
 ·have hip:i=Sha.padZ b.length:=jA
  subst hip;have his:=Sha.pad_is b.length;have hpad:Sha.padded b=(b++[0x80]++List.replicate (Sha.padZ b.length) 0)++be 8 ((b.length*8:Nat):Int):=rfl
  have hplen:=Sha.padded_len b;have hpmod:=Sha.padded_mod b
  unfold Sha.sum;generalize Sha.padded b=P at hpad hplen hpmod⊢;generalize b++[0x80]++List.replicate (Sha.padZ b.length) 0=acc at hal hpad⊢;refine gI ?_;refine H.rem rfl rfl rfl jC (tmod64 acc.length 64) rfl ?_;refine gc ?_;generalize hN:((b.length*8:Nat):Int)=N at hpad;refine H.Bh (d:=4) (u:=.int .u64 N) rfl (congrArg (Value.int .u64) jA) ?_
  refine H.loop (ι:=Nat×Option Addr×Nat) (fun i=>[(5,.int .i64 (7-(i.1:Int))),(3,.slice i.2.1 (acc++beTop 8 N i.1).length i.2.2),(4,.int .u64 N),(2,.pointer (some ⟨ob,0,none⟩))]) (fun _=>f)
   (fun i=>slc i.2.1 (acc++beTop 8 N i.1).length i.2.2 5 1 (bytesV (acc++beTop 8 N i.1))::row ob 47 (zb 32)::F) (fun i=>i.1≤8) (fun i=>8-i.1) (0,p',c') (Nat.zero_le _) ⟨rfl,?_,rfl,rfl,trivial⟩ rfl ?_ fun i hi=>?_
  ·show some (Value.slice p' acc.length c')=some (Value.slice p' (acc++[]).length c');rw[List.append_nil]
  ·show _=slc p' (acc++[]).length c' _ 1 (bytesV (acc++[]))::_;rw[List.append_nil]
  obtain⟨i,p',c'⟩:=i;have hi:i≤8:=hi;show H _ _ _ [(5,.int .i64 (7-(i:Int))),(3,.slice p' (acc++beTop 8 N i).length c'),_,_] _ (slc p' (acc++beTop 8 N i).length c' _ 1 (bytesV (acc++beTop 8 N i))::_) _
  have hcl:(acc++beTop 8 N i).length=acc.length+i:=by rw[lnA,beTop_len]
  by_cases hlt:i<8
  ·have hexp:min (8*(7-(i:Int))).toNat IntKind.u64.bits=8*(8-1-i):=by simp only[IntKind.bits];omega
   have hsh:N.fdiv (2 ^ (min (8*(7-(i:Int))).toNat IntKind.u64.bits))=N.fdiv (2 ^ (8*(8-1-i))):=by rw[hexp]
   have e3:acc++beTop 8 N (i+1)=(acc++beTop 8 N i)++[byteAt N (8-1-i)]:=by simp only[beTop,List.append_assoc]
   generalize acc++beTop 8 N i=ac at hcl e3⊢;refine gc ?_;refine H.Bo rfl rfl rfl rfl jA hsh rfl ?_;refine H.Bk rfl rfl (byteAt_wrap N (8-1-i)) rfl ?_;refine H.Aq (out:=bytesV [byteAt N (8-1-i)]) rfl rfl rfl rfl jC jC rfl rfl fun tb=>?_;refine H.Av (m:=1) (xs:=bytesV ac) rfl rfl rfl rfl rfl (fun p' c'=>jB) (Src.slice (Rd.ofRow aP0) rfl) (zaj _) rfl jA jA fun p3 c3=>?_;refine qja ?_;refine qjP ?_;refine H.Ar (i+1,p3,c3) ki kG ⟨rfl,?_,rfl,rfl,trivial⟩ rfl ?_
   ·show some (Value.slice p3 (ac.length+1) c3)=some (Value.slice p3 (acc++beTop 8 N (i+1)).length c3);exact qed
   ·show _=slc p3 (acc++beTop 8 N (i+1)).length c3 _ 1 (bytesV (acc++beTop 8 N (i+1)))::_;exact qdM
  ·have hi8:i=8:=jA
   subst hi8;have hP:acc++beTop 8 N 8=P:=hpad.symm;rw[hP]
   refine gY ?_;refine H.Af rfl rfl rfl (start_fn f _) ?_;refine qii fun hb=>?_;refine H.Ag (ls:=List.replicate 8 (.int .u32 0)) (vs:=Sha.start.vals) (ls':=Sha.start.vals) rfl rfl rfl (zaa rfl) rfl rfl (Nat.le_refl 8) jB ?_;refine gT ?_;have hPl:P.length≤2000000000:=jA
   obtain⟨nb,hnb⟩:∃nb,P.length=64*nb:=⟨P.length / 64,by omega⟩;have hdiv:P.length / 64=nb:=jA
   rw[hdiv];refine qiv fun pb hp=>?_;subst hp
   refine H.lo (ι:=Nat) (fun j=>[(7,.int .i64 ((64*j:Nat):Int)),(3,.slice (some ⟨pb,0,none⟩) P.length c'),(6,.pointer (some ⟨hb,0,none⟩)),(2,.pointer (some ⟨ob,0,none⟩))]) (fun _=>f)
    (fun j=>row hb 184 (Sha.blocks Sha.start P j).vals::slc (some ⟨pb,0,none⟩) P.length c' 5 1 (bytesV P)::row ob 47 (zb 32)::F) (fun j=>j≤nb) (fun j=>nb-j) 0 (Nat.zero_le _) fun j hj=>?_
   have hj:j≤nb:=hj;by_cases hlt:j<nb
   ·have hbk:Sha.blocks Sha.start P (j+1)=Sha.block (Sha.blocks Sha.start P j) ((P.drop (64*j)).take 64):=rfl;have hcg:∀i,i<64→((P.drop (64*j)).take 64).getD i 0=P.getD (64*j+i) 0:=fun i hi=>Sha.chunk_get P hi
    have hcl:((P.drop (64*j)).take 64).length=64:=by rw[List.length_take,List.length_drop];omega
    generalize(P.drop (64*j)).take 64=ch at hbk hcg hcl;show H _ _ _ _ _ (row hb _ (Sha.blocks Sha.start P j).vals::_) _;generalize Sha.blocks Sha.start P j=sj at hbk⊢;refine gG ?_;refine H.Aj (ls:=(bytesV ch).take 0++(zb 64).drop 0) rfl rfl rfl fun ib=>?_;refine gT ?_
    refine H.lo (ι:=Nat) (fun i=>[(9,.int .i64 (i:Int)),(8,.pointer (some ⟨ib,0,none⟩)),(7,.int .i64 ((64*j:Nat):Int)),(3,.slice (some ⟨pb,0,none⟩) P.length c'),(6,.pointer (some ⟨hb,0,none⟩)),(2,.pointer (some ⟨ob,0,none⟩))]) (fun _=>f)
     (fun i=>row ib 186 ((bytesV ch).take i++(zb 64).drop i)::row hb 184 sj.vals::slc (some ⟨pb,0,none⟩) P.length c' 5 1 (bytesV P)::row ob 47 (zb 32)::F) (fun i=>i≤64) (fun i=>64-i) 0 (Nat.zero_le _) fun i hi=>?_
    have hi:i≤64:=hi;by_cases hli:i<64
    ·have hset:SetV ((bytesV ch).take i++(zb 64).drop i) i (.int .u8 ((P.getD (64*j+i) 0).toNat:Nat)) ((bytesV ch).take (i+1)++(zb 64).drop (i+1)):=by
      rw[←hcg i hli];exact fill_set (zcf jA) (by rw[zac,hcl];rfl)
     refine gc ?_;refine H.Bv (i:=64*j+i) rfl rfl rfl jA jA rfl ?_;refine H.Ab rfl rfl rfl (.of (Rd.ofSlc at2 jA) (zcf jA)) rfl ?_;refine H.Al (i:=i) rfl rfl rfl rfl hli rfl ?_;refine H.Ba (ls':=(bytesV ch).take (i+1)++(zb 64).drop (i+1)) rfl rfl rfl rfl jB jQ ?_;refine gW ?_;exact H.ag (i+1) jv jf
    ·have hi64:i=64:=jA
     subst hi64
     have hfull:(bytesV ch).take 64++(zb 64).drop 64=bytesV ch:=by
      rw[List.take_of_length_le (by rw[zac,hcl];exact Nat.le_refl _)];show bytesV ch++[]=_;rw[List.append_nil]
     rw[hfull];refine gY ?_;refine H.Ad (ls:=sj.vals) rfl rfl rfl (Rd.ofRow jB) rfl rfl ?_;refine H.Ad (ls:=bytesV ch) rfl rfl rfl (Rd.ofRow jB) (by rw[zac,hcl]) rfl ?_;refine H.Af rfl rfl rfl (block_fn f _ hcl) ?_;refine H.Ag (ls:=sj.vals) (vs:=(Sha.block sj ch).vals) (ls':=(Sha.block sj ch).vals) rfl rfl rfl (zaa rfl) rfl rfl (Nat.le_refl 8) jB ?_;refine gW ?_;refine H.pd (x:=row ib _ _) ?_;refine H.Bh (d:=7) (u:=.int .i64 ((64*(j+1):Nat):Int)) rfl (congrArg (Value.int .i64) jA) ?_;exact H.Ar (j+1) (by show j+1≤nb;omega) (by show nb-(j+1)<nb-j;omega) ⟨rfl,rfl,rfl,rfl,trivial⟩ rfl (by rw[hbk])
   ·have hjn:j=nb:=jA
    subst hjn;generalize Sha.blocks Sha.start P j=sj;refine gc ?_;refine H.Aj (ls:=(b32 sj.out).take 0++(zb 32).drop 0) rfl rfl rfl fun rb=>?_;refine gT ?_
    refine H.lo (ι:=Nat) (fun i=>[(11,.int .i64 (i:Int)),(10,.pointer (some ⟨rb,0,none⟩)),(6,.pointer (some ⟨hb,0,none⟩)),(2,.pointer (some ⟨ob,0,none⟩))]) (fun _=>f)
     (fun i=>row rb 47 ((b32 sj.out).take i++(zb 32).drop i)::row hb 184 sj.vals::slc (some ⟨pb,0,none⟩) P.length c' 5 1 (bytesV P)::row ob 47 (zb 32)::F) (fun i=>i≤32) (fun i=>32-i) 0 (Nat.zero_le _) fun i hi=>?_
    have hi:i≤32:=hi;by_cases hli:i<32
    ·have hset:SetV ((b32 sj.out).take i++(zb 32).drop i) i (.int .u8 ((sj.out i).toNat:Nat)) ((b32 sj.out).take (i+1)++(zb 32).drop (i+1)):=fill_set (b32_get _ hli) rfl;have hgv:=Sha.S8.get_vals sj (i:=i / 4) jA
     unfold Sha.S8.out at hset;refine gG ?_;refine H.quo rfl rfl rfl jC (z:=((i / 4:Nat):Int)) (by rw[show(4:Int)=((4:Nat):Int)from rfl,tdiv64,wr_i64 jA]) rfl ?_;refine H.Al (i:=i / 4) rfl rfl rfl rfl jA rfl ?_;refine H.Ab rfl rfl rfl (.of (Rd.ofRow jB) (by rw[Nat.mul_one];exact hgv)) rfl ?_;refine gI ?_;refine H.rem rfl rfl rfl jC (tmod64 i 4) rfl ?_;refine gH ?_;refine H.Bh (d:=76) (u:=.int .u64 ((24-8*(i % 4):Nat):Int)) rfl (congrArg (Value.int .u64) jA) ?_;refine H.Bo rfl rfl rfl (u32_shr _ _ jA) jA rfl rfl ?_;refine H.Bk rfl rfl (u8_ofU32 _) rfl ?_;refine H.Al (i:=i) rfl rfl rfl rfl hli rfl ?_;refine H.Ba (ls':=(b32 sj.out).take (i+1)++(zb 32).drop (i+1)) rfl rfl rfl rfl jB jQ ?_;exact qcP
    ·have hi32:i=32:=jA
     subst hi32;refine gY ?_;refine H.Ad (ls:=b32 sj.out) rfl rfl rfl (Rd.ofRow jB) rfl rfl ?_;refine H.Ag (ls:=zb 32) (vs:=b32 sj.out) (ls':=b32 sj.out) rfl rfl rfl (zaa rfl) rfl rfl (Nat.le_refl 32) jB ?_;refine qiY ?_;refine qjj ?_;exact qae
end
variable {F:List HP} {v:Value}
theorem Fn.frozen{fid:FuncId}{args:List Value}{F':List HP}{x:HP}(h:∀g,x g→Dj f g→Fn P fid args (un f g) F (Ret v (un f g) F')):Fn P fid args f (x::F) (Ret v f (x::F')):=fun base w s=>by
 obtain⟨g,hx,hd,s'⟩:=s.freeze (.here F x)
 refine(h g hx hd base w s').mono ?_
 rintro e w' ⟨u,f',A',rfl,⟨rfl,rfl,rfl⟩,s2⟩
 exact⟨_,f,_,rfl,⟨rfl,rfl,rfl⟩,s2.thaw hx hd⟩
variable {g:Frag}
theorem row_bat{b:Nat}{l:List UInt8}(h:row b T (bytesV l) g)(hd:Dj f g):BAt (un f g) (some ⟨b,0,none⟩) l:=by
 have hg:g=sing b (.cells (bytesV l).toArray T (0,0)):=h;refine .inr ⟨b,0,(bytesV l).toArray,T,(0,0),rfl,?_,fun i hi=>by simp⟩
 exact qce
theorem fill_splice{a z:List Value}{i k:Nat}(hz:z.length=a.length)(h:i+k≤a.length):splice (a.take i++z.drop i) i ((a.drop i).take k)=a.take (i+k)++z.drop (i+k):=by
 have hl:(a.take i).length=i:=by rw[List.length_take];omega
 have hk:((a.drop i).take k).length=k:=by rw[List.length_take,List.length_drop];omega
 have d1:(a.take i++z.drop i).drop (i+k)=z.drop (i+k):=by
  rw[List.drop_append,hl,@List.drop_eq_nil_of_le _ (a.take i) (i+k) (by rw[hl];omega),List.nil_append,List.drop_drop];congr 1;omega
 have t1:(a.take i++z.drop i).take i=a.take i:=by rw[List.take_append_of_le_length jA,List.take_of_length_le jA]
 unfold splice;rw[hk,t1,d1,List.take_add]
theorem padZ_lt(n:Nat):Sha.padZ n<64:=by unfold Sha.padZ;omega
theorem splice_all{vs:List Value}(h:vs.length=ls.length):splice ls 0 vs=vs:=by
 unfold splice;rw[List.take_zero,List.nil_append,Nat.zero_add,h,List.drop_length,List.append_nil]
theorem hRow_one(s:Sha.S8)(part:List UInt8)(n all:Nat):∀v∈hRow s part n all,one v=true:=fun v hv=>by
 unfold hRow at hv
 rw[List.mem_append,List.mem_append]at hv
 rcases hv with(hv|hv)|hv
 ·exact zaa (l:=s.vals) rfl v hv
 ·exact zaj part v hv
 ·exact zaa (l:=[.int .i64 (n:Nat),.int .u64 (all:Nat)]) rfl v hv
def endB(b:List UInt8)(j:Nat):List UInt8:=b++[0x80]++List.replicate j 0
theorem endB_len(b:List UInt8)(j:Nat):(endB b j).length=b.length+1+j:=by
 unfold endB;rw[lnA,lnA,List.length_replicate];rfl
theorem endB_succ(b:List UInt8)(j:Nat):endB b j++[0]=endB b (j+1):=by
 unfold endB;rw[List.append_assoc,List.replicate_succ']
theorem HSt.n_eq{s:Sha.S8}{part:List UInt8}(h:HSt b s part n):n=b.length % 64:=by
 obtain⟨⟨q,h1,_,_⟩,h4,_⟩:=h;omega
theorem HSt.s_eq{s:Sha.S8}{part:List UInt8}(h:HSt b s part n):s=Sha.blocks Sha.start b (b.length / 64):=by
 obtain⟨⟨q,h1,h2,_⟩,h4,_⟩:=h;rw[h2];congr 1;omega
def four(x:UInt32):List UInt8:=[(x >>> (UInt32.ofNat 24)).toUInt8,(x >>> (UInt32.ofNat 16)).toUInt8,(x >>> (UInt32.ofNat 8)).toUInt8,x.toUInt8]
theorem shr0(x:UInt32):x >>> (UInt32.ofNat 0)=x:=by
 apply UInt32.toBitVec_inj.1;simp
theorem four_out(s:Sha.S8){i:Nat}(h:i<8):four (s.get i)=((b32L s.out).drop (4*i)).take 4:=by
 match i,h with
 |0,_=>show _=[s.out 0,s.out 1,s.out 2,s.out 3];unfold four Sha.S8.out;rw[show(24-8*(3 % 4))=0 from rfl,shr0]
 |1,_=>show _=[s.out 4,s.out 5,s.out 6,s.out 7];unfold four Sha.S8.out;rw[show(24-8*(7 % 4))=0 from rfl,shr0]
 |2,_=>show _=[s.out 8,s.out 9,s.out 10,s.out 11];unfold four Sha.S8.out;rw[show(24-8*(11 % 4))=0 from rfl,shr0]
 |3,_=>show _=[s.out 12,s.out 13,s.out 14,s.out 15];unfold four Sha.S8.out;rw[show(24-8*(15 % 4))=0 from rfl,shr0]
 |4,_=>show _=[s.out 16,s.out 17,s.out 18,s.out 19];unfold four Sha.S8.out;rw[show(24-8*(19 % 4))=0 from rfl,shr0]
 |5,_=>show _=[s.out 20,s.out 21,s.out 22,s.out 23];unfold four Sha.S8.out;rw[show(24-8*(23 % 4))=0 from rfl,shr0]
 |6,_=>show _=[s.out 24,s.out 25,s.out 26,s.out 27];unfold four Sha.S8.out;rw[show(24-8*(27 % 4))=0 from rfl,shr0]
 |7,_=>show _=[s.out 28,s.out 29,s.out 30,s.out 31];unfold four Sha.S8.out;rw[show(24-8*(31 % 4))=0 from rfl,shr0]
def outRow(t:Nat→UInt8)(i:Nat):List Value:=(bytesV (b32L t)).take i++(List.replicate 32 (.int .u8 0)).drop i
theorem outRow_splice(s:Sha.S8){i:Nat}(h:i<8):splice (outRow s.out (4*i)) (4*i) (bytesV (four (s.get i)))=outRow s.out (4*(i+1)):=by
 rw[four_out s h];unfold outRow;have e:bytesV (((b32L s.out).drop (4*i)).take 4)=((bytesV (b32L s.out)).drop (4*i)).take 4:=by unfold bytesV;rw[List.map_take,List.map_drop]
 rw[e,fill_splice (by rw[List.length_replicate];rfl) (by show 4*i+4≤32;omega),show 4*(i+1)=4*i+4 by omega]
variable {hb:Nat}
section
variable (f:Frag) (F:List HP)
theorem swriteO_fn(htab:TabAt f){cb:Nat}{c:List UInt8}{cap:Nat}(hcap:c.length≤cap)(hl:b.length+c.length≤1000000000000):Fn prog 231 [.pointer (some ⟨hb,0,none⟩),.slice (some ⟨cb,0,none⟩) c.length cap] f (row cb T (bytesV c)::hashH hb b::F) (Ret (.tuple #[]) f (row cb T (bytesV c)::hashH hb (b++c)::F)):=
 Fn.frozen fun g hg hd=>swrite_fn (un f g) F (IntsAt.mono (Le.un f g) htab) (row_bat hg hd) hcap hl
theorem hsum_fn(htab:TabAt f)(hl:b.length≤1000000000):Fn prog 232 [.pointer (some ⟨hb,0,none⟩)] f (hashH hb b::F) (Ret (.agg (b32 (Sha.sum b)).toArray) f (hashH hb b::F)):=by
 have e1:IntKind.u64.wrap (((b.length:Nat):Int)*8)=((b.length*8:Nat):Int):=by rw[wr_u64 jA];omega
 have hpad:=padZ_lt b.length;refine Fn.e1 func232 ntmps232 fun base=>?_
 refine gA ?_;refine H.Aj (ls:=outRow (Sha.sum b) 0) rfl rfl rfl fun ob=>?_;refine gA ?_;refine H.callE rfl rfl rfl (snew_fn f _) fun eb=>?_;refine gS ?_;refine H.Bz fun i0 hi0=>?_;obtain⟨s1,part1,n1⟩:=i0;have hi0:HSt [] s1 part1 n1:=hi0;refine H.pf (x:=hashH hb b) ?_
 refine H.Bz fun i1 hi1=>?_;obtain⟨s0,part0,n0⟩:=i1;have hi1:HSt b s0 part0 n0:=hi1;show H _ _ _ _ _ (row hb _ (hRow s0 part0 n0 b.length)::_) _
 refine H.Ad (ls:=hRow s0 part0 n0 b.length) rfl rfl rfl (Rd.ofRow jB) (hRow_len _ _ _ _ hi1.len) rfl ?_;refine H.imp (hashH_fold hi1) ?_;refine qkN ?_;refine H.pf (x:=row eb _ _) ?_;show H _ _ _ _ _ (row eb _ (hRow s1 part1 n1 0)::_) _;refine gI ?_;refine H.Ag (ls:=hRow s1 part1 n1 0) (vs:=hRow s0 part0 n0 b.length) (ls':=hRow s0 part0 n0 b.length) rfl rfl rfl (hRow_one _ _ _ _) (hRow_len _ _ _ _ hi1.len) (splice_all (by rw[hRow_len _ _ _ _ hi1.len,hRow_len _ _ _ _ hi0.len])) (by rw[hRow_len _ _ _ _ hi1.len,hRow_len _ _ _ _ hi0.len];decide) jB ?_;repeat(first|(refine H.Ab rfl rfl rfl (.at0 (Rd.ofRow jB) (hRow_all s0 part0 n0 b.length hi1.len)) rfl ?_)|(apply H.ar;(iterate 4 exact rfl);exact e1;exact rfl)|(refine gh ?_))
 refine H.pf (x:=row eb _ _) ?_;refine H.imp (hashH_fold hi1) ?_;refine H.Aq (out:=bytesV [0x80]) rfl rfl rfl rfl jC jC rfl rfl fun cb=>?_;refine H.Af rfl rfl rfl (swriteO_fn f _ htab (c:=[0x80]) (Nat.le_refl 1) (by show b.length+1≤_;omega)) ?_;refine qeK ?_;clear hi0 hi1;refine gT ?_
 refine H.loop (ι:=Nat) (fun j=>[(3,.pointer (some ⟨eb,0,none⟩)),(2,.pointer (some ⟨ob,0,none⟩)),(4,.int .u64 ((b.length*8:Nat):Int))]) (fun _=>f)
  (fun j=>hashH eb (endB b j)::row ob 47 (outRow (Sha.sum b) 0)::hashH hb b::F) (fun j=>j≤Sha.padZ b.length) (fun j=>Sha.padZ b.length-j) 0 (Nat.zero_le _) ⟨rfl,rfl,rfl,trivial⟩ rfl (by rw[show endB b 0=b++[0x80]from List.append_nil _]) fun j hj=>?_
 have hj:j≤Sha.padZ b.length:=hj;refine H.Bz fun i1 hi1=>?_
 obtain⟨s0,part0,n0⟩:=i1;have hi1:HSt (endB b j) s0 part0 n0:=hi1;have hn:=hi1.n_eq
 rw[endB_len]at hn;show H _ _ _ _ _ (row eb _ (hRow s0 part0 n0 (endB b j).length)::_) _;by_cases hlt:j<Sha.padZ b.length
 ·have hne:n0≠56:=by rw[hn];exact Sha.pad_not hlt
  refine qhX ?_;refine qiP fun cb=>?_;refine H.Af rfl rfl rfl (swriteO_fn f _ htab (c:=[0]) (Nat.le_refl 1) (by rw[endB_len];show b.length+1+j+1≤_;omega)) ?_;refine qeK ?_;refine gT ?_;exact H.Ar (j+1) (by show j+1≤_;omega) (by show Sha.padZ b.length-(j+1)<Sha.padZ b.length-j;omega) ⟨rfl,rfl,rfl,trivial⟩ rfl (by rw[endB_succ];rfl)
 ·have hjp:j=Sha.padZ b.length:=jA
  have hne:n0=56:=by rw[hn,hjp];exact Sha.pad_is _
  refine qhX ?_;rw[hjp];clear hi1 hn hne hlt hj hjp;have hel:=endB_len b (Sha.padZ b.length)
  refine H.loop (ι:=Nat) (fun i=>[(5,.int .i64 (7-(i:Int))),(3,.pointer (some ⟨eb,0,none⟩)),(2,.pointer (some ⟨ob,0,none⟩)),(4,.int .u64 ((b.length*8:Nat):Int))]) (fun _=>f)
   (fun i=>hashH eb (endB b (Sha.padZ b.length)++beTop 8 ((b.length*8:Nat):Int) i)::row ob 47 (outRow (Sha.sum b) 0)::hashH hb b::F) (fun i=>i≤8) (fun i=>8-i) 0 (Nat.zero_le _) ⟨rfl,rfl,rfl,rfl,trivial⟩ rfl (by rw[show beTop 8 ((b.length*8:Nat):Int) 0=[]from rfl,List.append_nil];rfl) fun i hi=>?_
  have hi:i≤8:=hi;show H _ _ _ ((5,.int .i64 (7-(i:Int)))::_) _ _ _
  generalize hbits:((b.length*8:Nat):Int)=nb at *;by_cases hlt:i<8
  ·have e2:IntKind.i64.wrap (8*(7-(i:Int)))=8*(7-(i:Int)):=wr_i64 jA;have hexp:min (8*(7-(i:Int))).toNat IntKind.u64.bits=8*(8-1-i):=by simp only[IntKind.bits];omega
   have hsh:nb.fdiv (2 ^ (min (8*(7-(i:Int))).toNat IntKind.u64.bits))=nb.fdiv (2 ^ (8*(8-1-i))):=by rw[hexp]
   repeat(first|(apply H.ar;(iterate 4 exact rfl);exact e2;exact rfl)|(refine gh ?_))
   refine H.Bo rfl rfl rfl rfl jA hsh rfl ?_;refine H.Bk rfl rfl (byteAt_wrap nb (8-1-i)) rfl ?_;refine H.Aq (out:=bytesV [byteAt nb (8-1-i)]) rfl rfl rfl rfl jC jC rfl rfl fun cb=>?_;refine H.Af rfl rfl rfl (swriteO_fn f _ htab (c:=[byteAt nb (8-1-i)]) (Nat.le_refl 1) (by rw[lnA,hel,beTop_len];show _+1≤_;omega)) ?_;refine qeK ?_;refine qjP ?_;exact H.Ar (i+1) ki kG ⟨rfl,rfl,rfl,rfl,trivial⟩ rfl (by show _=hashH eb (endB b (Sha.padZ b.length)++(beTop 8 nb i++[byteAt nb (8-1-i)]))::_;rw[List.append_assoc])
  ·have hi8:i=8:=jA
   subst hi8;refine gR ?_;refine H.Bz fun i1 hi1=>?_;obtain⟨s0,part0,n0⟩:=i1;have hi1:HSt (endB b (Sha.padZ b.length)++beTop 8 nb 8) s0 part0 n0:=hi1;have hpd:endB b (Sha.padZ b.length)++beTop 8 nb 8=Sha.padded b:=by rw[←hbits];rfl
   have hs:=hi1.s_eq;rw[hpd]at hs
   have hsum:Sha.sum b=s0.out:=by rw[hs];rfl
   rw[hsum];show H _ _ _ _ _ (row eb _ (hRow s0 part0 n0 _)::_) _;repeat(first|(refine H.Ad (ls:=s0.vals) rfl rfl rfl (hRow_rds jB) rfl rfl ?_)|(refine gh ?_))
   clear hs hsum hpd hi1;refine qgJ ?_
   refine H.lo (ι:=Nat) (fun i=>[(48,.int .i64 (i:Int)),(47,.agg s0.vals.toArray),(2,.pointer (some ⟨ob,0,none⟩))]) (fun _=>f)
    (fun i=>row ob 47 (outRow s0.out (4*i))::hashH hb b::F) (fun i=>i≤8) (fun i=>8-i) 0 (Nat.zero_le _) fun i hi=>?_
   have hi:i≤8:=hi;by_cases hlt:i<8
   ·have hg2:=Sha.S8.get_vals s0 hlt;have hset:=outRow_splice s0 hlt
    have e4:IntKind.i64.wrap (4*(i:Int))=((4*i:Nat):Int):=by rw[wr_i64 jA];omega
    show H _ _ _ _ _ (row ob _ (outRow s0.out (4*i))::_) _;generalize s0.get i=x at hg2 hset;repeat(first|(apply H.ar;(iterate 4 exact rfl);exact e4;exact rfl)|(refine gh ?_)|(apply H.indexV (i:=i);(iterate 4 exact rfl);exact hlt;exact rfl;exact hg2;exact rfl))
    refine H.Bt (lo:=some (.tmp 53)) (mx:=none) (hi:=none) (lv:=4*i) (hv:=32) (mv:=32) rfl rfl ⟨_,_,rfl,rfl⟩ rfl rfl (fun h=>by cases h) jA jA jC rfl ?_;rw[slP_ne jA];refine gI ?_;refine H.Bo (op:=.shr) rfl rfl rfl (u32_shr x 24 jC) jC rfl rfl ?_;refine H.Bk rfl rfl (u8_ofU32 _) rfl ?_;refine gI ?_;refine H.Bo (op:=.shr) rfl rfl rfl (u32_shr x 16 jC) jC rfl rfl ?_;refine H.Bk rfl rfl (u8_ofU32 _) rfl ?_;refine gI ?_;refine H.Bo (op:=.shr) rfl rfl rfl (u32_shr x 8 jC) jC rfl rfl ?_;refine H.Bk rfl rfl (u8_ofU32 _) rfl ?_;repeat(first|(refine H.Bk rfl rfl (u8_ofU32 x) rfl ?_)|(refine gh ?_))
    refine H.Aq (out:=bytesV (four x)) rfl rfl rfl rfl jC jC rfl rfl fun cb=>?_
    refine H.copy (k0:=4) (m:=4) (cs:=bytesV (four x)) (ls:=outRow s0.out (4*i)) (ls':=outRow s0.out (4*(i+1))) rfl rfl rfl rfl
     (Src.slice (P:=prog) (f:=f) (A:=[row cb 5 (bytesV (four x))]) (sz:=1) (m:=4) (Rd.ofRow jB) rfl).len (Nat.min_eq_left jA) (Src.slice (m:=4) (Rd.ofRow jB) rfl).copy
     (by rw[show 0+4*i*1=4*i by omega];exact hset) (by show 0+4*i*1+4≤_;unfold outRow;rw[lnA,List.length_take,List.length_drop,List.length_replicate];show _≤min _ 32+_;omega) (zaj _) jB ?_
    refine gW ?_;refine H.pd (x:=row cb _ _) ?_;exact qbS
   ·have hi8:i=8:=jA
    subst hi8;refine gY ?_;refine H.Ad (ls:=b32 s0.out) rfl rfl rfl (Rd.ofRow jB) rfl rfl ?_;refine H.Ag (ls:=b32 s0.out) (vs:=b32 s0.out) (ls':=b32 s0.out) rfl rfl rfl (zaa rfl) rfl rfl (Nat.le_refl 32) jB ?_;refine gT ?_;exact qae
end
theorem u8_bv(x:UInt8):BitVec.ofInt 8 (x.toNat:Int)=x.toBitVec:=by
 simp[BitVec.ofInt_natCast]
theorem u8_wrapN(x:UInt8):IntKind.u8.wrap ((x.toNat:Nat):Int)=(x.toNat:Int):=by
 have:=x.toNat_lt;rw[wr_u8 jA]
theorem u8_xor(x y:UInt8):bitsI .xor .u8 (x.toNat:Int) (y.toNat:Int)=some (((x ^^^ y).toNat:Nat):Int):=by
 have e:(BitVec.ofInt 8 (x.toNat:Int) ^^^ BitVec.ofInt 8 (y.toNat:Int)).toNat=(x ^^^ y).toNat:=by rw[u8_bv,u8_bv];rfl
 show some (IntKind.u8.wrap ((BitVec.ofInt 8 (x.toNat:Int) ^^^ BitVec.ofInt 8 (y.toNat:Int)).toNat:Int))=_;rw[e,u8_wrapN]
variable {key:List UInt8}
namespace Sha
def full(key:List UInt8):List UInt8:=key++List.replicate (64-key.length) 0
def turn(key:List UInt8)(t:UInt8):List UInt8:=(full key).map (· ^^^ t)
def hmac(key b:List UInt8):Nat→UInt8:=sum (turn key 0x5c++b32L (sum (turn key 0x36++b)))
def word32(word:List UInt8)(i:Int):List UInt8:=b32L (sum (word++be 8 i))
def replicaW:List UInt8:=[114,97,116,99,104,101,116,32,114,101,112,108,105,99,97]
def numbered(i n:Int)(b:List UInt8):Nat→UInt8:=hmac (word32 replicaW i) (be 8 n++b)
theorem full_len(h:key.length≤64):(full key).length=64:=by
 unfold full;rw[lnA,List.length_replicate];omega
theorem turn_len(h:key.length≤64)(t:UInt8):(turn key t).length=64:=by
 unfold turn;rw[List.length_map,full_len h]
end Sha
variable {r:Option Addr} {d:Nat}
section
variable (f:Frag) (F:List HP)
theorem with_fn{t:UInt8}(hs:Src prog f F (.slice p key.length c) 1 key.length (bytesV key))(hl:key.length≤64):Fn prog 61 [.slice p key.length c,.int .u8 (t.toNat:Nat)] f F (BytesR (Sha.turn key t) f F):=by
 refine Fn.e2 func61 ntmps61 fun base=>?_;refine gI ?_;refine qeU fun eb=>?_;refine H.asSlc (k:=0) (sz:=1) rfl jC ?_;refine gI ?_;refine H.Av (xs:=[]) rfl rfl rfl rfl rfl (fun p' c'=>.here _ _ _) hs.cons (zaj key) rfl jA jA fun p1 c1=>?_;rw[Nat.zero_add,List.nil_append];refine gc ?_
 refine H.loop (ι:=Nat×Option Addr×Nat) (fun i=>[(5,.slice i.2.1 (key++List.replicate i.1 0).length i.2.2),(1,.int .u8 (t.toNat:Nat))]) (fun _=>f)
  (fun i=>slc i.2.1 (key++List.replicate i.1 0).length i.2.2 5 1 (bytesV (key++List.replicate i.1 0))::F) (fun i=>i.1≤64-key.length) (fun i=>64-key.length-i.1) (0,p1,c1) (Nat.zero_le _) ⟨?_,rfl,trivial⟩ rfl ?_ fun i hi=>?_
 ·show some (Value.slice p1 key.length c1)=some (Value.slice p1 (key++[]).length c1);rw[List.append_nil]
 ·show _=slc p1 (key++[]).length c1 _ 1 (bytesV (key++[]))::F;rw[List.append_nil]
 obtain⟨i,p',c'⟩:=i;have hi:i≤64-key.length:=hi;show H _ _ _ [(5,.slice p' (key++List.replicate i 0).length c'),_] _ (slc p' (key++List.replicate i 0).length c' _ 1 (bytesV (key++List.replicate i 0))::_) _
 have hal:(key++List.replicate i 0).length=key.length+i:=by rw[lnA,List.length_replicate]
 by_cases hlt:i<64-key.length
 ·have e3:key++List.replicate (i+1) 0=(key++List.replicate i 0)++[0]:=by rw[List.replicate_succ',←List.append_assoc]
  generalize key++List.replicate i 0=acc at hal e3⊢;refine gG ?_;refine qiP fun tb=>?_;refine qhU fun p3 c3=>?_;refine qja ?_;refine gT ?_;refine H.Ar (i+1,p3,c3) jz (by show 64-key.length-(i+1)<64-key.length-i;omega) ⟨?_,rfl,trivial⟩ rfl ?_
  ·show some (Value.slice p3 (acc.length+1) c3)=some (Value.slice p3 (key++List.replicate (i+1) 0).length c3);exact qed
  ·show _=slc p3 (key++List.replicate (i+1) 0).length c3 _ 1 (bytesV (key++List.replicate (i+1) 0))::_;exact qdM
 ·have hip:i=64-key.length:=jA
  subst hip;have hfl:=Sha.full_len hl;have htl:=Sha.turn_len hl t
  have hget:∀i,i<64→(Sha.turn key t).getD i 0=(Sha.full key).getD i 0 ^^^ t:=fun i hi=>by
   exact qbE
  have hfk:key++List.replicate (64-key.length) 0=Sha.full key:=rfl;rw[hfk]at hal⊢
  generalize Sha.full key=K at hfl hget hal⊢;generalize Sha.turn key t=T at htl hget⊢;refine gc ?_;refine H.Au aP0 jA fun kb hp=>?_;subst hp
  refine H.lo (ι:=Nat) (fun i=>[(7,.int .i64 (i:Int)),(5,.slice (some ⟨kb,0,none⟩) K.length c'),(1,.int .u8 (t.toNat:Nat))]) (fun _=>f)
   (fun i=>slc (some ⟨kb,0,none⟩) K.length c' 5 1 ((bytesV T).take i++(bytesV K).drop i)::F) (fun i=>i≤64) (fun i=>64-i) 0 (Nat.zero_le _) fun i hi=>?_
  have hi:i≤64:=hi;have hTK:(bytesV T).length=(bytesV K).length:=by rw[zac,zac,hfl,htl]
  by_cases hli:i<64
  ·have hset:SetV ((bytesV T).take i++(bytesV K).drop i) i (.int .u8 ((K.getD i 0 ^^^ t).toNat:Nat)) ((bytesV T).take (i+1)++(bytesV K).drop (i+1)):=by
    exact qdR
   have hg:((bytesV T).take i++(bytesV K).drop i)[i]?=some (.int .u8 ((K.getD i 0).toNat:Nat)):=fill_get2 (Nat.le_refl _) hTK (zcf jA);refine qgT ?_
   refine H.Bf rfl rfl rfl (u8_xor _ _) rfl rfl ?_;exact qbi
  ·have hi64:i=64:=jA
   subst hi64
   have hfull:(bytesV T).take 64++(bytesV K).drop 64=bytesV T:=qca
   rw[hfull];have hKT:K.length=T.length:=jA
   rw[hKT];refine gY ?_;exact H.r1 ⟨_,c',rfl,rfl,rfl⟩
theorem hmac_fn(hs:∀G,Src prog f (G++F) (.slice p key.length c) 1 key.length (bytesV key))(hs2:∀G,Src prog f (G++F) (.slice r b.length d) 1 b.length (bytesV b))(hl:key.length≤64)(hl2:b.length≤100000000):Fn prog 32 [.slice p key.length c,.slice r b.length d] f F (Ret (.agg (b32 (Sha.hmac key b)).toArray) f F):=by
 refine Fn.e2 func32 ntmps32 fun base=>?_;refine gA ?_;refine qgB fun ob=>?_;refine gI ?_;refine H.Am rfl rfl rfl (with_fn (t:=0x36) f _ (hs [_]) hl) fun p1 c1=>?_;have h1:=Sha.turn_len hl 0x36;generalize hT:Sha.turn key 0x36=T at h1
 refine gI ?_;refine H.Av (xs:=bytesV T) rfl rfl rfl rfl rfl (fun p' c'=>.here _ _ _) (hs2 [_,_]) (zaj b) rfl jA jA fun p2 c2=>?_;have e1:(T++b).length=T.length+b.length:=lnA;have e2:bytesV (T++b)=bytesV T++bytesV b:=zaf _ _
 rw[←e1,←e2];refine H.Af rfl rfl rfl (rsum_fn f _ (b:=T++b) (Src.slcS aP0 jG) jA) ?_;refine qeK ?_;refine qgB fun ib=>?_;refine qit ?_;generalize hin:Sha.sum (T++b)=inn;refine qgY ?_;refine HB.qu [0,2] 4 ?_;refine gB ?_;refine qeF ?_;refine qio ?_;refine H.Am rfl rfl rfl (with_fn (t:=0x5c) f _ (hs [_,_]) hl) fun p3 c3=>?_;have h2:=Sha.turn_len hl 0x5c;generalize hT2:Sha.turn key 0x5c=T2 at h2
 refine qiN ?_;refine HB.ev 3 ?_;refine H.Av (xs:=bytesV T2) (m:=32) (news:=bytesV (b32L inn)) rfl rfl rfl rfl rfl (fun p' c'=>jB) (Src.slice (Rd.ofRow aP0) rfl) (zaj _) rfl jA jA fun p4 c4=>?_;refine qeg ?_;refine HB.ev 4 ?_;have e3:(T2++b32L inn).length=T2.length+32:=by rw[lnA];rfl
 have e4:bytesV (T2++b32L inn)=bytesV T2++bytesV (b32L inn):=zaf _ _;have hfin:Sha.hmac key b=Sha.sum (T2++b32L inn):=by unfold Sha.hmac;rw[hT,hT2,hin]
 rw[hfin];generalize T2++b32L inn=l4 at e3 e4⊢;rw[←e3,←e4];refine H.Af rfl rfl rfl (rsum_fn f _ (b:=l4) (Src.slcS jB jG) jA) ?_;refine qeg ?_;refine qhC ?_;refine qeK ?_;refine qkI ?_;exact qae
end
def Msg.signed(m:Msg):Msg:=if m.may=true then {m with tag:=Sha.numbered m.origin m.number m.tagged}else m
theorem Msg.tagged_len(h:m.may=true):m.tagged.length≤3000:=by
 have h1:=Bod.may_spec (Msg.may_body h);have h2:=Bod.may_q (Msg.may_body h)
 have h3:=(putK_len m.body m.body.kind.toNat h1.2.2 h2).2;unfold Msg.tagged Bod.put
 simp only[lnA,List.length_cons,List.length_nil,depsB_len];omega
variable {w:ByteArray} {most:Int}
section
variable (f:Frag) (F:List HP)
theorem rkey_fn{i:Int}(h1:1≤i)(h2:i≤most)(h3:most≤1000)(hw:w.size≤1000):Fn prog 62 [.string w,.int .i64 i,.int .i64 most] f F (BytesR (Sha.word32 w.data.toList i) f F):=by
 have hwl:=zbu w;refine Fn.e3 func62 ntmps62 fun base=>?_
 refine gg ?_;refine H.convSB rfl rfl rfl fun sb sc=>?_;refine gW ?_
 have hs:Src prog f (strRow sb w sc 5::F) (.slice (some ⟨sb,0,none⟩) w.data.toList.length sc) 1 w.data.toList.length (bytesV w.data.toList):=by
  rw[hwl];exact Src.strRow aP0
 have hfn:=zcb (n:=i) f _ hs jA;rw[hwl]at hfn
 refine H.Am rfl rfl rfl hfn fun p1 c1=>?_;have e1:(w.data.toList++be 8 i).length≤2000:=by rw[lnA,be_len,hwl];omega
 unfold Sha.word32;generalize w.data.toList++be 8 i=l1 at e1;refine H.Af rfl rfl rfl (rsum_fn f _ (b:=l1) (Src.slcS aP0 jG) jA) ?_;refine qjj ?_;refine qgB fun db=>?_;refine H.Ag (ls:=zb 32) (vs:=b32 (Sha.sum l1)) (ls':=b32 (Sha.sum l1)) rfl rfl rfl (zaa rfl) rfl rfl (Nat.le_refl 32) jB ?_;generalize Sha.sum l1=d;refine gA ?_;refine qeU fun eb=>?_;refine H.asSlc (k:=0) (sz:=1) rfl jC ?_;refine qim ?_;refine H.Av (xs:=[]) (m:=32) (news:=bytesV (b32L d)) rfl rfl rfl rfl rfl (fun p' c'=>.here _ _ _) (Src.slice (Rd.ofRow at1) rfl) (zaj _) rfl jA jA fun p4 c4=>?_;exact qdm
theorem rreplica_fn{i:Int}(h1:1≤i)(h2:i≤11):Fn prog 57 [.int .i64 i] f F (BytesR (Sha.word32 Sha.replicaW i) f F):=by
 refine Fn.e1 func57 ntmps57 fun base=>?_;refine gI ?_;refine H.Am rfl rfl rfl (rkey_fn (w:=⟨#[114,97,116,99,104,101,116,32,114,101,112,108,105,99,97]⟩) f _ h1 h2 jC jC) fun p1 c1=>?_;exact qbc
theorem rnumbered_fn{i n:Int}(h1:1≤i)(h2:i≤11)(hs:∀G,Src prog f (G++F) (.slice r b.length d) 1 b.length (bytesV b))(hl:b.length≤10000000):Fn prog 28 [.int .i64 i,.int .u64 n,.slice r b.length d] f F (Ret (.agg (b32 (Sha.numbered i n b)).toArray) f F):=by
 refine Fn.e3 func28 ntmps28 fun base=>?_;refine gA ?_;refine qgB fun ob=>?_;refine gI ?_;refine H.Am rfl rfl rfl (rreplica_fn f _ h1 h2) fun p1 c1=>?_;refine gI ?_;refine H.Am rfl rfl rfl (zcb (l:=[]) (n:=n) f _ Src.nil jC) fun p2 c2=>?_;rw[List.nil_append];have h8:=be_len 8 n;refine gI ?_
 refine H.Av (xs:=bytesV (be 8 n)) rfl rfl rfl rfl rfl (fun p' c'=>.here _ _ _) (hs [_,_,_]) (zaj b) rfl jA jA fun p3 c3=>?_;have e1:(be 8 n++b).length=(be 8 n).length+b.length:=lnA;have e2:bytesV (be 8 n++b)=bytesV (be 8 n)++bytesV b:=zaf _ _
 unfold Sha.numbered;have hk:(Sha.word32 Sha.replicaW i).length=32:=rfl;generalize Sha.word32 Sha.replicaW i=key at hk⊢
 generalize be 8 n++b=l1 at e1 e2⊢;rw[←e1,←e2];refine H.Af rfl rfl rfl (hmac_fn f _ (key:=key) (b:=l1) (fun G=>Src.append (Src.slcS at1 jG)) (fun G=>Src.append (Src.slcS aP0 jG)) jA jA) ?_;exact qbq
theorem splice_tag(m:Msg)(q:Option Addr)(qc:Nat)(t:Nat→UInt8):splice (m.vals q qc) (0+89) (b32 t)=({m with tag:=t}:Msg).vals q qc:=by
 unfold Msg.vals;generalize hp:([.int .i64 m.origin,.int .u64 m.number]++v11 m.deps++m.body.vals q qc:List Value)=p;have hl:p.length=89:=by rw[←hp];rfl
 exact qcc
theorem rtagged_fn(hq:QAt f q m.body.q)(hl:m.body.q.length≤1000000000):Fn prog 14 [.agg (m.vals q qc).toArray] f F (Ret (.agg (m.signed.vals q qc).toArray) f F):=by
 have hmay:=fun G=>rmay_fn (m:=m) (qc:=qc) f G hq hl;have e0:m.may=(decide m.outer&&m.body.may):=rfl
 rw[←e0]at hmay;unfold Msg.signed;by_cases hm:m.may=true
 ·rw[if_pos hm];have hbl:=Msg.tagged_len hm
  have hout:m.outer:=by
   unfold Msg.may at hm;simp only[Bool.and_eq_true,decide_eq_true_eq]at hm;exact hm.1
  have hby:∀G,Fn prog 29 [.agg (m.vals q qc).toArray] f G (BytesR m.tagged f G):=fun G=>by
   have:=rbytes_fn (m:=m) (qc:=qc) f G hq hl;unfold Msg.bytes at this
   rwa [if_pos hm]at this
  rw[hm]at hmay;refine Fn.e1 func14 ntmps14 fun base=>?_;refine qfJ fun mb=>?_;refine H.Aj (ls:=(⟨0,0,fun _=>0,Bod.zero 0,noTag⟩:Msg).vals none 0) rfl rfl rfl fun ob=>?_;refine gA ?_;refine qgk ?_;refine gL ?_;refine qeu ?_;refine H.dc [0,1,2,3,4,5,6] (S:=[_]) rfl ?_;refine HB.qu [0,1,2,3,4] 4 ?_;refine gP ?_;refine HQ.Ad (ls:=m.vals q qc) rfl rfl rfl (Rd.ofRow jB) rfl rfl ?_;refine qeo ?_;refine HB.ev 5 ?_;refine H.Am rfl rfl rfl (hby _) fun p1 c1=>?_;generalize m.tagged=tg at hbl⊢;refine qfM ?_;refine HB.ev 6 ?_;refine H.Af rfl rfl rfl (rnumbered_fn f _ hout.1 hout.2.1 (b:=tg) (fun G=>Src.append (Src.slcS at1 jG)) jA) ?_;refine qeg ?_;refine HB.nx [] (S':=[]) rfl ?_;refine HB.qu [7] 1 ?_;refine qfw ?_;refine HB.ev 8 ?_;generalize Sha.numbered m.origin m.number tg=t;refine H.Ag (ls:=m.vals q qc) (vs:=b32 t) (ls':=({m with tag:=t}:Msg).vals q qc) rfl rfl rfl (zaa rfl) rfl (splice_tag m q qc t) (show 89+32≤121 by decide) jB ?_;refine qjr ?_;refine H.Ad (ls:=({m with tag:=t}:Msg).vals q qc) rfl rfl rfl (Rd.ofRow jB) rfl rfl ?_;refine H.Ag (ls:=(⟨0,0,fun _=>0,Bod.zero 0,noTag⟩:Msg).vals none 0) (vs:=({m with tag:=t}:Msg).vals q qc) (ls':=({m with tag:=t}:Msg).vals q qc) rfl rfl rfl (zaa rfl) rfl rfl (Nat.le_refl 121) jB ?_;refine qhh ?_;refine qkI ?_;exact qae
 ·rw[if_neg hm];rw[Bool.eq_false_iff.2 hm]at hmay;refine Fn.e1 func14 ntmps14 fun base=>?_;refine qfJ fun mb=>?_;refine H.Aj (ls:=(⟨0,0,fun _=>0,Bod.zero 0,noTag⟩:Msg).vals none 0) rfl rfl rfl fun ob=>?_;refine gA ?_;refine qgk ?_;refine gW ?_;refine H.Ad (ls:=m.vals q qc) rfl rfl rfl (Rd.ofRow jB) rfl rfl ?_;refine H.Ag (ls:=(⟨0,0,fun _=>0,Bod.zero 0,noTag⟩:Msg).vals none 0) (vs:=m.vals q qc) (ls':=m.vals q qc) rfl rfl rfl (zaa rfl) rfl rfl (Nat.le_refl 121) jB ?_;refine qhh ?_;exact qae
end
variable {e:TypeId}
section rules
variable {P:Program} {base:World} {n:Nat} {L:Env} {f:Frag} {A:List HP} {q:Post}
variable {l rest:List Oper} {d:Nat} {ty:TypeId} {pos:String} {af:Array Edge} {gd:Option (Nat × Bool)}
theorem H.makeS{t:TypeId}{x y:Operand}{kl kc:IntKind}{u v:Int}{m bytes:Nat}{z:Value}{zs:List Value}[hu:Und P t (.slice e)][hsz:Siz P e sz][hb:Byt P e bytes][hz:Zer P e z](hw:want? l L gd=true)
  (hx:ev? L x=some (.int kl u)) (hy:ev? L y=some (.int kc v)) (hum:u=(m:Nat)) (hvm:v=(m:Nat)) (hzs:cellsL z=zs) (h0:zs.length=sz) (h1:0<sz) (hm:bytes*m≤281474976710656) (h63:m≤9223372036854775807) (hd:Nat.ble (d+1) n=true)
  (k:∀b,H P base n ((d,.slice (some ⟨b,0,none⟩) m m)::L) f (row b e (zeros zs m)::A) (.ops l rest q)):H P base n L f A (.ops l (⟨some d,.makeSlice t x y,ty,pos,af,gd⟩::rest) q):=
 H.opE (fun b=>.slice (some ⟨b,0,none⟩) m m) (fun _=>f) (fun b=>row b e (zeros zs m)::A) (fun _=>True) hw hd (fun a w hfr s=>by
  subst hzs;subst h0;subst hum;subst hvm
  obtain⟨i,hi,hi1,hi2,hi3⟩:=info_of hsz hb hz
  have h4:z.cells=(cellsL z).toArray:=by rw[←cellsL_eq]
  have e1:=zeros_array (cellsL z) m h1
  refine⟨w.heap.size,w.alloc (.cells (zeros (cellsL z) m).toArray e (0,0)),trivial,?_,s.alloc rfl rfl rfl rfl⟩
  have hbm:((bytes*m:Nat):Int)≤281474976710656:=jA
  rw[Int.natCast_mul]at hbm
  have hr:=run_make (P:=P) w t e i z hu.eq hi hi3 kl kc (m:Int) (m:Int) jA (Int.le_refl _) (by rw[hi2];exact hbm) jA
  rw[Int.toNat_natCast,hi1,h4]at hr
  unfold madeCells at hr
  rw[e1]at hr
  show Sem.run P (Instr.makeSlice t (a.eval x) (a.eval y) >>= fun v=>pure (Next.value v)) w=_
  simp only[hfr.eval hx,hfr.eval hy,Sem.run_bind,hr,Result.andThen_ok,Sem.run_pure]) (fun b _=>k b)
end rules
variable {s:ByteArray}
theorem strRow_bat{b:Nat}(h:strRow b s c T g)(hd:Dj f g):BAt (un f g) (some ⟨b,0,none⟩) s.data.toList:=by
 have hg:g=sing b (.cells (bytesRow s c) T ((bytesRow s c).size,(bytesRow s c).size+1)):=h;refine .inr ⟨b,0,bytesRow s c,T,((bytesRow s c).size,(bytesRow s c).size+1),rfl,?_,fun i hi=>?_⟩
 ·exact qce
 ·rw[Nat.zero_add];exact bytesRow_get s c (by rw[zbu]at hi;exact hi)
theorem zeros_one(z:Value):∀n:Nat,zeros [z] n=List.replicate n z
 |0=>rfl
 |n+1=>by rw[List.replicate_succ,←zeros_one z n];rfl
def parts2(a b:List UInt8):Nat→List UInt8
 |0=>[]
 |1=>a
 |_=>a++b
def pt2(pb:Nat)(p:Option Addr)(m c:Nat)(q:Option Addr)(k d:Nat):HP:=row pb 23 [.slice p m c,.slice q k d]
variable {pb:Nat} {a:List UInt8}
section
variable (f:Frag) (F:List HP)
theorem tdig_fn(htab:TabAt f)(ha:BAt f p a)(hb:BAt f q b)(hc:a.length≤c)(hd:b.length≤d)(hl:a.length+b.length≤100000000):Fn prog 225 [.slice (some ⟨pb,0,none⟩) 2 2] f (pt2 pb p a.length c q b.length d::F) (Ret (.agg (b32 (Sha.sum (a++b))).toArray) f (pt2 pb p a.length c q b.length d::F)):=by
 unfold pt2;refine Fn.e1 func225 ntmps225 fun base=>?_;refine gA ?_;refine qgB fun ob=>?_;refine gA ?_;refine H.callE rfl rfl rfl (snew_fn f _) fun hb'=>?_;refine gT ?_
 refine H.lo (ι:=Nat) (fun i=>[(9,.int .i64 (i:Int)),(8,.int .i64 ((2:Nat):Int)),(7,.slice (some ⟨pb,0,none⟩) 2 2),(3,.pointer (some ⟨hb',0,none⟩)),(2,.pointer (some ⟨ob,0,none⟩))]) (fun _=>f)
  (fun i=>hashH hb' (parts2 a b i)::row ob 47 (zb 32)::row pb 23 [.slice p a.length c,.slice q b.length d]::F) (fun i=>i≤2) (fun i=>2-i) 0 (Nat.zero_le _) fun i hi=>?_
 have hi:i≤2:=hi
 match i,hi with
 | 0, _ =>
  refine gY ?_;refine H.Bv (i:=0) rfl rfl rfl rfl jC rfl ?_;refine H.Ab rfl rfl rfl (Rd1.ofRow jB rfl) rfl ?_;refine gI ?_;refine H.Af rfl rfl rfl (swrite_fn f _ htab (b:=[]) ha hc (by show 0+a.length≤_;omega)) ?_;refine gW ?_;exact H.ag 1 jC jC
 | 1, _ =>
  refine gY ?_;refine H.Bv (i:=1) rfl rfl rfl rfl jC rfl ?_;refine H.Ab rfl rfl rfl (Rd1.ofRow jB rfl) rfl ?_;refine gI ?_;refine H.Af rfl rfl rfl (swrite_fn f _ htab (b:=a) hb hd jA) ?_;refine gW ?_;exact H.ag 2 jC jC
 | 2, _ =>
  have e2:a++b=parts2 a b 2:=rfl;have hpl:(parts2 a b 2).length≤1000000000:=by show(a++b).length≤_;rw[lnA];omega
  rw[e2];show H _ _ _ _ _ (hashH hb' (parts2 a b 2)::_) _;generalize parts2 a b 2=ab at hpl⊢;refine gY ?_;refine H.Af rfl rfl rfl (hsum_fn f _ htab (b:=ab) hpl) ?_;refine H.Ag (ls:=zb 32) (vs:=b32 (Sha.sum ab)) (ls':=b32 (Sha.sum ab)) rfl rfl rfl (zaa rfl) rfl rfl (Nat.le_refl 32) jB ?_;refine gT ?_;refine H.pd (x:=hashH _ _) ?_;exact qae
theorem turned_fn{t:UInt8}(hk:BAt f p key)(hl:key.length≤64):Fn prog 226 [.slice p key.length c,.int .u8 (t.toNat:Nat)] f F (BytesR (Sha.turn key t) f F):=by
 have hfirst:=fun A=>BAt.first (P:=prog) (A:=A) (c:=c) hk (Nat.le_refl _);rw[List.take_length]at hfirst
 have hlen:=(BAt.src (P:=prog) (A:=[]) (c:=c) hk).len
 have hspl:splice (zb 64) 0 (bytesV key)=bytesV (Sha.full key):=by
  unfold splice Sha.full zb;rw[List.take_zero,List.nil_append,zaf,zac,Nat.zero_add,List.drop_replicate];congr 1;unfold bytesV;rw[List.map_replicate];rfl
 have hfl:=Sha.full_len hl;have htl:=Sha.turn_len hl t
 have hget:∀i,i<64→(Sha.turn key t).getD i 0=(Sha.full key).getD i 0 ^^^ t:=fun i hi=>by
  exact qbE
 refine Fn.e2 func226 ntmps226 fun base=>?_;refine gc ?_;refine H.makeS (m:=64) (zs:=[.int .u8 0]) rfl rfl rfl rfl rfl rfl rfl jC jC jC rfl fun rb=>?_;rw[show zeros [Value.int .u8 0] 64=zb 64 from zeros_one _ _];refine gI ?_;refine H.copy (k0:=key.length) (m:=key.length) (cs:=bytesV key) (ls:=zb 64) (ls':=bytesV (Sha.full key)) rfl rfl rfl rfl hlen (Nat.min_eq_left hl) (hfirst _) hspl (by rw[zac,show(zb 64).length=64 from List.length_replicate];omega) (zaj _) jB ?_;refine H.asSlc (k:=64) (sz:=1) (by rw[zac,hfl]) jC ?_;generalize Sha.full key=K at hfl hget hspl⊢;generalize Sha.turn key t=T at htl hget⊢;refine gT ?_
 refine H.lo (ι:=Nat) (fun i=>[(19,.int .i64 (i:Int)),(6,.slice (some ⟨rb,0,none⟩) 64 64),(1,.int .u8 (t.toNat:Nat))]) (fun _=>f)
  (fun i=>slc (some ⟨rb,0,none⟩) 64 64 5 1 ((bytesV T).take i++(bytesV K).drop i)::F) (fun i=>i≤64) (fun i=>64-i) 0 (Nat.zero_le _) fun i hi=>?_
 have hi:i≤64:=hi;have hTK:(bytesV T).length=(bytesV K).length:=by rw[zac,zac,hfl,htl]
 by_cases hli:i<64
 ·have hset:SetV ((bytesV T).take i++(bytesV K).drop i) i (.int .u8 ((K.getD i 0 ^^^ t).toNat:Nat)) ((bytesV T).take (i+1)++(bytesV K).drop (i+1)):=by
   exact qdR
  have hg:((bytesV T).take i++(bytesV K).drop i)[i]?=some (.int .u8 ((K.getD i 0).toNat:Nat)):=fill_get2 (Nat.le_refl _) hTK (zcf jA);refine qgT ?_
  refine H.Bf (op:=.xor) rfl rfl rfl (u8_xor _ _) rfl rfl ?_;exact qbi
 ·have hi64:i=64:=jA
  subst hi64
  have hfull:(bytesV T).take 64++(bytesV K).drop 64=bytesV T:=qca
  rw[hfull];refine gY ?_;refine H.Ae rfl rfl (A':=slc (some ⟨rb,0,none⟩) T.length 64 5 1 (bytesV T)::F) ?_ ⟨_,64,by rw[htl],rfl,rfl⟩;rw[htl];exact fun _ h=>h
end
section rules
variable {P:Program} {base:World} {n:Nat} {L:Env} {f:Frag} {A:List HP} {q:Post}
variable {l rest:List Oper} {d:Nat} {ty:TypeId} {pos:String} {af:Array Edge} {gd:Option (Nat × Bool)}
theorem H.convSBc{s t:TypeId}{x:Operand}{bs:ByteArray}[hs:Und P s .string][ht:Und P t (.slice e)][he:Und P e (.int .u8)](hw:want? l L gd=true)(hx:ev? L x=some (.string bs))(hd:Nat.ble (d+1) n=true)
  (k:∀b c,bs.size≤c→H P base n ((d,.slice (some ⟨b,0,none⟩) bs.size c)::L) f (strRow b bs c e::A) (.ops l rest q)):H P base n L f A (.ops l (⟨some d,.convert s t x,ty,pos,af,gd⟩::rest) q):=
 H.opE (ι:=Nat×Nat) (fun i=>.slice (some ⟨i.1,0,none⟩) bs.size i.2) (fun _=>f) (fun i=>strRow i.1 bs i.2 e::A) (fun i=>bs.size≤i.2) hw hd (fun a w hfr s'=>by
  have h1:=run_bytes_of_string (P:=P) w s t e bs hs.eq ht.eq he.eq
  have h2:(execOp a.eval ⟨some d,.convert s t x,ty,pos,af,gd⟩).run P w= .ok (.value (.slice (some ⟨w.heap.size,0,none⟩) bs.size (grownCap w bs.size 0 e))) (w.drew.alloc (.cells (bytesRow bs (grownCap w bs.size 0 e)) e ((bytesRow bs (grownCap w bs.size 0 e)).size,(bytesRow bs (grownCap w bs.size 0 e)).size+1))):=by
   simp only[execOp,hfr.eval hx,Sem.run_bind,h1,Result.andThen_ok,Sem.run_pure]
  exact⟨(w.heap.size,grownCap w bs.size 0 e),_,grownCap_ge w bs.size 0 e,h2,Sat.alloc (w:=w) s' rfl rfl rfl rfl⟩) (fun i hi=>k i.1 i.2 hi)
end rules
section
variable (f:Frag) (F:List HP)
theorem tdig_sb(htab:TabAt f)(hb:BAt f q b)(hc:a.length≤c)(hd:b.length≤d)(hl:a.length+b.length≤100000000):Fn prog 225 [.slice (some ⟨pb,0,none⟩) 2 2] f (slc p a.length c 5 1 (bytesV a)::pt2 pb p a.length c q b.length d::F) (Ret (.agg (b32 (Sha.sum (a++b))).toArray) f (slc p a.length c 5 1 (bytesV a)::pt2 pb p a.length c q b.length d::F)):=
 Fn.frozen fun g hg hj=>tdig_fn (un f g) F (IntsAt.mono (Le.un f g) htab) (slc_bat _ hg hj) (BAt.mono (Le.un f g) hb) hc hd hl
theorem tdig_sr(htab:TabAt f){ib:Nat}(hc:a.length≤c)(hd:b.length≤d)(hl:a.length+b.length≤100000000):Fn prog 225 [.slice (some ⟨pb,0,none⟩) 2 2] f (slc p a.length c 5 1 (bytesV a)::row ib T (bytesV b)::pt2 pb p a.length c (some ⟨ib,0,none⟩) b.length d::F)
   (Ret (.agg (b32 (Sha.sum (a++b))).toArray) f (slc p a.length c 5 1 (bytesV a)::row ib T (bytesV b)::pt2 pb p a.length c (some ⟨ib,0,none⟩) b.length d::F)):=
 Fn.frozen fun g hg hj=>Fn.frozen fun g2 hg2 hj2=>tdig_fn (un (un f g) g2) F (IntsAt.mono (Le.un _ g2) (IntsAt.mono (Le.un f g) htab)) (BAt.mono (Le.un _ g2) (slc_bat _ hg hj)) (row_bat hg2 hj2) hc hd hl
theorem tdig_ts(htab:TabAt f){sb:Nat}{a:ByteArray}(hc:a.size≤c)(hd:b.length≤d)(hl:a.size+b.length≤100000000):Fn prog 225 [.slice (some ⟨pb,0,none⟩) 2 2] f (strRow sb a c T::slc p b.length d 5 1 (bytesV b)::pt2 pb (some ⟨sb,0,none⟩) a.size c p b.length d::F)
   (Ret (.agg (b32 (Sha.sum (a.data.toList++b))).toArray) f (strRow sb a c T::slc p b.length d 5 1 (bytesV b)::pt2 pb (some ⟨sb,0,none⟩) a.size c p b.length d::F)):=
 Fn.frozen fun g hg hj=>Fn.frozen fun g2 hg2 hj2=>by
  have h:=tdig_fn (un (un f g) g2) F (pb:=pb) (c:=c) (IntsAt.mono (Le.un _ g2) (IntsAt.mono (Le.un f g) htab)) (BAt.mono (Le.un _ g2) (strRow_bat hg hj)) (slc_bat _ hg2 hj2) (by rw[zbu];exact hc) hd (by rw[zbu];exact hl)
  rwa [zbu]at h
theorem thmac_fn(htab:TabAt f)(hk:BAt f p key)(hb:BAt f r b)(hd:b.length≤d)(hl:key.length≤64)(hl2:b.length≤10000000):Fn prog 206 [.slice p key.length c,.slice r b.length d] f F (Ret (.agg (b32 (Sha.hmac key b)).toArray) f F):=by
 refine Fn.e2 func206 ntmps206 fun base=>?_;refine gA ?_;refine qgB fun ob=>?_;refine gI ?_;refine H.Am rfl rfl rfl (turned_fn (t:=0x36) f _ hk hl) fun p1 c1=>?_;have h1:=Sha.turn_len hl 0x36;generalize hT:Sha.turn key 0x36=T at h1
 refine qjH fun hc1 _ _=>?_;refine gI ?_;refine H.Aq (out:=[.slice p1 T.length c1,.slice r b.length d]) rfl rfl rfl rfl jC jC rfl rfl fun pb=>?_;refine H.pf (x:=slc _ _ _ _ _ _) ?_;refine H.Af rfl rfl rfl (tdig_sb f _ htab (a:=T) (b:=b) hb hc1 hd jA) ?_;refine qkI ?_;refine H.pd (x:=pt2 _ _ _ _ _ _ _) ?_;refine qgB fun ib=>?_;refine qit ?_;generalize hin:Sha.sum (T++b)=inn;refine qgY ?_;refine HB.qu [0,2] 4 ?_;refine gB ?_;refine qeF ?_;refine qio ?_;refine H.Am rfl rfl rfl (turned_fn (t:=0x5c) f _ hk hl) fun p3 c3=>?_;have h2:=Sha.turn_len hl 0x5c;generalize hT2:Sha.turn key 0x5c=T2 at h2
 refine qjH fun hc3 _ _=>?_;refine qiN ?_;refine HB.ev 3 ?_;refine H.Aq (out:=[.slice p3 T2.length c3,.slice (some ⟨ib,0,none⟩) 32 32]) rfl rfl rfl rfl jC jC rfl rfl fun pb2=>?_;refine qiN ?_;refine HB.ev 4 ?_;refine H.pf (x:=slc _ _ _ _ _ _) ?_;have hfin:Sha.hmac key b=Sha.sum (T2++b32L inn):=by unfold Sha.hmac;rw[hT,hT2,hin]
 rw[hfin];refine H.Af rfl rfl rfl (tdig_sr f _ htab (a:=T2) (b:=b32L inn) (d:=32) hc3 (Nat.le_refl 32) (by show T2.length+32≤_;omega)) ?_;generalize T2++b32L inn=l4;refine qiN ?_;refine qhC ?_;refine qkI ?_;refine H.pd (x:=row ib _ _) ?_;refine H.pd (x:=pt2 _ _ _ _ _ _ _) ?_;exact qae
theorem tkey_fn(htab:TabAt f){i:Int}(h1:1≤i)(h2:i≤most)(h3:most≤1000)(hw:w.size≤1000):Fn prog 224 [.string w,.int .i64 i,.int .i64 most] f F (BytesR (Sha.word32 w.data.toList i) f F):=by
 refine Fn.e3 func224 ntmps224 fun base=>?_;refine gg ?_;refine H.convSBc rfl rfl rfl fun sb sc hsc=>?_;refine gW ?_;refine H.Am rfl rfl rfl (zck (l:=[]) (n:=i) f _ Src.nil (fun _=>rfl) jC) fun p1 c1=>?_;rw[List.nil_append];have h8:=be_len 8 i;unfold Sha.word32
 generalize be 8 i=l1 at h8⊢;refine qjH fun hc1 _ _=>?_;skip;refine H.Aq (out:=[.slice (some ⟨sb,0,none⟩) w.size sc,.slice p1 l1.length c1]) rfl rfl rfl rfl jC jC rfl rfl fun pb=>?_;refine H.pf (x:=slc _ _ _ _ _ _) ?_;refine H.pf (x:=strRow _ _ _ _) ?_;refine H.Af rfl rfl rfl (tdig_ts f _ htab (a:=w) (b:=l1) hsc hc1 jA) ?_;refine H.pd (x:=strRow _ _ _ _) ?_;refine qkI ?_;refine H.pd (x:=pt2 _ _ _ _ _ _ _) ?_;generalize w.data.toList++l1=l2;refine qgB fun db=>?_;refine H.Ag (ls:=zb 32) (vs:=b32 (Sha.sum l2)) (ls':=b32 (Sha.sum l2)) rfl rfl rfl (zaa rfl) rfl rfl (Nat.le_refl 32) jB ?_;generalize Sha.sum l2=d;refine gA ?_;refine qim ?_;refine H.Am rfl rfl rfl (cloneB_fn f _ (l:=b32L d) (Src.slice (m:=32) (Rd.ofRow aP0) rfl) (fun h=>by cases h) (by show 32≤_;decide)) fun p4 c4=>?_;exact qdm
theorem treplica_fn(htab:TabAt f){i:Int}(h1:1≤i)(h2:i≤11):Fn prog 205 [.int .i64 i] f F (BytesR (Sha.word32 Sha.replicaW i) f F):=by
 refine Fn.e1 func205 ntmps205 fun base=>?_;refine gI ?_;refine H.Am rfl rfl rfl (tkey_fn (w:=⟨#[114,97,116,99,104,101,116,32,114,101,112,108,105,99,97]⟩) f _ htab h1 h2 jC jC) fun p1 c1=>?_;exact qbc
structure BP where
 p:Option Addr
 c:Nat
 l:List UInt8
def BP.val(x:BP):Value:=.slice x.p x.l.length x.c
def flat(ps:List BP):List UInt8:=ps.flatMap BP.l
def upto(ps:List BP)(i:Nat):List UInt8:=flat (ps.take i)
theorem upto_succ{ps:List BP}{i:Nat}{x:BP}(h:ps[i]?=some x):upto ps (i+1)=upto ps i++x.l:=by
 unfold upto flat;rw[List.take_add_one,h,List.flatMap_append];simp
theorem upto_le(ps:List BP)(i:Nat):(upto ps i).length≤(flat ps).length:=by
 have:flat ps=upto ps i++flat (ps.drop i):=by
  unfold upto flat;rw[←List.flatMap_append,List.take_append_drop]
 rw[this,lnA];omega
theorem upto_all(ps:List BP):upto ps ps.length=flat ps:=by unfold upto;rw[List.take_length]
theorem bconcat_fn{sb:Nat}{ps:List BP}(hs:∀x∈ps,∀G,Src prog f (G++F) (.slice x.p x.l.length x.c) 1 x.l.length (bytesV x.l))(hl:(flat ps).length≤1000000)(hn:ps.length≤1000):Fn prog 112 [.slice (some ⟨sb,0,none⟩) ps.length ps.length] f (row sb 23 (ps.map BP.val)::F) (BytesR (flat ps) f F):=by
 have hget:∀i,i<ps.length→∃x,ps[i]?=some x∧(ps.map BP.val)[i]?=some (.slice x.p x.l.length x.c)∧x∈ps:=fun i h=>
  ⟨ps[i],lgE h,by rw[List.getElem?_map,lgE h];rfl,List.getElem_mem h⟩
 have hu:=upto_le ps;refine Fn.e1 func112 ntmps112 fun base=>?_
 refine gT ?_
 refine H.lo (ι:=Nat) (fun i=>[(11,.int .i64 (i:Int)),(10,.int .i64 (ps.length:Nat)),(9,.slice (some ⟨sb,0,none⟩) ps.length ps.length),(3,.int .i64 ((upto ps i).length:Nat)),(0,.slice (some ⟨sb,0,none⟩) ps.length ps.length)]) (fun _=>f)
  (fun _=>row sb 23 (ps.map BP.val)::F) (fun i=>i≤ps.length) (fun i=>ps.length-i) 0 (Nat.zero_le _) fun i hi=>?_
 have hi:i≤ps.length:=hi;show H _ _ _ [(11,.int .i64 (i:Int)),_,_,(3,.int .i64 ((upto ps i).length:Nat)),_] _ _ _
 by_cases hlt:i<ps.length
 ·obtain⟨x,hx,hv,_⟩:=hget i hlt;have hs1:=upto_succ hx;have hu1:=hu (i+1)
  rw[hs1,lnA]at hu1;generalize upto ps i=a at hs1 hu1⊢;refine qiQ ?_;refine gN ?_;refine H.Bh (d:=3) (u:=.int .i64 ((upto ps (i+1)).length:Nat)) rfl (congrArg (Value.int .i64) (by rw[hs1,lnA];try rfl)) ?_;exact H.ag (i+1) jz kN
 ·have hie:i=ps.length:=jA
  subst hie;rw[upto_all];refine gc ?_;refine H.slc0 5 1 ?_;refine H.Am rfl rfl rfl (growB_fn f _ (l:=[]) (m:=(flat ps).length) jC hl) fun p0 c0=>?_;refine gT ?_
  refine H.lo (ι:=Nat×Option Addr×Nat) (fun i=>[(27,.int .i64 (i.1:Int)),(26,.int .i64 (ps.length:Nat)),(25,.slice (some ⟨sb,0,none⟩) ps.length ps.length),(6,.slice i.2.1 (upto ps i.1).length i.2.2)]) (fun _=>f)
   (fun i=>slc i.2.1 (upto ps i.1).length i.2.2 5 1 (bytesV (upto ps i.1))::row sb 23 (ps.map BP.val)::F) (fun i=>i.1≤ps.length) (fun i=>ps.length-i.1) (0,p0,c0) (Nat.zero_le _) fun i hi=>?_
  obtain⟨i,p',c'⟩:=i;have hi:i≤ps.length:=hi;show H _ _ _ [(27,.int .i64 (i:Int)),_,_,(6,.slice p' (upto ps i).length c')] _ (slc p' (upto ps i).length c' _ 1 (bytesV (upto ps i))::_::F) _
  by_cases hlt:i<ps.length
  ·obtain⟨x,hx,hv,hm⟩:=hget i hlt;have hs1:=upto_succ hx;have hu1:=hu (i+1)
   rw[hs1,lnA]at hu1;generalize upto ps i=a at hs1 hu1⊢;refine qiQ ?_;refine gI ?_;refine H.Av (xs:=bytesV a) rfl rfl rfl rfl rfl (fun p' c'=>.here _ _ _) (hs x hm [_,_]) (zaj _) rfl jA jA fun p3 c3=>?_;refine gW ?_;refine H.Ar (i+1,p3,c3) jz kN ⟨rfl,rfl,rfl,?_,trivial⟩ rfl ?_
   ·show some (Value.slice p3 (a.length+x.l.length) c3)=some (Value.slice p3 (upto ps (i+1)).length c3);rw[hs1,lnA]
   ·show _=slc p3 (upto ps (i+1)).length c3 _ 1 (bytesV (upto ps (i+1)))::_;rw[hs1,lnA,zaf]
  ·have hie:i=ps.length:=jA
   subst hie;rw[upto_all];refine gc ?_;refine H.pd (x:=row sb _ _) ?_;exact qct
theorem thmac_ss(htab:TabAt f)(hd:b.length≤d)(hl:key.length≤64)(hl2:b.length≤10000000):Fn prog 206 [.slice p key.length c,.slice r b.length d] f (slc p key.length c 5 1 (bytesV key)::slc r b.length d 5 1 (bytesV b)::F) (Ret (.agg (b32 (Sha.hmac key b)).toArray) f (slc p key.length c 5 1 (bytesV key)::slc r b.length d 5 1 (bytesV b)::F)):=
 Fn.frozen fun g hg hj=>Fn.frozen fun g2 hg2 hj2=>thmac_fn (un (un f g) g2) F (IntsAt.mono (Le.un _ g2) (IntsAt.mono (Le.un f g) htab)) (BAt.mono (Le.un _ g2) (slc_bat _ hg hj)) (slc_bat _ hg2 hj2) hd hl hl2
theorem tnumbered_fn(htab:TabAt f){i n:Int}(h1:1≤i)(h2:i≤11)(hs:∀G,Src prog f (G++F) (.slice r b.length d) 1 b.length (bytesV b))(hl:b.length≤900000):Fn prog 161 [.int .i64 i,.int .u64 n,.slice r b.length d] f F (Ret (.agg (b32 (Sha.numbered i n b)).toArray) f F):=by
 refine Fn.e3 func161 ntmps161 fun base=>?_;refine gA ?_;refine qgB fun ob=>?_;refine gI ?_;refine H.Am rfl rfl rfl (treplica_fn f _ htab h1 h2) fun p1 c1=>?_;refine gI ?_;refine H.Am rfl rfl rfl (zck (l:=[]) (n:=n) f _ Src.nil (fun _=>rfl) jC) fun p2 c2=>?_;rw[List.nil_append];have h8:=be_len 8 n;unfold Sha.numbered
 have hk:(Sha.word32 Sha.replicaW i).length=32:=rfl;generalize Sha.word32 Sha.replicaW i=key at hk⊢
 generalize be 8 n=w at h8⊢;refine qjb ?_;refine H.Aq (out:=[.slice p2 w.length c2,.slice r b.length d]) rfl rfl rfl rfl jC jC rfl rfl fun pb=>?_;refine H.Am rfl rfl rfl (bconcat_fn f _ (ps:=[⟨p2,c2,w⟩,⟨r,d,b⟩]) (fun x hx G=>?_) (by show(w++(b++[])).length≤_;rw[List.append_nil,lnA];omega) (by show 2≤1000;decide)) fun p3 c3=>?_
 ·rcases List.mem_cons.1 hx with rfl|hx
  ·exact Src.append (Src.slcS aP0 jG)
  ·rcases List.mem_cons.1 hx with rfl|hx
   ·have h:=hs (G++[slc p2 w.length c2 5 1 (bytesV w),slc p1 key.length c1 5 1 (bytesV key),row ob 47 (zb 32)]);rw[List.append_assoc]at h
    exact h
   ·cases hx
 have hfl:flat [⟨p2,c2,w⟩,⟨r,d,b⟩]=w++b:=by show w++(b++[])=_;rw[List.append_nil]
 rw[hfl];have hwl:(w++b).length≤10000000:=by rw[lnA];omega
 generalize w++b=l1 at hwl⊢;refine qjH fun hc3 _ _=>?_;refine H.pf (x:=slc p1 _ _ _ _ _) ?_;refine H.Af rfl rfl rfl (thmac_ss f _ htab (key:=key) (b:=l1) hc3 jA hwl) ?_;refine qeK ?_;exact qbq
end
def orx(a b:Nat→UInt8):Nat→UInt8
 |0=>0
 |i+1=>orx a b i ||| (a i ^^^ b i)
theorem u8_or0(x y:UInt8):x ||| y=0↔x=0∧y=0:=by
 rw[←UInt8.toBitVec_inj,←UInt8.toBitVec_inj,←UInt8.toBitVec_inj];simp
theorem u8_xor0(x y:UInt8):x ^^^ y=0↔x=y:=by
 rw[←UInt8.toBitVec_inj,←UInt8.toBitVec_inj];simp
theorem u8_or(x y:UInt8):bitsI .or .u8 (x.toNat:Int) (y.toNat:Int)=some (((x ||| y).toNat:Nat):Int):=by
 have e:(BitVec.ofInt 8 (x.toNat:Int) ||| BitVec.ofInt 8 (y.toNat:Int)).toNat=(x ||| y).toNat:=by rw[u8_bv,u8_bv];rfl
 show some (IntKind.u8.wrap ((BitVec.ofInt 8 (x.toNat:Int) ||| BitVec.ofInt 8 (y.toNat:Int)).toNat:Int))=_;rw[e,u8_wrapN]
theorem orx_zero(a b:Nat→UInt8):∀i,orx a b i=0↔∀j,j<i→a j=b j
 |0=>⟨fun _ j h=>by omega,fun _=>rfl⟩
 | i + 1 => by
  show orx a b i ||| (a i ^^^ b i)=0↔_
  rw[u8_or0,u8_xor0,orx_zero a b i]
  constructor
  ·rintro⟨h1,h2⟩ j hj
   by_cases e:j=i
   ·rw[e];exact h2
   ·exact h1 j jA
  ·intro h
   exact⟨fun j hj=>h j jA,h i jA⟩
theorem eqC_bytes2:∀a b:List UInt8,eqC (bytesV a) (bytesV b)=decide (a=b)
 | [],[]=>rfl
 | [],_::_=>rfl
 |_::_,[]=>rfl
 | x :: a, y :: b => by
  show(eqv (.int .u8 x.toNat) (.int .u8 y.toNat)&&eqC (bytesV a) (bytesV b))=_
  rw[eqC_bytes2 a b]
  show(((x.toNat:Int) == (y.toNat:Int))&&_)=_
  rw[Bool.eq_iff_iff]
  simp only[Bool.and_eq_true,beq_iff_eq,decide_eq_true_eq,List.cons.injEq]
  constructor
  ·rintro⟨h1,h2⟩
   exact⟨UInt8.toNat_inj.1 jA,h2⟩
  ·rintro⟨h1,h2⟩
   exact⟨by rw[h1],h2⟩
theorem b32L_map(a:Nat→UInt8):b32L a=(List.range 32).map a:=rfl
def eq32(a b:Nat→UInt8):Bool:=eqC (b32 a) (b32 b)
theorem eq32_orx(a b:Nat→UInt8):eq32 a b=decide (orx a b 32=0):=by
 unfold eq32;rw[b32_bytes,b32_bytes,eqC_bytes2,b32L_map,b32L_map];refine decide_eq_decide.2 ?_;rw[List.map_inj_left,orx_zero];constructor
 ·intro h j hj;exact h j (List.mem_range.2 hj)
 ·intro h j hj;exact h j (List.mem_range.1 hj)
theorem orx_dec(a b:Nat→UInt8):decide (((orx a b 32).toNat:Int)=0)=eq32 a b:=by
 rw[eq32_orx];refine decide_eq_decide.2 ⟨fun h=>UInt8.toNat_inj.1 (by show(orx a b 32).toNat=0;omega),fun h=>by rw[h];rfl⟩
theorem Src.assoc{G:List HP}{x:HP}{m:Nat}{news:List Value}(h:Src P f ((G++[x])++F) v sz m news):Src P f (G++x::F) v sz m news:=by
 rwa [List.append_assoc]at h
variable {t:Nat→UInt8}
section
variable (f:Frag) (F:List HP)
theorem tsame_fn{a b:Nat→UInt8}:Fn prog 160 [.agg (b32 a).toArray,.agg (b32 b).toArray] f F (Ret (.bool (eq32 a b)) f F):=by
 have hdec:=orx_dec a b;refine Fn.e2 func160 ntmps160 fun base=>?_
 refine gA ?_;refine H.box (ls:=b32 a) rfl rfl rfl rfl fun ab=>?_;refine H.box (ls:=b32 b) rfl rfl rfl rfl fun bb=>?_;refine gT ?_
 refine H.lo (ι:=Nat) (fun i=>[(7,.int .i64 (i:Int)),(5,.int .u8 ((orx a b i).toNat:Nat)),(2,.pointer (some ⟨ab,0,none⟩)),(3,.pointer (some ⟨bb,0,none⟩))]) (fun _=>f)
  (fun _=>row bb 47 (b32 b)::row ab 47 (b32 a)::F) (fun i=>i≤32) (fun i=>32-i) 0 (Nat.zero_le _) fun i hi=>?_
 have hi:i≤32:=hi;show H _ _ _ [_,(5,.int .u8 ((orx a b i).toNat:Nat)),_,_] _ _ _
 by_cases hlt:i<32
 ·have ha:(b32 a)[i*1]?=some (.int .u8 ((a i).toNat:Nat)):=by rw[Nat.mul_one];exact b32_get a hlt
  have hb:(b32 b)[i*1]?=some (.int .u8 ((b i).toNat:Nat)):=by rw[Nat.mul_one];exact b32_get b hlt
  have hs:orx a b (i+1)=orx a b i ||| (a i ^^^ b i):=rfl;refine qks ?_
  repeat(first|(apply HQ.Al (i:=i);(iterate 3 exact rfl);omega;omega;exact rfl)|(apply HQ.Ab;(iterate 3 exact rfl);(first|exact .of (Rd.ofRow jB) ha|exact .of (Rd.ofRow jB) hb);exact rfl)|(refine gi ?_)|(apply HQ.Bf (op:=.xor);(iterate 3 exact rfl);exact u8_xor _ _;(iterate 2 exact rfl))|(apply HQ.Bf (op:=.or);(iterate 3 exact rfl);exact u8_or _ _;(iterate 2 exact rfl)))
  rw[←hs];exact qcP
 ·have hi32:i=32:=jA
  subst hi32;generalize orx a b 32=x at hdec⊢;rw[←hdec];clear hdec;refine gY ?_;exact qcT
theorem ucheck_fn(htab:TabAt f){i n:Int}(h1:1≤i)(h2:i≤11)(h3:1≤n)(h4:n≤65536)(hs:∀G,Src prog f (G++F) (.slice r b.length d) 1 b.length (bytesV b))(hl:b.length≤1024):Fn prog 124 [.int .i64 i,.int .u64 n,.slice r b.length d,.agg (b32 t).toArray] f F (Ret (.bool (eq32 t (Sha.numbered i n b))) f F):=by
 have hr:∀G,Fn prog 158 [.int .i64 i] f G (Ret (.bool true) f G):=fun G=>by
  refine Fn.e1 func158 ntmps158 fun base=>?_;refine gI ?_;refine H.Am rfl rfl rfl (treplica_fn f _ htab h1 h2) fun p1 c1=>?_;have hk:(Sha.word32 Sha.replicaW i).length=32:=rfl;generalize Sha.word32 Sha.replicaW i=key at hk⊢
  refine gG ?_;refine qeK ?_;exact qdn
 have hn:∀G,Fn prog 159 [.int .u64 n] f G (Ret (.bool true) f G):=fun G=>by
  refine Fn.e1 func159 ntmps159 fun base=>?_;refine gS ?_;exact qdn
 refine Fn.e4 func124 ntmps124 fun base=>?_;refine gA ?_;refine H.box (ls:=b32 t) rfl rfl rfl rfl fun tb=>?_;refine qik ?_;refine HB.qu [0] 19 ?_;refine gB ?_;refine qio ?_;refine H.cr (hr _) ?_;refine qeg ?_;refine HB.qu [2,3] 16 ?_;refine gB ?_;refine qeo ?_;refine HB.ev 4 ?_;skip;refine H.cr (hn _) ?_;refine qeg ?_;refine HB.qu [5,6,7,8,9,10,11,12,13,14,15] 4 ?_;repeat(first|(refine HQ.Ad (ls:=b32 t) rfl rfl rfl (Rd.ofRow jB) rfl rfl ?_)|(refine gi ?_))
 refine qeo ?_;refine HB.ev 16 ?_;skip;refine H.Af rfl rfl rfl (tnumbered_fn f _ htab h1 h2 (fun G=>(hs (G++[_])).assoc) jA) ?_;generalize Sha.numbered i n b=u;refine qeg ?_;refine HB.ev 17 ?_;skip;refine H.Af rfl rfl rfl (tsame_fn f _) ?_;refine qeg ?_;refine HB.qu [18,19] 0 ?_;refine qkM ?_;refine qja ?_;exact qaj
end
theorem byteAt_nat(n:Nat)(j:Nat):(byteAt (n:Int) j).toNat=n / 256 ^ j % 256:=by
 unfold byteAt
 have e:(n:Int).fdiv (2 ^ (8*j)) % 256=((n / 256 ^ j % 256:Nat):Int):=by
  rw[show((2:Int) ^ (8*j))=((2 ^ (8*j):Nat):Int) by simp,Int.fdiv_eq_ediv_of_nonneg _ (Int.natCast_nonneg _),Nat.pow_mul];rfl
 rw[e,Int.toNat_natCast,UInt8.toNat_ofNat'];omega
theorem numB_beTop(k n:Nat):∀i,i≤k→numB (beTop k (n:Int) i)=n / 256 ^ (k-i) % 256 ^ i
 |0,_=>by simp[beTop,numB,Nat.mod_one]
 | i + 1, h => by
  unfold beTop
  rw[numB_snoc,numB_beTop k n i jA,byteAt_nat]
  have e1:k-i=(k-(i+1))+1:=jA
  have e2:k-1-i=k-(i+1):=jA
  rw[e1,e2]
  generalize k-(i+1)=m
  rw[Nat.pow_succ,Nat.pow_succ,←Nat.div_div_eq_div_mul]
  generalize n / 256 ^ m=a
  rw[Nat.mul_comm (256 ^ i) 256,Nat.mod_mul]
  omega
theorem numB_be{k:Nat}(h:n<256 ^ k):numB (be k (n:Int))=n:=by
 unfold be;rw[numB_beTop k n k (Nat.le_refl _),Nat.sub_self,Nat.pow_zero,Nat.div_one,Nat.mod_eq_of_lt h]
theorem numB_be8 (h : 0 ≤ z ∧ z ≤ 18446744073709551615) : ((numB (be 8 z) : Nat) : Int) = z := by
  obtain⟨n,rfl⟩:=Int.eq_ofNat_of_zero_le h.1
  rw [numB_be (by have : (256 : Nat) ^ 8 = 18446744073709551616 := by decide
                  omega)]
section
variable {a r:List UInt8} {n:Nat}
theorem Cs.ok_app(h:a.length=n):(⟨a++r,false⟩:Cs).ok n=true:=by
 rw[Cs.ok_iff];exact⟨rfl,by show n≤(a++r).length;rw[lnA];omega⟩
theorem Cs.num_app(h:a.length=n):(⟨a++r,false⟩:Cs).num n=numB a:=by
 unfold Cs.num;rw[if_pos (Cs.ok_app h)];show numB ((a++r).take n)=_;rw[←h,List.take_left]
theorem Cs.skip_app(h:a.length=n):(⟨a++r,false⟩:Cs).skip n=⟨r,false⟩:=by
 unfold Cs.skip;rw[if_pos (Cs.ok_app h)];show(⟨(a++r).drop n,false⟩:Cs)=_;rw[←h,List.drop_left]
theorem Cs.raw_app(h:a.length=n):(⟨a++r,false⟩:Cs).raw n=a:=by
 unfold Cs.raw;rw[if_pos (Cs.ok_app h)];show(a++r).take n=_;rw[←h,List.take_left]
theorem Cs.num8_be(h:0≤z∧z≤18446744073709551615):(((⟨be 8 z++r,false⟩:Cs).num 8:Nat):Int)=z:=by
 rw[Cs.num_app (be_len _ _),numB_be8 h]
theorem Cs.num1_b{b:UInt8}:(⟨b::r,false⟩:Cs).num 1=b.toNat:=by
 have:=Cs.num_app (a:=[b]) (r:=r) (n:=1) rfl;rw[List.singleton_append]at this
 rw[this];simp[numB]
theorem Cs.skip1_b{b:UInt8}:(⟨b::r,false⟩:Cs).skip 1=⟨r,false⟩:=Cs.skip_app (a:=[b]) rfl
theorem Cs.text_app{most:Nat}(h:s.size≤most)(hm:most<65536):(⟨textB s++r,false⟩:Cs).text most=s.data.toList∧(⟨textB s++r,false⟩:Cs).textS most=⟨r,false⟩:=by
  unfold textB;rw[List.append_assoc]
  have h2:(⟨be 2 (s.size:Nat)++(s.data.toList++r),false⟩:Cs).num 2=s.size:=by
    rw [Cs.num_app (be_len _ _), numB_be (by have : (256 : Nat) ^ 2 = 65536 := by decide
                                             omega)]
  have hok:(⟨be 2 (s.size:Nat)++(s.data.toList++r),false⟩:Cs).ok 2=true:=Cs.ok_app (be_len _ _);have hdl:=zbu s
  have ht:(⟨be 2 (s.size:Nat)++(s.data.toList++r),false⟩:Cs).tok most=true:=by
    unfold Cs.tok;rw[hok,h2];simp only[Bool.true_and,Bool.and_eq_true];refine⟨Nat.ble_eq_true_of_le h,Nat.ble_eq_true_of_le ?_⟩;show 2+s.size≤(be 2 (s.size:Nat)++(s.data.toList++r)).length;rw[lnA,lnA,be_len,hdl];omega
  constructor
  · unfold Cs.text
    rw[if_pos ht,h2]
    show((be 2 (s.size:Nat)++(s.data.toList++r)).drop 2).take s.size=_
    rw[List.drop_left' (be_len _ _),List.take_left' hdl]
  · unfold Cs.textS
    rw[if_pos ht,h2]
    show(⟨(be 2 (s.size:Nat)++(s.data.toList++r)).drop (2+s.size),false⟩:Cs)=_
    rw[←List.drop_drop,List.drop_left' (be_len _ _),List.drop_left' hdl]
theorem Cs.hash_app:b32 ((⟨b32L t++r,false⟩:Cs).hash)=b32 t:=by
 have e:=Cs.raw_app (a:=b32L t) (r:=r) (n:=32) rfl;unfold Cs.hash
 simp only[e];rfl
end
theorem baOf_data(s:ByteArray):baOf s.data.toList=s:=by
 unfold baOf;rw[Array.toArray_toList]
def Req.Ok(r:Req):Prop:=(0≤r.time∧r.time≤18446744073709551615)∧(0≤r.amount∧r.amount≤18446744073709551615)
def Bod.Ok(x:Bod):Prop:=(0≤x.view∧x.view≤18446744073709551615)∧(0≤x.k∧x.k≤18446744073709551615)∧x.req.Ok
theorem req_back{q:Req}(h:q.Ok)(ha:q.asked)(r:List UInt8):((⟨q.bytes++b32L q.tag++r,false⟩:Cs).req 32 128).vals=q.vals∧(⟨q.bytes++b32L q.tag++r,false⟩:Cs).reqS 32 128=⟨r,false⟩:=by
 obtain⟨ht,hm⟩:=h;obtain⟨c1,c2,_,_,⟨k1,k2⟩,k3,k4⟩:=ha
 have e:q.bytes++b32L q.tag++r=b8 q.client::q.kind::(be 8 q.time++(be 8 q.amount++(textB q.key++(textB q.val++(textB q.old++(textB q.to++(b32L q.tag++r))))))):=by
  unfold Req.bytes Req.head;simp only[List.append_assoc,List.cons_append,List.nil_append];rfl
 rw[e];unfold Cs.req Cs.reqS;dsimp only;have t1:=Cs.text_app (s:=q.key) (most:=32) (r:=textB q.val++(textB q.old++(textB q.to++(b32L q.tag++r)))) k1 jC;have t2:=Cs.text_app (s:=q.val) (most:=128) (r:=textB q.old++(textB q.to++(b32L q.tag++r))) k3 jC
 have t3:=Cs.text_app (s:=q.old) (most:=128) (r:=textB q.to++(b32L q.tag++r)) k4 jC;have t4:=Cs.text_app (s:=q.to) (most:=32) (r:=b32L q.tag++r) k2 jC
 rw[Cs.num1_b,Cs.skip1_b,Cs.skip1_b,Cs.skip_app (be_len _ _),Cs.skip_app (be_len _ _),t1.1,t1.2,t2.1,t2.2,t3.1,t3.2,t4.1,t4.2,Cs.num8_be ht,Cs.num8_be hm];constructor
 ·unfold Cs.byte;rw[Cs.num1_b];unfold Req.vals;rw[Cs.hash_app,baOf_data,baOf_data,baOf_data,baOf_data,b8_small jA];simp
 ·exact Cs.skip_app (a:=b32L q.tag) rfl
theorem pairs_back:∀(q:List (Int×Int)) (w:Int) (r:List UInt8) (acc:List (Int×Int)),0≤w→quo w q=true→Cs.pairs q.length ⟨q.flatMap pairB++r,false⟩ acc=(acc++q,⟨r,false⟩)
 | [],w,r,acc,_,_=>by simp[Cs.pairs]
 | p :: q, w, r, acc, hw, h => by
  unfold quo at h
  split at h
  ·cases h
  ·rename_i hn
   have ih:=pairs_back q p.1 r (acc++[p]) jA h
   have e:(p::q).flatMap pairB++r=b8 p.1::(be 8 p.2++(q.flatMap pairB++r)):=by
    simp[pairB]
   rw[e]
   show(if false=true then _ else Cs.pairs q.length (((⟨_,false⟩:Cs).skip 1).skip 8) (acc++[((((⟨_,false⟩:Cs).num 1:Nat):Int),((((⟨_,false⟩:Cs).skip 1).num 8:Nat):Int))]))=_
   rw[if_neg jC,Cs.skip1_b,Cs.skip_app (be_len _ _),Cs.num1_b,Cs.num8_be jA,b8_small jA,ih]
   simp
def Bod.E(a b:Bod):Prop:=a.kind=b.kind∧a.view=b.view∧a.k=b.k∧a.req.vals=b.req.vals∧a.q=b.q∧b32 a.dig=b32 b.dig
theorem Bod.E.eqB{x a b:Bod}(h:Bod.E a b):Bod.eqB x a=Bod.eqB x b:=by
 obtain⟨h1,h2,h3,h4,h5,h6⟩:=h;unfold Bod.eqB;rw[h1,h2,h3,h4,h5,h6]
theorem eqv_comm(a b:Value):eqv a b=eqv b a:=by
 cases a with
 | bool x =>
  cases b with
  |bool y=>cases x<;>cases y<;>rfl
  |_=>rfl
 | int k x =>
  cases b with
  | int l y =>
   show(x == y)=(y == x);rw[Bool.eq_iff_iff,beq_iff_eq,beq_iff_eq];exact eq_comm
  |_=>rfl
 | string x =>
  cases b with
  | string y =>
   show(x == y)=(y == x);rw[beq_toListBytes,beq_toListBytes,Bool.eq_iff_iff,beq_iff_eq,beq_iff_eq];exact eq_comm
  |_=>rfl
 |_=>cases b<;>rfl
theorem eqC_comm:∀(a b:List Value),eqC a b=eqC b a
 | [],[]=>rfl
 | [],_::_=>rfl
 |_::_,[]=>rfl
 |x::xs,y::ys=>by simp only[eqC];rw[eqv_comm,eqC_comm xs ys]
theorem Bod.eqB_comm(a b:Bod):Bod.eqB a b=Bod.eqB b a:=by
 unfold Bod.eqB
 rw[eqC_comm a.req.vals,eqC_comm (b32 a.dig),show decide (((a.kind.toNat:Nat):Int)=b.kind.toNat)=decide (((b.kind.toNat:Nat):Int)=a.kind.toNat)from decide_eq_decide.2 eq_comm,
  show decide (a.view=b.view)=decide (b.view=a.view)from decide_eq_decide.2 eq_comm,show decide (a.k=b.k)=decide (b.k=a.k)from decide_eq_decide.2 eq_comm,show decide (a.q=b.q)=decide (b.q=a.q)from decide_eq_decide.2 eq_comm]
theorem own_q(h:x.kind.toNat≠4):x.own.q=[]:=by
 unfold Bod.own;generalize x.kind.toNat=k at h
 match k,h with
 |0,_=>rfl
 |1,_=>rfl
 |2,_=>rfl
 |3,_=>rfl
 |4,h=>exact absurd rfl h
 |5,_=>rfl
 |6,_=>rfl
 |k+7,_=>rfl
theorem back_own(hx:x.Ok)(hm:x.mayK x.kind.toNat=true):Bod.E (x.back x.kind.toNat) x.own:=by
 obtain⟨hv,hk,hr⟩:=hx;unfold Bod.back Bod.own;generalize x.kind.toNat=k at hm
 match k,hm with
 |0,hm=>exact absurd hm jX
 |k+7,hm=>exact absurd hm jX
 | 1, hm =>
  have ha:x.req.asked:=of_decide_eq_true hm;have e:x.putK 1=be 8 x.view++(x.req.bytes++b32L x.req.tag++[]):=by simp[Bod.putK]
  rw[e];have h1:=req_back hr ha [];refine⟨rfl,?_,rfl,?_,rfl,rfl⟩
  ·exact Cs.num8_be hv
  ·show(((⟨_,false⟩:Cs).skip 8).req 32 128).vals=_;rw[Cs.skip_app (be_len _ _)];exact h1.1
 | 2, _ =>
  have e:x.putK 2=be 8 x.view++(be 8 x.k++[]):=by simp[Bod.putK]
  rw[e];refine⟨rfl,Cs.num8_be hv,?_,rfl,rfl,rfl⟩;show((((⟨_,false⟩:Cs).skip 8).num 8:Nat):Int)=_;rw[Cs.skip_app (be_len _ _)];exact Cs.num8_be hk
 | 3, _ =>
  have e:x.putK 3=be 8 x.view++[]:=by simp[Bod.putK]
  exact qdV
 | 5, _ =>
  have e:x.putK 5=be 8 x.view++[]:=by simp[Bod.putK]
  exact qdV
 | 6, _ =>
  have e:x.putK 6=be 8 x.k++(b32L x.dig++[]):=by simp[Bod.putK]
  rw[e];refine⟨rfl,rfl,Cs.num8_be hk,rfl,rfl,?_⟩;show b32 (((⟨_,false⟩:Cs).skip 8).hash)=_;rw[Cs.skip_app (be_len _ _)];exact Cs.hash_app
 | 4, hm =>
  simp only[Bod.mayK,Bool.and_eq_true,decide_eq_true_eq]at hm;have hlen:=quo_len x.q 0 jA hm.2.1;have e:x.putK 4=be 8 x.view++(b8 x.q.length::(x.q.flatMap pairB++[])):=by simp[Bod.putK]
  rw[e];have hn:(b8 x.q.length).toNat=x.q.length:=by have:=b8_small (z:=(x.q.length:Int)) jA;omega
  have hp:=pairs_back x.q 0 [] [] (Int.le_refl 0) hm.2.1;refine⟨rfl,Cs.num8_be hv,rfl,rfl,?_,rfl⟩
  show(Cs.pairs (((⟨_,false⟩:Cs).skip 8).num 1) (((⟨_,false⟩:Cs).skip 8).skip 1) []).1=_;rw[Cs.skip_app (be_len _ _),Cs.num1_b,Cs.skip1_b,hn,hp];rfl
theorem mayB_eq(hx:x.Ok):x.mayB=x.may:=by
 unfold Bod.mayB Bod.may Bod.mayP
 cases hm:x.mayK x.kind.toNat with
 |false=>simp
 | true =>
  have hk:1≤x.kind.toNat∧x.kind.toNat≤6:=by
   generalize x.kind.toNat=k at hm
   match k,hm with
   |0,hm=>exact absurd hm jX
   |k+7,hm=>exact absurd hm jX
   |1,_=>decide
   |2,_=>decide
   |3,_=>decide
   |4,_=>decide
   |5,_=>decide
   |6,_=>decide
  rw[decide_eq_true hk,Bod.E.eqB (back_own hx hm),Bod.eqB_comm x x.own];simp only[Bool.true_and,Bool.and_true]
  have hlen:Bod.eqB x.own x=true→x.q.length≤11:=fun h=>by
   have hq:=Bod.eqB_q h;by_cases h4:x.kind.toNat=4
   ·rw[h4]at hm;simp only[Bod.mayK,Bool.and_eq_true,decide_eq_true_eq]at hm
    have:=quo_len x.q 0 jA hm.2.1;omega
   ·rw[own_q h4]at hq;rw[←hq];exact Nat.zero_le _
  cases he:Bod.eqB x.own x with
  |false=>simp
  |true=>simp[hlen he]
structure MV where
 m:Msg
 qp:Option Addr
 qc:Nat
def MV.vals(x:MV):List Value:=x.m.vals x.qp x.qc
theorem MV.len(x:MV):x.vals.length=121:=rfl
def MV.Good(f:Frag)(x:MV):Prop:=QAt f x.qp x.m.body.q∧x.m.body.q.length≤1000000∧x.m.body.Ok
theorem MV.Good.mono{f g:Frag}(h:Le f g){x:MV}(hx:x.Good f):x.Good g:=⟨QAt.mono h hx.1,hx.2⟩
section
variable (f:Frag) (F:List HP)
theorem mmay_fn{x:MV}(hx:x.Good f):Fn prog 49 [.agg x.vals.toArray] f F (Ret (.bool x.m.may) f F):=by
 have:=may_fn (m:=x.m) (qc:=x.qc) f F hx.1 (by have:=hx.2.1;omega);rw[mayB_eq hx.2.2]at this
 exact this
theorem rmmay_fn{x:MV}(hx:x.Good f):Fn prog 27 [.agg x.vals.toArray] f F (Ret (.bool x.m.may) f F):=
 rmay_fn (m:=x.m) (qc:=x.qc) f F hx.1 (by have:=hx.2.1;omega)
end
theorem HQ.fieldV{V:List HP}{q:Post}{l rest:List Oper}{ty:TypeId}{pos:String}{af:Array Edge}{gd:Option (Nat×Bool)}
  {st:TypeId} {x:Operand} {i:Nat} {fs:List Field} {nm tg pk:String} {ft:TypeId} {fo bo:Nat} {em:Bool} {xs:List Value} {de:TypeDesc} [hu:Und P st (.struct fs.toArray)] (hw:want? l L gd=true)
  (hx:ev? L x=some (.agg xs.toArray)) (hf:nthF fs i=some ⟨nm,ft,fo,em,tg,pk,bo⟩) (he:Und P ft de) (ha:aggD de=false) (hv:nthV xs fo=some v) (hd:Nat.ble (d+1) n=true) {lst:Lst} {ti:Nat} {tt:List (Nat×Bool)}
  (k:HQ V ⟨lst.setIfInBounds ti true,tt⟩ P base n ((d,v)::L) f A (.ops l rest q)):HQ V ⟨lst,(ti,false)::tt⟩ P base n L f A (.ops l (⟨some d,.field st x i,ty,pos,af,gd⟩::rest) q):=
 HQ.opV hw hd (fun a w hfr _=>by
  rw[nthF_eq]at hf
  rw[nthV_eq]at hv
  have h3:=run_isAgg he w
  simp[execOp,Instr.field,hfr.eval hx,hu.run,hf,asAgg,part,h3,ha,hv]) k
section
variable (f:Frag) (F:List HP)
theorem mtagK_fn(kind:Nat)(hk:m.body.kind.toNat=kind)(f1 f2 f3:FuncId)[Fun prog f1](hput:PutC f1 kind)
  (hcod:getKV codecsM (kind:Int)=some (codecV f1 f2 f3)) (hq:QAt f q m.body.q) (hm:m.body.mayK kind=true) (hl:m.body.q.length≤11) :
  Fn prog 114 [.agg (m.vals q qc).toArray] f F (BytesR m.tagged f F):=by
 have hz:∀z,(getKV codecsM (kind:Int)).getD z=codecV f1 f2 f3:=fun z=>by rw[hcod];rfl
 have hkv:Value.int .u8 (m.body.kind.toNat:Nat)=encU8 (kind:Int):=by rw[hk];rfl
 have htg:m.tagged=[b8 m.origin]++depsB m.deps 11++[m.body.kind]++m.body.putK kind:=by unfold Msg.tagged Bod.put;rw[hk]
 rw[htg];clear htg;refine Fn.e1 func114 ntmps114 fun base=>?_;refine qfJ fun mb=>?_;refine gU ?_;rw[u8_b8];refine H.Aq (out:=bytesV [b8 m.origin]) rfl rfl rfl rfl jC jC rfl rfl fun tb=>?_;refine H.asSlc (k:=1) (sz:=1) rfl jC ?_;repeat(first|(refine H.Ad (ls:=v11 m.deps) rfl rfl rfl (zaz jB) rfl rfl ?_)|(refine gh ?_))
 have hB0l:[b8 m.origin].length=1:=rfl;generalize [b8 m.origin]=B0 at hB0l⊢
 refine qeC ?_
 refine H.loop (ι:=Nat×Option Addr×Nat) (fun i=>[(12,.int .i64 (i.1:Int)),(11,.agg (v11 m.deps).toArray),(3,.slice i.2.1 (B0++depsB m.deps i.1).length i.2.2),(1,.pointer (some ⟨mb,0,none⟩))]) (fun _=>f)
  (fun i=>row mb 54 (m.vals q qc)::slc i.2.1 (B0++depsB m.deps i.1).length i.2.2 5 1 (bytesV (B0++depsB m.deps i.1))::F) (fun i=>i.1≤11) (fun i=>11-i.1) (0,some ⟨tb,0,none⟩,1) (Nat.zero_le _) ⟨rfl,rfl,?_,rfl,trivial⟩ rfl ?_ fun i hi=>?_
 ·exact qcR
 ·exact qcW
 ·obtain⟨i,p',c'⟩:=i;have hi:i≤11:=hi;show H _ _ _ [(12,.int .i64 (i:Int)),_,(3,.slice p' (B0++depsB m.deps i).length c'),_] _ (_::slc p' (B0++depsB m.deps i).length c' _ 1 (bytesV (B0++depsB m.deps i))::F) _
  have hal:(B0++depsB m.deps i).length=1+8*i:=by rw[lnA,depsB_len,hB0l]
  by_cases hlt:i<11
  ·have e1:B0++depsB m.deps (i+1)=(B0++depsB m.deps i)++be 8 (m.deps i):=by simp only[depsB,List.append_assoc]
   have hg:=zau m.deps hlt;generalize B0++depsB m.deps i=acc at hal e1⊢
   repeat(first|(refine gh ?_)|(apply H.indexV (i:=i);(iterate 4 exact rfl);exact hlt;exact rfl;exact hg;exact rfl))
   refine qiv fun b1 hp=>?_;subst hp;refine H.Am rfl rfl rfl (zck (l:=acc) f _ (Src.slcS jB jG) (fun h=>by cases h) jA) fun p1 c1=>?_;refine gW ?_;refine H.pd (x:=slc (some ⟨b1,0,none⟩) _ c' _ _ _) ?_;refine qeC ?_;refine H.Ar (i+1,p1,c1) kf jU ⟨rfl,rfl,?_,rfl,trivial⟩ rfl ?_
   ·exact qdk
   ·exact qcz
  ·have hi11:i=11:=jA
   subst hi11;generalize hacc:B0++depsB m.deps 11=acc at hal⊢;refine gY ?_;refine qeJ ?_;refine HB.qu [1,2,3,6,7,8,9,12,13] 7 ?_;repeat(first|(refine HQ.Ad (ls:=m.body.vals q qc) rfl rfl rfl (msg_body jB) rfl rfl ?_)|(refine gi ?_))
   refine qeo ?_;refine HB.ev2 (i:=0) (j:=10) jE rfl rfl ?_ ?_
   ·refine qid fun cb=>?_;refine qgz ?_;refine HB.qu [4,5] 4 ?_;refine qhu ?_;refine HB.ev 10 ?_;refine qig fun tb2=>?_;refine gA ?_;refine H.pf (x:=mp _ _ _) ?_;refine qiW ?_;exact qao
   ·refine qig fun tb2=>?_;refine qfM ?_;refine HB.ev 0 ?_;refine qid fun cb=>?_;refine qgz ?_;refine HB.qu [4,5] 3 ?_;refine qhu ?_;exact qao
theorem mtagged_fn(hq:QAt f q m.body.q)(hm:m.may=true):Fn prog 114 [.agg (m.vals q qc).toArray] f F (BytesR m.tagged f F):=by
 have h1:=(Bod.may_spec (Msg.may_body hm)).2.2;have h2:=Bod.may_q (Msg.may_body hm)
 generalize hk:m.body.kind.toNat=kind at h1
 match kind,hk,h1 with
 |1,hk,h1=>exact mtagK_fn f F 1 hk _ _ _ put1 kI hq h1 h2
 |2,hk,h1=>exact mtagK_fn f F 2 hk _ _ _ put2 kI hq h1 h2
 |3,hk,h1=>exact mtagK_fn f F 3 hk _ _ _ put3 kI hq h1 h2
 |4,hk,h1=>exact mtagK_fn f F 4 hk _ _ _ put4 kI hq h1 h2
 |5,hk,h1=>exact mtagK_fn f F 5 hk _ _ _ put5 kI hq h1 h2
 |6,hk,h1=>exact mtagK_fn f F 6 hk _ _ _ put6 kI hq h1 h2
 |0,_,h1=>exact absurd h1 jX
 |k+7,_,h1=>exact absurd h1 jX
end
def Msg.putB(m:Msg):List UInt8:=if m.may=true then be 8 m.number++m.tagged++b32L m.tag else []
def Msg.right(m:Msg):Bool:=m.may&&eq32 m.tag (Sha.numbered m.origin m.number m.tagged)
theorem putK_max(x:Bod)(kind:Nat)(hm:x.mayK kind=true)(hq:x.q.length≤11):(x.putK kind).length≤900:=by
 match kind,hm with
 | 1, hm =>
  obtain⟨_,_,_,_,⟨k1,k2⟩,k3,k4⟩:=of_decide_eq_true hm;show(be 8 x.view++x.req.bytes++b32L x.req.tag).length≤900;rw[lnA,lnA,be_len,Req.bytes_len];show 8+_+32≤900;omega
 |2,_=>simp[Bod.putK,be_len]
 |3,_=>simp[Bod.putK,be_len]
 | 4, _ =>
  show(be 8 x.view++[b8 x.q.length]++x.q.flatMap pairB).length≤900;rw[lnA,lnA,be_len,flat_pairB_len];show 8+1+_≤900;omega
 |5,_=>simp[Bod.putK,be_len]
 |6,_=>simp[Bod.putK,be_len,b32L]
theorem Msg.tagged_max(h:m.may=true):m.tagged.length≤1024:=by
 have h1:=Bod.may_spec (Msg.may_body h);have h2:=Bod.may_q (Msg.may_body h)
 have h3:=putK_max m.body m.body.kind.toNat h1.2.2 h2;unfold Msg.tagged Bod.put
 simp only[lnA,List.length_cons,List.length_nil,depsB_len];omega
theorem Msg.may_outer(h:m.may=true):m.outer:=by
 unfold Msg.may at h;simp only[Bool.and_eq_true,decide_eq_true_eq]at h;exact h.1
theorem msg_tag{A':List HP}{mb:Nat}(h:At A (row mb T (m.vals q qc)) A' (row mb T (m.vals q qc))):Rd f A mb (0+89) (b32 m.tag):=by
 have h1:=Rd.ofRow (f:=f) h;have e:m.vals q qc=([.int .i64 m.origin,.int .u64 m.number]++v11 m.deps++m.body.vals q qc)++b32 m.tag++[]:=by unfold Msg.vals;rw[List.append_nil]
 exact qbF
section
variable (f:Frag) (F:List HP)
theorem mput_fn{x:MV}(hx:x.Good f):Fn prog 74 [.agg x.vals.toArray] f F (BytesR x.m.putB f F):=by
 have hmay:=fun G=>mmay_fn f G hx;unfold Msg.putB
 by_cases hm:x.m.may=true
 ·rw[if_pos hm];rw[hm]at hmay;have htg:=fun G=>mtagged_fn (qc:=x.qc) f G hx.1 hm;have htl:=Msg.tagged_max hm
  generalize x.m.tagged=tg at htg htl⊢;refine Fn.e1 func74 ntmps74 fun base=>?_;refine qem fun mb=>?_;refine qjl ?_;refine qeJ ?_;refine HB.qu [0,1,3,5,6] 5 ?_;repeat(first|(refine HQ.Ad (ls:=x.vals) rfl rfl rfl (Rd.ofRow jB) rfl rfl ?_)|(refine gi ?_))
  refine qeF ?_;refine qeo ?_;refine HB.ev 2 ?_;refine H.Am rfl rfl rfl (zck (l:=[]) (n:=x.m.number) f _ Src.nil (fun _=>rfl) jC) fun p1 c1=>?_;rw[List.nil_append];have h8:=be_len 8 x.m.number;generalize be 8 x.m.number=w at h8⊢
  refine qfM ?_;refine HB.ev 4 ?_;refine H.Am rfl rfl rfl (htg _) fun p2 c2=>?_;refine qfM ?_;refine HB.ev 7 ?_;refine H.Aq (out:=[.slice p1 w.length c1,.slice p2 tg.length c2,.slice (some ⟨mb,89,none⟩) 32 32]) rfl rfl rfl rfl jC jC rfl rfl fun pb=>?_;refine qfM ?_;refine HB.ev 8 ?_;refine H.pf (x:=row pb _ _) ?_;have hfl:flat [⟨p1,c1,w⟩,⟨p2,c2,tg⟩,⟨some ⟨mb,89,none⟩,32,b32L x.m.tag⟩]=w++tg++b32L x.m.tag:=by show w++(tg++(b32L x.m.tag++[]))=_;rw[List.append_nil,List.append_assoc]
  refine H.Am rfl rfl rfl (bconcat_fn f _ (ps:=[⟨p1,c1,w⟩,⟨p2,c2,tg⟩,⟨some ⟨mb,89,none⟩,32,b32L x.m.tag⟩]) (fun y hy G=>?_) (by rw[hfl,lnA,lnA];show _+_+32≤_;omega) (by show 3≤1000;decide)) fun p3 c3=>?_
  ·rcases List.mem_cons.1 hy with rfl|hy
   ·exact qdc
   ·rcases List.mem_cons.1 hy with rfl|hy
    ·exact qdc
    ·rcases List.mem_cons.1 hy with rfl|hy
     ·exact Src.append (Src.slice (m:=32) (msg_tag (m:=x.m) (q:=x.qp) (qc:=x.qc) jB) rfl)
     ·cases hy
  rw[hfl];generalize w++tg++b32L x.m.tag=res;refine qfM ?_;refine HB.qu [9] 0 ?_;refine qgv ?_;refine qhh ?_;refine H.pd (x:=slc p1 _ _ _ _ _) ?_;refine H.pd (x:=slc p2 _ _ _ _ _) ?_;exact H.r1 ⟨p3,c3,rfl,rfl,rfl⟩
 ·rw[if_neg hm];rw[Bool.eq_false_iff.2 hm]at hmay;refine Fn.e1 func74 ntmps74 fun base=>?_;refine qem fun mb=>?_;refine qjl ?_;refine qeH ?_;exact qeb
theorem mright_fn(htab:TabAt f){x:MV}(hx:x.Good f):Fn prog 84 [.agg x.vals.toArray] f F (Ret (.bool x.m.right) f F):=by
 have hmay:=fun G=>mmay_fn f G hx;unfold Msg.right
 by_cases hm:x.m.may=true
 ·rw[hm]at hmay⊢;rw[Bool.true_and];have htg:=fun G=>mtagged_fn (qc:=x.qc) f G hx.1 hm;have htl:=Msg.tagged_max hm
  have hou:=Msg.may_outer hm;generalize x.m.tagged=tg at htg htl⊢
  obtain⟨o1,o2,o3,o4,_⟩:=hou;refine Fn.e1 func84 ntmps84 fun base=>?_;refine qem fun mb=>?_;refine qgF ?_;repeat(first|(refine HQ.Ad (ls:=x.vals) rfl rfl rfl (Rd.ofRow jB) rfl rfl ?_)|(refine HQ.Ad (ls:=b32 x.m.tag) rfl rfl rfl (msg_tag (m:=x.m) (q:=x.qp) (qc:=x.qc) jB) rfl rfl ?_)|(refine gi ?_))
  refine qeo ?_;refine HB.ev 8 ?_;skip;refine H.Am rfl rfl rfl (htg _) fun p1 c1=>?_;refine qfM ?_;refine HB.ev 11 ?_;skip;refine H.Af rfl rfl rfl (ucheck_fn f _ htab o1 o2 o3 o4 (fun G=>Src.append (Src.slcS jB jG)) htl) ?_;refine qeg ?_;refine HB.qu [12,13] 0 ?_;refine qfh ?_;refine qhh ?_;refine H.pd (x:=slc p1 _ _ _ _ _) ?_;exact qaj
 ·rw[Bool.eq_false_iff.2 hm]at hmay⊢;rw[Bool.false_and];refine Fn.e1 func84 ntmps84 fun base=>?_;refine qem fun mb=>?_;refine qgF ?_;refine qhY ?_;refine HB.ev 8 ?_;refine qgH ?_;refine HB.ev 11 ?_;refine qgH ?_;refine HB.qu [12,13] 0 ?_;refine qkM ?_;exact qbU
theorem eqv_refl(v:Value)(h:(match v with| .bool _| .int _ _| .string _=>true|_=>false)=true):eqv v v=true:=by
 cases v<;>simp at h<;>simp[eqv]
 rename_i s
 rw[beq_toListBytes];simp
def plainC:List Value→Bool
 | []=>true
 |v::r=>(match v with| .bool _| .int _ _| .string _=>true|_=>false)&&plainC r
theorem eqC_refl:∀ {l:List Value},plainC l=true→eqC l l=true
 | [],_=>rfl
 | v :: r, h => by
  simp only[plainC,Bool.and_eq_true]at h
  simp only[eqC,eqv_refl v h.1,eqC_refl h.2,Bool.and_true]
theorem eq32_refl(t:Nat→UInt8):eq32 t t=true:=eqC_refl (l:=b32 t) rfl
end
end Go.Proofs.YtkaknokcbhiigaaGreatDoor

namespace Go.Proofs.YtkaknokcbhiigaaGreatDoor
open Go Go.Proofs.Tryz Go.ChangeShapes Go.WideShapes Go.RowKit Go.Deep
/-! ### Cells of arrays, strings and structs -/
def AllReads(P:Program)(W:World):List TypeId→List (List Value)→Prop
 | [],[]=>True
 |t::ts,p::ps=>Reads P W t p∧AllReads P W ts ps
 |_,_=>False
def contigB(P:Program)(end_:Nat):List Field→Nat→Bool
 | [],a=>Nat.beq a end_
 |f::r,a=>Nat.beq f.offset a&&contigB P end_ r (a+P.cellsOf f.type)
theorem parts_of{P:Program}{W:World}{cs:List Value}{m:Nat}(hm:cs.length=m):∀(l:List Field) (a:Nat),(∀f∈l,Reads P W f.type ((cs.drop f.offset).take (P.cellsOf f.type)))→contigB P m l a=true→
  ∃ps:List (List Value),cs.drop a=ps.flatten∧AllReads P W (l.map (·.type)) ps
 | [], a, _, hc => ⟨[], by
   have:a=m:=Nat.eq_of_beq_eq_true hc
   rw[List.drop_eq_nil_of_le jA];rfl,trivial⟩
 | f :: r, a, h, hc => by
  simp only[contigB,Bool.and_eq_true]at hc
  have e:f.offset=a:=Nat.eq_of_beq_eq_true hc.1
  obtain⟨ps,e1,e2⟩:=parts_of hm r (a+P.cellsOf f.type) (fun x hx=>h x kr) hc.2
  have h0:=h f jK
  rw[e]at h0
  refine⟨(cs.drop a).take (P.cellsOf f.type)::ps,?_,h0,e2⟩
  rw[List.flatten_cons,←e1,←List.drop_drop,List.take_append_drop]
theorem Reads.parts{P:Program}{W:World}{t:TypeId}{cs:List Value}{fs:List Field}(ht:P.underlying t=some (.struct fs.toArray))(hc:contigB P (P.cellsOf t) fs 0=true)(h:Reads P W t cs):∃ps:List (List Value),cs=ps.flatten∧AllReads P W (fs.map (·.type)) ps:=by
 obtain⟨h1,h2⟩:=h.struct ht
 obtain⟨ps,e1,e2⟩:=parts_of (P:=P) (W:=W) h1 fs 0 (fun f hf=>by
  obtain⟨i,hi⟩:=List.getElem?_of_mem hf
  exact h2 i f (by simpa using hi)) hc
 exact⟨ps,by simpa using e1,e2⟩
/-! ### Messages, packets, steps -/
theorem u8_back{z:Int}(h:IntKind.min .u8≤z∧z≤IntKind.max .u8):(((UInt8.ofNat z.toNat).toNat:Nat):Int)=z:=by
 have h1:(0:Int)≤z:=h.1;have h2:z≤255:=h.2
 exact qcA
end Go.Proofs.YtkaknokcbhiigaaGreatDoor

namespace Go.Proofs.YtkaknokcbhiigaaGreatDoor
open Go Go.Proofs.Tryz
/-! ### Cells that are told apart by eqC alone -/
def kdV:Value→Value
 | .int k _=>.int k 0
 | .string _=>.bool true
 | .bool _=>.bool false
 |v=>v
theorem eqv_eq{a b:Value}(h:eqv a b=true)(hk:kdV a=kdV b):a=b:=by
 cases a with
 | bool x =>
  cases b<;>simp[eqv]at h
  subst h;rfl
 | int k x =>
  cases b with
  | int l y =>
   simp[eqv]at h;simp[kdV]at hk;subst h;subst hk;rfl
  |_=>simp[eqv]at h
 | string x =>
  cases b with
  | string y =>
   simp only[eqv]at h;rw[beq_toListBytes,ByteArray.toList_eq,ByteArray.toList_eq,beq_iff_eq]at h;rw[show x=y from ByteArray.ext (Array.ext' h)]
  |_=>simp[eqv]at h
 |_=>simp[eqv]at h
theorem eqC_eq:∀ {a b:List Value},eqC a b=true→a.map kdV=b.map kdV→a=b
 | [],[],_,_=>rfl
 | [],_::_,h,_=>by simp[eqC]at h
 |_::_,[],h,_=>by simp[eqC]at h
 | x :: xs, y :: ys, h, hk => by
  simp only[eqC,Bool.and_eq_true]at h
  simp only[List.map_cons,List.cons.injEq]at hk
  rw[eqv_eq h.1 hk.1,eqC_eq h.2 hk.2]
theorem u8_inj{a b:UInt8}(h:Value.int .u8 (a.toNat:Nat)=Value.int .u8 (b.toNat:Nat)):a=b:=by
 simp only[Value.int.injEq,true_and]at h;exact UInt8.toNat_inj.1 jA
theorem bytesV_inj:∀ {a b:List UInt8},bytesV a=bytesV b→a=b
 | [],[],_=>rfl
 | [],_::_,h=>by simp[bytesV]at h
 |_::_,[],h=>by simp[bytesV]at h
 | x :: xs, y :: ys, h => by
  simp only[bytesV,List.map_cons,List.cons.injEq]at h
  rw[u8_inj h.1,bytesV_inj h.2]
theorem b32_L{a b:Nat→UInt8}(h:b32 a=b32 b):b32L a=b32L b:=bytesV_inj (by rw[←b32_bytes,←b32_bytes];exact h)
theorem eq32_iff{a b:Nat→UInt8}:eqC (b32 a) (b32 b)=true↔b32 a=b32 b:=
 ⟨fun h=>eqC_eq h rfl,fun h=>by rw[h];exact eq32_refl b⟩
theorem v11_iff{a b:Nat→Int}:v11 a=v11 b↔∀i,i<11→a i=b i:=by
 constructor
 ·intro h i hi;have h1:=zau a hi;have h2:=zau b hi
  rw[h,h2]at h1;simp only[Option.some.injEq,Value.int.injEq,true_and]at h1;exact h1.symm
 ·intro h;unfold v11;exact qbM
theorem eqReq_iff{a b:Req}:eqC a.vals b.vals=true↔a.vals=b.vals:=
 ⟨fun h=>eqC_eq h rfl,fun h=>by rw[h];exact eqC_refl rfl⟩
theorem Bod.E.refl(a:Bod):Bod.E a a:=⟨rfl,rfl,rfl,rfl,rfl,rfl⟩
theorem Bod.E.symm{a b:Bod}(h:Bod.E a b):Bod.E b a:=⟨h.1.symm,h.2.1.symm,h.2.2.1.symm,h.2.2.2.1.symm,h.2.2.2.2.1.symm,h.2.2.2.2.2.symm⟩
theorem Bod.E.trans{a b c:Bod}(h:Bod.E a b)(g:Bod.E b c):Bod.E a c:=⟨h.1.trans g.1,h.2.1.trans g.2.1,h.2.2.1.trans g.2.2.1,h.2.2.2.1.trans g.2.2.2.1,h.2.2.2.2.1.trans g.2.2.2.2.1,h.2.2.2.2.2.trans g.2.2.2.2.2⟩
variable {a b:Bod}
theorem Bod.eqB_iff:Bod.eqB a b=true↔Bod.E a b:=by
 unfold Bod.eqB Bod.E;rw[Bool.and_eq_true,Bool.and_eq_true,Bool.and_eq_true,Bool.and_eq_true,Bool.and_eq_true,decide_eq_true_eq,decide_eq_true_eq,decide_eq_true_eq,decide_eq_true_eq,eqReq_iff,eq32_iff];constructor
 ·rintro⟨⟨⟨⟨⟨h1,h2⟩,h3⟩,h4⟩,h5⟩,h6⟩;exact⟨UInt8.toNat_inj.1 jA,h2,h3,h4,h5,h6⟩
 ·rintro⟨h1,h2,h3,h4,h5,h6⟩;exact⟨⟨⟨⟨⟨by rw[h1],h2⟩,h3⟩,h4⟩,h5⟩,h6⟩
/-! ### What the same bodies, and messages, have in common -/
theorem Req.vals_inj{a b:Req}(h:a.vals=b.vals):a.client=b.client∧a.time=b.time∧a.kind=b.kind∧a.key=b.key∧a.val=b.val∧a.old=b.old∧a.to=b.to∧a.amount=b.amount∧b32 a.tag=b32 b.tag:=by
 unfold Req.vals at h;have h1:=List.append_inj h rfl;have h2:=h1.1
 simp only[List.cons.injEq,Value.int.injEq,Value.string.injEq,true_and,and_true]at h2;obtain⟨a1,a2,a3,a4,a5,a6,a7,a8⟩:=h2;exact⟨a1,a2,UInt8.toNat_inj.1 jA,a4,a5,a6,a7,a8,h1.2⟩
theorem Req.bytes_congr{a b:Req}(h:a.vals=b.vals):a.bytes=b.bytes∧(a.asked↔b.asked)∧b32L a.tag=b32L b.tag:=by
 obtain⟨h1,h2,h3,h4,h5,h6,h7,h8,h9⟩:=Req.vals_inj h;unfold Req.bytes Req.head Req.asked;rw[h1,h2,h3,h4,h5,h6,h7,h8];exact⟨rfl,Iff.rfl,b32_L h9⟩
theorem Bod.mayK_congr(h:Bod.E a b)(k:Nat):a.mayK k=b.mayK k:=by
 obtain⟨h1,h2,h3,h4,h5,h6⟩:=h;obtain⟨_,r2,_⟩:=Req.bytes_congr h4;unfold Bod.mayK;rw[h2,h3,h5,decide_eq_decide.2 r2]
theorem Bod.own_congr(h:Bod.E a b):Bod.E a.own b.own:=by
 obtain⟨h1,h2,h3,h4,h5,h6⟩:=h;unfold Bod.own;rw[h1];generalize b.kind.toNat=k
 match k with
 |0=>exact⟨h1,rfl,rfl,rfl,rfl,rfl⟩
 |1=>exact⟨h1,h2,rfl,h4,rfl,rfl⟩
 |2=>exact⟨h1,h2,h3,rfl,rfl,rfl⟩
 |3=>exact⟨h1,h2,rfl,rfl,rfl,rfl⟩
 |4=>exact⟨h1,h2,rfl,rfl,h5,rfl⟩
 |5=>exact⟨h1,h2,rfl,rfl,rfl,rfl⟩
 |6=>exact⟨h1,rfl,h3,rfl,rfl,h6⟩
 |k+7=>exact⟨h1,rfl,rfl,rfl,rfl,rfl⟩
theorem Bod.may_congr(h:Bod.E a b):a.may=b.may:=by
 have h0:=Bod.own_congr h;unfold Bod.may
 rw[Bod.mayK_congr h,h.1,h.2.1,Bool.eq_iff_iff.2 (Bod.eqB_iff.trans (Iff.trans ⟨fun g=>h0.symm.trans (g.trans h),fun g=>h0.trans (g.trans h.symm)⟩ Bod.eqB_iff.symm))]
theorem maxTo_congr{a b:Nat→Int}:∀n,(∀i,i≤n→a i=b i)→maxTo a n=maxTo b n
 |0,h=>h 0 (Nat.le_refl _)
 | n + 1, h => by
  unfold maxTo
  rw[maxTo_congr n fun i hi=>h i jA,h (n+1) (Nat.le_refl _)]
def Msg.E0(a b:Msg):Prop:=a.origin=b.origin∧a.number=b.number∧v11 a.deps=v11 b.deps∧Bod.E a.body b.body
theorem Msg.may_congr{a b:Msg}(h:Msg.E0 a b):a.may=b.may:=by
 obtain⟨h1,h2,h3,h4⟩:=h;have h5:=v11_iff.1 h3;unfold Msg.may
 rw[Bod.may_congr h4]
 have e:a.outer↔b.outer:=by
  unfold Msg.outer;rw[h1,h2,maxTo_congr 10 fun i hi=>h5 i jA];constructor
  ·rintro⟨a1,a2,a3,a4,a5,a6⟩;exact⟨a1,a2,a3,a4,by rw[←h5 _ jA];exact a5,a6⟩
  ·rintro⟨a1,a2,a3,a4,a5,a6⟩;exact⟨a1,a2,a3,a4,by rw[h5 _ jA];exact a5,a6⟩
 rw[decide_eq_decide.2 e]
def rngH(g:Nat→HP):Nat→List HP
 |0=>[]
 |k+1=>g k::rngH g k
def fam(g:Nat→HP)(k:Nat):HP:=fun h=>stars (rngH g k) h
def updF{α:Type}(g:Nat→α)(i:Nat)(x:α):Nat→α:=fun j=>if j=i then x else g j
variable {α:Type}
theorem zae(g:Nat→α)(i:Nat)(x:α):updF g i x i=x:=if_pos rfl
variable {j:Nat}
theorem zag(g:Nat→α){i:Nat}(x:α)(h:j≠i):updF g i x j=g j:=if_neg h
theorem updF_self(g:Nat→α)(i:Nat):updF g i (g i)=g:=by
 funext j;unfold updF;split
 ·rename_i h;rw[h]
 ·rfl
theorem updF_updF(g:Nat→α)(i:Nat)(x y:α):updF (updF g i x) i y=updF g i y:=by
 funext j;unfold updF;split<;>rfl
theorem rngH_congr{g g':Nat→HP}:∀k,(∀j,j<k→g j=g' j)→rngH g k=rngH g' k
 |0,_=>rfl
 |k+1,h=>by unfold rngH;rw[h k jA,rngH_congr k fun j hj=>h j jA]
theorem fam_pull{g:Nat→HP}{i:Nat}:∀ {k:Nat},i<k→stars (rngH g k)=star (g i) (stars (rngH (updF g i emp) k))
 |0,h=>by omega
 | k + 1, h => by
  by_cases e:i=k
  ·subst e
   have e1:rngH (updF g i emp) i=rngH g i:=rngH_congr i fun j hj=>zag g emp jA
   show star (g i) (stars (rngH g i))=star (g i) (star (updF g i emp i) (stars (rngH (updF g i emp) i)))
   rw[zae,zcl,e1]
  ·show star (g k) (stars (rngH g k))=star (g i) (star (updF g i emp k) (stars (rngH (updF g i emp) k)))
   rw[fam_pull (g:=g) (i:=i) (k:=k) jA,zag g emp (fun h=>e h.symm),zbs]
variable {g:Nat→HP}
theorem fam_put{i k:Nat}{x:HP}(h:i<k):star x (stars (rngH (updF g i emp) k))=stars (rngH (updF g i x) k):=by
 rw[fam_pull (g:=updF g i x) h,zae,updF_updF]
theorem fam_pullA{i k:Nat}(A:List HP)(h:i<k):stars (fam g k::A)=stars (g i::fam (updF g i emp) k::A):=by
 show star (stars (rngH g k)) (stars A)=star (g i) (star (stars (rngH (updF g i emp) k)) (stars A));rw[fam_pull h,zbz]
theorem fam_putA{i k:Nat}{x:HP}(A:List HP)(h:i<k):stars (x::fam (updF g i emp) k::A)=stars (fam (updF g i x) k::A):=by
 show star x (star (stars (rngH (updF g i emp) k)) (stars A))=star (stars (rngH (updF g i x) k)) (stars A);rw[←zbz,fam_put h]
section
variable {P:Program} {base:World} {n:Nat} {L:Env} {f:Frag} {A:List HP} {K:Kont} {g:Nat→HP} {i k:Nat}
theorem H.Bq(h:i<k)(kk:H P base n L f (g i::fam (updF g i emp) k::A) K):H P base n L f (fam g k::A) K:=
 H.conv (fam_pullA A h) kk
theorem H.famPut{x:HP}(h:i<k)(kk:H P base n L f (fam (updF g i x) k::A) K):H P base n L f (x::fam (updF g i emp) k::A) K:=
 H.conv (fam_putA A h) kk
theorem H.By(h:i<k)(kk:H P base n L f (fam g k::A) K):H P base n L f (g i::fam (updF g i emp) k::A) K:=
 H.famPut h (by rw[updF_self];exact kk)
end
def c11(g:Nat→Value):List Value:=[g 0,g 1,g 2,g 3,g 4,g 5,g 6,g 7,g 8,g 9,g 10]
theorem c11_get(g:Nat→Value){i:Nat}(h:i<11):(c11 g)[i]?=some (g i):=by
 match i,h with
 |0,_=>rfl
 |1,_=>rfl
 |2,_=>rfl
 |3,_=>rfl
 |4,_=>rfl
 |5,_=>rfl
 |6,_=>rfl
 |7,_=>rfl
 |8,_=>rfl
 |9,_=>rfl
 |10,_=>rfl
theorem c11_set(g:Nat→Value){i:Nat}(v:Value)(h:i<11):SetV (c11 g) i v (c11 (updF g i v)):=by
 have e:c11 (updF g i v)=(c11 g).set i v:=by
  match i,h with
  |0,_=>rfl
  |1,_=>rfl
  |2,_=>rfl
  |3,_=>rfl
  |4,_=>rfl
  |5,_=>rfl
  |6,_=>rfl
  |7,_=>rfl
  |8,_=>rfl
  |9,_=>rfl
  |10,_=>rfl
 rw[e];exact SetV.mk v h
abbrev Strm:=Nat→List Msg
def aboveB(a b:Nat→Int):Bool:=(List.range 11).any fun i=>decide (b i<a i)
def knownS(S:Strm):Nat→Int:=fun i=>((S i).length:Nat)
def orgI(m:Msg):Nat:=(m.origin-1).toNat
def fitsB(n:Nat)(m:Msg):Bool:=m.may&&(decide (m.origin≤(n:Int))&&(m.body.q.all (fun p=>decide (p.1≤(n:Int)))&&(List.range 11).all (fun i=>decide (i<n)||decide (m.deps i≤0))))
def lastD(l:List Msg):Nat→Int:=match l.getLast? with
 |some x=>x.deps
 |none=>fun _=>0
def chk(n:Nat)(S:Strm)(m:Msg):Int:=
 if fitsB n m=false then 1 else if m.right=false then 11 else
 if m.number≤((S (orgI m)).length:Nat)then 13 else
 if m.number=(((S (orgI m)).length+1:Nat):Int)∧0<(S (orgI m)).length∧aboveB (lastD (S (orgI m))) m.deps=true then 1 else
 if(((S (orgI m)).length+1:Nat):Int)<m.number∨aboveB m.deps (knownS S)=true then 12 else 0
def addS(S:Strm)(m:Msg):Strm:=updF S (orgI m) (S (orgI m)++[m])
theorem zbq{a b:Nat→Int}:aboveB a b=false↔∀i,i<11→a i≤b i:=by
 unfold aboveB;rw[List.any_eq_false];constructor
 ·intro h i hi
  have:=h i (List.mem_range.2 hi);simp only[decide_eq_true_eq]at this
  omega
 ·intro h i hi
  have:=h i (List.mem_range.1 hi);simp only[decide_eq_true_eq]
  omega
variable {n:Nat} {S:Strm} {m:Msg}
theorem chk_ok(h1:fitsB n m=true)(h2:m.right=true)(h3:m.number=(((S (orgI m)).length+1:Nat):Int))
  (h4:0<(S (orgI m)).length→∀i,i<11→lastD (S (orgI m)) i≤m.deps i) (h5:∀i,i<11→m.deps i≤knownS S i):chk n S m=0:=by
 unfold chk;rw[if_neg kV,if_neg (by rw[h2];decide),if_neg jA,if_neg,if_neg]
 ·rintro(h|h)
  ·omega
  ·rw[zbq.2 h5]at h;cases h
 ·rintro⟨_,hp,ha⟩;rw[zbq.2 (h4 hp)]at ha;cases ha
/-! ### The streams of a list of messages -/
def strm(l:List Msg):Strm:=fun i=>l.filter fun m=>decide (orgI m=i)
theorem strm_snoc(l:List Msg)(m:Msg):strm (l++[m])=addS (strm l) m:=by
 funext i;unfold strm addS updF;rw[List.filter_append];by_cases h:i=orgI m
 ·rw[if_pos h,←h];simp[h]
 ·rw[if_neg h];have:decide (orgI m=i)=false:=decide_eq_false fun e=>h e.symm;simp[this]
def cnt(l:List Msg)(i:Nat):Nat:=(strm l i).length
theorem cnt_snoc(l:List Msg)(m:Msg)(i:Nat):cnt (l++[m]) i=cnt l i+(if i=orgI m then 1 else 0):=by
 unfold cnt;rw[strm_snoc];unfold addS updF;split
 ·rename_i h;rw[h,lnA];rfl
 ·rfl
structure MOK(n:Nat)(pre:List Msg)(m:Msg):Prop where
 org:1≤m.origin∧m.origin≤(n:Int)
 fits:fitsB n m=true
 right:m.right=true
 num:m.number=((cnt pre (orgI m)+1:Nat):Int)
 dep:∀i,i<11→0≤m.deps i∧m.deps i≤(cnt pre i:Nat)
 mono:∀x∈pre,orgI x=orgI m→∀i,i<11→x.deps i≤m.deps i
def WOK(n:Nat)(all:List Msg):Prop:=∀j m,all[j]?=some m→MOK n (all.take j) m
theorem WOK.take{all:List Msg}(h:WOK n all)(k:Nat):WOK n (all.take k):=fun j m hj=>by
 rw[List.getElem?_take]at hj
 split at hj
 ·rename_i hlt
  have:=h j m hj
  rw[List.take_take,Nat.min_eq_left jA]
  exact this
 ·cases hj
theorem WOK.snoc{all:List Msg}(h:WOK n all)(hm:MOK n all m):WOK n (all++[m]):=fun j x hj=>by
 rcases Nat.lt_or_ge j all.length with hlt|hge
 ·rw[List.getElem?_append_left hlt]at hj
  rw[List.take_append_of_le_length jA]
  exact h j x hj
 ·rw[List.getElem?_append_right hge]at hj
  have e:j=all.length:=qcu
  subst e
  rw[Nat.sub_self]at hj
  simp at hj
  subst hj
  rw[List.take_left]
  exact hm
theorem WOK.nil(n:Nat):WOK n []:=fun j m h=>by simp at h
variable {l:List Msg}
theorem lastD_mem(h:0<l.length):∃x∈l,lastD l=x.deps:=by
 have hne:l≠[]:=by intro e;rw[e]at h;simp at h
 refine⟨l.getLast hne,List.getLast_mem hne,?_⟩;unfold lastD;rw[List.getLast?_eq_some_getLast hne]
theorem MOK.chk{pre:List Msg}(h:MOK n pre m):chk n (strm pre) m=0:=by
 refine chk_ok h.fits h.right h.num (fun hp i hi=>?_) fun i hi=>(h.dep i hi).2;obtain⟨x,hx,e⟩:=lastD_mem hp;rw[e];unfold strm at hx;rw[List.mem_filter]at hx;exact h.mono x hx.1 (of_decide_eq_true hx.2) i hi
theorem zax{l:List α}{k:Nat}{x:α}(h:l[k]?=some x):l.take (k+1)=l.take k++[x]:=by
 rw[List.take_add_one,h];rfl
theorem take_all(l:List α):l.take l.length=l:=List.take_length
theorem strm_num{n:Nat}{all:List Msg}(h:WOK n all):∀k i p x,(strm (all.take k) i)[p]?=some x→x.number=((p+1:Nat):Int)
 |0,i,p,x,hx=>by simp[strm]at hx
 | k + 1, i, p, x, hx => by
  cases hm:all[k]? with
  | none =>
   have e:all.take (k+1)=all.take k:=by rw[List.take_add_one,hm];simp
   rw[e]at hx
   exact strm_num h k i p x hx
  | some m =>
   have hok:=h k m hm
   rw[zax hm,strm_snoc]at hx
   unfold addS updF at hx
   by_cases hi:i=orgI m
   ·rw[if_pos hi]at hx
    rcases Nat.lt_or_ge p (strm (all.take k) (orgI m)).length with hlt|hge
    ·rw[List.getElem?_append_left hlt]at hx
     exact strm_num h k _ p x hx
    ·rw[List.getElem?_append_right hge]at hx
     have e:p=(strm (all.take k) (orgI m)).length:=by
      rcases Nat.eq_or_lt_of_le hge with e|e
      ·exact e.symm
      ·rw[List.getElem?_eq_none je]at hx;cases hx
     subst e
     rw[Nat.sub_self]at hx
     simp at hx
     subst hx
     exact hok.num
   ·rw[if_neg hi]at hx
    exact strm_num h k i p x hx
variable {x:Msg} {p:Nat}
theorem zcc{all:List Msg}(h:WOK n all){i:Nat}(hx:(strm all i)[p]?=some x):x.number=((p+1:Nat):Int):=by
 refine strm_num h all.length i p x ?_;rw[take_all];exact hx
theorem strm_app(a b:List Msg)(i:Nat):strm (a++b) i=strm a i++strm b i:=List.filter_append ..
theorem strm_mem(hx:x∈l):∃p:Nat,(strm l (orgI x))[p]?=some x:=by
 have:x∈strm l (orgI x):=by unfold strm;rw[List.mem_filter];exact⟨hx,by simp⟩
 exact List.getElem?_of_mem this
theorem strm_org{i:Nat}(h:(strm l i)[p]?=some x):x∈l∧orgI x=i:=by
 have:=List.mem_of_getElem? h;unfold strm at this
 rw[List.mem_filter]at this;exact⟨this.1,of_decide_eq_true this.2⟩
def unk(u:Nat→Int)(l:List Msg):List Msg:=l.filter fun m=>decide (u (orgI m)<m.number)
structure Knw(all:List Msg)(u:Nat→Int):Prop where
 le:∀i,0≤u i∧u i≤(cnt all i:Nat)
 closed:∀x∈all,x.number≤u (orgI x)→∀i,i<11→x.deps i≤u i
def uptoS(all:List Msg)(u:Nat→Int):Strm:=fun i=>(strm all i).take (u i).toNat
variable {u:Nat→Int}
theorem knownS_uptoS{all:List Msg}(h:Knw all u)(i:Nat):knownS (uptoS all u) i=u i:=by
 have:=h.le i;unfold knownS uptoS
 rw[List.length_take];unfold cnt at this;omega
theorem filter_cons_split{p:α→Bool}{l:List α}{m:α}{rest:List α}(h:l.filter p=m::rest):∃pre post,l=pre++m::post∧(∀x∈pre,p x=false)∧p m=true∧rest=post.filter p:=by
 induction l with
 |nil=>simp at h
 | cons a l ih =>
  rw[List.filter_cons]at h;split at h
  ·rename_i ha
   simp only[List.cons.injEq]at h;obtain⟨rfl,rfl⟩:=h;exact⟨[],l,rfl,by simp,ha,rfl⟩
  ·rename_i ha
   obtain⟨pre,post,rfl,h1,h2,h3⟩:=ih h;refine⟨a::pre,post,rfl,?_,h2,h3⟩;intro x hx;rcases List.mem_cons.1 hx with rfl|hx
   ·simpa using ha
   ·exact h1 x hx
theorem WOK.pre{n:Nat}{pre post:List Msg}(h:WOK n (pre++post)):WOK n pre:=by
 have:=h.take pre.length;rwa [List.take_left]at this
theorem WOK.at{n:Nat}{pre post:List Msg}{m:Msg}(h:WOK n (pre++m::post)):MOK n pre m:=by
 have:=h pre.length m (by rw[List.getElem?_append_right (Nat.le_refl _)];simp);rwa [List.take_left]at this
theorem cnt_le{pre:List Msg}(h:WOK n pre)(h0:∀i,0≤u i)(hk:∀x∈pre,x.number≤u (orgI x))(i:Nat):((cnt pre i:Nat):Int)≤u i:=by
 rcases Nat.eq_zero_or_pos (cnt pre i)with e|e
 ·rw[e];exact h0 i
 ·unfold cnt at e⊢;obtain⟨x,hx⟩:∃x,(strm pre i)[(strm pre i).length-1]?=some x:=⟨_,lgE jA⟩;have h1:=zcc h hx;obtain⟨h2,h3⟩:=strm_org hx
  have h4:=hk x h2;rw[h3]at h4
  omega
theorem strm_cons(m:Msg)(l:List Msg)(i:Nat):strm (m::l) i=(if i=orgI m then [m]else [])++strm l i:=by
 unfold strm;rw[List.filter_cons];by_cases h:i=orgI m
 ·rw[if_pos h,if_pos (by simp[h])];rfl
 ·rw[if_neg h,if_neg (by simp;exact fun e=>h e.symm)];rfl
theorem unk_first{all:List Msg}{rest:List Msg}(hW:WOK n all)(hu:Knw all u)(h:unk u all=m::rest):chk n (uptoS all u) m=0∧addS (uptoS all u) m=uptoS all (updF u (orgI m) (u (orgI m)+1))∧Knw all (updF u (orgI m) (u (orgI m)+1))∧unk (updF u (orgI m) (u (orgI m)+1)) all=rest∧(∀i,i<11→m.deps i≤u i):=by
 obtain⟨pre,post,rfl,hp,hm,rfl⟩:=filter_cons_split h;have hok:=hW.at;have hpre:=hW.pre
 have hm:u (orgI m)<m.number:=of_decide_eq_true hm
 have hkn:∀x∈pre,x.number≤u (orgI x):=fun x hx=>by
  have:=hp x hx;simp only[decide_eq_false_iff_not]at this
  omega
 have hc:=fun i=>cnt_le hpre (fun i=>(hu.le i).1) hkn i;have hnum:=hok.num
 have huo:u (orgI m)=(cnt pre (orgI m):Nat):=by
  have:=hc (orgI m);omega
 have hS:uptoS (pre++m::post) u (orgI m)=strm pre (orgI m):=by
  unfold uptoS;rw[huo,Int.toNat_natCast,strm_app];unfold cnt;exact List.take_left
 have hdu:∀i,i<11→m.deps i≤u i:=fun i hi=>by
  have h1:=(hok.dep i hi).2;have h2:=hc i
  omega
 have hall:strm (pre++m::post) (orgI m)=strm pre (orgI m)++m::strm post (orgI m):=by
  rw[strm_app,strm_cons,if_pos rfl];rfl
 refine⟨?_,?_,?_,?_,hdu⟩
 ·refine chk_ok hok.fits hok.right ?_ (fun hp i hi=>?_) fun i hi=>?_
  ·rw[hS];exact hnum
  ·rw[hS]at hp⊢;exact qbW
  ·rw[knownS_uptoS hu];exact hdu i hi
 ·funext i;unfold addS;by_cases e:i=orgI m
  ·subst e;rw[zae,hS];show _=(strm (pre++m::post) (orgI m)).take (updF u (orgI m) (u (orgI m)+1) (orgI m)).toNat;rw[zae,hall,huo];have e1:(((cnt pre (orgI m):Nat):Int)+1).toNat=(strm pre (orgI m)).length+1:=by unfold cnt;omega
   rw[e1,List.take_length_add_append];rfl
  ·rw[zag _ _ e];show _=(strm (pre++m::post) i).take (updF u (orgI m) (u (orgI m)+1) i).toNat;rw[zag _ _ e];rfl
 ·refine⟨fun i=>?_,fun x hx hxn i hi=>?_⟩
  ·by_cases e:i=orgI m
   ·subst e;rw[zae];have h1:=(hu.le (orgI m)).1;refine⟨by omega,?_⟩
    unfold cnt;rw[hall,lnA,List.length_cons];unfold cnt at huo;omega
   ·rw[zag _ _ e];exact hu.le i
  ·have hmono:u i≤updF u (orgI m) (u (orgI m)+1) i:=by
    by_cases e:i=orgI m
    ·subst e;rw[zae];omega
    ·exact qdQ
   by_cases hle:x.number≤u (orgI x)
   ·have:=hu.closed x hx hle i hi;omega
   ·have ho:orgI x=orgI m:=by
     by_cases e:orgI x=orgI m
     ·exact e
     ·rw[zag _ _ e]at hxn;exact absurd hxn hle
    rw[ho,zae]at hxn;rw[ho]at hle;obtain⟨p,hpx⟩:=strm_mem hx;have h1:=zcc hW hpx;rw[ho,hall]at hpx
    have hp2:p=(strm pre (orgI m)).length:=by unfold cnt at huo;omega
    subst hp2;rw[List.getElem?_append_right (Nat.le_refl _),Nat.sub_self]at hpx;simp at hpx;subst hpx
    have:=hdu i hi;omega
 ·unfold unk;rw[List.filter_append,List.filter_cons]
  have e1:pre.filter (fun x=>decide (updF u (orgI m) (u (orgI m)+1) (orgI x)<x.number))=[]:=by
   rw[List.filter_eq_nil_iff];intro x hx;have h1:=hkn x hx;simp only[decide_eq_true_eq]
   by_cases e:orgI x=orgI m
   ·rw[e,zae];rw[e]at h1;omega
   ·rw[zag _ _ e];omega
  have e2:¬(decide (updF u (orgI m) (u (orgI m)+1) (orgI m)<m.number)=true):=by
   simp only[decide_eq_true_eq];rw[zae];unfold cnt at huo hnum;omega
  rw[e1,if_neg e2,List.nil_append];refine List.filter_congr fun x hx=>?_;by_cases e:orgI x=orgI m
  ·rw[e,zae];obtain⟨p,hpx⟩:=strm_mem hx
   have h1:(strm (pre++m::post) (orgI m))[(strm pre (orgI m)).length+1+p]?=some x:=by
    rw[hall,List.getElem?_append_right jA];have:(strm pre (orgI m)).length+1+p-(strm pre (orgI m)).length=p+1:=jA
    rw[this,List.getElem?_cons_succ,←e];exact hpx
   have h2:=zcc hW h1;unfold cnt at huo
   have a1:u (orgI m)+1<x.number:=jA
   have a2:u (orgI m)<x.number:=jA
   rw[decide_eq_true a1,decide_eq_true a2]
  ·rw[zag _ _ e]
theorem unk_nil{all:List Msg}(hW:WOK n all)(hu:Knw all u)(h:unk u all=[])(i:Nat):u i=(cnt all i:Nat):=by
 have h1:=cnt_le hW (fun i=>(hu.le i).1) (fun x hx=>by
  unfold unk at h;rw[List.filter_eq_nil_iff]at h
  have:=h x hx;simp only[decide_eq_true_eq]at this
  omega) i
 have:=(hu.le i).2;omega
def minU(k:Nat→Int)(pre:List Msg):Nat→Int:=fun i=>if k i<(cnt pre i:Nat)then k i else(cnt pre i:Nat)
theorem minU_le(k:Nat→Int)(pre:List Msg)(i:Nat):minU k pre i≤k i∧minU k pre i≤(cnt pre i:Nat):=by
 unfold minU;split<;>omega
theorem cnt_app(a b:List Msg)(i:Nat):cnt (a++b) i=cnt a i+cnt b i:=by
 unfold cnt;rw[strm_app,lnA]
theorem minU_nil{k:Nat→Int}(h:∀i,0≤k i):minU k []=fun _=>0:=by
 funext i
 have:=h i;show(if k i<((0:Nat):Int)then k i else((0:Nat):Int))=0
 rw[if_neg jA];rfl
theorem minU_all{k:Nat→Int}{all:List Msg}(h:Knw all k):minU k all=k:=by
 funext i
 have:=(h.le i).2;unfold minU
 split<;>omega
def nextU(u:Nat→Int)(m:Msg):Nat→Int:=updF u (orgI m) (u (orgI m)+1)
structure W12 where
 kv:Nat→Nat→Int
 all:List Msg
def W12.zero:W12:=⟨fun _ _=>0,[]⟩
structure WInv(n:Nat)(W:W12):Prop where
 ok:WOK n W.all
 knw:∀r,r<n→Knw W.all (W.kv r)
 own:∀r,r<n→W.kv r r=(cnt W.all r:Nat)
theorem WInv.zero(n:Nat):WInv n W12.zero:=⟨WOK.nil n,fun r _=>⟨fun i=>⟨Int.le_refl _,by show(0:Int)≤_;omega⟩,fun x hx=>by cases hx⟩,fun r _=>rfl⟩
def maxV(a b:Nat→Int):Nat→Int:=fun i=>if a i<b i then b i else a i
def W12.meet(W:W12)(o j:Nat):W12:={W with kv:=updF W.kv o (maxV (W.kv o) (W.kv j))}
theorem maxV_ge(a b:Nat→Int)(i:Nat):a i≤maxV a b i∧b i≤maxV a b i∧(maxV a b i=a i∨maxV a b i=b i):=by
 unfold maxV;split<;>omega
variable {W:W12} {o:Nat}
theorem WInv.meet(h:WInv n W)(ho:o<n)(hj:j<n):WInv n (W.meet o j):=by
 have hkn:Knw W.all (maxV (W.kv o) (W.kv j)):=by
  refine⟨fun i=>?_,fun x hx hn i hi=>?_⟩
  ·have h1:=(h.knw o ho).le i;have h2:=(h.knw j hj).le i
   have h3:=maxV_ge (W.kv o) (W.kv j) i;rcases h3.2.2 with e|e<;>rw[e]<;>omega
  ·have h3:=maxV_ge (W.kv o) (W.kv j) (orgI x);have h4:=maxV_ge (W.kv o) (W.kv j) i
   rcases h3.2.2 with e|e<;>rw[e]at hn
   ·have:=(h.knw o ho).closed x hx hn i hi;omega
   ·have:=(h.knw j hj).closed x hx hn i hi;omega
 refine⟨h.ok,fun r hr=>?_,fun r hr=>?_⟩
 ·show Knw W.all (updF W.kv o (maxV (W.kv o) (W.kv j)) r);by_cases e:r=o
  ·subst e;rw[zae];exact hkn
  ·rw[zag _ _ e];exact h.knw r hr
 ·show updF W.kv o (maxV (W.kv o) (W.kv j)) r r=(cnt W.all r:Nat);by_cases e:r=o
  ·subst e;rw[zae];have h1:=h.own r hr;have h2:=((h.knw j hj).le r).2
   have h3:=maxV_ge (W.kv r) (W.kv j) r;rcases h3.2.2 with e|e<;>omega
  ·rw[zag _ _ e];exact h.own r hr
def W12.say(W:W12)(o:Nat)(m:Msg):W12:=⟨updF W.kv o (updF (W.kv o) o (W.kv o o+1)),W.all++[m]⟩
theorem WOK.cnt_zero{all:List Msg}(h:WOK n all){i:Nat}(hi:n≤i):cnt all i=0:=by
 unfold cnt;rcases Nat.eq_zero_or_pos (strm all i).length with e|e
 ·exact e
 ·obtain⟨x,hx⟩:∃x,(strm all i)[0]?=some x:=⟨_,lgE e⟩;obtain⟨h1,h2⟩:=strm_org hx;obtain⟨j,hj⟩:=List.getElem?_of_mem h1;have h3:=(h j x hj).org;unfold orgI at h2
  omega
theorem Msg.signed_E0(m:Msg):Msg.E0 m.signed m:=by
 unfold Msg.signed;split
 ·exact⟨rfl,rfl,rfl,Bod.E.refl _⟩
 ·exact⟨rfl,rfl,rfl,Bod.E.refl _⟩
theorem Msg.signed_may(m:Msg):m.signed.may=m.may:=Msg.may_congr m.signed_E0
theorem Msg.signed_isright(hm:m.may=true):m.signed.right=true:=by
 have h2:∀u,({m with tag:=u}:Msg).right=(m.may&&eq32 u (Sha.numbered m.origin m.number m.tagged)):=fun _=>rfl;unfold Msg.signed
 rw[if_pos hm,h2,hm,eq32_refl];rfl
theorem Msg.signed_parts(m:Msg):m.signed.origin=m.origin∧m.signed.number=m.number∧m.signed.deps=m.deps∧m.signed.body=m.body:=by
 unfold Msg.signed;split
 ·exact⟨rfl,rfl,rfl,rfl⟩
 ·exact⟨rfl,rfl,rfl,rfl⟩
theorem WInv.say(hn:n≤11)(h:WInv n W)(ho:o<n)(h1:m.origin=((o+1:Nat):Int))(h2:m.number=W.kv o o+1)(h3:∀i,i<11→m.deps i=W.kv o i)
  (h4:m.body.q.all (fun p=>decide (p.1≤(n:Int)))=true) (hm:m.may=true):MOK n W.all m.signed∧WInv n (W.say o m.signed):=by
 obtain⟨e1,e2,e3,e4⟩:=m.signed_parts;have hk:=h.knw o ho;have hown:=h.own o ho
 have horg:orgI m.signed=o:=by unfold orgI;rw[e1,h1];omega
 have hmok:MOK n W.all m.signed:=by
  refine⟨?_,?_,Msg.signed_isright hm,?_,fun i hi=>?_,fun x hx hxo i hi=>?_⟩
  ·rw[e1,h1];omega
  ·unfold fitsB;rw[Msg.signed_may,hm,e1,e4,h4,e3];have a1:m.origin≤(n:Int):=by rw[h1];omega
   rw[decide_eq_true a1,Bool.true_and,Bool.true_and,Bool.true_and,List.all_eq_true];intro i hi;have hi:=List.mem_range.1 hi;rw[Bool.or_eq_true,decide_eq_true_eq,decide_eq_true_eq]
   by_cases hlt:i<n
   ·exact .inl hlt
   ·refine .inr ?_;rw[h3 i hi]
    have:=(hk.le i).2;rw[h.ok.cnt_zero jA]at this
    exact this
  ·rw[e2,h2,horg,hown];omega
  ·rw[e3,h3 i hi];exact hk.le i
  ·rw[e3,h3 i hi];refine hk.closed x hx ?_ i hi;rw[hxo,horg,hown];obtain⟨p,hp⟩:=strm_mem hx;have hx1:=zcc h.ok hp
   have hx2:p<(strm W.all (orgI x)).length:=qch
   rw[hxo,horg]at hx2;unfold cnt;omega
 have hcs:∀i,cnt (W.all++[m.signed]) i=cnt W.all i+(if i=o then 1 else 0):=fun i=>by rw[cnt_snoc,horg]
 refine⟨hmok,h.ok.snoc hmok,fun r hr=>?_,fun r hr=>?_⟩
 ·show Knw (W.all++[m.signed]) (updF W.kv o (updF (W.kv o) o (W.kv o o+1)) r);by_cases e:r=o
  ·subst e;rw[zae];refine⟨fun i=>?_,fun x hx hxn i hi=>?_⟩
   ·rw[hcs]
    have:=hk.le i;by_cases e:i=r
    ·subst e;rw[zae,if_pos rfl];omega
    ·rw[zag _ _ e,if_neg e];omega
   ·have hmono:W.kv r i≤updF (W.kv r) r (W.kv r r+1) i:=by
     by_cases e:i=r
     ·subst e;rw[zae];omega
     ·exact qdQ
    rcases List.mem_append.1 hx with hx|hx
    ·by_cases hle : x.number ≤ W.kv r (orgI x)
     ·have:=hk.closed x hx hle i hi;omega
     ·have ho2:orgI x=r:=by
       by_cases e:orgI x=r
       ·exact e
       ·rw[zag _ _ e]at hxn;exact absurd hxn hle
      obtain⟨p,hp⟩:=strm_mem hx;have hx1:=zcc h.ok hp
      have hx2:p<(strm W.all (orgI x)).length:=qch
      rw[ho2]at hx2 hle;unfold cnt at hown;omega
    ·rw[List.mem_singleton]at hx;subst hx;rw[e3,h3 i hi];exact hmono
  ·rw[zag _ _ e];have hkr:=h.knw r hr;refine⟨fun i=>?_,fun x hx hxn i hi=>?_⟩
   ·rw[hcs]
    have:=hkr.le i;split<;>omega
   ·rcases List.mem_append.1 hx with hx|hx
    ·exact hkr.closed x hx hxn i hi
    ·rw[List.mem_singleton]at hx;subst hx;rw[horg,e2,h2,hown]at hxn
     have:=(hkr.le o).2;omega
 ·show updF W.kv o (updF (W.kv o) o (W.kv o o+1)) r r=(cnt (W.all++[m.signed]) r:Nat);rw[hcs];by_cases e:r=o
  ·subst e;rw[zae,zae,if_pos rfl,hown];omega
  ·rw[zag _ _ e,if_neg e,Nat.add_zero];exact h.own r hr
def LOK(n:Nat)(l:List Msg):Prop:=∀j m,l[j]?=some m→chk n (strm (l.take j)) m=0
theorem chk_zero(h:chk n S m=0):fitsB n m=true∧m.right=true∧m.number=(((S (orgI m)).length+1:Nat):Int)∧(0<(S (orgI m)).length→∀i,i<11→lastD (S (orgI m)) i≤m.deps i)∧(∀i,i<11→m.deps i≤knownS S i):=by
 unfold chk at h;by_cases h1:fitsB n m=false
 ·rw[if_pos h1]at h;exact absurd h jC
 ·rw [if_neg h1] at h;by_cases h2 : m.right = false
  ·rw[if_pos h2]at h;exact absurd h jC
  ·rw [if_neg h2] at h;by_cases h3 : m.number ≤ ((S (orgI m)).length : Nat)
   ·rw[if_pos h3]at h;exact absurd h jC
   ·rw[if_neg h3]at h;by_cases h4:m.number=(((S (orgI m)).length+1:Nat):Int)∧0<(S (orgI m)).length∧aboveB (lastD (S (orgI m))) m.deps=true
    ·rw[if_pos h4]at h;exact absurd h jC
    ·rw[if_neg h4]at h;by_cases h5:(((S (orgI m)).length+1:Nat):Int)<m.number∨aboveB m.deps (knownS S)=true
     ·rw[if_pos h5]at h;exact absurd h jC
     ·have e:m.number=(((S (orgI m)).length+1:Nat):Int):=jA
      refine⟨by simpa using h1,by simpa using h2,e,fun hp=>?_,?_⟩
      ·refine zbq.1 ?_
       cases ha:aboveB (lastD (S (orgI m))) m.deps with
       |false=>rfl
       |true=>exact absurd ⟨e,hp,ha⟩ h4
      ·refine zbq.1 ?_
       cases ha:aboveB m.deps (knownS S)with
       |false=>rfl
       |true=>exact absurd (.inr ha) h5
theorem fits_org(h:fitsB n m=true):1≤m.origin∧m.origin≤(n:Int)∧m.may=true:=by
 unfold fitsB at h;simp only[Bool.and_eq_true,decide_eq_true_eq]at h;exact⟨(Msg.may_outer h.1).1,h.2.1,h.1⟩
theorem LOK.snoc(h:LOK n l)(hm:chk n (strm l) m=0):LOK n (l++[m]):=fun j x hj=>by
 rcases Nat.lt_or_ge j l.length with hlt|hge
 ·rw[List.getElem?_append_left hlt]at hj
  rw[List.take_append_of_le_length jA]
  exact h j x hj
 ·rw[List.getElem?_append_right hge]at hj
  have e:j=l.length:=qcu
  subst e
  rw[Nat.sub_self]at hj
  simp at hj
  subst hj
  rw[List.take_left]
  exact hm
theorem LOK.nil(n:Nat):LOK n []:=fun j m h=>by simp at h
theorem lastD_get(h:l[l.length-1]?=some x):lastD l=x.deps:=by
 unfold lastD;rw[List.getLast?_eq_getElem?,h]
def clientW:List UInt8:=[114,97,116,99,104,101,116,32,99,108,105,101,110,116]
def Req.sig(r:Req):Nat→UInt8:=Sha.hmac (Sha.word32 clientW r.client) r.bytes
def Req.signed(r:Req):Req:=if r.asked then {r with tag:=r.sig}else r
def Req.auth(r:Req):Bool:=decide r.asked&&eq32 r.tag r.sig
variable {r:Req}
theorem Req.bytes_max(h:r.asked):r.bytes.length≤1000:=by
 obtain⟨_,_,_,_,⟨h1,h2⟩,h3,h4⟩:=h;rw[Req.bytes_len];omega
variable {f:Frag}
theorem req_tag{A A':List HP}{rb:Nat}{T:TypeId}(h:At A (row rb T r.vals) A' (row rb T r.vals)):Rd f A rb (0+8) (b32 r.tag):=by
 have h1:=Rd.ofRow (f:=f) h;have e:r.vals=[.int .i64 r.client,.int .u64 r.time,.int .u8 (r.kind.toNat:Nat),.string r.key,.string r.val,.string r.old,.string r.to,.int .u64 r.amount]++b32 r.tag++[]:=by unfold Req.vals;rw[List.append_nil]
 exact qbF
theorem splice_rtag(r:Req)(t:Nat→UInt8):splice r.vals (0+8) (b32 t)=({r with tag:=t}:Req).vals:=rfl
section
variable {P:Program} {base:World} {n:Nat} {L:Env} {f:Frag} {A V:List HP} {q:Post} {l rest:List Oper} {d:Nat} {ty:TypeId} {pos:String} {af:Array Edge} {gd:Option (Nat × Bool)}
theorem HQ.fieldN{st:TypeId}{x:Operand}{i m:Nat}{fs:List Field}{nm tg pk:String}{ft:TypeId}{fo bo:Nat}{em:Bool}{xs ls:List Value}{de:TypeDesc}[hu:Und P st (.struct fs.toArray)](hw:want? l L gd=true)
  (hx:ev? L x=some (.agg xs.toArray)) (hf:nthF fs i=some ⟨nm,ft,fo,em,tg,pk,bo⟩) (he:Und P ft de) (ha:aggD de=true) (hs:Siz P ft m) (hv:(xs.drop fo).take m=ls) (hd:Nat.ble (d+1) n=true) {lst:Lst} {ti:Nat} {tt:List (Nat×Bool)}
  (k:HQ V ⟨lst.setIfInBounds ti true,tt⟩ P base n ((d,.agg ls.toArray)::L) f A (.ops l rest q)):HQ V ⟨lst,(ti,false)::tt⟩ P base n L f A (.ops l (⟨some d,.field st x i,ty,pos,af,gd⟩::rest) q):=
 HQ.opV hw hd (fun a w hfr _=>by
  rw[nthF_eq]at hf
  have h3:=run_isAgg he w
  have h4:xs.toArray.extract fo (fo+m)=ls.toArray:=by
   rw[List.extract_toArray,←hv]
   unfold List.extract
   rw[Nat.add_sub_cancel_left]
  simp[execOp,Instr.field,hfr.eval hx,hu.run,hf,asAgg,part,h3,ha,hs.run]
  simpa using h4) k
end
structure Vw where
 v:Int
 num:Int
 s:List Req
 p:List (Int×Req)
def Vw.all(w:Vw):List Req:=w.s++w.p.map Prod.snd
theorem Vw.all_len(w:Vw):w.all.length=w.s.length+w.p.length:=by unfold Vw.all;rw[lnA,List.length_map]
structure Lgs where
 n:Nat
 known:Nat→Int
 vs:List Vw
 past:Nat→PM
 ch:Nat→List (Int×Int)
def Lgs.new(n:Nat):Lgs:=⟨n,fun _=>0,[⟨0,0,[],[]⟩],fun _=>PM.new,fun _=>[]⟩
def vwAt:List Vw→Int→Option Nat
 | [],_=>none
 |w::r,v=>if w.v=v then some 0 else(vwAt r v).map (· +1)
variable {vs:List Vw} {v:Int}
theorem zaq{i:Nat}:vwAt vs v=some i↔(∃w,vs[i]?=some w∧w.v=v)∧∀j w,j<i→vs[j]?=some w→w.v≠v:=by
 induction vs generalizing i with
 |nil=>simp[vwAt]
 | cons w r ih =>
  unfold vwAt;by_cases h:w.v=v
  ·rw[if_pos h];refine⟨fun e=>?_,fun⟨_,e⟩=>?_⟩
   ·cases e
    exact⟨⟨w,rfl,h⟩,fun j w hj=>by omega⟩
   ·cases i with
    |zero=>rfl
    |succ i=>exact absurd h (e 0 w jA rfl)
  ·rw[if_neg h]
   cases i with
   | zero =>
    refine⟨fun e=>?_,fun⟨⟨w',e,e2⟩,_⟩=>?_⟩
    ·cases hr:vwAt r v<;>rw[hr]at e<;>cases e
    ·cases e;exact absurd e2 h
   | succ i =>
    refine⟨fun e=>?_,fun⟨⟨w',e,e2⟩,e3⟩=>?_⟩
    ·have e':vwAt r v=some i:=by
      cases hr:vwAt r v with
      |none=>rw[hr]at e;cases e
      |some k=>rw[hr]at e;simp at e;rw[e]
     obtain⟨⟨w',e1,e2⟩,e3⟩:=ih.1 e';refine⟨⟨w',e1,e2⟩,fun j x hj hx=>?_⟩
     cases j with
     |zero=>cases hx;exact h
     |succ j=>exact e3 j x jA hx
    ·rw[ih.2 ⟨⟨w',e,e2⟩,fun j x hj hx=>e3 (j+1) x jA hx⟩];rfl
theorem vwAt_none:vwAt vs v=none↔∀w∈vs,w.v≠v:=by
 induction vs with
 |nil=>simp[vwAt]
 | cons w r ih =>
  unfold vwAt;by_cases h:w.v=v
  ·rw[if_pos h];simp[h]
  ·rw[if_neg h]
   cases hr:vwAt r v with
   |none=>simp[h];exact ih.1 hr
   | some k =>
    simp;intro _;obtain⟨⟨w',e1,e2⟩,_⟩:=zaq.1 hr;exact⟨w',List.mem_of_getElem? e1,e2⟩
def vwZ(vs:List Vw)(v:Int):Int:=match vwAt vs v with
 |none=>-1
 |some i=>(i:Nat)
def primI(n:Nat)(v:Int):Nat:=(v % (n:Int)).toNat
def primZ(n:Nat)(v:Int):Int:=1+((primI n v:Nat):Int)
def holdsB(l:List Req)(c t:Int):Bool:=l.any fun r=>decide (r.client=c)&&decide (r.time=t)
def chB(l:Lgs)(q:Int×Int)(v:Int):Bool:=(l.ch (q.1-1).toNat).any fun c=>decide (c.1=v)&&decide (c.2=q.2)
def bestOf(bv:Int):List (Int×Int)→Int×Int→Int×Int
 | [],a=>a
 |x::r,a=>bestOf bv r (if x.1<bv∧(a.1<x.1∨(x.1=a.1∧a.2<x.2))then x else a)
def bestQ(past:Nat→PM)(bv:Int):List (Int×Int)→Int×Int→Int×Int
 | [],a=>a
 |q::r,a=>bestQ past bv r (bestOf bv (past (q.1-1).toNat).all a)
def insKF(v:Int)(vs:List Vw):Nat→Nat
 |0=>0
 | k + 1 => match vs[k]? with
  |none=>k+1
  |some x=>if v<x.v then insKF v vs k else k+1
def insK(v:Int)(vs:List Vw):Nat:=insKF v vs vs.length
def insV(w:Vw)(vs:List Vw):List Vw:=vs.take (insK w.v vs)++w::vs.drop (insK w.v vs)
theorem insKF_le(v:Int)(vs:List Vw):∀k,insKF v vs k≤k
 |0=>Nat.le_refl 0
 | k + 1 => by
  unfold insKF
  split
  ·exact Nat.le_refl _
  ·split
   ·exact Nat.le_succ_of_le (insKF_le v vs k)
   ·exact Nat.le_refl _
theorem insKF_above(v:Int)(vs:List Vw):∀k j x,insKF v vs k≤j→j<k→vs[j]?=some x→v<x.v
 |0,j,x,_,h,_=>by omega
 | k + 1, j, x, h1, h2, hx => by
  unfold insKF at h1
  cases hk:vs[k]? with
  |none=>rw[hk]at h1;simp only at h1;omega
  | some y =>
   rw[hk]at h1
   simp only at h1
   by_cases hv:v<y.v
   ·rw[if_pos hv]at h1
    by_cases e:j=k
    ·subst e;rw[hk]at hx;cases hx;exact hv
    ·exact insKF_above v vs k j x h1 jA hx
   ·rw[if_neg hv]at h1;omega
theorem insKF_below(v:Int)(vs:List Vw):∀k x,0<insKF v vs k→vs[insKF v vs k-1]?=some x→¬v<x.v
 |0,x,h,_=>by unfold insKF at h;omega
 | k + 1, x, h, hx => by
  unfold insKF at h hx
  cases hk:vs[k]? with
  |none=>rw[hk]at hx;simp only[Nat.add_sub_cancel]at hx;rw[hk]at hx;cases hx
  | some y =>
   rw[hk]at h hx
   simp only at h hx
   by_cases hv:v<y.v
   ·rw[if_pos hv]at h hx
    exact insKF_below v vs k x h hx
   ·rw[if_neg hv,Nat.add_sub_cancel,hk]at hx
    cases hx
    exact hv
theorem zbk(w:Vw)(vs:List Vw):(w::vs).Perm (insV w vs):=by
 unfold insV;conv=>lhs;rw[←List.take_append_drop (insK w.v vs) vs]
 exact List.perm_middle.symm
theorem bestOf_mem(bv:Int):∀(l:List (Int×Int)) (a:Int×Int),bestOf bv l a=a∨bestOf bv l a∈l
 | [],a=>.inl rfl
 | x :: r, a => by
  unfold bestOf
  split
  ·rcases bestOf_mem bv r x with h|h
   ·rw[h];exact .inr jK
   ·exact .inr (List.mem_cons_of_mem _ h)
  ·rcases bestOf_mem bv r a with h|h
   ·exact .inl h
   ·exact .inr (List.mem_cons_of_mem _ h)
theorem bestQ_mem(past:Nat→PM)(bv:Int):∀(q:List (Int×Int)) (a:Int×Int),bestQ past bv q a=a∨∃p∈q,bestQ past bv q a∈(past (p.1-1).toNat).all
 | [],a=>.inl rfl
 | x :: r, a => by
  unfold bestQ
  rcases bestQ_mem past bv r (bestOf bv (past (x.1-1).toNat).all a)with h|⟨p,hp,h⟩
  ·rw[h]
   rcases bestOf_mem bv (past (x.1-1).toNat).all a with h2|h2
   ·exact .inl h2
   ·exact .inr ⟨x,by simp,h2⟩
  ·exact .inr ⟨p,List.mem_cons_of_mem _ hp,h⟩
def Lgs.begins(l:Lgs)(m:Msg):Bool×Lgs:=
 if m.body.q.length≠(l.n-1) / 2+1 then(false,l)else
 if(m.body.q.all fun q=>decide (q.2≤m.deps (q.1-1).toNat)&&chB l q m.body.view)=false then(false,l)else
 if(l.past (orgI m)).enterOk m.body.view (bestQ l.past m.body.view m.body.q (0,0)).2=false then(false,l)else
 (true, { l with
  past:=updF l.past (orgI m) ((l.past (orgI m)).enter m.body.view (bestQ l.past m.body.view m.body.q (0,0)).2)
  vs:=insV ⟨m.body.view,m.number,((match vwAt l.vs (bestQ l.past m.body.view m.body.q (0,0)).1 with|none=>[]|some i=>(l.vs[i]?.map Vw.all).getD []).take (bestQ l.past m.body.view m.body.q (0,0)).2.toNat),[]⟩ l.vs})
def knowsV(w:Vw)(d:Int):Nat:=w.s.length+(w.p.filter fun x=>decide (x.1≤d)).length
def Lgs.doPast(l:Lgs)(r:Nat)(p:PM):Lgs:={l with past:=updF l.past r p}
def Lgs.counts(l:Lgs)(m:Msg):Bool×Lgs:=
 let r:=orgI m
 let p:=l.past r
 let b:=m.body
 let prim:=decide (primZ l.n b.view=m.origin)
 let d:=m.deps (primI l.n b.view)
 if b.kind=3 then
  if p.changeOk b.view=true then(true,{l with past:=updF l.past r (p.change b.view),ch:=updF l.ch r (l.ch r++[(b.view,m.number)])})else(false,l)
 else if b.kind=4 then(if prim=true then l.begins m else(false,l))
 else if b.kind=5 then
  match vwAt l.vs b.view with
  |none=>(false,l)
  | some i => match l.vs[i]? with
   |none=>(false,l)
   |some w=>if d<w.num then(false,l)else(p.enterOk b.view w.s.length,l.doPast r (p.enter b.view w.s.length))
 else if b.kind=1 then
  match vwAt l.vs b.view with
  |none=>(false,l)
  | some i => match l.vs[i]? with
   |none=>(false,l)
   | some w => if prim = false ∨ b.req.auth = false ∨ holdsB w.all b.req.client b.req.time = true ∨ p.isOpen b.view = false then (false, l) else
    (true,{l with past:=updF l.past r (p.prepare b.view),vs:=l.vs.set i {w with p:=w.p++[(m.number,b.req)]} })
 else if b.kind=2 then
  match vwAt l.vs b.view with
  |none=>(false,l)
  | some i => match l.vs[i]? with
   |none=>(false,l)
   |some w=>if prim=true then(false,l)else(p.commitOk b.view b.k (knowsV w d),l.doPast r (p.commit b.view b.k (knowsV w d)))
 else(decide (b.kind=6),l)
def qIn(n:Nat)(m:Msg):Bool:=m.body.q.all fun p=>decide (p.1≤(n:Int))
def depsIn(m:Msg)(k:Nat→Int):Bool:=(List.range 11).all fun i=>decide (m.deps i≤k i)
def Lgs.take(l:Lgs)(m:Msg):(Bool×Int)×Lgs:=
 if m.may=false∨(l.n:Int)<m.origin∨qIn l.n m=false then((false,1),l)else
 if m.number≠l.known (orgI m)+1∨depsIn m l.known=false then((false,12),l)else
 (((l.counts m).1,0),{(l.counts m).2 with known:=updF (l.counts m).2.known (orgI m) ((l.counts m).2.known (orgI m)+1)})
structure MIn(n:Nat)(m:Msg):Prop where
 o:1≤m.origin∧m.origin≤(n:Int)
 q:∀p∈m.body.q,1≤p.1∧p.1≤(n:Int)
 v:0≤m.body.view
structure LI(l:Lgs)(T:Nat):Prop where
 n3:3≤l.n∧l.n≤11
 kn:∀i,0≤l.known i∧l.known i≤(T:Int)
 wf:∀r,r<l.n→PM.WF (l.past r) T
 il:∀r,r<l.n→(l.past r).init.length≤T
 vl:l.vs.length≤T+1
 cl:∀r,(l.ch r).length≤T
 al:∀w∈l.vs,w.all.length≤T
 log:∀r,r<l.n→∀p∈(l.past r).all,∃w∈l.vs,w.v=p.1∧p.2≤(w.all.length:Int)
 zero:∃w∈l.vs,w.v=0
 rise:(l.vs.map Vw.v).Pairwise (· < ·)
 begun:∀w∈l.vs,w.v≠0→∃p∈(l.past (primI l.n w.v)).all,p.1=w.v
 gb:∀r,r<l.n→(l.past r).g<1073741824
theorem vwAt_mem(h:(vs.map Vw.v).Pairwise (· < ·)){w:Vw}(hw:w∈vs):∃i,vwAt vs w.v=some i∧vs[i]?=some w:=by
 obtain⟨i,hi⟩:=List.getElem?_of_mem hw;refine⟨i,zaq.2 ⟨⟨w,hi,rfl⟩,fun j x hj hx e=>?_⟩,hi⟩;have h1:=(List.getElem?_eq_some_iff.1 hi);have h2:=(List.getElem?_eq_some_iff.1 hx)
 have:=List.pairwise_iff_getElem.1 h j i kA kB hj;rw[List.getElem_map,List.getElem_map,h1.2,h2.2,e]at this
 omega
theorem LI.best{l:Lgs}{T:Nat}(h:LI l T)(hm:MIn l.n m):∃i w,vwAt l.vs (bestQ l.past m.body.view m.body.q (0,0)).1=some i∧l.vs[i]?=some w∧0≤(bestQ l.past m.body.view m.body.q (0,0)).2∧(bestQ l.past m.body.view m.body.q (0,0)).2≤(w.all.length:Int):=by
 rcases bestQ_mem l.past m.body.view m.body.q (0,0)with e|⟨p,hp,hb⟩
 ·rw[e];obtain⟨w,hw,h0⟩:=h.zero;obtain⟨i,h1,h2⟩:=vwAt_mem h.rise hw;rw[h0]at h1;exact⟨i,w,h1,h2,Int.le_refl 0,by show(0:Int)≤_;omega⟩
 ·have hq:=hm.q p hp;have hr:(p.1-1).toNat<l.n:=jA
  obtain⟨w,hw,h0,h3⟩:=h.log _ hr _ hb;obtain⟨i,h1,h2⟩:=vwAt_mem h.rise hw;rw[h0]at h1;exact⟨i,w,h1,h2,((h.wf _ hr).low _ hb).2.2.1,h3⟩
theorem filt_take{p:α→Bool}{ws:List α}{i:Nat}{x:α}(hx:ws[i]?=some x):(ws.take (i+1)).filter p=(ws.take i).filter p++(if p x then [x]else []):=by
 rw[List.take_add_one,hx,List.filter_append];congr 1;by_cases h:p x=true
 ·rw[if_pos h];simp[h]
 ·rw[if_neg h];simp[h]
def flatV{α:Type}(g:α→List Value)(l:List α):List Value:=(l.map g).flatten
theorem flatV_length{g:α→List Value}{sz:Nat}(hg:∀x,(g x).length=sz)(l:List α):(flatV g l).length=l.length*sz:=by
 induction l with
 |nil=>simp[flatV]
 |cons x r ih=>simp only[flatV,List.map_cons,List.flatten_cons,lnA,hg,List.length_cons]at ih⊢;rw[ih,Nat.add_mul];omega
theorem flatV_get{α:Type}{g:α→List Value}{sz:Nat}(hg:∀x,(g x).length=sz):∀(l:List α) (i j:Nat) (x:α),l[i]?=some x→j<sz→(flatV g l)[i*sz+j]?=(g x)[j]?
 | [],i,j,x,h,_=>by simp at h
 | y :: r, 0, j, x, h, hj => by
  simp at h;subst h
  simp only[flatV,List.map_cons,List.flatten_cons,Nat.zero_mul,Nat.zero_add]
  exact List.getElem?_append_left (by rw[hg];exact hj)
 | y :: r, i + 1, j, x, h, hj => by
  have ih:=flatV_get hg r i j x jx hj
  simp only[flatV,List.map_cons,List.flatten_cons]at ih⊢
  rw[List.getElem?_append_right (by rw[hg,Nat.add_mul];omega),hg,←ih]
  congr 1
  rw[Nat.add_mul];omega
theorem flatV_append(g:α→List Value)(l r:List α):flatV g (l++r)=flatV g l++flatV g r:=by simp[flatV]
def voteV(p:Int×Int):List Value:=[.int .u64 p.1,.int .i64 p.2]
theorem voteV_len(p:Int×Int):(voteV p).length=2:=rfl
def pstL(b eb ec:Nat)(s:PM):List HP:=[row b 194 [.int .u64 s.g,.slice (some ⟨eb,0,none⟩) (s.init.length+1) ec],
 slc (some ⟨eb,0,none⟩) (s.init.length+1) ec 191 2 (flatV voteV s.all)]
def pstH(b:Nat)(s:PM):HP:=fun h=>∃i:Nat×Nat,stars (pstL b i.1 i.2 s) h
variable {s:PM} {F:List HP}
theorem zay{b eb ec:Nat}:∀x,stars (row b 194 [.int .u64 s.g,.slice (some ⟨eb,0,none⟩) (s.init.length+1) ec] ::slc (some ⟨eb,0,none⟩) (s.init.length+1) ec 191 2 (flatV voteV s.all)::F) x→stars (pstH b s::F) x:=
 fold_stars (B:=[_,_]) fun x hx=>⟨(eb,ec),hx⟩
variable {fid:FuncId} {args:List Value}
theorem pstH_open{R:Value→Frag→List HP→Prop}{b:Nat}
  (k : ∀ eb ec, Fn prog fid args f (row b 194 [.int .u64 s.g, .slice (some ⟨eb, 0, none⟩) (s.init.length + 1) ec] ::
   slc (some ⟨eb,0,none⟩) (s.init.length+1) ec 191 2 (flatV voteV s.all)::F) R):Fn prog fid args f (pstH b s::F) R:=
 Fn.unfold iD fun⟨eb,ec⟩=>k eb ec
theorem pstH_openH{base:World}{L:Env}{K:Kont}{b:Nat}
  (k : ∀ eb ec, H prog base n L f (row b 194 [.int .u64 s.g, .slice (some ⟨eb, 0, none⟩) (s.init.length + 1) ec] ::
   slc (some ⟨eb,0,none⟩) (s.init.length+1) ec 191 2 (flatV voteV s.all)::F) K):H prog base n L f (pstH b s::F) K:=
 H.unfold iD fun⟨eb,ec⟩=>k eb ec
theorem all_last(s:PM):s.all[s.init.length]?=some (s.lv,s.ln):=by simp[PM.all]
theorem votes_lv(s:PM):(flatV voteV s.all)[s.init.length*2+0]?=some (.int .u64 s.lv):=by rw[flatV_get voteV_len _ _ _ _ (all_last s) jC];rfl
theorem votes_ln(s:PM):(flatV voteV s.all)[s.init.length*2+1]?=some (.int .i64 s.ln):=by rw[flatV_get voteV_len _ _ _ _ (all_last s) jC];rfl
theorem all_len(s:PM):s.all.length=s.init.length+1:=by simp[PM.all]
variable {B:Int}
section
variable (f:Frag) (F:List HP) (b:Nat) (s:PM)
theorem Fn.pstOpen{v:Value}(h:∀eb ec,Fn prog fid args f (pstL b eb ec s++F) (Ret v f (pstL b eb ec s++F))):Fn prog fid args f (pstH b s::F) (Ret v f (pstH b s::F)):=by
 refine Fn.unfold iD fun⟨eb,ec⟩=>?_;intro base w hs;refine(h eb ec base w hs).mono ?_;rintro e w' ⟨u,f',A',he,⟨rfl,rfl,rfl⟩,s'⟩;exact⟨_,_,_,he,⟨rfl,rfl,rfl⟩,s'.imp zay⟩
theorem pst_last_o(eb ec:Nat)(hn:s.init.length≤1000000):Fn prog 141 [.pointer (some ⟨b,0,none⟩)] f (pstL b eb ec s++F) (Ret (.int .u64 s.lv) f (pstL b eb ec s++F)):=by
 refine qia ?_;refine Fn.e1 func141 ntmps141 fun base=>?_;refine gI ?_;refine qkH ?_;refine HQ.Ah rfl rfl rfl rfl jA rfl ?_;refine gP ?_;refine HQ.Ab rfl rfl rfl (.at0 (Rd.ofSlc jB jA) (votes_lv s)) rfl ?_;refine gK ?_;refine gT ?_;exact qaj
theorem pst_new:Fn prog 64 [] f F (fun v f' A'=>∃b,v= .pointer (some ⟨b,0,none⟩)∧f'=f∧A'=pstH b PM.new::F):=by
 refine Fn.e0 func64 ntmps64 fun base=>?_;refine gG ?_;refine qeU fun eb=>?_;refine gO ?_;refine H.box rfl rfl rfl rfl fun b=>?_;refine gT ?_;refine H.Ae rfl rfl (A':=pstH b PM.new::F) ?_ ⟨b,rfl,rfl,rfl⟩;intro x hx;refine zay (eb:=eb) (ec:=1) x ?_;refine keep_stars (fun y hy=>?_) x hx;obtain⟨m1,m2,d,e,a,r⟩:=hy;exact qbB
theorem pst_open_o(eb ec:Nat)(hn:s.init.length≤1000000)(v:Int):Fn prog 142 [.pointer (some ⟨b,0,none⟩),.int .u64 v] f (pstL b eb ec s++F) (Ret (.bool (s.isOpen v)) f (pstL b eb ec s++F)):=by
 refine qia ?_;by_cases hv:v=s.g
 ·refine Fn.e2 func142 ntmps142 fun base=>?_;refine gg ?_;refine H.Ap rfl rfl rfl (pst_last_o f F b s eb ec hn) fun _ _ _ hR=>?_;exact qdT
 ·refine Fn.e2 func142 ntmps142 fun base=>?_;refine gg ?_;exact qci
theorem pst_open(hn:s.init.length≤1000000)(v:Int):Fn prog 142 [.pointer (some ⟨b,0,none⟩),.int .u64 v] f (pstH b s::F) (Ret (.bool (s.isOpen v)) f (pstH b s::F)):=
 Fn.pstOpen f F b s fun eb ec=>pst_open_o f F b s eb ec hn v
theorem pst_change(v:Int):Fn prog 104 [.pointer (some ⟨b,0,none⟩),.int .u64 v] f (pstH b s::F) (Ret (.bool (s.changeOk v)) f (pstH b (s.change v)::F)):=by
 refine pstH_open fun eb ec=>?_;by_cases h1:v≤s.g
 ·refine Fn.e2 func104 ntmps104 fun base=>?_;refine gX ?_;exact qcn
 ·by_cases h2:1073741824≤v
  ·refine Fn.e2 func104 ntmps104 fun base=>?_;refine gg ?_;exact qcn
  ·refine Fn.e2 func104 ntmps104 fun base=>?_;refine gX ?_;have e:s.changeOk v=true:=by simp[PM.changeOk];omega
   refine H.Ae rfl rfl (A':=pstH b (s.change v)::F) ?_ ⟨by rw[e],rfl,rfl⟩;rw[show s.change v= {s with g:=v} by simp[PM.change,e]];exact zay (s:={s with g:=v})
theorem votes_bump(s:PM):SetV (flatV voteV s.all) (s.init.length*2+1) (.int .i64 (s.ln+1)) (flatV voteV ({s with ln:=s.ln+1}:PM).all):=by
 have h:s.init.length*2+1<(flatV voteV s.all).length:=by rw[flatV_length voteV_len,all_len];omega
 have:=SetV.mk (.int .i64 (s.ln+1)) h
 have e:(flatV voteV s.all).set (s.init.length*2+1) (.int .i64 (s.ln+1))=flatV voteV ({s with ln:=s.ln+1}:PM).all:=by
  simp only[PM.all,flatV_append];have h2:(flatV voteV s.init).length=s.init.length*2:=flatV_length voteV_len _;rw[List.set_append_right _ _ jA,h2]
  have:s.init.length*2+1-s.init.length*2=1:=jA
  rw[this];rfl
 rwa [e]at this
theorem pst_prepare(hw:PM.WF s B)(hB:B≤9000000000000000000)(hn:s.init.length≤1000000)(v:Int):Fn prog 110 [.pointer (some ⟨b,0,none⟩),.int .u64 v] f (pstH b s::F) (Ret (.bool (s.isOpen v)) f (pstH b (s.prepare v)::F)):=by
 have hl:=hw.last
 cases ho:s.isOpen v with
 | false =>
  refine Fn.e2 func110 ntmps110 fun base=>?_;refine gI ?_;refine H.Ap rfl rfl rfl (pst_open f F b s hn v) fun _ _ _ hR=>?_;exact qck
 | true =>
  refine Fn.e2 func110 ntmps110 fun base=>?_;refine gI ?_;refine H.Ap rfl rfl rfl (pst_open f F b s hn v) fun _ _ _ hR=>?_;obtain⟨rfl,rfl,rfl⟩:=hR;rw[ho];refine gY ?_;refine pstH_openH fun eb ec=>?_;refine qfD ?_;have hf:=zay (b:=b) (eb:=eb) (ec:=ec) (s:={s with ln:=s.ln+1}) (F:=F);rw[show s.prepare v= {s with ln:=s.ln+1} by simp[PM.prepare,ho]]
  exact H.Ae rfl rfl hf ⟨rfl,rfl,rfl⟩
end
section
variable (f:Frag) (F:List HP) (b:Nat) (s:PM)
theorem pst_commit(hw:PM.WF s B)(hB:B≤9000000000000000000)(hn:s.init.length≤1000000)(v k most:Int)(hk:0≤k∧k≤18446744073709551615)(hm:-9223372036854775808≤most∧most≤9223372036854775807):Fn prog 111 [.pointer (some ⟨b,0,none⟩),.int .u64 v,.int .u64 k,.int .i64 most] f (pstH b s::F) (Ret (.bool (s.commitOk v k most)) f (pstH b (s.commit v k most)::F)):=by
 have hl:=hw.last;refine Fn.unfold iD fun⟨eb,ec⟩=>?_
 refine qia ?_
 cases ho:s.isOpen v with
 | false =>
  have e:s.commitOk v k most=false:=by simp[PM.isOpen]at ho;simp[PM.commitOk];omega
  refine Fn.e4 func111 ntmps111 fun base=>?_;refine gI ?_;refine H.draw ((0,false)::(1,false)::(2,true)::qt 30 3) jE jL jF (S:=[_,_]) rfl ?_;refine qhI fun _ _ _ hR=>?_;obtain⟨rfl,rfl,rfl⟩:=hR;rw[ho];refine gA ?_;refine H.back (A:=[_,_]) rfl ?_;refine gZ ?_;refine gD ?_;exact qdL
 | true =>
  have hopen:v=s.g∧v=s.lv:=by simpa [PM.isOpen]using ho
  by_cases h1:k=s.ln+1
  ·by_cases h2 : most < 0
   ·exact qat
   ·by_cases h3:most<k
    ·have e:s.commitOk v k most=false:=by simp[PM.commitOk];omega
     clear hopen;refine Fn.e4 func111 ntmps111 fun base=>?_;refine gI ?_;refine H.draw ((0,false)::(1,false)::(2,true)::qt 30 3) jE jL jF (S:=[_,_]) rfl ?_;refine qhI fun _ _ _ hR=>?_;obtain⟨rfl,rfl,rfl⟩:=hR;rw[ho];refine qgE ?_;refine gG ?_;exact qdL
    ·have e:s.commitOk v k most=true:=by simp[PM.commitOk];omega
     clear hopen;refine Fn.e4 func111 ntmps111 fun base=>?_;refine gI ?_;refine H.draw ((0,false)::(1,false)::(2,true)::qt 30 3) jE jL jF (S:=[_,_]) rfl ?_;refine qhI fun _ _ _ hR=>?_;obtain⟨rfl,rfl,rfl⟩:=hR;rw[ho];refine qgE ?_;refine gc ?_;refine qfD ?_;have hf:=zay (b:=b) (eb:=eb) (ec:=ec) (s:={s with ln:=s.ln+1}) (F:=F);rw[show s.commit v k most= {s with ln:=s.ln+1} by simp[PM.commit,e]]
     exact H.Ae rfl rfl hf ⟨by rw[e],rfl,rfl⟩
  ·exact qat
theorem pst_enter(hw:PM.WF s B)(hn:s.init.length≤100000)(v k:Int):Fn prog 106 [.pointer (some ⟨b,0,none⟩),.int .u64 v,.int .i64 k] f (pstH b s::F) (Ret (.bool (s.enterOk v k)) f (pstH b (s.enter v k)::F)):=by
 have hl:=hw.last;refine Fn.unfold iD fun⟨eb,ec⟩=>?_
 refine qia ?_
 cases ho:s.enterOk v k with
 | false =>
  have hno:v≤s.lv∨v<s.g∨1073741824≤v∨k<0:=by simp[PM.enterOk]at ho;omega
  have e2:s.enter v k=s:=by simp[PM.enter,ho]
  rw[e2];by_cases h1:v≤s.lv
  ·exact qax
  ·by_cases h2 : v < s.g
   ·exact qax
   ·by_cases h3:1073741824≤v
    ·exact qax
    ·have h4:k<0:=jA
     exact qax
 | true =>
  obtain⟨h1,h2,h3,h4⟩:s.lv<v∧s.g≤v∧v<1073741824∧0≤k:=by simpa [PM.enterOk]using ho
  have e2:s.enter v k=⟨v,s.all,v,k⟩:=by simp[PM.enter,ho]
  rw[e2];refine Fn.e3 func106 ntmps106 fun base=>?_;refine gI ?_;refine H.Ap rfl rfl rfl (pst_last_o f F b s eb ec jA) fun _ _ _ hR=>?_;obtain⟨rfl,rfl,rfl⟩:=hR;refine gg ?_;refine qeU fun tb=>?_;refine qgf fun p' c'=>?_;refine H.Au jB jA fun eb' hp=>?_;subst hp;refine gR ?_;refine qeK ?_;have hf:=zay (b:=b) (eb:=eb') (ec:=c') (s:=⟨v,s.all,v,k⟩) (F:=F)
  have hvw:flatV voteV (⟨v,s.all,v,k⟩:PM).all=flatV voteV s.all++[.int .u64 v,.int .i64 k]:=by
   simp only[PM.all];rw[flatV_append];rfl
  exact qbR
theorem voted_drop:∀(l:List (Int×Int)) (k:Nat) (v:Int),(∀i p,i<k→l[i]?=some p→v≠p.1)→PM.voted l v=PM.voted (l.drop k) v
 |l,0,v,_=>by simp
 | [],k+1,v,_=>by simp
 | (w, n) :: r, k + 1, v, h => by
  have h0:v≠w:=h 0 (w,n) jA jK
  simp only[PM.voted,h0,if_false,List.drop_succ_cons]
  exact voted_drop r k v fun i p hi hp=>h (i+1) p jA (by simpa using hp)
theorem pst_voted(hn:s.init.length≤1000000)(v:Int):Fn prog 67 [.pointer (some ⟨b,0,none⟩),.int .u64 v] f (pstH b s::F) (Ret (.tuple #[.int .i64 ((PM.voted s.all v).getD 0),.bool (PM.voted s.all v).isSome]) f (pstH b s::F)):=by
 refine Fn.unfold iD fun⟨eb,ec⟩=>?_;refine qia ?_;refine Fn.e2 func67 ntmps67 fun base=>?_;refine gT ?_;refine H.loop (fun k:Nat=>[(6,.int .i64 (k:Int)),(0,.pointer (some ⟨b,0,none⟩)),(1,.int .u64 v)]) (fun _=>f) (fun _=>row _ _ _::slc _ _ _ _ _ _::F) (fun k=>k≤s.init.length+1∧∀i p,i<k→s.all[i]?=some p→v≠p.1) (fun k=>s.init.length+1-k) 0 ⟨by omega,by intro i p hi;omega⟩ ⟨rfl,rfl,rfl,trivial⟩ rfl rfl fun k hk=>?_;obtain⟨hk,hall⟩:=hk;refine gM ?_;by_cases hlt:k<s.init.length+1
 ·obtain⟨p,hp⟩:∃p,s.all[k]?=some p:=⟨s.all[k]'(by rw[all_len];omega),by simp⟩;have g1:(flatV voteV s.all)[k*2+0]?=some (.int .u64 p.1):=by rw[flatV_get voteV_len _ _ _ _ hp jC];rfl
  have g2:(flatV voteV s.all)[k*2+1]?=some (.int .i64 p.2):=by rw[flatV_get voteV_len _ _ _ _ hp jC];rfl
  refine gM ?_;refine H.Ah rfl rfl rfl rfl hlt rfl ?_;refine gH ?_;refine H.Ab rfl rfl rfl (.at0 (Rd.ofSlc jB jA) g1) rfl ?_;by_cases hv:p.1=v
  ·refine gg ?_;refine H.Ah rfl rfl rfl rfl hlt rfl ?_;refine gH ?_;refine H.Ab rfl rfl rfl (.at0 (Rd.ofSlc jB jA) g2) rfl ?_;refine gT ?_
   have e:PM.voted s.all v=some p.2:=by
    rw[voted_drop s.all k v hall];have hk2:k<s.all.length:=by rw[all_len];omega
    rw[List.drop_eq_getElem_cons hk2];have:s.all[k]=p:=by rw[lgE hk2]at hp;exact Option.some.inj hp
    rw[this];simp[PM.voted,hv]
   exact qec
  ·refine gc ?_;refine H.ag (k+1) ⟨by omega,?_⟩ jA;intro i q hi hq;by_cases c:i=k
   ·subst c;rw[hp]at hq;cases hq;exact fun e=>hv e.symm
   ·exact hall i q jA hq
 ·refine gc ?_
  have e:PM.voted s.all v=none:=by
   rw[voted_drop s.all k v hall,List.drop_eq_nil_of_le (by rw[all_len];omega)];rfl
  exact qec
end
end Go.Proofs.YtkaknokcbhiigaaGreatDoor
