/- Parts of the proof. No conditions. -/
import Derived.Test.YtkaknokcbhiigaaGreatDoorZ03
set_option linter.unusedSectionVars false
/- Layer 1, bytes: a text is cut; layer 8: 32 bytes are got, and a request. -/
set_option maxHeartbeats 1600000
set_option maxRecDepth 20000
namespace Go.Proofs.YtkaknokcbhiigaaGreatDoor
open Go Tryz
def baOf(l:List UInt8):ByteArray:=⟨l.toArray⟩
variable {P:Program} {base:World} {n:Nat} {L:Env} {f:Frag} {F:List HP} {K:Kont} {l:List UInt8}
theorem H.cutOpen{cb:Nat}{sp:Bool}
  (k:∀p c,BAt f p l→l.length≤c→H P base n L f (row cb 261 [.slice p l.length c,.bool sp]::F) K):H P base n L f (cutH f cb l sp::F) K:=.mk fun a w hf s=>by
 obtain⟨m,hm,hd,hw⟩:=s.mem
 obtain⟨m1,m2,d,rfl,⟨⟨p,c⟩,hh⟩,r⟩:=hm
 obtain⟨n1,n2,dd,rfl,⟨⟨hb,hc⟩,rfl⟩,n3,n4,d3,rfl,h4,h5⟩:=hh
 refine(k p c hb hc).out a w hf ⟨s.os,s.tape,s.output,s.size,s.imm,_,?_,hd,hw⟩
 have e5:n4=nil0:=h5
 subst e5
 rw[nil_un,un_nil]
 rw[nil_un,un_nil]at d
 exact⟨n3,m2,d,rfl,h4,r⟩
def Cs.hash(s:Cs):Nat→UInt8:=fun i=>(s.raw 32).getD i 0
def b32L(t:Nat→UInt8):List UInt8:=[t 0,t 1,t 2,t 3,t 4,t 5,t 6,t 7,t 8,t 9,t 10,t 11,t 12,t 13,t 14,t 15,t 16,t 17,t 18,t 19,t 20,t 21,t 22,t 23,t 24,t 25,t 26,t 27,t 28,t 29,t 30,t 31]
theorem b32_bytes(t:Nat→UInt8):b32 t=bytesV (b32L t):=rfl
variable {α:Type}
theorem list32{l:List α}(h:l.length=32)(z:α):l= [l.getD 0 z,l.getD 1 z,l.getD 2 z,l.getD 3 z,l.getD 4 z,l.getD 5 z,l.getD 6 z,l.getD 7 z,l.getD 8 z,l.getD 9 z,l.getD 10 z,l.getD 11 z,l.getD 12 z,l.getD 13 z,l.getD 14 z,l.getD 15 z,l.getD 16 z,l.getD 17 z,l.getD 18 z,l.getD 19 z,l.getD 20 z,l.getD 21 z,l.getD 22 z,l.getD 23 z,l.getD 24 z,l.getD 25 z,l.getD 26 z,l.getD 27 z,l.getD 28 z,l.getD 29 z,l.getD 30 z,l.getD 31 z]:=by
 match l,h with
 | [_,_,_,_,_,_,_,_,_,_,_,_,_,_,_,_,_,_,_,_,_,_,_,_,_,_,_,_,_,_,_,_],_=>rfl
theorem b32L_get(h:l.length=32):b32L (fun i=>l.getD i 0)=l:=(list32 h 0).symm
section
variable (f:Frag) (F:List HP) (cb:Nat) (s:Cs)
theorem text_cs{most:Nat}(hl:s.l.length≤1000000000000)(hm:most≤100000):
  Fn prog 210 [.pointer (some ⟨cb,0,none⟩),.int .i64 (most:Nat)] f (cutC f cb s::F) (Ret (.string (baOf (s.text most))) f (cutC f cb (s.textS most)::F)):=by
 have hn:=s.num2_lt;have hh:=half_cs f F cb s hl
 unfold cutC at hh⊢;refine cutH_open fun p c hb hc=>?_
 have fin:¬s.tok most=true→∀x,stars (row cb 261 [.slice p s.l.length c,.bool true]::F) x→stars (cutH f cb (s.textS most).l (s.textS most).bad::F) x:=fun ht=>by
  unfold Cs.textS;rw[if_neg ht];exact zbj hb hc
 by_cases h2:s.ok 2=true
 ·obtain⟨hb0,hl2⟩:=(Cs.ok_iff _ _).1 h2;have hs:s.skip 2=⟨s.l.drop 2,false⟩:=by unfold Cs.skip;rw[if_pos h2]
  rw[hs]at hh;generalize hk:s.num 2=k at hn hh;by_cases h3:k≤most
  ·by_cases h4 : k ≤ (s.l.drop 2).length
   ·have ht:s.tok most=true:=by
     exact qdI
    have e1:s.text most=(s.l.drop 2).take k:=by unfold Cs.text;rw[if_pos ht,hk]
    have e2:s.textS most=⟨(s.l.drop 2).drop k,false⟩:=by unfold Cs.textS;rw[if_pos ht,hk,List.drop_drop]
    rw[e1,e2];have hlen:((s.l.drop 2).take k).length=k:=by rw[List.length_take];omega
    refine Fn.e2 func210 ntmps210 fun base=>?_;refine qjQ fun p2 c2 hb2 hc2=>?_;refine gJ ?_;refine H.imp (zbj hb2 hc2) ?_;have hty:=take_yes f F cb h4 kR;refine H.callP rfl rfl rfl hty fun i hb3=>?_
    obtain⟨p3,c3⟩:=i;have hb3:BAt f p3 ((s.l.drop 2).take k):=hb3;refine gF ?_
    refine H.cutOpen fun p4 c4 hb4 hc4=>?_;refine gc ?_;have hsrc:∀A,Src prog f A (.slice p3 ((s.l.drop 2).take k).length c3) 1 ((s.l.drop 2).take k).length (bytesV ((s.l.drop 2).take k)):=fun A=>hb3.src;have hnil:p3=none→(s.l.drop 2).take k= []:=fun hp=>by rcases hb3 with h|⟨b,off,cs,T,fr,h,_⟩;exact h;rw[hp]at h;cases h
    refine H.Bh (d:=41) (u:=.slice p3 ((s.l.drop 2).take k).length c3) rfl (by rw[hlen]) ?_;refine H.convBS rfl rfl (hsrc _) hnil rfl ?_;refine gT ?_;exact H.Ae rfl rfl (zbj hb4 hc4) ⟨rfl,rfl,rfl⟩
   ·have ht:¬s.tok most=true:=by
     exact qdI
    have e1:s.text most= []:=by unfold Cs.text;rw[if_neg ht]
    rw[e1];refine Fn.e2 func210 ntmps210 fun base=>?_;refine qjQ fun p2 c2 hb2 hc2=>?_;refine gJ ?_;refine H.imp (zbj hb2 hc2) ?_;refine H.Af rfl rfl rfl (take_no f F cb (.inr (.inr (by show((s.l.drop 2).length:Int)<_;omega)))) ?_;refine gF ?_;refine H.cutOpen fun p4 c4 hb4 hc4=>?_;refine gc ?_;exact H.Ae rfl rfl (fin ht) ⟨rfl,rfl,rfl⟩
  ·have ht:¬s.tok most=true:=by
    simp[Cs.tok,h2,hk,h3]
   have e1:s.text most= []:=by unfold Cs.text;rw[if_neg ht]
   rw[e1];exact qaY
 ·have ht:¬s.tok most=true:=by simp[Cs.tok,h2]
  have e1:s.text most= []:=by unfold Cs.text;rw[if_neg ht]
  have hs:s.skip 2=⟨s.l,true⟩:=by unfold Cs.skip;rw[if_neg h2]
  rw[hs]at hh;rw[e1];generalize hk:s.num 2=k at hn hh;exact qaY
theorem hash_cs(hl:s.l.length≤1000000000):
  Fn prog 181 [.pointer (some ⟨cb,0,none⟩)] f (cutC f cb s::F) (Ret (.agg (b32 s.hash).toArray) f (cutC f cb (s.skip 32)::F)):=by
 refine Fn.e1 func181 ntmps181 fun base=>?_;refine gA ?_;refine H.Aj rfl rfl rfl fun hb=>?_;refine gA ?_;refine H.db (S:=[]) rfl ?_;refine HB.qu [0,1] 2 ?_;refine qeB ?_;refine gB ?_;refine qel ?_;refine HB.ev 2 ?_;refine qey ?_;refine H.Al rfl rfl rfl (raw_cs f _ cb s 32 jA) fun p1 c1=>?_;refine qed ?_;refine HB.ev 3 ?_;by_cases h:s.ok 32=true
 ·have hr:(s.raw 32).length=32:=by
   unfold Cs.raw;rw[if_pos h,List.length_take]
   have:=((Cs.ok_iff _ _).1 h).2;omega
  have hs:Src prog f _ (.slice p1 (s.raw 32).length c1) 1 (s.raw 32).length (bytesV (s.raw 32)):=Src.slcS (.here (cutC f cb (s.skip 32)::row hb 47 (zeros [.int .u8 0] 32)::F) _ (slc p1 (s.raw 32).length c1 5 1 (bytesV (s.raw 32)))) jG;refine H.copy rfl rfl rfl rfl hs.len (k0:=(s.raw 32).length) (by rw[hr];rfl) hs.cells (ls':=bytesV (s.raw 32)) ?_ ?_ (zai _) jB ?_
  ·unfold splice;rw[zac,hr];exact List.append_nil _
  ·rw[zac,hr];exact Nat.le_refl _
  refine qk ?_;have e:bytesV (s.raw 32)=b32 s.hash:=by rw[b32_bytes];unfold Cs.hash;rw[b32L_get hr]
  rw[e];refine H.Ab (ls:=b32 s.hash) rfl rfl rfl (Rd.ofRow jB) rfl rfl ?_;refine H.Ag (ls:=b32 s.hash) (vs:=b32 s.hash) (ls':=b32 s.hash) rfl rfl rfl (zaa rfl) rfl rfl (Nat.le_refl 32) jB ?_;exact qeb
 ·have hr:s.raw 32= []:=by unfold Cs.raw;rw[if_neg h]
  have hh:b32 s.hash=zeros [.int .u8 0] 32:=by unfold Cs.hash;rw[hr];rfl
  rw[hr,hh];refine H.copy (m:=0) (k0:=0) (cs:=[]) (ls':=zeros [.int .u8 0] 32) rfl rfl rfl rfl (fun w=>rfl) rfl (fun base w sa=>?_) rfl jC (fun v hv=>by cases hv) jB ?_
  ·cases p1 with
   |none=>exact run_firstCells_none w 1 0 0 c1
   |some a=>exact run_firstCells_some w 1 0 a 0 c1 [] jL jL
  refine qk ?_;refine H.Ab (ls:=zeros [.int .u8 0] 32) rfl rfl rfl (Rd.ofRow jB) rfl rfl ?_;refine H.Ag (ls:=zeros [.int .u8 0] 32) (vs:=zeros [.int .u8 0] 32) (ls':=zeros [.int .u8 0] 32) rfl rfl rfl (zaa rfl) rfl rfl (Nat.le_refl 32) jB ?_;exact qeb
end
def Cs.byte(s:Cs):UInt8:=UInt8.ofNat (s.num 1)
theorem Cs.byte_nat(s:Cs):((s.byte.toNat:Nat):Int)=(s.num 1:Nat):=by
 have:=s.num1_lt;unfold Cs.byte;rw[UInt8.toNat_ofNat'];omega
def Cs.req(mk mv:Nat)(s:Cs):Req:=
 let c1:=s.skip 1
 let c2:=c1.skip 1
 let c3:=c2.skip 8
 let c4:=c3.skip 8
 let c5:=c4.textS mk
 let c6:=c5.textS mv
 let c7:=c6.textS mv
 let c8:=c7.textS mk
 ⟨(s.num 1:Nat),(c2.num 8:Nat),c1.byte,baOf (c4.text mk),baOf (c5.text mv),baOf (c6.text mv),baOf (c7.text mk),(c3.num 8:Nat),c8.hash⟩
def Cs.reqS(mk mv:Nat)(s:Cs):Cs:=((((((((s.skip 1).skip 1).skip 8).skip 8).textS mk).textS mv).textS mv).textS mk).skip 32
def Cs.pairs:Nat→Cs→List (Int×Int)→List (Int×Int)×Cs
 |0,s,acc=>(acc,s)
 |n+1,s,acc=>if s.bad then(acc,s)else Cs.pairs n ((s.skip 1).skip 8) (acc++ [(((s.num 1:Nat):Int),(((s.skip 1).num 8:Nat):Int))])
def noTag:Nat→UInt8:=fun _=>0
def Bod.zero(kind:UInt8):Bod:=⟨kind,0,0,Req.zero,[],noTag⟩
def b8(n:Int):UInt8:=UInt8.ofNat (n % 256).toNat
def pairB(p:Int×Int):List UInt8:=b8 p.1::be 8 p.2
def Bod.putK(x:Bod):Nat→List UInt8
 |1=>be 8 x.view++x.req.bytes++b32L x.req.tag
 |2=>be 8 x.view++be 8 x.k
 |3=>be 8 x.view
 |4=>be 8 x.view++ [b8 x.q.length]++x.q.flatMap pairB
 |5=>be 8 x.view
 |6=>be 8 x.k++b32L x.dig
 |_=>[]
def Bod.put(x:Bod):List UInt8:=x.putK x.kind.toNat
def Cs.bodyK(mk mv:Nat)(kind:UInt8)(s:Cs):Nat→Bod×Cs
 |1=>({Bod.zero kind with view:=(s.num 8:Nat),req:=(s.skip 8).req mk mv},(s.skip 8).reqS mk mv)
 |2=>({Bod.zero kind with view:=(s.num 8:Nat),k:=((s.skip 8).num 8:Nat)},(s.skip 8).skip 8)
 |3=>({Bod.zero kind with view:=(s.num 8:Nat)},s.skip 8)
 | 4 => let r := Cs.pairs ((s.skip 8).num 1) ((s.skip 8).skip 1) []
  ({Bod.zero kind with view:=(s.num 8:Nat),q:=r.1},r.2)
 |5=>({Bod.zero kind with view:=(s.num 8:Nat)},s.skip 8)
 |6=>({Bod.zero kind with k:=(s.num 8:Nat),dig:=(s.skip 8).hash},(s.skip 8).skip 32)
 |_=>(Bod.zero kind,s)
def Bod.ownK(x:Bod):Nat→Bod
 |1=>{Bod.zero x.kind with view:=x.view,req:=x.req}
 |2=>{Bod.zero x.kind with view:=x.view,k:=x.k}
 |3=>{Bod.zero x.kind with view:=x.view}
 |4=>{Bod.zero x.kind with view:=x.view,q:=x.q}
 |5=>{Bod.zero x.kind with view:=x.view}
 |6=>{Bod.zero x.kind with k:=x.k,dig:=x.dig}
 |_=>Bod.zero x.kind
def Bod.own(x:Bod):Bod:=x.ownK x.kind.toNat
def Bod.mayK(x:Bod):Nat→Bool
 |1=>decide x.req.asked
 |2=>decide (1≤x.k∧x.k≤4611686018427387904)
 |3=>decide (1≤x.view)
 |4=>decide (1≤x.view)&& (quo 0 x.q&& decide (0<x.q.length))
 |5=>decide (1≤x.view)
 |6=>decide (1≤x.k∧x.k≤4611686018427387904)
 |_=>false
variable {l':List Value} {v:Value}
theorem SetV.app{l:List Value}{i:Nat}(h:SetV l i v l')(post:List Value):SetV (l++post) i v (l'++post):=by
 induction h with
 |here x v t=>exact .here _ _ _
 |there x h ih=>exact .there _ ih
theorem SetV.mid{l:List Value}{i:Nat}(h:SetV l i v l')(pre post:List Value):SetV (pre++l++post) (pre.length+i) v (pre++l'++post):=by
 rw[List.append_assoc,List.append_assoc]
 induction pre with
 |nil=>rw[List.length_nil,Nat.zero_add];exact h.app post
 | cons p pre ih =>
  exact qdg
theorem splice_mid(pre l post:List Value)(i:Nat)(vs:List Value)(h:i+vs.length≤l.length):splice (pre++l++post) (pre.length+i) vs=pre++splice l i vs++post:=by
 unfold splice
 have e1:(pre++l++post).take (pre.length+i)=pre++l.take i:=by
  rw[List.append_assoc,List.take_length_add_append,List.take_append_of_le_length jA]
 have e2:(pre++l++post).drop (pre.length+i+vs.length)=l.drop (i+vs.length)++post:=by
  rw[Nat.add_assoc,List.append_assoc,List.drop_length_add_append,List.drop_append_of_le_length h]
 rw[e1,e2];simp only[List.append_assoc]
def bodAt(xb:Nat)(T:TypeId)(pre post:List Value)(x:Bod)(qp:Option Addr)(qc:Nat):HP:=row xb T (pre++x.vals qp qc++post)
theorem Bod.vals_len(x:Bod)(qp:Option Addr)(qc:Nat):(x.vals qp qc).length=76:=rfl
section
variable (f:Frag) (F:List HP) (cb:Nat) (s:Cs) (xb:Nat) (T:TypeId) (pre post:List Value)
theorem getReq_cs(hl:s.l.length≤1000000000):
  Fn prog 166 [.pointer (some ⟨cb,0,none⟩)] f (cutC f cb s::F) (Ret (.agg (s.req 32 128).vals.toArray) f (cutC f cb (s.reqS 32 128)::F)):=by
 unfold Cs.req Cs.reqS;dsimp only;have a1:=s.skip_len 1;have n1:=s.num1_lt
 refine Fn.e1 func166 ntmps166 fun base=>?_;refine H.seq (H.Bg ?_);refine qgK fun rb=>?_;refine gK ?_;refine qey ?_;refine H.Af rfl rfl rfl (byte_cs f _ cb s jA) ?_;refine gV ?_;generalize hs1:s.skip 1=s1 at a1⊢;have a2:=s1.skip_len 1;refine H.Af rfl rfl rfl (byte_cs f _ cb s1 jA) ?_
 rw[←Cs.byte_nat s1];generalize hs2:s1.skip 1=s2 at a2⊢;have a3:=s2.skip_len 8;refine gc ?_
 refine H.Af rfl rfl rfl (word_cs f _ cb s2 jA) ?_;generalize hs3:s2.skip 8=s3 at a3⊢;have a4:=s3.skip_len 8;refine gK ?_
 refine H.Af rfl rfl rfl (word_cs f _ cb s3 jA) ?_;generalize hs4:s3.skip 8=s4 at a4⊢;have a5:=s4.textS_len 32;refine gc ?_
 refine H.Af rfl rfl rfl (text_cs f _ cb s4 (most:=32) jA jC) ?_;generalize hs5:s4.textS 32=s5 at a5⊢;have a6:=s5.textS_len 128;refine gK ?_
 refine H.Af rfl rfl rfl (text_cs f _ cb s5 (most:=128) jA jC) ?_;generalize hs6:s5.textS 128=s6 at a6⊢;have a7:=s6.textS_len 128;refine gc ?_
 refine H.Af rfl rfl rfl (text_cs f _ cb s6 (most:=128) jA jC) ?_;generalize hs7:s6.textS 128=s7 at a7⊢;have a8:=s7.textS_len 32;refine gK ?_
 refine H.Af rfl rfl rfl (text_cs f _ cb s7 (most:=32) jA jC) ?_;generalize hs8:s7.textS 32=s8 at a8⊢;refine gc ?_;refine H.Af rfl rfl rfl (hash_cs f _ cb s8 jA) ?_;refine gH ?_;generalize hr:(⟨(s.num 1:Nat),(s2.num 8:Nat),s1.byte,baOf (s4.text 32),baOf (s5.text 128),baOf (s6.text 128),baOf (s7.text 32),(s3.num 8:Nat),s8.hash⟩:Req)=r;refine H.Ag (vs:=b32 s8.hash) (ls':=r.vals) rfl rfl rfl (zaa rfl) rfl ?_ ?_ jB ?_
 ·subst hr;rfl
 ·exact(show 8+32≤40 by decide)
 refine gA ?_;refine H.Ab (ls:=r.vals) rfl rfl rfl (Rd.ofRow jB) rfl rfl ?_;refine H.Ag (ls:=r.vals) (vs:=r.vals) (ls':=r.vals) rfl rfl rfl (zaa rfl) rfl rfl (Nat.le_refl 40) jB ?_;refine gT ?_;exact qbD
theorem get_view(hl:s.l.length≤1000000000)(x:Bod)(qp:Option Addr)(qc:Nat):
  Fn prog 212 [.pointer (some ⟨cb,0,none⟩),.pointer (some ⟨xb,pre.length,none⟩)] f (cutC f cb s::bodAt xb T pre post x qp qc::F)
   (Ret (.tuple #[]) f (cutC f cb (s.skip 8)::bodAt xb T pre post {x with view:=(s.num 8:Nat)} qp qc::F)):=by
 refine Fn.e2 func212 ntmps212 fun base=>?_;repeat(first|((apply H.Aw);(iterate 3 exact rfl))|(apply H.Bg))
 refine H.Af rfl rfl rfl (word_cs f _ cb s jA) ?_;repeat(first|((apply H.Bd);(iterate 3 exact rfl))|(apply H.Bm;(iterate 3 exact rfl);exact inferInstance;exact rfl)|(apply H.Bb;(iterate 4 exact rfl);(repeat(first|exact .here _ _ _|apply At.there))))
 ·exact qbp
 refine gA ?_;exact qaZ
theorem get_commit(hl:s.l.length≤1000000000)(x:Bod)(qp:Option Addr)(qc:Nat):
  Fn prog 170 [.pointer (some ⟨cb,0,none⟩),.pointer (some ⟨xb,pre.length,none⟩)] f (cutC f cb s::bodAt xb T pre post x qp qc::F)
   (Ret (.tuple #[]) f (cutC f cb ((s.skip 8).skip 8)::bodAt xb T pre post {x with view:=(s.num 8:Nat),k:=((s.skip 8).num 8:Nat)} qp qc::F)):=by
 have a1:=s.skip_len 8;refine Fn.e2 func170 ntmps170 fun base=>?_
 refine qhi ?_;refine H.Af rfl rfl rfl (word_cs f _ cb (s.skip 8) jA) ?_;repeat(first|((apply H.Bd);(iterate 3 exact rfl))|(apply H.Bm;(iterate 3 exact rfl);exact inferInstance;exact rfl)|(apply H.Bb;(iterate 4 exact rfl);(repeat(first|exact .here _ _ _|apply At.there))))
 ·exact qbp
 repeat(first|((apply H.Bd);(iterate 3 exact rfl))|(apply H.Bm;(iterate 3 exact rfl);exact inferInstance;exact rfl)|(apply H.Bb;(iterate 4 exact rfl);(repeat(first|exact .here _ _ _|apply At.there))))
 ·exact SetV.mid (l:=({x with view:=(s.num 8:Nat)}:Bod).vals qp qc) (l':=({x with view:=(s.num 8:Nat),k:=((s.skip 8).num 8:Nat)}:Bod).vals qp qc) (i:=2) jJ pre post
 refine gA ?_;exact qaZ
theorem get_check(hl:s.l.length≤1000000000)(x:Bod)(qp:Option Addr)(qc:Nat):
  Fn prog 180 [.pointer (some ⟨cb,0,none⟩),.pointer (some ⟨xb,pre.length,none⟩)] f (cutC f cb s::bodAt xb T pre post x qp qc::F)
   (Ret (.tuple #[]) f (cutC f cb ((s.skip 8).skip 32)::bodAt xb T pre post {x with k:=(s.num 8:Nat),dig:=(s.skip 8).hash} qp qc::F)):=by
 have a1:=s.skip_len 8;refine Fn.e2 func180 ntmps180 fun base=>?_
 refine qhi ?_;refine H.Af rfl rfl rfl (hash_cs f _ cb (s.skip 8) jA) ?_;repeat(first|((apply H.Bd);(iterate 3 exact rfl))|(apply H.Bm;(iterate 3 exact rfl);exact inferInstance;exact rfl)|(apply H.Bb;(iterate 4 exact rfl);(repeat(first|exact .here _ _ _|apply At.there))))
 ·exact SetV.mid (l:=x.vals qp qc) (l':=({x with k:=(s.num 8:Nat)}:Bod).vals qp qc) (i:=2) jJ pre post
 refine gF ?_;refine H.Ag (vs:=b32 (s.skip 8).hash) (ls':=pre++({x with k:=(s.num 8:Nat),dig:=(s.skip 8).hash}:Bod).vals qp qc++post) rfl rfl rfl (zaa rfl) rfl ?_ ?_ at1 ?_
 ·exact splice_mid pre (({x with k:=(s.num 8:Nat)}:Bod).vals qp qc) post 44 _ (Nat.le_refl 76)
 ·rw[List.length_append,List.length_append,Bod.vals_len];show pre.length+44+32≤_;omega
 refine gA ?_;exact qaZ
theorem get_prepare(hl:s.l.length≤1000000000)(x:Bod)(qp:Option Addr)(qc:Nat):
  Fn prog 164 [.pointer (some ⟨cb,0,none⟩),.pointer (some ⟨xb,pre.length,none⟩)] f (cutC f cb s::bodAt xb T pre post x qp qc::F)
   (Ret (.tuple #[]) f (cutC f cb ((s.skip 8).reqS 32 128)::bodAt xb T pre post {x with view:=(s.num 8:Nat),req:=(s.skip 8).req 32 128} qp qc::F)):=by
 have a1:=s.skip_len 8;refine Fn.e2 func164 ntmps164 fun base=>?_
 refine qhi ?_;refine H.Af rfl rfl rfl (getReq_cs f _ cb (s.skip 8) jA) ?_;generalize(s.skip 8).req 32 128=r;repeat(first|((apply H.Bd);(iterate 3 exact rfl))|(apply H.Bm;(iterate 3 exact rfl);exact inferInstance;exact rfl)|(apply H.Bb;(iterate 4 exact rfl);(repeat(first|exact .here _ _ _|apply At.there))))
 ·exact qbp
 refine gF ?_;refine H.Ag (vs:=r.vals) (ls':=pre++({x with view:=(s.num 8:Nat),req:=r}:Bod).vals qp qc++post) rfl rfl rfl (zaa rfl) rfl ?_ ?_ at1 ?_
 ·exact splice_mid pre (({x with view:=(s.num 8:Nat)}:Bod).vals qp qc) post 3 _ (show 3+40≤76 by decide)
 ·rw[List.length_append,List.length_append,Bod.vals_len];show pre.length+3+40≤_;omega
 refine gA ?_;exact qaZ
end
variable {A:List HP} {p:Option Addr} {c:Nat}
theorem BAt.first{k0:Nat}(h:BAt f p l)(hk:k0≤l.length):∀base w,Sat base w f A→(Builtin.firstCells 1 k0 (.slice p l.length c)).run P w= .ok (bytesV (l.take k0)).toArray w:=fun base w s=>by
 rcases h with rfl|⟨b,off,cs,T,fr,rfl,hb,hc⟩
 ·have h0:k0=0:=Nat.le_zero.1 hk
  subst h0
  exact(BAt.src (P:=P) (A:=A) (c:=c) (p:=p) (l:=[]) (.inl rfl)).cells base w s
 ·have hrd:Rd f A b off (bytesV l):=Rd.imm hb (fun i hi=>hc i (by rwa [zac]at hi))
  have:=firstCells_part (P:=P) (m:=l.length) (c:=c) (k0:=k0) hrd (by rw[zac];exact hk) base w s
  rwa [show(bytesV l).take k0=bytesV (l.take k0)from List.map_take.symm]at this
def spliceB(part:List UInt8)(n:Nat)(c:List UInt8):List UInt8:=part.take n++c++part.drop (n+c.length)
theorem blocks_app(s:Sha.S8)(b c:List UInt8):∀q,64*q≤b.length→Sha.blocks s (b++c) q=Sha.blocks s b q
 |0,_=>rfl
 | q + 1, h => by
  have ih:=blocks_app s b c q jA
  show Sha.block (Sha.blocks s (b++c) q) (((b++c).drop (64*q)).take 64)=Sha.block (Sha.blocks s b q) ((b.drop (64*q)).take 64)
  rw[ih,List.drop_append_of_le_length jA,List.take_append_of_le_length kR]
structure HSt(b:List UInt8)(s:Sha.S8)(part:List UInt8)(n:Nat):Prop where
 q:∃q,b.length=64*q+n∧s=Sha.blocks Sha.start b q∧part.take n=b.drop (64*q)
 lt:n<64
 len:part.length=64
theorem spliceB_len{part c:List UInt8}(h:part.length=64)(hn:n+c.length≤64):(spliceB part n c).length=64:=by
 unfold spliceB;rw[List.length_append,List.length_append,List.length_take,List.length_drop,h];omega
theorem spliceB_take{part c:List UInt8}(h:part.length=64)(hn:n+c.length≤64):(spliceB part n c).take (n+c.length)=part.take n++c:=by
 unfold spliceB;rw[List.take_append_of_le_length kC,List.take_of_length_le kC]
variable {b:List UInt8} {s:Sha.S8}
theorem HSt.more{part c:List UInt8}(h:HSt b s part n)(hn:n+c.length<64):HSt (b++c) s (spliceB part n c) (n+c.length):=by
 obtain⟨⟨q,h1,h2,h3⟩,h4,h5⟩:=h;refine⟨⟨q,by rw[List.length_append];omega,by rw[h2,blocks_app _ b c q jA],?_⟩,hn,spliceB_len h5 jA⟩;rw[spliceB_take h5 jA,h3,List.drop_append_of_le_length jA]
theorem HSt.full{part c:List UInt8}(h:HSt b s part n)(hn:n+c.length=64):HSt (b++c) (Sha.block s (spliceB part n c)) (spliceB part n c) 0:=by
 obtain⟨⟨q,h1,h2,h3⟩,h4,h5⟩:=h;have hl:=spliceB_len (c:=c) (n:=n) h5 jA;have ht:=spliceB_take (c:=c) (n:=n) h5 jA
 rw[hn,List.take_of_length_le jA]at ht;have hd:(b++c).drop (64*q)=spliceB part n c:=by rw[ht,h3,List.drop_append_of_le_length jA]
 refine⟨⟨q+1,by rw[List.length_append];omega,?_,?_⟩,by decide,hl⟩
 ·show _=Sha.block (Sha.blocks Sha.start (b++c) q) (((b++c).drop (64*q)).take 64);rw[hd,List.take_of_length_le jA,blocks_app _ b c q jA,←h2]
 ·rw[List.take_zero,List.drop_eq_nil_of_le kJ]
def hRow(s:Sha.S8)(part:List UInt8)(n all:Nat):List Value:=s.vals++bytesV part++ [.int .i64 (n:Nat),.int .u64 (all:Nat)]
theorem hRow_len(s:Sha.S8)(part:List UInt8)(n all:Nat)(h:part.length=64):(hRow s part n all).length=74:=by
 unfold hRow;rw[List.length_append,List.length_append,zac,h];rfl
theorem hRow_n(s:Sha.S8)(part:List UInt8)(n all:Nat)(h:part.length=64):(hRow s part n all)[72]? =some (.int .i64 (n:Nat)):=by
 exact qch
theorem hRow_all(s:Sha.S8)(part:List UInt8)(n all:Nat)(h:part.length=64):(hRow s part n all)[73]? =some (.int .u64 (all:Nat)):=by
 exact qch
theorem hRow_setn(s:Sha.S8)(part:List UInt8)(n m all:Nat)(h:part.length=64):SetV (hRow s part n all) 72 (.int .i64 (m:Nat)) (hRow s part m all):=by
 have hl:(s.vals++bytesV part).length=72:=by rw[List.length_append,zac,h];rfl
 have:=SetV.mid (SetV.here (.int .i64 (n:Nat)) (.int .i64 (m:Nat)) [.int .u64 (all:Nat)]) (s.vals++bytesV part) [];exact qdR
theorem hRow_setall(s:Sha.S8)(part:List UInt8)(n all al2:Nat)(h:part.length=64):SetV (hRow s part n all) 73 (.int .u64 (al2:Nat)) (hRow s part n al2):=by
 have hl:(s.vals++bytesV part).length=72:=by rw[List.length_append,zac,h];rfl
 have:=SetV.mid (SetV.there (.int .i64 (n:Nat)) (SetV.here (.int .u64 (all:Nat)) (.int .u64 (al2:Nat)) [])) (s.vals++bytesV part) [];exact qdR
theorem hRow_part(s:Sha.S8)(part c:List UInt8)(n all:Nat)(h:part.length=64)(hn:n+c.length≤64):splice (hRow s part n all) (8+n) (bytesV c)=hRow s (spliceB part n c) n all:=by
 unfold hRow
 have:=splice_mid s.vals (bytesV part) [.int .i64 (n:Nat),.int .u64 (all:Nat)] n (bytesV c) (by rw[zac,zac,h];exact hn);rw[show s.vals.length=8 from rfl]at this
 rw[this];congr 2;unfold splice spliceB;rw[zae,zae,zac];unfold bytesV;rw[List.map_take,List.map_drop]
theorem hRow_s(s s2:Sha.S8)(part:List UInt8)(n all:Nat):splice (hRow s part n all) 0 s2.vals=hRow s2 part n all:=by
 unfold hRow splice;rw[List.take_zero,List.nil_append,List.append_assoc,List.append_assoc];rfl
variable {A':List HP} {hb:Nat} {T:TypeId}
theorem hRow_rdp{part:List UInt8}{all:Nat}(h:At A (row hb T (hRow s part n all)) A' (row hb T (hRow s part n all))):Rd f A hb (0+8) (bytesV part):=by
 have h1:=Rd.ofRow (f:=f) h;exact h1.sub rfl
theorem hRow_rds{part:List UInt8}{all:Nat}(h:At A (row hb T (hRow s part n all)) A' (row hb T (hRow s part n all))):Rd f A hb (0+0) s.vals:=by
 have h1:=Rd.ofRow (f:=f) h;unfold hRow at h1
 rw[List.append_assoc]at h1;exact Rd.sub (pre:=[]) h1 rfl
def hashH(hb:Nat)(b:List UInt8):HP:=pack (fun i:Sha.S8×List UInt8×Nat=>HSt b i.1 i.2.1 i.2.2) (fun i=>[row hb 295 (hRow i.1 i.2.1 i.2.2 b.length)])
theorem hashH_fold{part:List UInt8}(h:HSt b s part n):∀x,stars (row hb 295 (hRow s part n b.length)::F) x→stars (hashH hb b::F) x:=
 pack_fold (ι:=Sha.S8×List UInt8×Nat) (B:=fun i=>[row hb 295 (hRow i.1 i.2.1 i.2.2 b.length)]) (s,part,n) h
section
variable (f:Frag) (F:List HP)
theorem sstart_fn:Fn prog 234 [] f F (Ret (.agg Sha.start.vals.toArray) f F):=by
 refine Fn.e0 func234 ntmps234 fun base=>?_;exact qbm
theorem HSt.new:HSt [] Sha.start (List.replicate 64 0) 0:=⟨⟨0,rfl,rfl,rfl⟩,by decide,by rw[List.length_replicate]⟩
theorem snew_fn:Fn prog 230 [] f F (RetE (fun hb=>.pointer (some ⟨hb,0,none⟩)) f (fun hb=>hashH hb []::F)):=by
 refine Fn.e0 func230 ntmps230 fun base=>?_;refine gK ?_;refine H.Af rfl rfl rfl (sstart_fn f _) ?_;refine H.Ay (out:=hRow Sha.start (List.replicate 64 0) 0 0) rfl rfl rfl jD rfl ?_;refine H.box (ls:=hRow Sha.start (List.replicate 64 0) 0 0) rfl rfl rfl rfl fun hb=>?_;refine gT ?_;refine H.imp (hashH_fold (b:=[]) HSt.new) ?_;exact H.r1 ⟨hb,rfl,rfl,rfl⟩
theorem swrite_fn(htab:TabAt f){c:List UInt8}{cap:Nat}(hc:BAt f p c)(hcap:c.length≤cap)(hl:b.length+c.length≤1000000000000):Fn prog 231 [.pointer (some ⟨hb,0,none⟩),.slice p c.length cap] f (hashH hb b::F) (Ret (.tuple #[]) f (hashH hb (b++c)::F)):=by
 refine qjW fun i0 hi0=>?_;obtain⟨s0,part0,n0⟩:=i0;have hi0:HSt b s0 part0 n0:=hi0;have hlen0:=hi0.len
 have e1:IntKind.u64.wrap ((b.length:Int)+((c.length:Nat):Int))=(((b++c).length:Nat):Int):=by rw[wr_u64 jA,List.length_append];omega
 have e2:IntKind.u64.wrap ((c.length:Nat):Int)=((c.length:Nat):Int):=wr_u64 jA;refine Fn.e2 func231 ntmps231 fun base=>?_
 show H _ _ _ _ _ (row hb _ (hRow s0 part0 n0 b.length)::F) _;repeat(first|(refine H.Ad rfl rfl rfl (.at0 (Rd.ofRow jB) (hRow_all s0 part0 n0 b.length hlen0)) rfl ?_)|(apply H.ar;(iterate 4 exact rfl);exact e1;exact rfl)|(refine H.Bb (v:=.int .u64 (((b++c).length:Nat):Int)) (ls':=hRow s0 part0 n0 (b++c).length) rfl rfl rfl rfl jB (hRow_setall s0 part0 n0 b.length (b++c).length hlen0) ?_)|(refine gh ?_))
 have hst0:HSt (b++c.take 0) s0 part0 n0:=by rw[List.take_zero,List.append_nil];exact hi0
 clear hi0 hlen0 e1 e2
 refine H.lo (ι:=Nat×Sha.S8×List UInt8×Nat×Option Addr×Nat) (fun i=>[(0,.pointer (some ⟨hb,0,none⟩)),(1,.slice i.2.2.2.2.1 (c.length-i.1) i.2.2.2.2.2)]) (fun _=>f)
  (fun i=>row hb 295 (hRow i.2.1 i.2.2.1 i.2.2.2.1 (b++c).length)::F) (fun i=>i.1≤c.length∧HSt (b++c.take i.1) i.2.1 i.2.2.1 i.2.2.2.1∧BAt f i.2.2.2.2.1 (c.drop i.1)∧c.length-i.1≤i.2.2.2.2.2) (fun i=>c.length-i.1)
  (0,s0,part0,n0,p,cap) ⟨Nat.zero_le _,hst0,by rw[List.drop_zero];exact hc,by omega⟩ fun i hi=>?_
 obtain⟨m,s,part,n,q,qc⟩:=i;obtain⟨hm,hst,hq,hqc⟩:m≤c.length∧HSt (b++c.take m) s part n∧BAt f q (c.drop m)∧c.length-m≤qc:=hi;have hlen:=hst.len;have hn:=hst.lt
 show H _ _ _ [_,(1,.slice q (c.length-m) qc)] _ (row hb _ (hRow s part n (b++c).length)::F) _;by_cases hlt:m<c.length
 ·obtain⟨k,hk⟩:∃k,Nat.min (c.length-m) (64-n)=k:=⟨_,rfl⟩;have hk1:k≤c.length-m∧k≤64-n∧(k=c.length-m∨k=64-n):=by rw[←hk,show Nat.min (c.length-m) (64-n)=min (c.length-m) (64-n)from rfl];omega
  have hdl:(c.drop m).length=c.length-m:=List.length_drop;have htl:((c.drop m).take k).length=k:=by rw[List.length_take,hdl];omega
  have htk:c.take m++(c.drop m).take k=c.take (m+k):=by rw[←List.take_add]
  have e3:IntKind.i64.wrap ((n:Int)+(k:Int))=((n+k:Nat):Int):=by rw[wr_i64 jA];omega
  refine gG ?_;refine H.dc [0,1,2,3,4,5,6,7,8] (S:=[_]) rfl ?_;refine HB.qu [0,1,2,3,4,5,6,7,8] 2 ?_;repeat(first|(refine HQ.Ad rfl rfl rfl (.at0 (Rd.ofRow jB) (hRow_n s part n (b++c).length hlen)) rfl ?_)|(refine gi ?_))
  refine HQ.Bw (lo:=some (.tmp 26)) (mx:=none) (hi:=none) (lv:=n) (hv:=64) (mv:=64) rfl rfl ⟨_,_,rfl,rfl⟩ rfl rfl (fun h=>by cases h) jA jA jC rfl ?_;rw[slP_ne jA];refine gB ?_;refine qeC ?_;refine HB.ev 9 ?_
  refine H.copy (k0:=k) (m:=c.length-m) (cs:=bytesV ((c.drop m).take k)) (ls:=hRow s part n (b++c).length) (ls':=hRow s (spliceB part n ((c.drop m).take k)) n (b++c).length) rfl rfl rfl rfl
   (by have:=(BAt.src (P:=prog) (A:=[]) (c:=qc) hq).len;rwa [hdl]at this) hk (by have:=fun A=>BAt.first (P:=prog) (A:=A) (c:=qc) hq (k0:=k) jA;rw[hdl]at this;exact this _)
   (by rw[show 0+8+n*1=8+n by omega];exact hRow_part s part _ n _ hlen jA) (by rw[zac,htl,hRow_len _ _ _ _ hlen];omega) (zai _) jB ?_
  refine qed ?_;refine HB.qu [10] 0 ?_;refine qgq ?_;have hlen2:(spliceB part n ((c.drop m).take k)).length=64:=spliceB_len hlen jA;refine gK ?_
  refine H.slice (lo:=some (.tmp 31)) (hi:=none) (mx:=none) (lv:=k) (hv:=c.length-m) (mv:=qc) rfl rfl ⟨_,_,rfl,rfl⟩ rfl rfl (fun h=>by cases h) jA hqc (Nat.le_refl _) rfl ?_;repeat(first|(refine H.Ad rfl rfl rfl (.at0 (Rd.ofRow jB) (hRow_n s _ n (b++c).length hlen2)) rfl ?_)|(apply H.ar;(iterate 4 exact rfl);exact e3;exact rfl)|(refine H.Bb (v:=.int .i64 ((n+k:Nat):Int)) (ls':=hRow s (spliceB part n ((c.drop m).take k)) (n+k) (b++c).length) rfl rfl rfl rfl jB (hRow_setn s _ n (n+k) _ hlen2) ?_)|(refine H.Ad rfl rfl rfl (.at0 (Rd.ofRow jB) (hRow_n s _ (n+k) (b++c).length hlen2)) rfl ?_)|(refine gh ?_))
  have hbat:BAt f (slP q k qc 1) (c.drop (m+k)):=by
   have:=hq.drop (n:=k) (c:=qc) jA jA;rwa [List.drop_drop]at this
  have hsl:c.length-m-k=c.length-(m+k):=jA
  rw[hsl];by_cases hfull:n+k=64
  ·have hst2:HSt (b++c.take (m+k)) (Sha.block s (spliceB part n ((c.drop m).take k))) (spliceB part n ((c.drop m).take k)) 0:=by
    have:=hst.full (c:=(c.drop m).take k) jA;rwa [List.append_assoc,htk]at this
   generalize spliceB part n ((c.drop m).take k)=part2 at hlen2 hst2⊢;refine gG ?_;refine H.drawN jD jK jF ?_;refine HN.move (i:=1) jD rfl rfl rfl rfl ?_;refine HN.phase [0,2,3,4,5,6,7,8,9,10,11,12] (S:=[_]) rfl ?_;refine HB.qu [0,2,3,4,5,6,7,8,9] 7 ?_;repeat(first|(refine HQ.Ab (ls:=s.vals) rfl rfl rfl (hRow_rds jB) rfl rfl ?_)|(refine HQ.Ab (ls:=bytesV part2) rfl rfl rfl (hRow_rdp jB) (by rw[zac];exact hlen2) rfl ?_)|(refine gi ?_))
   refine qel ?_;refine HB.ev 10 ?_;refine H.Af rfl rfl rfl (sblock_fn f _ htab hlen2) ?_;refine qed ?_;refine HB.qu [11,12] 4 ?_;refine gR ?_;refine qeC ?_;refine HB.ev 13 ?_;generalize Sha.block s part2=s2 at hst2⊢;refine H.Ag (ls:=hRow s part2 (n+k) (b++c).length) (vs:=s2.vals) (ls':=hRow s2 part2 (n+k) (b++c).length) rfl rfl rfl (zaa rfl) rfl (hRow_s _ _ _ _ _) (by rw[hRow_len _ _ _ _ hlen2];show 8≤74;decide) jB ?_;refine qed ?_;refine HB.qu [14,15] 1 ?_;refine qfu ?_;refine HB.ev 16 ?_;refine H.Bb (v:=.int .i64 ((0:Nat):Int)) (ls':=hRow s2 part2 0 (b++c).length) rfl rfl rfl rfl jB (hRow_setn s2 part2 (n+k) 0 _ hlen2) ?_;refine qeQ ?_;refine gT ?_;exact H.ag (m+k,s2,part2,0,slP q k qc 1,qc-k) ⟨by show m+k≤c.length;omega,hst2,hbat,by show c.length-(m+k)≤qc-k;omega⟩ kP
  ·have hst2:HSt (b++c.take (m+k)) s (spliceB part n ((c.drop m).take k)) (n+k):=by
    have:=hst.more (c:=(c.drop m).take k) jA;rw[List.append_assoc,htk,htl]at this
    exact this
   generalize spliceB part n ((c.drop m).take k)=part2 at hlen2 hst2⊢;refine gZ ?_;exact H.ag (m+k,s,part2,n+k,slP q k qc 1,qc-k) ⟨by show m+k≤c.length;omega,hst2,hbat,by show c.length-(m+k)≤qc-k;omega⟩ kP
 ·have hmc:m=c.length:=jA
  rw[hmc,List.take_length]at hst;clear hq hqc hc;subst hmc;refine gZ ?_;refine H.imp (hashH_fold hst) ?_;exact qaZ
end
variable {xb qc:Nat} {x:Bod}
theorem bodAt_rd{pre post:List Value}{qp:Option Addr}(h:At A (bodAt xb T pre post x qp qc) A' (bodAt xb T pre post x qp qc)):Rd f A xb pre.length (x.vals qp qc):=by
 have h1:=Rd.ofRow (f:=f) h;have h2:=h1.sub (pre:=pre) (l:=x.vals qp qc) (post:=post) rfl
 rwa [Nat.zero_add]at h2
section
variable (f:Frag) (F:List HP) (cb:Nat) (s:Cs) (xb:Nat) (T:TypeId) (pre post:List Value)
def qs(qp:Option Addr)(qc:Nat)(q:List (Int×Int)):HP:=slc qp q.length qc 127 2 (q.flatMap pairV)
theorem pairsV_one:∀(q:List (Int×Int)),∀v∈q.flatMap pairV,one v=true:=by
 intro q v hv;simp only[List.mem_flatMap]at hv;obtain⟨p,_,hp⟩:=hv;simp only[pairV,List.mem_cons,List.not_mem_nil,or_false]at hp;rcases hp with rfl|rfl<;>rfl
theorem get_newview(hl:s.l.length≤1000000000)(x:Bod)(hx:x.q= []):
  Fn prog 174 [.pointer (some ⟨cb,0,none⟩),.pointer (some ⟨xb,pre.length,none⟩)] f (cutC f cb s::bodAt xb T pre post x none 0::F)
   (RetE (fun _ : Option Addr × Nat => .tuple #[]) f (fun i => cutC f cb (Cs.pairs ((s.skip 8).num 1) ((s.skip 8).skip 1) []).2 ::
    bodAt xb T pre post {x with view:=(s.num 8:Nat),q:=(Cs.pairs ((s.skip 8).num 1) ((s.skip 8).skip 1) []).1} i.1 i.2::qs i.1 i.2 (Cs.pairs ((s.skip 8).num 1) ((s.skip 8).skip 1) []).1::F)):=by
 have a1:=s.skip_len 8;have a2:=(s.skip 8).skip_len 1
 have n1:=(s.skip 8).num1_lt;refine Fn.e2 func174 ntmps174 fun base=>?_
 repeat(first|((apply H.Aw);(iterate 3 exact rfl))|(first|apply H.seq|apply H.Bg))
 refine H.Af rfl rfl rfl (word_cs f _ cb s jA) ?_;repeat(first|((apply H.Bd);(iterate 3 exact rfl))|(apply H.Bm;(iterate 3 exact rfl);exact inferInstance;exact rfl)|(apply H.Bb;(iterate 4 exact rfl);(repeat(first|exact .here _ _ _|apply At.there))))
 ·exact SetV.mid (l:=x.vals none 0) (l':=({x with view:=(s.num 8:Nat),q:=[]}:Bod).vals none 0) (i:=1) (by rw[show x.vals none 0=({x with q:=[]}:Bod).vals none 0 by rw[←hx]];exact jJ) pre post
 refine gK ?_;refine H.Af rfl rfl rfl (byte_cs f _ cb (s.skip 8) jA) ?_;refine gT ?_;generalize hs0:(s.skip 8).skip 1=s0 at a2⊢;generalize hN:(s.skip 8).num 1=N at n1⊢;refine H.slc0 127 2 ?_;refine qey ?_;refine qfx ?_
 refine H.lo (ι:=Nat×Cs×List (Int×Int)×Option Addr×Nat) (fun i=>[(4,.int .u8 (i.1:Int)),(0,.pointer (some ⟨cb,0,none⟩)),(1,.pointer (some ⟨xb,pre.length,none⟩))]) (fun _=>f)
  (fun i=>bodAt xb T pre post {x with view:=(s.num 8:Nat),q:=i.2.2.1} i.2.2.2.1 i.2.2.2.2::cutC f cb i.2.1::qs i.2.2.2.1 i.2.2.2.2 i.2.2.1::F)
  (fun i=>i.1<256∧i.2.2.1.length+i.1≤255∧i.2.1.l.length≤s.l.length∧Cs.pairs N s0 []=Cs.pairs i.1 i.2.1 i.2.2.1) (fun i=>i.1) (N,s0,[],none,0) ⟨n1,by show 0+N≤255;omega,by show s0.l.length≤_;omega,rfl⟩ fun i hi=>?_
 obtain⟨n,s',acc,qp,qc⟩:=i;obtain⟨hn,hacc,hlen,hp⟩:n<256∧acc.length+n≤255∧s'.l.length≤s.l.length∧Cs.pairs N s0 []=Cs.pairs n s' acc:=hi;rw[hp];show H _ _ _ [(4,.int .u8 (n:Int)),(0,.pointer (some ⟨cb,0,none⟩)),(1,.pointer (some ⟨xb,pre.length,none⟩))] _ (bodAt xb T pre post {x with view:=(s.num 8:Nat),q:=acc} qp qc::cutC f cb s'::qs qp qc acc::F) _
 cases n with
 | zero =>
  have h0:¬(0<((0:Nat):Int)):=jA
  have hp0:Cs.pairs 0 s' acc=(acc,s'):=rfl;rw[hp0]
  refine gU ?_;refine qey ?_;exact qdT
 | succ n =>
  have h0:0<((n+1:Nat):Int):=jA
  refine qey ?_;refine gQ ?_;refine H.Af rfl rfl rfl (ok_cs f _ cb s') ?_
  cases hbad:s'.bad with
  | true =>
   have hp0:Cs.pairs (n+1) s' acc=(acc,s'):=by simp[Cs.pairs,hbad]
   rw[hp0];refine gX ?_;exact qdT
  | false =>
   have hp0:Cs.pairs (n+1) s' acc=Cs.pairs n ((s'.skip 1).skip 8) (acc++ [(((s'.num 1:Nat):Int),(((s'.skip 1).num 8:Nat):Int))]):=by simp[Cs.pairs,hbad]
   rw[hp0];have b1:=s'.skip_len 1;have b2:=(s'.skip 1).skip_len 8
   have m1:=s'.num1_lt;refine gX ?_
   refine qey ?_;refine H.dc [0,1,2,3,4,5,6,7,8,9,10,11,12] (S:=[_]) rfl ?_;refine HB.qu [0,1,2,3,4,5,8] 9 ?_;refine gR ?_;refine HQ.Ad rfl rfl rfl (.of (bodAt_rd jB) (i:=43) rfl) rfl ?_;refine gB ?_;refine qiI ?_;refine qey ?_;refine H.Af rfl rfl rfl (byte_cs f _ cb s' jA) ?_;refine qft ?_;refine HB.qu [7] 7 ?_;refine gL ?_;refine qhL ?_;refine qey ?_;refine H.Af rfl rfl rfl (word_cs f _ cb (s'.skip 1) jA) ?_;refine qft ?_;refine HB.qu [10] 5 ?_;refine gM ?_;refine qel ?_;generalize hpr:((((s'.num 1:Nat):Int),(((s'.skip 1).num 8:Nat):Int)):Int×Int)=pr;refine HB.ev 11 ?_;refine H.Am (out:=pairV pr) rfl rfl rfl rfl jC jC (by subst hpr;rfl) rfl fun tb=>?_;refine qft ?_;refine HB.ev 12 ?_;refine H.Au (m:=1) (news:=pairV pr) rfl rfl rfl rfl rfl (fun p' c'=>jB) (Src.slice (Rd.ofRow jB) rfl) (zaa rfl) rfl (show acc.length+1≤_ by omega) (show(acc.length+1)*_≤_ by omega) fun p' c'=>?_;refine qed ?_;refine HB.nx [] (S':=[]) rfl ?_;refine HB.qu [13,14] 1 ?_;refine qfu ?_;refine HB.ev 15 ?_;repeat((apply H.Bb;(iterate 4 exact rfl);(repeat(exact .here _ _ _))))
   have e:Value.slice p' (acc.length+1) c'= .slice p' (acc++ [pr]).length c':=by rw[List.length_append];rfl
   ·rw[e];exact SetV.mid (l:=({x with view:=(s.num 8:Nat),q:=acc}:Bod).vals qp qc) (l':=({x with view:=(s.num 8:Nat),q:=acc++ [pr]}:Bod).vals p' c') (i:=43) jJ pre post
   refine qeQ ?_;refine qjF ?_;refine gV ?_;refine H.Bh (d:=4) (u:=.int .u8 (n:Int)) rfl (congrArg (Value.int .u8) jA) ?_
   have e2:qs p' c' (acc++ [pr])=slc p' (acc.length+1) c' 127 2 (acc.flatMap pairV++pairV pr):=by
    unfold qs;rw[List.length_append,List.flatMap_append];simp
   refine H.Av (n,(s'.skip 1).skip 8,acc++ [pr],p',c') ⟨by show n<256;omega,by show(acc++ [pr]).length+n≤255;rw[List.length_append];simp only[List.length_cons,List.length_nil];omega,by show((s'.skip 1).skip 8).l.length≤_;omega,?_⟩ (Nat.lt_succ_self n) ⟨rfl,rfl,rfl,trivial⟩ rfl ?_
   ·exact rfl
   ·show _=bodAt xb T pre post {x with view:=(s.num 8:Nat),q:=acc++ [pr]} p' c'::cutC f cb ((s'.skip 1).skip 8)::qs p' c' (acc++ [pr])::F;rw[e2];rfl
end
theorem u8_b8(z:Int):IntKind.u8.wrap z=((b8 z).toNat:Int):=u8_wrap z
variable {q:Option Addr}
theorem zbt(h:At A (row xb T (x.vals q qc)) A' (row xb T (x.vals q qc))):Rd f A xb (0+3) x.req.vals:=by
 have h1:=Rd.ofRow (f:=f) h;have e:x.vals q qc= [.int .u8 (x.kind.toNat:Nat),.int .u64 x.view,.int .u64 x.k]++x.req.vals++([.slice q x.q.length qc]++b32 x.dig):=rfl
 exact qbQ
theorem row_rtag(h:At A (row xb T (x.vals q qc)) A' (row xb T (x.vals q qc))):Rd f A xb (0+3+8) (bytesV (b32L x.req.tag)):=by
 have h1:=Rd.ofRow (f:=f) h;have e:x.vals q qc=([.int .u8 (x.kind.toNat:Nat),.int .u64 x.view,.int .u64 x.k]++ [.int .i64 x.req.client,.int .u64 x.req.time,.int .u8 (x.req.kind.toNat:Nat),.string x.req.key,.string x.req.val,.string x.req.old,.string x.req.to,.int .u64 x.req.amount])++bytesV (b32L x.req.tag)++([.slice q x.q.length qc]++b32 x.dig):=rfl
 exact qbQ
theorem row_dig(h:At A (row xb T (x.vals q qc)) A' (row xb T (x.vals q qc))):Rd f A xb (0+44) (bytesV (b32L x.dig)):=by
 have h1:=Rd.ofRow (f:=f) h;have e:x.vals q qc=([.int .u8 (x.kind.toNat:Nat),.int .u64 x.view,.int .u64 x.k]++x.req.vals++ [.slice q x.q.length qc])++bytesV (b32L x.dig)++ []:=(List.append_nil _).symm
 exact qbQ
theorem Req.bytes_len(r:Req):r.bytes.length=26+r.key.size+r.val.size+r.old.size+r.to.size:=by
 unfold Req.bytes textB;simp only[List.length_append,be_len,zbq];show 2+8+8+_+_+_+_=_;omega
section
variable (f:Frag) (A:List HP) (x:Bod) (q:Option Addr) (qc:Nat)
theorem may_prepare:Fn prog 167 [.agg (x.vals q qc).toArray] f A (Ret (.bool (decide x.req.asked)) f A):=by
 refine Fn.e1 func167 ntmps167 fun base=>?_;refine qeR fun xb=>?_;refine gF ?_;refine H.Ab (ls:=x.req.vals) rfl rfl rfl (zbt jB) rfl rfl ?_;refine H.Af rfl rfl rfl (asked_fn f _ x.req) ?_;refine gT ?_;exact qaK
theorem may_newview(hq:QAt f q x.q)(hl:x.q.length≤1000000000000):Fn prog 177 [.agg (x.vals q qc).toArray] f A (Ret (.bool (decide (1≤x.view)&& (quo 0 x.q&& decide (0<x.q.length)))) f A):=by
 by_cases hv:1≤x.view
 ·refine Fn.e1 func177 ntmps177 fun base=>?_;refine qeR fun xb=>?_;refine gJ ?_;refine H.Af rfl rfl rfl (quorum_fn f _ hq hl) ?_;refine gQ ?_;refine qeJ ?_;exact H.Ae rfl rfl (fun _ h=>h) ⟨by rw[decide_eq_true hv,Bool.true_and],rfl,rfl⟩
 ·refine Fn.e1 func177 ntmps177 fun base=>?_;refine qeR fun xb=>?_;refine gU ?_;refine qeJ ?_;exact H.Ae rfl rfl (fun _ h=>h) ⟨by rw[decide_eq_false hv,Bool.false_and],rfl,rfl⟩
theorem put_commit(hs:Src prog f A (.slice p l.length c) 1 l.length (bytesV l))(hn:p=none→l= [])(hl:l.length≤100000000):
  Fn prog 169 [.slice p l.length c,.agg (x.vals q qc).toArray] f A (BytesR (l++(be 8 x.view++be 8 x.k)) f A):=by
 refine Fn.e2 func169 ntmps169 fun base=>?_;refine qeR fun xb=>?_;refine qir ?_;refine HB.qu [0,1,2,4,5] 3 ?_;refine qfu ?_;refine HB.ev 3 ?_;refine qiY fun p1 c1=>?_;refine qft ?_;refine HB.ev 6 ?_;have h1:(l++be 8 x.view).length=l.length+8:=by rw[List.length_append,be_len]
 generalize hl1:l++be 8 x.view=l1 at h1;refine qiy fun b3 hp=>?_;subst hp;refine qiE fun p4 c4=>?_;refine gA ?_;refine qgc ?_;refine qey ?_;refine qeM ?_;refine HB.qu [7] 0 ?_;refine qgq ?_;refine qjb ?_;exact H.Ae rfl rfl (fun _ h=>h) ⟨p4,c4,by rw[←List.append_assoc,hl1],rfl,by rw[←List.append_assoc,hl1];rfl⟩
theorem put_prepare(hs:Src prog f A (.slice p l.length c) 1 l.length (bytesV l))(hn:p=none→l= [])(ha:x.req.asked)(hl:l.length≤100000000):
  Fn prog 162 [.slice p l.length c,.agg (x.vals q qc).toArray] f A (BytesR (l++(be 8 x.view++x.req.bytes++b32L x.req.tag)) f A):=by
 have hb:x.req.bytes.length≤1000:=by
  exact qdw
 refine Fn.e2 func162 ntmps162 fun base=>?_;refine qeR fun xb=>?_;refine qir ?_;refine HB.qu [0,1,2,4,5,7,8,9] 4 ?_;refine gR ?_;refine HQ.Ab (ls:=x.req.vals) rfl rfl rfl (zbt jB) rfl rfl ?_;refine qig ?_;refine qiY fun p1 c1=>?_;refine qft ?_;refine HB.ev 6 ?_;have h1:(l++be 8 x.view).length=l.length+8:=by rw[List.length_append,be_len]
 generalize hl1:l++be 8 x.view=l1 at h1;refine qey ?_;refine H.Al rfl rfl rfl (request_fn f _ x.req ha jA) fun p2 c2=>?_;have h2:(l1++x.req.bytes).length=l1.length+x.req.bytes.length:=List.length_append;generalize hl2:l1++x.req.bytes=l2 at h2
 refine qft ?_;refine HB.ev 10 ?_;refine H.Au (m:=32) rfl rfl rfl rfl rfl (fun p' c'=>jB) (Src.slice (row_rtag jB) rfl) (zai _) rfl jA jA fun p3 c3=>?_;refine qed ?_;refine HB.qu [11] 0 ?_;refine qgq ?_;refine qjb ?_;have e3:(l++(be 8 x.view++x.req.bytes++b32L x.req.tag))=l2++b32L x.req.tag:=by rw[←hl2,←hl1];simp only[List.append_assoc]
 exact qcy
theorem put_check(hs:Src prog f A (.slice p l.length c) 1 l.length (bytesV l))(hn:p=none→l= [])(hl:l.length≤100000000):
  Fn prog 179 [.slice p l.length c,.agg (x.vals q qc).toArray] f A (BytesR (l++(be 8 x.k++b32L x.dig)) f A):=by
 refine Fn.e2 func179 ntmps179 fun base=>?_;refine qeR fun xb=>?_;refine qir ?_;refine HB.qu [0,1,2,4,5] 3 ?_;refine qig ?_;refine qiY fun p1 c1=>?_;refine qft ?_;refine HB.ev 6 ?_;have h1:(l++be 8 x.k).length=l.length+8:=by rw[List.length_append,be_len]
 generalize hl1:l++be 8 x.k=l1 at h1;refine H.Au (m:=32) rfl rfl rfl rfl rfl (fun p' c'=>jB) (Src.slice (row_dig jB) rfl) (zai _) rfl jA jA fun p3 c3=>?_;refine qed ?_;refine HB.qu [7] 0 ?_;refine qgq ?_;refine qjb ?_;have e3:(l++(be 8 x.k++b32L x.dig))=l1++b32L x.dig:=by rw[←hl1];simp only[List.append_assoc]
 exact qcy
theorem put_view(hs:Src prog f A (.slice p l.length c) 1 l.length (bytesV l))(hn:p=none→l= [])(hl:l.length≤100000000):
  Fn prog 211 [.slice p l.length c,.agg (x.vals q qc).toArray] f A (BytesR (l++be 8 x.view) f A):=view1_fn f A x q qc hs hn jA
theorem put_newview(hs:Src prog f A (.slice p l.length c) 1 l.length (bytesV l))(hn:p=none→l= [])(hq:QAt f q x.q)(hql:x.q.length≤1000)(hl:l.length≤100000000):
  Fn prog 173 [.slice p l.length c,.agg (x.vals q qc).toArray] f A (BytesR (l++(be 8 x.view++ [b8 x.q.length]++x.q.flatMap pairB)) f A):=by
 have h1:(l++be 8 x.view).length=l.length+8:=by rw[List.length_append,be_len]
 refine Fn.e2 func173 ntmps173 fun base=>?_;refine qeR fun xb=>?_;refine gK ?_;refine H.cut (ι:=Option Addr×Nat) (fun i=>[(0,.slice i.1 ((l++be 8 x.view).length+1) i.2),(3,.pointer (some ⟨xb,0,none⟩))]) (fun _=>f) (fun i=>row xb 52 (x.vals q qc)::slc i.1 ((l++be 8 x.view).length+1) i.2 5 1 (bytesV (l++be 8 x.view)++bytesV [b8 x.q.length])::A) (fun _=>True) _ (fun i _=>?_) ?_
 ·obtain⟨p1,c1⟩:=i;generalize hl0:l++be 8 x.view++ [b8 x.q.length]=l0;have e0:l0.length=(l++be 8 x.view).length+1:=by rw[←hl0,List.length_append];rfl
  have e1:bytesV l0=bytesV (l++be 8 x.view)++bytesV [b8 x.q.length]:=by rw[←hl0,zae]
  show H _ _ _ [(0,.slice p1 ((l++be 8 x.view).length+1) c1),_] _ (row _ _ _::slc p1 ((l++be 8 x.view).length+1) c1 _ _ (bytesV (l++be 8 x.view)++bytesV [b8 x.q.length])::A) _;rw[←e0,←e1];refine gN ?_
  refine H.loop (ι:=Nat×Option Addr×Nat) (fun i=>[(20,.int .i64 (i.1:Int)),(19,.int .i64 (x.q.length:Nat)),(18,.slice q x.q.length qc),(0,.slice i.2.1 (l0++(x.q.take i.1).flatMap pairB).length i.2.2),(3,.pointer (some ⟨xb,0,none⟩))]) (fun _=>f)
   (fun i=>row xb 52 (x.vals q qc)::slc i.2.1 (l0++(x.q.take i.1).flatMap pairB).length i.2.2 5 1 (bytesV (l0++(x.q.take i.1).flatMap pairB))::A)
   (fun i=>i.1≤x.q.length∧(l0++(x.q.take i.1).flatMap pairB).length=l0.length+9*i.1) (fun i=>x.q.length-i.1) (0,p1,c1) ⟨Nat.zero_le _,by simp⟩ ⟨rfl,rfl,rfl,?_,rfl,trivial⟩ rfl ?_ fun i hi=>?_
  ·show some (Value.slice p1 l0.length c1)=some (Value.slice p1 (l0++ []).length c1);rw[List.append_nil]
  ·show _=_::slc p1 (l0++ []).length c1 _ 1 (bytesV (l0++ []))::A;rw[List.append_nil]
  ·obtain⟨i,p',c'⟩:=i;obtain⟨hi,hlen⟩:i≤x.q.length∧(l0++(x.q.take i).flatMap pairB).length=l0.length+9*i:=hi;show H _ _ _ [(20,.int .i64 (i:Int)),_,_,(0,.slice p' (l0++(x.q.take i).flatMap pairB).length c'),_] _ (_::slc p' (l0++(x.q.take i).flatMap pairB).length c' _ 1 (bytesV (l0++(x.q.take i).flatMap pairB))::A) _;generalize hacc:l0++(x.q.take i).flatMap pairB=acc at hlen;by_cases hlt:i<x.q.length
   ·have hx:x.q[i]? =some x.q[i]:=List.getElem?_eq_getElem hlt;generalize x.q[i]=pr at hx
    have e3:l0++(x.q.take (i+1)).flatMap pairB=acc++ [b8 pr.1]++be 8 pr.2:=by
     rw[List.take_add_one,hx,←hacc];simp[pairB]
    obtain⟨b,off,cs,T,fr,rfl,hfb,hcs⟩:=hq i pr hx;have rd:∀A,Rd f A b (off+i*2) (pairV pr):=fun A=>Rd.imm hfb hcs;clear hcs hfb
    refine qjy ?_;refine H.Ab (ls:=pairV pr) rfl rfl rfl (rd _) rfl rfl ?_;refine H.Aj rfl rfl rfl fun pb=>?_;refine H.Ag (ls:=[.int .i64 0,.int .u64 0]) (vs:=pairV pr) (ls':=pairV pr) rfl rfl rfl (zaa rfl) rfl rfl (Nat.le_refl 2) jB ?_;refine qgX ?_;refine HB.qu [0,1,2,3,6,7] 4 ?_;refine gW ?_;rw[u8_b8];refine qkl ?_;refine H.Am (out:=bytesV [b8 pr.1]) rfl rfl rfl rfl jC jC rfl rfl fun tb=>?_;refine qft ?_;refine HB.ev 5 ?_;refine qim fun p3 c3=>?_;refine gA ?_;refine qjF ?_;refine qeM ?_;refine HB.ev 8 ?_;have f0:(acc++ [b8 pr.1]).length=acc.length+1:=by rw[List.length_append];rfl
    have f1:bytesV (acc++ [b8 pr.1])=bytesV acc++bytesV [b8 pr.1]:=zae _ _;generalize acc++ [b8 pr.1]=l4 at f0 f1 e3
    show H _ _ _ _ _ (row _ _ _::row _ _ _::slc p3 (acc.length+1) c3 _ _ (bytesV acc++bytesV [b8 pr.1])::A) _;rw[←f0,←f1];refine H.Ar at2 jA fun b3 hp=>?_;subst hp;refine H.Al rfl rfl rfl (zcf (l:=l4) f _ (Src.slcS at2 jG) (fun h=>by cases h) jA) fun p4 c4=>?_;refine gA ?_;refine H.Ac (.there _ (.there _ (.there _ (.here _ _)))) ?_;refine qey ?_;refine qeM ?_;refine HB.qu [9] 0 ?_;refine qgq ?_;refine gV ?_;refine qeJ ?_;refine qey ?_;refine H.Av (i+1,p4,c4) ⟨by show i+1≤x.q.length;omega,?_⟩ jI ⟨rfl,rfl,rfl,?_,rfl,trivial⟩ rfl ?_
    ·show(l0++(x.q.take (i+1)).flatMap pairB).length=l0.length+9*(i+1);rw[e3,List.length_append,be_len];omega
    ·show some _=some (Value.slice p4 (l0++(x.q.take (i+1)).flatMap pairB).length c4);rw[e3]
    ·show _=_::slc p4 (l0++(x.q.take (i+1)).flatMap pairB).length c4 _ 1 (bytesV (l0++(x.q.take (i+1)).flatMap pairB))::A;rw[e3]
   ·have:i=x.q.length:=jA
    subst this;rw[List.take_length]at hacc;refine gZ ?_;refine qeJ ?_;have e9:l++(be 8 x.view++ [b8 x.q.length]++x.q.flatMap pairB)=acc:=by rw[←hacc,←hl0];simp only[List.append_assoc]
    exact qdE
 ·refine qeH ?_;refine HB.qu [0,1,2,4,5,6,7] 4 ?_;refine gW ?_;rw[u8_b8];refine qel ?_;refine HB.ev2 (i:=3) (j:=8) jD rfl rfl ?_ ?_
  ·refine qiY fun p1 c1=>?_;refine qft ?_;refine HB.ev 8 ?_;refine H.Am (out:=bytesV [b8 x.q.length]) rfl rfl rfl rfl jC jC rfl rfl fun tb=>?_;refine qft ?_;refine HB.ev 9 ?_;refine qim fun p3 c3=>?_;refine gA ?_;refine qjF ?_;exact qca
  ·refine H.Am (out:=bytesV [b8 x.q.length]) rfl rfl rfl rfl jC jC rfl rfl fun tb=>?_;refine qft ?_;refine HB.ev 3 ?_;refine H.Al rfl rfl rfl (zcf f _ hs.cons.cons hn jA) fun p1 c1=>?_;refine qft ?_;refine HB.ev 9 ?_;refine H.Au (m:=1) rfl rfl rfl rfl rfl (fun p' c'=>jB) (Src.slice (Rd.ofRow at2) rfl) (zai _) rfl jA jA fun p3 c3=>?_;refine gA ?_;refine qgc ?_;exact qca
end
theorem eqC_pair(p r:Int×Int):eqC (pairV p) (pairV r)=decide (p=r):=by
 obtain⟨a,b⟩:=p;obtain⟨c,d⟩:=r;simp only[pairV,eqC,eqv,Bool.and_true,Prod.mk.injEq];by_cases h1:a=c<;>by_cases h2:b=d<;>simp[h1,h2]
def Bod.eqB(a b:Bod):Bool:=decide ((a.kind.toNat:Int)=b.kind.toNat)&& decide (a.view=b.view)&& decide (a.k=b.k)&& eqC a.req.vals b.req.vals&& decide (a.q=b.q)&& eqC (b32 a.dig) (b32 b.dig)
def Bod.may(x:Bod):Bool:=Bod.eqB x.own x&& decide (x.view<1073741824)&& x.mayK x.kind.toNat
variable {r:Option Addr} {d:Nat} {a:Bod}
section
variable (f:Frag) (F:List HP)
theorem take_eq_succ{l m:List α}{i:Nat}{x y:α}(h:l.take i=m.take i)(hx:l[i]? =some x)(hy:m[i]? =some y)(e:x=y):l.take (i+1)=m.take (i+1):=by
 rw[List.take_add_one,List.take_add_one,h,hx,hy,e]
theorem equalPairs_fn{l m:List (Int×Int)}(hp:QAt f p l)(hr:QAt f r m)(hl:l.length≤1000000000):
  Fn prog 183 [.slice p l.length c,.slice r m.length d] f F (Ret (.bool (decide (l=m))) f F):=by
 by_cases hlen:(l.length:Int)=m.length
 ·have hlen':l.length=m.length:=jA
  refine Fn.e2 func183 ntmps183 fun base=>?_;refine gZ ?_;rw[decide_eq_false jA];skip;refine H.lo (ι:=Nat) (fun i=>[(13,.int .i64 (i:Int)),(12,.int .i64 (l.length:Nat)),(0,.slice p l.length c),(1,.slice r m.length d)]) (fun _=>f) (fun _=>F) (fun i=>i≤l.length∧l.take i=m.take i) (fun i=>l.length-i) 0 ⟨Nat.zero_le _,rfl⟩ fun i hi=>?_;exact qap
 ·refine Fn.e2 func183 ntmps183 fun base=>?_;exact qcE
theorem same_fn{b:Bod}(hp:QAt f p a.q)(hr:QAt f r b.q)(hl:a.q.length≤1000000000):
  Fn prog 127 [.agg (a.vals p c).toArray,.agg (b.vals r d).toArray] f F (Ret (.bool (Bod.eqB a b)) f F):=by
 by_cases h1:(a.kind.toNat:Int)=b.kind.toNat
 ·skip;by_cases h2:a.view=b.view
  ·skip;by_cases h3:a.k=b.k
   ·skip;by_cases h4:eqC a.req.vals b.req.vals=true
    ·skip;by_cases h5:a.q=b.q
     ·skip;try simp only[Bool.not_eq_true]at *
      refine Fn.e2 func127 ntmps127 fun base=>?_;repeat(first|(refine gh ?_)|(refine H.box (ls:=a.vals p c) rfl rfl rfl rfl fun ab=>?_)|(refine H.box (ls:=b.vals r d) rfl rfl rfl rfl fun bb=>?_)|(refine H.Ab (ls:=a.req.vals) rfl rfl rfl (zbt jB) rfl rfl ?_)|(refine H.Ab (ls:=b.req.vals) rfl rfl rfl (zbt jB) rfl rfl ?_)|(refine H.aggEq (xs:=a.req.vals) (ys:=b.req.vals) (D:=4) rfl rfl rfl rfl jD jD jD jD jC rfl rfl ?_)|(refine H.Af rfl rfl rfl (equalPairs_fn f _ hp hr hl) ?_)|(refine H.Ab (ls:=bytesV (b32L a.dig)) rfl rfl rfl (row_dig jB) rfl rfl ?_)|(refine H.Ab (ls:=bytesV (b32L b.dig)) rfl rfl rfl (row_dig jB) rfl rfl ?_)|(refine H.aggEq (xs:=bytesV (b32L a.dig)) (ys:=bytesV (b32L b.dig)) (b:=eqC (b32 a.dig) (b32 b.dig)) (D:=4) rfl rfl rfl rfl jD jD jD jD jC rfl rfl ?_))
      exact qaF
     ·skip;try simp only[Bool.not_eq_true]at *
      refine Fn.e2 func127 ntmps127 fun base=>?_;repeat(first|(refine gh ?_)|(refine H.box (ls:=a.vals p c) rfl rfl rfl rfl fun ab=>?_)|(refine H.box (ls:=b.vals r d) rfl rfl rfl rfl fun bb=>?_)|(refine H.Ab (ls:=a.req.vals) rfl rfl rfl (zbt jB) rfl rfl ?_)|(refine H.Ab (ls:=b.req.vals) rfl rfl rfl (zbt jB) rfl rfl ?_)|(refine H.aggEq (xs:=a.req.vals) (ys:=b.req.vals) (D:=4) rfl rfl rfl rfl jD jD jD jD jC rfl rfl ?_)|(refine H.Af rfl rfl rfl (equalPairs_fn f _ hp hr hl) ?_))
      exact qaF
    ·skip;try simp only[Bool.not_eq_true]at *
     refine Fn.e2 func127 ntmps127 fun base=>?_;exact qaT
   ·exact qbH
  ·exact qbH
 ·exact qbH
end
def fnV(f:FuncId):Value:=.func (.func f) #[] #[]
def codecCells(a b c:FuncId):List Value:=[fnV a,fnV b,fnV c]
def codecV(a b c:FuncId):Value:=.agg (codecCells a b c).toArray
def encU8:Int→Value:=fun k=>Value.int .u8 k
instance keyU8:KeyT prog 5 encU8:=keyT_int ⟨underlying5⟩
def codecsM:List (Int×Value):=[
 (1,codecV 162 164 167),
 (2,codecV 169 170 171),
 (3,codecV 211 212 213),
 (5,codecV 211 212 213),
 (4,codecV 173 174 177),
 (6,codecV 179 180 171)]
variable {fid:FuncId}
theorem Fn.monoA{args:List Value}{R R':Value→Frag→List HP→Prop}(h:Fn P fid args f A R)
  (hr:∀v f' A',R v f' A'→∃A'',R' v f' A''∧∀x,stars A' x→stars A'' x):Fn P fid args f A R':=
 fun base w s=>(h base w s).mono fun _ _ ⟨v,f',A',e,r,s'⟩=>by
  obtain⟨A'',r',hx⟩:=hr _ _ _ r
  exact⟨v,f',A'',e,r',s'.imp hx⟩
variable {sz:Nat}
theorem stars_nil_slc{x:Frag}(h:stars A x):stars (slc none 0 0 T sz []::A) x:=
 ⟨nil0,x,(Dj.nil x).symm,(nil_un x).symm,slc_nil none T sz,h⟩
def MayC(fid:FuncId)(kind:Nat):Prop:=∀(f:Frag) (A:List HP) (x:Bod) (q:Option Addr) (qc:Nat),QAt f q x.q→x.q.length≤1000000000→Fn prog fid [.agg (x.vals q qc).toArray] f A (Ret (.bool (x.mayK kind)) f A)
def PutC(fid:FuncId)(kind:Nat):Prop:=∀(f:Frag) (A:List HP) (x:Bod) (q:Option Addr) (qc:Nat) (p:Option Addr) (c:Nat) (l:List UInt8),Src prog f A (.slice p l.length c) 1 l.length (bytesV l)→(p=none→l= [])→QAt f q x.q→x.mayK kind=true→x.q.length≤11→l.length≤100000000→
 Fn prog fid [.slice p l.length c,.agg (x.vals q qc).toArray] f A (BytesR (l++x.putK kind) f A)
def GetR(f:Frag)(F:List HP)(cb:Nat)(xb:Nat)(T:TypeId)(pre post:List Value)(r:Bod×Cs):Value→Frag→List HP→Prop:=
 RetE (fun _:Option Addr×Nat=>.tuple #[]) f (fun i=>cutC f cb r.2::bodAt xb T pre post r.1 i.1 i.2::qs i.1 i.2 r.1.q::F)
def GetC(fid:FuncId)(kind:Nat):Prop:=∀(f:Frag) (F:List HP) (cb:Nat) (s:Cs) (xb:Nat) (T:TypeId) (pre post:List Value) (k8:UInt8),s.l.length≤1000000000→
 Fn prog fid [.pointer (some ⟨cb,0,none⟩),.pointer (some ⟨xb,pre.length,none⟩)] f (cutC f cb s::bodAt xb T pre post (Bod.zero k8) none 0::F) (GetR f F cb xb T pre post (s.bodyK 32 128 k8 kind))
theorem getC_of{kind:Nat}(h:∀(f:Frag) (F:List HP) (cb:Nat) (s:Cs) (xb:Nat) (T:TypeId) (pre post:List Value) (k8:UInt8),s.l.length≤1000000000→
  (s.bodyK 32 128 k8 kind).1.q = [] ∧ Fn prog fid [.pointer (some ⟨cb, 0, none⟩), .pointer (some ⟨xb, pre.length, none⟩)] f (cutC f cb s :: bodAt xb T pre post (Bod.zero k8) none 0 :: F)
   (Ret (.tuple #[]) f (cutC f cb (s.bodyK 32 128 k8 kind).2::bodAt xb T pre post (s.bodyK 32 128 k8 kind).1 none 0::F))):GetC fid kind:=fun f F cb s xb T pre post k8 hl=>by
 obtain⟨hq,hf⟩:=h f F cb s xb T pre post k8 hl
 refine hf.monoA fun v f' A' hr=>?_
 obtain⟨rfl,rfl,rfl⟩:=hr
 refine⟨_,⟨(none,0),rfl,rfl,rfl⟩,?_⟩
 refine keep_stars (keep_stars ?_)
 intro x hx
 rw[hq]
 exact stars_nil_slc hx
theorem may1:MayC 167 1:=fun f A x q qc _ _=>may_prepare f A x q qc
theorem may2:MayC 171 2:=fun f A x q qc _ _=>k_fn f A x q qc
theorem may6:MayC 171 6:=fun f A x q qc _ _=>k_fn f A x q qc
theorem may3:MayC 213 3:=fun f A x q qc _ _=>view3_fn f A x q qc
theorem may5:MayC 213 5:=fun f A x q qc _ _=>view3_fn f A x q qc
theorem may4:MayC 177 4:=fun f A x q qc hq hl=>may_newview f A x q qc hq jA
theorem put1:PutC 162 1:=fun f A x q qc p c l hs hn _ hm _ hl=>put_prepare f A x q qc hs hn (of_decide_eq_true hm) hl
theorem put2:PutC 169 2:=fun f A x q qc p c l hs hn _ _ _ hl=>put_commit f A x q qc hs hn hl
theorem put3:PutC 211 3:=fun f A x q qc p c l hs hn _ _ _ hl=>put_view f A x q qc hs hn hl
theorem put5:PutC 211 5:=fun f A x q qc p c l hs hn _ _ _ hl=>put_view f A x q qc hs hn hl
theorem put6:PutC 179 6:=fun f A x q qc p c l hs hn _ _ _ hl=>put_check f A x q qc hs hn hl
theorem put4:PutC 173 4:=fun f A x q qc p c l hs hn hq _ hql hl=>put_newview f A x q qc hs hn hq jA hl
theorem get1:GetC 164 1:=getC_of fun f F cb s xb T pre post k8 hl=>⟨rfl,get_prepare f F cb s xb T pre post hl (Bod.zero k8) none 0⟩
theorem get2:GetC 170 2:=getC_of fun f F cb s xb T pre post k8 hl=>⟨rfl,get_commit f F cb s xb T pre post hl (Bod.zero k8) none 0⟩
theorem get3:GetC 212 3:=getC_of fun f F cb s xb T pre post k8 hl=>⟨rfl,get_view f F cb s xb T pre post hl (Bod.zero k8) none 0⟩
theorem get5:GetC 212 5:=getC_of fun f F cb s xb T pre post k8 hl=>⟨rfl,get_view f F cb s xb T pre post hl (Bod.zero k8) none 0⟩
theorem get6:GetC 180 6:=getC_of fun f F cb s xb T pre post k8 hl=>⟨rfl,get_check f F cb s xb T pre post hl (Bod.zero k8) none 0⟩
theorem get4:GetC 174 4:=fun f F cb s xb T pre post k8 hl=>get_newview f F cb s xb T pre post hl (Bod.zero k8) rfl
section
variable (f:Frag) (F:List HP)
theorem view_fn:Fn prog 172 [] f F (Ret (codecV 211 212 213) f F):=by
 refine Fn.e0 func172 ntmps172 fun base=>?_;refine gA ?_;refine qhk fun vb=>?_;refine gQ ?_;refine H.Ag (ls:=[.nilFunc,.nilFunc,.nilFunc]) (vs:=codecCells _ _ _) (ls':=codecCells _ _ _) rfl rfl rfl (zaa rfl) rfl rfl (Nat.le_refl 3) jB ?_;refine gT ?_;exact qaf
theorem codecs_fn:Fn prog 125 [] f F (RetE (fun b=>.map (some b)) f (fun b=>mp b encU8 codecsM::F)):=by
 refine Fn.e0 func125 ntmps125 fun base=>?_;refine gK ?_;refine H.makeMap encU8 rfl rfl fun mb=>?_;repeat(first|(refine gh ?_)|(refine H.mapInsert (enc:=encU8) rfl rfl rfl rfl aP0 rfl ?_)|(refine H.Af rfl rfl rfl (view_fn f _) ?_))
 exact H.r1 ⟨mb,rfl,rfl,rfl⟩
end
variable {g:Frag}
theorem BAt.mono(h:Le f g)(hb:BAt f p l):BAt g p l:=by
 rcases hb with rfl|⟨b,off,cs,T,fr,h1,h2,h3⟩
 ·exact .inl rfl
 ·exact .inr ⟨b,off,cs,T,fr,h1,h _ _ h2,h3⟩
theorem QAt.mono(h:Le f g){l:List (Int×Int)}(hb:QAt f p l):QAt g p l:=fun i x hx=>by
 obtain⟨b,off,cs,T,fr,h1,h2,h3⟩:=hb i x hx
 exact⟨b,off,cs,T,fr,h1,h _ _ h2,h3⟩
theorem flat_pair_get:∀(q:List (Int×Int)) (i:Nat) (x:Int×Int),q[i]? =some x→∀j,j<(pairV x).length→(q.flatMap pairV)[i*2+j]? =(pairV x)[j]?
 | [],i,x,h,j,hj=>by simp at h
 | y :: q, 0, x, h, j, hj => by
  simp at h;subst h
  rw[List.flatMap_cons,Nat.zero_mul,Nat.zero_add,List.getElem?_append_left hj]
 | y :: q, i + 1, x, h, j, hj => by
  rw[List.flatMap_cons,List.getElem?_append_right (by show(2:Nat)≤_;omega)]
  rw[show(i+1)*2+j-(pairV y).length=i*2+j by show(i+1)*2+j-2=_;omega]
  exact flat_pair_get q i x jx j hj
theorem qs_qat{q:List (Int×Int)}(h:qs p c q g)(hd:Dj f g):QAt (un f g) p q:=fun i x hx=>by
 obtain⟨_,_,h3⟩:=h
 have hi:i<q.length:=by
  rcases Nat.lt_or_ge i q.length with h|h
  ·exact h
  ·simp[List.getElem?_eq_none h]at hx
 rcases h3 with⟨h0,_,_⟩|⟨b,sp,rfl,h4,h5,rfl⟩
 ·omega
 ·refine⟨b,0,(q.flatMap pairV++sp).toArray,127,(0,0),rfl,?_,fun j hj=>?_⟩
  ·show(f b).or (sing b _ b)=_
   have:f b=none:=by
    rcases hd b with h|h
    ·exact h
    ·simp[sing]at h
   rw[this]
   simp[sing]
  ·rw[Nat.zero_add]
   simp only[List.getElem?_toArray]
   have h6:=flat_pair_get q i x hx j hj
   rw[List.getElem?_append_left ?_,h6]
   rcases Nat.lt_or_ge (i*2+j) (q.flatMap pairV).length with h|h
   ·exact h
   ·rw[List.getElem?_eq_none h]at h6
    rw[List.getElem?_eq_getElem hj]at h6
    cases h6
def Bod.back(x:Bod)(kind:Nat):Bod:=((⟨x.putK kind,false⟩:Cs).bodyK 32 128 x.kind kind).1
def Bod.mayP(x:Bod)(kind:Nat):Bool:=decide (x.view<1073741824)&& (x.mayK kind&& (decide (x.q.length≤11)&& Bod.eqB x (x.back kind)))
section
variable (f:Frag) (F:List HP)
theorem flat_pairB_len:∀q:List (Int×Int),(q.flatMap pairB).length=9*q.length
 | []=>rfl
 | p :: q => by
  rw[List.flatMap_cons,List.length_append,flat_pairB_len q]
  show(be 8 p.2).length+1+9*q.length=9*(q.length+1)
  rw[be_len];omega
theorem putK_len(x:Bod)(kind:Nat)(hm:x.mayK kind=true)(hq:x.q.length≤11):0<(x.putK kind).length∧(x.putK kind).length≤2000:=by
 match kind,hm with
 | 1, hm =>
  obtain⟨_,_,_,_,⟨k1,k2⟩,k3,k4⟩:=of_decide_eq_true hm;show 0<(be 8 x.view++x.req.bytes++b32L x.req.tag).length∧(be 8 x.view++x.req.bytes++b32L x.req.tag).length≤2000;rw[List.length_append,List.length_append,be_len,Req.bytes_len];show 0<8+_+32∧8+_+32≤2000;omega
 |2,_=>simp[Bod.putK,be_len]
 |3,_=>simp[Bod.putK,be_len]
 | 4, _ =>
  show 0<(be 8 x.view++ [b8 x.q.length]++x.q.flatMap pairB).length∧(be 8 x.view++ [b8 x.q.length]++x.q.flatMap pairB).length≤2000;rw[List.length_append,List.length_append,be_len,flat_pairB_len];show 0<8+1+_∧8+1+_≤2000;omega
 |5,_=>simp[Bod.putK,be_len]
 |6,_=>simp[Bod.putK,be_len,b32L]
theorem body_fn(kind:Nat)(hk:x.kind.toNat=kind)(f1 f2 f3:FuncId)[Fun prog f1][Fun prog f2][Fun prog f3](hput:PutC f1 kind)(hget:GetC f2 kind)(hmay:MayC f3 kind)
  (hcod:getKV codecsM (kind:Int)=some (codecV f1 f2 f3)) (hq:QAt f q x.q) (hl:x.q.length≤1000000000) :
  Fn prog 88 [.agg (x.vals q qc).toArray] f F (Ret (.bool (x.mayP kind)) f F):=by
 refine Fn.e1 func88 ntmps88 fun base=>?_;refine qeR fun xb=>?_;refine gK ?_;have hz:∀z,(getKV codecsM (kind:Int)).getD z=codecV f1 f2 f3:=fun z=>by rw[hcod];rfl
 have hi:(getKV codecsM (kind:Int)).isSome=true:=by rw[hcod];rfl
 have hkv:Value.int .u8 (x.kind.toNat:Nat)=encU8 (kind:Int):=by rw[hk];rfl
 refine H.cut (ι:=Nat) (fun i=>[(1,.pointer (some ⟨xb,0,none⟩)),(3,.pointer (some ⟨i,0,none⟩)),(4,.bool true)]) (fun _=>f) (fun i=>row i 219 (codecCells f1 f2 f3)::row xb 52 (x.vals q qc)::F) (fun _=>True) _ (fun i _=>?_) ?_
 ·by_cases h1 : x.view < 1073741824
  ·by_cases h2 : x.mayK kind = true
   ·have hm:∀A,Fn prog f3 [.agg (x.vals q qc).toArray] f A (Ret (.bool true) f A):=fun A=>by have:=hmay f A x q qc hq hl;rwa [h2]at this
    by_cases h3:x.q.length≤11
    ·skip;repeat(first|(refine gh ?_)|(refine H.Ab (ls:=x.vals q qc) rfl rfl rfl (Rd.ofRow jB) rfl rfl ?_)|(refine H.callVR (fs:=[]) (cs:=[]) (vs:=[.agg (x.vals q qc).toArray]) rfl rfl rfl rfl (hm _) ?_))
     refine qex fun yb=>?_;refine H.Ag (ls:=(Bod.zero 0).vals none 0) (vs:=(Bod.zero x.kind).vals none 0) (ls':=(Bod.zero x.kind).vals none 0) rfl rfl rfl (zaa rfl) rfl rfl (Nat.le_refl 76) jB ?_;refine qix ?_;refine qgm ?_;refine HB.qu [0,1,2,3,4] 3 ?_;refine gR ?_;refine qin ?_;refine qel ?_;refine HB.ev 5 ?_;refine H.callVE2 (fs:=[]) (cs:=[]) (vs:=[.slice none 0 0,.agg (x.vals q qc).toArray]) rfl rfl rfl rfl (hput f _ x q qc none 0 [] Src.nil (fun _=>rfl) hq h2 h3 jC) fun p1 c1=>?_;have hb:=putK_len x kind h2 h3;rw[List.nil_append]
     generalize hbs:x.putK kind=bs at hb⊢;have hbk:x.back kind=((⟨bs,false⟩:Cs).bodyK 32 128 x.kind kind).1:=by rw[←hbs];rfl
     refine qix ?_;refine qeM ?_;refine HB.ev 6 ?_;refine H.Ar at2 hb.1 fun b1 hp=>?_;subst hp;refine H.Aq rfl rfl rfl (octNew_fn f _ (Src.slcS at2 jG) (fun h=>by cases h) jA) fun v f' A' hr=>?_;obtain⟨g1,cb,p2,c2,rfl,hg1,hd1,rfl,rfl⟩:=hr;refine qix ?_;refine H.on [] (Le.un _ _) rfl ?_;refine HB.ev 7 ?_;have e:row yb 52 ((Bod.zero x.kind).vals none 0)=bodAt yb 52 [] [] (Bod.zero x.kind) none 0:=by unfold bodAt;rw[List.append_nil];rfl
     refine qjV ?_;refine H.Ap (.there _ (.there _ (.there _ (.here _ _)))) ?_;rw[e];refine H.callVE (fs:=[]) (cs:=[]) (vs:=[.pointer (some ⟨cb,0,none⟩),.pointer (some ⟨yb,0,none⟩)]) rfl rfl rfl rfl (hget (un f g1) _ cb ⟨bs,false⟩ yb 52 [] [] x.kind (by show bs.length≤_;omega)) fun i2=>?_;rw[←hbk];generalize((⟨bs,false⟩:Cs).bodyK 32 128 x.kind kind).2=s2;refine gA ?_;refine qjV ?_;refine qjV ?_;refine qeM ?_;refine HB.dn ?_;refine H.Ch (.there _ (.there _ (.there _ (.there _ (.here _ _))))) fun g2 hg2 hd2=>?_;have hq2:QAt (un (un f g1) g2) q x.q:=(hq.mono (Le.un f g1)).mono (Le.un _ g2);have hy2:QAt (un (un f g1) g2) i2.1 (x.back kind).q:=qs_qat hg2 hd2
     refine gA ?_;refine H.Ab (ls:=x.vals q qc) rfl rfl rfl (Rd.ofRow jB) rfl rfl ?_;refine H.Ab (ls:=(x.back kind).vals i2.1 i2.2) rfl rfl rfl (bodAt_rd (pre:=[]) (post:=[]) jB) rfl rfl ?_;refine H.Af rfl rfl rfl (same_fn _ _ hq2 hy2 hl) ?_;refine gT ?_;refine H.thaw hg2 hd2 ?_;refine qeJ ?_;refine H.thaw hg1 hd1 ?_;repeat refine H.Ac (.here _ _) ?_
     refine H.Ae rfl rfl (fun _ h=>h) ⟨?_,rfl,rfl⟩;simp[Bod.mayP,h1,h2,h3]
    ·skip;exact qbh
   ·have hm:∀A,Fn prog f3 [.agg (x.vals q qc).toArray] f A (Ret (.bool false) f A):=fun A=>by have:=hmay f A x q qc hq hl;rwa [Bool.eq_false_iff.2 h2]at this
    exact qbh
  ·have hm:∀A,Fn prog f3 [.agg (x.vals q qc).toArray] f A (Ret (.bool (x.mayK kind)) f A):=fun A=>hmay f A x q qc hq hl;refine gg ?_
   refine qjn ?_;refine H.Ae rfl rfl (fun _ h=>h) ⟨?_,rfl,rfl⟩;simp[Bod.mayP, *]
 ·refine qeH ?_;refine HB.qu [1,2] 8 ?_;refine qfu ?_;refine HB.ev2 (i:=0) (j:=7) jD rfl rfl ?_ ?_
  ·refine qic fun mb=>?_;refine qgx ?_;refine HB.qu [3,4,5,6] 3 ?_;refine qjt ?_;refine HB.ev 7 ?_;refine qhk fun vb=>?_;refine qix ?_;refine qeM ?_;exact qbL
  ·refine qhk fun vb=>?_;refine qft ?_;refine HB.ev 0 ?_;refine qic fun mb=>?_;refine qgx ?_;refine HB.qu [3,4,5,6] 2 ?_;refine qjt ?_;exact qbL
end
theorem zav(d:Nat→Int){i:Nat}(h:i<11):(v11 d)[i]? =some (.int .u64 (d i)):=by
 match i,h with
 |0,_=>rfl
 |1,_=>rfl
 |2,_=>rfl
 |3,_=>rfl
 |4,_=>rfl
 |5,_=>rfl
 |6,_=>rfl
 |7,_=>rfl
 |8,_=>rfl
 |9,_=>rfl
 |10,_=>rfl
def maxTo(d:Nat→Int):Nat→Int
 |0=>d 0
 |i+1=>if maxTo d i<d (i+1)then d (i+1)else maxTo d i
theorem maxTo_le(d:Nat→Int)(B:Int):∀n,maxTo d n≤B↔∀i,i≤n→d i≤B
 |0=>⟨fun h i hi=>by rw[show i=0 by omega];exact h,fun h=>h 0 (Nat.le_refl _)⟩
 | n + 1 => by
  have ih:=maxTo_le d B n
  unfold maxTo
  constructor
  ·intro h i hi
   by_cases e:i=n+1
   ·subst e;split at h<;>omega
   ·exact ih.1 (by split at h<;>omega) i jA
  ·intro h
   have h1:=ih.2 fun i hi=>h i jA
   have h2:=h (n+1) (Nat.le_refl _)
   split<;>omega
variable {m:Msg} {mb:Nat}
theorem zau(h:At A (row mb T (m.vals q qc)) A' (row mb T (m.vals q qc))):Rd f A mb (0+2) (v11 m.deps):=by
 have h1:=Rd.ofRow (f:=f) h;have e:m.vals q qc= [.int .i64 m.origin,.int .u64 m.number]++v11 m.deps++(m.body.vals q qc++b32 m.tag):=by unfold Msg.vals;simp only[List.append_assoc]
 exact qbQ
theorem zcc(h:At A (row mb T (m.vals q qc)) A' (row mb T (m.vals q qc))):Rd f A mb (0+13) (m.body.vals q qc):=by
 have h1:=Rd.ofRow (f:=f) h;have e:m.vals q qc=([.int .i64 m.origin,.int .u64 m.number]++v11 m.deps)++m.body.vals q qc++b32 m.tag:=rfl
 exact qbQ
section
variable (f:Frag) (F:List HP)
theorem max_fn{b off:Nat}{d:Nat→Int}(hr:Rd f F b off (v11 d)):
  Fn prog 87 [.slice (some ⟨b,off,none⟩) 11 11] f F (Ret (.int .u64 (maxTo d 10)) f F):=by
 refine Fn.e1 func87 ntmps87 fun base=>?_;refine gY ?_;refine H.Cd (i:=0) rfl rfl rfl rfl jC rfl ?_;refine H.Ad rfl rfl rfl (.of hr (i:=0) rfl) rfl ?_;refine gT ?_;refine H.lo (ι:=Nat) (fun i=>[(4,.int .i64 ((i+1:Nat):Int)),(3,.int .u64 (maxTo d i)),(0,.slice (some ⟨b,off,none⟩) 11 11)]) (fun _=>f) (fun _=>F) (fun i=>i≤10) (fun i=>10-i) 0 (Nat.zero_le _) fun i hi=>?_;have hi:i≤10:=hi;by_cases hlt:i<10
 ·refine gG ?_;refine H.Cd (i:=i+1) rfl rfl rfl rfl jA rfl ?_;refine H.Ad rfl rfl rfl (.of hr (zav d jA)) rfl ?_;refine H.max2 (z:=maxTo d (i+1)) rfl rfl rfl rfl rfl ?_;refine gV ?_;exact H.ag (i+1) (by show i+1≤10;omega) (by show 10-(i+1)<10-i;omega)
 ·have:i=10:=jA
  subst this;refine gY ?_;exact qam
theorem body_none(hcod:getKV codecsM (x.kind.toNat:Int)=none):
  Fn prog 88 [.agg (x.vals q qc).toArray] f F (Ret (.bool false) f F):=by
 refine Fn.e1 func88 ntmps88 fun base=>?_;refine qeR fun xb=>?_;refine gK ?_;have hz:(getKV codecsM (x.kind.toNat:Int)).getD (.agg ([.nilFunc,.nilFunc,.nilFunc]:List Value).toArray)= .agg ([.nilFunc,.nilFunc,.nilFunc]:List Value).toArray:=by rw[hcod];rfl
 have hi:(getKV codecsM (x.kind.toNat:Int)).isSome=false:=by rw[hcod];rfl
 refine H.cut (ι:=Nat) (fun i=>[(1,.pointer (some ⟨xb,0,none⟩)),(3,.pointer (some ⟨i,0,none⟩)),(4,.bool false)]) (fun _=>f) (fun i=>row i 219 [.nilFunc,.nilFunc,.nilFunc]::row xb 52 (x.vals q qc)::F) (fun _=>True) _ (fun i _=>?_) ?_
 ·refine gX ?_;repeat refine H.Ac (.here _ _) ?_
  exact qam
 ·refine qeH ?_;refine HB.qu [1,2] 8 ?_;refine qfu ?_;refine HB.ev2 (i:=0) (j:=7) jD rfl rfl ?_ ?_
  ·refine qic fun mb=>?_;refine qgx ?_;refine HB.qu [3,4,5,6] 3 ?_;refine qjj ?_;refine HB.ev 7 ?_;refine qhk fun vb=>?_;refine qix ?_;refine qeM ?_;exact qbC
  ·refine qhk fun vb=>?_;refine qft ?_;refine HB.ev 0 ?_;refine qic fun mb=>?_;refine qgx ?_;refine HB.qu [3,4,5,6] 2 ?_;refine qjj ?_;exact qbC
def Bod.mayB(x:Bod):Bool:=decide (1≤x.kind.toNat∧x.kind.toNat≤6)&& x.mayP x.kind.toNat
theorem bodyP_fn(hq:QAt f q x.q)(hl:x.q.length≤1000000000):
  Fn prog 88 [.agg (x.vals q qc).toArray] f F (Ret (.bool x.mayB) f F):=by
 unfold Bod.mayB;generalize hk:x.kind.toNat=kind
 match kind,hk with
 |1,hk=>exact body_fn f F 1 hk _ _ _ put1 get1 may1 kF hq hl
 |2,hk=>exact body_fn f F 2 hk _ _ _ put2 get2 may2 kF hq hl
 |3,hk=>exact body_fn f F 3 hk _ _ _ put3 get3 may3 kF hq hl
 |4,hk=>exact body_fn f F 4 hk _ _ _ put4 get4 may4 kF hq hl
 |5,hk=>exact body_fn f F 5 hk _ _ _ put5 get5 may5 kF hq hl
 |6,hk=>exact body_fn f F 6 hk _ _ _ put6 get6 may6 kF hq hl
 | 0, hk =>
  rw[decide_eq_false jA,Bool.false_and];exact body_none f F (by rw[hk];rfl)
 | k + 7, hk =>
  rw[decide_eq_false jA,Bool.false_and];refine body_none f F ?_;rw[hk];refine(getKV_none codecsM _).2 ?_;simp only[codecsM,List.map_cons,List.map_nil,List.mem_cons,List.not_mem_nil,or_false];omega
def Msg.outer(m:Msg):Prop:=1≤m.origin∧m.origin≤11∧1≤m.number∧m.number≤65536∧m.deps (m.origin.toNat-1)=m.number-1∧maxTo m.deps 10≤65536
instance (m:Msg):Decidable m.outer:=by unfold Msg.outer;infer_instance
theorem may_fn(hq:QAt f q m.body.q)(hl:m.body.q.length≤1000000000):
  Fn prog 49 [.agg (m.vals q qc).toArray] f F (Ret (.bool (decide m.outer&& m.body.mayB)) f F):=by
 by_cases h1:1≤m.origin
 ·skip;by_cases h2 : m.origin ≤ 11
  ·skip;by_cases h3:1≤m.number
   ·skip;by_cases h4:m.number≤65536
    ·skip;by_cases h5:m.deps (m.origin.toNat-1)=m.number-1
     ·skip;by_cases h6:maxTo m.deps 10≤65536
      ·skip;try simp only[Bool.not_eq_true]at *
       refine Fn.e1 func49 ntmps49 fun base=>?_;refine qfJ fun mb=>?_;refine qfi ?_;repeat(first|(refine gh ?_)|(refine H.Bw (lo:=none) (hi:=none) (mx:=none) (lv:=0) (hv:=11) (mv:=11) rfl rfl rfl rfl rfl (fun h=>by cases h) jC jC jC rfl ?_)|(refine H.Af rfl rfl rfl (max_fn f _ (off:=0+2) (d:=m.deps) (zau jB)) ?_)|(refine H.Ab (ls:=m.body.vals q qc) rfl rfl rfl (zcc jB) rfl rfl ?_)|(refine H.Af rfl rfl rfl (bodyP_fn f _ hq hl) ?_))
       exact qcD
      ·skip;try simp only[Bool.not_eq_true]at *
       refine Fn.e1 func49 ntmps49 fun base=>?_;refine qfJ fun mb=>?_;refine qfi ?_;repeat(first|(refine gh ?_)|(refine H.Bw (lo:=none) (hi:=none) (mx:=none) (lv:=0) (hv:=11) (mv:=11) rfl rfl rfl rfl rfl (fun h=>by cases h) jC jC jC rfl ?_)|(refine H.Af rfl rfl rfl (max_fn f _ (off:=0+2) (d:=m.deps) (zau jB)) ?_))
       exact qcD
     ·skip;try simp only[Bool.not_eq_true]at *
      refine Fn.e1 func49 ntmps49 fun base=>?_;exact qaR
    ·exact qbo
   ·exact qbo
  ·exact qbo
 ·exact qbo
end
section
variable (f:Frag) (F:List HP)
theorem rpairs_fn{l m:List (Int×Int)}(hp:QAt f p l)(hr:QAt f r m)(hl:l.length≤1000000000):
  Fn prog 59 [.slice p l.length c,.slice r m.length d] f F (Ret (.bool (decide (l=m))) f F):=by
 by_cases hlen:(l.length:Int)=m.length
 ·have hlen':l.length=m.length:=jA
  refine Fn.e2 func59 ntmps59 fun base=>?_;refine gZ ?_;rw[decide_eq_false jA];skip;refine H.lo (ι:=Nat) (fun i=>[(5,.int .i64 (i:Int)),(0,.slice p l.length c),(1,.slice r m.length d)]) (fun _=>f) (fun _=>F) (fun i=>i≤l.length∧l.take i=m.take i) (fun i=>l.length-i) 0 ⟨Nat.zero_le _,rfl⟩ fun i hi=>?_;exact qap
 ·refine Fn.e2 func59 ntmps59 fun base=>?_;exact qcE
theorem rsame_fn{b:Bod}(hp:QAt f p a.q)(hr:QAt f r b.q)(hl:a.q.length≤1000000000):
  Fn prog 30 [.agg (a.vals p c).toArray,.agg (b.vals r d).toArray] f F (Ret (.bool (Bod.eqB a b)) f F):=by
 by_cases h1:(a.kind.toNat:Int)=b.kind.toNat
 ·skip;by_cases h2:a.view=b.view
  ·skip;by_cases h3:a.k=b.k
   ·skip;by_cases h4:eqC a.req.vals b.req.vals=true
    ·skip;by_cases h5:a.q=b.q
     ·skip;try simp only[Bool.not_eq_true]at *
      refine Fn.e2 func30 ntmps30 fun base=>?_;repeat(first|(refine gh ?_)|(refine H.box (ls:=a.vals p c) rfl rfl rfl rfl fun ab=>?_)|(refine H.box (ls:=b.vals r d) rfl rfl rfl rfl fun bb=>?_)|(refine H.Ab (ls:=a.req.vals) rfl rfl rfl (zbt jB) rfl rfl ?_)|(refine H.Ab (ls:=b.req.vals) rfl rfl rfl (zbt jB) rfl rfl ?_)|(refine H.aggEq (xs:=a.req.vals) (ys:=b.req.vals) (D:=4) rfl rfl rfl rfl jD jD jD jD jC rfl rfl ?_)|(refine H.Af rfl rfl rfl (rpairs_fn f _ hp hr hl) ?_)|(refine H.Ab (ls:=bytesV (b32L a.dig)) rfl rfl rfl (row_dig jB) rfl rfl ?_)|(refine H.Ab (ls:=bytesV (b32L b.dig)) rfl rfl rfl (row_dig jB) rfl rfl ?_)|(refine H.aggEq (xs:=bytesV (b32L a.dig)) (ys:=bytesV (b32L b.dig)) (b:=eqC (b32 a.dig) (b32 b.dig)) (D:=4) rfl rfl rfl rfl jD jD jD jD jC rfl rfl ?_))
      exact qaF
     ·skip;try simp only[Bool.not_eq_true]at *
      refine Fn.e2 func30 ntmps30 fun base=>?_;repeat(first|(refine gh ?_)|(refine H.box (ls:=a.vals p c) rfl rfl rfl rfl fun ab=>?_)|(refine H.box (ls:=b.vals r d) rfl rfl rfl rfl fun bb=>?_)|(refine H.Ab (ls:=a.req.vals) rfl rfl rfl (zbt jB) rfl rfl ?_)|(refine H.Ab (ls:=b.req.vals) rfl rfl rfl (zbt jB) rfl rfl ?_)|(refine H.aggEq (xs:=a.req.vals) (ys:=b.req.vals) (D:=4) rfl rfl rfl rfl jD jD jD jD jC rfl rfl ?_)|(refine H.Af rfl rfl rfl (rpairs_fn f _ hp hr hl) ?_))
      exact qaF
    ·skip;try simp only[Bool.not_eq_true]at *
     refine Fn.e2 func30 ntmps30 fun base=>?_;exact qaT
   ·exact qbI
  ·exact qbI
 ·exact qbI
theorem splice_dig(x:Bod):splice (({Bod.zero x.kind with k:=x.k}:Bod).vals none 0) (0+44) (b32 x.dig)=(x.ownK 6).vals none 0:=by
 have e:({Bod.zero x.kind with k:=x.k}:Bod).vals none 0=([.int .u8 (x.kind.toNat:Nat),.int .u64 0,.int .u64 x.k]++Req.zero.vals++ [.slice none 0 0])++b32 noTag:=rfl;have e2:(x.ownK 6).vals none 0=([.int .u8 (x.kind.toNat:Nat),.int .u64 0,.int .u64 x.k]++Req.zero.vals++ [.slice none 0 0])++b32 x.dig:=rfl
 rw[e,e2];generalize hp:([.int .u8 (x.kind.toNat:Nat),.int .u64 0,.int .u64 x.k]++Req.zero.vals++ [.slice none 0 0]:List Value)=p;have hl:p.length=44:=by rw[←hp];rfl
 exact qck
theorem own_fn1(hk:x.kind.toNat=1):Fn prog 97 [.agg (x.vals q qc).toArray] f F (Ret (.agg ((x.ownK 1).vals none 0).toArray) f F):=by
 refine qhY fun base=>?_;repeat(first|(refine gh ?_)|(refine H.box (ls:=x.vals q qc) rfl rfl rfl rfl fun xb=>?_)|(refine H.Aj (ls:=(Bod.zero 0).vals none 0) rfl rfl rfl fun _=>?_)|(refine H.Ag (ls:=(Bod.zero 0).vals none 0) (vs:=(Bod.zero x.kind).vals none 0) (ls':=(Bod.zero x.kind).vals none 0) rfl rfl rfl (zaa rfl) rfl rfl (Nat.le_refl 76) jB ?_)|(refine H.Ab (ls:=x.req.vals) rfl rfl rfl (zbt jB) rfl rfl ?_)|(refine H.Ag (ls:=({Bod.zero x.kind with view:=x.view}:Bod).vals none 0) (vs:=x.req.vals) (ls':=(x.ownK 1).vals none 0) rfl rfl rfl (zaa rfl) rfl rfl (show 3+40≤76 by decide) jB ?_))
 refine H.Ab (ls:=(x.ownK 1).vals none 0) rfl rfl rfl (Rd.ofRow jB) rfl rfl ?_;refine H.Ag (ls:=(Bod.zero 0).vals none 0) (vs:=(x.ownK 1).vals none 0) (ls':=(x.ownK 1).vals none 0) rfl rfl rfl (zaa rfl) rfl rfl (Nat.le_refl 76) jB ?_;exact qaU
theorem own_fn2(hk:x.kind.toNat=2):Fn prog 97 [.agg (x.vals q qc).toArray] f F (Ret (.agg ((x.ownK 2).vals none 0).toArray) f F):=by
 refine qhY fun base=>?_;repeat(first|(refine gh ?_)|(refine H.box (ls:=x.vals q qc) rfl rfl rfl rfl fun xb=>?_)|(refine H.Aj (ls:=(Bod.zero 0).vals none 0) rfl rfl rfl fun _=>?_)|(refine H.Ag (ls:=(Bod.zero 0).vals none 0) (vs:=(Bod.zero x.kind).vals none 0) (ls':=(Bod.zero x.kind).vals none 0) rfl rfl rfl (zaa rfl) rfl rfl (Nat.le_refl 76) jB ?_))
 refine H.Ab (ls:=(x.ownK 2).vals none 0) rfl rfl rfl (Rd.ofRow jB) rfl rfl ?_;refine H.Ag (ls:=(Bod.zero 0).vals none 0) (vs:=(x.ownK 2).vals none 0) (ls':=(x.ownK 2).vals none 0) rfl rfl rfl (zaa rfl) rfl rfl (Nat.le_refl 76) jB ?_;exact qaU
theorem own_fn3(hk:x.kind.toNat=3):Fn prog 97 [.agg (x.vals q qc).toArray] f F (Ret (.agg ((x.ownK 3).vals none 0).toArray) f F):=by
 refine qhY fun base=>?_;repeat(first|(refine gh ?_)|(refine H.box (ls:=x.vals q qc) rfl rfl rfl rfl fun xb=>?_)|(refine H.Aj (ls:=(Bod.zero 0).vals none 0) rfl rfl rfl fun _=>?_)|(refine H.Ag (ls:=(Bod.zero 0).vals none 0) (vs:=(Bod.zero x.kind).vals none 0) (ls':=(Bod.zero x.kind).vals none 0) rfl rfl rfl (zaa rfl) rfl rfl (Nat.le_refl 76) jB ?_))
 refine H.Ab (ls:=(x.ownK 3).vals none 0) rfl rfl rfl (Rd.ofRow jB) rfl rfl ?_;refine H.Ag (ls:=(Bod.zero 0).vals none 0) (vs:=(x.ownK 3).vals none 0) (ls':=(x.ownK 3).vals none 0) rfl rfl rfl (zaa rfl) rfl rfl (Nat.le_refl 76) jB ?_;exact qaU
theorem own_fn4(hk:x.kind.toNat=4):Fn prog 97 [.agg (x.vals q qc).toArray] f F (Ret (.agg ((x.ownK 4).vals q qc).toArray) f F):=by
 refine qhY fun base=>?_;repeat(first|(refine gh ?_)|(refine H.box (ls:=x.vals q qc) rfl rfl rfl rfl fun xb=>?_)|(refine H.Aj (ls:=(Bod.zero 0).vals none 0) rfl rfl rfl fun _=>?_)|(refine H.Ag (ls:=(Bod.zero 0).vals none 0) (vs:=(Bod.zero x.kind).vals none 0) (ls':=(Bod.zero x.kind).vals none 0) rfl rfl rfl (zaa rfl) rfl rfl (Nat.le_refl 76) jB ?_))
 refine H.Ab (ls:=(x.ownK 4).vals q qc) rfl rfl rfl (Rd.ofRow jB) rfl rfl ?_;refine H.Ag (ls:=(Bod.zero 0).vals none 0) (vs:=(x.ownK 4).vals q qc) (ls':=(x.ownK 4).vals q qc) rfl rfl rfl (zaa rfl) rfl rfl (Nat.le_refl 76) jB ?_;exact qaU
theorem own_fn5(hk:x.kind.toNat=5):Fn prog 97 [.agg (x.vals q qc).toArray] f F (Ret (.agg ((x.ownK 5).vals none 0).toArray) f F):=by
 refine qhY fun base=>?_;repeat(first|(refine gh ?_)|(refine H.box (ls:=x.vals q qc) rfl rfl rfl rfl fun xb=>?_)|(refine H.Aj (ls:=(Bod.zero 0).vals none 0) rfl rfl rfl fun _=>?_)|(refine H.Ag (ls:=(Bod.zero 0).vals none 0) (vs:=(Bod.zero x.kind).vals none 0) (ls':=(Bod.zero x.kind).vals none 0) rfl rfl rfl (zaa rfl) rfl rfl (Nat.le_refl 76) jB ?_))
 refine H.Ab (ls:=(x.ownK 5).vals none 0) rfl rfl rfl (Rd.ofRow jB) rfl rfl ?_;refine H.Ag (ls:=(Bod.zero 0).vals none 0) (vs:=(x.ownK 5).vals none 0) (ls':=(x.ownK 5).vals none 0) rfl rfl rfl (zaa rfl) rfl rfl (Nat.le_refl 76) jB ?_;exact qaU
theorem own_fn6(hk:x.kind.toNat=6):Fn prog 97 [.agg (x.vals q qc).toArray] f F (Ret (.agg ((x.ownK 6).vals none 0).toArray) f F):=by
 refine qhY fun base=>?_;repeat(first|(refine gh ?_)|(refine H.box (ls:=x.vals q qc) rfl rfl rfl rfl fun xb=>?_)|(refine H.Aj (ls:=(Bod.zero 0).vals none 0) rfl rfl rfl fun _=>?_)|(refine H.Ag (ls:=(Bod.zero 0).vals none 0) (vs:=(Bod.zero x.kind).vals none 0) (ls':=(Bod.zero x.kind).vals none 0) rfl rfl rfl (zaa rfl) rfl rfl (Nat.le_refl 76) jB ?_)|(refine H.Ab (ls:=b32 x.dig) rfl rfl rfl (row_dig jB) rfl rfl ?_)|(refine H.Ag (ls:=({Bod.zero x.kind with k:=x.k}:Bod).vals none 0) (vs:=b32 x.dig) (ls':=(x.ownK 6).vals none 0) rfl rfl rfl (zai (b32L x.dig)) rfl (splice_dig x) (show 44+32≤76 by decide) jB ?_))
 refine H.Ab (ls:=(x.ownK 6).vals none 0) rfl rfl rfl (Rd.ofRow jB) rfl rfl ?_;refine H.Ag (ls:=(Bod.zero 0).vals none 0) (vs:=(x.ownK 6).vals none 0) (ls':=(x.ownK 6).vals none 0) rfl rfl rfl (zaa rfl) rfl rfl (Nat.le_refl 76) jB ?_;exact qaU
theorem own_fn0(hk:x.kind.toNat=0∨7≤x.kind.toNat):Fn prog 97 [.agg (x.vals q qc).toArray] f F (Ret (.agg ((x.ownK 7).vals none 0).toArray) f F):=by
 refine qhY fun base=>?_;repeat(first|(refine gh ?_)|(refine H.box (ls:=x.vals q qc) rfl rfl rfl rfl fun xb=>?_)|(refine H.Aj (ls:=(Bod.zero 0).vals none 0) rfl rfl rfl fun _=>?_)|(refine H.Ag (ls:=(Bod.zero 0).vals none 0) (vs:=(Bod.zero x.kind).vals none 0) (ls':=(Bod.zero x.kind).vals none 0) rfl rfl rfl (zaa rfl) rfl rfl (Nat.le_refl 76) jB ?_))
 refine H.Ab (ls:=(x.ownK 7).vals none 0) rfl rfl rfl (Rd.ofRow jB) rfl rfl ?_;refine H.Ag (ls:=(Bod.zero 0).vals none 0) (vs:=(x.ownK 7).vals none 0) (ls':=(x.ownK 7).vals none 0) rfl rfl rfl (zaa rfl) rfl rfl (Nat.le_refl 76) jB ?_;exact qaU
theorem own_fn(hq:QAt f q x.q):Fn prog 97 [.agg (x.vals q qc).toArray] f F
  (RetP (fun i:Option Addr×Nat=>QAt f i.1 x.own.q) (fun i=>.agg (x.own.vals i.1 i.2).toArray) f (fun _=>F)):=by
 have fin:∀(k:Nat) (q':Option Addr) (qc':Nat),x.own=x.ownK k→QAt f q' (x.ownK k).q→Fn prog 97 [.agg (x.vals q qc).toArray] f F (Ret (.agg ((x.ownK k).vals q' qc').toArray) f F)→
   Fn prog 97 [.agg (x.vals q qc).toArray] f F (RetP (fun i:Option Addr×Nat=>QAt f i.1 x.own.q) (fun i=>.agg (x.own.vals i.1 i.2).toArray) f (fun _=>F)):=fun k q' qc' e hq' h=>
  h.mono fun v f' A' hr=>by
   obtain⟨rfl,rfl,rfl⟩:=hr
   exact⟨(q',qc'),by rw[e];exact hq',by rw[e],rfl,rfl⟩
 generalize hk:x.kind.toNat=kind
 match kind,hk with
 |1,hk=>exact fin 1 none 0 jd (QAt.nil _ _) (own_fn1 f F hk)
 |2,hk=>exact fin 2 none 0 jd (QAt.nil _ _) (own_fn2 f F hk)
 |3,hk=>exact fin 3 none 0 jd (QAt.nil _ _) (own_fn3 f F hk)
 |4,hk=>exact fin 4 q qc jd hq (own_fn4 f F hk)
 |5,hk=>exact fin 5 none 0 jd (QAt.nil _ _) (own_fn5 f F hk)
 |6,hk=>exact fin 6 none 0 jd (QAt.nil _ _) (own_fn6 f F hk)
 |0,hk=>exact fin 7 none 0 (by unfold Bod.own;rw[hk];rfl) (QAt.nil _ _) (own_fn0 f F (.inl hk))
 |k+7,hk=>exact fin 7 none 0 (by unfold Bod.own;rw[hk];rfl) (QAt.nil _ _) (own_fn0 f F (.inr jA))
end
section
variable (f:Frag) (F:List HP)
theorem rasked_fn(r:Req):Fn prog 31 [.agg r.vals.toArray] f F (Ret (.bool (decide r.asked)) f F):=by
 by_cases h1:1≤r.client
 ·by_cases h2 : r.client ≤ 8
  ·by_cases h3 : 1 ≤ r.time
   ·by_cases h4 : r.time ≤ 4611686018427387904
    ·by_cases h5 : r.key.size ≤ 32
     ·by_cases h6 : r.to.size ≤ 32
      ·by_cases h7:r.val.size≤128
       ·skip;refine Fn.e1 func31 ntmps31 fun base=>?_;repeat(first|(refine gh ?_)|(refine H.box (ls:=r.vals) rfl rfl rfl rfl fun xb=>?_))
        refine qeJ ?_;refine H.Ae rfl rfl (fun _ h=>h) ⟨?_,rfl,rfl⟩;congr 1;apply decide_eq_decide.2;unfold Req.asked;omega
       ·exact qal
      ·exact qal
     ·exact qal
    ·exact qal
   ·exact qal
  ·exact qal
 ·exact qal
def wq(q:List (Int×Int)):Nat→Int
 |0=>0
 |j+1=>(q.getD j (0,0)).1
theorem quo_loop(i:Nat)(hi:i<x.q.length)(w:Int):quo w (x.q.drop i)=if x.q[i].1≤w∨11<x.q[i].1∨x.q[i].2<1∨65536<x.q[i].2 then false else quo x.q[i].1 (x.q.drop (i+1)):=by
 rw[List.drop_eq_getElem_cons hi];rfl
theorem rbody4_fn (hq : QAt f q x.q) (hl : x.q.length ≤ 1000000000) (hk : x.kind.toNat = 4) (hs : Bod.eqB x.own x = true) (hv : x.view < 1073741824) :
    Fn prog 56 [.agg (x.vals q qc).toArray] f F (Ret (.bool x.may) f F):=by
  unfold Bod.may;rw[hk];refine Fn.e1 func56 ntmps56 fun base=>?_;refine qeR fun xb=>?_;refine qgd fun i hqo=>?_;refine qed ?_;refine HB.ev 3 ?_
  have hlo:x.own.q.length≤1000000000:=by
    have:x.own.q=x.q∨x.own.q= []:=by
      unfold Bod.own
      match x.kind.toNat with
      |0=>exact .inr rfl
      |1=>exact .inr rfl
      |2=>exact .inr rfl
      |3=>exact .inr rfl
      |4=>exact .inl rfl
      |5=>exact .inr rfl
      |6=>exact .inr rfl
      |k+7=>exact .inr rfl
    rcases this with h|h<;>rw[h]
    · exact hl
    · exact Nat.zero_le _
  refine H.Af rfl rfl rfl (rsame_fn f _ hqo hq hlo) ?_;refine qed ?_;refine HB.qu [4,5,6,7,8,9] 0 ?_;have hn:(!true)=false:=rfl;rw[hs,decide_eq_true hv,Bool.true_and,Bool.true_and]
  refine gW ?_;refine qew ?_;refine gO ?_;refine H.lo (ι:=Nat) (fun i=>[(3,.int .i64 (i:Int)),(1,.pointer (some ⟨xb,0,none⟩))]) (fun _=>f) (fun _=>row xb 52 (x.vals q qc)::F) (fun i=>i≤x.q.length∧quo 0 x.q=quo (wq x.q i) (x.q.drop i)∧(0<i→1≤wq x.q i)) (fun i=>x.q.length-i) 0 ⟨Nat.zero_le _,rfl,fun h=>absurd h (Nat.lt_irrefl _)⟩ fun i hi=>?_;obtain⟨hi,hw,hwp⟩:i≤x.q.length∧quo 0 x.q=quo (wq x.q i) (x.q.drop i)∧(0<i→1≤wq x.q i):=hi;by_cases hlt:i<x.q.length
  · have hx : x.q[i]? = some x.q[i] := List.getElem?_eq_getElem hlt
    have hquo:=quo_loop i hlt (wq x.q i)
    have hwz:wq x.q (i+1)=x.q[i].1:=by show(x.q.getD i (0,0)).1=_;rw[List.getD_eq_getElem?_getD,hx];rfl
    generalize x.q[i]=z at hx hquo hwz
    obtain⟨b,off,cs,T,fr,hqb,hfb,hcs⟩:=hq i z hx
    have hq':=hq
    subst hqb
    have rd:∀A,Rd f A b (off+i*2) (pairV z):=fun A=>Rd.imm hfb hcs
    refine gN ?_
    refine H.Ak rfl rfl rfl rfl hlt rfl ?_
    refine H.Ab (ls:=pairV z) rfl rfl rfl (rd _) rfl rfl ?_
    refine H.Aj rfl rfl rfl fun pb=>?_
    refine H.Ag (ls:=[.int .i64 0,.int .u64 0]) (vs:=pairV z) (ls':=pairV z) rfl rfl rfl (zaa rfl) rfl rfl (Nat.le_refl 2) jB ?_
    refine gA ?_
    refine H.dq ?_
    by_cases hi0:i=0
    · have hw0 : wq x.q i = 0 := by rw [hi0]; rfl
      rw[hw0]at hquo hw
      have j:Nat:=0
      have rd2:=rd
      by_cases h1:1≤z.1
      · skip
        by_cases h2:z.1≤11
        · skip
          by_cases h4:1≤z.2
          · skip
            by_cases h5:z.2≤65536
            · skip
              refine gP ?_
              refine gZ ?_
              refine H.Ac (.here _ _) ?_
              first
                |exact H.ag (i+1) ⟨by show i+1≤x.q.length;omega,by show quo 0 x.q=_;rw[hw,hquo,if_neg jA,←hwz],by show 0<i+1→1≤wq x.q (i+1);rw[hwz];omega⟩ jI
                | (refine H.Ac (.here _ _) ?_
                   refine H.Ae rfl rfl (fun _ h=>h) ⟨?_,rfl,rfl⟩
                   rw[show x.mayK 4=(decide (1≤x.view)&& (quo 0 x.q&& decide (0<x.q.length)))from rfl,hw,hquo,if_pos jA]
                   simp)
            · skip
              refine gP ?_
              refine gG ?_
              refine H.Ac (.here _ _) ?_
              first
                |exact H.ag (i+1) ⟨by show i+1≤x.q.length;omega,by show quo 0 x.q=_;rw[hw,hquo,if_neg jA,←hwz],by show 0<i+1→1≤wq x.q (i+1);rw[hwz];omega⟩ jI
                | (refine H.Ac (.here _ _) ?_
                   refine H.Ae rfl rfl (fun _ h=>h) ⟨?_,rfl,rfl⟩
                   rw[show x.mayK 4=(decide (1≤x.view)&& (quo 0 x.q&& decide (0<x.q.length)))from rfl,hw,hquo,if_pos jA]
                   simp)
          · skip
            refine gP ?_
            refine gD ?_
            refine H.Ac (.here _ _) ?_
            first
              |exact H.ag (i+1) ⟨by show i+1≤x.q.length;omega,by show quo 0 x.q=_;rw[hw,hquo,if_neg jA,←hwz],by show 0<i+1→1≤wq x.q (i+1);rw[hwz];omega⟩ jI
              | (refine H.Ac (.here _ _) ?_
                 refine H.Ae rfl rfl (fun _ h=>h) ⟨?_,rfl,rfl⟩
                 rw[show x.mayK 4=(decide (1≤x.view)&& (quo 0 x.q&& decide (0<x.q.length)))from rfl,hw,hquo,if_pos jA]
                 simp)
        · skip
          refine gP ?_
          refine gD ?_
          refine H.Ac (.here _ _) ?_
          first
            |exact H.ag (i+1) ⟨by show i+1≤x.q.length;omega,by show quo 0 x.q=_;rw[hw,hquo,if_neg jA,←hwz],by show 0<i+1→1≤wq x.q (i+1);rw[hwz];omega⟩ jI
            | (refine H.Ac (.here _ _) ?_
               refine H.Ae rfl rfl (fun _ h=>h) ⟨?_,rfl,rfl⟩
               rw[show x.mayK 4=(decide (1≤x.view)&& (quo 0 x.q&& decide (0<x.q.length)))from rfl,hw,hquo,if_pos jA]
               simp)
      · skip
        refine gP ?_
        refine gD ?_
        refine H.Ac (.here _ _) ?_
        first
          |exact H.ag (i+1) ⟨by show i+1≤x.q.length;omega,by show quo 0 x.q=_;rw[hw,hquo,if_neg jA,←hwz],by show 0<i+1→1≤wq x.q (i+1);rw[hwz];omega⟩ jI
          | (refine H.Ac (.here _ _) ?_
             refine H.Ae rfl rfl (fun _ h=>h) ⟨?_,rfl,rfl⟩
             rw[show x.mayK 4=(decide (1≤x.view)&& (quo 0 x.q&& decide (0<x.q.length)))from rfl,hw,hquo,if_pos jA]
             simp)
    · obtain ⟨j, hj⟩ : ∃ j, i = j + 1 := ⟨i - 1, by omega⟩
      obtain⟨y,hy⟩:∃y,x.q[j]? =some y:=⟨x.q[j]' jA,List.getElem?_eq_getElem jA⟩
      have hwj0:wq x.q (j+1)=y.1:=by show(x.q.getD j (0,0)).1=_;rw[List.getD_eq_getElem?_getD,hy];rfl
      have hwj:wq x.q i=y.1:=by rw[←hwj0,hj]
      have hwp:=hwp jA
      rw[hwj]at hquo hwp hw
      obtain⟨b2,off2,cs2,T2,fr2,hqb2,hfb2,hcs2⟩:=hq j y hy
      have rd2:∀A,Rd f A b2 (off2+j*2) (pairV y):=fun A=>Rd.imm hfb2 hcs2
      cases hqb2
      by_cases h1:1≤z.1
      · skip
        by_cases h2:z.1≤11
        · skip
          by_cases h3:y.1<z.1
          · skip
            by_cases h4:1≤z.2
            · skip
              by_cases h5:z.2≤65536
              · skip
                repeat(first|(refine gi ?_)|(refine HQ.Ak (i:=j) rfl rfl rfl jA jA rfl ?_)|(refine HQ.Ad rfl rfl rfl (.of (rd2 _) (i:=0) rfl) rfl ?_))
                refine gZ ?_
                refine H.Ac (.here _ _) ?_
                first
                  |exact H.ag (i+1) ⟨by show i+1≤x.q.length;omega,by show quo 0 x.q=_;rw[hw,hquo,if_neg jA,←hwz],by show 0<i+1→1≤wq x.q (i+1);rw[hwz];omega⟩ jI
                  | (refine H.Ac (.here _ _) ?_
                     refine H.Ae rfl rfl (fun _ h=>h) ⟨?_,rfl,rfl⟩
                     rw[show x.mayK 4=(decide (1≤x.view)&& (quo 0 x.q&& decide (0<x.q.length)))from rfl,hw,hquo,if_pos jA]
                     simp)
              · skip
                repeat(first|(refine gi ?_)|(refine HQ.Ak (i:=j) rfl rfl rfl jA jA rfl ?_)|(refine HQ.Ad rfl rfl rfl (.of (rd2 _) (i:=0) rfl) rfl ?_))
                refine gG ?_
                refine H.Ac (.here _ _) ?_
                first
                  |exact H.ag (i+1) ⟨by show i+1≤x.q.length;omega,by show quo 0 x.q=_;rw[hw,hquo,if_neg jA,←hwz],by show 0<i+1→1≤wq x.q (i+1);rw[hwz];omega⟩ jI
                  | (refine H.Ac (.here _ _) ?_
                     refine H.Ae rfl rfl (fun _ h=>h) ⟨?_,rfl,rfl⟩
                     rw[show x.mayK 4=(decide (1≤x.view)&& (quo 0 x.q&& decide (0<x.q.length)))from rfl,hw,hquo,if_pos jA]
                     simp)
            · skip
              repeat(first|(refine gi ?_)|(refine HQ.Ak (i:=j) rfl rfl rfl jA jA rfl ?_)|(refine HQ.Ad rfl rfl rfl (.of (rd2 _) (i:=0) rfl) rfl ?_))
              refine gD ?_
              refine H.Ac (.here _ _) ?_
              first
                |exact H.ag (i+1) ⟨by show i+1≤x.q.length;omega,by show quo 0 x.q=_;rw[hw,hquo,if_neg jA,←hwz],by show 0<i+1→1≤wq x.q (i+1);rw[hwz];omega⟩ jI
                | (refine H.Ac (.here _ _) ?_
                   refine H.Ae rfl rfl (fun _ h=>h) ⟨?_,rfl,rfl⟩
                   rw[show x.mayK 4=(decide (1≤x.view)&& (quo 0 x.q&& decide (0<x.q.length)))from rfl,hw,hquo,if_pos jA]
                   simp)
          · skip
            repeat(first|(refine gi ?_)|(refine HQ.Ak (i:=j) rfl rfl rfl jA jA rfl ?_)|(refine HQ.Ad rfl rfl rfl (.of (rd2 _) (i:=0) rfl) rfl ?_))
            refine gD ?_
            refine H.Ac (.here _ _) ?_
            first
              |exact H.ag (i+1) ⟨by show i+1≤x.q.length;omega,by show quo 0 x.q=_;rw[hw,hquo,if_neg jA,←hwz],by show 0<i+1→1≤wq x.q (i+1);rw[hwz];omega⟩ jI
              | (refine H.Ac (.here _ _) ?_
                 refine H.Ae rfl rfl (fun _ h=>h) ⟨?_,rfl,rfl⟩
                 rw[show x.mayK 4=(decide (1≤x.view)&& (quo 0 x.q&& decide (0<x.q.length)))from rfl,hw,hquo,if_pos jA]
                 simp)
        · skip
          refine gP ?_
          refine gD ?_
          refine H.Ac (.here _ _) ?_
          first
            |exact H.ag (i+1) ⟨by show i+1≤x.q.length;omega,by show quo 0 x.q=_;rw[hw,hquo,if_neg jA,←hwz],by show 0<i+1→1≤wq x.q (i+1);rw[hwz];omega⟩ jI
            | (refine H.Ac (.here _ _) ?_
               refine H.Ae rfl rfl (fun _ h=>h) ⟨?_,rfl,rfl⟩
               rw[show x.mayK 4=(decide (1≤x.view)&& (quo 0 x.q&& decide (0<x.q.length)))from rfl,hw,hquo,if_pos jA]
               simp)
      · skip
        refine gP ?_
        refine gD ?_
        refine H.Ac (.here _ _) ?_
        first
          |exact H.ag (i+1) ⟨by show i+1≤x.q.length;omega,by show quo 0 x.q=_;rw[hw,hquo,if_neg jA,←hwz],by show 0<i+1→1≤wq x.q (i+1);rw[hwz];omega⟩ jI
          | (refine H.Ac (.here _ _) ?_
             refine H.Ae rfl rfl (fun _ h=>h) ⟨?_,rfl,rfl⟩
             rw[show x.mayK 4=(decide (1≤x.view)&& (quo 0 x.q&& decide (0<x.q.length)))from rfl,hw,hquo,if_pos jA]
             simp)
  · have hiq : i = x.q.length := by omega
    subst hiq
    rw[List.drop_length]at hw
    by_cases h1:1≤x.view
    · skip
      refine gJ ?_
      refine H.Ac (.here _ _) ?_
      refine H.Ae rfl rfl (fun _ h=>h) ⟨?_,rfl,rfl⟩
      rw[show x.mayK 4=(decide (1≤x.view)&& (quo 0 x.q&& decide (0<x.q.length)))from rfl,hw,decide_eq_true h1]
      simp[quo]
      omega
    · skip
      refine gU ?_
      refine H.Ac (.here _ _) ?_
      refine H.Ae rfl rfl (fun _ h=>h) ⟨?_,rfl,rfl⟩
      rw[show x.mayK 4=(decide (1≤x.view)&& (quo 0 x.q&& decide (0<x.q.length)))from rfl,decide_eq_false h1]
      rfl
theorem rbody0_fn(hq:QAt f q x.q)(hl:x.q.length≤1000000000)(h4:¬(x.kind.toNat=4∧Bod.eqB x.own x=true∧x.view<1073741824)):
  Fn prog 56 [.agg (x.vals q qc).toArray] f F (Ret (.bool x.may) f F):=by
 unfold Bod.may;refine Fn.e1 func56 ntmps56 fun base=>?_;refine qeR fun xb=>?_;refine qgd fun i hqo=>?_;refine qed ?_;refine HB.ev 3 ?_
 have hlo:x.own.q.length≤1000000000:=by
  have:x.own.q=x.q∨x.own.q= []:=by
   unfold Bod.own
   match x.kind.toNat with
   |0=>exact .inr rfl
   |1=>exact .inr rfl
   |2=>exact .inr rfl
   |3=>exact .inr rfl
   |4=>exact .inl rfl
   |5=>exact .inr rfl
   |6=>exact .inr rfl
   |k+7=>exact .inr rfl
  rcases this with h|h<;>rw[h]
  ·exact hl
  ·exact Nat.zero_le _
 refine H.Af rfl rfl rfl (rsame_fn f _ hqo hq hlo) ?_;refine qed ?_;refine HB.qu [4,5,6,7,8,9] 0 ?_;generalize hs:Bod.eqB x.own x=sm
 cases sm with
 | false =>
  have hn:(!false)=true:=rfl;refine qfh ?_
  refine gD ?_;exact qaK
 | true =>
  have hn:(!true)=false:=rfl;by_cases hv:x.view<1073741824
  ·rw[decide_eq_true hv,Bool.true_and,Bool.true_and];refine gW ?_;refine qew ?_;generalize hk:x.kind.toNat=kind
   match kind,hk with
   | 0, hk =>
    refine gN ?_;exact qaB
   | 1, hk =>
    repeat(first|(refine gh ?_)|(refine H.Ab (ls:=x.req.vals) rfl rfl rfl (zbt jB) rfl rfl ?_)|(refine H.Af rfl rfl rfl (rasked_fn f _ x.req) ?_))
    exact qaB
   | 2, hk =>
    exact qcA
   | 3, hk =>
    refine gO ?_;exact qaB
   | 5, hk =>
    refine gO ?_;exact qaB
   | 6, hk =>
    exact qcA
   | k + 7, hk =>
    refine gN ?_;exact qaB
   |4,hk=>exact absurd ⟨hk,hs,hv⟩ h4
  ·rw[decide_eq_false hv];refine gW ?_;refine qew ?_;refine gG ?_;exact qaK
theorem rbody_fn(hq:QAt f q x.q)(hl:x.q.length≤1000000000):
  Fn prog 56 [.agg (x.vals q qc).toArray] f F (Ret (.bool x.may) f F):=by
 by_cases h4:x.kind.toNat=4∧Bod.eqB x.own x=true∧x.view<1073741824
 ·exact rbody4_fn f F hq hl h4.1 h4.2.1 h4.2.2
 ·exact rbody0_fn f F hq hl h4
end
section
variable (f:Frag) (F:List HP)
theorem rmay_fn(hq:QAt f q m.body.q)(hl:m.body.q.length≤1000000000):
  Fn prog 27 [.agg (m.vals q qc).toArray] f F (Ret (.bool (decide m.outer&& m.body.may)) f F):=by
 by_cases h1:1≤m.origin
 ·by_cases h2 : m.origin ≤ 11
  ·by_cases h3 : 1 ≤ m.number
   ·by_cases h4 : m.number ≤ 65536
    ·by_cases h5 : m.deps (m.origin.toNat - 1) = m.number - 1
     ·skip;refine Fn.e1 func27 ntmps27 fun base=>?_;refine qfJ fun mb=>?_;refine qfi ?_;refine gZ ?_;refine H.lo (ι:=Nat) (fun i=>[(3,.int .i64 (i:Int)),(1,.pointer (some ⟨mb,0,none⟩))]) (fun _=>f) (fun _=>row mb 54 (m.vals q qc)::F) (fun i=>i≤11∧∀j,j<i→m.deps j≤65536) (fun i=>11-i) 0 ⟨Nat.zero_le _,fun j hj=>absurd hj (Nat.not_lt_zero j)⟩ fun i hi=>?_;obtain⟨hi,hle⟩:i≤11∧∀j,j<i→m.deps j≤65536:=hi;by_cases hlt:i<11
      ·refine qhE ?_;by_cases h6:m.deps i≤65536
       ·refine gZ ?_
        exact H.Av (i+1) ⟨by show i+1≤11;omega,fun j hj=>by
         by_cases e:j=i
         ·rw[e];exact h6
         ·exact hle j (by have:j<i+1:=hj;omega)⟩ jV ⟨rfl,rfl,trivial⟩ rfl rfl
       ·refine gG ?_;refine qeJ ?_;refine H.Ae rfl rfl (fun _ h=>h) ⟨?_,rfl,rfl⟩;rw[decide_eq_false (fun h=>h6 ((maxTo_le m.deps 65536 10).1 h.2.2.2.2.2 i jA))];rfl
      ·have hi11:i=11:=jA
       subst hi11;have h7:m.outer:=⟨h1,h2,h3,h4,h5,(maxTo_le m.deps 65536 10).2 fun j hj=>hle j jA⟩;rw[decide_eq_true h7,Bool.true_and]
       refine qkC ?_;refine H.Af rfl rfl rfl (rbody_fn f _ hq hl) ?_;refine gT ?_;exact qaK
     ·skip;refine Fn.e1 func27 ntmps27 fun base=>?_;exact qaR
    ·exact qbN
   ·exact qbN
  ·exact qbN
 ·exact qbN
end
def depsB(d:Nat→Int):Nat→List UInt8
 |0=>[]
 |i+1=>depsB d i++be 8 (d i)
theorem depsB_len(d:Nat→Int):∀n,(depsB d n).length=8*n
 |0=>rfl
 |n+1=>by simp only[depsB,List.length_append,be_len,depsB_len d n];omega
def Msg.tagged(m:Msg):List UInt8:=[b8 m.origin]++depsB m.deps 11++ [m.body.kind]++m.body.put
def Msg.may(m:Msg):Bool:=decide m.outer&& m.body.may
def Msg.bytes(m:Msg):List UInt8:=if m.may=true then m.tagged else []
theorem H.asSlc{b k:Nat}{ls:List Value}(hl:ls.length=k*sz)(hk:k≤9223372036854775807)
  (h:H P base n L f (slc (some ⟨b,0,none⟩) k k T sz ls::A) K):H P base n L f (row b T ls::A) K:=
 H.imp (A':=slc (some ⟨b,0,none⟩) k k T sz ls::A) (fun x ⟨m1,m2,d,e,a,r⟩=>⟨m1,m2,d,e,row_slc hl hk a,r⟩) h
theorem b8_small{z:Int}(h:0≤z∧z<256):((b8 z).toNat:Int)=z:=by
 unfold b8;exact qcI
theorem quo_len:∀(q:List (Int×Int)) (w:Int),w≤11→quo w q=true→(q.length:Int)≤11-w
 | [],w,hw,_=>by simp;omega
 | p :: r, w, hw, h => by
  unfold quo at h
  split at h
  ·cases h
  ·have ih:=quo_len r p.1 jA h
   rw[List.length_cons];omega
theorem Bod.may_spec(h:x.may=true):Bod.eqB x.own x=true∧x.view<1073741824∧x.mayK x.kind.toNat=true:=by
 unfold Bod.may at h;simp only[Bool.and_eq_true,decide_eq_true_eq]at h;exact⟨h.1.1,h.1.2,h.2⟩
theorem Bod.eqB_q{b:Bod}(h:Bod.eqB a b=true):a.q=b.q:=by
 unfold Bod.eqB at h;simp only[Bool.and_eq_true,decide_eq_true_eq]at h;exact h.1.2
theorem Bod.may_q(h:x.may=true):x.q.length≤11:=by
 obtain⟨h1,h2,h3⟩:=Bod.may_spec h;have h4:=Bod.eqB_q h1;unfold Bod.own at h4
 generalize hk:x.kind.toNat=k at h3 h4
 match k,h3,h4 with
 |0,h3,_=>exact absurd h3 jU
 |1,_,h4=>have h4:[]=x.q:=h4;rw[←h4];exact Nat.zero_le _
 |2,_,h4=>have h4:[]=x.q:=h4;rw[←h4];exact Nat.zero_le _
 |3,_,h4=>have h4:[]=x.q:=h4;rw[←h4];exact Nat.zero_le _
 |5,_,h4=>have h4:[]=x.q:=h4;rw[←h4];exact Nat.zero_le _
 |6,_,h4=>have h4:[]=x.q:=h4;rw[←h4];exact Nat.zero_le _
 |k+7,h3,_=>exact absurd h3 jU
 | 4, h3, _ =>
  simp only[Bod.mayK,Bool.and_eq_true,decide_eq_true_eq]at h3
  have:=quo_len x.q 0 jA h3.2.1;omega
theorem Msg.may_body(h:m.may=true):m.body.may=true:=by
 unfold Msg.may at h;simp only[Bool.and_eq_true]at h;exact h.2
section
variable (f:Frag) (F:List HP)
theorem rbytes_fn(hq:QAt f q m.body.q)(hl:m.body.q.length≤1000000000):
  Fn prog 29 [.agg (m.vals q qc).toArray] f F (BytesR m.bytes f F):=by
 have hmay:=fun G=>rmay_fn (m:=m) (qc:=qc) f G hq hl;unfold Msg.bytes
 have e0:m.may=(decide m.outer&& m.body.may):=rfl;rw[←e0]at hmay
 by_cases hm:m.may=true
 ·rw [if_pos hm];rw [hm] at hmay;refine Fn.e1 func29 ntmps29 fun base => ?_;refine qfJ fun mb => ?_;refine gK ?_;refine qgg ?_;refine gc ?_;rw [u8_b8];refine H.Am (out := bytesV [b8 m.origin]) rfl rfl rfl rfl jC jC rfl rfl fun tb => ?_;refine H.asSlc (k := 1) (sz := 1) rfl jC ?_;refine gT ?_;generalize hB0 : [b8 m.origin] = B0; have hB0l : B0.length = 1 := by rw [← hB0]; rfl
  refine qey ?_
  refine H.loop (ι:=Nat×Option Addr×Nat) (fun i=>[(4,.int .i64 (i.1:Int)),(3,.slice i.2.1 (B0++depsB m.deps i.1).length i.2.2),(1,.pointer (some ⟨mb,0,none⟩))]) (fun _=>f)
   (fun i=>row mb 54 (m.vals q qc)::slc i.2.1 (B0++depsB m.deps i.1).length i.2.2 5 1 (bytesV (B0++depsB m.deps i.1))::F) (fun i=>i.1≤11) (fun i=>11-i.1) (0,some ⟨tb,0,none⟩,1) (Nat.zero_le _) ⟨rfl,?_,rfl,trivial⟩ rfl ?_ fun i hi=>?_
  ·exact qcZ
  ·exact qdd
  ·obtain⟨i,p',c'⟩:=i;have hi:i≤11:=hi;show H _ _ _ [(4,.int .i64 (i:Int)),(3,.slice p' (B0++depsB m.deps i).length c'),_] _ (_::slc p' (B0++depsB m.deps i).length c' _ 1 (bytesV (B0++depsB m.deps i))::F) _
   have hal:(B0++depsB m.deps i).length=1+8*i:=by rw[List.length_append,depsB_len,hB0l]
   by_cases hlt:i<11
   ·have e1:B0++depsB m.deps (i+1)=(B0++depsB m.deps i)++be 8 (m.deps i):=by simp only[depsB,List.append_assoc]
    generalize B0++depsB m.deps i=acc at hal e1⊢;refine qhE ?_;refine H.Al rfl rfl rfl (zbu (l:=acc) f _ (Src.slcS jB jG) jA) fun p1 c1=>?_;refine gV ?_;refine H.pd (x:=slc p' _ c' _ _ _) ?_;refine qey ?_;refine H.Av (i+1,p1,c1) ke jV ⟨rfl,?_,rfl,trivial⟩ rfl ?_
    ·exact qdp
    ·exact qcH
   ·have hi11:i=11:=jA
    subst hi11;generalize hacc:B0++depsB m.deps 11=acc at hal⊢;refine qkC ?_;refine qex fun yb=>?_;refine H.Ag (ls:=(Bod.zero 0).vals none 0) (vs:=m.body.vals q qc) (ls':=m.body.vals q qc) rfl rfl rfl (zaa rfl) rfl rfl (Nat.le_refl 76) jB ?_;refine gF ?_;refine qih fun tb=>?_;refine H.Au (m:=1) (xs:=bytesV acc) rfl rfl rfl rfl rfl (fun p' c'=>jB) (Src.slice (Rd.ofRow jB) rfl) (zai _) rfl jA jA fun p2 c2=>?_;refine gN ?_;refine qjd ?_;have e2:(acc++ [m.body.kind]).length=acc.length+1:=by rw[List.length_append];rfl
    have e3:bytesV (acc++ [m.body.kind])=bytesV acc++bytesV [m.body.kind]:=zae _ _;show H _ _ _ ((33,_)::(32,_)::(31,_)::(3,.slice p2 (acc.length+1) c2)::_) _ (_::_::slc p2 (acc.length+1) c2 _ 1 (bytesV acc++bytesV [m.body.kind])::F) _
    rw[←e2,←e3];have htag:m.tagged=(acc++ [m.body.kind])++m.body.putK m.body.kind.toNat:=by rw[←hacc,←hB0];rfl
    rw[htag];have hal2:(acc++ [m.body.kind]).length=90:=jA
    generalize acc++ [m.body.kind]=l0 at hal2⊢;have hbm:=Bod.may_spec (Msg.may_body hm);have hql:=Bod.may_q (Msg.may_body hm)
    have hmk:=hbm.2.2;generalize hk:m.body.kind.toNat=kind at hmk
    match kind,hk,hmk with
    |0,hk,hmk=>exact absurd hmk jU
    |k+7,hk,hmk=>exact absurd hmk jU
    | 2, hk, hmk =>
     refine gc ?_;refine qfM fun p3 c3=>?_;refine H.pd (x:=slc p2 _ c2 _ _ _) ?_;have e4:(l0++be 8 m.body.view).length=98:=by rw[List.length_append,be_len,hal2]
     generalize hl1:l0++be 8 m.body.view=l1 at e4;refine gO ?_;refine H.Al rfl rfl rfl (zbu (l:=l1) f _ (Src.slcS jB jG) jA) fun p4 c4=>?_;refine H.pd (x:=slc p3 _ c3 _ _ _) ?_;refine qjE ?_;have e9:l0++m.body.putK 2=l1++be 8 m.body.k:=by rw[←hl1];simp only[Bod.putK,List.append_assoc]
     exact H.Ae rfl rfl (fun _ h=>h) ⟨p4,c4,by rw[e9],rfl,by rw[e9]⟩
    | 3, hk, hmk =>
     exact qbj
    | 5, hk, hmk =>
     exact qbj
    | 6, hk, hmk =>
     refine gO ?_;refine qeH ?_;refine HB.qu [0,1,2,4,5] 3 ?_;refine qig ?_;refine qfM fun p3 c3=>?_;refine gA ?_;refine H.pd (x:=slc p2 _ c2 _ _ _) ?_;refine qjA ?_;have e4:(l0++be 8 m.body.k).length=98:=by rw[List.length_append,be_len,hal2]
     generalize hl1:l0++be 8 m.body.k=l1 at e4;refine HB.ev 6 ?_;refine H.Au (m:=32) (xs:=bytesV l1) rfl rfl rfl rfl rfl (fun p' c'=>jB) (Src.slice (row_dig jB) rfl) (zai _) rfl jA jA fun p4 c4=>?_;refine qed ?_;refine HB.qu [7] 0 ?_;refine qgq ?_;refine qjE ?_;have e9:l0++m.body.putK 6=l1++b32L m.body.dig:=by rw[←hl1];simp only[Bod.putK,List.append_assoc]
     exact H.Ae rfl rfl (fun _ h=>h) ⟨p4,c4,by rw[e9,List.length_append];rfl,rfl,by rw[e9,List.length_append,zae];rfl⟩
    | 1, hk, hmk =>
     have ha:m.body.req.asked:=of_decide_eq_true hmk
     have hrl:m.body.req.bytes.length≤1000:=by
      exact qdw
     refine gc ?_;refine qfM fun p3 c3=>?_;refine H.pd (x:=slc p2 _ c2 _ _ _) ?_;have e4:(l0++be 8 m.body.view).length=98:=by rw[List.length_append,be_len,hal2]
     generalize hl1:l0++be 8 m.body.view=l1 at e4;refine gN ?_;refine H.pf (x:=row yb _ _) ?_;refine qeH ?_;refine HB.qu [0,1,2,4,5,6] 3 ?_;refine gR ?_;refine HQ.Ab (ls:=m.body.req.vals) rfl rfl rfl (zbt jB) rfl rfl ?_;refine qig ?_;refine H.pf (x:=slc p3 _ c3 _ _ _) ?_;refine H.Al rfl rfl rfl (rrequest_fn (l:=l1) f _ m.body.req ha jA) fun p4 c4=>?_;have e5:(l1++m.body.req.bytes).length=l1.length+m.body.req.bytes.length:=List.length_append;generalize hl2:l1++m.body.req.bytes=l2 at e5
     refine gA ?_;refine qjA ?_;refine HB.ev 7 ?_;refine H.Au (m:=32) (xs:=bytesV l2) rfl rfl rfl rfl rfl (fun p' c'=>jB) (Src.slice (row_rtag jB) rfl) (zai _) rfl jA jA fun p5 c5=>?_;refine qed ?_;refine HB.qu [8] 0 ?_;refine qgq ?_;refine qjE ?_;have e9:l0++m.body.putK 1=l2++b32L m.body.req.tag:=by rw[←hl2,←hl1];simp only[Bod.putK,List.append_assoc]
     exact H.Ae rfl rfl (fun _ h=>h) ⟨p5,c5,by rw[e9,List.length_append];rfl,rfl,by rw[e9,List.length_append,zae];rfl⟩
    | 4, hk, hmk =>
     refine gc ?_;refine qfM fun p3 c3=>?_;refine H.pd (x:=slc p2 _ c2 _ _ _) ?_;have e4:(l0++be 8 m.body.view).length=98:=by rw[List.length_append,be_len,hal2]
     generalize hl1:l0++be 8 m.body.view=l1 at e4;refine gO ?_;have hlv:Value.int .u8 ((m.body.q.length:Nat):Int)= .int .u8 ((b8 m.body.q.length).toNat:Int):=by rw[b8_small jA]
     refine H.Bh (d:=62) rfl hlv ?_;refine H.Am (out:=bytesV [b8 m.body.q.length]) rfl rfl rfl rfl jC jC rfl rfl fun tb=>?_;refine H.Au (m:=1) (xs:=bytesV l1) rfl rfl rfl rfl rfl (fun p' c'=>jB) (Src.slice (Rd.ofRow aP0) rfl) (zai _) rfl jA jA fun p4 c4=>?_;refine gT ?_;refine qjd ?_;have e5:(l1++ [b8 m.body.q.length]).length=l1.length+1:=by rw[List.length_append];rfl
     have e6:bytesV (l1++ [b8 m.body.q.length])=bytesV l1++bytesV [b8 m.body.q.length]:=zae _ _;generalize hl2:l1++ [b8 m.body.q.length]=l2 at e5 e6
     refine qer ?_;refine H.pf (x:=row yb _ _) ?_
     refine H.loop (ι:=Nat×Option Addr×Nat) (fun i=>[(6,.int .i64 (i.1:Int)),(3,.slice i.2.1 (l2++(m.body.q.take i.1).flatMap pairB).length i.2.2),(5,.pointer (some ⟨yb,0,none⟩))]) (fun _=>f)
      (fun i=>row yb 52 (m.body.vals q qc)::row mb 54 (m.vals q qc)::slc i.2.1 (l2++(m.body.q.take i.1).flatMap pairB).length i.2.2 5 1 (bytesV (l2++(m.body.q.take i.1).flatMap pairB))::F)
      (fun i=>i.1≤m.body.q.length∧(l2++(m.body.q.take i.1).flatMap pairB).length=99+9*i.1) (fun i=>m.body.q.length-i.1) (0,p4,c4) ⟨Nat.zero_le _,by show(l2++ []).length=99;rw[List.append_nil];omega⟩ ⟨rfl,?_,rfl,trivial⟩ rfl ?_ fun i hi=>?_
     ·show some (Value.slice p4 (l1.length+1) c4)=some (Value.slice p4 (l2++ []).length c4);rw[List.append_nil,e5]
     ·show _=_::_::slc p4 (l2++ []).length c4 _ 1 (bytesV (l2++ []))::F;rw[List.append_nil,e5,e6];rfl
     ·obtain⟨i,p',c'⟩:=i;obtain⟨hi,hlen⟩:i≤m.body.q.length∧(l2++(m.body.q.take i).flatMap pairB).length=99+9*i:=hi;show H _ _ _ [(6,.int .i64 (i:Int)),(3,.slice p' (l2++(m.body.q.take i).flatMap pairB).length c'),_] _ (_::_::slc p' (l2++(m.body.q.take i).flatMap pairB).length c' _ 1 (bytesV (l2++(m.body.q.take i).flatMap pairB))::F) _;generalize hac:l2++(m.body.q.take i).flatMap pairB=ac at hlen;by_cases hlt:i<m.body.q.length
      ·obtain⟨pr,hx⟩:∃pr,m.body.q[i]? =some pr:=⟨m.body.q[i],List.getElem?_eq_getElem hlt⟩
       have e7:l2++(m.body.q.take (i+1)).flatMap pairB=ac++ [b8 pr.1]++be 8 pr.2:=by
        rw[List.take_add_one,hx,←hac];simp[pairB]
       obtain⟨b,off,cs,T,fr,rfl,hfb,hcs⟩:=hq i pr hx;have rd:∀A,Rd f A b (off+i*2) (pairV pr):=fun A=>Rd.imm hfb hcs;clear hcs hfb
       refine gN ?_;refine qeH ?_;refine HB.qu [0,1,2,3,4,5,6,7,10,11,12,13,14,15] 4 ?_;refine gR ?_;refine HQ.Ak rfl rfl rfl rfl hlt rfl ?_;refine gR ?_;refine HQ.Ad rfl rfl rfl (.of (rd _) (i:=0) rfl) rfl ?_;refine gW ?_;rw[u8_b8];refine HQ.Ak rfl rfl rfl rfl hlt rfl ?_;refine gR ?_;refine HQ.Ad rfl rfl rfl (.of (rd _) (i:=1) rfl) rfl ?_;refine qel ?_;refine HB.ev 8 ?_;refine H.Am (out:=bytesV [b8 pr.1]) rfl rfl rfl rfl jC jC rfl rfl fun tb=>?_;refine gA ?_;refine qjA ?_;refine HB.ev 9 ?_;refine H.Au (m:=1) (xs:=bytesV ac) rfl rfl rfl rfl rfl (fun p' c'=>jB) (Src.slice (Rd.ofRow at1) rfl) (zai _) rfl jA jA fun p5 c5=>?_;refine gA ?_;refine qjd ?_;refine qeM ?_;refine HB.ev 16 ?_;have f0:(ac++ [b8 pr.1]).length=ac.length+1:=by rw[List.length_append];rfl
       have f1:bytesV (ac++ [b8 pr.1])=bytesV ac++bytesV [b8 pr.1]:=zae _ _;generalize ac++ [b8 pr.1]=l4 at f0 f1 e7
       show H _ _ _ _ _ (row _ _ _::row _ _ _::slc p5 (ac.length+1) c5 _ _ (bytesV ac++bytesV [b8 pr.1])::F) _;rw[←f0,←f1];refine H.Al rfl rfl rfl (zbu (l:=l4) f _ (Src.slcS jB jG) jA) fun p6 c6=>?_;refine gA ?_;refine H.pd (x:=slc p5 _ c5 _ _ _) ?_;refine qer ?_;refine qjA ?_;refine HB.qu [17] 0 ?_;refine qgq ?_;refine gV ?_;refine H.Av (i+1,p6,c6) ⟨by show i+1≤m.body.q.length;omega,?_⟩ (by show m.body.q.length-(i+1)<m.body.q.length-i;omega) ⟨rfl,?_,rfl,trivial⟩ rfl ?_
       ·show(l2++(m.body.q.take (i+1)).flatMap pairB).length=99+9*(i+1);rw[e7,List.length_append,be_len];omega
       ·show some _=some (Value.slice p6 (l2++(m.body.q.take (i+1)).flatMap pairB).length c6);rw[e7]
       ·show _=_::_::slc p6 (l2++(m.body.q.take (i+1)).flatMap pairB).length c6 _ 1 (bytesV (l2++(m.body.q.take (i+1)).flatMap pairB))::F;rw[e7];rfl
      ·have hiq:i=m.body.q.length:=jA
       rw[hiq,List.take_length]at hac;refine gN ?_;refine H.pd (x:=row yb _ _) ?_;refine qeD ?_;have e9:l0++m.body.putK 4=ac:=by rw[←hac,←hl2,←hl1];simp only[Bod.putK,List.append_assoc]
       exact qdE
 ·rw[if_neg hm];rw[Bool.eq_false_iff.2 hm]at hmay;refine Fn.e1 func29 ntmps29 fun base=>?_;refine qfJ fun mb=>?_;refine gK ?_;refine qgg ?_;refine gX ?_;refine qeJ ?_;exact qdZ
end
end Go.Proofs.YtkaknokcbhiigaaGreatDoor
