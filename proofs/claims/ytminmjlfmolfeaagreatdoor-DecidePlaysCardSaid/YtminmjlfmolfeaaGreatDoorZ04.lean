/- Parts of the proof, one behind the other, each under its own heading. No conditions. -/
import Derived.Test.YtminmjlfmolfeaaGreatDoorZ03
set_option linter.unusedSectionVars false
set_option linter.unusedSimpArgs false
set_option linter.unusedVariables false
/- Layer 8, plain: a body's bytes put and got, what may be; that what is got of what was put is the body's own. No program in sight. -/
set_option maxHeartbeats 1600000
set_option maxRecDepth 20000
namespace Go.Proofs.YtminmjlfmolfeaaGreatDoor
open Go
def Cs.byte (s:Cs):UInt8:=UInt8.ofNat (s.num 1)
theorem Cs.byte_nat (s:Cs):((s.byte.toNat:Nat):Int) = (s.num 1:Nat):=by
 have:=s.num1_lt;unfold Cs.byte;rw [UInt8.toNat_ofNat'];omega
def Cs.req (mk mv:Nat) (s:Cs):Req:=
 let c1:=s.skip 1
 let c2:=c1.skip 1
 let c3:=c2.skip 8
 let c4:=c3.skip 8
 let c5:=c4.textS mk
 let c6:=c5.textS mv
 let c7:=c6.textS mv
 let c8:=c7.textS mk
 ⟨(s.num 1:Nat),(c2.num 8:Nat),c1.byte,baOf (c4.text mk),baOf (c5.text mv),baOf (c6.text mv),baOf (c7.text mk),(c3.num 8:Nat),c8.hash⟩
def Cs.reqS (mk mv:Nat) (s:Cs):Cs:=((((((((s.skip 1).skip 1).skip 8).skip 8).textS mk).textS mv).textS mv).textS mk).skip 32
def Cs.pairs:Nat→Cs→List (Int × Int)→List (Int × Int) × Cs
 | 0,s,acc=>(acc,s)
 | n + 1,s,acc=>if s.bad then (acc,s) else Cs.pairs n ((s.skip 1).skip 8) (acc ++ [(((s.num 1:Nat):Int),(((s.skip 1).num 8:Nat):Int))])
def noTag:Nat→UInt8:=fun _=>0
def Bod.zero (kind:UInt8):Bod:=⟨kind,0,0,Req.zero,[],noTag⟩
def b8 (n:Int):UInt8:=UInt8.ofNat (n % 256).toNat
def pairB (p:Int × Int):List UInt8:=b8 p.1::be 8 p.2
def Bod.putK (x:Bod):Nat→List UInt8
 | 1=>be 8 x.view ++ x.req.bytes ++ b32L x.req.tag
 | 2=>be 8 x.view ++ be 8 x.k
 | 3=>be 8 x.view
 | 4=>be 8 x.view ++ [b8 x.q.length] ++ x.q.flatMap pairB
 | 5=>be 8 x.view
 | 6=>be 8 x.k ++ b32L x.dig
 | _=>[]
def Bod.put (x:Bod):List UInt8:=x.putK x.kind.toNat
def Cs.bodyK (mk mv:Nat) (kind:UInt8) (s:Cs):Nat→Bod × Cs
 | 1=>({ Bod.zero kind with view:=(s.num 8:Nat),req:=(s.skip 8).req mk mv },(s.skip 8).reqS mk mv)
 | 2=>({ Bod.zero kind with view:=(s.num 8:Nat),k:=((s.skip 8).num 8:Nat) },(s.skip 8).skip 8)
 | 3=>({ Bod.zero kind with view:=(s.num 8:Nat) },s.skip 8)
 | 4 => let r := Cs.pairs ((s.skip 8).num 1) ((s.skip 8).skip 1) []
  ({ Bod.zero kind with view:=(s.num 8:Nat),q:=r.1 },r.2)
 | 5=>({ Bod.zero kind with view:=(s.num 8:Nat) },s.skip 8)
 | 6=>({ Bod.zero kind with k:=(s.num 8:Nat),dig:=(s.skip 8).hash },(s.skip 8).skip 32)
 | _=>(Bod.zero kind,s)
def Bod.ownK (x:Bod):Nat→Bod
 | 1=>{ Bod.zero x.kind with view:=x.view,req:=x.req }
 | 2=>{ Bod.zero x.kind with view:=x.view,k:=x.k }
 | 3=>{ Bod.zero x.kind with view:=x.view }
 | 4=>{ Bod.zero x.kind with view:=x.view,q:=x.q }
 | 5=>{ Bod.zero x.kind with view:=x.view }
 | 6=>{ Bod.zero x.kind with k:=x.k,dig:=x.dig }
 | _=>Bod.zero x.kind
def Bod.own (x:Bod):Bod:=x.ownK x.kind.toNat
def Bod.mayK (x:Bod):Nat→Bool
 | 1=>decide x.req.asked
 | 2=>decide (1 ≤ x.k ∧ x.k ≤ 4611686018427387904)
 | 3=>decide (1 ≤ x.view)
 | 4=>decide (1 ≤ x.view) && (quo 0 x.q && decide (0 < x.q.length))
 | 5=>decide (1 ≤ x.view)
 | 6=>decide (1 ≤ x.k ∧ x.k ≤ 4611686018427387904)
 | _=>false
variable {l':List Value} {v:Value}
theorem SetV.app {l:List Value} {i:Nat} (h:SetV l i v l') (post:List Value):SetV (l ++ post) i v (l' ++ post):=by
 induction h with
 | here x v t=>exact .here _ _ _
 | there x h ih=>exact .there _ ih
theorem SetV.mid {l:List Value} {i:Nat} (h:SetV l i v l') (pre post:List Value):SetV (pre ++ l ++ post) (pre.length + i) v (pre ++ l' ++ post):=by
 rw [List.append_assoc,List.append_assoc]
 induction pre with
 | nil=>rw [List.length_nil,Nat.zero_add];exact h.app post
 | cons p pre ih =>
  exact qcK
theorem splice_mid (pre l post:List Value) (i:Nat) (vs:List Value) (h:i + vs.length ≤ l.length):splice (pre ++ l ++ post) (pre.length + i) vs = pre ++ splice l i vs ++ post:=by
 unfold splice
 have e1:(pre ++ l ++ post).take (pre.length + i) = pre ++ l.take i:=by
  rw [List.append_assoc,List.take_length_add_append,List.take_append_of_le_length (by omega)]
 have e2:(pre ++ l ++ post).drop (pre.length + i + vs.length) = l.drop (i + vs.length) ++ post:=by
  rw [Nat.add_assoc,List.append_assoc,List.drop_length_add_append,List.drop_append_of_le_length h]
 rw [e1,e2];simp only [List.append_assoc]
def bodAt (xb:Nat) (T:TypeId) (pre post:List Value) (x:Bod) (qp:Option Addr) (qc:Nat):HP:=row xb T (pre ++ x.vals qp qc ++ post)
theorem Bod.vals_len (x:Bod) (qp:Option Addr) (qc:Nat):(x.vals qp qc).length = 76:=rfl
section
variable (f:Frag) (F:List HP) (cb:Nat) (s:Cs) (xb:Nat) (T:TypeId) (pre post:List Value)
theorem getReq_cs (hl:s.l.length ≤ 1000000000) :
  Fn Tryz.prog 191 [.pointer (some ⟨cb,0,none⟩)] f (cutC f cb s::F) (Ret (.agg (s.req 32 128).vals.toArray) f (cutC f cb (s.reqS 32 128)::F)):=by
 unfold Cs.req Cs.reqS;dsimp only;have a1:=s.skip_len 1;have n1:=s.num1_lt
 refine Fn.e1 Tryz.func191 Tryz.ntmps191 fun base=>?_;refine H.seq (H.Bf ?_);refine qeZ fun rb=>?_;refine gJ ?_;refine qdm ?_;refine H.Af rfl rfl rfl (byte_cs f _ cb s (by omega)) ?_;refine gD ?_;generalize hs1:s.skip 1 = s1 at a1 ⊢;have a2:=s1.skip_len 1;refine H.Af rfl rfl rfl (byte_cs f _ cb s1 (by omega)) ?_
 rw [← Cs.byte_nat s1];generalize hs2:s1.skip 1 = s2 at a2 ⊢;have a3:=s2.skip_len 8;refine gM ?_
 refine H.Af rfl rfl rfl (word_cs f _ cb s2 (by omega)) ?_;generalize hs3:s2.skip 8 = s3 at a3 ⊢;have a4:=s3.skip_len 8;refine gJ ?_
 refine H.Af rfl rfl rfl (word_cs f _ cb s3 (by omega)) ?_;generalize hs4:s3.skip 8 = s4 at a4 ⊢;have a5:=s4.textS_len 32;refine gM ?_
 refine H.Af rfl rfl rfl (text_cs f _ cb s4 (most:=32) (by omega) (by decide)) ?_;generalize hs5:s4.textS 32 = s5 at a5 ⊢;have a6:=s5.textS_len 128;refine gJ ?_
 refine H.Af rfl rfl rfl (text_cs f _ cb s5 (most:=128) (by omega) (by decide)) ?_;generalize hs6:s5.textS 128 = s6 at a6 ⊢;have a7:=s6.textS_len 128;refine gM ?_
 refine H.Af rfl rfl rfl (text_cs f _ cb s6 (most:=128) (by omega) (by decide)) ?_;generalize hs7:s6.textS 128 = s7 at a7 ⊢;have a8:=s7.textS_len 32;refine gJ ?_
 refine H.Af rfl rfl rfl (text_cs f _ cb s7 (most:=32) (by omega) (by decide)) ?_;generalize hs8:s7.textS 32 = s8 at a8 ⊢;refine gM ?_;refine H.Af rfl rfl rfl (hash_cs f _ cb s8 (by omega)) ?_;refine gH ?_;generalize hr:(⟨(s.num 1:Nat),(s2.num 8:Nat),s1.byte,baOf (s4.text 32),baOf (s5.text 128),baOf (s6.text 128),baOf (s7.text 32),(s3.num 8:Nat),s8.hash⟩:Req) = r;refine H.Ah (vs:=b32 s8.hash) (ls':=r.vals) rfl rfl rfl (zaa rfl) rfl ?_ ?_ (by repeat constructor) ?_
 ·subst hr;rfl
 ·exact (show 8 + 32 ≤ 40 by decide)
 refine gA ?_;refine H.Ae (ls:=r.vals) rfl rfl rfl (Rd.ofRow (by repeat constructor)) rfl rfl ?_;refine H.Ah (ls:=r.vals) (vs:=r.vals) (ls':=r.vals) rfl rfl rfl (zaa rfl) rfl rfl (Nat.le_refl 40) (by repeat constructor) ?_;refine gR ?_;exact qbr
theorem get_view (hl:s.l.length ≤ 1000000000) (x:Bod) (qp:Option Addr) (qc:Nat) :
  Fn Tryz.prog 242 [.pointer (some ⟨cb,0,none⟩),.pointer (some ⟨xb,pre.length,none⟩)] f (cutC f cb s::bodAt xb T pre post x qp qc::F)
   (Ret (.tuple #[]) f (cutC f cb (s.skip 8)::bodAt xb T pre post { x with view:=(s.num 8:Nat) } qp qc::F)):=by
 refine Fn.e2 Tryz.func242 Tryz.ntmps242 fun base=>?_;repeat (first | ((apply H.Au);(iterate 3 exact rfl)) | (apply H.Bf))
 refine H.Af rfl rfl rfl (word_cs f _ cb s (by omega)) ?_;repeat (first | ((apply H.Be);(iterate 3 exact rfl)) | (apply H.Bm;(iterate 3 exact rfl);exact inferInstance;exact rfl) | (apply H.Ay;(iterate 4 exact rfl);(repeat (first | exact .here _ _ _ | apply At.there))))
 ·exact qbd
 refine gA ?_;exact qaP
theorem get_commit (hl:s.l.length ≤ 1000000000) (x:Bod) (qp:Option Addr) (qc:Nat) :
  Fn Tryz.prog 194 [.pointer (some ⟨cb,0,none⟩),.pointer (some ⟨xb,pre.length,none⟩)] f (cutC f cb s::bodAt xb T pre post x qp qc::F)
   (Ret (.tuple #[]) f (cutC f cb ((s.skip 8).skip 8)::bodAt xb T pre post { x with view:=(s.num 8:Nat),k:=((s.skip 8).num 8:Nat) } qp qc::F)):=by
 have a1:=s.skip_len 8;refine Fn.e2 Tryz.func194 Tryz.ntmps194 fun base=>?_
 refine qfy ?_;refine H.Af rfl rfl rfl (word_cs f _ cb (s.skip 8) (by omega)) ?_;repeat (first | ((apply H.Be);(iterate 3 exact rfl)) | (apply H.Bm;(iterate 3 exact rfl);exact inferInstance;exact rfl) | (apply H.Ay;(iterate 4 exact rfl);(repeat (first | exact .here _ _ _ | apply At.there))))
 ·exact qbd
 repeat (first | ((apply H.Be);(iterate 3 exact rfl)) | (apply H.Bm;(iterate 3 exact rfl);exact inferInstance;exact rfl) | (apply H.Ay;(iterate 4 exact rfl);(repeat (first | exact .here _ _ _ | apply At.there))))
 ·exact SetV.mid (l:=({ x with view:=(s.num 8:Nat) }:Bod).vals qp qc) (l':=({ x with view:=(s.num 8:Nat),k:=((s.skip 8).num 8:Nat) }:Bod).vals qp qc) (i:=2) (by repeat (first | exact .here _ _ _ | apply SetV.there)) pre post
 refine gA ?_;exact qaP
theorem get_check (hl:s.l.length ≤ 1000000000) (x:Bod) (qp:Option Addr) (qc:Nat) :
  Fn Tryz.prog 204 [.pointer (some ⟨cb,0,none⟩),.pointer (some ⟨xb,pre.length,none⟩)] f (cutC f cb s::bodAt xb T pre post x qp qc::F)
   (Ret (.tuple #[]) f (cutC f cb ((s.skip 8).skip 32)::bodAt xb T pre post { x with k:=(s.num 8:Nat),dig:=(s.skip 8).hash } qp qc::F)):=by
 have a1:=s.skip_len 8;refine Fn.e2 Tryz.func204 Tryz.ntmps204 fun base=>?_
 refine qfy ?_;refine H.Af rfl rfl rfl (hash_cs f _ cb (s.skip 8) (by omega)) ?_;repeat (first | ((apply H.Be);(iterate 3 exact rfl)) | (apply H.Bm;(iterate 3 exact rfl);exact inferInstance;exact rfl) | (apply H.Ay;(iterate 4 exact rfl);(repeat (first | exact .here _ _ _ | apply At.there))))
 ·exact SetV.mid (l:=x.vals qp qc) (l':=({ x with k:=(s.num 8:Nat) }:Bod).vals qp qc) (i:=2) (by repeat (first | exact .here _ _ _ | apply SetV.there)) pre post
 refine gF ?_;refine H.Ah (vs:=b32 (s.skip 8).hash) (ls':=pre ++ ({ x with k:=(s.num 8:Nat),dig:=(s.skip 8).hash }:Bod).vals qp qc ++ post) rfl rfl rfl (zaa rfl) rfl ?_ ?_ (.there _ (.here _ _ _)) ?_
 ·exact splice_mid pre (({ x with k:=(s.num 8:Nat) }:Bod).vals qp qc) post 44 _ (Nat.le_refl 76)
 ·rw [List.length_append,List.length_append,Bod.vals_len];show pre.length + 44 + 32 ≤ _;omega
 refine gA ?_;exact qaP
theorem get_prepare (hl:s.l.length ≤ 1000000000) (x:Bod) (qp:Option Addr) (qc:Nat) :
  Fn Tryz.prog 189 [.pointer (some ⟨cb,0,none⟩),.pointer (some ⟨xb,pre.length,none⟩)] f (cutC f cb s::bodAt xb T pre post x qp qc::F)
   (Ret (.tuple #[]) f (cutC f cb ((s.skip 8).reqS 32 128)::bodAt xb T pre post { x with view:=(s.num 8:Nat),req:=(s.skip 8).req 32 128 } qp qc::F)):=by
 have a1:=s.skip_len 8;refine Fn.e2 Tryz.func189 Tryz.ntmps189 fun base=>?_
 refine qfy ?_;refine H.Af rfl rfl rfl (getReq_cs f _ cb (s.skip 8) (by omega)) ?_;generalize (s.skip 8).req 32 128 = r;repeat (first | ((apply H.Be);(iterate 3 exact rfl)) | (apply H.Bm;(iterate 3 exact rfl);exact inferInstance;exact rfl) | (apply H.Ay;(iterate 4 exact rfl);(repeat (first | exact .here _ _ _ | apply At.there))))
 ·exact qbd
 refine gF ?_;refine H.Ah (vs:=r.vals) (ls':=pre ++ ({ x with view:=(s.num 8:Nat),req:=r }:Bod).vals qp qc ++ post) rfl rfl rfl (zaa rfl) rfl ?_ ?_ (.there _ (.here _ _ _)) ?_
 ·exact splice_mid pre (({ x with view:=(s.num 8:Nat) }:Bod).vals qp qc) post 3 _ (show 3 + 40 ≤ 76 by decide)
 ·rw [List.length_append,List.length_append,Bod.vals_len];show pre.length + 3 + 40 ≤ _;omega
 refine gA ?_;exact qaP
end
variable {l:List UInt8} {P:Program} {f:Frag} {A:List HP} {p:Option Addr} {c:Nat}
theorem BAt.first {k0:Nat} (h:BAt f p l) (hk:k0 ≤ l.length):∀ base w,Sat base w f A→(Builtin.firstCells 1 k0 (.slice p l.length c)).run P w = .ok (bytesV (l.take k0)).toArray w:=fun base w s=>by
 rcases h with rfl | ⟨b,off,cs,T,fr,rfl,hb,hc⟩
 ·have h0:k0 = 0:=Nat.le_zero.1 hk
  subst h0
  exact (BAt.src (P:=P) (A:=A) (c:=c) (p:=p) (l:=[]) (.inl rfl)).cells base w s
 ·have hrd:Rd f A b off (bytesV l):=Rd.imm hb (fun i hi=>hc i (by rwa [zad] at hi))
  have:=firstCells_part (P:=P) (m:=l.length) (c:=c) (k0:=k0) hrd (by rw [zad];exact hk) base w s
  rwa [show (bytesV l).take k0 = bytesV (l.take k0) from List.map_take.symm] at this
def spliceB (part:List UInt8) (n:Nat) (c:List UInt8):List UInt8:=part.take n ++ c ++ part.drop (n + c.length)
theorem blocks_app (s:Sha.S8) (b c:List UInt8):∀ q,64 * q ≤ b.length→Sha.blocks s (b ++ c) q = Sha.blocks s b q
 | 0,_=>rfl
 | q + 1, h => by
  have ih:=blocks_app s b c q (by omega)
  show Sha.block (Sha.blocks s (b ++ c) q) (((b ++ c).drop (64 * q)).take 64) = Sha.block (Sha.blocks s b q) ((b.drop (64 * q)).take 64)
  rw [ih,List.drop_append_of_le_length (by omega),List.take_append_of_le_length (by rw [List.length_drop];omega)]
structure HSt (b:List UInt8) (s:Sha.S8) (part:List UInt8) (n:Nat):Prop where
 q:∃ q,b.length = 64 * q + n ∧ s = Sha.blocks Sha.start b q ∧ part.take n = b.drop (64 * q)
 lt:n < 64
 len:part.length = 64
variable {n:Nat}
theorem spliceB_len {part c:List UInt8} (h:part.length = 64) (hn:n + c.length ≤ 64):(spliceB part n c).length = 64:=by
 unfold spliceB;rw [List.length_append,List.length_append,List.length_take,List.length_drop,h];omega
theorem spliceB_take {part c:List UInt8} (h:part.length = 64) (hn:n + c.length ≤ 64):(spliceB part n c).take (n + c.length) = part.take n ++ c:=by
 unfold spliceB;rw [List.take_append_of_le_length (by rw [List.length_append,List.length_take,h];omega),List.take_of_length_le (by rw [List.length_append,List.length_take,h];omega)]
variable {b:List UInt8} {s:Sha.S8}
theorem HSt.more {part c:List UInt8} (h:HSt b s part n) (hn:n + c.length < 64):HSt (b ++ c) s (spliceB part n c) (n + c.length):=by
 obtain ⟨⟨q,h1,h2,h3⟩,h4,h5⟩:=h;refine ⟨⟨q,by rw [List.length_append];omega,by rw [h2,blocks_app _ b c q (by omega)],?_⟩,hn,spliceB_len h5 (by omega)⟩;rw [spliceB_take h5 (by omega),h3,List.drop_append_of_le_length (by omega)]
theorem HSt.full {part c:List UInt8} (h:HSt b s part n) (hn:n + c.length = 64):HSt (b ++ c) (Sha.block s (spliceB part n c)) (spliceB part n c) 0:=by
 obtain ⟨⟨q,h1,h2,h3⟩,h4,h5⟩:=h;have hl:=spliceB_len (c:=c) (n:=n) h5 (by omega);have ht:=spliceB_take (c:=c) (n:=n) h5 (by omega)
 rw [hn,List.take_of_length_le (by omega)] at ht;have hd:(b ++ c).drop (64 * q) = spliceB part n c:=by rw [ht,h3,List.drop_append_of_le_length (by omega)]
 refine ⟨⟨q + 1,by rw [List.length_append];omega,?_,?_⟩,by decide,hl⟩
 ·show _ = Sha.block (Sha.blocks Sha.start (b ++ c) q) (((b ++ c).drop (64 * q)).take 64);rw [hd,List.take_of_length_le (by omega),blocks_app _ b c q (by omega),← h2]
 ·rw [List.take_zero,List.drop_eq_nil_of_le (by rw [List.length_append];omega)]
def hRow (s:Sha.S8) (part:List UInt8) (n all:Nat):List Value:=s.vals ++ bytesV part ++ [.int .i64 (n:Nat),.int .u64 (all:Nat)]
theorem hRow_len (s:Sha.S8) (part:List UInt8) (n all:Nat) (h:part.length = 64):(hRow s part n all).length = 74:=by
 unfold hRow;rw [List.length_append,List.length_append,zad,h];rfl
theorem hRow_n (s:Sha.S8) (part:List UInt8) (n all:Nat) (h:part.length = 64):(hRow s part n all)[72]? = some (.int .i64 (n:Nat)):=by
 exact qbP
theorem hRow_all (s:Sha.S8) (part:List UInt8) (n all:Nat) (h:part.length = 64):(hRow s part n all)[73]? = some (.int .u64 (all:Nat)):=by
 exact qbP
theorem hRow_setn (s:Sha.S8) (part:List UInt8) (n m all:Nat) (h:part.length = 64):SetV (hRow s part n all) 72 (.int .i64 (m:Nat)) (hRow s part m all):=by
 have hl:(s.vals ++ bytesV part).length = 72:=by rw [List.length_append,zad,h];rfl
 have:=SetV.mid (SetV.here (.int .i64 (n:Nat)) (.int .i64 (m:Nat)) [.int .u64 (all:Nat)]) (s.vals ++ bytesV part) [];rw [hl,List.append_nil,List.append_nil] at this
 exact this
theorem hRow_setall (s:Sha.S8) (part:List UInt8) (n all al2:Nat) (h:part.length = 64):SetV (hRow s part n all) 73 (.int .u64 (al2:Nat)) (hRow s part n al2):=by
 have hl:(s.vals ++ bytesV part).length = 72:=by rw [List.length_append,zad,h];rfl
 have:=SetV.mid (SetV.there (.int .i64 (n:Nat)) (SetV.here (.int .u64 (all:Nat)) (.int .u64 (al2:Nat)) [])) (s.vals ++ bytesV part) [];rw [hl,List.append_nil,List.append_nil] at this
 exact this
theorem hRow_part (s:Sha.S8) (part c:List UInt8) (n all:Nat) (h:part.length = 64) (hn:n + c.length ≤ 64):splice (hRow s part n all) (8 + n) (bytesV c) = hRow s (spliceB part n c) n all:=by
 unfold hRow
 have:=splice_mid s.vals (bytesV part) [.int .i64 (n:Nat),.int .u64 (all:Nat)] n (bytesV c) (by rw [zad,zad,h];exact hn);rw [show s.vals.length = 8 from rfl] at this
 rw [this];congr 2;unfold splice spliceB;rw [zag,zag,zad];unfold bytesV;rw [List.map_take,List.map_drop]
theorem hRow_s (s s2:Sha.S8) (part:List UInt8) (n all:Nat):splice (hRow s part n all) 0 s2.vals = hRow s2 part n all:=by
 unfold hRow splice;rw [List.take_zero,List.nil_append,List.append_assoc,List.append_assoc];rfl
variable {A':List HP} {hb:Nat} {T:TypeId}
theorem hRow_rdp {part:List UInt8} {all:Nat} (h:At A (row hb T (hRow s part n all)) A' (row hb T (hRow s part n all))):Rd f A hb (0 + 8) (bytesV part):=by
 have h1:=Rd.ofRow (f:=f) h;exact h1.sub rfl
theorem hRow_rds {part:List UInt8} {all:Nat} (h:At A (row hb T (hRow s part n all)) A' (row hb T (hRow s part n all))):Rd f A hb (0 + 0) s.vals:=by
 have h1:=Rd.ofRow (f:=f) h;unfold hRow at h1
 rw [List.append_assoc] at h1;exact Rd.sub (pre:=[]) h1 rfl
def hashH (hb:Nat) (b:List UInt8):HP:=pack (fun i:Sha.S8 × List UInt8 × Nat=>HSt b i.1 i.2.1 i.2.2) (fun i=>[row hb 327 (hRow i.1 i.2.1 i.2.2 b.length)])
theorem hashH_fold {F:List HP} {part:List UInt8} (h:HSt b s part n):∀ x,stars (row hb 327 (hRow s part n b.length)::F) x→stars (hashH hb b::F) x:=
 pack_fold (ι:=Sha.S8 × List UInt8 × Nat) (B:=fun i=>[row hb 327 (hRow i.1 i.2.1 i.2.2 b.length)]) (s,part,n) h
section
variable (f:Frag) (F:List HP)
theorem sstart_fn:Fn Tryz.prog 265 [] f F (Ret (.agg Sha.start.vals.toArray) f F):=by
 refine Fn.e0 Tryz.func265 Tryz.ntmps265 fun base=>?_;exact qba
theorem HSt.new:HSt [] Sha.start (List.replicate 64 0) 0:=⟨⟨0,rfl,rfl,rfl⟩,by decide,by rw [List.length_replicate]⟩
theorem snew_fn:Fn Tryz.prog 261 [] f F (RetE (fun hb=>.pointer (some ⟨hb,0,none⟩)) f (fun hb=>hashH hb []::F)):=by
 refine Fn.e0 Tryz.func261 Tryz.ntmps261 fun base=>?_;refine gJ ?_;refine H.Af rfl rfl rfl (sstart_fn f _) ?_;refine H.Az (out:=hRow Sha.start (List.replicate 64 0) 0 0) rfl rfl rfl (by kernel_rfl) rfl ?_;refine H.box (ls:=hRow Sha.start (List.replicate 64 0) 0 0) rfl rfl rfl rfl fun hb=>?_;refine gR ?_;refine H.imp (hashH_fold (b:=[]) HSt.new) ?_;exact H.r1 ⟨hb,rfl,rfl,rfl⟩
theorem swrite_fn (htab:TabAt f) {c:List UInt8} {cap:Nat} (hc:BAt f p c) (hcap:c.length ≤ cap) (hl:b.length + c.length ≤ 1000000000000):Fn Tryz.prog 262 [.pointer (some ⟨hb,0,none⟩),.slice p c.length cap] f (hashH hb b::F) (Ret (.tuple #[]) f (hashH hb (b ++ c)::F)):=by
 refine Fn.unpack fun i0 hi0=>?_;obtain ⟨s0,part0,n0⟩:=i0;have hi0:HSt b s0 part0 n0:=hi0;have hlen0:=hi0.len
 have e1:IntKind.u64.wrap ((b.length:Int) + ((c.length:Nat):Int)) = (((b ++ c).length:Nat):Int):=by rw [wr_u64 (by omega),List.length_append];omega
 have e2:IntKind.u64.wrap ((c.length:Nat):Int) = ((c.length:Nat):Int):=wr_u64 (by omega);refine Fn.e2 Tryz.func262 Tryz.ntmps262 fun base=>?_
 show H _ _ _ _ _ (row hb _ (hRow s0 part0 n0 b.length)::F) _;repeat (first | (refine H.Ab rfl rfl rfl (.at0 (Rd.ofRow (by repeat constructor)) (hRow_all s0 part0 n0 b.length hlen0)) rfl ?_) | (apply H.ar;(iterate 4 exact rfl);exact e1;exact rfl) | (refine H.Ay (v:=.int .u64 (((b ++ c).length:Nat):Int)) (ls':=hRow s0 part0 n0 (b ++ c).length) rfl rfl rfl rfl (by repeat constructor) (hRow_setall s0 part0 n0 b.length (b ++ c).length hlen0) ?_) | (refine gg ?_))
 have hst0:HSt (b ++ c.take 0) s0 part0 n0:=by rw [List.take_zero,List.append_nil];exact hi0
 clear hi0 hlen0 e1 e2
 refine H.lo (ι:=Nat × Sha.S8 × List UInt8 × Nat × Option Addr × Nat) (fun i=>[(0,.pointer (some ⟨hb,0,none⟩)),(1,.slice i.2.2.2.2.1 (c.length - i.1) i.2.2.2.2.2)]) (fun _=>f)
  (fun i=>row hb 327 (hRow i.2.1 i.2.2.1 i.2.2.2.1 (b ++ c).length)::F) (fun i=>i.1 ≤ c.length ∧ HSt (b ++ c.take i.1) i.2.1 i.2.2.1 i.2.2.2.1 ∧ BAt f i.2.2.2.2.1 (c.drop i.1) ∧ c.length - i.1 ≤ i.2.2.2.2.2) (fun i=>c.length - i.1)
  (0,s0,part0,n0,p,cap) ⟨Nat.zero_le _,hst0,by rw [List.drop_zero];exact hc,by omega⟩ fun i hi=>?_
 obtain ⟨m,s,part,n,q,qc⟩:=i;obtain ⟨hm,hst,hq,hqc⟩:m ≤ c.length ∧ HSt (b ++ c.take m) s part n ∧ BAt f q (c.drop m) ∧ c.length - m ≤ qc:=hi;have hlen:=hst.len;have hn:=hst.lt
 show H _ _ _ [_,(1,.slice q (c.length - m) qc)] _ (row hb _ (hRow s part n (b ++ c).length)::F) _;by_cases hlt:m < c.length
 ·obtain ⟨k,hk⟩:∃ k,Nat.min (c.length - m) (64 - n) = k:=⟨_,rfl⟩;have hk1:k ≤ c.length - m ∧ k ≤ 64 - n ∧ (k = c.length - m ∨ k = 64 - n):=by rw [← hk,show Nat.min (c.length - m) (64 - n) = min (c.length - m) (64 - n) from rfl];omega
  have hdl:(c.drop m).length = c.length - m:=List.length_drop;have htl:((c.drop m).take k).length = k:=by rw [List.length_take,hdl];omega
  have htk:c.take m ++ (c.drop m).take k = c.take (m + k):=by rw [← List.take_add]
  have e3:IntKind.i64.wrap ((n:Int) + (k:Int)) = ((n + k:Nat):Int):=by rw [wr_i64 (by omega)];omega
  refine gG ?_;refine H.dc [0,1,2,3,4,5,6,7,8] (S:=[_]) rfl ?_;refine HB.qu [0,1,2,3,4,5,6,7,8] 2 ?_;repeat (first | (refine HQ.Ab rfl rfl rfl (.at0 (Rd.ofRow (by repeat constructor)) (hRow_n s part n (b ++ c).length hlen)) rfl ?_) | (refine gh ?_))
  refine HQ.Cf (lo:=some (.tmp 26)) (mx:=none) (hi:=none) (lv:=n) (hv:=64) (mv:=64) rfl rfl ⟨_,_,rfl,rfl⟩ rfl rfl (fun h=>by cases h) (by omega) (by omega) (by decide) rfl ?_;rw [slP_ne (by omega)];refine gB ?_;refine qdo ?_;refine HB.ev 9 ?_
  refine H.copy (k0:=k) (m:=c.length - m) (cs:=bytesV ((c.drop m).take k)) (ls:=hRow s part n (b ++ c).length) (ls':=hRow s (spliceB part n ((c.drop m).take k)) n (b ++ c).length) rfl rfl rfl rfl
   (by have:=(BAt.src (P:=Tryz.prog) (A:=[]) (c:=qc) hq).len;rwa [hdl] at this) hk (by have:=fun A=>BAt.first (P:=Tryz.prog) (A:=A) (c:=qc) hq (k0:=k) (by omega);rw [hdl] at this;exact this _)
   (by rw [show 0 + 8 + n * 1 = 8 + n by omega];exact hRow_part s part _ n _ hlen (by omega)) (by rw [zad,htl,hRow_len _ _ _ _ hlen];omega) (zal _) (by repeat constructor) ?_
  refine qcS ?_;refine HB.qu [10] 0 ?_;refine qg ?_;have hlen2:(spliceB part n ((c.drop m).take k)).length = 64:=spliceB_len hlen (by omega);refine gJ ?_
  refine H.slice (lo:=some (.tmp 31)) (hi:=none) (mx:=none) (lv:=k) (hv:=c.length - m) (mv:=qc) rfl rfl ⟨_,_,rfl,rfl⟩ rfl rfl (fun h=>by cases h) (by omega) hqc (Nat.le_refl _) rfl ?_;repeat (first | (refine H.Ab rfl rfl rfl (.at0 (Rd.ofRow (by repeat constructor)) (hRow_n s _ n (b ++ c).length hlen2)) rfl ?_) | (apply H.ar;(iterate 4 exact rfl);exact e3;exact rfl) | (refine H.Ay (v:=.int .i64 ((n + k:Nat):Int)) (ls':=hRow s (spliceB part n ((c.drop m).take k)) (n + k) (b ++ c).length) rfl rfl rfl rfl (by repeat constructor) (hRow_setn s _ n (n + k) _ hlen2) ?_) | (refine H.Ab rfl rfl rfl (.at0 (Rd.ofRow (by repeat constructor)) (hRow_n s _ (n + k) (b ++ c).length hlen2)) rfl ?_) | (refine gg ?_))
  have hbat:BAt f (slP q k qc 1) (c.drop (m + k)):=by
   have:=hq.drop (n:=k) (c:=qc) (by omega) (by omega);rwa [List.drop_drop] at this
  have hsl:c.length - m - k = c.length - (m + k):=by omega
  rw [hsl];by_cases hfull:n + k = 64
  ·have hst2:HSt (b ++ c.take (m + k)) (Sha.block s (spliceB part n ((c.drop m).take k))) (spliceB part n ((c.drop m).take k)) 0:=by
    have:=hst.full (c:=(c.drop m).take k) (by omega);rwa [List.append_assoc,htk] at this
   generalize spliceB part n ((c.drop m).take k) = part2 at hlen2 hst2 ⊢;refine gG ?_;refine H.drawN (by kernel_rfl) (by decide +kernel) (by repeat (first | exact zac | refine zab ?_ | refine zah ?_ | refine zaj ?_)) ?_;refine HN.move (i:=1) (by kernel_rfl) rfl rfl rfl rfl ?_;refine HN.phase [0,2,3,4,5,6,7,8,9,10,11,12] (S:=[_]) rfl ?_;refine HB.qu [0,2,3,4,5,6,7,8,9] 7 ?_;repeat (first | (refine HQ.Ae (ls:=s.vals) rfl rfl rfl (hRow_rds (by repeat constructor)) rfl rfl ?_) | (refine HQ.Ae (ls:=bytesV part2) rfl rfl rfl (hRow_rdp (by repeat constructor)) (by rw [zad];exact hlen2) rfl ?_) | (refine gh ?_))
   refine qdb ?_;refine HB.ev 10 ?_;refine H.Af rfl rfl rfl (sblock_fn f _ htab hlen2) ?_;refine qcS ?_;refine HB.qu [11,12] 4 ?_;refine gS ?_;refine qdo ?_;refine HB.ev 13 ?_;generalize Sha.block s part2 = s2 at hst2 ⊢;refine H.Ah (ls:=hRow s part2 (n + k) (b ++ c).length) (vs:=s2.vals) (ls':=hRow s2 part2 (n + k) (b ++ c).length) rfl rfl rfl (zaa rfl) rfl (hRow_s _ _ _ _ _) (by rw [hRow_len _ _ _ _ hlen2];show 8 ≤ 74;decide) (by repeat constructor) ?_;refine qcS ?_;refine HB.qu [14,15] 1 ?_;refine qeM ?_;refine HB.ev 16 ?_;refine H.Ay (v:=.int .i64 ((0:Nat):Int)) (ls':=hRow s2 part2 0 (b ++ c).length) rfl rfl rfl rfl (by repeat constructor) (hRow_setn s2 part2 (n + k) 0 _ hlen2) ?_;refine qdD ?_;refine gR ?_;exact H.ag (m + k,s2,part2,0,slP q k qc 1,qc - k) ⟨by show m + k ≤ c.length;omega,hst2,hbat,by show c.length - (m + k) ≤ qc - k;omega⟩ (by show c.length - (m + k) < c.length - m;omega)
  ·have hst2:HSt (b ++ c.take (m + k)) s (spliceB part n ((c.drop m).take k)) (n + k):=by
    have:=hst.more (c:=(c.drop m).take k) (by omega);rw [List.append_assoc,htk,htl] at this
    exact this
   generalize spliceB part n ((c.drop m).take k) = part2 at hlen2 hst2 ⊢;refine gP ?_;exact H.ag (m + k,s,part2,n + k,slP q k qc 1,qc - k) ⟨by show m + k ≤ c.length;omega,hst2,hbat,by show c.length - (m + k) ≤ qc - k;omega⟩ (by show c.length - (m + k) < c.length - m;omega)
 ·have hmc:m = c.length:=by omega
  rw [hmc,List.take_length] at hst;clear hq hqc hc;subst hmc;refine gP ?_;refine H.imp (hashH_fold hst) ?_;exact qaP
end
variable {xb qc:Nat} {x:Bod}
theorem bodAt_rd {pre post:List Value} {qp:Option Addr} (h:At A (bodAt xb T pre post x qp qc) A' (bodAt xb T pre post x qp qc)):Rd f A xb pre.length (x.vals qp qc):=by
 have h1:=Rd.ofRow (f:=f) h;have h2:=h1.sub (pre:=pre) (l:=x.vals qp qc) (post:=post) rfl
 rwa [Nat.zero_add] at h2
section
variable (f:Frag) (F:List HP) (cb:Nat) (s:Cs) (xb:Nat) (T:TypeId) (pre post:List Value)
def qs (qp:Option Addr) (qc:Nat) (q:List (Int × Int)):HP:=slc qp q.length qc 133 2 (q.flatMap pairV)
theorem get_newview (hl:s.l.length ≤ 1000000000) (x:Bod) (hx:x.q = []) :
  Fn Tryz.prog 198 [.pointer (some ⟨cb,0,none⟩),.pointer (some ⟨xb,pre.length,none⟩)] f (cutC f cb s::bodAt xb T pre post x none 0::F)
   (RetE (fun _ : Option Addr × Nat => .tuple #[]) f (fun i => cutC f cb (Cs.pairs ((s.skip 8).num 1) ((s.skip 8).skip 1) []).2 ::
    bodAt xb T pre post { x with view:=(s.num 8:Nat),q:=(Cs.pairs ((s.skip 8).num 1) ((s.skip 8).skip 1) []).1 } i.1 i.2::qs i.1 i.2 (Cs.pairs ((s.skip 8).num 1) ((s.skip 8).skip 1) []).1::F)):=by
 have a1:=s.skip_len 8;have a2:=(s.skip 8).skip_len 1
 have n1:=(s.skip 8).num1_lt;refine Fn.e2 Tryz.func198 Tryz.ntmps198 fun base=>?_
 repeat (first | ((apply H.Au);(iterate 3 exact rfl)) | (first | apply H.seq | apply H.Bf))
 refine H.Af rfl rfl rfl (word_cs f _ cb s (by omega)) ?_;repeat (first | ((apply H.Be);(iterate 3 exact rfl)) | (apply H.Bm;(iterate 3 exact rfl);exact inferInstance;exact rfl) | (apply H.Ay;(iterate 4 exact rfl);(repeat (first | exact .here _ _ _ | apply At.there))))
 ·exact SetV.mid (l:=x.vals none 0) (l':=({ x with view:=(s.num 8:Nat),q:=[] }:Bod).vals none 0) (i:=1) (by rw [show x.vals none 0 = ({ x with q:=[] }:Bod).vals none 0 by rw [← hx]];exact (by repeat (first | exact .here _ _ _ | apply SetV.there))) pre post
 refine gJ ?_;refine H.Af rfl rfl rfl (byte_cs f _ cb (s.skip 8) (by omega)) ?_;refine gR ?_;generalize hs0:(s.skip 8).skip 1 = s0 at a2 ⊢;generalize hN:(s.skip 8).num 1 = N at n1 ⊢;refine H.slc0 133 2 ?_;refine qdm ?_;refine H.Am (.there _ (.there _ (.here _ _))) ?_
 refine H.lo (ι:=Nat × Cs × List (Int × Int) × Option Addr × Nat) (fun i=>[(4,.int .u8 (i.1:Int)),(0,.pointer (some ⟨cb,0,none⟩)),(1,.pointer (some ⟨xb,pre.length,none⟩))]) (fun _=>f)
  (fun i=>bodAt xb T pre post { x with view:=(s.num 8:Nat),q:=i.2.2.1 } i.2.2.2.1 i.2.2.2.2::cutC f cb i.2.1::qs i.2.2.2.1 i.2.2.2.2 i.2.2.1::F)
  (fun i=>i.1 < 256 ∧ i.2.2.1.length + i.1 ≤ 255 ∧ i.2.1.l.length ≤ s.l.length ∧ Cs.pairs N s0 [] = Cs.pairs i.1 i.2.1 i.2.2.1) (fun i=>i.1) (N,s0,[],none,0) ⟨n1,by show 0 + N ≤ 255;omega,by show s0.l.length ≤ _;omega,rfl⟩ fun i hi=>?_
 obtain ⟨n,s',acc,qp,qc⟩:=i;obtain ⟨hn,hacc,hlen,hp⟩:n < 256 ∧ acc.length + n ≤ 255 ∧ s'.l.length ≤ s.l.length ∧ Cs.pairs N s0 [] = Cs.pairs n s' acc:=hi;rw [hp];show H _ _ _ [(4,.int .u8 (n:Int)),(0,.pointer (some ⟨cb,0,none⟩)),(1,.pointer (some ⟨xb,pre.length,none⟩))] _ (bodAt xb T pre post { x with view:=(s.num 8:Nat),q:=acc } qp qc::cutC f cb s'::qs qp qc acc::F) _
 cases n with
 | zero =>
  have h0:¬ (0 < ((0:Nat):Int)):=by omega
  have hp0:Cs.pairs 0 s' acc = (acc,s'):=rfl;rw [hp0]
  refine ga ?_;refine qdm ?_;exact H.end0 rfl (fun _ h=>h) ⟨(qp,qc),rfl,rfl,rfl⟩
 | succ n =>
  have h0:0 < ((n + 1:Nat):Int):=by omega
  refine qdm ?_;refine gc ?_;refine H.Af rfl rfl rfl (ok_cs f _ cb s') ?_
  cases hbad:s'.bad with
  | true =>
   have hp0:Cs.pairs (n + 1) s' acc = (acc,s'):=by simp [Cs.pairs,hbad]
   rw [hp0];refine gY ?_;exact H.end0 rfl (fun _ h=>h) ⟨(qp,qc),rfl,rfl,rfl⟩
  | false =>
   have hp0:Cs.pairs (n + 1) s' acc = Cs.pairs n ((s'.skip 1).skip 8) (acc ++ [(((s'.num 1:Nat):Int),(((s'.skip 1).num 8:Nat):Int))]):=by simp [Cs.pairs,hbad]
   rw [hp0];have b1:=s'.skip_len 1;have b2:=(s'.skip 1).skip_len 8
   have m1:=s'.num1_lt;refine gY ?_
   refine qdm ?_;refine H.dc [0,1,2,3,4,5,6,7,8,9,10,11,12] (S:=[_]) rfl ?_;refine HB.qu [0,1,2,3,4,5,8] 9 ?_;refine gS ?_;refine HQ.Ab rfl rfl rfl (.of (bodAt_rd (by repeat constructor)) (i:=43) rfl) rfl ?_;refine gB ?_;refine qdb ?_;refine HB.ev 6 ?_;refine qdm ?_;refine H.Af rfl rfl rfl (byte_cs f _ cb s' (by omega)) ?_;refine qdR ?_;refine HB.qu [7] 7 ?_;refine gK ?_;refine qge ?_;refine qdm ?_;refine H.Af rfl rfl rfl (word_cs f _ cb (s'.skip 1) (by omega)) ?_;refine qdR ?_;refine HB.qu [10] 5 ?_;refine gN ?_;refine qdb ?_;generalize hpr:((((s'.num 1:Nat):Int),(((s'.skip 1).num 8:Nat):Int)):Int × Int) = pr;refine HB.ev 11 ?_;refine H.Ar (out:=pairV pr) rfl rfl rfl rfl (by decide) (by decide) (by subst hpr;rfl) rfl fun tb=>?_;refine qdR ?_;refine HB.ev 12 ?_;refine H.Aw (m:=1) (news:=pairV pr) rfl rfl rfl rfl rfl (fun p' c'=>(by repeat constructor)) (Src.slice (Rd.ofRow (by repeat constructor)) rfl) (zaa rfl) rfl (show acc.length + 1 ≤ _ by omega) (show (acc.length + 1) * _ ≤ _ by omega) fun p' c'=>?_;refine qcS ?_;refine qgn ?_;refine HB.qu [13,14] 1 ?_;refine qeM ?_;refine HB.ev 15 ?_;repeat ((apply H.Ay;(iterate 4 exact rfl);(repeat (exact .here _ _ _))))
   have e:Value.slice p' (acc.length + 1) c' = .slice p' (acc ++ [pr]).length c':=by rw [List.length_append];rfl
   ·rw [e];exact SetV.mid (l:=({ x with view:=(s.num 8:Nat),q:=acc }:Bod).vals qp qc) (l':=({ x with view:=(s.num 8:Nat),q:=acc ++ [pr] }:Bod).vals p' c') (i:=43) (by repeat (first | exact .here _ _ _ | apply SetV.there)) pre post
   refine qdD ?_;refine H.Ac (.there _ (.here _ _)) ?_;refine gD ?_;refine H.Bh (d:=4) (u:=.int .u8 (n:Int)) rfl (congrArg (Value.int .u8) (by omega)) ?_
   have e2:qs p' c' (acc ++ [pr]) = slc p' (acc.length + 1) c' 133 2 (acc.flatMap pairV ++ pairV pr):=by
    unfold qs;rw [List.length_append,List.flatMap_append];simp
   refine H.Aq (n,(s'.skip 1).skip 8,acc ++ [pr],p',c') ⟨by show n < 256;omega,by show (acc ++ [pr]).length + n ≤ 255;rw [List.length_append];simp only [List.length_cons,List.length_nil];omega,by show ((s'.skip 1).skip 8).l.length ≤ _;omega,?_⟩ (Nat.lt_succ_self n) ⟨rfl,rfl,rfl,trivial⟩ rfl ?_
   ·exact rfl
   ·show _ = bodAt xb T pre post { x with view:=(s.num 8:Nat),q:=acc ++ [pr] } p' c'::cutC f cb ((s'.skip 1).skip 8)::qs p' c' (acc ++ [pr])::F;rw [e2];rfl
end
theorem u8_b8 (z:Int):IntKind.u8.wrap z = ((b8 z).toNat:Int):=u8_wrap z
variable {q:Option Addr}
theorem zbv (h:At A (row xb T (x.vals q qc)) A' (row xb T (x.vals q qc))):Rd f A xb (0 + 3) x.req.vals:=by
 have h1:=Rd.ofRow (f:=f) h;have e:x.vals q qc = [.int .u8 (x.kind.toNat:Nat),.int .u64 x.view,.int .u64 x.k] ++ x.req.vals ++ ([.slice q x.q.length qc] ++ b32 x.dig):=rfl
 exact qbK
theorem row_rtag (h:At A (row xb T (x.vals q qc)) A' (row xb T (x.vals q qc))):Rd f A xb (0 + 3 + 8) (bytesV (b32L x.req.tag)):=by
 have h1:=Rd.ofRow (f:=f) h;have e:x.vals q qc = ([.int .u8 (x.kind.toNat:Nat),.int .u64 x.view,.int .u64 x.k] ++ [.int .i64 x.req.client,.int .u64 x.req.time,.int .u8 (x.req.kind.toNat:Nat),.string x.req.key,.string x.req.val,.string x.req.old,.string x.req.to,.int .u64 x.req.amount]) ++ bytesV (b32L x.req.tag) ++ ([.slice q x.q.length qc] ++ b32 x.dig):=rfl
 exact qbK
theorem row_dig (h:At A (row xb T (x.vals q qc)) A' (row xb T (x.vals q qc))):Rd f A xb (0 + 44) (bytesV (b32L x.dig)):=by
 have h1:=Rd.ofRow (f:=f) h;have e:x.vals q qc = ([.int .u8 (x.kind.toNat:Nat),.int .u64 x.view,.int .u64 x.k] ++ x.req.vals ++ [.slice q x.q.length qc]) ++ bytesV (b32L x.dig) ++ []:=(List.append_nil _).symm
 exact qbK
theorem Req.bytes_len (r:Req):r.bytes.length = 26 + r.key.size + r.val.size + r.old.size + r.to.size:=by
 unfold Req.bytes textB;simp only [List.length_append,be_len,zbr];show 2 + 8 + 8 + _ + _ + _ + _ = _;omega
section
variable (f:Frag) (A:List HP) (x:Bod) (q:Option Addr) (qc:Nat)
theorem may_prepare:Fn Tryz.prog 192 [.agg (x.vals q qc).toArray] f A (Ret (.bool (decide x.req.asked)) f A):=by
 refine Fn.e1 Tryz.func192 Tryz.ntmps192 fun base=>?_;refine qdB fun xb=>?_;refine gF ?_;refine H.Ae (ls:=x.req.vals) rfl rfl rfl (zbv (by repeat constructor)) rfl rfl ?_;refine H.Af rfl rfl rfl (asked_fn f _ x.req) ?_;refine gR ?_;exact qaz
theorem may_newview (hq:QAt f q x.q) (hl:x.q.length ≤ 1000000000000):Fn Tryz.prog 201 [.agg (x.vals q qc).toArray] f A (Ret (.bool (decide (1 ≤ x.view) && (quo 0 x.q && decide (0 < x.q.length)))) f A):=by
 by_cases hv:1 ≤ x.view
 ·refine Fn.e1 Tryz.func201 Tryz.ntmps201 fun base=>?_;refine qdB fun xb=>?_;refine gT ?_;refine H.Af rfl rfl rfl (quorum_fn f _ hq hl) ?_;refine gL ?_;refine qdp ?_;exact H.Ad rfl rfl (fun _ h=>h) ⟨by rw [decide_eq_true hv,Bool.true_and],rfl,rfl⟩
 ·refine Fn.e1 Tryz.func201 Tryz.ntmps201 fun base=>?_;refine qdB fun xb=>?_;refine ga ?_;refine qdp ?_;exact H.Ad rfl rfl (fun _ h=>h) ⟨by rw [decide_eq_false hv,Bool.false_and],rfl,rfl⟩
theorem put_commit (hs:Src Tryz.prog f A (.slice p l.length c) 1 l.length (bytesV l)) (hn:p = none→l = []) (hl:l.length ≤ 100000000) :
  Fn Tryz.prog 193 [.slice p l.length c,.agg (x.vals q qc).toArray] f A (BytesR (l ++ (be 8 x.view ++ be 8 x.k)) f A):=by
 refine Fn.e2 Tryz.func193 Tryz.ntmps193 fun base=>?_;refine qdB fun xb=>?_;refine qgt ?_;refine HB.qu [0,1,2,4,5] 3 ?_;refine qeM ?_;refine HB.ev 3 ?_;refine qgK fun p1 c1=>?_;refine qdR ?_;refine HB.ev 6 ?_;have h1:(l ++ be 8 x.view).length = l.length + 8:=by rw [List.length_append,be_len]
 generalize hl1:l ++ be 8 x.view = l1 at h1;refine H.Av (.there _ (.here _ _ _)) (by omega) fun b3 hp=>?_;subst hp;refine qgI fun p4 c4=>?_;refine gA ?_;refine qeC ?_;refine qdm ?_;refine qdI ?_;refine HB.qu [7] 0 ?_;refine qg ?_;refine qfm ?_;exact H.Ad rfl rfl (fun _ h=>h) ⟨p4,c4,by rw [← List.append_assoc,hl1],rfl,by rw [← List.append_assoc,hl1];rfl⟩
theorem put_prepare (hs:Src Tryz.prog f A (.slice p l.length c) 1 l.length (bytesV l)) (hn:p = none→l = []) (ha:x.req.asked) (hl:l.length ≤ 100000000) :
  Fn Tryz.prog 186 [.slice p l.length c,.agg (x.vals q qc).toArray] f A (BytesR (l ++ (be 8 x.view ++ x.req.bytes ++ b32L x.req.tag)) f A):=by
 have hb:x.req.bytes.length ≤ 1000:=by
  obtain ⟨_,_,_,_,⟨k1,k2⟩,k3,k4⟩:=ha;rw [Req.bytes_len];omega
 refine Fn.e2 Tryz.func186 Tryz.ntmps186 fun base=>?_;refine qdB fun xb=>?_;refine qgt ?_;refine HB.qu [0,1,2,4,5,7,8,9] 4 ?_;refine gS ?_;refine HQ.Ae (ls:=x.req.vals) rfl rfl rfl (zbv (by repeat constructor)) rfl rfl ?_;refine gQ ?_;refine qdr ?_;refine qdb ?_;refine HB.ev 3 ?_;refine qgK fun p1 c1=>?_;refine qdR ?_;refine HB.ev 6 ?_;have h1:(l ++ be 8 x.view).length = l.length + 8:=by rw [List.length_append,be_len]
 generalize hl1:l ++ be 8 x.view = l1 at h1;refine qdm ?_;refine H.Ap rfl rfl rfl (request_fn f _ x.req ha (by omega)) fun p2 c2=>?_;have h2:(l1 ++ x.req.bytes).length = l1.length + x.req.bytes.length:=List.length_append;generalize hl2:l1 ++ x.req.bytes = l2 at h2
 refine qdR ?_;refine HB.ev 10 ?_;refine H.Aw (m:=32) rfl rfl rfl rfl rfl (fun p' c'=>(by repeat constructor)) (Src.slice (row_rtag (by repeat constructor)) rfl) (zal _) rfl (by omega) (by omega) fun p3 c3=>?_;refine qcS ?_;refine HB.qu [11] 0 ?_;refine qg ?_;refine qfm ?_;have e3:(l ++ (be 8 x.view ++ x.req.bytes ++ b32L x.req.tag)) = l2 ++ b32L x.req.tag:=by rw [← hl2,← hl1];simp only [List.append_assoc]
 exact qcd
theorem put_check (hs:Src Tryz.prog f A (.slice p l.length c) 1 l.length (bytesV l)) (hn:p = none→l = []) (hl:l.length ≤ 100000000) :
  Fn Tryz.prog 203 [.slice p l.length c,.agg (x.vals q qc).toArray] f A (BytesR (l ++ (be 8 x.k ++ b32L x.dig)) f A):=by
 refine Fn.e2 Tryz.func203 Tryz.ntmps203 fun base=>?_;refine qdB fun xb=>?_;refine qgt ?_;refine HB.qu [0,1,2,4,5] 3 ?_;refine gS ?_;refine qdr ?_;refine qdb ?_;refine HB.ev 3 ?_;refine qgK fun p1 c1=>?_;refine qdR ?_;refine HB.ev 6 ?_;have h1:(l ++ be 8 x.k).length = l.length + 8:=by rw [List.length_append,be_len]
 generalize hl1:l ++ be 8 x.k = l1 at h1;refine H.Aw (m:=32) rfl rfl rfl rfl rfl (fun p' c'=>(by repeat constructor)) (Src.slice (row_dig (by repeat constructor)) rfl) (zal _) rfl (by omega) (by omega) fun p3 c3=>?_;refine qcS ?_;refine HB.qu [7] 0 ?_;refine qg ?_;refine qfm ?_;have e3:(l ++ (be 8 x.k ++ b32L x.dig)) = l1 ++ b32L x.dig:=by rw [← hl1];simp only [List.append_assoc]
 exact qcd
theorem put_view (hs:Src Tryz.prog f A (.slice p l.length c) 1 l.length (bytesV l)) (hn:p = none→l = []) (hl:l.length ≤ 100000000) :
  Fn Tryz.prog 241 [.slice p l.length c,.agg (x.vals q qc).toArray] f A (BytesR (l ++ be 8 x.view) f A):=view1_fn f A x q qc hs hn (by omega)
theorem put_newview (hs:Src Tryz.prog f A (.slice p l.length c) 1 l.length (bytesV l)) (hn:p = none→l = []) (hq:QAt f q x.q) (hql:x.q.length ≤ 1000) (hl:l.length ≤ 100000000) :
  Fn Tryz.prog 197 [.slice p l.length c,.agg (x.vals q qc).toArray] f A (BytesR (l ++ (be 8 x.view ++ [b8 x.q.length] ++ x.q.flatMap pairB)) f A):=by
 have h1:(l ++ be 8 x.view).length = l.length + 8:=by rw [List.length_append,be_len]
 refine Fn.e2 Tryz.func197 Tryz.ntmps197 fun base=>?_;refine qdB fun xb=>?_;refine gJ ?_;refine H.cut (ι:=Option Addr × Nat) (fun i=>[(0,.slice i.1 ((l ++ be 8 x.view).length + 1) i.2),(3,.pointer (some ⟨xb,0,none⟩))]) (fun _=>f) (fun i=>row xb 47 (x.vals q qc)::slc i.1 ((l ++ be 8 x.view).length + 1) i.2 5 1 (bytesV (l ++ be 8 x.view) ++ bytesV [b8 x.q.length])::A) (fun _=>True) _ (fun i _=>?_) ?_
 ·obtain ⟨p1,c1⟩:=i;generalize hl0:l ++ be 8 x.view ++ [b8 x.q.length] = l0;have e0:l0.length = (l ++ be 8 x.view).length + 1:=by rw [← hl0,List.length_append];rfl
  have e1:bytesV l0 = bytesV (l ++ be 8 x.view) ++ bytesV [b8 x.q.length]:=by rw [← hl0,zag]
  show H _ _ _ [(0,.slice p1 ((l ++ be 8 x.view).length + 1) c1),_] _ (row _ _ _::slc p1 ((l ++ be 8 x.view).length + 1) c1 _ _ (bytesV (l ++ be 8 x.view) ++ bytesV [b8 x.q.length])::A) _;rw [← e0,← e1];refine gM ?_
  refine H.loop (ι:=Nat × Option Addr × Nat) (fun i=>[(20,.int .i64 (i.1:Int)),(19,.int .i64 (x.q.length:Nat)),(18,.slice q x.q.length qc),(0,.slice i.2.1 (l0 ++ (x.q.take i.1).flatMap pairB).length i.2.2),(3,.pointer (some ⟨xb,0,none⟩))]) (fun _=>f)
   (fun i=>row xb 47 (x.vals q qc)::slc i.2.1 (l0 ++ (x.q.take i.1).flatMap pairB).length i.2.2 5 1 (bytesV (l0 ++ (x.q.take i.1).flatMap pairB))::A)
   (fun i=>i.1 ≤ x.q.length ∧ (l0 ++ (x.q.take i.1).flatMap pairB).length = l0.length + 9 * i.1) (fun i=>x.q.length - i.1) (0,p1,c1) ⟨Nat.zero_le _,by simp⟩ ⟨rfl,rfl,rfl,?_,rfl,trivial⟩ rfl ?_ fun i hi=>?_
  ·show some (Value.slice p1 l0.length c1) = some (Value.slice p1 (l0 ++ []).length c1);rw [List.append_nil]
  ·show _ = _::slc p1 (l0 ++ []).length c1 _ 1 (bytesV (l0 ++ []))::A;rw [List.append_nil]
  ·obtain ⟨i,p',c'⟩:=i;obtain ⟨hi,hlen⟩:i ≤ x.q.length ∧ (l0 ++ (x.q.take i).flatMap pairB).length = l0.length + 9 * i:=hi;show H _ _ _ [(20,.int .i64 (i:Int)),_,_,(0,.slice p' (l0 ++ (x.q.take i).flatMap pairB).length c'),_] _ (_::slc p' (l0 ++ (x.q.take i).flatMap pairB).length c' _ 1 (bytesV (l0 ++ (x.q.take i).flatMap pairB))::A) _;generalize hacc:l0 ++ (x.q.take i).flatMap pairB = acc at hlen;by_cases hlt:i < x.q.length
   ·have hx:x.q[i]? = some x.q[i]:=List.getElem?_eq_getElem hlt;generalize x.q[i] = pr at hx
    have e3:l0 ++ (x.q.take (i + 1)).flatMap pairB = acc ++ [b8 pr.1] ++ be 8 pr.2:=by
     rw [List.take_add_one,hx,← hacc];simp [pairB]
    obtain ⟨b,off,cs,T,fr,rfl,hfb,hcs⟩:=hq i pr hx;have rd:∀ A,Rd f A b (off + i * 2) (pairV pr):=fun A=>Rd.imm hfb hcs;clear hcs hfb
    refine gG ?_;refine H.Ag rfl rfl rfl rfl hlt rfl ?_;refine H.Ae (ls:=pairV pr) rfl rfl rfl (rd _) rfl rfl ?_;refine H.Ak rfl rfl rfl fun pb=>?_;refine H.Ah (ls:=[.int .i64 0,.int .u64 0]) (vs:=pairV pr) (ls':=pairV pr) rfl rfl rfl (zaa rfl) rfl rfl (Nat.le_refl 2) (by repeat constructor) ?_;refine qfn ?_;refine HB.qu [0,1,2,3,6,7] 4 ?_;refine gS ?_;rw [u8_b8];refine qdb ?_;refine HB.ev 4 ?_;refine H.Ar (out:=bytesV [b8 pr.1]) rfl rfl rfl rfl (by decide) (by decide) rfl rfl fun tb=>?_;refine qdR ?_;refine HB.ev 5 ?_;refine qgw fun p3 c3=>?_;refine gA ?_;refine H.Ac (.there _ (.here _ _)) ?_;refine qdI ?_;refine HB.ev 8 ?_;have f0:(acc ++ [b8 pr.1]).length = acc.length + 1:=by rw [List.length_append];rfl
    have f1:bytesV (acc ++ [b8 pr.1]) = bytesV acc ++ bytesV [b8 pr.1]:=zag _ _;generalize acc ++ [b8 pr.1] = l4 at f0 f1 e3
    show H _ _ _ _ _ (row _ _ _::row _ _ _::slc p3 (acc.length + 1) c3 _ _ (bytesV acc ++ bytesV [b8 pr.1])::A) _;rw [← f0,← f1];refine H.Av (.there _ (.there _ (.here _ _ _))) (by omega) fun b3 hp=>?_;subst hp;refine H.Ap rfl rfl rfl (word_fn (l:=l4) f _ (Src.slcS (.there _ (.there _ (.here _ _ _))) (by rw [zad];exact (Nat.mul_one _).symm)) (fun h=>by cases h) (by omega)) fun p4 c4=>?_;refine gA ?_;refine H.Ac (.there _ (.there _ (.there _ (.here _ _)))) ?_;refine qdm ?_;refine qdI ?_;refine HB.qu [9] 0 ?_;refine qg ?_;refine gD ?_;refine qdp ?_;refine qdm ?_;refine H.Aq (i + 1,p4,c4) ⟨by show i + 1 ≤ x.q.length;omega,?_⟩ (by show x.q.length - (i + 1) < x.q.length - i;omega) ⟨rfl,rfl,rfl,?_,rfl,trivial⟩ rfl ?_
    ·show (l0 ++ (x.q.take (i + 1)).flatMap pairB).length = l0.length + 9 * (i + 1);rw [e3,List.length_append,be_len];omega
    ·show some _ = some (Value.slice p4 (l0 ++ (x.q.take (i + 1)).flatMap pairB).length c4);rw [e3]
    ·show _ = _::slc p4 (l0 ++ (x.q.take (i + 1)).flatMap pairB).length c4 _ 1 (bytesV (l0 ++ (x.q.take (i + 1)).flatMap pairB))::A;rw [e3]
   ·have:i = x.q.length:=by omega
    subst this;rw [List.take_length] at hacc;refine gP ?_;refine qdp ?_;have e9:l ++ (be 8 x.view ++ [b8 x.q.length] ++ x.q.flatMap pairB) = acc:=by rw [← hacc,← hl0];simp only [List.append_assoc]
    exact H.Ad rfl rfl (fun _ h=>h) ⟨p',c',by rw [e9],rfl,by rw [e9]⟩
 ·refine qdA ?_;refine HB.qu [0,1,2,4,5,6,7] 4 ?_;refine gS ?_;rw [u8_b8];refine qdb ?_;refine HB.ev2 (i:=3) (j:=8) (by kernel_rfl) rfl rfl ?_ ?_
  ·refine qgK fun p1 c1=>?_;refine qdR ?_;refine HB.ev 8 ?_;refine H.Ar (out:=bytesV [b8 x.q.length]) rfl rfl rfl rfl (by decide) (by decide) rfl rfl fun tb=>?_;refine qdR ?_;refine HB.ev 9 ?_;refine qgw fun p3 c3=>?_;refine gA ?_;refine H.Ac (.there _ (.here _ _)) ?_;exact qbI
  ·refine H.Ar (out:=bytesV [b8 x.q.length]) rfl rfl rfl rfl (by decide) (by decide) rfl rfl fun tb=>?_;refine qdR ?_;refine HB.ev 3 ?_;refine H.Ap rfl rfl rfl (word_fn f _ hs.cons.cons hn (by omega)) fun p1 c1=>?_;refine qdR ?_;refine HB.ev 9 ?_;refine H.Aw (m:=1) rfl rfl rfl rfl rfl (fun p' c'=>(by repeat constructor)) (Src.slice (Rd.ofRow (.there _ (.there _ (.here _ _ _)))) rfl) (zal _) rfl (by omega) (by omega) fun p3 c3=>?_;refine gA ?_;refine qeC ?_;exact qbI
end
theorem eqC_pair (p r:Int × Int):eqC (pairV p) (pairV r) = decide (p = r):=by
 obtain ⟨a,b⟩:=p;obtain ⟨c,d⟩:=r;simp only [pairV,eqC,eqv,Bool.and_true,Prod.mk.injEq];by_cases h1:a = c <;> by_cases h2:b = d <;> simp [h1,h2]
def Bod.eqB (a b:Bod):Bool:=decide ((a.kind.toNat:Int) = b.kind.toNat) && decide (a.view = b.view) && decide (a.k = b.k) && eqC a.req.vals b.req.vals && decide (a.q = b.q) && eqC (b32 a.dig) (b32 b.dig)
def Bod.may (x:Bod):Bool:=Bod.eqB x.own x && decide (x.view < 1073741824) && x.mayK x.kind.toNat
variable {r:Option Addr} {d:Nat} {a:Bod}
section
variable (f:Frag) (F:List HP)
theorem take_eq_succ {α:Type} {l m:List α} {i:Nat} {x y:α} (h:l.take i = m.take i) (hx:l[i]? = some x) (hy:m[i]? = some y) (e:x = y):l.take (i + 1) = m.take (i + 1):=by
 rw [List.take_add_one,List.take_add_one,h,hx,hy,e]
theorem equalPairs_fn {l m:List (Int × Int)} (hp:QAt f p l) (hr:QAt f r m) (hl:l.length ≤ 1000000000) :
  Fn Tryz.prog 207 [.slice p l.length c,.slice r m.length d] f F (Ret (.bool (decide (l = m))) f F):=by
 by_cases hlen:(l.length:Int) = m.length
 ·have hlen':l.length = m.length:=by omega
  refine Fn.e2 Tryz.func207 Tryz.ntmps207 fun base=>?_;refine gP ?_;rw [decide_eq_false (by omega)];skip;refine H.lo (ι:=Nat) (fun i=>[(13,.int .i64 (i:Int)),(12,.int .i64 (l.length:Nat)),(0,.slice p l.length c),(1,.slice r m.length d)]) (fun _=>f) (fun _=>F) (fun i=>i ≤ l.length ∧ l.take i = m.take i) (fun i=>l.length - i) 0 ⟨Nat.zero_le _,rfl⟩ fun i hi=>?_;exact qaj
 ·refine Fn.e2 Tryz.func207 Tryz.ntmps207 fun base=>?_;exact qci
theorem same_fn {b:Bod} (hp:QAt f p a.q) (hr:QAt f r b.q) (hl:a.q.length ≤ 1000000000) :
  Fn Tryz.prog 132 [.agg (a.vals p c).toArray,.agg (b.vals r d).toArray] f F (Ret (.bool (Bod.eqB a b)) f F):=by
 by_cases h1:(a.kind.toNat:Int) = b.kind.toNat
 ·skip;by_cases h2:a.view = b.view
  ·skip;by_cases h3:a.k = b.k
   ·skip;by_cases h4:eqC a.req.vals b.req.vals = true
    ·skip;by_cases h5:a.q = b.q
     ·skip;try simp only [Bool.not_eq_true] at *
      refine Fn.e2 Tryz.func132 Tryz.ntmps132 fun base=>?_;repeat (first | (refine gg ?_) | (refine H.box (ls:=a.vals p c) rfl rfl rfl rfl fun ab=>?_) | (refine H.box (ls:=b.vals r d) rfl rfl rfl rfl fun bb=>?_) | (refine H.Ae (ls:=a.req.vals) rfl rfl rfl (zbv (by repeat constructor)) rfl rfl ?_) | (refine H.Ae (ls:=b.req.vals) rfl rfl rfl (zbv (by repeat constructor)) rfl rfl ?_) | (refine H.aggEq (xs:=a.req.vals) (ys:=b.req.vals) (D:=4) rfl rfl rfl rfl (by kernel_rfl) (by kernel_rfl) (by kernel_rfl) (by kernel_rfl) (by decide) rfl rfl ?_) | (refine H.Af rfl rfl rfl (equalPairs_fn f _ hp hr hl) ?_) | (refine H.Ae (ls:=bytesV (b32L a.dig)) rfl rfl rfl (row_dig (by repeat constructor)) rfl rfl ?_) | (refine H.Ae (ls:=bytesV (b32L b.dig)) rfl rfl rfl (row_dig (by repeat constructor)) rfl rfl ?_) | (refine H.aggEq (xs:=bytesV (b32L a.dig)) (ys:=bytesV (b32L b.dig)) (b:=eqC (b32 a.dig) (b32 b.dig)) (D:=4) rfl rfl rfl rfl (by kernel_rfl) (by kernel_rfl) (by kernel_rfl) (by kernel_rfl) (by decide) rfl rfl ?_))
      exact qay
     ·skip;try simp only [Bool.not_eq_true] at *
      refine Fn.e2 Tryz.func132 Tryz.ntmps132 fun base=>?_;repeat (first | (refine gg ?_) | (refine H.box (ls:=a.vals p c) rfl rfl rfl rfl fun ab=>?_) | (refine H.box (ls:=b.vals r d) rfl rfl rfl rfl fun bb=>?_) | (refine H.Ae (ls:=a.req.vals) rfl rfl rfl (zbv (by repeat constructor)) rfl rfl ?_) | (refine H.Ae (ls:=b.req.vals) rfl rfl rfl (zbv (by repeat constructor)) rfl rfl ?_) | (refine H.aggEq (xs:=a.req.vals) (ys:=b.req.vals) (D:=4) rfl rfl rfl rfl (by kernel_rfl) (by kernel_rfl) (by kernel_rfl) (by kernel_rfl) (by decide) rfl rfl ?_) | (refine H.Af rfl rfl rfl (equalPairs_fn f _ hp hr hl) ?_))
      exact qay
    ·skip;try simp only [Bool.not_eq_true] at *
     refine Fn.e2 Tryz.func132 Tryz.ntmps132 fun base=>?_;exact qaO
   ·exact qbt
  ·exact qbt
 ·exact qbt
end
def fnV (f:FuncId):Value:=.func (.func f) #[] #[]
def codecCells (a b c:FuncId):List Value:=[fnV a,fnV b,fnV c]
def codecV (a b c:FuncId):Value:=.agg (codecCells a b c).toArray
def encU8:Int→Value:=fun k=>Value.int .u8 k
instance keyU8:KeyT Tryz.prog 5 encU8:=keyT_int ⟨Tryz.underlying5⟩
def codecsM:List (Int × Value):=[
 (1,codecV 186 189 192),
 (2,codecV 193 194 195),
 (3,codecV 241 242 243),
 (5,codecV 241 242 243),
 (4,codecV 197 198 201),
 (6,codecV 203 204 195)]
variable {fid:FuncId}
theorem Fn.monoA {args:List Value} {R R':Value→Frag→List HP→Prop} (h:Fn P fid args f A R)
  (hr:∀ v f' A',R v f' A'→∃ A'',R' v f' A'' ∧ ∀ x,stars A' x→stars A'' x):Fn P fid args f A R':=
 fun base w s=>(h base w s).mono fun _ _ ⟨v,f',A',e,r,s'⟩=>by
  obtain ⟨A'',r',hx⟩:=hr _ _ _ r
  exact ⟨v,f',A'',e,r',s'.imp hx⟩
variable {sz:Nat}
theorem stars_nil_slc {x:Frag} (h:stars A x):stars (slc none 0 0 T sz []::A) x:=
 ⟨nil0,x,(Dj.nil x).symm,(nil_un x).symm,slc_nil none T sz,h⟩
def MayC (fid:FuncId) (kind:Nat):Prop:=∀ (f:Frag) (A:List HP) (x:Bod) (q:Option Addr) (qc:Nat),QAt f q x.q→x.q.length ≤ 1000000000→Fn Tryz.prog fid [.agg (x.vals q qc).toArray] f A (Ret (.bool (x.mayK kind)) f A)
def PutC (fid:FuncId) (kind:Nat):Prop:=∀ (f:Frag) (A:List HP) (x:Bod) (q:Option Addr) (qc:Nat) (p:Option Addr) (c:Nat) (l:List UInt8),Src Tryz.prog f A (.slice p l.length c) 1 l.length (bytesV l)→(p = none→l = [])→QAt f q x.q→x.mayK kind = true→x.q.length ≤ 11→l.length ≤ 100000000 →
 Fn Tryz.prog fid [.slice p l.length c,.agg (x.vals q qc).toArray] f A (BytesR (l ++ x.putK kind) f A)
def GetR (f:Frag) (F:List HP) (cb:Nat) (xb:Nat) (T:TypeId) (pre post:List Value) (r:Bod × Cs):Value→Frag→List HP→Prop:=
 RetE (fun _:Option Addr × Nat=>.tuple #[]) f (fun i=>cutC f cb r.2::bodAt xb T pre post r.1 i.1 i.2::qs i.1 i.2 r.1.q::F)
def GetC (fid:FuncId) (kind:Nat):Prop:=∀ (f:Frag) (F:List HP) (cb:Nat) (s:Cs) (xb:Nat) (T:TypeId) (pre post:List Value) (k8:UInt8),s.l.length ≤ 1000000000 →
 Fn Tryz.prog fid [.pointer (some ⟨cb,0,none⟩),.pointer (some ⟨xb,pre.length,none⟩)] f (cutC f cb s::bodAt xb T pre post (Bod.zero k8) none 0::F) (GetR f F cb xb T pre post (s.bodyK 32 128 k8 kind))
theorem getC_of {kind:Nat} (h:∀ (f:Frag) (F:List HP) (cb:Nat) (s:Cs) (xb:Nat) (T:TypeId) (pre post:List Value) (k8:UInt8),s.l.length ≤ 1000000000 →
  (s.bodyK 32 128 k8 kind).1.q = [] ∧ Fn Tryz.prog fid [.pointer (some ⟨cb, 0, none⟩), .pointer (some ⟨xb, pre.length, none⟩)] f (cutC f cb s :: bodAt xb T pre post (Bod.zero k8) none 0 :: F)
   (Ret (.tuple #[]) f (cutC f cb (s.bodyK 32 128 k8 kind).2::bodAt xb T pre post (s.bodyK 32 128 k8 kind).1 none 0::F))):GetC fid kind:=fun f F cb s xb T pre post k8 hl=>by
 obtain ⟨hq,hf⟩:=h f F cb s xb T pre post k8 hl
 refine hf.monoA fun v f' A' hr=>?_
 obtain ⟨rfl,rfl,rfl⟩:=hr
 refine ⟨_,⟨(none,0),rfl,rfl,rfl⟩,?_⟩
 refine keep_stars (keep_stars ?_)
 intro x hx
 rw [hq]
 exact stars_nil_slc hx
theorem may1:MayC 192 1:=fun f A x q qc _ _=>may_prepare f A x q qc
theorem may2:MayC 195 2:=fun f A x q qc _ _=>k_fn f A x q qc
theorem may6:MayC 195 6:=fun f A x q qc _ _=>k_fn f A x q qc
theorem may3:MayC 243 3:=fun f A x q qc _ _=>view3_fn f A x q qc
theorem may5:MayC 243 5:=fun f A x q qc _ _=>view3_fn f A x q qc
theorem may4:MayC 201 4:=fun f A x q qc hq hl=>may_newview f A x q qc hq (by omega)
theorem put1:PutC 186 1:=fun f A x q qc p c l hs hn _ hm _ hl=>put_prepare f A x q qc hs hn (of_decide_eq_true hm) hl
theorem put2:PutC 193 2:=fun f A x q qc p c l hs hn _ _ _ hl=>put_commit f A x q qc hs hn hl
theorem put3:PutC 241 3:=fun f A x q qc p c l hs hn _ _ _ hl=>put_view f A x q qc hs hn hl
theorem put5:PutC 241 5:=fun f A x q qc p c l hs hn _ _ _ hl=>put_view f A x q qc hs hn hl
theorem put6:PutC 203 6:=fun f A x q qc p c l hs hn _ _ _ hl=>put_check f A x q qc hs hn hl
theorem put4:PutC 197 4:=fun f A x q qc p c l hs hn hq _ hql hl=>put_newview f A x q qc hs hn hq (by omega) hl
theorem get1:GetC 189 1:=getC_of fun f F cb s xb T pre post k8 hl=>⟨rfl,get_prepare f F cb s xb T pre post hl (Bod.zero k8) none 0⟩
theorem get2:GetC 194 2:=getC_of fun f F cb s xb T pre post k8 hl=>⟨rfl,get_commit f F cb s xb T pre post hl (Bod.zero k8) none 0⟩
theorem get3:GetC 242 3:=getC_of fun f F cb s xb T pre post k8 hl=>⟨rfl,get_view f F cb s xb T pre post hl (Bod.zero k8) none 0⟩
theorem get5:GetC 242 5:=getC_of fun f F cb s xb T pre post k8 hl=>⟨rfl,get_view f F cb s xb T pre post hl (Bod.zero k8) none 0⟩
theorem get6:GetC 204 6:=getC_of fun f F cb s xb T pre post k8 hl=>⟨rfl,get_check f F cb s xb T pre post hl (Bod.zero k8) none 0⟩
theorem get4:GetC 198 4:=fun f F cb s xb T pre post k8 hl=>get_newview f F cb s xb T pre post hl (Bod.zero k8) rfl
section
variable (f:Frag) (F:List HP)
theorem view_fn:Fn Tryz.prog 196 [] f F (Ret (codecV 241 242 243) f F):=by
 refine Fn.e0 Tryz.func196 Tryz.ntmps196 fun base=>?_;refine gA ?_;refine qfC fun vb=>?_;refine gL ?_;refine H.Ah (ls:=[.nilFunc,.nilFunc,.nilFunc]) (vs:=codecCells _ _ _) (ls':=codecCells _ _ _) rfl rfl rfl (zaa rfl) rfl rfl (Nat.le_refl 3) (by repeat constructor) ?_;refine gR ?_;exact qae
theorem codecs_fn:Fn Tryz.prog 130 [] f F (RetE (fun b=>.map (some b)) f (fun b=>mp b encU8 codecsM::F)):=by
 refine Fn.e0 Tryz.func130 Tryz.ntmps130 fun base=>?_;refine gJ ?_;refine H.makeMap encU8 rfl rfl fun mb=>?_;repeat (first | (refine gg ?_) | (refine H.mapInsert (enc:=encU8) rfl rfl rfl rfl (.here _ _ _) rfl ?_) | (refine H.Af rfl rfl rfl (view_fn f _) ?_))
 exact H.r1 ⟨mb,rfl,rfl,rfl⟩
end
variable {g:Frag}
theorem BAt.mono (h:Le f g) (hb:BAt f p l):BAt g p l:=by
 rcases hb with rfl | ⟨b,off,cs,T,fr,h1,h2,h3⟩
 ·exact .inl rfl
 ·exact .inr ⟨b,off,cs,T,fr,h1,h _ _ h2,h3⟩
theorem QAt.mono (h:Le f g) {l:List (Int × Int)} (hb:QAt f p l):QAt g p l:=fun i x hx=>by
 obtain ⟨b,off,cs,T,fr,h1,h2,h3⟩:=hb i x hx
 exact ⟨b,off,cs,T,fr,h1,h _ _ h2,h3⟩
theorem flat_pair_get:∀ (q:List (Int × Int)) (i:Nat) (x:Int × Int),q[i]? = some x→∀ j,j < (pairV x).length→(q.flatMap pairV)[i * 2 + j]? = (pairV x)[j]?
 | [],i,x,h,j,hj=>by simp at h
 | y :: q, 0, x, h, j, hj => by
  simp at h;subst h
  rw [List.flatMap_cons,Nat.zero_mul,Nat.zero_add,List.getElem?_append_left hj]
 | y :: q, i + 1, x, h, j, hj => by
  rw [List.flatMap_cons,List.getElem?_append_right (by show (2:Nat) ≤ _;omega)]
  rw [show (i + 1) * 2 + j - (pairV y).length = i * 2 + j by show (i + 1) * 2 + j - 2 = _;omega]
  exact flat_pair_get q i x (by simpa using h) j hj
theorem qs_qat {q:List (Int × Int)} (h:qs p c q g) (hd:Dj f g):QAt (un f g) p q:=fun i x hx=>by
 obtain ⟨_,_,h3⟩:=h
 have hi:i < q.length:=by
  rcases Nat.lt_or_ge i q.length with h | h
  ·exact h
  ·simp [List.getElem?_eq_none h] at hx
 rcases h3 with ⟨h0,_,_⟩ | ⟨b,sp,rfl,h4,h5,rfl⟩
 ·omega
 ·refine ⟨b,0,(q.flatMap pairV ++ sp).toArray,133,(0,0),rfl,?_,fun j hj=>?_⟩
  ·show (f b).or (sing b _ b) = _
   have:f b = none:=by
    rcases hd b with h | h
    ·exact h
    ·simp [sing] at h
   rw [this]
   simp [sing]
  ·rw [Nat.zero_add]
   simp only [List.getElem?_toArray]
   have h6:=flat_pair_get q i x hx j hj
   rw [List.getElem?_append_left ?_,h6]
   rcases Nat.lt_or_ge (i * 2 + j) (q.flatMap pairV).length with h | h
   ·exact h
   ·rw [List.getElem?_eq_none h] at h6
    rw [List.getElem?_eq_getElem hj] at h6
    cases h6
def Bod.back (x:Bod) (kind:Nat):Bod:=((⟨x.putK kind,false⟩:Cs).bodyK 32 128 x.kind kind).1
def Bod.mayP (x:Bod) (kind:Nat):Bool:=decide (x.view < 1073741824) && (x.mayK kind && (decide (x.q.length ≤ 11) && Bod.eqB x (x.back kind)))
section
variable (f:Frag) (F:List HP)
theorem flat_pairB_len:∀ q:List (Int × Int),(q.flatMap pairB).length = 9 * q.length
 | []=>rfl
 | p :: q => by
  rw [List.flatMap_cons,List.length_append,flat_pairB_len q]
  show (be 8 p.2).length + 1 + 9 * q.length = 9 * (q.length + 1)
  rw [be_len];omega
theorem putK_len (x:Bod) (kind:Nat) (hm:x.mayK kind = true) (hq:x.q.length ≤ 11):0 < (x.putK kind).length ∧ (x.putK kind).length ≤ 2000:=by
 match kind,hm with
 | 1, hm =>
  obtain ⟨_,_,_,_,⟨k1,k2⟩,k3,k4⟩:=of_decide_eq_true hm;show 0 < (be 8 x.view ++ x.req.bytes ++ b32L x.req.tag).length ∧ (be 8 x.view ++ x.req.bytes ++ b32L x.req.tag).length ≤ 2000;rw [List.length_append,List.length_append,be_len,Req.bytes_len];show 0 < 8 + _ + 32 ∧ 8 + _ + 32 ≤ 2000;omega
 | 2,_=>simp [Bod.putK,be_len]
 | 3,_=>simp [Bod.putK,be_len]
 | 4, _ =>
  show 0 < (be 8 x.view ++ [b8 x.q.length] ++ x.q.flatMap pairB).length ∧ (be 8 x.view ++ [b8 x.q.length] ++ x.q.flatMap pairB).length ≤ 2000;rw [List.length_append,List.length_append,be_len,flat_pairB_len];show 0 < 8 + 1 + _ ∧ 8 + 1 + _ ≤ 2000;omega
 | 5,_=>simp [Bod.putK,be_len]
 | 6,_=>simp [Bod.putK,be_len,b32L]
theorem body_fn (kind:Nat) (hk:x.kind.toNat = kind) (f1 f2 f3:FuncId) [Fun Tryz.prog f1] [Fun Tryz.prog f2] [Fun Tryz.prog f3] (hput:PutC f1 kind) (hget:GetC f2 kind) (hmay:MayC f3 kind)
  (hcod:getKV codecsM (kind:Int) = some (codecV f1 f2 f3)) (hq:QAt f q x.q) (hl:x.q.length ≤ 1000000000) :
  Fn Tryz.prog 92 [.agg (x.vals q qc).toArray] f F (Ret (.bool (x.mayP kind)) f F):=by
 refine Fn.e1 Tryz.func92 Tryz.ntmps92 fun base=>?_;refine qdB fun xb=>?_;refine gJ ?_;have hz:∀ z,(getKV codecsM (kind:Int)).getD z = codecV f1 f2 f3:=fun z=>by rw [hcod];rfl
 have hi:(getKV codecsM (kind:Int)).isSome = true:=by rw [hcod];rfl
 have hkv:Value.int .u8 (x.kind.toNat:Nat) = encU8 (kind:Int):=by rw [hk];rfl
 refine H.cut (ι:=Nat) (fun i=>[(1,.pointer (some ⟨xb,0,none⟩)),(3,.pointer (some ⟨i,0,none⟩)),(4,.bool true)]) (fun _=>f) (fun i=>row i 228 (codecCells f1 f2 f3)::row xb 47 (x.vals q qc)::F) (fun _=>True) _ (fun i _=>?_) ?_
 ·by_cases h1 : x.view < 1073741824
  ·by_cases h2 : x.mayK kind = true
   ·have hm:∀ A,Fn Tryz.prog f3 [.agg (x.vals q qc).toArray] f A (Ret (.bool true) f A):=fun A=>by have:=hmay f A x q qc hq hl;rwa [h2] at this
    by_cases h3:x.q.length ≤ 11
    ·skip;repeat (first | (refine gg ?_) | (refine H.Ae (ls:=x.vals q qc) rfl rfl rfl (Rd.ofRow (by repeat constructor)) rfl rfl ?_) | (refine H.callVR (fs:=[]) (cs:=[]) (vs:=[.agg (x.vals q qc).toArray]) rfl rfl rfl rfl (hm _) ?_))
     refine qdg fun yb=>?_;refine H.Ah (ls:=(Bod.zero 0).vals none 0) (vs:=(Bod.zero x.kind).vals none 0) (ls':=(Bod.zero x.kind).vals none 0) rfl rfl rfl (zaa rfl) rfl rfl (Nat.le_refl 76) (by repeat constructor) ?_;refine gA ?_;refine qdV ?_;refine qgD ?_;refine HB.qu [0,1,2,3,4] 3 ?_;refine gS ?_;refine qgx ?_;refine qdb ?_;refine HB.ev 5 ?_;refine H.callVE2 (fs:=[]) (cs:=[]) (vs:=[.slice none 0 0,.agg (x.vals q qc).toArray]) rfl rfl rfl rfl (hput f _ x q qc none 0 [] Src.nil (fun _=>rfl) hq h2 h3 (by decide)) fun p1 c1=>?_;have hb:=putK_len x kind h2 h3;rw [List.nil_append]
     generalize hbs:x.putK kind = bs at hb ⊢;have hbk:x.back kind = ((⟨bs,false⟩:Cs).bodyK 32 128 x.kind kind).1:=by rw [← hbs];rfl
     refine gA ?_;refine qdV ?_;refine qdI ?_;refine HB.ev 6 ?_;refine H.Av (.there _ (.there _ (.here _ _ _))) hb.1 fun b1 hp=>?_;subst hp;refine H.Al rfl rfl rfl (octNew_fn f _ (Src.slcS (.there _ (.there _ (.here _ _ _))) (by rw [zad];exact (Nat.mul_one _).symm)) (fun h=>by cases h) (by omega)) fun v f' A' hr=>?_;obtain ⟨g1,cb,p2,c2,rfl,hg1,hd1,rfl,rfl⟩:=hr;refine gA ?_;refine qdV ?_;refine H.on [] (Le.un _ _) rfl ?_;refine HB.ev 7 ?_;have e:row yb 47 ((Bod.zero x.kind).vals none 0) = bodAt yb 47 [] [] (Bod.zero x.kind) none 0:=by unfold bodAt;rw [List.append_nil];rfl
     refine H.Am (.there _ (.there _ (.there _ (.there _ (.here _ _))))) ?_;refine H.Am (.there _ (.there _ (.there _ (.here _ _)))) ?_;rw [e];refine H.callVE (fs:=[]) (cs:=[]) (vs:=[.pointer (some ⟨cb,0,none⟩),.pointer (some ⟨yb,0,none⟩)]) rfl rfl rfl rfl (hget (un f g1) _ cb ⟨bs,false⟩ yb 47 [] [] x.kind (by show bs.length ≤ _;omega)) fun i2=>?_;rw [← hbk];generalize ((⟨bs,false⟩:Cs).bodyK 32 128 x.kind kind).2 = s2;refine gA ?_;refine H.Am (.there _ (.there _ (.there _ (.there _ (.here _ _))))) ?_;refine H.Am (.there _ (.there _ (.there _ (.there _ (.here _ _))))) ?_;refine qdI ?_;refine HB.dn ?_;refine H.Bu (.there _ (.there _ (.there _ (.there _ (.here _ _))))) fun g2 hg2 hd2=>?_;have hq2:QAt (un (un f g1) g2) q x.q:=(hq.mono (Le.un f g1)).mono (Le.un _ g2);have hy2:QAt (un (un f g1) g2) i2.1 (x.back kind).q:=qs_qat hg2 hd2
     refine gA ?_;refine H.Ae (ls:=x.vals q qc) rfl rfl rfl (Rd.ofRow (by repeat constructor)) rfl rfl ?_;refine H.Ae (ls:=(x.back kind).vals i2.1 i2.2) rfl rfl rfl (bodAt_rd (pre:=[]) (post:=[]) (by repeat constructor)) rfl rfl ?_;refine H.Af rfl rfl rfl (same_fn _ _ hq2 hy2 hl) ?_;refine gR ?_;refine H.thaw hg2 hd2 ?_;refine qdp ?_;refine H.thaw hg1 hd1 ?_;repeat refine H.Ac (.here _ _) ?_
     refine H.Ad rfl rfl (fun _ h=>h) ⟨?_,rfl,rfl⟩;simp [Bod.mayP,h1,h2,h3]
    ·skip;exact qaV
   ·have hm:∀ A,Fn Tryz.prog f3 [.agg (x.vals q qc).toArray] f A (Ret (.bool false) f A):=fun A=>by have:=hmay f A x q qc hq hl;rwa [Bool.eq_false_iff.2 h2] at this
    exact qaV
  ·have hm:∀ A,Fn Tryz.prog f3 [.agg (x.vals q qc).toArray] f A (Ret (.bool (x.mayK kind)) f A):=fun A=>hmay f A x q qc hq hl;refine gY ?_
   refine qgi ?_;refine H.Ad rfl rfl (fun _ h=>h) ⟨?_,rfl,rfl⟩;simp [Bod.mayP, *]
 ·refine qdA ?_;refine HB.qu [1,2] 8 ?_;refine qeM ?_;refine HB.ev2 (i:=0) (j:=7) (by kernel_rfl) rfl rfl ?_ ?_
  ·refine H.callE rfl rfl rfl (codecs_fn f _) fun mb=>?_;refine qgh ?_;refine HB.qu [3,4,5,6] 3 ?_;refine qhg ?_;refine HB.ev 7 ?_;refine qfC fun vb=>?_;refine gA ?_;refine qdV ?_;refine qdI ?_;exact qby
  ·refine qfC fun vb=>?_;refine qdR ?_;refine HB.ev 0 ?_;refine H.callE rfl rfl rfl (codecs_fn f _) fun mb=>?_;refine qgh ?_;refine HB.qu [3,4,5,6] 2 ?_;refine qhg ?_;exact qby
end
theorem zaw (d:Nat→Int) {i:Nat} (h:i < 11):(v11 d)[i]? = some (.int .u64 (d i)):=by
 match i,h with
 | 0,_=>rfl
 | 1,_=>rfl
 | 2,_=>rfl
 | 3,_=>rfl
 | 4,_=>rfl
 | 5,_=>rfl
 | 6,_=>rfl
 | 7,_=>rfl
 | 8,_=>rfl
 | 9,_=>rfl
 | 10,_=>rfl
def maxTo (d:Nat→Int):Nat→Int
 | 0=>d 0
 | i + 1=>if maxTo d i < d (i + 1) then d (i + 1) else maxTo d i
theorem maxTo_le (d:Nat→Int) (B:Int):∀ n,maxTo d n ≤ B ↔ ∀ i,i ≤ n→d i ≤ B
 | 0=>⟨fun h i hi=>by rw [show i = 0 by omega];exact h,fun h=>h 0 (Nat.le_refl _)⟩
 | n + 1 => by
  have ih:=maxTo_le d B n
  unfold maxTo
  constructor
  ·intro h i hi
   by_cases e:i = n + 1
   ·subst e;split at h <;> omega
   ·exact ih.1 (by split at h <;> omega) i (by omega)
  ·intro h
   have h1:=ih.2 fun i hi=>h i (by omega)
   have h2:=h (n + 1) (Nat.le_refl _)
   split <;> omega
variable {m:Msg} {mb:Nat}
theorem zbi (h:At A (row mb T (m.vals q qc)) A' (row mb T (m.vals q qc))):Rd f A mb (0 + 2) (v11 m.deps):=by
 have h1:=Rd.ofRow (f:=f) h;have e:m.vals q qc = [.int .i64 m.origin,.int .u64 m.number] ++ v11 m.deps ++ (m.body.vals q qc ++ b32 m.tag):=by unfold Msg.vals;simp only [List.append_assoc]
 exact qbK
theorem msg_body (h:At A (row mb T (m.vals q qc)) A' (row mb T (m.vals q qc))):Rd f A mb (0 + 13) (m.body.vals q qc):=by
 have h1:=Rd.ofRow (f:=f) h;have e:m.vals q qc = ([.int .i64 m.origin,.int .u64 m.number] ++ v11 m.deps) ++ m.body.vals q qc ++ b32 m.tag:=rfl
 exact qbK
section
variable (f:Frag) (F:List HP)
theorem max_fn {b off:Nat} {d:Nat→Int} (hr:Rd f F b off (v11 d)) :
  Fn Tryz.prog 91 [.slice (some ⟨b,off,none⟩) 11 11] f F (Ret (.int .u64 (maxTo d 10)) f F):=by
 refine Fn.e1 Tryz.func91 Tryz.ntmps91 fun base=>?_;refine gL ?_;refine H.index1 (i:=0) rfl rfl rfl rfl (by decide) rfl ?_;refine H.Ab rfl rfl rfl (.of hr (i:=0) rfl) rfl ?_;refine gR ?_;refine H.lo (ι:=Nat) (fun i=>[(4,.int .i64 ((i + 1:Nat):Int)),(3,.int .u64 (maxTo d i)),(0,.slice (some ⟨b,off,none⟩) 11 11)]) (fun _=>f) (fun _=>F) (fun i=>i ≤ 10) (fun i=>10 - i) 0 (Nat.zero_le _) fun i hi=>?_;have hi:i ≤ 10:=hi;by_cases hlt:i < 10
 ·refine gG ?_;refine H.index1 (i:=i + 1) rfl rfl rfl rfl (by omega) rfl ?_;refine H.Ab rfl rfl rfl (.of hr (zaw d (by omega))) rfl ?_;refine H.max2 (z:=maxTo d (i + 1)) rfl rfl rfl rfl rfl ?_;refine gD ?_;exact H.ag (i + 1) (by show i + 1 ≤ 10;omega) (by show 10 - (i + 1) < 10 - i;omega)
 ·have:i = 10:=by omega
  subst this;refine gL ?_;exact qah
theorem body_none (hcod:getKV codecsM (x.kind.toNat:Int) = none) :
  Fn Tryz.prog 92 [.agg (x.vals q qc).toArray] f F (Ret (.bool false) f F):=by
 refine Fn.e1 Tryz.func92 Tryz.ntmps92 fun base=>?_;refine qdB fun xb=>?_;refine gJ ?_;have hz:(getKV codecsM (x.kind.toNat:Int)).getD (.agg ([.nilFunc,.nilFunc,.nilFunc]:List Value).toArray) = .agg ([.nilFunc,.nilFunc,.nilFunc]:List Value).toArray:=by rw [hcod];rfl
 have hi:(getKV codecsM (x.kind.toNat:Int)).isSome = false:=by rw [hcod];rfl
 refine H.cut (ι:=Nat) (fun i=>[(1,.pointer (some ⟨xb,0,none⟩)),(3,.pointer (some ⟨i,0,none⟩)),(4,.bool false)]) (fun _=>f) (fun i=>row i 228 [.nilFunc,.nilFunc,.nilFunc]::row xb 47 (x.vals q qc)::F) (fun _=>True) _ (fun i _=>?_) ?_
 ·refine gY ?_;repeat refine H.Ac (.here _ _) ?_
  exact qah
 ·refine qdA ?_;refine HB.qu [1,2] 8 ?_;refine qeM ?_;refine HB.ev2 (i:=0) (j:=7) (by kernel_rfl) rfl rfl ?_ ?_
  ·refine H.callE rfl rfl rfl (codecs_fn f _) fun mb=>?_;refine qgh ?_;refine HB.qu [3,4,5,6] 3 ?_;refine qh ?_;refine HB.ev 7 ?_;refine qfC fun vb=>?_;refine gA ?_;refine qdV ?_;refine qdI ?_;exact qbq
  ·refine qfC fun vb=>?_;refine qdR ?_;refine HB.ev 0 ?_;refine H.callE rfl rfl rfl (codecs_fn f _) fun mb=>?_;refine qgh ?_;refine HB.qu [3,4,5,6] 2 ?_;refine qh ?_;exact qbq
def Bod.mayB (x:Bod):Bool:=decide (1 ≤ x.kind.toNat ∧ x.kind.toNat ≤ 6) && x.mayP x.kind.toNat
theorem bodyP_fn (hq:QAt f q x.q) (hl:x.q.length ≤ 1000000000) :
  Fn Tryz.prog 92 [.agg (x.vals q qc).toArray] f F (Ret (.bool x.mayB) f F):=by
 unfold Bod.mayB;generalize hk:x.kind.toNat = kind
 match kind,hk with
 | 1,hk=>exact body_fn f F 1 hk _ _ _ put1 get1 may1 (by rfl) hq hl
 | 2,hk=>exact body_fn f F 2 hk _ _ _ put2 get2 may2 (by rfl) hq hl
 | 3,hk=>exact body_fn f F 3 hk _ _ _ put3 get3 may3 (by rfl) hq hl
 | 4,hk=>exact body_fn f F 4 hk _ _ _ put4 get4 may4 (by rfl) hq hl
 | 5,hk=>exact body_fn f F 5 hk _ _ _ put5 get5 may5 (by rfl) hq hl
 | 6,hk=>exact body_fn f F 6 hk _ _ _ put6 get6 may6 (by rfl) hq hl
 | 0, hk =>
  rw [decide_eq_false (by omega),Bool.false_and];exact body_none f F (by rw [hk];rfl)
 | k + 7, hk =>
  rw [decide_eq_false (by omega),Bool.false_and];refine body_none f F ?_;rw [hk];refine (getKV_none codecsM _).2 ?_;simp only [codecsM,List.map_cons,List.map_nil,List.mem_cons,List.not_mem_nil,or_false];omega
def Msg.outer (m:Msg):Prop:=1 ≤ m.origin ∧ m.origin ≤ 11 ∧ 1 ≤ m.number ∧ m.number ≤ 65536 ∧ m.deps (m.origin.toNat - 1) = m.number - 1 ∧ maxTo m.deps 10 ≤ 65536
instance (m:Msg):Decidable m.outer:=by unfold Msg.outer;infer_instance
theorem may_fn (hq:QAt f q m.body.q) (hl:m.body.q.length ≤ 1000000000) :
  Fn Tryz.prog 50 [.agg (m.vals q qc).toArray] f F (Ret (.bool (decide m.outer && m.body.mayB)) f F):=by
 by_cases h1:1 ≤ m.origin
 ·skip;by_cases h2 : m.origin ≤ 11
  ·skip;by_cases h3:1 ≤ m.number
   ·skip;by_cases h4:m.number ≤ 65536
    ·skip;by_cases h5:m.deps (m.origin.toNat - 1) = m.number - 1
     ·skip;by_cases h6:maxTo m.deps 10 ≤ 65536
      ·skip;try simp only [Bool.not_eq_true] at *
       refine Fn.e1 Tryz.func50 Tryz.ntmps50 fun base=>?_;refine qev fun mb=>?_;refine qdM ?_;repeat (first | (refine gg ?_) | (refine H.Cf (lo:=none) (hi:=none) (mx:=none) (lv:=0) (hv:=11) (mv:=11) rfl rfl rfl rfl rfl (fun h=>by cases h) (by decide) (by decide) (by decide) rfl ?_) | (refine H.Af rfl rfl rfl (max_fn f _ (off:=0 + 2) (d:=m.deps) (zbi (by repeat constructor))) ?_) | (refine H.Ae (ls:=m.body.vals q qc) rfl rfl rfl (msg_body (by repeat constructor)) rfl rfl ?_) | (refine H.Af rfl rfl rfl (bodyP_fn f _ hq hl) ?_))
       exact qch
      ·skip;try simp only [Bool.not_eq_true] at *
       refine Fn.e1 Tryz.func50 Tryz.ntmps50 fun base=>?_;refine qev fun mb=>?_;refine qdM ?_;repeat (first | (refine gg ?_) | (refine H.Cf (lo:=none) (hi:=none) (mx:=none) (lv:=0) (hv:=11) (mv:=11) rfl rfl rfl rfl rfl (fun h=>by cases h) (by decide) (by decide) (by decide) rfl ?_) | (refine H.Af rfl rfl rfl (max_fn f _ (off:=0 + 2) (d:=m.deps) (zbi (by repeat constructor))) ?_))
       exact qch
     ·skip;try simp only [Bool.not_eq_true] at *
      refine Fn.e1 Tryz.func50 Tryz.ntmps50 fun base=>?_;exact qaH
    ·exact qbc
   ·exact qbc
  ·exact qbc
 ·exact qbc
end
section
variable (f:Frag) (F:List HP)
theorem rpairs_fn {l m:List (Int × Int)} (hp:QAt f p l) (hr:QAt f r m) (hl:l.length ≤ 1000000000) :
  Fn Tryz.prog 124 [.slice p l.length c,.slice r m.length d] f F (Ret (.bool (decide (l = m))) f F):=by
 by_cases hlen:(l.length:Int) = m.length
 ·have hlen':l.length = m.length:=by omega
  refine Fn.e2 Tryz.func124 Tryz.ntmps124 fun base=>?_;refine gP ?_;rw [decide_eq_false (by omega)];skip;refine H.lo (ι:=Nat) (fun i=>[(5,.int .i64 (i:Int)),(0,.slice p l.length c),(1,.slice r m.length d)]) (fun _=>f) (fun _=>F) (fun i=>i ≤ l.length ∧ l.take i = m.take i) (fun i=>l.length - i) 0 ⟨Nat.zero_le _,rfl⟩ fun i hi=>?_;exact qaj
 ·refine Fn.e2 Tryz.func124 Tryz.ntmps124 fun base=>?_;exact qci
theorem rsame_fn {b:Bod} (hp:QAt f p a.q) (hr:QAt f r b.q) (hl:a.q.length ≤ 1000000000) :
  Fn Tryz.prog 81 [.agg (a.vals p c).toArray,.agg (b.vals r d).toArray] f F (Ret (.bool (Bod.eqB a b)) f F):=by
 by_cases h1:(a.kind.toNat:Int) = b.kind.toNat
 ·skip;by_cases h2:a.view = b.view
  ·skip;by_cases h3:a.k = b.k
   ·skip;by_cases h4:eqC a.req.vals b.req.vals = true
    ·skip;by_cases h5:a.q = b.q
     ·skip;try simp only [Bool.not_eq_true] at *
      refine Fn.e2 Tryz.func81 Tryz.ntmps81 fun base=>?_;repeat (first | (refine gg ?_) | (refine H.box (ls:=a.vals p c) rfl rfl rfl rfl fun ab=>?_) | (refine H.box (ls:=b.vals r d) rfl rfl rfl rfl fun bb=>?_) | (refine H.Ae (ls:=a.req.vals) rfl rfl rfl (zbv (by repeat constructor)) rfl rfl ?_) | (refine H.Ae (ls:=b.req.vals) rfl rfl rfl (zbv (by repeat constructor)) rfl rfl ?_) | (refine H.aggEq (xs:=a.req.vals) (ys:=b.req.vals) (D:=4) rfl rfl rfl rfl (by kernel_rfl) (by kernel_rfl) (by kernel_rfl) (by kernel_rfl) (by decide) rfl rfl ?_) | (refine H.Af rfl rfl rfl (rpairs_fn f _ hp hr hl) ?_) | (refine H.Ae (ls:=bytesV (b32L a.dig)) rfl rfl rfl (row_dig (by repeat constructor)) rfl rfl ?_) | (refine H.Ae (ls:=bytesV (b32L b.dig)) rfl rfl rfl (row_dig (by repeat constructor)) rfl rfl ?_) | (refine H.aggEq (xs:=bytesV (b32L a.dig)) (ys:=bytesV (b32L b.dig)) (b:=eqC (b32 a.dig) (b32 b.dig)) (D:=4) rfl rfl rfl rfl (by kernel_rfl) (by kernel_rfl) (by kernel_rfl) (by kernel_rfl) (by decide) rfl rfl ?_))
      exact qay
     ·skip;try simp only [Bool.not_eq_true] at *
      refine Fn.e2 Tryz.func81 Tryz.ntmps81 fun base=>?_;repeat (first | (refine gg ?_) | (refine H.box (ls:=a.vals p c) rfl rfl rfl rfl fun ab=>?_) | (refine H.box (ls:=b.vals r d) rfl rfl rfl rfl fun bb=>?_) | (refine H.Ae (ls:=a.req.vals) rfl rfl rfl (zbv (by repeat constructor)) rfl rfl ?_) | (refine H.Ae (ls:=b.req.vals) rfl rfl rfl (zbv (by repeat constructor)) rfl rfl ?_) | (refine H.aggEq (xs:=a.req.vals) (ys:=b.req.vals) (D:=4) rfl rfl rfl rfl (by kernel_rfl) (by kernel_rfl) (by kernel_rfl) (by kernel_rfl) (by decide) rfl rfl ?_) | (refine H.Af rfl rfl rfl (rpairs_fn f _ hp hr hl) ?_))
      exact qay
    ·skip;try simp only [Bool.not_eq_true] at *
     refine Fn.e2 Tryz.func81 Tryz.ntmps81 fun base=>?_;exact qaO
   ·exact qbu
  ·exact qbu
 ·exact qbu
theorem splice_dig (x:Bod):splice (({ Bod.zero x.kind with k:=x.k }:Bod).vals none 0) (0 + 44) (b32 x.dig) = (x.ownK 6).vals none 0:=by
 have e:({ Bod.zero x.kind with k:=x.k }:Bod).vals none 0 = ([.int .u8 (x.kind.toNat:Nat),.int .u64 0,.int .u64 x.k] ++ Req.zero.vals ++ [.slice none 0 0]) ++ b32 noTag:=rfl;have e2:(x.ownK 6).vals none 0 = ([.int .u8 (x.kind.toNat:Nat),.int .u64 0,.int .u64 x.k] ++ Req.zero.vals ++ [.slice none 0 0]) ++ b32 x.dig:=rfl
 rw [e,e2];generalize hp:([.int .u8 (x.kind.toNat:Nat),.int .u64 0,.int .u64 x.k] ++ Req.zero.vals ++ [.slice none 0 0]:List Value) = p;have hl:p.length = 44:=by rw [← hp];rfl
 exact qbR
theorem own_fn1 (hk:x.kind.toNat = 1):Fn Tryz.prog 90 [.agg (x.vals q qc).toArray] f F (Ret (.agg ((x.ownK 1).vals none 0).toArray) f F):=by
 refine qgm fun base=>?_;repeat (first | (refine gg ?_) | (refine H.box (ls:=x.vals q qc) rfl rfl rfl rfl fun xb=>?_) | (refine H.Ak (ls:=(Bod.zero 0).vals none 0) rfl rfl rfl fun _=>?_) | (refine H.Ah (ls:=(Bod.zero 0).vals none 0) (vs:=(Bod.zero x.kind).vals none 0) (ls':=(Bod.zero x.kind).vals none 0) rfl rfl rfl (zaa rfl) rfl rfl (Nat.le_refl 76) (by repeat constructor) ?_) | (refine H.Ae (ls:=x.req.vals) rfl rfl rfl (zbv (by repeat constructor)) rfl rfl ?_) | (refine H.Ah (ls:=({ Bod.zero x.kind with view:=x.view }:Bod).vals none 0) (vs:=x.req.vals) (ls':=(x.ownK 1).vals none 0) rfl rfl rfl (zaa rfl) rfl rfl (show 3 + 40 ≤ 76 by decide) (by repeat constructor) ?_))
 refine H.Ae (ls:=(x.ownK 1).vals none 0) rfl rfl rfl (Rd.ofRow (by repeat constructor)) rfl rfl ?_;refine H.Ah (ls:=(Bod.zero 0).vals none 0) (vs:=(x.ownK 1).vals none 0) (ls':=(x.ownK 1).vals none 0) rfl rfl rfl (zaa rfl) rfl rfl (Nat.le_refl 76) (by repeat constructor) ?_;exact qaI
theorem own_fn2 (hk:x.kind.toNat = 2):Fn Tryz.prog 90 [.agg (x.vals q qc).toArray] f F (Ret (.agg ((x.ownK 2).vals none 0).toArray) f F):=by
 refine qgm fun base=>?_;repeat (first | (refine gg ?_) | (refine H.box (ls:=x.vals q qc) rfl rfl rfl rfl fun xb=>?_) | (refine H.Ak (ls:=(Bod.zero 0).vals none 0) rfl rfl rfl fun _=>?_) | (refine H.Ah (ls:=(Bod.zero 0).vals none 0) (vs:=(Bod.zero x.kind).vals none 0) (ls':=(Bod.zero x.kind).vals none 0) rfl rfl rfl (zaa rfl) rfl rfl (Nat.le_refl 76) (by repeat constructor) ?_))
 refine H.Ae (ls:=(x.ownK 2).vals none 0) rfl rfl rfl (Rd.ofRow (by repeat constructor)) rfl rfl ?_;refine H.Ah (ls:=(Bod.zero 0).vals none 0) (vs:=(x.ownK 2).vals none 0) (ls':=(x.ownK 2).vals none 0) rfl rfl rfl (zaa rfl) rfl rfl (Nat.le_refl 76) (by repeat constructor) ?_;exact qaI
theorem own_fn3 (hk:x.kind.toNat = 3):Fn Tryz.prog 90 [.agg (x.vals q qc).toArray] f F (Ret (.agg ((x.ownK 3).vals none 0).toArray) f F):=by
 refine qgm fun base=>?_;repeat (first | (refine gg ?_) | (refine H.box (ls:=x.vals q qc) rfl rfl rfl rfl fun xb=>?_) | (refine H.Ak (ls:=(Bod.zero 0).vals none 0) rfl rfl rfl fun _=>?_) | (refine H.Ah (ls:=(Bod.zero 0).vals none 0) (vs:=(Bod.zero x.kind).vals none 0) (ls':=(Bod.zero x.kind).vals none 0) rfl rfl rfl (zaa rfl) rfl rfl (Nat.le_refl 76) (by repeat constructor) ?_))
 refine H.Ae (ls:=(x.ownK 3).vals none 0) rfl rfl rfl (Rd.ofRow (by repeat constructor)) rfl rfl ?_;refine H.Ah (ls:=(Bod.zero 0).vals none 0) (vs:=(x.ownK 3).vals none 0) (ls':=(x.ownK 3).vals none 0) rfl rfl rfl (zaa rfl) rfl rfl (Nat.le_refl 76) (by repeat constructor) ?_;exact qaI
theorem own_fn4 (hk:x.kind.toNat = 4):Fn Tryz.prog 90 [.agg (x.vals q qc).toArray] f F (Ret (.agg ((x.ownK 4).vals q qc).toArray) f F):=by
 refine qgm fun base=>?_;repeat (first | (refine gg ?_) | (refine H.box (ls:=x.vals q qc) rfl rfl rfl rfl fun xb=>?_) | (refine H.Ak (ls:=(Bod.zero 0).vals none 0) rfl rfl rfl fun _=>?_) | (refine H.Ah (ls:=(Bod.zero 0).vals none 0) (vs:=(Bod.zero x.kind).vals none 0) (ls':=(Bod.zero x.kind).vals none 0) rfl rfl rfl (zaa rfl) rfl rfl (Nat.le_refl 76) (by repeat constructor) ?_))
 refine H.Ae (ls:=(x.ownK 4).vals q qc) rfl rfl rfl (Rd.ofRow (by repeat constructor)) rfl rfl ?_;refine H.Ah (ls:=(Bod.zero 0).vals none 0) (vs:=(x.ownK 4).vals q qc) (ls':=(x.ownK 4).vals q qc) rfl rfl rfl (zaa rfl) rfl rfl (Nat.le_refl 76) (by repeat constructor) ?_;exact qaI
theorem own_fn5 (hk:x.kind.toNat = 5):Fn Tryz.prog 90 [.agg (x.vals q qc).toArray] f F (Ret (.agg ((x.ownK 5).vals none 0).toArray) f F):=by
 refine qgm fun base=>?_;repeat (first | (refine gg ?_) | (refine H.box (ls:=x.vals q qc) rfl rfl rfl rfl fun xb=>?_) | (refine H.Ak (ls:=(Bod.zero 0).vals none 0) rfl rfl rfl fun _=>?_) | (refine H.Ah (ls:=(Bod.zero 0).vals none 0) (vs:=(Bod.zero x.kind).vals none 0) (ls':=(Bod.zero x.kind).vals none 0) rfl rfl rfl (zaa rfl) rfl rfl (Nat.le_refl 76) (by repeat constructor) ?_))
 refine H.Ae (ls:=(x.ownK 5).vals none 0) rfl rfl rfl (Rd.ofRow (by repeat constructor)) rfl rfl ?_;refine H.Ah (ls:=(Bod.zero 0).vals none 0) (vs:=(x.ownK 5).vals none 0) (ls':=(x.ownK 5).vals none 0) rfl rfl rfl (zaa rfl) rfl rfl (Nat.le_refl 76) (by repeat constructor) ?_;exact qaI
theorem own_fn6 (hk:x.kind.toNat = 6):Fn Tryz.prog 90 [.agg (x.vals q qc).toArray] f F (Ret (.agg ((x.ownK 6).vals none 0).toArray) f F):=by
 refine qgm fun base=>?_;repeat (first | (refine gg ?_) | (refine H.box (ls:=x.vals q qc) rfl rfl rfl rfl fun xb=>?_) | (refine H.Ak (ls:=(Bod.zero 0).vals none 0) rfl rfl rfl fun _=>?_) | (refine H.Ah (ls:=(Bod.zero 0).vals none 0) (vs:=(Bod.zero x.kind).vals none 0) (ls':=(Bod.zero x.kind).vals none 0) rfl rfl rfl (zaa rfl) rfl rfl (Nat.le_refl 76) (by repeat constructor) ?_) | (refine H.Ae (ls:=b32 x.dig) rfl rfl rfl (row_dig (by repeat constructor)) rfl rfl ?_) | (refine H.Ah (ls:=({ Bod.zero x.kind with k:=x.k }:Bod).vals none 0) (vs:=b32 x.dig) (ls':=(x.ownK 6).vals none 0) rfl rfl rfl (zal (b32L x.dig)) rfl (splice_dig x) (show 44 + 32 ≤ 76 by decide) (by repeat constructor) ?_))
 refine H.Ae (ls:=(x.ownK 6).vals none 0) rfl rfl rfl (Rd.ofRow (by repeat constructor)) rfl rfl ?_;refine H.Ah (ls:=(Bod.zero 0).vals none 0) (vs:=(x.ownK 6).vals none 0) (ls':=(x.ownK 6).vals none 0) rfl rfl rfl (zaa rfl) rfl rfl (Nat.le_refl 76) (by repeat constructor) ?_;exact qaI
theorem own_fn0 (hk:x.kind.toNat = 0 ∨ 7 ≤ x.kind.toNat):Fn Tryz.prog 90 [.agg (x.vals q qc).toArray] f F (Ret (.agg ((x.ownK 7).vals none 0).toArray) f F):=by
 refine qgm fun base=>?_;repeat (first | (refine gg ?_) | (refine H.box (ls:=x.vals q qc) rfl rfl rfl rfl fun xb=>?_) | (refine H.Ak (ls:=(Bod.zero 0).vals none 0) rfl rfl rfl fun _=>?_) | (refine H.Ah (ls:=(Bod.zero 0).vals none 0) (vs:=(Bod.zero x.kind).vals none 0) (ls':=(Bod.zero x.kind).vals none 0) rfl rfl rfl (zaa rfl) rfl rfl (Nat.le_refl 76) (by repeat constructor) ?_))
 refine H.Ae (ls:=(x.ownK 7).vals none 0) rfl rfl rfl (Rd.ofRow (by repeat constructor)) rfl rfl ?_;refine H.Ah (ls:=(Bod.zero 0).vals none 0) (vs:=(x.ownK 7).vals none 0) (ls':=(x.ownK 7).vals none 0) rfl rfl rfl (zaa rfl) rfl rfl (Nat.le_refl 76) (by repeat constructor) ?_;exact qaI
theorem own_fn (hq:QAt f q x.q):Fn Tryz.prog 90 [.agg (x.vals q qc).toArray] f F
  (RetP (fun i:Option Addr × Nat=>QAt f i.1 x.own.q) (fun i=>.agg (x.own.vals i.1 i.2).toArray) f (fun _=>F)):=by
 have fin:∀ (k:Nat) (q':Option Addr) (qc':Nat),x.own = x.ownK k→QAt f q' (x.ownK k).q→Fn Tryz.prog 90 [.agg (x.vals q qc).toArray] f F (Ret (.agg ((x.ownK k).vals q' qc').toArray) f F) →
   Fn Tryz.prog 90 [.agg (x.vals q qc).toArray] f F (RetP (fun i:Option Addr × Nat=>QAt f i.1 x.own.q) (fun i=>.agg (x.own.vals i.1 i.2).toArray) f (fun _=>F)):=fun k q' qc' e hq' h =>
  h.mono fun v f' A' hr=>by
   obtain ⟨rfl,rfl,rfl⟩:=hr
   exact ⟨(q',qc'),by rw [e];exact hq',by rw [e],rfl,rfl⟩
 generalize hk:x.kind.toNat = kind
 match kind,hk with
 | 1,hk=>exact fin 1 none 0 (by unfold Bod.own;rw [hk]) (QAt.nil _ _) (own_fn1 f F hk)
 | 2,hk=>exact fin 2 none 0 (by unfold Bod.own;rw [hk]) (QAt.nil _ _) (own_fn2 f F hk)
 | 3,hk=>exact fin 3 none 0 (by unfold Bod.own;rw [hk]) (QAt.nil _ _) (own_fn3 f F hk)
 | 4,hk=>exact fin 4 q qc (by unfold Bod.own;rw [hk]) hq (own_fn4 f F hk)
 | 5,hk=>exact fin 5 none 0 (by unfold Bod.own;rw [hk]) (QAt.nil _ _) (own_fn5 f F hk)
 | 6,hk=>exact fin 6 none 0 (by unfold Bod.own;rw [hk]) (QAt.nil _ _) (own_fn6 f F hk)
 | 0,hk=>exact fin 7 none 0 (by unfold Bod.own;rw [hk];rfl) (QAt.nil _ _) (own_fn0 f F (.inl hk))
 | k + 7,hk=>exact fin 7 none 0 (by unfold Bod.own;rw [hk];rfl) (QAt.nil _ _) (own_fn0 f F (.inr (by omega)))
end
section
variable (f:Frag) (F:List HP)
theorem rasked_fn (r:Req):Fn Tryz.prog 58 [.agg r.vals.toArray] f F (Ret (.bool (decide r.asked)) f F):=by
 by_cases h1:1 ≤ r.client
 ·by_cases h2 : r.client ≤ 8
  ·by_cases h3 : 1 ≤ r.time
   ·by_cases h4 : r.time ≤ 4611686018427387904
    ·by_cases h5 : r.key.size ≤ 32
     ·by_cases h6 : r.to.size ≤ 32
      ·by_cases h7:r.val.size ≤ 128
       ·skip;refine Fn.e1 Tryz.func58 Tryz.ntmps58 fun base=>?_;repeat (first | (refine gg ?_) | (refine H.box (ls:=r.vals) rfl rfl rfl rfl fun xb=>?_))
        refine qdp ?_;refine H.Ad rfl rfl (fun _ h=>h) ⟨?_,rfl,rfl⟩;congr 1;apply decide_eq_decide.2;unfold Req.asked;omega
       ·exact qag
      ·exact qag
     ·exact qag
    ·exact qag
   ·exact qag
  ·exact qag
 ·exact qag
def wq (q:List (Int × Int)):Nat→Int
 | 0=>0
 | j + 1=>(q.getD j (0,0)).1
theorem quo_loop (i:Nat) (hi:i < x.q.length) (w:Int):quo w (x.q.drop i) = if x.q[i].1 ≤ w ∨ 11 < x.q[i].1 ∨ x.q[i].2 < 1 ∨ 65536 < x.q[i].2 then false else quo x.q[i].1 (x.q.drop (i + 1)):=by
 rw [List.drop_eq_getElem_cons hi];rfl
theorem rbody4_fn (hq : QAt f q x.q) (hl : x.q.length ≤ 1000000000) (hk : x.kind.toNat = 4) (hs : Bod.eqB x.own x = true) (hv : x.view < 1073741824) :
    Fn Tryz.prog 49 [.agg (x.vals q qc).toArray] f F (Ret (.bool x.may) f F):=by
  unfold Bod.may;rw [hk];refine Fn.e1 Tryz.func49 Tryz.ntmps49 fun base=>?_;refine qdB fun xb=>?_;refine qeE fun i hqo=>?_;refine qcS ?_;refine HB.ev 3 ?_
  have hlo:x.own.q.length ≤ 1000000000:=by
    have:x.own.q = x.q ∨ x.own.q = []:=by
      unfold Bod.own
      match x.kind.toNat with
      | 0=>exact .inr rfl
      | 1=>exact .inr rfl
      | 2=>exact .inr rfl
      | 3=>exact .inr rfl
      | 4=>exact .inl rfl
      | 5=>exact .inr rfl
      | 6=>exact .inr rfl
      | k + 7=>exact .inr rfl
    rcases this with h | h <;> rw [h]
    · exact hl
    · exact Nat.zero_le _
  refine H.Af rfl rfl rfl (rsame_fn f _ hqo hq hlo) ?_;refine qcS ?_;refine HB.qu [4,5,6,7,8,9] 0 ?_;have hn:(!true) = false:=rfl;rw [hs,decide_eq_true hv,Bool.true_and,Bool.true_and]
  refine gZ ?_;refine qdk ?_;refine gV ?_;refine H.lo (ι:=Nat) (fun i=>[(3,.int .i64 (i:Int)),(1,.pointer (some ⟨xb,0,none⟩))]) (fun _=>f) (fun _=>row xb 47 (x.vals q qc)::F) (fun i=>i ≤ x.q.length ∧ quo 0 x.q = quo (wq x.q i) (x.q.drop i) ∧ (0 < i→1 ≤ wq x.q i)) (fun i=>x.q.length - i) 0 ⟨Nat.zero_le _,rfl,fun h=>absurd h (Nat.lt_irrefl _)⟩ fun i hi=>?_;obtain ⟨hi,hw,hwp⟩:i ≤ x.q.length ∧ quo 0 x.q = quo (wq x.q i) (x.q.drop i) ∧ (0 < i→1 ≤ wq x.q i):=hi;by_cases hlt:i < x.q.length
  · have hx : x.q[i]? = some x.q[i] := List.getElem?_eq_getElem hlt
    have hquo:=quo_loop i hlt (wq x.q i)
    have hwz:wq x.q (i + 1) = x.q[i].1:=by show (x.q.getD i (0,0)).1 = _;rw [List.getD_eq_getElem?_getD,hx];rfl
    generalize x.q[i] = z at hx hquo hwz
    obtain ⟨b,off,cs,T,fr,hqb,hfb,hcs⟩:=hq i z hx
    have hq':=hq
    subst hqb
    have rd:∀ A,Rd f A b (off + i * 2) (pairV z):=fun A=>Rd.imm hfb hcs
    refine gO ?_
    refine H.Ag rfl rfl rfl rfl hlt rfl ?_
    refine H.Ae (ls:=pairV z) rfl rfl rfl (rd _) rfl rfl ?_
    refine H.Ak rfl rfl rfl fun pb=>?_
    refine H.Ah (ls:=[.int .i64 0,.int .u64 0]) (vs:=pairV z) (ls':=pairV z) rfl rfl rfl (zaa rfl) rfl rfl (Nat.le_refl 2) (by repeat constructor) ?_
    refine gA ?_
    refine H.dq ?_
    by_cases hi0:i = 0
    · have hw0 : wq x.q i = 0 := by rw [hi0]; rfl
      rw [hw0] at hquo hw
      have j:Nat:=0
      have rd2:=rd
      by_cases h1:1 ≤ z.1
      · skip
        by_cases h2:z.1 ≤ 11
        · skip
          by_cases h4:1 ≤ z.2
          · skip
            by_cases h5:z.2 ≤ 65536
            · skip
              refine gZ ?_
              refine gP ?_
              refine H.Ac (.here _ _) ?_
              first
                | exact H.ag (i + 1) ⟨by show i + 1 ≤ x.q.length;omega,by show quo 0 x.q = _;rw [hw,hquo,if_neg (by omega),← hwz],by show 0 < i + 1→1 ≤ wq x.q (i + 1);rw [hwz];omega⟩ (by show x.q.length - (i + 1) < x.q.length - i;omega)
                | (refine H.Ac (.here _ _) ?_
                   refine H.Ad rfl rfl (fun _ h=>h) ⟨?_,rfl,rfl⟩
                   rw [show x.mayK 4 = (decide (1 ≤ x.view) && (quo 0 x.q && decide (0 < x.q.length))) from rfl,hw,hquo,if_pos (by omega)]
                   simp)
            · skip
              refine gZ ?_
              refine gG ?_
              refine H.Ac (.here _ _) ?_
              first
                | exact H.ag (i + 1) ⟨by show i + 1 ≤ x.q.length;omega,by show quo 0 x.q = _;rw [hw,hquo,if_neg (by omega),← hwz],by show 0 < i + 1→1 ≤ wq x.q (i + 1);rw [hwz];omega⟩ (by show x.q.length - (i + 1) < x.q.length - i;omega)
                | (refine H.Ac (.here _ _) ?_
                   refine H.Ad rfl rfl (fun _ h=>h) ⟨?_,rfl,rfl⟩
                   rw [show x.mayK 4 = (decide (1 ≤ x.view) && (quo 0 x.q && decide (0 < x.q.length))) from rfl,hw,hquo,if_pos (by omega)]
                   simp)
          · skip
            refine gZ ?_
            refine gX ?_
            refine H.Ac (.here _ _) ?_
            first
              | exact H.ag (i + 1) ⟨by show i + 1 ≤ x.q.length;omega,by show quo 0 x.q = _;rw [hw,hquo,if_neg (by omega),← hwz],by show 0 < i + 1→1 ≤ wq x.q (i + 1);rw [hwz];omega⟩ (by show x.q.length - (i + 1) < x.q.length - i;omega)
              | (refine H.Ac (.here _ _) ?_
                 refine H.Ad rfl rfl (fun _ h=>h) ⟨?_,rfl,rfl⟩
                 rw [show x.mayK 4 = (decide (1 ≤ x.view) && (quo 0 x.q && decide (0 < x.q.length))) from rfl,hw,hquo,if_pos (by omega)]
                 simp)
        · skip
          refine gZ ?_
          refine gX ?_
          refine H.Ac (.here _ _) ?_
          first
            | exact H.ag (i + 1) ⟨by show i + 1 ≤ x.q.length;omega,by show quo 0 x.q = _;rw [hw,hquo,if_neg (by omega),← hwz],by show 0 < i + 1→1 ≤ wq x.q (i + 1);rw [hwz];omega⟩ (by show x.q.length - (i + 1) < x.q.length - i;omega)
            | (refine H.Ac (.here _ _) ?_
               refine H.Ad rfl rfl (fun _ h=>h) ⟨?_,rfl,rfl⟩
               rw [show x.mayK 4 = (decide (1 ≤ x.view) && (quo 0 x.q && decide (0 < x.q.length))) from rfl,hw,hquo,if_pos (by omega)]
               simp)
      · skip
        refine gZ ?_
        refine gX ?_
        refine H.Ac (.here _ _) ?_
        first
          | exact H.ag (i + 1) ⟨by show i + 1 ≤ x.q.length;omega,by show quo 0 x.q = _;rw [hw,hquo,if_neg (by omega),← hwz],by show 0 < i + 1→1 ≤ wq x.q (i + 1);rw [hwz];omega⟩ (by show x.q.length - (i + 1) < x.q.length - i;omega)
          | (refine H.Ac (.here _ _) ?_
             refine H.Ad rfl rfl (fun _ h=>h) ⟨?_,rfl,rfl⟩
             rw [show x.mayK 4 = (decide (1 ≤ x.view) && (quo 0 x.q && decide (0 < x.q.length))) from rfl,hw,hquo,if_pos (by omega)]
             simp)
    · obtain ⟨j, hj⟩ : ∃ j, i = j + 1 := ⟨i - 1, by omega⟩
      obtain ⟨y,hy⟩:∃ y,x.q[j]? = some y:=⟨x.q[j]'(by omega),List.getElem?_eq_getElem (by omega)⟩
      have hwj0:wq x.q (j + 1) = y.1:=by show (x.q.getD j (0,0)).1 = _;rw [List.getD_eq_getElem?_getD,hy];rfl
      have hwj:wq x.q i = y.1:=by rw [← hwj0,hj]
      have hwp:=hwp (by omega)
      rw [hwj] at hquo hwp hw
      obtain ⟨b2,off2,cs2,T2,fr2,hqb2,hfb2,hcs2⟩:=hq j y hy
      have rd2:∀ A,Rd f A b2 (off2 + j * 2) (pairV y):=fun A=>Rd.imm hfb2 hcs2
      cases hqb2
      by_cases h1:1 ≤ z.1
      · skip
        by_cases h2:z.1 ≤ 11
        · skip
          by_cases h3:y.1 < z.1
          · skip
            by_cases h4:1 ≤ z.2
            · skip
              by_cases h5:z.2 ≤ 65536
              · skip
                repeat (first | (refine gh ?_) | (refine HQ.Ag (i:=j) rfl rfl rfl (by omega) (by omega) rfl ?_) | (refine HQ.Ab rfl rfl rfl (.of (rd2 _) (i:=0) rfl) rfl ?_))
                refine gP ?_
                refine H.Ac (.here _ _) ?_
                first
                  | exact H.ag (i + 1) ⟨by show i + 1 ≤ x.q.length;omega,by show quo 0 x.q = _;rw [hw,hquo,if_neg (by omega),← hwz],by show 0 < i + 1→1 ≤ wq x.q (i + 1);rw [hwz];omega⟩ (by show x.q.length - (i + 1) < x.q.length - i;omega)
                  | (refine H.Ac (.here _ _) ?_
                     refine H.Ad rfl rfl (fun _ h=>h) ⟨?_,rfl,rfl⟩
                     rw [show x.mayK 4 = (decide (1 ≤ x.view) && (quo 0 x.q && decide (0 < x.q.length))) from rfl,hw,hquo,if_pos (by omega)]
                     simp)
              · skip
                repeat (first | (refine gh ?_) | (refine HQ.Ag (i:=j) rfl rfl rfl (by omega) (by omega) rfl ?_) | (refine HQ.Ab rfl rfl rfl (.of (rd2 _) (i:=0) rfl) rfl ?_))
                refine gG ?_
                refine H.Ac (.here _ _) ?_
                first
                  | exact H.ag (i + 1) ⟨by show i + 1 ≤ x.q.length;omega,by show quo 0 x.q = _;rw [hw,hquo,if_neg (by omega),← hwz],by show 0 < i + 1→1 ≤ wq x.q (i + 1);rw [hwz];omega⟩ (by show x.q.length - (i + 1) < x.q.length - i;omega)
                  | (refine H.Ac (.here _ _) ?_
                     refine H.Ad rfl rfl (fun _ h=>h) ⟨?_,rfl,rfl⟩
                     rw [show x.mayK 4 = (decide (1 ≤ x.view) && (quo 0 x.q && decide (0 < x.q.length))) from rfl,hw,hquo,if_pos (by omega)]
                     simp)
            · skip
              repeat (first | (refine gh ?_) | (refine HQ.Ag (i:=j) rfl rfl rfl (by omega) (by omega) rfl ?_) | (refine HQ.Ab rfl rfl rfl (.of (rd2 _) (i:=0) rfl) rfl ?_))
              refine gX ?_
              refine H.Ac (.here _ _) ?_
              first
                | exact H.ag (i + 1) ⟨by show i + 1 ≤ x.q.length;omega,by show quo 0 x.q = _;rw [hw,hquo,if_neg (by omega),← hwz],by show 0 < i + 1→1 ≤ wq x.q (i + 1);rw [hwz];omega⟩ (by show x.q.length - (i + 1) < x.q.length - i;omega)
                | (refine H.Ac (.here _ _) ?_
                   refine H.Ad rfl rfl (fun _ h=>h) ⟨?_,rfl,rfl⟩
                   rw [show x.mayK 4 = (decide (1 ≤ x.view) && (quo 0 x.q && decide (0 < x.q.length))) from rfl,hw,hquo,if_pos (by omega)]
                   simp)
          · skip
            repeat (first | (refine gh ?_) | (refine HQ.Ag (i:=j) rfl rfl rfl (by omega) (by omega) rfl ?_) | (refine HQ.Ab rfl rfl rfl (.of (rd2 _) (i:=0) rfl) rfl ?_))
            refine gX ?_
            refine H.Ac (.here _ _) ?_
            first
              | exact H.ag (i + 1) ⟨by show i + 1 ≤ x.q.length;omega,by show quo 0 x.q = _;rw [hw,hquo,if_neg (by omega),← hwz],by show 0 < i + 1→1 ≤ wq x.q (i + 1);rw [hwz];omega⟩ (by show x.q.length - (i + 1) < x.q.length - i;omega)
              | (refine H.Ac (.here _ _) ?_
                 refine H.Ad rfl rfl (fun _ h=>h) ⟨?_,rfl,rfl⟩
                 rw [show x.mayK 4 = (decide (1 ≤ x.view) && (quo 0 x.q && decide (0 < x.q.length))) from rfl,hw,hquo,if_pos (by omega)]
                 simp)
        · skip
          refine gZ ?_
          refine gX ?_
          refine H.Ac (.here _ _) ?_
          first
            | exact H.ag (i + 1) ⟨by show i + 1 ≤ x.q.length;omega,by show quo 0 x.q = _;rw [hw,hquo,if_neg (by omega),← hwz],by show 0 < i + 1→1 ≤ wq x.q (i + 1);rw [hwz];omega⟩ (by show x.q.length - (i + 1) < x.q.length - i;omega)
            | (refine H.Ac (.here _ _) ?_
               refine H.Ad rfl rfl (fun _ h=>h) ⟨?_,rfl,rfl⟩
               rw [show x.mayK 4 = (decide (1 ≤ x.view) && (quo 0 x.q && decide (0 < x.q.length))) from rfl,hw,hquo,if_pos (by omega)]
               simp)
      · skip
        refine gZ ?_
        refine gX ?_
        refine H.Ac (.here _ _) ?_
        first
          | exact H.ag (i + 1) ⟨by show i + 1 ≤ x.q.length;omega,by show quo 0 x.q = _;rw [hw,hquo,if_neg (by omega),← hwz],by show 0 < i + 1→1 ≤ wq x.q (i + 1);rw [hwz];omega⟩ (by show x.q.length - (i + 1) < x.q.length - i;omega)
          | (refine H.Ac (.here _ _) ?_
             refine H.Ad rfl rfl (fun _ h=>h) ⟨?_,rfl,rfl⟩
             rw [show x.mayK 4 = (decide (1 ≤ x.view) && (quo 0 x.q && decide (0 < x.q.length))) from rfl,hw,hquo,if_pos (by omega)]
             simp)
  · have hiq : i = x.q.length := by omega
    subst hiq
    rw [List.drop_length] at hw
    by_cases h1:1 ≤ x.view
    · skip
      refine gT ?_
      refine H.Ac (.here _ _) ?_
      refine H.Ad rfl rfl (fun _ h=>h) ⟨?_,rfl,rfl⟩
      rw [show x.mayK 4 = (decide (1 ≤ x.view) && (quo 0 x.q && decide (0 < x.q.length))) from rfl,hw,decide_eq_true h1]
      simp [quo]
      omega
    · skip
      refine ga ?_
      refine H.Ac (.here _ _) ?_
      refine H.Ad rfl rfl (fun _ h=>h) ⟨?_,rfl,rfl⟩
      rw [show x.mayK 4 = (decide (1 ≤ x.view) && (quo 0 x.q && decide (0 < x.q.length))) from rfl,decide_eq_false h1]
      rfl
theorem rbody0_fn (hq:QAt f q x.q) (hl:x.q.length ≤ 1000000000) (h4:¬ (x.kind.toNat = 4 ∧ Bod.eqB x.own x = true ∧ x.view < 1073741824)) :
  Fn Tryz.prog 49 [.agg (x.vals q qc).toArray] f F (Ret (.bool x.may) f F):=by
 unfold Bod.may;refine Fn.e1 Tryz.func49 Tryz.ntmps49 fun base=>?_;refine qdB fun xb=>?_;refine qeE fun i hqo=>?_;refine qcS ?_;refine HB.ev 3 ?_
 have hlo:x.own.q.length ≤ 1000000000:=by
  have:x.own.q = x.q ∨ x.own.q = []:=by
   unfold Bod.own
   match x.kind.toNat with
   | 0=>exact .inr rfl
   | 1=>exact .inr rfl
   | 2=>exact .inr rfl
   | 3=>exact .inr rfl
   | 4=>exact .inl rfl
   | 5=>exact .inr rfl
   | 6=>exact .inr rfl
   | k + 7=>exact .inr rfl
  rcases this with h | h <;> rw [h]
  ·exact hl
  ·exact Nat.zero_le _
 refine H.Af rfl rfl rfl (rsame_fn f _ hqo hq hlo) ?_;refine qcS ?_;refine HB.qu [4,5,6,7,8,9] 0 ?_;generalize hs:Bod.eqB x.own x = sm
 cases sm with
 | false =>
  have hn:(!false) = true:=rfl;refine qeP ?_
  refine gX ?_;exact qaz
 | true =>
  have hn:(!true) = false:=rfl;by_cases hv:x.view < 1073741824
  ·rw [decide_eq_true hv,Bool.true_and,Bool.true_and];refine gZ ?_;refine qdk ?_;generalize hk:x.kind.toNat = kind
   match kind,hk with
   | 0, hk =>
    refine gO ?_;exact qaw
   | 1, hk =>
    repeat (first | (refine gg ?_) | (refine H.Ae (ls:=x.req.vals) rfl rfl rfl (zbv (by repeat constructor)) rfl rfl ?_) | (refine H.Af rfl rfl rfl (rasked_fn f _ x.req) ?_))
    exact qaw
   | 2, hk =>
    exact qcf
   | 3, hk =>
    refine gV ?_;exact qaw
   | 5, hk =>
    refine gV ?_;exact qaw
   | 6, hk =>
    exact qcf
   | k + 7, hk =>
    refine gO ?_;exact qaw
   | 4,hk=>exact absurd ⟨hk,hs,hv⟩ h4
  ·rw [decide_eq_false hv];refine gZ ?_;refine qdk ?_;refine gG ?_;exact qaz
theorem rbody_fn (hq:QAt f q x.q) (hl:x.q.length ≤ 1000000000) :
  Fn Tryz.prog 49 [.agg (x.vals q qc).toArray] f F (Ret (.bool x.may) f F):=by
 by_cases h4:x.kind.toNat = 4 ∧ Bod.eqB x.own x = true ∧ x.view < 1073741824
 ·exact rbody4_fn f F hq hl h4.1 h4.2.1 h4.2.2
 ·exact rbody0_fn f F hq hl h4
end
section
variable (f:Frag) (F:List HP)
theorem rmay_fn (hq:QAt f q m.body.q) (hl:m.body.q.length ≤ 1000000000) :
  Fn Tryz.prog 19 [.agg (m.vals q qc).toArray] f F (Ret (.bool (decide m.outer && m.body.may)) f F):=by
 by_cases h1:1 ≤ m.origin
 ·by_cases h2 : m.origin ≤ 11
  ·by_cases h3 : 1 ≤ m.number
   ·by_cases h4 : m.number ≤ 65536
    ·by_cases h5 : m.deps (m.origin.toNat - 1) = m.number - 1
     ·skip;refine Fn.e1 Tryz.func19 Tryz.ntmps19 fun base=>?_;refine qev fun mb=>?_;refine qdM ?_;refine gP ?_;refine H.lo (ι:=Nat) (fun i=>[(3,.int .i64 (i:Int)),(1,.pointer (some ⟨mb,0,none⟩))]) (fun _=>f) (fun _=>row mb 51 (m.vals q qc)::F) (fun i=>i ≤ 11 ∧ ∀ j,j < i→m.deps j ≤ 65536) (fun i=>11 - i) 0 ⟨Nat.zero_le _,fun j hj=>absurd hj (Nat.not_lt_zero j)⟩ fun i hi=>?_;obtain ⟨hi,hle⟩:i ≤ 11 ∧ ∀ j,j < i→m.deps j ≤ 65536:=hi;by_cases hlt:i < 11
      ·refine qfR ?_;by_cases h6:m.deps i ≤ 65536
       ·refine gP ?_
        exact H.Aq (i + 1) ⟨by show i + 1 ≤ 11;omega,fun j hj=>by
         by_cases e:j = i
         ·rw [e];exact h6
         ·exact hle j (by have:j < i + 1:=hj;omega)⟩ (by show 11 - (i + 1) < 11 - i;omega) ⟨rfl,rfl,trivial⟩ rfl rfl
       ·refine gG ?_;refine qdp ?_;refine H.Ad rfl rfl (fun _ h=>h) ⟨?_,rfl,rfl⟩;rw [decide_eq_false (fun h=>h6 ((maxTo_le m.deps 65536 10).1 h.2.2.2.2.2 i (by omega)))];rfl
      ·have hi11:i = 11:=by omega
       subst hi11;have h7:m.outer:=⟨h1,h2,h3,h4,h5,(maxTo_le m.deps 65536 10).2 fun j hj=>hle j (by omega)⟩;rw [decide_eq_true h7,Bool.true_and]
       refine gU ?_;refine H.Ae (ls:=m.body.vals q qc) rfl rfl rfl (msg_body (by repeat constructor)) rfl rfl ?_;refine H.Af rfl rfl rfl (rbody_fn f _ hq hl) ?_;refine gR ?_;exact qaz
     ·skip;refine Fn.e1 Tryz.func19 Tryz.ntmps19 fun base=>?_;exact qaH
    ·exact qbA
   ·exact qbA
  ·exact qbA
 ·exact qbA
end
def depsB (d:Nat→Int):Nat→List UInt8
 | 0=>[]
 | i + 1=>depsB d i ++ be 8 (d i)
theorem depsB_len (d:Nat→Int):∀ n,(depsB d n).length = 8 * n
 | 0=>rfl
 | n + 1=>by simp only [depsB,List.length_append,be_len,depsB_len d n];omega
def Msg.tagged (m:Msg):List UInt8:=[b8 m.origin] ++ depsB m.deps 11 ++ [m.body.kind] ++ m.body.put
def Msg.may (m:Msg):Bool:=decide m.outer && m.body.may
def Msg.bytes (m:Msg):List UInt8:=if m.may = true then m.tagged else []
theorem H.asSlc {base:World} {L:Env} {K:Kont} {b k:Nat} {ls:List Value} (hl:ls.length = k * sz) (hk:k ≤ 9223372036854775807)
  (h:H P base n L f (slc (some ⟨b,0,none⟩) k k T sz ls::A) K):H P base n L f (row b T ls::A) K:=
 H.imp (A':=slc (some ⟨b,0,none⟩) k k T sz ls::A) (fun x ⟨m1,m2,d,e,a,r⟩=>⟨m1,m2,d,e,row_slc hl hk a,r⟩) h
theorem b8_small {z:Int} (h:0 ≤ z ∧ z < 256):((b8 z).toNat:Int) = z:=by
 unfold b8;exact qcl
theorem quo_len:∀ (q:List (Int × Int)) (w:Int),w ≤ 11→quo w q = true→(q.length:Int) ≤ 11 - w
 | [],w,hw,_=>by simp;omega
 | p :: r, w, hw, h => by
  unfold quo at h
  split at h
  ·cases h
  ·have ih:=quo_len r p.1 (by omega) h
   rw [List.length_cons];omega
theorem Bod.may_spec (h:x.may = true):Bod.eqB x.own x = true ∧ x.view < 1073741824 ∧ x.mayK x.kind.toNat = true:=by
 unfold Bod.may at h;simp only [Bool.and_eq_true,decide_eq_true_eq] at h;exact ⟨h.1.1,h.1.2,h.2⟩
theorem Bod.eqB_q {b:Bod} (h:Bod.eqB a b = true):a.q = b.q:=by
 unfold Bod.eqB at h;simp only [Bool.and_eq_true,decide_eq_true_eq] at h;exact h.1.2
theorem Bod.may_q (h:x.may = true):x.q.length ≤ 11:=by
 obtain ⟨h1,h2,h3⟩:=Bod.may_spec h;have h4:=Bod.eqB_q h1;unfold Bod.own at h4
 generalize hk:x.kind.toNat = k at h3 h4
 match k,h3,h4 with
 | 0,h3,_=>exact absurd h3 (by simp [Bod.mayK])
 | 1,_,h4=>have h4:[] = x.q:=h4;rw [← h4];exact Nat.zero_le _
 | 2,_,h4=>have h4:[] = x.q:=h4;rw [← h4];exact Nat.zero_le _
 | 3,_,h4=>have h4:[] = x.q:=h4;rw [← h4];exact Nat.zero_le _
 | 5,_,h4=>have h4:[] = x.q:=h4;rw [← h4];exact Nat.zero_le _
 | 6,_,h4=>have h4:[] = x.q:=h4;rw [← h4];exact Nat.zero_le _
 | k + 7,h3,_=>exact absurd h3 (by simp [Bod.mayK])
 | 4, h3, _ =>
  simp only [Bod.mayK,Bool.and_eq_true,decide_eq_true_eq] at h3
  have:=quo_len x.q 0 (by omega) h3.2.1;omega
theorem Msg.may_body (h:m.may = true):m.body.may = true:=by
 unfold Msg.may at h;simp only [Bool.and_eq_true] at h;exact h.2
section
variable (f:Frag) (F:List HP)
theorem rbytes_fn (hq:QAt f q m.body.q) (hl:m.body.q.length ≤ 1000000000) :
  Fn Tryz.prog 56 [.agg (m.vals q qc).toArray] f F (BytesR m.bytes f F):=by
 have hmay:=fun G=>rmay_fn (m:=m) (qc:=qc) f G hq hl;unfold Msg.bytes
 have e0:m.may = (decide m.outer && m.body.may):=rfl;rw [← e0] at hmay
 by_cases hm:m.may = true
 ·rw [if_pos hm];rw [hm] at hmay;refine Fn.e1 Tryz.func56 Tryz.ntmps56 fun base => ?_;refine qev fun mb => ?_;refine gJ ?_;refine qeI ?_;refine ga ?_;rw [u8_b8];refine H.Ar (out := bytesV [b8 m.origin]) rfl rfl rfl rfl (by decide) (by decide) rfl rfl fun tb => ?_;refine H.asSlc (k := 1) (sz := 1) rfl (by decide) ?_;refine gR ?_;generalize hB0 : [b8 m.origin] = B0; have hB0l : B0.length = 1 := by rw [← hB0]; rfl
  refine qdm ?_
  refine H.loop (ι:=Nat × Option Addr × Nat) (fun i=>[(4,.int .i64 (i.1:Int)),(3,.slice i.2.1 (B0 ++ depsB m.deps i.1).length i.2.2),(1,.pointer (some ⟨mb,0,none⟩))]) (fun _=>f)
   (fun i=>row mb 51 (m.vals q qc)::slc i.2.1 (B0 ++ depsB m.deps i.1).length i.2.2 5 1 (bytesV (B0 ++ depsB m.deps i.1))::F) (fun i=>i.1 ≤ 11) (fun i=>11 - i.1) (0,some ⟨tb,0,none⟩,1) (Nat.zero_le _) ⟨rfl,?_,rfl,trivial⟩ rfl ?_ fun i hi=>?_
  ·show some (Value.slice _ 1 1) = some (Value.slice _ (B0 ++ []).length 1);rw [List.append_nil,hB0l]
  ·show _ = _::slc _ (B0 ++ []).length 1 _ 1 (bytesV (B0 ++ []))::F;rw [List.append_nil,hB0l]
  ·obtain ⟨i,p',c'⟩:=i;have hi:i ≤ 11:=hi;show H _ _ _ [(4,.int .i64 (i:Int)),(3,.slice p' (B0 ++ depsB m.deps i).length c'),_] _ (_::slc p' (B0 ++ depsB m.deps i).length c' _ 1 (bytesV (B0 ++ depsB m.deps i))::F) _
   have hal:(B0 ++ depsB m.deps i).length = 1 + 8 * i:=by rw [List.length_append,depsB_len,hB0l]
   by_cases hlt:i < 11
   ·have e1:B0 ++ depsB m.deps (i + 1) = (B0 ++ depsB m.deps i) ++ be 8 (m.deps i):=by simp only [depsB,List.append_assoc]
    generalize B0 ++ depsB m.deps i = acc at hal e1 ⊢;refine qfR ?_;refine H.Ap rfl rfl rfl (zbw (l:=acc) f _ (Src.slcS (by repeat constructor) (by rw [zad];exact (Nat.mul_one _).symm)) (by omega)) fun p1 c1=>?_;refine gD ?_;refine H.pd (x:=slc p' _ c' _ _ _) ?_;refine qdm ?_;refine H.Aq (i + 1,p1,c1) (by show i + 1 ≤ 11;omega) (by show 11 - (i + 1) < 11 - i;omega) ⟨rfl,?_,rfl,trivial⟩ rfl ?_
    ·show some _ = some (Value.slice p1 (B0 ++ depsB m.deps (i + 1)).length c1);rw [e1]
    ·show _ = _::slc p1 (B0 ++ depsB m.deps (i + 1)).length c1 _ 1 (bytesV (B0 ++ depsB m.deps (i + 1)))::F;rw [e1]
   ·have hi11:i = 11:=by omega
    subst hi11;generalize hacc:B0 ++ depsB m.deps 11 = acc at hal ⊢;refine gU ?_;refine H.Ae (ls:=m.body.vals q qc) rfl rfl rfl (msg_body (by repeat constructor)) rfl rfl ?_;refine qdg fun yb=>?_;refine H.Ah (ls:=(Bod.zero 0).vals none 0) (vs:=m.body.vals q qc) (ls':=m.body.vals q qc) rfl rfl rfl (zaa rfl) rfl rfl (Nat.le_refl 76) (by repeat constructor) ?_;refine gF ?_;refine H.Ar (out:=bytesV [m.body.kind]) rfl rfl rfl rfl (by decide) (by decide) rfl rfl fun tb=>?_;refine H.Aw (m:=1) (xs:=bytesV acc) rfl rfl rfl rfl rfl (fun p' c'=>(by repeat constructor)) (Src.slice (Rd.ofRow (by repeat constructor)) rfl) (zal _) rfl (by omega) (by omega) fun p2 c2=>?_;refine gO ?_;refine H.pd (x:=row tb _ _) ?_;have e2:(acc ++ [m.body.kind]).length = acc.length + 1:=by rw [List.length_append];rfl
    have e3:bytesV (acc ++ [m.body.kind]) = bytesV acc ++ bytesV [m.body.kind]:=zag _ _;show H _ _ _ ((33,_)::(32,_)::(31,_)::(3,.slice p2 (acc.length + 1) c2)::_) _ (_::_::slc p2 (acc.length + 1) c2 _ 1 (bytesV acc ++ bytesV [m.body.kind])::F) _
    rw [← e2,← e3];have htag:m.tagged = (acc ++ [m.body.kind]) ++ m.body.putK m.body.kind.toNat:=by rw [← hacc,← hB0];rfl
    rw [htag];have hal2:(acc ++ [m.body.kind]).length = 90:=by omega
    generalize acc ++ [m.body.kind] = l0 at hal2 ⊢;have hbm:=Bod.may_spec (Msg.may_body hm);have hql:=Bod.may_q (Msg.may_body hm)
    have hmk:=hbm.2.2;generalize hk:m.body.kind.toNat = kind at hmk
    match kind,hk,hmk with
    | 0,hk,hmk=>exact absurd hmk (by simp [Bod.mayK])
    | k + 7,hk,hmk=>exact absurd hmk (by simp [Bod.mayK])
    | 2, hk, hmk =>
     refine gM ?_;refine qeh fun p3 c3=>?_;refine H.pd (x:=slc p2 _ c2 _ _ _) ?_;have e4:(l0 ++ be 8 m.body.view).length = 98:=by rw [List.length_append,be_len,hal2]
     generalize hl1:l0 ++ be 8 m.body.view = l1 at e4;refine gV ?_;refine H.Ap rfl rfl rfl (zbw (l:=l1) f _ (Src.slcS (by repeat constructor) (by rw [zad];exact (Nat.mul_one _).symm)) (by omega)) fun p4 c4=>?_;refine H.pd (x:=slc p3 _ c3 _ _ _) ?_;refine gR ?_;refine H.pd (x:=row yb _ _) ?_;refine qdu ?_;have e9:l0 ++ m.body.putK 2 = l1 ++ be 8 m.body.k:=by rw [← hl1];simp only [Bod.putK,List.append_assoc]
     exact H.Ad rfl rfl (fun _ h=>h) ⟨p4,c4,by rw [e9],rfl,by rw [e9]⟩
    | 3, hk, hmk =>
     exact qaX
    | 5, hk, hmk =>
     exact qaX
    | 6, hk, hmk =>
     refine ga ?_;refine qdA ?_;refine HB.qu [0,1,2,4,5] 3 ?_;refine gS ?_;refine qdr ?_;refine qdb ?_;refine HB.ev 3 ?_;refine qeh fun p3 c3=>?_;refine gA ?_;refine H.pd (x:=slc p2 _ c2 _ _ _) ?_;refine H.pf (x:=row yb _ _) ?_;refine qdI ?_;have e4:(l0 ++ be 8 m.body.k).length = 98:=by rw [List.length_append,be_len,hal2]
     generalize hl1:l0 ++ be 8 m.body.k = l1 at e4;refine HB.ev 6 ?_;refine H.Aw (m:=32) (xs:=bytesV l1) rfl rfl rfl rfl rfl (fun p' c'=>(by repeat constructor)) (Src.slice (row_dig (by repeat constructor)) rfl) (zal _) rfl (by omega) (by omega) fun p4 c4=>?_;refine qcS ?_;refine HB.qu [7] 0 ?_;refine qg ?_;refine gR ?_;refine H.pd (x:=row yb _ _) ?_;refine qdu ?_;have e9:l0 ++ m.body.putK 6 = l1 ++ b32L m.body.dig:=by rw [← hl1];simp only [Bod.putK,List.append_assoc]
     exact H.Ad rfl rfl (fun _ h=>h) ⟨p4,c4,by rw [e9,List.length_append];rfl,rfl,by rw [e9,List.length_append,zag];rfl⟩
    | 1, hk, hmk =>
     have ha:m.body.req.asked:=of_decide_eq_true hmk
     have hrl:m.body.req.bytes.length ≤ 1000:=by
      obtain ⟨_,_,_,_,⟨k1,k2⟩,k3,k4⟩:=ha;rw [Req.bytes_len];omega
     refine gM ?_;refine qeh fun p3 c3=>?_;refine H.pd (x:=slc p2 _ c2 _ _ _) ?_;have e4:(l0 ++ be 8 m.body.view).length = 98:=by rw [List.length_append,be_len,hal2]
     generalize hl1:l0 ++ be 8 m.body.view = l1 at e4;refine gO ?_;refine H.pf (x:=row yb _ _) ?_;refine qdA ?_;refine HB.qu [0,1,2,4,5,6] 3 ?_;refine gS ?_;refine HQ.Ae (ls:=m.body.req.vals) rfl rfl rfl (zbv (by repeat constructor)) rfl rfl ?_;refine gQ ?_;refine qdr ?_;refine qdb ?_;refine HB.ev 3 ?_;refine H.pf (x:=slc p3 _ c3 _ _ _) ?_;refine H.Ap rfl rfl rfl (rrequest_fn (l:=l1) f _ m.body.req ha (by omega)) fun p4 c4=>?_;have e5:(l1 ++ m.body.req.bytes).length = l1.length + m.body.req.bytes.length:=List.length_append;generalize hl2:l1 ++ m.body.req.bytes = l2 at e5
     refine gA ?_;refine H.pf (x:=row yb _ _) ?_;refine qdI ?_;refine HB.ev 7 ?_;refine H.Aw (m:=32) (xs:=bytesV l2) rfl rfl rfl rfl rfl (fun p' c'=>(by repeat constructor)) (Src.slice (row_rtag (by repeat constructor)) rfl) (zal _) rfl (by omega) (by omega) fun p5 c5=>?_;refine qcS ?_;refine HB.qu [8] 0 ?_;refine qg ?_;refine gR ?_;refine H.pd (x:=row yb _ _) ?_;refine qdu ?_;have e9:l0 ++ m.body.putK 1 = l2 ++ b32L m.body.req.tag:=by rw [← hl2,← hl1];simp only [Bod.putK,List.append_assoc]
     exact H.Ad rfl rfl (fun _ h=>h) ⟨p5,c5,by rw [e9,List.length_append];rfl,rfl,by rw [e9,List.length_append,zag];rfl⟩
    | 4, hk, hmk =>
     refine gM ?_;refine qeh fun p3 c3=>?_;refine H.pd (x:=slc p2 _ c2 _ _ _) ?_;have e4:(l0 ++ be 8 m.body.view).length = 98:=by rw [List.length_append,be_len,hal2]
     generalize hl1:l0 ++ be 8 m.body.view = l1 at e4;refine gV ?_;have hlv:Value.int .u8 ((m.body.q.length:Nat):Int) = .int .u8 ((b8 m.body.q.length).toNat:Int):=by rw [b8_small (by omega)]
     refine H.Bh (d:=62) rfl hlv ?_;refine H.Ar (out:=bytesV [b8 m.body.q.length]) rfl rfl rfl rfl (by decide) (by decide) rfl rfl fun tb=>?_;refine H.Aw (m:=1) (xs:=bytesV l1) rfl rfl rfl rfl rfl (fun p' c'=>(by repeat constructor)) (Src.slice (Rd.ofRow (.here _ _ _)) rfl) (zal _) rfl (by omega) (by omega) fun p4 c4=>?_;refine gR ?_;refine H.pd (x:=row tb _ _) ?_;have e5:(l1 ++ [b8 m.body.q.length]).length = l1.length + 1:=by rw [List.length_append];rfl
     have e6:bytesV (l1 ++ [b8 m.body.q.length]) = bytesV l1 ++ bytesV [b8 m.body.q.length]:=zag _ _;generalize hl2:l1 ++ [b8 m.body.q.length] = l2 at e5 e6
     refine qdx ?_;refine H.pf (x:=row yb _ _) ?_
     refine H.loop (ι:=Nat × Option Addr × Nat) (fun i=>[(6,.int .i64 (i.1:Int)),(3,.slice i.2.1 (l2 ++ (m.body.q.take i.1).flatMap pairB).length i.2.2),(5,.pointer (some ⟨yb,0,none⟩))]) (fun _=>f)
      (fun i=>row yb 47 (m.body.vals q qc)::row mb 51 (m.vals q qc)::slc i.2.1 (l2 ++ (m.body.q.take i.1).flatMap pairB).length i.2.2 5 1 (bytesV (l2 ++ (m.body.q.take i.1).flatMap pairB))::F)
      (fun i=>i.1 ≤ m.body.q.length ∧ (l2 ++ (m.body.q.take i.1).flatMap pairB).length = 99 + 9 * i.1) (fun i=>m.body.q.length - i.1) (0,p4,c4) ⟨Nat.zero_le _,by show (l2 ++ []).length = 99;rw [List.append_nil];omega⟩ ⟨rfl,?_,rfl,trivial⟩ rfl ?_ fun i hi=>?_
     ·show some (Value.slice p4 (l1.length + 1) c4) = some (Value.slice p4 (l2 ++ []).length c4);rw [List.append_nil,e5]
     ·show _ = _::_::slc p4 (l2 ++ []).length c4 _ 1 (bytesV (l2 ++ []))::F;rw [List.append_nil,e5,e6];rfl
     ·obtain ⟨i,p',c'⟩:=i;obtain ⟨hi,hlen⟩:i ≤ m.body.q.length ∧ (l2 ++ (m.body.q.take i).flatMap pairB).length = 99 + 9 * i:=hi;show H _ _ _ [(6,.int .i64 (i:Int)),(3,.slice p' (l2 ++ (m.body.q.take i).flatMap pairB).length c'),_] _ (_::_::slc p' (l2 ++ (m.body.q.take i).flatMap pairB).length c' _ 1 (bytesV (l2 ++ (m.body.q.take i).flatMap pairB))::F) _;generalize hac:l2 ++ (m.body.q.take i).flatMap pairB = ac at hlen;by_cases hlt:i < m.body.q.length
      ·obtain ⟨pr,hx⟩:∃ pr,m.body.q[i]? = some pr:=⟨m.body.q[i],List.getElem?_eq_getElem hlt⟩
       have e7:l2 ++ (m.body.q.take (i + 1)).flatMap pairB = ac ++ [b8 pr.1] ++ be 8 pr.2:=by
        rw [List.take_add_one,hx,← hac];simp [pairB]
       obtain ⟨b,off,cs,T,fr,rfl,hfb,hcs⟩:=hq i pr hx;have rd:∀ A,Rd f A b (off + i * 2) (pairV pr):=fun A=>Rd.imm hfb hcs;clear hcs hfb
       refine gO ?_;refine qdA ?_;refine HB.qu [0,1,2,3,4,5,6,7,10,11,12,13,14,15] 4 ?_;refine gS ?_;refine HQ.Ag rfl rfl rfl rfl hlt rfl ?_;refine gQ ?_;refine HQ.Ab rfl rfl rfl (.of (rd _) (i:=0) rfl) rfl ?_;refine gS ?_;rw [u8_b8];refine HQ.Ag rfl rfl rfl rfl hlt rfl ?_;refine gQ ?_;refine HQ.Ab rfl rfl rfl (.of (rd _) (i:=1) rfl) rfl ?_;refine qdb ?_;refine HB.ev 8 ?_;refine H.Ar (out:=bytesV [b8 pr.1]) rfl rfl rfl rfl (by decide) (by decide) rfl rfl fun tb=>?_;refine gA ?_;refine H.pf (x:=row yb _ _) ?_;refine qdI ?_;refine HB.ev 9 ?_;refine H.Aw (m:=1) (xs:=bytesV ac) rfl rfl rfl rfl rfl (fun p' c'=>(by repeat constructor)) (Src.slice (Rd.ofRow (.there _ (.here _ _ _))) rfl) (zal _) rfl (by omega) (by omega) fun p5 c5=>?_;refine gA ?_;refine H.pd (x:=row tb _ _) ?_;refine qdI ?_;refine HB.ev 16 ?_;have f0:(ac ++ [b8 pr.1]).length = ac.length + 1:=by rw [List.length_append];rfl
       have f1:bytesV (ac ++ [b8 pr.1]) = bytesV ac ++ bytesV [b8 pr.1]:=zag _ _;generalize ac ++ [b8 pr.1] = l4 at f0 f1 e7
       show H _ _ _ _ _ (row _ _ _::row _ _ _::slc p5 (ac.length + 1) c5 _ _ (bytesV ac ++ bytesV [b8 pr.1])::F) _;rw [← f0,← f1];refine H.Ap rfl rfl rfl (zbw (l:=l4) f _ (Src.slcS (by repeat constructor) (by rw [zad];exact (Nat.mul_one _).symm)) (by omega)) fun p6 c6=>?_;refine gA ?_;refine H.pd (x:=slc p5 _ c5 _ _ _) ?_;refine qdx ?_;refine H.pf (x:=row yb _ _) ?_;refine qdI ?_;refine HB.qu [17] 0 ?_;refine qg ?_;refine gD ?_;refine H.Aq (i + 1,p6,c6) ⟨by show i + 1 ≤ m.body.q.length;omega,?_⟩ (by show m.body.q.length - (i + 1) < m.body.q.length - i;omega) ⟨rfl,?_,rfl,trivial⟩ rfl ?_
       ·show (l2 ++ (m.body.q.take (i + 1)).flatMap pairB).length = 99 + 9 * (i + 1);rw [e7,List.length_append,be_len];omega
       ·show some _ = some (Value.slice p6 (l2 ++ (m.body.q.take (i + 1)).flatMap pairB).length c6);rw [e7]
       ·show _ = _::_::slc p6 (l2 ++ (m.body.q.take (i + 1)).flatMap pairB).length c6 _ 1 (bytesV (l2 ++ (m.body.q.take (i + 1)).flatMap pairB))::F;rw [e7];rfl
      ·have hiq:i = m.body.q.length:=by omega
       rw [hiq,List.take_length] at hac;refine gO ?_;refine H.pd (x:=row yb _ _) ?_;refine qdu ?_;have e9:l0 ++ m.body.putK 4 = ac:=by rw [← hac,← hl2,← hl1];simp only [Bod.putK,List.append_assoc]
       exact H.Ad rfl rfl (fun _ h=>h) ⟨p',c',by rw [e9],rfl,by rw [e9]⟩
 ·rw [if_neg hm];rw [Bool.eq_false_iff.2 hm] at hmay;refine Fn.e1 Tryz.func56 Tryz.ntmps56 fun base=>?_;refine qev fun mb=>?_;refine gJ ?_;refine qeI ?_;refine gX ?_;refine qdp ?_;refine H.slc0 5 1 ?_;exact H.r1 ⟨none,0,rfl,rfl,rfl⟩
end
theorem b32_get (t:Nat→UInt8) {i:Nat} (h:i < 32):(b32 t)[i]? = some (.int .u8 ((t i).toNat:Nat)):=by
 match i,h with
 | 0,_=>rfl
 | 1,_=>rfl
 | 2,_=>rfl
 | 3,_=>rfl
 | 4,_=>rfl
 | 5,_=>rfl
 | 6,_=>rfl
 | 7,_=>rfl
 | 8,_=>rfl
 | 9,_=>rfl
 | 10,_=>rfl
 | 11,_=>rfl
 | 12,_=>rfl
 | 13,_=>rfl
 | 14,_=>rfl
 | 15,_=>rfl
 | 16,_=>rfl
 | 17,_=>rfl
 | 18,_=>rfl
 | 19,_=>rfl
 | 20,_=>rfl
 | 21,_=>rfl
 | 22,_=>rfl
 | 23,_=>rfl
 | 24,_=>rfl
 | 25,_=>rfl
 | 26,_=>rfl
 | 27,_=>rfl
 | 28,_=>rfl
 | 29,_=>rfl
 | 30,_=>rfl
 | 31,_=>rfl
 | n + 32,h=>exact absurd h (by omega)
theorem tmod64 (n m:Nat):((n:Int)).tmod (m:Int) = ((n % m:Nat):Int):=rfl
theorem tdiv64 (n m:Nat):((n:Int)).tdiv (m:Int) = ((n / m:Nat):Int):=rfl
namespace Sha
theorem padded_len (b:List UInt8):(padded b).length = b.length + 1 + padZ b.length + 8:=by
 unfold padded;simp only [List.length_append,List.length_cons,List.length_nil,List.length_replicate,be_len]
theorem padded_mod (b:List UInt8):(padded b).length % 64 = 0:=by
 rw [padded_len];unfold padZ;omega
theorem pad_not {i:Nat} (h:i < padZ n):(n + 1 + i) % 64 ≠ 56:=by
 unfold padZ at h;omega
theorem pad_is (n:Nat):(n + 1 + padZ n) % 64 = 56:=by
 unfold padZ;omega
theorem chunk_get (P:List UInt8) {j i:Nat} (hi:i < 64):((P.drop (64 * j)).take 64).getD i 0 = P.getD (64 * j + i) 0:=by
 rw [List.getD_eq_getElem?_getD,List.getElem?_take,if_pos hi,List.getElem?_drop,← List.getD_eq_getElem?_getD]
end Sha
section
variable (f:Frag) (F:List HP)
def zb (n:Nat):List Value:=List.replicate n (.int .u8 0)
theorem rsum_fn (hs:Src Tryz.prog f F (.slice p b.length c) 1 b.length (bytesV b)) (hl:b.length ≤ 1000000000) :
  Fn Tryz.prog 102 [.slice p b.length c] f F (Ret (.agg (b32 (Sha.sum b)).toArray) f F):=by
 refine Fn.e1 Tryz.func102 Tryz.ntmps102 fun base=>?_;refine gA ?_;refine qfc fun ob=>?_;refine gA ?_;refine qdF fun eb=>?_;refine H.asSlc (k:=0) (sz:=1) rfl (by decide) ?_;refine gJ ?_;refine H.Aw (xs:=[]) rfl rfl rfl rfl rfl (fun p' c'=>.here _ _ _) hs.cons.cons (zal b) rfl (by omega) (by omega) fun p1 c1=>?_;rw [Nat.zero_add,List.nil_append];refine H.Ar (out:=bytesV [0x80]) rfl rfl rfl rfl (by decide) (by decide) rfl rfl fun tb=>?_;refine H.Aw (m:=1) (xs:=bytesV b) rfl rfl rfl rfl rfl (fun p' c'=>(by repeat constructor)) (Src.slice (Rd.ofRow (.here _ _ _)) rfl) (zal _) rfl (by omega) (by omega) fun p2 c2=>?_;refine H.pd (x:=row tb _ _) ?_;refine gR ?_;have e1:(b ++ [0x80]).length = b.length + 1:=by rw [List.length_append];rfl
 have e2:bytesV (b ++ [0x80]) = bytesV b ++ bytesV [0x80]:=zag _ _
 refine H.loop (ι:=Nat × Option Addr × Nat) (fun i=>[(3,.slice i.2.1 (b ++ [0x80] ++ List.replicate i.1 0).length i.2.2),(0,.slice p b.length c),(2,.pointer (some ⟨ob,0,none⟩))]) (fun _=>f)
  (fun i=>slc i.2.1 (b ++ [0x80] ++ List.replicate i.1 0).length i.2.2 5 1 (bytesV (b ++ [0x80] ++ List.replicate i.1 0))::row ob 42 (zb 32)::F) (fun i=>i.1 ≤ Sha.padZ b.length) (fun i=>Sha.padZ b.length - i.1) (0,p2,c2) (Nat.zero_le _) ⟨?_,rfl,rfl,trivial⟩ rfl ?_ fun i hi=>?_
 ·show some (Value.slice p2 (b.length + 1) c2) = some (Value.slice p2 (b ++ [0x80] ++ []).length c2);rw [List.append_nil,e1]
 ·show _ = slc p2 (b ++ [0x80] ++ []).length c2 _ 1 (bytesV (b ++ [0x80] ++ []))::_;rw [List.append_nil,e1,e2];rfl
 obtain ⟨i,p',c'⟩:=i;have hi:i ≤ Sha.padZ b.length:=hi;have hpz:Sha.padZ b.length < 64:=Nat.mod_lt _ (by decide)
 show H _ _ _ [(3,.slice p' (b ++ [0x80] ++ List.replicate i 0).length c'),_,_] _ (slc p' (b ++ [0x80] ++ List.replicate i 0).length c' _ 1 (bytesV (b ++ [0x80] ++ List.replicate i 0))::_) _;have hal:(b ++ [0x80] ++ List.replicate i 0).length = b.length + 1 + i:=by rw [List.length_append,e1,List.length_replicate]
 by_cases hlt:i < Sha.padZ b.length
 ·have hnot:=Sha.pad_not hlt;have e3:b ++ [0x80] ++ List.replicate (i + 1) 0 = (b ++ [0x80] ++ List.replicate i 0) ++ [0]:=by rw [List.replicate_succ',← List.append_assoc]
  generalize b ++ [0x80] ++ List.replicate i 0 = acc at hal e3 ⊢;refine gJ ?_;refine H.rem rfl rfl rfl (by decide) (tmod64 acc.length 64) rfl ?_;refine gG ?_;refine qgY fun tb=>?_;refine qgj fun p3 c3=>?_;refine H.pd (x:=row tb _ _) ?_;refine gR ?_;refine H.Aq (i + 1,p3,c3) (by show i + 1 ≤ _;omega) (by show Sha.padZ b.length - (i + 1) < Sha.padZ b.length - i;omega) ⟨?_,rfl,rfl,trivial⟩ rfl ?_
  ·show some (Value.slice p3 (acc.length + 1) c3) = some (Value.slice p3 (b ++ [0x80] ++ List.replicate (i + 1) 0).length c3);rw [e3,List.length_append];rfl
  ·show _ = slc p3 (b ++ [0x80] ++ List.replicate (i + 1) 0).length c3 _ 1 (bytesV (b ++ [0x80] ++ List.replicate (i + 1) 0))::_;rw [e3,List.length_append,zag];rfl
 ·have hip:i = Sha.padZ b.length:=by omega
  subst hip;have his:=Sha.pad_is b.length;have hpad:Sha.padded b = (b ++ [0x80] ++ List.replicate (Sha.padZ b.length) 0) ++ be 8 ((b.length * 8:Nat):Int):=rfl
  have hplen:=Sha.padded_len b;have hpmod:=Sha.padded_mod b
  unfold Sha.sum;generalize Sha.padded b = P at hpad hplen hpmod ⊢;generalize b ++ [0x80] ++ List.replicate (Sha.padZ b.length) 0 = acc at hal hpad ⊢;refine gJ ?_;refine H.rem rfl rfl rfl (by decide) (tmod64 acc.length 64) rfl ?_;refine gP ?_;generalize hN:((b.length * 8:Nat):Int) = N at hpad;refine H.Bh (d:=4) (u:=.int .u64 N) rfl (congrArg (Value.int .u64) (by omega)) ?_
  refine H.loop (ι:=Nat × Option Addr × Nat) (fun i=>[(5,.int .i64 (7 - (i.1:Int))),(3,.slice i.2.1 (acc ++ beTop 8 N i.1).length i.2.2),(4,.int .u64 N),(2,.pointer (some ⟨ob,0,none⟩))]) (fun _=>f)
   (fun i=>slc i.2.1 (acc ++ beTop 8 N i.1).length i.2.2 5 1 (bytesV (acc ++ beTop 8 N i.1))::row ob 42 (zb 32)::F) (fun i=>i.1 ≤ 8) (fun i=>8 - i.1) (0,p',c') (Nat.zero_le _) ⟨rfl,?_,rfl,rfl,trivial⟩ rfl ?_ fun i hi=>?_
  ·show some (Value.slice p' acc.length c') = some (Value.slice p' (acc ++ []).length c');rw [List.append_nil]
  ·show _ = slc p' (acc ++ []).length c' _ 1 (bytesV (acc ++ []))::_;rw [List.append_nil]
  obtain ⟨i,p',c'⟩:=i;have hi:i ≤ 8:=hi;show H _ _ _ [(5,.int .i64 (7 - (i:Int))),(3,.slice p' (acc ++ beTop 8 N i).length c'),_,_] _ (slc p' (acc ++ beTop 8 N i).length c' _ 1 (bytesV (acc ++ beTop 8 N i))::_) _
  have hcl:(acc ++ beTop 8 N i).length = acc.length + i:=by rw [List.length_append,beTop_len]
  by_cases hlt:i < 8
  ·have hexp:min (8 * (7 - (i:Int))).toNat IntKind.u64.bits = 8 * (8 - 1 - i):=by simp only [IntKind.bits];omega
   have hsh:N.fdiv (2 ^ (min (8 * (7 - (i:Int))).toNat IntKind.u64.bits)) = N.fdiv (2 ^ (8 * (8 - 1 - i))):=by rw [hexp]
   have e3:acc ++ beTop 8 N (i + 1) = (acc ++ beTop 8 N i) ++ [byteAt N (8 - 1 - i)]:=by simp only [beTop,List.append_assoc]
   generalize acc ++ beTop 8 N i = ac at hcl e3 ⊢;refine gc ?_;refine H.Bo rfl rfl rfl rfl (by omega) hsh rfl ?_;refine H.Bk rfl rfl (byteAt_wrap N (8 - 1 - i)) rfl ?_;refine H.Ar (out:=bytesV [byteAt N (8 - 1 - i)]) rfl rfl rfl rfl (by decide) (by decide) rfl rfl fun tb=>?_;refine H.Aw (m:=1) (xs:=bytesV ac) rfl rfl rfl rfl rfl (fun p' c'=>(by repeat constructor)) (Src.slice (Rd.ofRow (.here _ _ _)) rfl) (zal _) rfl (by omega) (by omega) fun p3 c3=>?_;refine H.pd (x:=row tb _ _) ?_;refine gD ?_;refine H.Bh (d:=5) (u:=.int .i64 (7 - ((i + 1:Nat):Int))) rfl (congrArg (Value.int .i64) (by omega)) ?_;refine H.Aq (i + 1,p3,c3) (by show i + 1 ≤ 8;omega) (by show 8 - (i + 1) < 8 - i;omega) ⟨rfl,?_,rfl,rfl,trivial⟩ rfl ?_
   ·show some (Value.slice p3 (ac.length + 1) c3) = some (Value.slice p3 (acc ++ beTop 8 N (i + 1)).length c3);rw [e3,List.length_append];rfl
   ·show _ = slc p3 (acc ++ beTop 8 N (i + 1)).length c3 _ 1 (bytesV (acc ++ beTop 8 N (i + 1)))::_;rw [e3,List.length_append,zag];rfl
  ·have hi8:i = 8:=by omega
   subst hi8;have hP:acc ++ beTop 8 N 8 = P:=hpad.symm;rw [hP]
   refine gL ?_;refine H.Af rfl rfl rfl (start_fn f _) ?_;refine qgv fun hb=>?_;refine H.Ah (ls:=List.replicate 8 (.int .u32 0)) (vs:=Sha.start.vals) (ls':=Sha.start.vals) rfl rfl rfl (zaa rfl) rfl rfl (Nat.le_refl 8) (by repeat constructor) ?_;refine gR ?_;have hPl:P.length ≤ 2000000000:=by omega
   obtain ⟨nb,hnb⟩:∃ nb,P.length = 64 * nb:=⟨P.length / 64,by omega⟩;have hdiv:P.length / 64 = nb:=by omega
   rw [hdiv];refine H.Av (.there _ (.here _ _ _)) (by omega) fun pb hp=>?_;subst hp
   refine H.lo (ι:=Nat) (fun j=>[(7,.int .i64 ((64 * j:Nat):Int)),(3,.slice (some ⟨pb,0,none⟩) P.length c'),(6,.pointer (some ⟨hb,0,none⟩)),(2,.pointer (some ⟨ob,0,none⟩))]) (fun _=>f)
    (fun j=>row hb 246 (Sha.blocks Sha.start P j).vals::slc (some ⟨pb,0,none⟩) P.length c' 5 1 (bytesV P)::row ob 42 (zb 32)::F) (fun j=>j ≤ nb) (fun j=>nb - j) 0 (Nat.zero_le _) fun j hj=>?_
   have hj:j ≤ nb:=hj;by_cases hlt:j < nb
   ·have hbk:Sha.blocks Sha.start P (j + 1) = Sha.block (Sha.blocks Sha.start P j) ((P.drop (64 * j)).take 64):=rfl;have hcg:∀ i,i < 64→((P.drop (64 * j)).take 64).getD i 0 = P.getD (64 * j + i) 0:=fun i hi=>Sha.chunk_get P hi
    have hcl:((P.drop (64 * j)).take 64).length = 64:=by rw [List.length_take,List.length_drop];omega
    generalize (P.drop (64 * j)).take 64 = ch at hbk hcg hcl;show H _ _ _ _ _ (row hb _ (Sha.blocks Sha.start P j).vals::_) _;generalize Sha.blocks Sha.start P j = sj at hbk ⊢;refine gG ?_;refine H.Ak (ls:=(bytesV ch).take 0 ++ (zb 64).drop 0) rfl rfl rfl fun ib=>?_;refine gR ?_
    refine H.lo (ι:=Nat) (fun i=>[(9,.int .i64 (i:Int)),(8,.pointer (some ⟨ib,0,none⟩)),(7,.int .i64 ((64 * j:Nat):Int)),(3,.slice (some ⟨pb,0,none⟩) P.length c'),(6,.pointer (some ⟨hb,0,none⟩)),(2,.pointer (some ⟨ob,0,none⟩))]) (fun _=>f)
     (fun i=>row ib 248 ((bytesV ch).take i ++ (zb 64).drop i)::row hb 246 sj.vals::slc (some ⟨pb,0,none⟩) P.length c' 5 1 (bytesV P)::row ob 42 (zb 32)::F) (fun i=>i ≤ 64) (fun i=>64 - i) 0 (Nat.zero_le _) fun i hi=>?_
    have hi:i ≤ 64:=hi;by_cases hli:i < 64
    ·have hset:SetV ((bytesV ch).take i ++ (zb 64).drop i) i (.int .u8 ((P.getD (64 * j + i) 0).toNat:Nat)) ((bytesV ch).take (i + 1) ++ (zb 64).drop (i + 1)):=by
      rw [← hcg i hli];exact fill_set (zcd (by omega)) (by rw [zad,hcl];rfl)
     refine gc ?_;refine H.index1 (i:=64 * j + i) rfl rfl rfl (by omega) (by omega) rfl ?_;refine H.Ab rfl rfl rfl (.of (Rd.ofSlc (.there _ (.there _ (.here _ _ _))) (by omega)) (zcd (by omega))) rfl ?_;refine H.Ao (i:=i) rfl rfl rfl rfl hli rfl ?_;refine H.Ay (ls':=(bytesV ch).take (i + 1) ++ (zb 64).drop (i + 1)) rfl rfl rfl rfl (by repeat constructor) (by rw [Nat.mul_one,Nat.zero_add];exact hset) ?_;refine gD ?_;exact H.ag (i + 1) (by show i + 1 ≤ 64;omega) (by show 64 - (i + 1) < 64 - i;omega)
    ·have hi64:i = 64:=by omega
     subst hi64
     have hfull:(bytesV ch).take 64 ++ (zb 64).drop 64 = bytesV ch:=by
      rw [List.take_of_length_le (by rw [zad,hcl];exact Nat.le_refl _)];show bytesV ch ++ [] = _;rw [List.append_nil]
     rw [hfull];refine gL ?_;refine H.Ae (ls:=sj.vals) rfl rfl rfl (Rd.ofRow (by repeat constructor)) rfl rfl ?_;refine H.Ae (ls:=bytesV ch) rfl rfl rfl (Rd.ofRow (by repeat constructor)) (by rw [zad,hcl]) rfl ?_;refine H.Af rfl rfl rfl (block_fn f _ hcl) ?_;refine H.Ah (ls:=sj.vals) (vs:=(Sha.block sj ch).vals) (ls':=(Sha.block sj ch).vals) rfl rfl rfl (zaa rfl) rfl rfl (Nat.le_refl 8) (by repeat constructor) ?_;refine gD ?_;refine H.pd (x:=row ib _ _) ?_;refine H.Bh (d:=7) (u:=.int .i64 ((64 * (j + 1):Nat):Int)) rfl (congrArg (Value.int .i64) (by omega)) ?_;exact H.Aq (j + 1) (by show j + 1 ≤ nb;omega) (by show nb - (j + 1) < nb - j;omega) ⟨rfl,rfl,rfl,rfl,trivial⟩ rfl (by rw [hbk])
   ·have hjn:j = nb:=by omega
    subst hjn;generalize Sha.blocks Sha.start P j = sj;refine gP ?_;refine H.Ak (ls:=(b32 sj.out).take 0 ++ (zb 32).drop 0) rfl rfl rfl fun rb=>?_;refine gR ?_
    refine H.lo (ι:=Nat) (fun i=>[(11,.int .i64 (i:Int)),(10,.pointer (some ⟨rb,0,none⟩)),(6,.pointer (some ⟨hb,0,none⟩)),(2,.pointer (some ⟨ob,0,none⟩))]) (fun _=>f)
     (fun i=>row rb 42 ((b32 sj.out).take i ++ (zb 32).drop i)::row hb 246 sj.vals::slc (some ⟨pb,0,none⟩) P.length c' 5 1 (bytesV P)::row ob 42 (zb 32)::F) (fun i=>i ≤ 32) (fun i=>32 - i) 0 (Nat.zero_le _) fun i hi=>?_
    have hi:i ≤ 32:=hi;by_cases hli:i < 32
    ·have hset:SetV ((b32 sj.out).take i ++ (zb 32).drop i) i (.int .u8 ((sj.out i).toNat:Nat)) ((b32 sj.out).take (i + 1) ++ (zb 32).drop (i + 1)):=fill_set (b32_get _ hli) rfl;have hgv:=Sha.S8.get_vals sj (i:=i / 4) (by omega)
     unfold Sha.S8.out at hset;refine gG ?_;refine H.quo rfl rfl rfl (by decide) (z:=((i / 4:Nat):Int)) (by rw [show (4:Int) = ((4:Nat):Int) from rfl,tdiv64,wr_i64 (by omega)]) rfl ?_;refine H.Ao (i:=i / 4) rfl rfl rfl rfl (by omega) rfl ?_;refine H.Ab rfl rfl rfl (.of (Rd.ofRow (by repeat constructor)) (by rw [Nat.mul_one];exact hgv)) rfl ?_;refine gJ ?_;refine H.rem rfl rfl rfl (by decide) (tmod64 i 4) rfl ?_;refine gH ?_;refine H.Bh (d:=76) (u:=.int .u64 ((24 - 8 * (i % 4):Nat):Int)) rfl (congrArg (Value.int .u64) (by omega)) ?_;refine H.Bo rfl rfl rfl (u32_shr _ _ (by omega)) (by omega) rfl rfl ?_;refine H.Bk rfl rfl (u8_ofU32 _) rfl ?_;refine H.Ao (i:=i) rfl rfl rfl rfl hli rfl ?_;refine H.Ay (ls':=(b32 sj.out).take (i + 1) ++ (zb 32).drop (i + 1)) rfl rfl rfl rfl (by repeat constructor) (by rw [Nat.mul_one,Nat.zero_add];exact hset) ?_;exact qcD
    ·have hi32:i = 32:=by omega
     subst hi32;refine gL ?_;refine H.Ae (ls:=b32 sj.out) rfl rfl rfl (Rd.ofRow (by repeat constructor)) rfl rfl ?_;refine H.Ah (ls:=zb 32) (vs:=b32 sj.out) (ls':=b32 sj.out) rfl rfl rfl (zaa rfl) rfl rfl (Nat.le_refl 32) (by repeat constructor) ?_;refine qfm ?_;refine qgi ?_;exact qae
end
end Go.Proofs.YtminmjlfmolfeaaGreatDoor
