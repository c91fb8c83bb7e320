/- Parts of the proof, one behind the other, each under its own heading. No conditions. -/
import Derived.Test.YtminmjlfmolfeaaGreatDoorZ08
set_option linter.unusedSectionVars false
set_option linter.unusedSimpArgs false
set_option linter.unusedVariables false
/- Layer 15: the document's worlds: q. No condition. -/
set_option maxHeartbeats 3200000
set_option maxRecDepth 20000
namespace Go.Proofs.YtminmjlfmolfeaaGreatDoor
open Go
def A15.Has (f:Frag) (x:A15):Prop:=BAt f x.qp x.q
theorem qAcc_stop {row:Nat→List (Int × Int)} {half:Nat}:∀ {k m:Nat},k ≤ m→half < (qAcc row half k).length→qAcc row half m = qAcc row half k
 | k, 0, h, _ => by
  have:k = 0:=by omega
  rw [this]
 | k, m + 1, h, hl => by
  by_cases e:k = m + 1
  ·rw [e]
  ·have ih:=qAcc_stop (m:=m) (by omega) hl
   show (if (qAcc row half m).length ≤ half then qAcc row half m ++ row m else qAcc row half m) = _
   rw [ih,if_neg (by omega)]
def qPart (ch:Nat→List (Int × Int)) (kv:Nat→Int) (v:Int) (raw:Bool) (r i:Nat):List (Int × Int):=(((ch r).take i).filter fun c=>decide (c.1 = v) && decide (c.2 ≤ kv r) && !raw).map fun c=>(((r + 1:Nat):Int),c.2)
theorem qPart_all (ch:Nat→List (Int × Int)) (kv:Nat→Int) (v:Int) (raw:Bool) (r:Nat):qPart ch kv v raw r (ch r).length = qRow ch kv v raw r:=by unfold qPart qRow;rw [List.take_length]
theorem qPart_next {ch:Nat→List (Int × Int)} {kv:Nat→Int} {v:Int} {raw:Bool} {r i:Nat} {c:Int × Int} (hc:(ch r)[i]? = some c):qPart ch kv v raw r (i + 1) = qPart ch kv v raw r i ++ (if (decide (c.1 = v) && decide (c.2 ≤ kv r) && !raw) = true then [(((r + 1:Nat):Int),c.2)] else []):=by
 unfold qPart;rw [filt_take hc,List.map_append];congr 1;split <;> rfl
theorem qPart_len (ch:Nat→List (Int × Int)) (kv:Nat→Int) (v:Int) (raw:Bool) (r i:Nat):(qPart ch kv v raw r i).length ≤ (ch r).length:=by
 unfold qPart;rw [List.length_map];exact qcS
variable {fl:Frag} {wb kb lb T m ac n o:Nat} {ap:Option Addr} {x:A15}
section
variable (f:Frag) (F:List HP)
theorem q15_fn (hfl:Le fl f) {l:Lgs} (hL:LI l T) (hT:T ≤ 1000) (hnn:l.n = n) (ho:o < n) {kv:Nat→Nat→Int} (hx:x.Has f) (hq20:x.q.length ≤ 20) (v:Int) :
  Fn Tryz.prog 115 [.pointer (some ⟨wb,0,none⟩),.int .i64 ((o + 1:Nat):Int),.agg x.vals.toArray,.int .u64 v] f (logsH fl lb l::row wb 34 (w15C kb n ap m ac lb)::row kb 36 (kRow n kv)::F)
   (RetE (fun i:Option Addr × Nat=>.slice i.1 (x.qs n l.ch (kv o) v).length i.2) f (fun i=>slc i.1 (x.qs n l.ch (kv o) v).length i.2 133 2 ((x.qs n l.ch (kv o) v).flatMap pairV)::logsH fl lb l::row wb 34 (w15C kb n ap m ac lb)::row kb 36 (kRow n kv)::F)):=by
 refine Fn.unpack fun i0 hi=>?_;obtain ⟨V,vp,vc,pp,pc,cp,cc,pb,cs⟩:=i0;have hn:=hL.n3;obtain ⟨acc,hacc⟩:∃ acc:Nat→List (Int × Int),acc = qAcc (qRow l.ch (kv o) v x.raw) ((n - 1) / 2):=⟨_,rfl⟩
 have hal:∀ k,(acc k).length ≤ (n - 1) / 2 + T:=fun k=>by rw [hacc];exact qAcc_len (fun r=>Nat.le_trans (qRow_len _ _ _ _ r) (hL.cl r)) k
 show Fn _ _ _ f (row lb 75 (lgC l.n l.known vp V.length vc pp pc cp cc)::slc vp V.length vc 81 4 (V.flatMap VV.vals)::lst (V.map VV.own)::fam (fun r=>pstH (pb r) (l.past r)) l.n::slc cp l.n cc 253 1 (chRow l cs)::fam (chFam l cs) l.n::row wb 34 (w15C kb n ap m ac lb)::row kb 36 (kRow n kv)::F) _;refine Fn.e4 Tryz.func115 Tryz.ntmps115 fun base=>?_;refine qdh fun xb=>?_;refine gM ?_;refine H.slc0 133 2 ?_;refine qcW ?_;refine qdt ?_;refine H.pf (x:=slc none _ _ _ _ _) ?_;refine qdr ?_
 refine H.loop (ι:=Nat × Option Addr × Nat) (fun s=>[(11,.int .i64 ((s.1 + 1:Nat):Int)),(9,.slice s.2.1 (acc s.1).length s.2.2),(10,.int .i64 (n:Int)),(0,.pointer (some ⟨wb,0,none⟩)),(1,.int .i64 ((o + 1:Nat):Int)),(3,.int .u64 v),(6,.pointer (some ⟨xb,0,none⟩))]) (fun _=>f)
  (fun s=>row xb 88 x.vals::slc s.2.1 (acc s.1).length s.2.2 133 2 ((acc s.1).flatMap pairV)::row wb 34 (w15C kb n ap m ac lb)::row kb 36 (kRow n kv)::row lb 75 (lgC l.n l.known vp V.length vc pp pc cp cc)::slc vp V.length vc 81 4 (V.flatMap VV.vals)::lst (V.map VV.own)::fam (fun r=>pstH (pb r) (l.past r)) l.n::slc cp l.n cc 253 1 (chRow l cs)::fam (chFam l cs) l.n::F)
  (fun s=>s.1 ≤ n) (fun s=>n - s.1) (0,none,0) (Nat.zero_le _) ⟨rfl,by rw [hacc];rfl,rfl,rfl,rfl,rfl,rfl,trivial⟩ rfl (by rw [hacc];rfl) fun s hs=>?_
 obtain ⟨r,qp,qc⟩:=s;have hrn:r ≤ n:=hs;have halr:=hal r
 show H _ _ _ [(11,.int .i64 ((r + 1:Nat):Int)),(9,.slice qp (acc r).length qc),_,_,_,_,_] f (_::slc qp (acc r).length qc _ 2 ((acc r).flatMap pairV)::_::_::_::_::_::_::_::_::F) _
 have hquo:(((n:Int) - 1).tdiv 2) = (((n - 1) / 2:Nat):Int):=by
  rw [show ((n:Int) - 1) = ((n - 1:Nat):Int) by omega];exact (Int.ofNat_tdiv (n - 1) 2).symm
 by_cases hgo:r < n ∧ (acc r).length ≤ (n - 1) / 2
 ·obtain ⟨hr,hlen⟩:=hgo;have hrl:r < l.n:=by omega
  have hcl:=hL.cl r;have hr11:r < 11:=by omega
  refine H.Ay (p:=cp) (n0:=l.n) (c:=cc) (T:=253) (sz:=1) (xs:=chRow l cs) (by repeat constructor) (by omega) fun cb hcb=>?_;have hCd:∀ {A A':List HP},At A (slc cp l.n cc 253 1 (chRow l cs)) A' (slc cp l.n cc 253 1 (chRow l cs))→Rd f A cb 0 (chRow l cs):=fun {A A'} h=>Rd.ofSlc (n:=l.n) (c:=cc) (T:=253) (sz:=1) (by rw [← hcb];exact h) (by omega)
  have hsucc:acc (r + 1) = acc r ++ qRow l.ch (kv o) v x.raw r:=by
   rw [hacc] at hlen ⊢;show (if _ then _ else _) = _;rw [if_pos hlen]
  refine gS ?_;refine H.quo (z:=(((n - 1) / 2:Nat):Int)) rfl rfl rfl (by decide) (by rw [hquo,wr_i64 (by omega)]) rfl ?_;refine gS ?_;refine H.Ak (b:=cb) (off:=0) (i:=r) rfl (by rw [← hcb];rfl) rfl (by omega) hrl rfl ?_;refine H.Ab rfl rfl rfl (by rw [Nat.zero_add,Nat.mul_one];exact Rd1.at0 (hCd (by repeat constructor)) (rngV_get _ hrl)) rfl ?_;refine gZ ?_;refine qgw ?_;refine H.Bt hrl ?_;refine H.pf (x:=fam (updF _ _ _) _) ?_;refine qdS ?_;refine qet ?_;refine qdt ?_;refine H.pf (x:=slc qp _ qc _ _ _) ?_;refine H.pf (x:=chFam l cs r) ?_;refine qdr ?_;obtain ⟨pt,hpt⟩:∃ pt:Nat→List (Int × Int),pt = fun i=>acc r ++ qPart l.ch (kv o) v x.raw r i:=⟨_,rfl⟩;have hp0:pt 0 = acc r:=by rw [hpt];show acc r ++ [] = _;rw [List.append_nil]
  have hpl:∀ i,(pt i).length ≤ (n - 1) / 2 + T + T:=fun i=>by
   rw [hpt];show (acc r ++ _).length ≤ _;rw [List.length_append]
   have:=qPart_len l.ch (kv o) v x.raw r i;omega
  refine H.loop (ι:=Nat × Option Addr × Nat) (fun s=>[(13,.int .i64 (s.1:Int)),(12,.slice (cs r).1 (l.ch r).length (cs r).2),(9,.slice s.2.1 (pt s.1).length s.2.2),(11,.int .i64 ((r + 1:Nat):Int)),(10,.int .i64 (n:Int)),(0,.pointer (some ⟨wb,0,none⟩)),(1,.int .i64 ((o + 1:Nat):Int)),(3,.int .u64 v),(6,.pointer (some ⟨xb,0,none⟩))]) (fun _=>f)
   (fun s=>row xb 88 x.vals::chFam l cs r::slc s.2.1 (pt s.1).length s.2.2 133 2 ((pt s.1).flatMap pairV)::row wb 34 (w15C kb n ap m ac lb)::row kb 36 (kRow n kv)::row lb 75 (lgC l.n l.known vp V.length vc pp pc cp cc)::slc vp V.length vc 81 4 (V.flatMap VV.vals)::lst (V.map VV.own)::fam (fun r=>pstH (pb r) (l.past r)) l.n::slc cp l.n cc 253 1 (chRow l cs)::fam (updF (chFam l cs) r emp) l.n::F)
   (fun s=>s.1 ≤ (l.ch r).length) (fun s=>(l.ch r).length - s.1) (0,qp,qc) (Nat.zero_le _) ⟨rfl,rfl,by rw [hp0];rfl,rfl,rfl,rfl,rfl,rfl,rfl,trivial⟩ rfl (by rw [hp0]) fun s hs=>?_
  obtain ⟨i,qp,qc⟩:=s;have hi2:i ≤ (l.ch r).length:=hs;have hpli:=hpl i
  show H _ _ _ [(13,.int .i64 (i:Int)),_,(9,.slice qp (pt i).length qc),_,_,_,_,_,_] f (_::_::slc qp (pt i).length qc _ 2 ((pt i).flatMap pairV)::_::_::_::_::_::_::_::_::F) _;by_cases hlt:i < (l.ch r).length
  ·obtain ⟨y,hy⟩:∃ y,(l.ch r)[i]? = some y:=⟨_,List.getElem?_eq_getElem hlt⟩;refine qh fun sb hp=>?_
   have rd:∀ {G0:HP} {G:List HP},Rd f (G0::chFam l cs r::G) sb (0 + i * 2) (chV y):=fun {G0 G}=>by
    rw [Nat.zero_add];exact Rd.slcElem (vals:=chV) (xs:=l.ch r) (n:=(l.ch r).length) (c:=(cs r).2) (T:=255) chV_len (by decide) (by rw [← hp];exact .there _ (.here _ _ _)) hy
   have hnx:pt (i + 1) = pt i ++ (if (decide (y.1 = v) && decide (y.2 ≤ kv o r) && !x.raw) = true then [(((r + 1:Nat):Int),y.2)] else []):=by
    rw [hpt];show acc r ++ qPart _ _ _ _ _ (i + 1) = acc r ++ qPart _ _ _ _ _ i ++ _;rw [qPart_next hy,List.append_assoc]
   refine gI ?_;refine H.dq ?_;refine gB ?_;refine HQ.Ak (b:=sb) (off:=0) (i:=i) rfl (by rw [← hp];rfl) rfl rfl hlt rfl ?_;refine gR ?_;refine HQ.Ab rfl rfl rfl (Rd1.of (i:=0) rd rfl) rfl ?_;refine gW ?_;by_cases h1:y.1 = v
   ·skip;refine gW ?_;refine HQ.Ak (b:=sb) (off:=0) (i:=i) rfl (by rw [← hp];rfl) rfl rfl hlt rfl ?_;refine gR ?_;refine HQ.Ab rfl rfl rfl (Rd1.of (i:=1) rd rfl) rfl ?_;refine gD ?_;refine HQ.Ak (b:=kb) (off:=0) (i:=o) rfl rfl rfl (by omega) ho rfl ?_;refine HQ.Am (i:=r) rfl rfl rfl (by omega) hr11 rfl ?_;refine HQ.Ab rfl rfl rfl (by rw [Nat.zero_add,Nat.mul_one];exact Rd1.of (Rd.kRow (Rd.ofRow (by repeat constructor)) ho) (zay (kv o) hr11)) rfl ?_;refine gc ?_;by_cases h2:y.2 ≤ kv o r
    ·by_cases hraw : x.raw = true
     ·have hr1:(!x.raw) = false:=by rw [hraw];rfl
      rw [hraw,Bool.not_true,Bool.and_false,if_neg (by decide),List.append_nil] at hnx;refine gc ?_;refine gJ ?_;exact qas
     ·have hraw:x.raw = false:=by
       cases e:x.raw with
       | true=>exact absurd e hraw
       | false=>rfl
      have hr1:(!x.raw) = true:=by rw [hraw];rfl
      rw [hraw,decide_eq_true h1,decide_eq_true h2,if_pos (by decide)] at hnx;refine gc ?_;refine gg ?_;refine H.Ak (b:=sb) (off:=0) (i:=i) rfl (by rw [← hp];rfl) rfl rfl hlt rfl ?_;refine gK ?_;refine H.Ab rfl rfl rfl (Rd1.of (i:=1) rd rfl) rfl ?_;refine gM ?_;refine H.Ar (out:=pairV (((r + 1:Nat):Int),y.2)) rfl rfl rfl rfl (by decide) (by decide) rfl rfl fun eb=>?_;refine H.Av (sz:=2) (p:=qp) (n0:=(pt i).length) (c:=qc) (xs:=(pt i).flatMap pairV) (m:=1) (news:=pairV (((r + 1:Nat):Int),y.2)) rfl rfl rfl rfl rfl (fun p' c'=>(by repeat constructor)) (Src.slice (Rd.ofRow (by repeat constructor)) rfl) (zaa rfl) rfl (by omega) (by omega) fun p2 c2=>?_;refine gX ?_;refine qgq ?_;refine H.Ax (i + 1,p2,c2) (by show i + 1 ≤ (l.ch r).length;omega) (by show (l.ch r).length - (i + 1) < (l.ch r).length - i;omega) ⟨rfl,rfl,?_,rfl,rfl,rfl,rfl,rfl,rfl,trivial⟩ rfl ?_
      ·show some (Value.slice p2 ((pt i).length + 1) c2) = some (Value.slice p2 (pt (i + 1)).length c2);rw [hnx,List.length_append];rfl
      ·show _::_::slc p2 ((pt i).length + 1) c2 _ 2 _::_ = _::_::slc p2 (pt (i + 1)).length c2 _ 2 ((pt (i + 1)).flatMap pairV)::_;rw [hnx,List.length_append,List.flatMap_append];simp
    ·rw [decide_eq_false h2,Bool.and_false,Bool.false_and,if_neg (by decide),List.append_nil] at hnx;refine gc ?_;refine gX ?_;exact qas
   ·rw [decide_eq_false h1,Bool.false_and,Bool.false_and,if_neg (by decide),List.append_nil] at hnx;refine gc ?_;refine gX ?_;exact qas
  ·have e:i = (l.ch r).length:=by omega
   subst e;have hpe:pt (l.ch r).length = acc (r + 1):=by rw [hsucc,hpt,← qPart_all]
   rw [hpe];refine gO ?_;refine H.pf (x:=fam (updF _ _ _) _) ?_;refine H.pf (x:=chFam l cs r) ?_;refine H.Cd (g:=chFam l cs) hrl ?_;refine qcW ?_;refine qdt ?_;refine H.pf (x:=slc qp _ qc _ _ _) ?_;refine qdr ?_;exact H.ag (r + 1,qp,qc) (by show r + 1 ≤ n;omega) (by show n - (r + 1) < n - r;omega)
 ·have hfin:acc n = acc r:=by
   by_cases e:r = n
   ·rw [e]
   ·rw [hacc];exact qAcc_stop hrn (by rw [← hacc];omega)
  have hqe:qAcc (qRow l.ch (kv o) v x.raw) ((n - 1) / 2) n = acc r:=by rw [← hfin,hacc]
  by_cases hr:r < n
  ·have hlen:(n - 1) / 2 < (acc r).length:=by omega
   refine gS ?_;refine H.quo (z:=(((n - 1) / 2:Nat):Int)) rfl rfl rfl (by decide) (by rw [hquo,wr_i64 (by omega)]) rfl ?_;have h0:0 < (acc r).length:=by omega
   exact qaF
  ·by_cases h0 : 0 < (acc r).length
   ·skip;exact qaF
   ·by_cases hq0 : x.q.length = 0
    ·skip;refine gQ ?_;refine qhq ?_;refine qcW ?_;refine H.imp (zao ⟨V,vp,vc,pp,pc,cp,cc,pb,cs⟩ hi) ?_;refine H.pf (x:=slc qp _ qc _ _ _) ?_;have hqs:x.qs n l.ch (kv o) v = acc r:=by unfold A15.qs;rw [if_pos (.inr hq0),hqe]
     rw [hqs];exact H.r1 ⟨(qp,qc),rfl,rfl,rfl⟩
    ·have hnil:acc r = []:=List.eq_nil_of_length_eq_zero (by omega)
     have hqs:x.qs n l.ch (kv o) v = qNum x.q (if n ≤ x.q.length then n else x.q.length):=by
      unfold A15.qs;rw [hqe,if_neg (by rintro (h | h);exact h0 h;exact hq0 h)]
     rw [hqs,hnil];clear hqs hqe hfin;refine gQ ?_;rcases hx with e0 | ⟨qb,qoff,qcs,qT,qfr,hqp,hqfb,hqcs⟩
     ·rw [e0] at hq0;exact absurd rfl hq0
     ·have hrdo:∀ A,Rd f A qb qoff (bytesV x.q):=fun A=>Rd.imm hqfb fun j hj=>by rw [zad] at hj;exact hqcs j hj
      refine H.lo (ι:=Nat × Option Addr × Nat) (fun s=>[(14,.int .i64 ((s.1 + 1:Nat):Int)),(9,.slice s.2.1 s.1 s.2.2),(10,.int .i64 (n:Int)),(6,.pointer (some ⟨xb,0,none⟩))]) (fun _=>f)
       (fun s=>row xb 88 x.vals::slc s.2.1 s.1 s.2.2 133 2 ((qNum x.q s.1).flatMap pairV)::row wb 34 (w15C kb n ap m ac lb)::row kb 36 (kRow n kv)::row lb 75 (lgC l.n l.known vp V.length vc pp pc cp cc)::slc vp V.length vc 81 4 (V.flatMap VV.vals)::lst (V.map VV.own)::fam (fun r=>pstH (pb r) (l.past r)) l.n::slc cp l.n cc 253 1 (chRow l cs)::fam (chFam l cs) l.n::F)
       (fun s=>s.1 ≤ n ∧ s.1 ≤ x.q.length) (fun s=>n - s.1) (0,qp,qc) ⟨Nat.zero_le _,Nat.zero_le _⟩ fun s hs=>?_
      obtain ⟨j,qp,qc⟩:=s;obtain ⟨hj1,hj2⟩:j ≤ n ∧ j ≤ x.q.length:=hs;show H _ _ _ [(14,.int .i64 ((j + 1:Nat):Int)),(9,.slice qp j qc),_,_] f (_::slc qp j qc _ 2 ((qNum x.q j).flatMap pairV)::_::_::_::_::_::_::_::_::F) _;by_cases hgo:j < n ∧ j < x.q.length
      ·obtain ⟨hjn,hjq⟩:=hgo;obtain ⟨w8,hw8⟩:∃ w8,x.q[j]? = some w8:=⟨_,List.getElem?_eq_getElem hjq⟩;have hby:(bytesV x.q)[j]? = some (.int .u8 (w8.toNat:Nat)):=by unfold bytesV;rw [List.getElem?_map,hw8];rfl
       have hw8l:=w8.toNat_lt;have hm8:((w8.toNat % 8:Nat):Int) ≤ 7:=by omega
       have hnx:qNum x.q (j + 1) = qNum x.q j ++ [(((j + 1:Nat):Int),1 + ((w8.toNat % 8:Nat):Int))]:=by
        show qNum x.q j ++ [(_,1 + (((x.q.getD j 0).toNat % 8:Nat):Int))] = _;rw [List.getD_eq_getElem?_getD,hw8];rfl
       refine gS ?_;refine H.index1 (b:=qb) (off:=qoff) (i:=j) rfl (by rw [← hqp];rfl) rfl (by omega) hjq rfl ?_;refine H.Ab rfl rfl rfl (Rd1.of (hrdo _) hby) rfl ?_;refine H.rem (z:=((w8.toNat % 8:Nat):Int)) rfl rfl rfl (by decide) (zat (b:=8) rfl) rfl ?_;refine gJ ?_;refine H.Ar (out:=pairV (((j + 1:Nat):Int),1 + ((w8.toNat % 8:Nat):Int))) rfl rfl rfl rfl (by decide) (by decide) rfl rfl fun eb=>?_;refine H.Av (sz:=2) (p:=qp) (n0:=j) (c:=qc) (xs:=(qNum x.q j).flatMap pairV) (m:=1) (news:=pairV (((j + 1:Nat):Int),1 + ((w8.toNat % 8:Nat):Int))) rfl rfl rfl rfl rfl (fun p' c'=>(by repeat constructor)) (Src.slice (Rd.ofRow (by repeat constructor)) rfl) (zaa rfl) rfl (by omega) (by omega) fun p2 c2=>?_;refine gX ?_;refine qgq ?_;refine H.Ax (j + 1,p2,c2) ⟨by show j + 1 ≤ n;omega,by show j + 1 ≤ x.q.length;omega⟩ (by show n - (j + 1) < n - j;omega) ⟨rfl,rfl,rfl,rfl,trivial⟩ rfl ?_;show _::slc p2 (j + 1) c2 _ 2 _::_ = _::slc p2 (j + 1) c2 _ 2 ((qNum x.q (j + 1)).flatMap pairV)::_;rw [hnx,List.flatMap_append];simp
      ·have hje:(if n ≤ x.q.length then n else x.q.length) = j:=by split <;> omega
       rw [hje,qNum_len];by_cases hjn:j < n
       ·skip;refine gS ?_;exact qaI
       ·skip;refine gQ ?_;exact qaI
end
def bodW (k:UInt8) (v kk:Int):Bod:=⟨k,v,kk,Req.zero,[],noTag⟩
variable {W:W15}
section
variable (f:Frag) (F:List HP)
theorem body15_fn (hfl:Le fl f) (hW:WI n W T) (hT:T ≤ 1000) (ho:o < n) (hx:x.Has f) (hq20:x.q.length ≤ 20) :
  Fn Tryz.prog 73 [.pointer (some ⟨wb,0,none⟩),.int .i64 ((o + 1:Nat):Int),.agg x.vals.toArray] f (logsH fl lb W.l::row wb 34 (w15C kb n ap m ac lb)::row kb 36 (kRow n W.w.kv)::F)
   (BodP f (logsH fl lb W.l::row wb 34 (w15C kb n ap m ac lb)::row kb 36 (kRow n W.w.kv)::F) (x.bod W n o)):=by
 have hn:=hW.l.n3;have hnn:=hW.n
 have hol:o < W.l.n:=by omega
 have hwf:=hW.l.wf o hol;have hg0:=hwf.g0
 have hg1:=hW.l.gb o hol;have hvm:((x.view.toNat % 6:Nat):Int) ≤ 5:=by omega
 have hv2:((x.view.toNat % 2:Nat):Int) ≤ 1:=by omega
 have hkm:((x.k.toNat % 6:Nat):Int) ≤ 5:=by omega
 have hgr:=fun G=>great_fn f G hfl (wb:=wb) (kb:=kb) (lb:=lb) (l:=W.l) hW.l (ap:=ap) (m:=m) (ac:=ac) (n:=n) hol;have hcases:x.kind.toNat % 6 = 0 ∨ x.kind.toNat % 6 = 1 ∨ x.kind.toNat % 6 = 2 ∨ x.kind.toNat % 6 = 3 ∨ x.kind.toNat % 6 = 4 ∨ x.kind.toNat % 6 = 5:=by omega
 unfold A15.bod;rcases hcases with h | h | h | h | h | h
 ·have hk6:((x.kind.toNat:Nat):Int).tmod 6 = 0:=zat (b:=6) h;rw [h]
  have hask:=fun G=>ask_fn f G x;rcases Bool.eq_false_or_eq_true x.raw with hraw | hraw
  ·have hr1:(!x.raw) = false:=by rw [hraw];rfl
   have hb:x.bodK W n o 0 = (⟨1,((x.view.toNat % 6:Nat):Int),0,x.req,[],noTag⟩:Bod):=by simp [A15.bodK,hraw,Bod.zero]
   rw [hb];generalize x.req = rq at hask ⊢;refine qfd fun base=>?_;refine qdh fun xb=>?_;refine qdf fun ob=>?_;refine qfW fun bb=>?_;refine qdE ?_;refine H.Ae (ls:=(⟨1,((x.view.toNat % 6:Nat):Int),0,rq,[],noTag⟩:Bod).vals none 0) rfl rfl rfl (Rd.ofRow (.here _ _ _)) rfl rfl ?_;refine H.Af (ls:=(Bod.zero 0).vals none 0) (vs:=(⟨1,((x.view.toNat % 6:Nat):Int),0,rq,[],noTag⟩:Bod).vals none 0) (ls':=(⟨1,((x.view.toNat % 6:Nat):Int),0,rq,[],noTag⟩:Bod).vals none 0) rfl rfl rfl (zaa rfl) rfl rfl (Nat.le_refl 76) (by repeat constructor) ?_;refine qdb ?_;exact H.Aw (ls:=(⟨1,((x.view.toNat % 6:Nat):Int),0,rq,[],noTag⟩:Bod).vals none 0) rfl rfl rfl (Rd.ofRow (.here _ _ _)) rfl (fun _ s=>s.drop (.here _ _)) ⟨nil0,none,0,rfl,QAt.nil _ _,Dj.nil _,(un_nil _).symm,rfl⟩
  ·have hr1:(!x.raw) = true:=by rw [hraw];rfl
   have hb:x.bodK W n o 0 = (⟨1,(W.l.past o).g,0,x.req,[],noTag⟩:Bod):=by simp [A15.bodK,hraw,Bod.zero]
   rw [hb];generalize x.req = rq at hask ⊢;refine qfd fun base=>?_;refine qdh fun xb=>?_;refine qdf fun ob=>?_;refine qfW fun bb=>?_;refine qdE ?_;refine H.Ae (ls:=(⟨1,(W.l.past o).g,0,rq,[],noTag⟩:Bod).vals none 0) rfl rfl rfl (Rd.ofRow (.here _ _ _)) rfl rfl ?_;refine H.Af (ls:=(Bod.zero 0).vals none 0) (vs:=(⟨1,(W.l.past o).g,0,rq,[],noTag⟩:Bod).vals none 0) (ls':=(⟨1,(W.l.past o).g,0,rq,[],noTag⟩:Bod).vals none 0) rfl rfl rfl (zaa rfl) rfl rfl (Nat.le_refl 76) (by repeat constructor) ?_;refine qdb ?_;exact H.Aw (ls:=(⟨1,(W.l.past o).g,0,rq,[],noTag⟩:Bod).vals none 0) rfl rfl rfl (Rd.ofRow (.here _ _ _)) rfl (fun _ s=>s.drop (.here _ _)) ⟨nil0,none,0,rfl,QAt.nil _ _,Dj.nil _,(un_nil _).symm,rfl⟩
 ·have hk6:((x.kind.toNat:Nat):Int).tmod 6 = 1:=zat (b:=6) h;rw [h]
  rcases Bool.eq_false_or_eq_true x.raw with hraw | hraw
  ·have hr1:(!x.raw) = false:=by rw [hraw];rfl
   have hb:x.bodK W n o 1 = (⟨2,((x.view.toNat % 6:Nat):Int),(1 + ((x.k.toNat % 6:Nat):Int)),Req.zero,[],noTag⟩:Bod):=by simp [A15.bodK,hraw,Bod.zero]
   rw [hb];refine qfd fun base=>?_;refine qdh fun xb=>?_;refine qdf fun ob=>?_;refine qfQ fun bb=>?_;refine qeJ ?_;refine H.Ae (ls:=(⟨2,((x.view.toNat % 6:Nat):Int),(1 + ((x.k.toNat % 6:Nat):Int)),Req.zero,[],noTag⟩:Bod).vals none 0) rfl rfl rfl (Rd.ofRow (.here _ _ _)) rfl rfl ?_;refine H.Af (ls:=(Bod.zero 0).vals none 0) (vs:=(⟨2,((x.view.toNat % 6:Nat):Int),(1 + ((x.k.toNat % 6:Nat):Int)),Req.zero,[],noTag⟩:Bod).vals none 0) (ls':=(⟨2,((x.view.toNat % 6:Nat):Int),(1 + ((x.k.toNat % 6:Nat):Int)),Req.zero,[],noTag⟩:Bod).vals none 0) rfl rfl rfl (zaa rfl) rfl rfl (Nat.le_refl 76) (by repeat constructor) ?_;refine qdb ?_;exact H.Aw (ls:=(⟨2,((x.view.toNat % 6:Nat):Int),(1 + ((x.k.toNat % 6:Nat):Int)),Req.zero,[],noTag⟩:Bod).vals none 0) rfl rfl rfl (Rd.ofRow (.here _ _ _)) rfl (fun _ s=>s.drop (.here _ _)) ⟨nil0,none,0,rfl,QAt.nil _ _,Dj.nil _,(un_nil _).symm,rfl⟩
  ·have hr1:(!x.raw) = true:=by rw [hraw];rfl
   have hb:x.bodK W n o 1 = (⟨2,(W.l.past o).g,votedZ (W.l.past o) (W.l.past o).g + 1,Req.zero,[],noTag⟩:Bod):=by simp [A15.bodK,hraw,Bod.zero]
   rw [hb];have hvz:=votedZ_le hwf (by omega) (W.l.past o).g;have hvt:∀ (b:Nat) G,Fn Tryz.prog 72 [.pointer (some ⟨b,0,none⟩),.int .u64 (W.l.past o).g] f (pstH b (W.l.past o)::G) (Ret (.tuple #[.int .i64 (votedZ (W.l.past o) (W.l.past o).g),.bool (PM.voted (W.l.past o).all (W.l.past o).g).isSome]) f (pstH b (W.l.past o)::G)):=fun b G=>pst_voted f G b (W.l.past o) (by have:=hW.l.il o hol;omega) _
   generalize votedZ (W.l.past o) (W.l.past o).g = vz at hvt hvz ⊢;refine qfd fun base=>?_;refine qdh fun xb=>?_;refine qdf fun ob=>?_;refine qfQ fun bb=>?_;refine qeJ ?_;refine qfN ?_;refine H.unpack fun i1 hi1=>?_;obtain ⟨V,vp,vc,pp,pc,cp,cc,pb,cs⟩:=i1;have hiF:=hi1.mono hfl;refine qff ?_
   obtain ⟨pbb,poff,hpp0,rdp0⟩:=hiF.past (by show 0 < W.l.n;omega);have hpp:pp = some ⟨pbb,poff,none⟩:=hpp0;have rdp:∀ {A:List HP} {r:Nat},r < W.l.n→Rd1 f A pbb (poff + r) (.pointer (some ⟨pb r,0,none⟩)):=fun {A r} hr=>rdp0 (Le.refl f) hr
   clear hpp0 rdp0;refine qdn ?_;refine gT ?_;refine H.Ak (b:=pbb) (off:=poff) (i:=o) rfl (by rw [← hpp];rfl) rfl (by omega) hol rfl ?_;refine H.Ab rfl rfl rfl (by rw [Nat.mul_one];exact rdp hol) rfl ?_;refine gL ?_;refine qeE ?_;refine H.Bt hol ?_;refine H.cr (hvt _ _) ?_;refine H.Cd (g:=fun r=>pstH (pb r) (W.l.past r)) hol ?_;refine qgg ?_;refine gN ?_;refine H.Ae (ls:=(⟨2,(W.l.past o).g,vz + 1,Req.zero,[],noTag⟩:Bod).vals none 0) rfl rfl rfl (Rd.ofRow (.here _ _ _)) rfl rfl ?_;refine H.Af (ls:=(Bod.zero 0).vals none 0) (vs:=(⟨2,(W.l.past o).g,vz + 1,Req.zero,[],noTag⟩:Bod).vals none 0) (ls':=(⟨2,(W.l.past o).g,vz + 1,Req.zero,[],noTag⟩:Bod).vals none 0) rfl rfl rfl (zaa rfl) rfl rfl (Nat.le_refl 76) (by repeat constructor) ?_;refine qdb ?_;exact H.Aw (ls:=(⟨2,(W.l.past o).g,vz + 1,Req.zero,[],noTag⟩:Bod).vals none 0) rfl rfl rfl (Rd.ofRow (.here _ _ _)) rfl (fun _ s=>s.drop (.here _ _)) ⟨nil0,none,0,rfl,QAt.nil _ _,Dj.nil _,(un_nil _).symm,rfl⟩
 ·have hk6:((x.kind.toNat:Nat):Int).tmod 6 = 2:=zat (b:=6) h;rw [h]
  rcases Bool.eq_false_or_eq_true x.raw with hraw | hraw
  ·have hr1:(!x.raw) = false:=by rw [hraw];rfl
   have hb:x.bodK W n o 2 = (⟨3,fix1 (((x.view.toNat % 6:Nat):Int)),0,Req.zero,[],noTag⟩:Bod):=by simp [A15.bodK,hraw,Bod.zero]
   rw [hb];refine qfd fun base=>?_;refine qdh fun xb=>?_;refine qdf fun ob=>?_;refine qfH fun bb=>?_;refine qeV ?_;by_cases hz:((x.view.toNat % 6:Nat):Int) = 0
   ·rw [show fix1 (((x.view.toNat % 6:Nat):Int)) = 1 from if_pos hz];refine gN ?_;refine H.Ae (ls:=(⟨3,1,0,Req.zero,[],noTag⟩:Bod).vals none 0) rfl rfl rfl (Rd.ofRow (.here _ _ _)) rfl rfl ?_;refine H.Af (ls:=(Bod.zero 0).vals none 0) (vs:=(⟨3,1,0,Req.zero,[],noTag⟩:Bod).vals none 0) (ls':=(⟨3,1,0,Req.zero,[],noTag⟩:Bod).vals none 0) rfl rfl rfl (zaa rfl) rfl rfl (Nat.le_refl 76) (by repeat constructor) ?_;refine qdb ?_;exact H.Aw (ls:=(⟨3,1,0,Req.zero,[],noTag⟩:Bod).vals none 0) rfl rfl rfl (Rd.ofRow (.here _ _ _)) rfl (fun _ s=>s.drop (.here _ _)) ⟨nil0,none,0,rfl,QAt.nil _ _,Dj.nil _,(un_nil _).symm,rfl⟩
   ·rw [show fix1 (((x.view.toNat % 6:Nat):Int)) = ((x.view.toNat % 6:Nat):Int) from if_neg hz];refine gN ?_;refine H.Ae (ls:=(⟨3,((x.view.toNat % 6:Nat):Int),0,Req.zero,[],noTag⟩:Bod).vals none 0) rfl rfl rfl (Rd.ofRow (.here _ _ _)) rfl rfl ?_;refine H.Af (ls:=(Bod.zero 0).vals none 0) (vs:=(⟨3,((x.view.toNat % 6:Nat):Int),0,Req.zero,[],noTag⟩:Bod).vals none 0) (ls':=(⟨3,((x.view.toNat % 6:Nat):Int),0,Req.zero,[],noTag⟩:Bod).vals none 0) rfl rfl rfl (zaa rfl) rfl rfl (Nat.le_refl 76) (by repeat constructor) ?_;refine qdb ?_;exact H.Aw (ls:=(⟨3,((x.view.toNat % 6:Nat):Int),0,Req.zero,[],noTag⟩:Bod).vals none 0) rfl rfl rfl (Rd.ofRow (.here _ _ _)) rfl (fun _ s=>s.drop (.here _ _)) ⟨nil0,none,0,rfl,QAt.nil _ _,Dj.nil _,(un_nil _).symm,rfl⟩
  ·have hr1:(!x.raw) = true:=by rw [hraw];rfl
   have hb:x.bodK W n o 2 = (⟨3,fix1 ((W.l.past o).g + 1 + ((x.view.toNat % 2:Nat):Int)),0,Req.zero,[],noTag⟩:Bod):=by simp [A15.bodK,hraw,Bod.zero]
   rw [hb];rw [show fix1 ((W.l.past o).g + 1 + ((x.view.toNat % 2:Nat):Int)) = (W.l.past o).g + 1 + ((x.view.toNat % 2:Nat):Int) from if_neg (by omega)];refine qfd fun base=>?_;refine qdh fun xb=>?_;refine qdf fun ob=>?_;refine qfH fun bb=>?_;refine qeV ?_;refine gN ?_;refine H.rem (z:=((x.view.toNat % 2:Nat):Int)) rfl rfl rfl (by decide) (zat (b:=2) rfl) rfl ?_;refine gY ?_;refine H.Ae (ls:=(⟨3,(W.l.past o).g + 1 + ((x.view.toNat % 2:Nat):Int),0,Req.zero,[],noTag⟩:Bod).vals none 0) rfl rfl rfl (Rd.ofRow (.here _ _ _)) rfl rfl ?_;refine H.Af (ls:=(Bod.zero 0).vals none 0) (vs:=(⟨3,(W.l.past o).g + 1 + ((x.view.toNat % 2:Nat):Int),0,Req.zero,[],noTag⟩:Bod).vals none 0) (ls':=(⟨3,(W.l.past o).g + 1 + ((x.view.toNat % 2:Nat):Int),0,Req.zero,[],noTag⟩:Bod).vals none 0) rfl rfl rfl (zaa rfl) rfl rfl (Nat.le_refl 76) (by repeat constructor) ?_;refine qdb ?_;exact H.Aw (ls:=(⟨3,(W.l.past o).g + 1 + ((x.view.toNat % 2:Nat):Int),0,Req.zero,[],noTag⟩:Bod).vals none 0) rfl rfl rfl (Rd.ofRow (.here _ _ _)) rfl (fun _ s=>s.drop (.here _ _)) ⟨nil0,none,0,rfl,QAt.nil _ _,Dj.nil _,(un_nil _).symm,rfl⟩
 ·have hk6:((x.kind.toNat:Nat):Int).tmod 6 = 3:=zat (b:=6) h;rw [h]
  have hq15:=fun G=>q15_fn f G hfl (wb:=wb) (kb:=kb) (lb:=lb) (l:=W.l) hW.l hT (ap:=ap) (m:=m) (ac:=ac) hnn ho (kv:=W.w.kv) hx hq20 (W.l.past o).g;rcases Bool.eq_false_or_eq_true x.raw with hraw | hraw
  ·have hr1:(!x.raw) = false:=by rw [hraw];rfl
   have hb:x.bodK W n o 3 = (⟨4,fix1 (((x.view.toNat % 6:Nat):Int)),0,Req.zero,x.qs n W.l.ch (W.w.kv o) (W.l.past o).g,noTag⟩:Bod):=by simp [A15.bodK,hraw,Bod.zero]
   rw [hb];generalize x.qs n W.l.ch (W.w.kv o) (W.l.past o).g = Q at hq15 ⊢;refine qfd fun base=>?_;refine qdh fun xb=>?_;refine qdf fun ob=>?_;refine qfz fun bb=>?_;refine qdZ fun qi=>?_;obtain ⟨qp,qc⟩:=qi;refine H.Cg (.here _ _) fun g hg hd=>?_;have hqa:QAt (un f g) qp Q:=ListAt.mono (vals:=pairV) (Le.right hd) (zbs (vals:=pairV) (fun _=>rfl) hg);refine qdr ?_
   refine qdY ?_;by_cases hz:((x.view.toNat % 6:Nat):Int) = 0
   ·rw [show fix1 (((x.view.toNat % 6:Nat):Int)) = 1 from if_pos hz];exact qay
   ·rw [show fix1 (((x.view.toNat % 6:Nat):Int)) = ((x.view.toNat % 6:Nat):Int) from if_neg hz];refine gN ?_;refine H.Ae (ls:=(⟨4,((x.view.toNat % 6:Nat):Int),0,Req.zero,Q,noTag⟩:Bod).vals qp qc) rfl rfl rfl (Rd.ofRow (.here _ _ _)) rfl rfl ?_;refine H.Af (ls:=(Bod.zero 0).vals none 0) (vs:=(⟨4,((x.view.toNat % 6:Nat):Int),0,Req.zero,Q,noTag⟩:Bod).vals qp qc) (ls':=(⟨4,((x.view.toNat % 6:Nat):Int),0,Req.zero,Q,noTag⟩:Bod).vals qp qc) rfl rfl rfl (zaa rfl) rfl rfl (Nat.le_refl 76) (by repeat constructor) ?_;refine qdb ?_;exact H.Aw (ls:=(⟨4,((x.view.toNat % 6:Nat):Int),0,Req.zero,Q,noTag⟩:Bod).vals qp qc) rfl rfl rfl (Rd.ofRow (.here _ _ _)) rfl (fun _ s=>s.drop (.here _ _)) ⟨g,qp,qc,rfl,hqa,hd,rfl,rfl⟩
  ·have hr1:(!x.raw) = true:=by rw [hraw];rfl
   have hb:x.bodK W n o 3 = (⟨4,fix1 ((W.l.past o).g),0,Req.zero,x.qs n W.l.ch (W.w.kv o) (W.l.past o).g,noTag⟩:Bod):=by simp [A15.bodK,hraw,Bod.zero]
   rw [hb];generalize x.qs n W.l.ch (W.w.kv o) (W.l.past o).g = Q at hq15 ⊢;refine qfd fun base=>?_;refine qdh fun xb=>?_;refine qdf fun ob=>?_;refine qfz fun bb=>?_;refine qdZ fun qi=>?_;obtain ⟨qp,qc⟩:=qi;refine H.Cg (.here _ _) fun g hg hd=>?_;have hqa:QAt (un f g) qp Q:=ListAt.mono (vals:=pairV) (Le.right hd) (zbs (vals:=pairV) (fun _=>rfl) hg);refine qdr ?_
   refine qdY ?_;by_cases hz:(W.l.past o).g = 0
   ·rw [show fix1 ((W.l.past o).g) = 1 from if_pos hz];exact qay
   ·rw [show fix1 ((W.l.past o).g) = (W.l.past o).g from if_neg hz];refine gN ?_;refine H.Ae (ls:=(⟨4,(W.l.past o).g,0,Req.zero,Q,noTag⟩:Bod).vals qp qc) rfl rfl rfl (Rd.ofRow (.here _ _ _)) rfl rfl ?_;refine H.Af (ls:=(Bod.zero 0).vals none 0) (vs:=(⟨4,(W.l.past o).g,0,Req.zero,Q,noTag⟩:Bod).vals qp qc) (ls':=(⟨4,(W.l.past o).g,0,Req.zero,Q,noTag⟩:Bod).vals qp qc) rfl rfl rfl (zaa rfl) rfl rfl (Nat.le_refl 76) (by repeat constructor) ?_;refine qdb ?_;exact H.Aw (ls:=(⟨4,(W.l.past o).g,0,Req.zero,Q,noTag⟩:Bod).vals qp qc) rfl rfl rfl (Rd.ofRow (.here _ _ _)) rfl (fun _ s=>s.drop (.here _ _)) ⟨g,qp,qc,rfl,hqa,hd,rfl,rfl⟩
 ·have hk6:((x.kind.toNat:Nat):Int).tmod 6 = 4:=zat (b:=6) h;rw [h]
  rcases Bool.eq_false_or_eq_true x.raw with hraw | hraw
  ·have hr1:(!x.raw) = false:=by rw [hraw];rfl
   have hb:x.bodK W n o 4 = (⟨5,fix1 (((x.view.toNat % 6:Nat):Int)),0,Req.zero,[],noTag⟩:Bod):=by simp [A15.bodK,hraw,Bod.zero]
   rw [hb];refine qfd fun base=>?_;refine qdh fun xb=>?_;refine qdf fun ob=>?_;refine qfx fun bb=>?_;refine qeR ?_;by_cases hz:((x.view.toNat % 6:Nat):Int) = 0
   ·rw [show fix1 (((x.view.toNat % 6:Nat):Int)) = 1 from if_pos hz];exact qav
   ·rw [show fix1 (((x.view.toNat % 6:Nat):Int)) = ((x.view.toNat % 6:Nat):Int) from if_neg hz];refine gN ?_;refine H.Ae (ls:=(⟨5,((x.view.toNat % 6:Nat):Int),0,Req.zero,[],noTag⟩:Bod).vals none 0) rfl rfl rfl (Rd.ofRow (.here _ _ _)) rfl rfl ?_;refine H.Af (ls:=(Bod.zero 0).vals none 0) (vs:=(⟨5,((x.view.toNat % 6:Nat):Int),0,Req.zero,[],noTag⟩:Bod).vals none 0) (ls':=(⟨5,((x.view.toNat % 6:Nat):Int),0,Req.zero,[],noTag⟩:Bod).vals none 0) rfl rfl rfl (zaa rfl) rfl rfl (Nat.le_refl 76) (by repeat constructor) ?_;refine qdb ?_;exact H.Aw (ls:=(⟨5,((x.view.toNat % 6:Nat):Int),0,Req.zero,[],noTag⟩:Bod).vals none 0) rfl rfl rfl (Rd.ofRow (.here _ _ _)) rfl (fun _ s=>s.drop (.here _ _)) ⟨nil0,none,0,rfl,QAt.nil _ _,Dj.nil _,(un_nil _).symm,rfl⟩
  ·have hr1:(!x.raw) = true:=by rw [hraw];rfl
   have hb:x.bodK W n o 4 = (⟨5,fix1 (lastV W.l.vs),0,Req.zero,[],noTag⟩:Bod):=by simp [A15.bodK,hraw,Bod.zero]
   rw [hb];refine qfd fun base=>?_;refine qdh fun xb=>?_;refine qdf fun ob=>?_;refine qfx fun bb=>?_;refine qeR ?_;refine qfN ?_;refine H.unpack fun i1 hi1=>?_;obtain ⟨V,vp,vc,pp,pc,cp,cc,pb,cs⟩:=i1;have hiF:=hi1.mono hfl;refine qff ?_
   have hvs:V.map VV.w = W.l.vs:=hi1.vs;have hVl:V.length = W.l.vs.length:=hi1.len
   have hvl:=hW.l.vl
   have hV0:0 < V.length:=by
    obtain ⟨w0,hw0,_⟩:=hW.l.zero;rw [hVl];exact List.length_pos_of_mem hw0
   obtain ⟨X,hX⟩:∃ X,V[V.length - 1]? = some X:=⟨_,List.getElem?_eq_getElem (by omega)⟩
   have hXv:lastV W.l.vs = X.w.v:=by
    unfold lastV;rw [← hVl,← hvs,List.getElem?_map,hX];rfl
   rw [hXv];refine qex fun vb hvb=>?_;refine qdr ?_;refine qdY ?_;refine gN ?_;refine qet ?_;refine qew ?_;refine H.dc [0,1,2,3,4,5,6,7,8,9,10,11,12,13,14,15,16,17,18] (S:=[_,_,_]) rfl ?_;refine HB.qu [0,1,2,3,4,5,6,7,8,9,10,11,12,13,14,15,16,17,18] 2 ?_;refine gD ?_;refine HQ.Ak (b:=vb) (off:=0) (i:=V.length - 1) rfl (by rw [← hvb];rfl) rfl (show ((V.length:Int) - 1) = ((V.length - 1:Nat):Int) by omega) (show V.length - 1 < V.length by omega) rfl ?_;refine gR ?_;refine HQ.Ab rfl rfl rfl (Rd1.of (i:=0) (by rw [Nat.zero_add];exact Rd.slcElem (n:=V.length) (c:=vc) (T:=81) (xs:=V) VV.len (by decide) (by rw [← hvb];exact .there _ (.there _ (.here _ _ _))) hX) rfl) rfl ?_;refine qdv ?_;refine HB.qu [19] 1 ?_;refine qe ?_;refine HB.ev 20 ?_;refine qdY ?_;refine H.Az (ls:=(bodW 5 ((x.view.toNat % 6:Nat):Int) 0).vals none 0) (ls':=(bodW 5 X.w.v 0).vals none 0) rfl rfl rfl rfl (.here _ _ _) (.there _ (.here _ _ _)) ?_;refine qdM ?_;refine qgg ?_;by_cases hz:X.w.v = 0
   ·rw [show fix1 (X.w.v) = 1 from if_pos hz];exact qav
   ·rw [show fix1 (X.w.v) = X.w.v from if_neg hz];refine gS ?_;refine H.Ae (ls:=(⟨5,X.w.v,0,Req.zero,[],noTag⟩:Bod).vals none 0) rfl rfl rfl (Rd.ofRow (.here _ _ _)) rfl rfl ?_;refine H.Af (ls:=(Bod.zero 0).vals none 0) (vs:=(⟨5,X.w.v,0,Req.zero,[],noTag⟩:Bod).vals none 0) (ls':=(⟨5,X.w.v,0,Req.zero,[],noTag⟩:Bod).vals none 0) rfl rfl rfl (zaa rfl) rfl rfl (Nat.le_refl 76) (by repeat constructor) ?_;refine qdb ?_;exact H.Aw (ls:=(⟨5,X.w.v,0,Req.zero,[],noTag⟩:Bod).vals none 0) rfl rfl rfl (Rd.ofRow (.here _ _ _)) rfl (fun _ s=>s.drop (.here _ _)) ⟨nil0,none,0,rfl,QAt.nil _ _,Dj.nil _,(un_nil _).symm,rfl⟩
 ·have hk6:((x.kind.toNat:Nat):Int).tmod 6 = 5:=zat (b:=6) h;rw [h]
  show Fn _ _ _ f _ (BodP f _ (⟨6,0,(1 + ((x.k.toNat % 6:Nat):Int)),Req.zero,[],dig0 x.key⟩:Bod));refine qfd fun base=>?_;refine qdh fun xb=>?_;refine qdf fun ob=>?_;refine qcZ ?_;repeat (first | (refine H.Au (t:=47) (out:=(bodW 6 ((x.view.toNat % 6:Nat):Int) (1 + ((x.k.toNat % 6:Nat):Int))).vals none 0) rfl rfl rfl (by kernel_rfl) rfl ?_) | (refine gh ?_))
  refine qdf fun bb=>?_;refine H.Af (ls:=(Bod.zero 0).vals none 0) (vs:=(bodW 6 ((x.view.toNat % 6:Nat):Int) (1 + ((x.k.toNat % 6:Nat):Int))).vals none 0) (ls':=(bodW 6 ((x.view.toNat % 6:Nat):Int) (1 + ((x.k.toNat % 6:Nat):Int))).vals none 0) rfl rfl rfl (zaa rfl) rfl rfl (Nat.le_refl 76) (.here _ _ _) ?_;refine qdj ?_;refine gP ?_;refine H.Am (i:=0) rfl rfl rfl rfl (by decide) rfl ?_;refine gY ?_;refine H.Ae (ls:=(⟨6,0,(1 + ((x.k.toNat % 6:Nat):Int)),Req.zero,[],dig0 x.key⟩:Bod).vals none 0) rfl rfl rfl (Rd.ofRow (.here _ _ _)) rfl rfl ?_;refine H.Af (ls:=(Bod.zero 0).vals none 0) (vs:=(⟨6,0,(1 + ((x.k.toNat % 6:Nat):Int)),Req.zero,[],dig0 x.key⟩:Bod).vals none 0) (ls':=(⟨6,0,(1 + ((x.k.toNat % 6:Nat):Int)),Req.zero,[],dig0 x.key⟩:Bod).vals none 0) rfl rfl rfl (zaa rfl) rfl rfl (Nat.le_refl 76) (by repeat constructor) ?_;refine qdb ?_;exact H.Aw (ls:=(⟨6,0,(1 + ((x.k.toNat % 6:Nat):Int)),Req.zero,[],dig0 x.key⟩:Bod).vals none 0) rfl rfl rfl (Rd.ofRow (.here _ _ _)) rfl (fun _ s=>s.drop (.here _ _)) ⟨nil0,none,0,rfl,QAt.nil _ _,Dj.nil _,(un_nil _).symm,rfl⟩
end
structure W15P where
 kb:Nat
 lb:Nat
 ap:Option Addr
 ac:Nat
 l:List MV
def w15φ (e:Frag) (W:W15) (i:W15P):Prop:=i.l.map MV.m = W.w.all ∧ ∀ y ∈ i.l,y.Good e
def w15B (e:Frag) (wb n:Nat) (W:W15) (i:W15P):List HP:=[row wb 34 (w15C i.kb n i.ap i.l.length i.ac i.lb),row i.kb 36 (kRow n W.w.kv),slc i.ap i.l.length i.ac 51 121 (i.l.flatMap MV.vals),logsH e i.lb W.l]
def wH15 (e:Frag) (wb n:Nat) (W:W15):HP:=pack (w15φ e W) (w15B e wb n W)
theorem w15_fold {e:Frag} {F:List HP} (i:W15P) (h:w15φ e W i):∀ x,stars (w15B e wb n W i ++ F) x→stars (wH15 e wb n W::F) x:=fun x hx=>pack_fold (φ:=w15φ e W) (B:=w15B e wb n W) i h x hx
variable {f g:Frag}
theorem w15_mono (h:Le f g):∀ x,wH15 f wb n W x→wH15 g wb n W x:=fun _ ⟨i,hi,hx⟩=>⟨i,⟨hi.1,fun y hy=>(hi.2 y hy).mono h⟩,by
 obtain ⟨m1,m2,d1,e1,a1,m3,m4,d2,e2,a2,m5,m6,d3,e3,a3,m7,m8,d4,e4,a4,r4⟩:=hx
 exact ⟨m1,m2,d1,e1,a1,m3,m4,d2,e2,a2,m5,m6,d3,e3,a3,m7,m8,d4,e4,logsH_mono h _ a4,r4⟩⟩
variable {A:List HP}
theorem w15_up (h:Le f g):∀ x,stars (wH15 f wb n W::A) x→stars (wH15 g wb n W::A) x:=fun _ ⟨h1,h2,hd,he,ha,hr⟩=>⟨h1,h2,hd,he,w15_mono h _ ha,hr⟩
def DoP (f:Frag) (F:List HP) (wb n:Nat) (W:W15):Value→Frag→List HP→Prop:=fun v f' A'=>∃ (g:Frag) (u:Value),Dj f g ∧ v = u ∧ f' = un f g ∧ A' = wH15 f' wb n W::F
section
variable (f:Frag) (F:List HP)
theorem do_fn (hfl:Le fl f) (hn3:3 ≤ n ∧ n ≤ 11) (hW:WI n W T) (hT:T ≤ 900) (hal:W.w.all.length ≤ 900) (hx:x.Has f) (hq20:x.q.length ≤ 20) :
  Fn Tryz.prog 37 [.pointer (some ⟨wb,0,none⟩),.agg x.vals.toArray] f (wH15 fl wb n W::F) (DoP f F wb n (W.act n x)):=by
 refine Fn.unpack fun i0 hi=>?_;obtain ⟨kb,lb,ap,ac,l⟩:=i0;have hlm:l.map MV.m = W.w.all:=hi.1;have hlg:∀ y ∈ l,y.Good fl:=hi.2
 have hll:l.length ≤ 900:=by
  have:=congrArg List.length hlm;rw [List.length_map] at this
  omega
 have hn0:((n:Nat):Int) ≠ 0:=by omega
 have ho:x.who.toNat % n < n:=Nat.mod_lt _ (by omega);have hkv:=hW.w.kv_le ho
 have hwho:=x.who.toNat_lt;have hoth:=x.other.toNat_lt
 have hj:x.other.toNat % n < n:=Nat.mod_lt _ (by omega);show Fn _ _ _ f (row wb 34 (w15C kb n ap l.length ac lb)::row kb 36 (kRow n W.w.kv)::slc ap l.length ac 51 121 (l.flatMap MV.vals)::logsH fl lb W.l::F) _
 refine Fn.e2 Tryz.func37 Tryz.ntmps37 fun base=>?_;refine qdh fun xb=>?_;refine H.Ah (ls:=msgZ.vals none 0) rfl rfl rfl fun ob=>?_;refine gT ?_;refine H.rem (z:=((x.who.toNat % n:Nat):Int)) rfl rfl rfl hn0 (zat (a:=x.who.toNat) (b:=n) rfl) rfl ?_;refine gT ?_
 cases hmt:x.meet with
 | true =>
  have hact:W.act n x = { W with w:=W.w.meet (x.who.toNat % n) (x.other.toNat % n) }:=by unfold W15.act;rw [if_pos hmt]
  rw [hact];refine gT ?_;refine H.rem (z:=((x.other.toNat % n:Nat):Int)) rfl rfl rfl hn0 (zat (a:=x.other.toNat) (b:=n) rfl) rfl ?_;refine gZ ?_;generalize hoe:x.who.toNat % n = o at *;generalize hje:x.other.toNat % n = j at *;have ho11:o < 11:=by omega
  refine qdt ?_
  refine H.loop (ι:=Nat) (fun i=>[(8,.int .i64 (i:Int)),(6,.int .i64 (1 + (o:Int))),(7,.int .i64 (j:Int)),(0,.pointer (some ⟨wb,0,none⟩)),(4,.pointer (some ⟨ob,0,none⟩))]) (fun _=>f)
   (fun i=>row wb 34 (w15C kb n ap l.length ac lb)::row kb 36 (kRow n (raised W.w.kv o j i))::row ob 51 (msgZ.vals none 0)::row xb 88 x.vals::slc ap l.length ac 51 121 (l.flatMap MV.vals)::logsH fl lb W.l::F)
   (fun i=>i ≤ 11) (fun i=>11 - i) 0 (Nat.zero_le _) ⟨rfl,rfl,rfl,rfl,rfl,trivial⟩ rfl (by rw [raised_zero]) fun i hi2=>?_
  have hi2:i ≤ 11:=hi2;by_cases hi11:i < 11
  ·have hro:=raised_o W.w.kv o j i;have hrj:=raised_j W.w.kv o j i
   have hrn:=raised_next W.w.kv o j i;have hg1:=kRow_get (kv:=raised W.w.kv o j i) ho hi11
   have hg2:=kRow_get (kv:=raised W.w.kv o j i) hj hi11;rw [hro] at hg1
   rw [hrj] at hg2;have hset:=kRow_set (kv:=raised W.w.kv o j i) (maxV (W.w.kv o) (W.w.kv j) i) ho hi11;rw [hrn] at hset
   have hoo:(1:Int) + (o:Int) - 1 = (o:Nat):=by omega
   refine gI ?_;refine H.dc [0,1,2,3,4,5,6,7,8,9,10,11,12,13,14,15,16,17,18,19,20,21,22,23,24,25,26,27,28] (S:=[_,_]) rfl ?_;refine HB.qu [0,1,2,3,4,5,6,7,8,9,10,11,12,13,14,15,16,17,18,19,20,21,22,23,24,25,26,27,28] 1 ?_;refine gD ?_;refine HQ.Ak (i:=o) rfl rfl rfl hoo ho rfl ?_;refine qgV ?_;refine HQ.Ab rfl rfl rfl (.at0 (Rd.ofRow (.there _ (.here _ _ _))) (by rw [Nat.zero_add,Nat.mul_one];exact hg1)) rfl ?_;refine gR ?_;refine HQ.Ak (i:=j) rfl rfl rfl rfl hj rfl ?_;refine qgV ?_;refine HQ.Ab rfl rfl rfl (.at0 (Rd.ofRow (.there _ (.here _ _ _))) (by rw [Nat.zero_add,Nat.mul_one];exact hg2)) rfl ?_;refine HQ.max2 (z:=maxV (W.w.kv o) (W.w.kv j) i) rfl rfl rfl rfl rfl ?_;refine HQ.Ak (i:=o) rfl rfl rfl hoo ho rfl ?_;refine qgV ?_;refine qdv ?_;refine HB.ev 29 ?_;refine H.Az (v:=.int .u64 (maxV (W.w.kv o) (W.w.kv j) i)) (ls:=kRow n (raised W.w.kv o j i)) (ls':=kRow n (raised W.w.kv o j (i + 1))) rfl rfl rfl rfl (.there _ (.here _ _ _)) (by rw [Nat.zero_add,Nat.mul_one];exact hset) ?_;refine qdM ?_;refine gX ?_;exact H.ag (i + 1) (by show i + 1 ≤ 11;omega) (by show 11 - (i + 1) < 11 - i;omega)
  ·have e:i = 11:=by omega
   subst e;rw [raised_end];refine qeI ?_;refine qfq ?_;exact H.Aw (ls:=msgZ.vals none 0) rfl rfl rfl (Rd.ofRow (.here _ _ _)) rfl (fun _ s=>(s.drop (.here _ _)).imp (fun z hz=>w15_up hfl z (w15_fold (W:={ W with w:=W.w.meet o j }) ⟨kb,lb,ap,ac,l⟩ ⟨hlm,hlg⟩ z hz))) ⟨nil0,_,Dj.nil _,rfl,(un_nil f).symm,rfl⟩
 | false =>
  refine gX ?_;generalize hoe:x.who.toNat % n = o at *;have ho11:o < 11:=by omega
  have hoo:(1:Int) + (o:Int) - 1 = (o:Nat):=by omega
  have ho1:(1:Int) + (o:Int) = ((o + 1:Nat):Int):=by omega
  have hact:W.act n x = if (W.next n o x).may = true then ⟨W.w.say o (W.next n o x).signed,(W.l.take (W.next n o x).signed).2⟩ else W:=by
   unfold W15.act;rw [if_neg (by rw [hmt];decide),hoe]
  have hgk0:=kRow_get (kv:=W.w.kv) ho ho11;have hko:=hkv o
  have hbody:=fun G=>body15_fn f G hfl (wb:=wb) (kb:=kb) (lb:=lb) hW (by omega) (ap:=ap) (m:=l.length) (ac:=ac) ho hx hq20;refine qfN ?_
  refine qdt ?_;refine qdr ?_
  refine H.cut (ι:=Frag × Option Addr × Nat × Nat) (fun s=>[(9,.pointer (some ⟨s.2.2.2,0,none⟩)),(6,.int .i64 (1 + (o:Int))),(0,.pointer (some ⟨wb,0,none⟩)),(4,.pointer (some ⟨ob,0,none⟩))]) (fun s=>un f s.1)
   (fun s=>row xb 88 x.vals::row s.2.2.2 51 ((W.next n o x).vals s.2.1 s.2.2.1)::row ob 51 (msgZ.vals none 0)::row wb 34 (w15C kb n ap l.length ac lb)::row kb 36 (kRow n W.w.kv)::logsH fl lb W.l::slc ap l.length ac 51 121 (l.flatMap MV.vals)::F)
   (fun s=>QAt (un f s.1) s.2.1 (W.next n o x).body.q ∧ Dj f s.1) _ (fun s hs=>?_) ?_
  ·obtain ⟨g,qp,qc,mb⟩:=s;obtain ⟨hqat,hd⟩:QAt (un f g) qp (W.next n o x).body.q ∧ Dj f g:=hs;have hle2:=Le.un f g;have hql:=(x.bod_q hW (by omega) (o:=o)).1
   have hgood:(⟨W.next n o x,qp,qc⟩:MV).Good (un f g):=⟨hqat,by show (x.bod W n o).q.length ≤ _;omega,A15.bod_ok hW (by omega) ho x⟩;have hmsg:=good_signed hgood
   have hmay:=fun H=>rmmay_fn (un f g) H hgood;have hsg:=fun H=>rtagged_fn (un f g) H (m:=W.next n o x) (q:=qp) (qc:=qc) hgood.1 (by show (x.bod W n o).q.length ≤ _;omega)
   show H _ _ _ [_,_,_,_] (un f g) (_::row mb _ ((W.next n o x).vals qp qc)::_::_::_::_::_::F) _;refine gA ?_;refine H.Ae (ls:=(W.next n o x).vals qp qc) rfl rfl rfl (Rd.ofRow (.there _ (.here _ _ _))) rfl rfl ?_;refine H.cr (hmay _) ?_;refine H.not (b:=_) (c:=_) rfl rfl rfl rfl ?_
   cases hmy:(W.next n o x).may with
   | false =>
    rw [hact,if_neg (by rw [hmy];decide)];refine qeI ?_;refine qdD ?_;refine H.pf (x:=slc ap _ ac _ _ _) ?_;refine qdt ?_;refine qfq ?_;exact H.Aw (ls:=msgZ.vals none 0) rfl rfl rfl (Rd.ofRow (.here _ _ _)) rfl (fun _ s=>(s.drop (.here _ _)).imp (fun z hz=>w15_up (hfl.trans hle2) z (w15_fold ⟨kb,lb,ap,ac,l⟩ ⟨hlm,hlg⟩ z hz))) ⟨g,_,hd,rfl,rfl,rfl⟩
   | true =>
    rw [hact,if_pos hmy];generalize hms:(W.next n o x).signed = ms at *;have htake:=fun H=>take_fn (un f g) H (hfl.trans hle2) (lb:=lb) hW.l (by omega) (x:=⟨ms,qp,qc⟩) hmsg;refine gX ?_
    refine H.Ae (ls:=(W.next n o x).vals qp qc) rfl rfl rfl (Rd.ofRow (.there _ (.here _ _ _))) rfl rfl ?_;refine H.cr (hsg _) ?_;refine H.Af (ls:=(W.next n o x).vals qp qc) (vs:=ms.vals qp qc) (ls':=ms.vals qp qc) rfl rfl rfl (zaa rfl) rfl rfl (Nat.le_refl 121) (.there _ (.here _ _ _)) ?_;refine gA ?_;refine qew ?_;refine qds ?_;refine qgr ?_;refine HB.qu [0,1,2,3,4] 1 ?_;refine gR ?_;refine HQ.Ae (ls:=ms.vals qp qc) rfl rfl rfl (Rd.ofRow (.here _ _ _)) rfl rfl ?_;refine qdg ?_;refine HB.ev 5 ?_;refine qfN ?_;refine H.cl (htake _) fun v f' A' hr=>?_;obtain ⟨g2,hd2,rfl,rfl,rfl⟩:=hr;refine gA ?_;refine qew ?_;refine qds ?_;refine H.on [] (Le.un _ g2) rfl ?_;refine HB.dn ?_;refine gA ?_;refine qfS ?_;refine HQ.Ae (ls:=ms.vals qp qc) rfl rfl rfl (Rd.ofRow (.here _ _ _)) rfl rfl ?_;refine qdg ?_;refine HB.ev 6 ?_;refine H.Ar (out:=ms.vals qp qc) rfl rfl rfl rfl (by decide) (by decide) rfl rfl fun eb=>?_;refine gA ?_;refine qew ?_;refine qds ?_;refine qdT ?_;refine HB.ev 7 ?_;refine H.Av (sz:=121) (p:=ap) (n0:=l.length) (c:=ac) (xs:=l.flatMap MV.vals) (m:=1) (news:=ms.vals qp qc) rfl rfl rfl rfl rfl (fun p' c'=>(by repeat constructor)) (Src.slice (Rd.ofRow (by repeat constructor)) rfl) (zaa rfl) rfl (by omega) (by omega) fun ap2 ac2=>?_;refine qdL ?_;refine H.Az (ls:=w15C kb n ap l.length ac lb) (ls':=w15C kb n ap2 (l.length + 1) ac2 lb) rfl rfl rfl rfl (.there _ (.here _ _ _)) (.there _ (.here _ _ _)) ?_;refine qdM ?_;refine gA ?_;have hset:=kRow_set (kv:=W.w.kv) (W.w.kv o o + 1) ho ho11;refine qdt ?_
    refine qgM ?_;refine qgc ?_;refine HQ.Ab rfl rfl rfl (.at0 (Rd.ofRow (.there _ (.here _ _ _))) (by rw [Nat.zero_add,Nat.mul_one];exact hgk0)) rfl ?_;refine gW ?_;refine qgc ?_;refine qdv ?_;refine HB.ev 14 ?_;refine H.Az (v:=.int .u64 (W.w.kv o o + 1)) (ls:=kRow n W.w.kv) (ls':=kRow n (W.w.say o ms).kv) rfl rfl rfl rfl (.there _ (.here _ _ _)) (by rw [Nat.zero_add,Nat.mul_one];exact hset) ?_;refine qdM ?_;refine qgh ?_;refine H.Ae (ls:=ms.vals qp qc) rfl rfl rfl (Rd.ofRow (.here _ _ _)) rfl rfl ?_;refine H.Af (ls:=msgZ.vals none 0) (vs:=ms.vals qp qc) (ls':=ms.vals qp qc) rfl rfl rfl (zaa rfl) rfl rfl (Nat.le_refl 121) (by repeat constructor) ?_;refine gZ ?_;refine qhq ?_;refine qdD ?_;refine qfN ?_;refine H.pf (x:=slc ap2 _ ac2 _ _ _) ?_;refine qdt ?_;refine qfq ?_;have hle3:=Le.un (un f g) g2
    have hφ:w15φ (un (un f g) g2) ⟨W.w.say o ms,(W.l.take ms).2⟩ ⟨kb,lb,ap2,ac2,l ++ [⟨ms,qp,qc⟩]⟩:=by
     refine ⟨?_,fun y hy=>?_⟩
     ·show (l ++ [(⟨ms,qp,qc⟩:MV)]).map MV.m = W.w.all ++ [ms];rw [List.map_append,hlm];rfl
     ·rcases List.mem_append.1 hy with h | h
      ·exact (hlg y h).mono ((hfl.trans hle2).trans hle3)
      ·rw [List.mem_singleton.1 h];exact hmsg.mono hle3
    have hsl:slc ap2 (l.length + 1) ac2 51 121 (l.flatMap MV.vals ++ ms.vals qp qc) = slc ap2 (l ++ [(⟨ms,qp,qc⟩:MV)]).length ac2 51 121 ((l ++ [(⟨ms,qp,qc⟩:MV)]).flatMap MV.vals):=slc_snoc (y:=(⟨ms,qp,qc⟩:MV));have hfold:=w15_fold (F:=F) (wb:=wb) (n:=n) _ hφ
    exact H.Aw (ls:=ms.vals qp qc) rfl rfl rfl (Rd.ofRow (.here _ _ _)) rfl (fun _ s=>(s.drop (.here _ _)).imp (fun z hz=>hfold z (by
     rw [hsl] at hz;show stars (row wb _ (w15C kb n ap2 (l ++ [(⟨ms,qp,qc⟩:MV)]).length ac2 lb)::_) z;rw [List.length_append];rw [List.length_append] at hz
     exact hz))) ⟨un g g2,_,Dj.un3' hd hd2,rfl,un_assoc _ _ _,rfl⟩
  ·refine H.db (S:=[_,_,_]) rfl ?_;refine HB.qu [0,1,2,3,4,5,6,7,8,9,10,11,12,13,14,15,16,17,18,19,20,21,22,23] 4 ?_;refine gD ?_;refine qgc ?_;refine HQ.Ab rfl rfl rfl (.at0 (Rd.ofRow (.there _ (.there _ (.here _ _ _)))) (by rw [Nat.zero_add,Nat.mul_one];exact hgk0)) rfl ?_;refine gD ?_;refine HQ.Ak (i:=o) rfl rfl rfl hoo ho rfl ?_;refine HQ.Ae (ls:=v11 (W.w.kv o)) rfl rfl rfl (by rw [Nat.zero_add];exact Rd.kRow (Rd.ofRow (.there _ (.there _ (.here _ _ _)))) ho) rfl rfl ?_;refine gB ?_;refine qer ?_;refine qdg ?_;refine HB.ev2 (i:=24) (j:=26) (by kernel_rfl) rfl rfl ?_ ?_
   ·refine qdt ?_;refine qfN ?_;rw [ho1];refine H.cl (hbody _) fun v f' A' hr=>?_;obtain ⟨g,qp,qc,rfl,hqat,hd,rfl,rfl⟩:=hr;refine gA ?_;refine qdt ?_;refine qdr ?_;refine H.on [] (Le.un _ g) rfl ?_;refine HB.qu [25] 2 ?_;refine HQ.Au (t:=51) (out:=(W.next n o x).vals qp qc) rfl rfl rfl (by kernel_rfl) rfl ?_;refine qdg ?_;refine HB.ev 26 ?_;refine H.Ah (ls:=msgZ.vals none 0) rfl rfl rfl fun mb=>?_;refine gA ?_;refine qdt ?_;refine qdr ?_;refine qdT ?_;exact qaC
   ·refine H.Ah (ls:=msgZ.vals none 0) rfl rfl rfl fun mb=>?_;refine gA ?_;refine qdt ?_;refine qdr ?_;refine qdT ?_;refine HB.ev 24 ?_;refine qdt ?_;refine qfN ?_;rw [ho1];refine H.cl (hbody _) fun v f' A' hr=>?_;obtain ⟨g,qp,qc,rfl,hqat,hd,rfl,rfl⟩:=hr;refine gA ?_;refine qdt ?_;refine qdr ?_;refine H.on [] (Le.un _ g) rfl ?_;refine HB.qu [25] 1 ?_;refine HQ.Au (t:=51) (out:=(W.next n o x).vals qp qc) rfl rfl rfl (by kernel_rfl) rfl ?_;refine qdg ?_;exact qaC
end
def few15 (l:List A15):Bool:=decide (l.length ≤ 100) && l.all fun x=>decide (x.q.length ≤ 20)
variable {l:List A15}
theorem few15_all (h:few15 l = true):l.length ≤ 100 ∧ ∀ x ∈ l,x.q.length ≤ 20:=by
 unfold few15 at h;simp only [Bool.and_eq_true,decide_eq_true_eq,List.all_eq_true] at h;exact h
theorem A15.Has.mono (h:Le f g) (hx:x.Has f):x.Has g:=by
 rcases hx with e | ⟨b,off,cs,T,fr,h1,h2,h3⟩
 ·exact .inl e
 ·exact .inr ⟨b,off,cs,T,fr,h1,h _ _ h2,h3⟩
def Acts15P (f:Frag) (F:List HP) (n:Nat) (W:W15):Value→Frag→List HP→Prop:=fun v f' A'=>∃ (g:Frag) (wb:Nat),v = .pointer (some ⟨wb,0,none⟩) ∧ Dj f g ∧ f' = un f g ∧ A' = wH15 f' wb n W::F
variable {p:Option Addr} {c:Nat}
section
variable (f:Frag) (F:List HP)
theorem odd15_fn (n8:UInt8):Fn Tryz.prog 36 [.int .u8 (n8.toNat:Nat)] f F (Ret (.int .i64 ((3 + 2 * (n8.toNat % 5):Nat):Int)) f F):=by
 have h:=n8.toNat_lt;have hm:((n8.toNat % 5:Nat):Int) ≤ 4:=by omega
 refine Fn.e1 Tryz.func36 Tryz.ntmps36 fun base=>?_;refine gL ?_;refine H.rem (z:=((n8.toNat % 5:Nat):Int)) rfl rfl rfl (by decide) (zat (b:=5) rfl) rfl ?_;refine gX ?_;exact qcx
theorem few15_fn (hat:ListAt f p 12 A15.vals l) (hl:l.length ≤ 9223372036854775807):Fn Tryz.prog 13 [.slice p l.length c] f F (Ret (.bool (few15 l)) f F):=by
 by_cases h30:l.length ≤ 100
 ·refine Fn.e1 Tryz.func13 Tryz.ntmps13 fun base=>?_;refine gF ?_;refine H.lo (ι:=Nat) (fun i=>[(3,.int .i64 (i:Int)),(0,.slice p l.length c)]) (fun _=>f) (fun _=>F) (fun i=>i ≤ l.length ∧ ∀ j x,j < i→l[j]? = some x→x.q.length ≤ 20) (fun i=>l.length - i) 0 ⟨Nat.zero_le _,fun j x hj=>by omega⟩ fun i hi=>?_;obtain ⟨hi,hb⟩:i ≤ l.length ∧ ∀ j x,j < i→l[j]? = some x→x.q.length ≤ 20:=hi;by_cases hlt:i < l.length
  ·have hx:l[i]? = some l[i]:=List.getElem?_eq_getElem hlt;generalize l[i] = x at hx
   obtain ⟨b,off,cs,T,fr,rfl,hfb,hcs⟩:=hat i x hx;have rd:∀ A,Rd f A b (off + i * 12) x.vals:=fun A=>Rd.imm hfb hcs;refine gI ?_
   refine H.Ak rfl rfl rfl rfl hlt rfl ?_;refine gK ?_;refine H.Ab rfl rfl rfl (Rd1.of (i:=10) (rd _) rfl) rfl ?_;refine gI ?_;by_cases hq:x.q.length ≤ 20
   ·skip;refine gO ?_;refine H.ag (i + 1) ⟨by show i + 1 ≤ l.length;omega,fun j y hj hy=>?_⟩ (by show l.length - (i + 1) < l.length - i;omega);by_cases e:j = i
    ·subst e;rw [hx] at hy;cases hy;exact hq
    ·exact hb j y (by omega) hy
   ·skip;refine gI ?_;refine H.Ad rfl rfl (fun _ h=>h) ⟨?_,rfl,rfl⟩
    have:few15 l = false:=by
     unfold few15;rw [Bool.and_eq_false_iff];exact .inr (List.all_eq_false.2 ⟨x,List.mem_of_getElem? hx,by rw [decide_eq_false hq];decide⟩)
    rw [this]
  ·refine gF ?_;refine H.Ad rfl rfl (fun _ h=>h) ⟨?_,rfl,rfl⟩
   have:few15 l = true:=by
    unfold few15;rw [decide_eq_true h30,Bool.true_and,List.all_eq_true];intro x hx;obtain ⟨j,hj⟩:=List.getElem?_of_mem hx;have hjl:=(List.getElem?_eq_some_iff.1 hj).1;exact decide_eq_true (hb j x (by omega) hj)
   rw [this]
 ·refine Fn.e1 Tryz.func13 Tryz.ntmps13 fun base=>?_;refine gI ?_;refine H.Ad rfl rfl (fun _ h=>h) ⟨?_,rfl,rfl⟩;have:few15 l = false:=by unfold few15;rw [decide_eq_false h30];rfl
  rw [this]
theorem nworld_fn (h:fewZ (n:Int)):Fn Tryz.prog 35 [.int .i64 (n:Int)] f F (Acts15P f F n (W15.zero n)):=by
 have hn:n ≤ 11:=by have:=h.2.1;omega
 refine Fn.e1 Tryz.func35 Tryz.ntmps35 fun base=>?_;refine gL ?_;refine H.Al rfl rfl rfl (lgnew_fn f _ h) fun v f' A' hr=>?_;obtain ⟨g,lb,hd,rfl,rfl,rfl⟩:=hr;refine gV ?_;refine H.makeS (m:=n) (zs:=v11 fun _=>0) rfl rfl rfl rfl rfl rfl rfl (by decide) (by omega) (by omega) rfl fun kb=>?_;rw [kRow_zero];repeat (first | (refine H.Au (t:=34) (out:=w15C kb n none 0 0 lb) rfl rfl rfl (by kernel_rfl) rfl ?_) | (refine gh ?_))
 refine H.box (ls:=w15C kb n none 0 0 lb) rfl rfl rfl rfl fun wb=>?_;refine gZ ?_;refine qfN ?_;refine H.slc0 51 121 ?_;refine qdt ?_;refine H.imp (w15_fold (e:=un f g) (n:=n) (W:=W15.zero n) ⟨kb,lb,none,0,[]⟩ ⟨rfl,fun y hy=>by cases hy⟩) ?_;exact H.r1 ⟨g,wb,rfl,hd,rfl,rfl⟩
theorem acts15_fn {n8:UInt8} (hn8:n = 3 + 2 * (n8.toNat % 5)) {xs:List A15} (hat:ListAt f p 12 A15.vals xs) (hh:∀ x ∈ xs,x.Has f ∧ x.q.length ≤ 20) (hl:xs.length ≤ 100) :
  Fn Tryz.prog 16 [.int .u8 (n8.toNat:Nat),.slice p xs.length c] f F (Acts15P f F n (world15 n xs)):=by
 have hn3:3 ≤ n ∧ n ≤ 11:=by omega
 have hodd:=fun G=>odd15_fn f G n8;rw [← hn8] at hodd
 have hfz:fewZ (n:Int):=⟨by omega,by omega,by
  rw [show (2:Int) = ((2:Nat):Int) from rfl,zat (a:=n) (b:=2) (r:=1) (by omega)];rfl⟩
 refine Fn.e2 Tryz.func16 Tryz.ntmps16 fun base=>?_;refine gL ?_;refine H.cr (hodd _) ?_;refine H.Al rfl rfl rfl (nworld_fn f _ hfz) fun v f' A' hr=>?_;obtain ⟨g0,wb,rfl,hd0,rfl,rfl⟩:=hr;refine gZ ?_
 refine H.lo (ι:=Nat × Frag) (fun s=>[(6,.int .i64 (s.1:Int)),(1,.slice p xs.length c),(5,.pointer (some ⟨wb,0,none⟩))]) (fun s=>un f s.2)
  (fun s=>wH15 (un f s.2) wb n (world15 n (xs.take s.1))::F)
  (fun s=>s.1 ≤ xs.length ∧ Dj f s.2) (fun s=>xs.length - s.1) (0,g0) ⟨Nat.zero_le _,hd0⟩ fun s hs=>?_
 obtain ⟨k,G⟩:=s;obtain ⟨hk,hdj⟩:k ≤ xs.length ∧ Dj f G:=hs;show H _ _ _ [(6,.int .i64 (k:Int)),_,_] (un f G) (wH15 (un f G) wb n (world15 n (xs.take k))::F) _;by_cases hlt:k < xs.length
 ·obtain ⟨x,hx⟩:∃ x,xs[k]? = some x:=⟨_,List.getElem?_eq_getElem hlt⟩;have hnext:world15 n (xs.take (k + 1)) = (world15 n (xs.take k)).act n x:=by rw [zbk hx,world15_snoc]
  obtain ⟨hxa,hxq⟩:=hh x (List.mem_of_getElem? hx);obtain ⟨b,off,cs,T,fr,rfl,hfb,hcs⟩:=hat k x hx;have rd:∀ A,Rd (un f G) A b (off + k * 12) x.vals:=fun A=>Rd.imm (Le.un f G b _ hfb) hcs;have hinv:=world15_inv hn3.1 hn3.2 xs k (by omega)
  have hwl:=world15_len n xs k;refine gI ?_
  refine H.Ak (i:=k) rfl rfl rfl rfl hlt rfl ?_;refine H.Ae (ls:=x.vals) rfl rfl rfl (rd _) rfl rfl ?_;refine H.Al rfl rfl rfl (do_fn (un f G) _ (Le.refl _) hn3 hinv (by omega) (by omega) (hxa.mono (Le.un f G)) hxq) fun v f' A' hr=>?_;obtain ⟨g,u,hd,rfl,rfl,rfl⟩:=hr;refine gX ?_;refine H.Ax (k + 1,un G g) ⟨by show k + 1 ≤ xs.length;omega,Dj.un3' hdj hd⟩ (by show xs.length - (k + 1) < xs.length - k;omega) ⟨rfl,rfl,rfl,trivial⟩ (un_assoc _ _ _) ?_;show wH15 (un (un f G) g) wb n _::F = wH15 (un f (un G g)) wb n (world15 n (xs.take (k + 1)))::F;rw [hnext,un_assoc]
 ·have e:k = xs.length:=by omega
  subst e;rw [List.take_length];refine gF ?_;exact H.r1 ⟨G,wb,rfl,hdj,rfl,rfl⟩
end
theorem H.world15 {P:Program} {base:World} {L:Env} {K:Kont}
  (h:∀ g kb ap ac lb (l:List MV),Dj f g→WAt (un f g) n W.w kb ap l→H P base m L (un f g) (row wb 34 (w15C kb n ap l.length ac lb)::A) K):H P base m L f (wH15 f wb n W::A) K:=by
 refine H.unpack fun i hi=>?_;obtain ⟨kb,lb,ap,ac,l⟩:=i;show H P base m L f (row wb 34 (w15C kb n ap l.length ac lb)::row kb 36 (kRow n W.w.kv)::slc ap l.length ac 51 121 (l.flatMap MV.vals)::logsH f lb W.l::A) K;refine H.Cg (.there _ (.here _ _)) fun g1 hg1 hd1=>?_;refine H.Cg (.there _ (.here _ _)) fun g2 hg2 hd2=>?_;refine H.Ac (.there _ (.here _ _)) ?_;have hd3:Dj f (un g1 g2):=Dj.un3' hd1 hd2;rw [un_assoc]
 have hle:Le f (un f (un g1 g2)):=Le.un _ _;have h1:KAt (un f (un g1 g2)) kb n W.w.kv:=by rw [← un_assoc];exact (KAt.of hg1 hd1).mono (Le.un _ g2)
 have h2:ListAt (un f (un g1 g2)) ap 121 MV.vals l:=by rw [← un_assoc];exact (zbs MV.len hg2).mono (Le.right hd2)
 exact h (un g1 g2) kb ap ac lb l hd3 ⟨h1,h2,fun y hy=>(hi.2 y hy).mono hle,hi.1⟩
theorem lgsOf_NI (n:Nat) (l:List Msg):NI (lgsOf n l):=by
 refine snocInd (p:=fun l=>NI (lgsOf n l)) (NI.new n) (fun l m ih=>?_) l;show NI (lgsOf n (l ++ [m]));rw [lgsOf_snoc];exact ih.take m
section
variable (f:Frag) (F:List HP)
end
end Go.Proofs.YtminmjlfmolfeaaGreatDoor

namespace Go.Proofs.YtminmjlfmolfeaaGreatDoor
open Go Go.ChangeShapes Go.WideShapes Go.RowKit Go.Deep
variable {W:World} {cs:List Value}
theorem Reads.bool {P:Program} {t:TypeId} (ht:P.underlying t = some .bool) (h:Reads P W t cs):∃ b,cs = [.bool b]:=by
 obtain ⟨H',enc,b,sp,hd,n,x,h⟩:=h;obtain ⟨z,h1,_⟩:=DataW.trod_bool ht h;exact ⟨z,h1⟩
theorem Reads.u8 (h:Reads Tryz.prog W 5 cs):∃ x:UInt8,cs = [.int .u8 (x.toNat:Nat)]:=by
 obtain ⟨x,_,e⟩:=reads_byte h;exact ⟨x,e⟩
variable {v:Value}
theorem ArgOk.u8 (h:ArgOk Tryz.prog W 5 v):∃ x:UInt8,v = .int .u8 (x.toNat:Nat):=by
 obtain ⟨z,rfl,hz⟩:=h.int Tryz.underlying5;exact ⟨UInt8.ofNat z.toNat,by rw [u8_back hz]⟩
theorem AllReads.cons {P:Program} {W:World} {t:TypeId} {ts:List TypeId} {ps:List (List Value)} (h:AllReads P W (t::ts) ps):∃ p q,ps = p::q ∧ Reads P W t p ∧ AllReads P W ts q:=by
 cases ps with
 | nil=>exact h.elim
 | cons p q=>exact ⟨p,q,rfl,h.1,h.2⟩
theorem AllReads.nil {P:Program} {W:World} {ps:List (List Value)} (h:AllReads P W [] ps):ps = []:=by
 cases ps with
 | nil=>rfl
 | cons p q=>exact h.elim
theorem reads_a15 (h:Reads Tryz.prog W 88 cs):∃ x:A15,x.Has (memOf W) ∧ cs = x.vals:=by
 obtain ⟨ps,rfl,hh⟩:=h.parts Tryz.underlying88 (by kernel_rfl);have h:AllReads Tryz.prog W [5,5,4,4,5,5,5,5,5,5,86,4] ps:=hh;obtain ⟨p0,q0,rfl,r0,h⟩:=h.cons
 obtain ⟨p1,q1,rfl,r1,h⟩:=h.cons;obtain ⟨p2,q2,rfl,r2,h⟩:=h.cons;obtain ⟨p3,q3,rfl,r3,h⟩:=h.cons;obtain ⟨p4,q4,rfl,r4,h⟩:=h.cons;obtain ⟨p5,q5,rfl,r5,h⟩:=h.cons;obtain ⟨p6,q6,rfl,r6,h⟩:=h.cons;obtain ⟨p7,q7,rfl,r7,h⟩:=h.cons;obtain ⟨p8,q8,rfl,r8,h⟩:=h.cons;obtain ⟨p9,q9,rfl,r9,h⟩:=h.cons;obtain ⟨p10,q10,rfl,r10,h⟩:=h.cons;obtain ⟨p11,q11,rfl,r11,h⟩:=h.cons;obtain rfl:=h.nil;obtain ⟨z0,rfl⟩:=r0.u8;obtain ⟨z1,rfl⟩:=r1.u8;obtain ⟨z2,rfl⟩:=r2.bool Tryz.underlying4;obtain ⟨z3,rfl⟩:=r3.bool Tryz.underlying4;obtain ⟨z4,rfl⟩:=r4.u8;obtain ⟨z5,rfl⟩:=r5.u8;obtain ⟨z6,rfl⟩:=r6.u8;obtain ⟨z7,rfl⟩:=r7.u8;obtain ⟨z8,rfl⟩:=r8.u8;obtain ⟨z9,rfl⟩:=r9.u8;obtain ⟨p,c,xs,rfl,_,_,_,hat⟩:=r10.list (sz:=1) Tryz.underlying86 (by kernel_rfl) (by decide) fun cs=>reads_byte;obtain ⟨z11,rfl⟩:=r11.bool Tryz.underlying4;exact ⟨⟨z0,z1,z2,z3,z4,z5,z6,z7,z8,z9,xs,z11,p,c⟩,listAt_bat hat,rfl⟩
theorem ArgOk.acts15 (h:ArgOk Tryz.prog W 22 v):∃ (p:Option Addr) (c:Nat) (xs:List A15),v = .slice p xs.length c ∧ xs.length ≤ 9223372036854775807 ∧ (∀ x ∈ xs,x.Has (memOf W)) ∧ ListAt (memOf W) p 12 A15.vals xs:=by
  obtain ⟨p,c,xs,rfl,h1,h2,hq,hat⟩:=h.list (sz:=12) Tryz.underlying22 (by kernel_rfl) (by decide) fun cs=>reads_a15
  exact ⟨p, c, xs, rfl, by have : maxLen ≤ 9223372036854775807 := by decide
                           omega,hq,hat⟩
end Go.Proofs.YtminmjlfmolfeaaGreatDoor

namespace Go.Proofs.YtminmjlfmolfeaaGreatDoor
open Go
def allO (o:Option Vw):List Req:=(o.map Vw.all).getD []
def LogOR (f:Frag) (A:List HP) (o:Option Vw):Value→Frag→List HP→Prop:=fun v f' A'=>∃ (p:Option Addr) (c:Nat),v = .tuple #[.slice p (allO o).length c,.bool o.isSome] ∧ f' = f ∧ A' = slc p (allO o).length c 44 40 ((allO o).flatMap Req.vals)::A
variable {fl:Frag} {lb T:Nat} {l:Lgs} {v:Int}
section
variable (f:Frag) (F:List HP)
theorem pllog_no (hat:vwAt l.vs v = none) :
  Fn Tryz.prog 24 [.pointer (some ⟨lb,0,none⟩),.int .u64 v] f (plogH fl lb l::F) (Ret (.tuple #[.slice none 0 0,.bool false]) f (plogH fl lb l::F)):=by
 refine Fn.unpack fun i hi=>?_;have hvs:=hi.vs;obtain ⟨V,vb,pp,pc,cp,cc,pb,cs⟩:=i
 have hvs:(V.map PV.w).Perm l.vs:=hvs;have hget:(getKV (V.map PV.ent) v).getD (.pointer none) = .pointer none:=by rw [view_none hvs hat];rfl
 refine qcY ?_;refine Fn.e2 Tryz.func24 Tryz.ntmps24 fun base=>?_;refine gP ?_;refine qeu ?_;refine gg ?_;refine qdH ?_;exact qbN
theorem pllogO_fn (hL:LI l T) (hT:T ≤ 50000) (v:Int) :
  Fn Tryz.prog 24 [.pointer (some ⟨lb,0,none⟩),.int .u64 v] f (plogH fl lb l::F) (LogOR f (plogH fl lb l::F) (l.vw v)):=by
 cases hv:l.vw v with
 | none =>
  intro base w s;have h:=pllog_no f F (fl:=fl) (lb:=lb) (vw_none.1 hv) base w s;refine h.mono ?_
  rintro e w' ⟨x,f',A',rfl,⟨rfl,rfl,rfl⟩,s'⟩;refine ⟨_,_,slc none 0 0 44 40 []::plogH fl lb l::F,rfl,⟨none,0,rfl,rfl,rfl⟩,s'.imp fun h hh=>⟨nil0,h,(Dj.nil h).symm,(nil_un h).symm,slc_nil none 44 40,hh⟩⟩
 | some w =>
  obtain ⟨i,h1,h2⟩:=vw_at hv;exact (pllog_fn f F hL hT h1 h2).mono fun _ _ _ h=>h
end
open Go.Sort (bitsLen PermIn SortedIn Below ltInt swo_ltInt sorted_unique_holds)
theorem list_arr (xs:List Int):xs.flatMap uV = arr xs.toArray:=rfl
theorem sorted_eq:∀ {ys zs:List Int},ys.Perm zs→zs.Pairwise (· < ·)→ys.Pairwise (· ≤ ·)→ys = zs
 | [],zs,h,_,_=>h.nil_eq
 | y::ys,[],h,_,_=>absurd h.length_eq (by simp)
 | y :: ys, z :: zs, h, hz, hy => by
  rw [List.pairwise_cons] at hz hy
  have e:y = z:=by
   have h1:z ∈ y::ys:=h.mem_iff.2 (by simp);have h2:y ∈ z::zs:=h.mem_iff.1 (by simp)
   rcases List.mem_cons.1 h1 with h1 | h1
   ·exact h1.symm
   ·rcases List.mem_cons.1 h2 with h2 | h2
    ·exact h2
    ·have:=hy.1 z h1;have:=hz.1 y h2;omega
  subst e
  rw [sorted_eq ((List.perm_cons y).1 h) hz.2 hy.2]
def unseenU (es:List (Int × Value × Nat)) (seen:List Int):Nat:=(es.filter fun e=>!seen.contains e.1).length
theorem unseenU_lt:∀ {es:List (Int × Value × Nat)} {seen:List Int} {e:Int × Value × Nat},e ∈ es→e.1 ∉ seen→unseenU es (e.1::seen) < unseenU es seen:=fun {es seen e} he hn=>by
 have hle:∀ l:List (Int × Value × Nat),(l.filter fun x=>!(e.1::seen).contains x.1).length ≤ (l.filter fun x=>!seen.contains x.1).length:=fun l=>by
  induction l with
  | nil=>exact Nat.le_refl _
  | cons x r ih =>
   by_cases h1:x.1 ∈ seen
   ·rw [List.filter_cons_of_neg (by simp [h1]),List.filter_cons_of_neg (by simp [h1])];exact ih
   ·by_cases h2:x.1 = e.1
    ·rw [List.filter_cons_of_neg (by simp [h2]),List.filter_cons_of_pos (by simp [h1])];simp only [List.length_cons];omega
    ·rw [List.filter_cons_of_pos (by simp [h1,h2]),List.filter_cons_of_pos (by simp [h1])];simp only [List.length_cons];omega
 obtain ⟨a,b,rfl⟩:=List.append_of_mem he
 unfold unseenU
 rw [List.filter_append,List.filter_append,List.filter_cons_of_neg (p:=fun x:Int × Value × Nat=>!(e.1::seen).contains x.1) (by simp),List.filter_cons_of_pos (p:=fun x:Int × Value × Nat=>!seen.contains x.1) (by simp [hn]),List.length_append,List.length_append,List.length_cons]
 have:=hle a
 have:=hle b
 omega
theorem nodup_len:∀ {s l:List Int},s.Nodup→(∀ k ∈ s,k ∈ l)→s.length ≤ l.length
 | [],_,_,_=>Nat.zero_le _
 | k :: s, l, hn, hs => by
  rw [List.nodup_cons] at hn
  obtain ⟨a,b,rfl⟩:=List.append_of_mem (hs k (by simp))
  have:=nodup_len (l:=a ++ b) hn.2 fun j hj=>by
   have h1:=hs j (List.mem_cons_of_mem _ hj)
   rw [List.mem_append,List.mem_cons] at h1
   rw [List.mem_append]
   rcases h1 with h1 | h1 | h1
   ·exact .inl h1
   ·exact absurd (h1 ▸ hj) hn.1
   ·exact .inr h1
  rw [List.length_append] at this
  rw [List.length_append,List.length_cons,List.length_cons]
  omega
variable {lp:Nat} {α:Type} {A:List HP}
theorem YieldFn.exI {P:Program} {args:List Value} {f:Frag} {g:α→HP} {R:Value→Frag→List HP→Prop} (h:∀ x,YieldFn P lp args f (g x::A) R):YieldFn P lp args f (ex g::A) R:=fun base w s=>by
 obtain ⟨m,⟨m1,m2,d,e,⟨x,hx⟩,h2⟩,hd,hw⟩:=s.mem
 exact h x base w ⟨s.os,s.tape,s.output,s.size,s.imm,m,⟨m1,m2,d,e,hx,h2⟩,hd,hw⟩
variable {n c vb mb:Nat} {m:List (Int × Value)} {LH D:HP} {acc:List Int}
section
variable (f:Frag) (F:List HP)
def SrtL (f:Frag) (F:List HP) (p:Option Addr) (n c:Nat) (xs:List Int):Value→Frag→List HP→Prop:=fun v f' A'=>∃ ys:List Int,ys.Perm xs ∧ ys.Pairwise (· ≤ ·) ∧ v = .tuple #[] ∧ f' = f ∧ A' = slc p n c 24 1 (ys.flatMap uV)::F
theorem sortU_fn {p:Option Addr} {xs:List Int} (hx:xs.length = n) (hn:n ≤ 255) :
  Fn Tryz.prog 84 [.slice p n c] f (slc p n c 24 1 (xs.flatMap uV)::F) (SrtL f F p n c xs):=by
 have hl:=fun G=>len_fn f G (x:=n) (by omega);have hb8:bitsLen n ≤ 8:=(tab8 ⟨n,by omega⟩).2.2.2
 have hs:=pdq_fn f F n (p:=p) (n:=n) (c:=c) (a0:=0) (b0:=n) (lim0:=(bitsLen n:Nat)) (d0:=xs.toArray) (by simpa using hx) hn (Nat.zero_le _) (Nat.le_refl _) (by omega) (.inl rfl) (by omega)
 have hun:∀ d:Array Int,PermIn 0 n xs.toArray d→SortedIn ltInt 0 n d→d.toList.Perm xs ∧ d.toList.Pairwise (· ≤ ·):=fun d h1 h2=>by
  have hdn:d.size = n:=h1.1.trans (by simpa using hx);have e:xs.toArray.size = n:=by simpa using hx
  refine ⟨?_,?_⟩
  ·have:=sorted_unique_holds swo_ltInt (fun x y h1 h2=>by simp only [ltInt,decide_eq_false_iff_not] at h1 h2;omega) xs.toArray d (by rw [e];exact h1) (by rw [e];exact h2);rw [this]
   exact List.mergeSort_perm _ _
  ·rw [List.pairwise_iff_getElem];intro i j hi hj hij;have h3:=h2 i j (Nat.zero_le _) hij (by rw [← hdn];simpa using hj);have hi':i < d.size:=by simpa using hi
   have hj':j < d.size:=by simpa using hj
   rw [getElem!_pos d i hi',getElem!_pos d j hj'] at h3;simp only [ltInt,decide_eq_false_iff_not] at h3;simp only [Array.getElem_toList];omega
 rw [list_arr];refine Fn.e1 Tryz.func84 Tryz.ntmps84 fun base=>?_;refine gX ?_;refine H.cr (hl _) ?_;skip;refine H.Al rfl rfl rfl hs fun v f' A' hR=>?_;obtain ⟨d,h1,h2,rfl,hff,rfl⟩:=hR;rw [hff];obtain ⟨h3,h4⟩:=hun d h1 h2;refine gA ?_;exact H.end0 rfl (fun _ h=>h) ⟨d.toList,h3,h4,rfl,rfl,rfl⟩
theorem keys_fn:Fn Tryz.prog 75 [.map (some vb)] f F
  (RetE (α:=Nat) (fun b=>.func (.func 117) #[] #[.pointer (some ⟨b,0,none⟩)]) f (fun b=>row b 126 [.map (some vb)]::F)):=by
 refine Fn.e1 Tryz.func75 Tryz.ntmps75 fun base=>?_;refine gA ?_;refine H.box (ls:=[.map (some vb)]) rfl rfl rfl rfl fun b=>?_;refine gV ?_;exact H.r1 ⟨b,rfl,rfl,rfl⟩
theorem keys1_fn {X:List Int→HP} (hnd:(m.map (·.1)).Nodup)
  (hY:∀ (acc:List Int) (k:Int) (G:List HP),acc.length ≤ m.length→YieldFn Tryz.prog lp [.int .u64 k] f (X acc::G) (fun v g B=>v = .bool true ∧ g = f ∧ B = X (acc ++ [k])::G)) :
  Fn Tryz.prog 117 ([] ++ [.func (.yield lp) #[] #[]] ++ [.pointer (some ⟨mb,0,none⟩)]) f (mp vb keyU m::X []::row mb 126 [.map (some vb)]::F)
   (RetE (α:={ ks:List Int // ks.Perm (m.map (·.1)) }) (fun _=>.tuple #[]) f (fun ks=>X ks.1::row mb 126 [.map (some vb)]::mp vb keyU m::F)):=by
 refine Fn.openMap fun es clock hes=>?_
 have hkeys:m.map (·.1) = es.map (·.1):=by
  rw [← hes,List.map_map];rfl
 refine Fn.e2 Tryz.func117 Tryz.ntmps117 fun base=>?_;refine gH ?_;refine H.range rfl rfl (by repeat constructor) rfl fun rb=>?_;refine gZ ?_;refine H.pf (x:=X _) ?_
 refine H.lo (ι:=List Int) (fun _=>[(5,.pointer (some ⟨rb,0,none⟩)),(0,.func (.yield lp) #[] #[])]) (fun _=>f)
  (fun s=>X s.reverse::itr rb vb es clock s::mpS vb keyU es clock::row mb 126 [.map (some vb)]::F) (fun s=>s.Nodup ∧ ∀ k ∈ s,k ∈ es.map (·.1)) (fun s=>unseenU es s) [] ⟨List.nodup_nil,fun k h=>by cases h⟩ fun s hs=>?_
 obtain ⟨hsn,hsk⟩:s.Nodup ∧ ∀ k ∈ s,k ∈ es.map (·.1):=hs;show H _ _ _ [(5,_),_] f (X s.reverse::itr rb vb es clock s::_::_::F) _;refine gA ?_;refine H.next rfl rfl (by repeat constructor) (by repeat constructor) (fun _=>(by repeat constructor)) rfl (fun hend=>?_) (fun e he hns=>?_)
 ·have hp:s.reverse.Perm (m.map (·.1)):=by
   refine (List.reverse_perm s).trans ((List.perm_ext_iff_of_nodup hsn hnd).2 fun k=>?_);rw [hkeys];refine ⟨hsk k,fun hk=>?_⟩;obtain ⟨e,he,rfl⟩:=List.mem_map.1 hk;exact hend e he
  refine gV ?_;refine H.pd (x:=itr _ _ _ _ _) ?_;refine H.pf (x:=mpS _ _ _ _) ?_;refine H.imp mpS_fold ?_;rw [hes];refine qds ?_;refine H.pf (x:=X _) ?_;exact H.end0 rfl (fun _ h=>h) ⟨⟨s.reverse,hp⟩,rfl,rfl,rfl⟩
 ·skip;refine gV ?_;refine H.entry rfl rfl (by repeat constructor) (by repeat constructor) he rfl ?_
  iterate 5 ( first
   | ((first | apply H.Ap | apply H.Bb | apply H.Bc | apply H.Bi | apply H.Br | apply H.Bu);(iterate 3 exact rfl))
   | (apply H.Bj;(iterate 3 exact rfl);exact inferInstance;exact rfl)
   | (apply H.Ab;(iterate 3 exact rfl);apply Rd1.ofRow;(repeat (first | exact .here _ _ _ | apply At.there));(iterate 2 exact rfl))
   | (first | apply H.seq | apply H.Bf | apply H.nil | apply H.Bh)
   | ((first | apply H.cmp | apply H.Au);(iterate 5 exact rfl))
   | ((first | (apply H.ar;(iterate 4 exact rfl)) | (apply H.Bl;(iterate 2 exact rfl)));(first | (with_reducible apply zbe;omega) | (with_reducible apply zbd;omega) | (with_reducible apply zbc;omega) | (with_reducible apply wr_i64;omega) | (with_reducible apply wr_u64;omega) | (with_reducible apply wr_u8;omega) | (with_reducible apply wr_u16;omega) | rfl);exact rfl)
   | (apply H.pass;(iterate 2 exact rfl))
   | (apply H.pass0;exact rfl)
   | (apply H.pickT;(iterate 4 exact rfl))
   | ((first | apply H.Bs | apply H.Cf | apply H.not | apply H.Cn);(iterate 4 exact rfl))
   | ((first | apply H.ptrNil | apply H.sliceNil);(iterate 5 exact rfl))
   | (apply H.Az;(iterate 4 exact rfl);(repeat (first | exact .here _ _ _ | apply At.there));(repeat (first | exact .here _ _ _ | apply SetV.there)))
   | (apply H.Cm;exact rfl)
   | (apply H.Cl;exact rfl)
   | (first | apply H.skip | apply H.ret | apply H.Ca | apply H.Cb | apply H.exit | apply H.Bm | apply H.Bo | apply H.Bv | apply H.By | apply H.Bz | apply H.Cc)
   | (apply H.in_miss;exact rfl)
   | (apply H.gyes;(iterate 3 exact rfl);(first | assumption | omega))
   | (apply H.gno;(iterate 3 exact rfl);(first | assumption | omega))
   | (apply H.Ci;exact rfl;(first | assumption | omega))
   | (apply H.Ch;exact rfl;(first | assumption | omega))
   | ((first | apply H.gtrue);(iterate 3 exact rfl);assumption)
   | (apply H.gfalse;(iterate 3 exact rfl);assumption)
   | (apply H.cond_t;exact rfl;assumption)
   | (apply H.cond_f;exact rfl;assumption) )
  refine H.regionY ?_
  have hlen:s.reverse.length ≤ m.length:=by
   have h1:=nodup_len hsn hsk;rw [List.length_map] at h1
   rw [List.length_reverse,← hes,List.length_map];exact h1
  refine H.inOp (by with_reducible (repeat (first | exact zav | exact zam | exact zag | exact zah | refine zan ?_ | refine zaf ?_ | refine zaj ?_ | refine zai ?_ | refine zau ?_))) ?_;refine qhi ?_;refine H.inOp (by with_reducible (repeat (first | exact zav | exact zam | exact zag | exact zah | refine zan ?_ | refine zaf ?_ | refine zaj ?_ | refine zai ?_ | refine zau ?_))) ?_;refine qhi ?_;refine H.pf (x:=X _) ?_;refine H.yield rfl rfl rfl rfl (hY s.reverse e.1 _ hlen) fun v f' A' hR=>?_;obtain ⟨rfl,hff,rfl⟩:=hR;rw [hff];clear hff;refine H.inOp (by with_reducible (repeat (first | exact zav | exact zam | exact zag | exact zah | refine zan ?_ | refine zaf ?_ | refine zaj ?_ | refine zai ?_ | refine zau ?_))) ?_;refine gV ?_;refine H.Bp ?_;refine H.inNil ?_;refine gX ?_;refine H.pf (x:=mpS _ _ _ _) ?_;refine H.pf (x:=itr _ _ _ _ _) ?_;refine H.pf (x:=X _) ?_;refine H.Ax (e.1::s) ⟨List.nodup_cons.2 ⟨hns,hsn⟩,fun k hk=>?_⟩ (unseenU_lt he hns) ⟨rfl,rfl,trivial⟩ rfl ?_
  ·rcases List.mem_cons.1 hk with h | h
   ·rw [h];exact List.mem_map.2 ⟨e,he,rfl⟩
   ·exact hsk k h
  ·show _ = X (e.1::s).reverse::_;rw [List.reverse_cons]
def ColP (f:Frag) (F:List HP) (mb vb:Nat) (m:List (Int × Value)):Value→Frag→List HP→Prop:=fun v f' A'=>∃ (ks:List Int) (p:Option Addr) (c:Nat),ks.Perm (m.map (·.1)) ∧ v = .slice p ks.length c ∧ f' = f ∧ A' = slc p ks.length c 24 1 (ks.flatMap uV)::row mb 126 [.map (some vb)]::mp vb keyU m::F
def accH (LH D:HP) (sb:Nat) (acc:List Int):HP:=ex fun pc:Option Addr × Nat=>stars [LH,D,row sb 90 [.slice pc.1 acc.length pc.2],slc pc.1 acc.length pc.2 24 1 (acc.flatMap uV)]
theorem acc_in {sb:Nat} (p:Option Addr) (c:Nat):∀ h,stars (LH::D::row sb 90 [.slice p acc.length c]::slc p acc.length c 24 1 (acc.flatMap uV)::A) h→stars (accH LH D sb acc::A) h:=fun h hh=>by
 have:=pack_all [LH,D,row sb 90 [.slice p acc.length c],slc p acc.length c 24 1 (acc.flatMap uV)] A h hh
 obtain ⟨m1,m2,d,e,a,r⟩:=this
 exact ⟨m1,m2,d,e,⟨(p,c),a⟩,r⟩
def acc2 (D:HP) (sb:Nat) (acc:List Int):HP:=ex fun pc:Option Addr × Nat=>stars [D,row sb 90 [.slice pc.1 acc.length pc.2],slc pc.1 acc.length pc.2 24 1 (acc.flatMap uV)]
theorem acc_out {sb:Nat}:∀ h,stars (accH LH D sb acc::A) h→stars (LH::acc2 D sb acc::A) h:=fun h ⟨m1,m2,d,e,⟨pc,a⟩,r⟩=>by
 obtain ⟨m3,m4,d2,e2,a2,r2⟩:=a
 rw [e2] at d e
 have d3:=Dj.un_left.1 d
 exact ⟨m3,un m4 m2,Dj.un_right.2 ⟨d2,d3.1⟩,by rw [e,un_assoc],a2,m4,m2,d3.2,rfl,⟨pc,r2⟩,r⟩
theorem appendSeq_fn (hnd:(m.map (·.1)).Nodup) (hm:m.length ≤ 1000000) :
  Fn Tryz.prog 164 [.slice none 0 0,.func (.func 117) #[] #[.pointer (some ⟨mb,0,none⟩)]] f (row mb 126 [.map (some vb)]::mp vb keyU m::F) (ColP f F mb vb m):=by
 refine Fn.enterM Tryz.func164 rfl Tryz.ntmps164 rfl (L:=[(0,_),(1,_)]) ⟨rfl,rfl,trivial⟩ fun base=>?_;refine gA ?_;refine H.box (ls:=[.slice none 0 0]) rfl rfl rfl rfl fun sb=>?_;refine gZ ?_;refine H.slc0 24 1 ?_;refine H.pf (x:=row sb _ _) ?_;refine H.sb [(6,.func (.func 117) #[] #[.pointer (some ⟨mb,0,none⟩)]),(2,.pointer (some ⟨sb,0,none⟩))] ?_;refine H.rangeFuncE (f':=f) (fs:=[]) (cs:=[.pointer (some ⟨mb,0,none⟩)]) rfl rfl fun LH hLH=>⟨{ ks:List Int // ks.Perm (m.map (·.1)) },fun i D=>acc2 (pts D (.deferred (some []))) sb i.1::row mb 126 [.map (some vb)]::mp vb keyU m::F,fun D lp=>?_,fun i D=>?_⟩
 ·refine Fn.wrap (A1:=mp vb keyU m::accH (LH D lp .ready) (pts D (.deferred (some []))) sb []::row mb 126 [.map (some vb)]::F) (fun h hh=>?_) (keys1_fn f F (X:=accH (LH D lp .ready) (pts D (.deferred (some []))) sb) hnd fun acc k G hacc=>?_) fun v g B hR=>?_
  ·have h1:=acc_in (acc:=[]) none 0 h hh;rw [Pull.eq (x:=mp vb keyU m) (.there _ (.there _ (.here _ _)))] at h1
   exact h1
  ·refine YieldFn.exI fun pc=>?_;obtain ⟨p,c⟩:=pc;refine YieldFn.wrap (R1:=fun v g B=>∃ (p2:Option Addr) (c2:Nat),v = .bool true ∧ g = f ∧ B = LH D lp .ready::pts D (.deferred (some []))::row sb 90 [.slice p2 (acc ++ [k]).length c2]::slc p2 (acc ++ [k]).length c2 24 1 ((acc ++ [k]).flatMap uV)::G) (open_all _ _) ?_ ?_
   ·subst hLH;refine qhg fun base=>?_;refine qdA ?_;repeat (first | (first | (apply H.blockR) | (apply H.Bw;exact rfl;exact (by with_reducible (repeat (first | exact zav | exact zam | exact zag | exact zah | refine zan ?_ | refine zaf ?_ | refine zaj ?_ | refine zai ?_ | refine zau ?_))))) | (first | ((apply H.Ap);(iterate 3 exact rfl)) | (apply H.Ab;(iterate 3 exact rfl);apply Rd1.ofRow;(repeat (first | exact .here _ _ _ | apply At.there));(iterate 2 exact rfl))))
    show H _ _ _ _ f (_::pts D _::row sb _ [.slice p acc.length c]::slc p acc.length c _ 1 (acc.flatMap uV)::G) _;refine H.Ar (out:=uV k) rfl rfl rfl rfl (by decide) (by decide) rfl rfl fun eb=>?_;refine H.Av (sz:=1) (p:=p) (n0:=acc.length) (c:=c) (xs:=acc.flatMap uV) (m:=1) (news:=uV k) rfl rfl rfl rfl rfl (fun p' c'=>.there _ (.there _ (.there _ (.there _ (.here _ _ _))))) (Src.slice (Rd.ofRow (.here _ _ _)) rfl) (zaa rfl) rfl (by omega) (by omega) fun p2 c2=>?_;refine H.Az rfl rfl rfl rfl (.there _ (.there _ (.there _ (.here _ _ _)))) (.here _ _ _) ?_;refine qdx ?_;repeat ((first | (apply H.nil) | (apply H.Bo)))
    refine H.endRound ⟨p2,c2,rfl,rfl,?_⟩;rw [List.length_append,List.flatMap_append];rfl
   ·rintro v g B ⟨p2,c2,rfl,rfl,rfl⟩;exact ⟨_,⟨rfl,rfl,rfl⟩,acc_in p2 c2⟩
  ·obtain ⟨ks,rfl,rfl,rfl⟩:=hR;exact ⟨_,⟨ks,rfl,rfl⟩,acc_out⟩
 ·show H _ _ _ _ f (acc2 (pts D (.deferred (some []))) sb i.1::row mb 126 [.map (some vb)]::mp vb keyU m::F) _;refine H.ex fun pc=>?_;obtain ⟨p,c⟩:=pc;refine H.imp (open_all [_,_,_] _) ?_;show H _ _ _ _ f (pts D (.deferred (some []))::row sb 90 [.slice p i.1.length c]::slc p i.1.length c 24 1 (i.1.flatMap uV)::_::_::F) _;refine gM ?_;refine H.pd (x:=row sb _ _) ?_;exact H.retMk rfl rfl rfl (.here _ _) (fun _ h=>h) ⟨i.1,p,c,i.2,rfl,rfl,rfl⟩
theorem collect_fn (hnd:(m.map (·.1)).Nodup) (hm:m.length ≤ 1000000) :
  Fn Tryz.prog 116 [.func (.func 117) #[] #[.pointer (some ⟨mb,0,none⟩)]] f (row mb 126 [.map (some vb)]::mp vb keyU m::F) (ColP f F mb vb m):=by
 refine Fn.e1 Tryz.func116 Tryz.ntmps116 fun base=>?_;refine gL ?_;refine H.Al rfl rfl rfl (appendSeq_fn f F hnd hm) fun v f' A' hR=>?_;obtain ⟨ks,p,c,hp,rfl,hff,rfl⟩:=hR;rw [hff];refine gZ ?_;exact H.r1 ⟨ks,p,c,hp,rfl,rfl,rfl⟩
def SdP (f:Frag) (F:List HP) (mb vb:Nat) (m:List (Int × Value)) (zs:List Int):Value→Frag→List HP→Prop:=fun v f' A'=>∃ (p:Option Addr) (c:Nat),v = .slice p zs.length c ∧ f' = f ∧ A' = slc p zs.length c 24 1 (zs.flatMap uV)::row mb 126 [.map (some vb)]::mp vb keyU m::F
theorem sorted_fn {zs:List Int} (hz:(m.map (·.1)).Perm zs) (hr:zs.Pairwise (· < ·)) (hm:m.length ≤ 255) :
  Fn Tryz.prog 74 [.func (.func 117) #[] #[.pointer (some ⟨mb,0,none⟩)]] f (row mb 126 [.map (some vb)]::mp vb keyU m::F) (SdP f F mb vb m zs):=by
 have hnd:(m.map (·.1)).Nodup:=hz.nodup_iff.2 (hr.imp fun h=>by omega);refine Fn.e1 Tryz.func74 Tryz.ntmps74 fun base=>?_
 refine gL ?_;refine H.Al rfl rfl rfl (collect_fn f F hnd (by omega)) fun v f' A' hR=>?_;obtain ⟨ks,p,c,hp,rfl,hff,rfl⟩:=hR;rw [hff];have hkl:ks.length ≤ 255:=by rw [hp.length_eq,List.length_map];exact hm
 refine gL ?_;refine H.Al rfl rfl rfl (sortU_fn f _ (p:=p) (c:=c) (xs:=ks) rfl hkl) fun v f' A' hR=>?_;obtain ⟨ys,h1,h2,rfl,hff,rfl⟩:=hR;rw [hff];have e:ys = zs:=sorted_eq (h1.trans (hp.trans hz)) hr h2;have hl:ks.length = zs.length:=by rw [hp.length_eq,hz.length_eq]
 subst e;rw [hl];refine gZ ?_;exact H.r1 ⟨p,c,rfl,rfl,rfl⟩
def viewsU (l:Lgs):List Int:=l.vs.map Vw.v
def ViewsP (f:Frag) (A:List HP) (l:Lgs):Value→Frag→List HP→Prop:=fun v f' A'=>∃ (p:Option Addr) (c:Nat),v = .slice p (viewsU l).length c ∧ f' = f ∧ A' = slc p (viewsU l).length c 24 1 ((viewsU l).flatMap uV)::A
theorem plviews_fn (hL:LI l T) (hT:T ≤ 254) :
  Fn Tryz.prog 38 [.pointer (some ⟨lb,0,none⟩)] f (plogH fl lb l::F) (ViewsP f (plogH fl lb l::F) l):=by
 refine Fn.unpack fun i hi=>?_;have hvs:=hi.vs;have hvl:=hL.vl
 obtain ⟨V,vb,pp,pc,cp,cc,pb,cs⟩:=i;have hvs:(V.map PV.w).Perm l.vs:=hvs;have hVl:=perm_len hvs
 have hz:((V.map PV.ent).map (·.1)).Perm (viewsU l):=by
  have:=hvs.map Vw.v;rw [List.map_map] at this ⊢
  exact this
 refine qcY ?_;refine Fn.e1 Tryz.func38 Tryz.ntmps38 fun base=>?_;refine gP ?_;refine H.callE rfl rfl rfl (keys_fn f _) fun mb=>?_;skip;refine H.pf (x:=mp vb _ _) ?_;refine qds ?_;refine H.Al rfl rfl rfl (sorted_fn f _ hz hL.rise (by rw [List.length_map];omega)) fun v f' A' hR=>?_;obtain ⟨p2,c2,rfl,hff,rfl⟩:=hR;rw [hff];refine qgT ?_;refine qho ?_;exact H.r1 ⟨p2,c2,rfl,rfl,rfl⟩
end
section
variable (f:Frag) (F:List HP)
end
theorem rd_uV {e:Frag} {A':List HP} {b:Nat} {K:List Int} (h:At A (slc (some ⟨b,0,none⟩) n c 24 1 (K.flatMap uV)) A' (slc (some ⟨b,0,none⟩) n c 24 1 (K.flatMap uV))) {k:Nat} {x:Int} (hg:K[k]? = some x):Rd1 e A b (0 + k * 1) (.int .u64 x):=by
 rw [Nat.zero_add];exact Rd1.of (i:=0) (Rd.slcElem uV_len (by decide) h hg) rfl
section
variable (f:Frag) (F:List HP)
end
def lastCh (l:Lgs) (o:Nat):Int × Int:=(l.ch o).getLast?.getD (0,0)
variable {o:Nat} {r:Int}
section
variable (f:Frag) (F:List HP)
theorem plgreat_fn (hfl:Le fl f) (hn:l.n ≤ 11) (ho:o < l.n) (hr:r = ((o + 1:Nat):Int)) :
  Fn Tryz.prog 22 [.pointer (some ⟨lb,0,none⟩),.int .i64 r] f (plogH fl lb l::F) (Ret (.int .u64 (l.past o).g) f (plogH fl lb l::F)):=by
 refine Fn.unpack fun i hi=>?_;have hpa:=fun G=>plpast_fn f G hfl (lb:=lb) hi hn ho hr;obtain ⟨V,vb,pp,pc,cp,cc,pb,cs⟩:=i
 have hvo:=fun G=>greatest_fn f G (pb o) (l.past o);refine qcY ?_
 refine Fn.e2 Tryz.func22 Tryz.ntmps22 fun base=>?_;refine gL ?_;refine H.cr (hpa _) ?_;skip;refine qeB ?_;refine H.Bt ho ?_;refine H.cr (hvo _) ?_;refine H.Cd (g:=fun r=>pastH (pb r) (l.past r)) ho ?_;refine gZ ?_;refine qeK ?_;exact qbo
theorem plholdsO_fn (hL:LI l T) {c t:Int} :
  Fn Tryz.prog 25 [.pointer (some ⟨lb,0,none⟩),.int .u64 v,.int .i64 c,.int .u64 t] f (plogH fl lb l::F) (Ret (.bool (holdsB (allO (l.vw v)) c t)) f (plogH fl lb l::F)):=by
 cases hv:l.vw v with
 | some w =>
  cases hat:vwAt l.vs v with
  | none=>rw [vw_none.2 hat] at hv;cases hv
  | some i =>
   have hw:l.vs[i]? = some w:=by unfold Lgs.vw at hv;rw [hat] at hv;exact hv
   exact plholds_fn f F hL hat hw
 | none =>
  have hat:=vw_none.1 hv;refine Fn.unpack fun i hi=>?_
  have hvs:=hi.vs;obtain ⟨V,vb,pp,pc,cp,cc,pb,cs⟩:=i
  have hvs:(V.map PV.w).Perm l.vs:=hvs;have hget:(getKV (V.map PV.ent) v).getD (.pointer none) = .pointer none:=by rw [view_none hvs hat];rfl
  refine qcY ?_;refine Fn.e4 Tryz.func25 Tryz.ntmps25 fun base=>?_;refine gP ?_;refine qeu ?_;refine gg ?_;exact qbo
theorem plchg_fn (hfl:Le fl f) (hL:LI l T) (hT:T ≤ 50000) (ho:o < l.n) (hr:r = ((o + 1:Nat):Int)) :
  Fn Tryz.prog 126 [.pointer (some ⟨lb,0,none⟩),.int .i64 r] f (plogH fl lb l::F) (Ret (.tuple #[.int .u64 (lastCh l o).1,.int .u64 (lastCh l o).2]) f (plogH fl lb l::F)):=by
 refine Fn.unpack fun i hi=>?_;have hn:=hL.n3;have hcl:=hL.cl o
 have hpa:=fun G=>plpast_fn f G hfl (lb:=lb) hi (by omega) ho hr;obtain ⟨V,vb,pp,pc,cp,cc,pb,cs⟩:=i
 have hrz:r - 1 = (o:Nat):=by omega
 refine qcY ?_;refine Fn.e2 Tryz.func126 Tryz.ntmps126 fun base=>?_;refine gL ?_;refine H.cr (hpa _) ?_;refine qfA fun cb hcb=>?_;subst hcb;by_cases h0:(l.ch o).length = 0
 ·have hlast:lastCh l o = (0,0):=by unfold lastCh;rw [List.eq_nil_of_length_eq_zero h0];rfl
  have hrow:(chRow l cs)[o]? = some (.slice (cs o).1 (l.ch o).length (cs o).2):=rngV_get _ ho;rw [hlast]
  refine qfL ?_;refine qhl ?_;exact qaZ
 ·obtain ⟨y,hy⟩:∃ y,(l.ch o)[(l.ch o).length - 1]? = some y:=⟨_,List.getElem?_eq_getElem (by omega)⟩;have hlast:lastCh l o = y:=by unfold lastCh;rw [List.getLast?_eq_getElem?,hy];rfl
  rw [hlast];refine qhl ?_;refine H.Bt ho ?_;refine H.Ay (p:=(cs o).1) (n0:=(l.ch o).length) (c:=(cs o).2) (T:=237) (sz:=2) (xs:=(l.ch o).flatMap chV) (.here _ _ _) (by omega) fun sb hp=>?_;have hrow:(chRow l cs)[o]? = some (.slice (some ⟨sb,0,none⟩) (l.ch o).length (cs o).2):=by rw [← hp];exact rngV_get _ ho
  have hfam:pcFam l cs o = slc (some ⟨sb,0,none⟩) (l.ch o).length (cs o).2 237 2 ((l.ch o).flatMap chV):=by rw [← hp];rfl
  rw [hfam];refine qfL ?_;refine qfg ?_;refine H.db (S:=[_,_,_]) rfl ?_;refine HB.qu [0,1,2,3,4,5,6,7,8,9,10,11,12,13,14,15,16,17,18,19] 2 ?_;refine qfZ ?_;refine qfZ ?_;refine gW ?_;refine HQ.Ak (i:=(l.ch o).length - 1) rfl rfl rfl (by omega) (by omega) rfl ?_;refine HQ.Ae (ls:=chV y) rfl rfl rfl (by rw [Nat.zero_add];exact Rd.slcElem (vals:=chV) (xs:=l.ch o) chV_len (by decide) (.there _ (.there _ (.here _ _ _))) hy) rfl rfl ?_;refine qdg ?_;refine HB.ev 20 ?_;refine H.Ah (ls:=chV (0,0)) rfl rfl rfl fun xb=>?_;refine gA ?_;refine qfg ?_;refine qdT ?_;refine HB.ev 21 ?_;refine H.Af (ls:=chV (0,0)) (vs:=chV y) (ls':=chV y) rfl rfl rfl (zaa rfl) rfl rfl (Nat.le_refl 2) (by repeat constructor) ?_;refine gA ?_;refine qfg ?_;refine qdT ?_;refine HB.dn ?_;refine gA ?_;refine qdr ?_;refine H.dq ?_;refine gc ?_;refine qfk ?_;refine H.pf (x:=slc (some ⟨sb,0,none⟩) _ _ _ 2 _) ?_;rw [← hfam];refine H.pf (x:=fam (updF (pcFam l cs) o emp) _) ?_;refine H.pf (x:=pcFam l cs o) ?_;refine H.Cd ho ?_;exact qaZ
end
theorem find_at {α:Type} {p:α→Bool}:∀ {l:List α} {j:Nat} {x:α},l[j]? = some x→p x = true→(∀ (i:Nat) y,i < j→l[i]? = some y→p y = false)→l.find? p = some x
 | [],j,x,h,_,_=>by simp at h
 | a::l,0,x,h,hp,_=>by cases h;rw [List.find?_cons,hp]
 | a :: l, j + 1, x, h, hp, hb => by
  rw [List.find?_cons,hb 0 a (by omega) rfl]
  exact find_at (j:=j) h hp fun i y hi hy=>hb (i + 1) y (by omega) hy
theorem find_no {p:α→Bool} {l:List α} (h:∀ (i:Nat) y,l[i]? = some y→p y = false):l.find? p = none:=by
 rw [List.find?_eq_none];intro x hx e;obtain ⟨j,hj⟩:=List.getElem?_of_mem hx;rw [h j x hj] at e;cases e
def primB (n o:Nat) (v:Int):Bool:=decide (primI n v = o)
def chgQ (l:Lgs) (v:Int):Nat→List (Int × Int)
 | 0=>[]
 | r + 1=>if (chgQ l v r).length ≤ l.n / 2 then (if 0 < (lastCh l r).2 ∧ (lastCh l r).1 = v then chgQ l v r ++ [(((r + 1:Nat):Int),(lastCh l r).2)] else chgQ l v r) else chgQ l v r
theorem chgQ_yes {r:Nat} (h:(chgQ l v r).length ≤ l.n / 2) (h2:0 < (lastCh l r).2) (h3:(lastCh l r).1 = v):chgQ l v (r + 1) = chgQ l v r ++ [(((r + 1:Nat):Int),(lastCh l r).2)]:=by
 show (if _ then _ else _) = _;rw [if_pos h,if_pos ⟨h2,h3⟩]
theorem chgQ_no {r:Nat} (h:¬ (0 < (lastCh l r).2 ∧ (lastCh l r).1 = v)):chgQ l v (r + 1) = chgQ l v r:=by
 show (if _ then (if _ then _ else _) else _) = _;rw [if_neg h];split <;> rfl
theorem chgQ_stop {l:Lgs} {v:Int} {r:Nat} (h:¬ (chgQ l v r).length ≤ l.n / 2):∀ m,r ≤ m→chgQ l v m = chgQ l v r
 | 0,hm=>by rw [Nat.le_zero.1 hm]
 | m + 1, hm => by
  by_cases e:r = m + 1
  ·rw [e]
  ·have ih:=chgQ_stop h m (by omega)
   show (if _ then _ else _) = _
   rw [ih,if_neg h]
theorem chgQ_half (l:Lgs) (v:Int):∀ r,(chgQ l v r).length ≤ l.n / 2 + 1
 | 0=>Nat.zero_le _
 | r + 1 => by
  have:=chgQ_half l v r
  show (if _ then (if _ then _ else _) else _:List (Int × Int)).length ≤ _
  split
  ·split
   ·rw [List.length_append];show _ + 1 ≤ _;omega
   ·omega
  ·omega
def entV (n o:Nat) (g:Int) (vt:Int→Bool):List Int→Option Int
 | []=>none
 | v::r=>if v < g then none else if v = 0 then none else if vt v = true then none else if primB n o v = true then entV n o g vt r else some v
def dyG (l:Lgs) (o:Nat):Int:=(l.past o).g
def dyV (l:Lgs) (o:Nat) (v:Int):Option Int:=PM.voted (l.past o).all v
def dyN (l:Lgs) (o:Nat):Bool:=(dyV l o (dyG l o)).isSome
def dyE (l:Lgs) (o:Nat):Option Int:=entV l.n o (dyG l o) (fun v=>(dyV l o v).isSome) (viewsU l).reverse
def dyA (l:Lgs) (o:Nat):List Req:=allO (l.vw (dyG l o))
def dyP (l:Lgs) (o:Nat) (r:Req):Bool:=r.auth && !holdsB (dyA l o) r.client r.time
def sayZ:Bod × Bool:=(Bod.zero 0,false)
def sayC (l:Lgs) (o:Nat) (wish:Int):Bod × Bool:=(bodW 3 wish 0,decide (dyG l o < wish) && decide (wish < 1073741824))
def sayN (l:Lgs) (o:Nat):Bod × Bool:=(⟨4,dyG l o,0,Req.zero,chgQ l (dyG l o) l.n,noTag⟩,!dyN l o && (primB l.n o (dyG l o) && decide (((l.n / 2:Nat):Int) < ((chgQ l (dyG l o) l.n).length:Int))))
def sayE (l:Lgs) (o:Nat):Bod × Bool:=match dyE l o with
 | none=>sayZ
 | some v=>(bodW 5 v 0,true)
def sayP (l:Lgs) (o:Nat) (pend:List Req):Bod × Bool:=if dyN l o && primB l.n o (dyG l o) then (match pend.find? (dyP l o) with
 | none=>sayZ
 | some r=>(⟨1,dyG l o,0,r,[],noTag⟩,true)) else sayZ
def sayK (l:Lgs) (o:Nat):Bod × Bool:=(bodW 2 (dyG l o) ((dyV l o (dyG l o)).getD 0 + 1),dyN l o && (!primB l.n o (dyG l o) && decide ((dyV l o (dyG l o)).getD 0 < ((dyA l o).length:Int))))
def orS (a b:Bod × Bool):Bod × Bool:=if a.2 = true then a else b
def sayX (l:Lgs) (o:Nat) (pend:List Req) (wish:Int):Bod × Bool:=orS (sayC l o wish) (orS (sayN l o) (orS (sayE l o) (orS (sayP l o pend) (orS (sayK l o) sayZ))))
def ChVs (l:Lgs) (m:Msg) (l':Lgs):Prop:=
 (∀ r c,c ∈ l'.ch r→c ∈ l.ch r ∨ (r = orgI m ∧ c.2 = m.number)) ∧
 (∀ w,w ∈ l'.vs→(∃ w0,w0 ∈ l.vs ∧ w0.v = w.v ∧ w0.num = w.num ∧ ∀ p,p ∈ w.p→p ∈ w0.p ∨ (p.1 = m.number ∧ primZ l.n w.v = m.origin)) ∨ (w.num = m.number ∧ w.p = [] ∧ primZ l.n w.v = m.origin))
theorem ChVs.same (l:Lgs) (m:Msg) {l':Lgs} (hc:l'.ch = l.ch) (hv:l'.vs = l.vs):ChVs l m l':=
 ⟨fun r c h=>.inl (by rw [hc] at h;exact h),fun w h=>.inl ⟨w,by rw [hv] at h;exact h,rfl,rfl,fun p hp=>.inl hp⟩⟩
theorem counts_chvs (l:Lgs) (m:Msg):ChVs l m (l.counts m).2:=by
 unfold Lgs.counts;simp only;by_cases h3:m.body.kind = 3
 ·rw [if_pos h3];split
  ·refine ⟨fun r c hc=>?_,fun w hw=>.inl ⟨w,hw,rfl,rfl,fun p hp=>.inl hp⟩⟩;have hc:c ∈ updF l.ch (orgI m) (l.ch (orgI m) ++ [(m.body.view,m.number)]) r:=hc;by_cases e:r = orgI m
   ·subst e;rw [zae] at hc;rcases List.mem_append.1 hc with h | h
    ·exact .inl h
    ·rw [List.mem_singleton.1 h];exact .inr ⟨rfl,rfl⟩
   ·rw [zaq _ _ e] at hc;exact .inl hc
  ·exact .same l m rfl rfl
 ·rw [if_neg h3];by_cases h4 : m.body.kind = 4
  ·rw [if_pos h4];split
   ·rename_i hp
    unfold Lgs.begins;split
    ·exact .same l m rfl rfl
    ·split
     ·exact .same l m rfl rfl
     ·split
      ·exact .same l m rfl rfl
      ·refine ⟨fun r c hc=>.inl hc,fun w hw=>?_⟩;rcases List.mem_cons.1 ((zbq _ _).mem_iff.2 hw) with h | h
       ·subst h;exact .inr ⟨rfl,rfl,of_decide_eq_true hp⟩
       ·exact .inl ⟨w,h,rfl,rfl,fun p hp=>.inl hp⟩
   ·exact .same l m rfl rfl
  ·rw [if_neg h4];by_cases h5 : m.body.kind = 5
   ·rw [if_pos h5];exact qbL
   ·rw [if_neg h5];by_cases h1 : m.body.kind = 1
    ·rw [if_pos h1];split
     ·exact .same l m rfl rfl
     ·rename_i i hi
      split
      ·exact .same l m rfl rfl
      ·rename_i w0 hw0
       split
       ·exact .same l m rfl rfl
       ·rename_i hno
        refine ⟨fun r c hc=>.inl hc,fun w hw=>.inl ?_⟩;have hw:w ∈ l.vs.set i { w0 with p:=w0.p ++ [(m.number,m.body.req)] }:=hw;rcases List.mem_or_eq_of_mem_set hw with h | h
        ·exact ⟨w,h,rfl,rfl,fun p hp=>.inl hp⟩
        ·subst h;refine ⟨w0,List.mem_of_getElem? hw0,rfl,rfl,fun p hp=>?_⟩;rcases List.mem_append.1 hp with h | h
         ·exact .inl h
         ·rw [List.mem_singleton.1 h];refine .inr ⟨rfl,?_⟩;obtain ⟨⟨w1,e1,e2⟩,_⟩:=zaw.1 hi;rw [hw0] at e1;cases e1;show primZ l.n w0.v = m.origin;rw [e2];by_cases hq:primZ l.n m.body.view = m.origin
          ·exact hq
          ·exact absurd (.inl (decide_eq_false hq)) hno
    ·rw [if_neg h1];by_cases h2:m.body.kind = 2
     ·rw [if_pos h2];exact qbL
     ·rw [if_neg h2];exact .same l m rfl rfl
structure KI (l:Lgs):Prop where
 ch:∀ r c,c ∈ l.ch r→0 < c.2 ∧ c.2 ≤ l.known r
 vw:∀ w,w ∈ l.vs→w.num ≤ l.known (primI l.n w.v)
 pr:∀ w,w ∈ l.vs→∀ p,p ∈ w.p→p.1 ≤ l.known (primI l.n w.v)
theorem KI.new (n:Nat):KI (Lgs.new n):=by
 refine ⟨fun r c h=>(by cases h),fun w h=>?_,fun w h p hp=>?_⟩
 ·rw [List.mem_singleton.1 h];exact Int.le_refl 0
 ·rw [List.mem_singleton.1 h] at hp;cases hp
theorem KI.take {l:Lgs} (h:KI l) (h0:∀ r,0 ≤ l.known r) (m:Msg):KI (l.take m).2:=by
 unfold Lgs.take;split
 ·exact h
 ·split
  ·exact h
  ·rename_i hno
   have hnum:m.number = l.known (orgI m) + 1:=by
    by_cases e:m.number = l.known (orgI m) + 1
    ·exact e
    ·exact absurd (.inl e) hno
   obtain ⟨hn,hk⟩:=Lgs.counts_nk l m;obtain ⟨c1,c2⟩:=counts_chvs l m;have hself:updF (l.counts m).2.known (orgI m) ((l.counts m).2.known (orgI m) + 1) (orgI m) = m.number:=by rw [zae,hk,hnum]
   have hup:∀ r,l.known r ≤ updF (l.counts m).2.known (orgI m) ((l.counts m).2.known (orgI m) + 1) r:=fun r=>by
    by_cases e:r = orgI m
    ·rw [e,hself];omega
    ·rw [zaq _ _ e,hk];exact Int.le_refl _
   have hpri:∀ v,primZ l.n v = m.origin→primI l.n v = orgI m:=fun v e=>by
    unfold primZ at e;unfold orgI;omega
   refine ⟨fun r c hc=>?_,fun w hw=>?_,fun w hw p hp=>?_⟩
   ·rcases c1 r c hc with h1 | ⟨rfl,h1⟩
    ·have:=h.ch r c h1;have:=hup r;exact ⟨by omega,by show _ ≤ updF _ _ _ _;omega⟩
    ·have:=h0 (orgI m);exact ⟨by omega,by show _ ≤ updF _ _ _ _;rw [hself];omega⟩
   ·show w.num ≤ updF _ _ _ (primI (l.counts m).2.n w.v);rw [hn];rcases c2 w hw with ⟨w0,h1,h2,h3,_⟩ | ⟨h1,_,h3⟩
    ·have:=h.vw w0 h1;rw [h2,h3] at this;exact Int.le_trans this (hup _)
    ·rw [hpri _ h3,hself,h1];exact Int.le_refl _
   ·show p.1 ≤ updF _ _ _ (primI (l.counts m).2.n w.v);rw [hn];rcases c2 w hw with ⟨w0,h1,h2,h3,h4⟩ | ⟨_,h2,_⟩
    ·rcases h4 p hp with h5 | ⟨h5,h6⟩
     ·have:=h.pr w0 h1 p h5;rw [h2] at this;exact Int.le_trans this (hup _)
     ·rw [hpri _ h6,hself,h5];exact Int.le_refl _
    ·rw [h2] at hp;cases hp
theorem lgsOf_KI (h3:3 ≤ n) (h11:n ≤ 11):∀ l:List Msg,(∀ m ∈ l,0 ≤ m.body.view)→KI (lgsOf n l):=fun l=>by
 refine snocInd (p:=fun l:List Msg=>(∀ m ∈ l,0 ≤ m.body.view)→KI (lgsOf n l)) (fun _=>KI.new n) (fun l m ih h=>?_) l
 rw [lgsOf_snoc]
 have hl:=lgsOf_LI h3 h11 l fun x hx=>h x (List.mem_append_left _ hx)
 exact (ih fun x hx=>h x (List.mem_append_left _ hx)).take (fun r=>(hl.kn r).1) m
def lkC (lb n o:Nat) (pp:Option Addr) (pl pc:Nat) (wish g:Int) (en:Bool) (vo:Int):List Value:=[.pointer (some ⟨lb,0,none⟩),.int .i64 (n:Int),.int .i64 ((o + 1:Nat):Int),.slice pp pl pc,.int .u64 wish,.int .u64 g,.bool en,.int .i64 vo]
def NxP (f:Frag) (A:List HP) (r:Bod × Bool):Value→Frag→List HP→Prop:=fun v f' A'=>∃ (g:Frag) (p:Option Addr) (c:Nat),Dj f g ∧ v = .tuple #[.agg (r.1.vals p c).toArray,.bool r.2] ∧ QAt (un f g) p r.1.q ∧ f' = un f g ∧ A' = A
variable {xb pl pc:Nat} {pp:Option Addr} {wish:Int}
section
variable (f:Frag) (F:List HP)
theorem dfew_fn (hn3:3 ≤ n ∧ n ≤ 11) (hodd:n % 2 = 1) (ho:o < n):Fn Tryz.prog 47 [.pointer (some ⟨lb,0,none⟩),.int .i64 (n:Int),.int .i64 ((o + 1:Nat):Int)] f F (Ret (.bool true) f F):=by
 refine Fn.e3 Tryz.func47 Tryz.ntmps47 fun base=>?_;refine gg ?_;refine H.rem (z:=1) rfl rfl rfl (by decide) (zat (a:=n) (b:=2) hodd) rfl ?_;refine gg ?_;exact H.Ad rfl rfl (fun _ h=>h) ⟨by rw [decide_eq_true (by omega)],rfl,rfl⟩
theorem dprim_fn (hn:1 ≤ l.n ∧ l.n ≤ 11) (hv:0 ≤ v) (ho:o < l.n) :
  Fn Tryz.prog 127 [.pointer (some ⟨xb,0,none⟩),.int .u64 v] f (row xb 120 (lkC lb l.n o pp pl pc wish (dyG l o) (dyN l o) ((dyV l o (dyG l o)).getD 0))::F) (Ret (.bool (primB l.n o v)) f (row xb 120 (lkC lb l.n o pp pl pc wish (dyG l o) (dyN l o) ((dyV l o (dyG l o)).getD 0))::F)):=by
 have e:v.tmod (l.n:Int) = ((primI l.n v:Nat):Int):=by
  have h1:v % (l.n:Int) < l.n:=Int.emod_lt_of_pos v (by omega);have h2:0 ≤ v % (l.n:Int):=Int.emod_nonneg v (by omega)
  exact qcI
 have hl:primI l.n v < 11:=by
  have h1:v % (l.n:Int) < l.n:=Int.emod_lt_of_pos v (by omega);unfold primI;omega
 refine Fn.e2 Tryz.func127 Tryz.ntmps127 fun base=>?_;refine gL ?_;refine H.dq ?_;refine gD ?_;refine HQ.rem (z:=((primI l.n v:Nat):Int)) rfl rfl rfl (by omega) e rfl ?_;refine gc ?_;refine gZ ?_;refine H.Ad rfl rfl (fun _ h=>h) ⟨?_,rfl,rfl⟩;unfold primB;congr 1;exact decide_eq_decide.2 (by omega)
theorem dchange_fn:Fn Tryz.prog 85 [.pointer (some ⟨xb,0,none⟩)] f (row xb 120 (lkC lb l.n o pp pl pc wish (dyG l o) (dyN l o) ((dyV l o (dyG l o)).getD 0))::F) (NxP f (row xb 120 (lkC lb l.n o pp pl pc wish (dyG l o) (dyN l o) ((dyV l o (dyG l o)).getD 0))::F) (sayC l o wish)):=by
 unfold sayC;generalize dyG l o = g;by_cases h1:g < wish
 ·rw [decide_eq_true h1];exact qaq
 ·rw [decide_eq_false h1];exact qaq
theorem dnew_fn (hfl:Le fl f) (hL:LI l T) (hT:T ≤ 50000) (ho:o < l.n) :
  Fn Tryz.prog 86 [.pointer (some ⟨xb,0,none⟩)] f (row xb 120 (lkC lb l.n o pp pl pc wish (dyG l o) (dyN l o) ((dyV l o (dyG l o)).getD 0))::plogH fl lb l::F) (NxP f (row xb 120 (lkC lb l.n o pp pl pc wish (dyG l o) (dyN l o) ((dyV l o (dyG l o)).getD 0))::plogH fl lb l::F) (sayN l o)):=by
 have hn:=hL.n3;have hch:=fun G r (hr:r < l.n)=>plchg_fn f G hfl (lb:=lb) hL hT (o:=r) hr (r:=((r + 1:Nat):Int)) rfl
 have hpr:=fun e G=>dprim_fn e G (xb:=xb) (lb:=lb) (o:=o) (l:=l) (pp:=pp) (pl:=pl) (pc:=pc) (wish:=wish) (by omega) (v:=dyG l o) (hL.wf o ho).g0 ho;unfold sayN
 generalize dyG l o = g at *;generalize dyN l o = en at *;generalize (dyV l o g).getD 0 = vo at *;have hhalf:∀ r,(chgQ l g r).length ≤ 6:=fun r=>by have:=chgQ_half l g r;omega
 refine Fn.e1 Tryz.func86 Tryz.ntmps86 fun base=>?_;refine gA ?_;refine qdf fun ob=>?_;refine gZ ?_;refine H.slc0 133 2 ?_;refine qdO ?_;refine qfq ?_;refine qdr ?_;refine H.pf (x:=slc none 0 0 _ _ _) ?_
 refine H.lo (ι:=Nat × Option Addr × Nat) (fun s=>[(5,.int .i64 ((s.1 + 1:Nat):Int)),(4,.slice s.2.1 (chgQ l g s.1).length s.2.2),(3,.bool false),(2,.pointer (some ⟨ob,0,none⟩)),(0,.pointer (some ⟨xb,0,none⟩))]) (fun _=>f)
  (fun s=>slc s.2.1 (chgQ l g s.1).length s.2.2 133 2 ((chgQ l g s.1).flatMap pairV)::row xb 120 (lkC lb l.n o pp pl pc wish g en vo)::row ob 47 ((Bod.zero 0).vals none 0)::plogH fl lb l::F) (fun s=>s.1 ≤ l.n) (fun s=>l.n - s.1)
  (0,none,0) (Nat.zero_le _) fun s hs=>?_
 obtain ⟨r,qp,qc⟩:=s;have hr:r ≤ l.n:=hs;show H _ _ _ [(5,.int .i64 ((r + 1:Nat):Int)),(4,.slice qp (chgQ l g r).length qc),_,_,_] f (slc qp (chgQ l g r).length qc _ 2 ((chgQ l g r).flatMap pairV)::_::_::_::F) _
 have hql:=hhalf r;by_cases hgo:r < l.n ∧ (chgQ l g r).length ≤ l.n / 2
 ·obtain ⟨hrn,hq2⟩:=hgo;have h1:=fun G=>hch G r hrn;have hyes:=chgQ_yes (l:=l) (v:=g) (r:=r) hq2
  have hno:=chgQ_no (l:=l) (v:=g) (r:=r);generalize lastCh l r = lc at h1 hyes hno
  refine gg ?_;refine qfa ?_;refine gN ?_;refine qdO ?_;refine H.cr (h1 _) ?_;by_cases h2:0 < lc.2
  ·by_cases h3:lc.1 = g
   ·have hyes:=hyes h2 h3;refine gY ?_
    refine H.Ar (out:=pairV (((r + 1:Nat):Int),lc.2)) rfl rfl rfl rfl (by decide) (by decide) rfl rfl fun eb=>?_;refine H.Av (sz:=2) (p:=qp) (n0:=(chgQ l g r).length) (c:=qc) (xs:=(chgQ l g r).flatMap pairV) (m:=1) (news:=pairV (((r + 1:Nat):Int),lc.2)) rfl rfl rfl rfl rfl (fun p' c'=>(by repeat constructor)) (Src.slice (Rd.ofRow (by repeat constructor)) rfl) (zaa rfl) rfl (by omega) (by omega) fun p2 c2=>?_;refine gX ?_;refine qgq ?_;refine qfq ?_;refine qdr ?_;refine H.pf (x:=slc p2 _ c2 _ _ _) ?_;have hlen:(chgQ l g (r + 1)).length = (chgQ l g r).length + 1:=by rw [hyes,List.length_append];rfl
    refine H.Ax (r + 1,p2,c2) (by show r + 1 ≤ l.n;omega) (by show l.n - (r + 1) < l.n - r;omega) ⟨rfl,by show _ = some (Value.slice p2 (chgQ l g (r + 1)).length c2);rw [hlen];rfl,rfl,rfl,rfl,trivial⟩ rfl ?_;show _ = slc p2 (chgQ l g (r + 1)).length c2 _ 2 ((chgQ l g (r + 1)).flatMap pairV)::_;rw [hlen,hyes,List.flatMap_append];rfl
   ·have hno:=hno fun h=>h3 h.2;refine gY ?_
    exact qaO
  ·have hno:=hno fun h=>h2 h.1;refine gQ ?_
   exact qaO
 ·have hQe:chgQ l g l.n = chgQ l g r:=by
   by_cases e:r = l.n
   ·rw [e]
   ·exact chgQ_stop (fun h=>hgo ⟨by omega,h⟩) _ hr
  rw [hQe];obtain ⟨Q,hQ⟩:∃ Q,Q = chgQ l g r:=⟨_,rfl⟩;rw [← hQ] at hgo hql ⊢;clear hQe hQ hch hhalf;refine (fun (tail:True→?T)=>?main) ?pf
  case main =>
   by_cases hrn:r < l.n
   ·have hq2:¬ Q.length ≤ l.n / 2:=fun h=>hgo ⟨hrn,h⟩;refine gg ?_
    refine qfa ?_;refine gY ?_;exact qbf
   ·skip;refine gQ ?_;exact qbf
  case pf =>
   intro _;clear hgo;show H _ _ _ _ _ (qs qp qc Q::_) _
   cases en with
   | true =>
    refine H.pf (x:=qs qp qc _) ?_;refine H.Cg (.here _ _) fun gq hgq hdq=>?_;have hqa:=qs_qat hgq hdq;refine qdr ?_
    refine qdC ?_;refine HB.qu [0,1,2,3,4,5,6,7,8,9,10,11,12,13,14,15,16,17,18,19,20,21,22,23,24,25,26,27,28] 2 ?_;refine qha ?_;exact qam
   | false =>
    cases hpv:primB l.n o g with
    | false =>
     rw [hpv] at hpr;refine H.pf (x:=qs qp qc _) ?_;refine H.Cg (.here _ _) fun gq hgq hdq=>?_;have hqa:=qs_qat hgq hdq;refine qen ?_
     refine gU ?_;exact qam
    | true =>
     rw [hpv] at hpr;refine H.pf (x:=qs qp qc _) ?_;refine H.Cg (.here _ _) fun gq hgq hdq=>?_;have hqa:=qs_qat hgq hdq;refine qen ?_
     repeat (first | (refine HQ.quo (z:=((l.n / 2:Nat):Int)) rfl rfl rfl (by decide) (by rw [show (2:Int) = ((2:Nat):Int) from rfl,tdiv64,wr_i64 (by omega)]) rfl ?_) | (refine gi ?_))
     exact qam
end
section
variable (f:Frag) (F:List HP)
theorem dprep_fn (htab:TabAt f) (hL:LI l T) (ho:o < l.n) {pend:List Req} (hp:ListAt f pp 40 Req.vals pend) (hpl:pend.length ≤ 1000000) :
  Fn Tryz.prog 88 [.pointer (some ⟨xb,0,none⟩)] f (row xb 120 (lkC lb l.n o pp pend.length pc wish (dyG l o) (dyN l o) ((dyV l o (dyG l o)).getD 0))::plogH fl lb l::F) (NxP f (row xb 120 (lkC lb l.n o pp pend.length pc wish (dyG l o) (dyN l o) ((dyV l o (dyG l o)).getD 0))::plogH fl lb l::F) (sayP l o pend)):=by
 have hn:=hL.n3;have hpr:=fun e G=>dprim_fn e G (xb:=xb) (lb:=lb) (o:=o) (l:=l) (pp:=pp) (pl:=pend.length) (pc:=pc) (wish:=wish) (by omega) (v:=dyG l o) (hL.wf o ho).g0 ho
 have hhold:=fun G c t=>plholdsO_fn f G (fl:=fl) (lb:=lb) hL (v:=dyG l o) (c:=c) (t:=t);have hdyP:∀ x,dyP l o x = (x.auth && !holdsB (allO (l.vw (dyG l o))) x.client x.time):=fun x=>rfl
 unfold sayP;generalize dyG l o = g at *
 cases hen:dyN l o with
 | false =>
  rw [hen] at hpr;refine Fn.e1 Tryz.func88 Tryz.ntmps88 fun base=>?_;refine gA ?_;refine qdf fun ob=>?_;refine gg ?_;exact qar
 | true =>
  rw [hen] at hpr
  cases hpv:primB l.n o g with
  | false =>
   rw [hpv] at hpr;refine Fn.e1 Tryz.func88 Tryz.ntmps88 fun base=>?_;refine gA ?_;refine qdf fun ob=>?_;refine gT ?_;refine qdr ?_;refine H.cr (hpr _ _) ?_;refine gJ ?_;exact qar
  | true =>
   rw [hpv] at hpr;show Fn _ _ _ _ _ (NxP f _ (match pend.find? (dyP l o) with | none=>sayZ | some r=>(⟨1,g,0,r,[],noTag⟩,true)));refine Fn.e1 Tryz.func88 Tryz.ntmps88 fun base=>?_;refine gA ?_;refine qdf fun ob=>?_;refine gT ?_;refine qdr ?_;refine H.cr (hpr _ _) ?_;clear hpr;generalize (dyV l o g).getD 0 = vo at *;refine gQ ?_
   refine H.lo (ι:=Nat) (fun j=>[(26,.int .i64 (j:Int)),(25,.int .i64 (pend.length:Int)),(24,.slice pp pend.length pc),(3,.bool false),(2,.pointer (some ⟨ob,0,none⟩)),(0,.pointer (some ⟨xb,0,none⟩))]) (fun _=>f)
    (fun _=>row xb 120 (lkC lb l.n o pp pend.length pc wish g true vo)::row ob 47 ((Bod.zero 0).vals none 0)::plogH fl lb l::F) (fun j=>j ≤ pend.length ∧ ∀ i x,i < j→pend[i]? = some x→dyP l o x = false) (fun j=>pend.length - j)
    0 ⟨Nat.zero_le _,fun i x hi=>by omega⟩ fun j hj=>?_
   obtain ⟨hj,hb⟩:j ≤ pend.length ∧ ∀ i x,i < j→pend[i]? = some x→dyP l o x = false:=hj;by_cases hjl:j < pend.length
   ·obtain ⟨x,hx⟩:∃ x,pend[j]? = some x:=⟨_,List.getElem?_eq_getElem hjl⟩;obtain ⟨b,off,cs,Tt,fr,rfl,hfb,hcs⟩:=hp j x hx;have rd:∀ A,Rd f A b (off + j * 40) x.vals:=fun A=>Rd.imm hfb hcs;have hau:=fun G=>auth_fn f G htab x
    have hho:=fun G=>hhold G x.client x.time;have hpx0:=hdyP x
    cases hxa:x.auth with
    | false =>
     rw [hxa] at hau hpx0;have hpx:dyP l o x = false:=hpx0;refine qf fun tb=>?_
     refine qdz ?_;refine HB.qu [2,3,4,5,6,7,8,9,10,11,12,13,14,15,16,17] 0 ?_;exact qaG
    | true =>
     rw [hxa] at hau hpx0;generalize holdsB (allO (l.vw g)) x.client x.time = hv at hho hpx0
     cases hv with
     | true =>
      have hpx:dyP l o x = false:=hpx0;refine qf fun tb=>?_
      refine qeO ?_;exact qaG
     | false =>
      have hpx:dyP l o x = true:=hpx0;rw [find_at hx hpx hb]
      show H _ _ _ _ _ _ _;refine qf fun tb=>?_;refine qeO ?_;refine qdo ?_;refine gE ?_;refine qfY ?_;refine qgr ?_;refine HB.qu [0,1,2,3,4,5] 2 ?_;refine gR ?_;refine qer ?_;refine HQ.Au (t:=47) (out:=(⟨1,g,0,x,[],noTag⟩:Bod).vals none 0) rfl rfl rfl (by kernel_rfl) rfl ?_;skip;refine qdg ?_;refine HB.ev 6 ?_;refine H.Af (ls:=(Bod.zero 0).vals none 0) (vs:=(⟨1,g,0,x,[],noTag⟩:Bod).vals none 0) (ls':=(⟨1,g,0,x,[],noTag⟩:Bod).vals none 0) rfl rfl rfl (zaa rfl) rfl rfl (Nat.le_refl 76) (by repeat constructor) ?_;refine qcX ?_;refine HB.qu [7] 0 ?_;refine qes ?_;refine gZ ?_;refine qgp ?_;refine qdO ?_;refine qdr ?_;refine qfq ?_;exact H.retCT (ls:=(⟨1,g,0,x,[],noTag⟩:Bod).vals none 0) rfl rfl rfl rfl (Rd.ofRow (.here _ _ _)) rfl (fun _ s=>s.drop (.here _ _)) ⟨nil0,none,0,Dj.nil _,rfl,QAt.nil _ _,(un_nil _).symm,rfl⟩
   ·rw [find_no fun i y hy=>hb i y (by have:=(List.getElem?_eq_some_iff.1 hy).1;omega) hy];refine gF ?_;exact qar
theorem dcommit_fn (hL:LI l T) (hT:T ≤ 50000) (ho:o < l.n) :
  Fn Tryz.prog 89 [.pointer (some ⟨xb,0,none⟩)] f (row xb 120 (lkC lb l.n o pp pl pc wish (dyG l o) (dyN l o) ((dyV l o (dyG l o)).getD 0))::plogH fl lb l::F) (NxP f (row xb 120 (lkC lb l.n o pp pl pc wish (dyG l o) (dyN l o) ((dyV l o (dyG l o)).getD 0))::plogH fl lb l::F) (sayK l o)):=by
 have hn:=hL.n3;have hpr:=fun e G=>dprim_fn e G (xb:=xb) (lb:=lb) (o:=o) (l:=l) (pp:=pp) (pl:=pl) (pc:=pc) (wish:=wish) (by omega) (v:=dyG l o) (hL.wf o ho).g0 ho
 have hlog:=fun G=>pllogO_fn f G (fl:=fl) (lb:=lb) hL hT (dyG l o)
 have hvo:0 ≤ (dyV l o (dyG l o)).getD 0 ∧ (dyV l o (dyG l o)).getD 0 ≤ 100000:=by
  cases hv:dyV l o (dyG l o) with
  | none=>exact ⟨Int.le_refl 0,by show (0:Int) ≤ _;omega⟩
  | some k =>
   obtain ⟨i,w,_,hw,_,h1,h2⟩:=hL.voted ho hv
   have:=hL.al w (List.mem_of_getElem? hw);exact ⟨h1,by show k ≤ _;omega⟩
 have hdA:dyA l o = allO (l.vw (dyG l o)):=rfl
 have hRl:(allO (l.vw (dyG l o))).length ≤ 50000:=by
  cases hv:l.vw (dyG l o) with
  | none=>exact Nat.zero_le _
  | some w=>have:=hL.al w (vw_v hv).2;show w.all.length ≤ _;omega
 unfold sayK;rw [hdA];generalize dyG l o = g at *;generalize dyN l o = en at *;generalize (dyV l o g).getD 0 = vo at *;obtain ⟨R,hR⟩:∃ R,R = allO (l.vw g):=⟨_,rfl⟩;rw [← hR] at hRl ⊢;have hw1:IntKind.u64.wrap vo = vo:=wr_u64 (by omega);refine Fn.e1 Tryz.func89 Tryz.ntmps89 fun base=>?_
 refine gA ?_;refine qdf fun ob=>?_;refine gL ?_;refine qdr ?_;refine qdC ?_;refine HB.qu [0,1,2,3,4,5,6,7] 6 ?_;refine qe ?_;refine HB.ev 8 ?_;refine qdO ?_;refine H.cl (hlog _) fun v f' A' hr=>?_;obtain ⟨p3,c3,rfl,hff,rfl⟩:=hr;rw [hff,← hR];clear hff hlog hR;refine gA ?_;refine qdr ?_;refine qdT ?_;refine HB.qu [9,10,11,12,13] 0 ?_;refine qdo ?_;refine gA ?_;refine qdr ?_;refine qdC ?_
 cases en with
 | false =>
  refine HB.qu [0,1,2,3,4,5,6,7,8,9,10,11,12,13,14,15,16,17,18,19,20,21,22,23,24,25,26,27,28,29,30,31,32] 2 ?_;repeat (first | (refine HQ.Au (t:=47) (out:=(bodW 2 g (vo + 1)).vals none 0) rfl rfl rfl (by kernel_rfl) rfl ?_) | (refine gi ?_))
  exact qan
 | true =>
  cases hpv:primB l.n o g with
  | true =>
   rw [hpv] at hpr;refine qeG ?_;refine gU ?_;exact qan
  | false =>
   rw [hpv] at hpr;refine qeG ?_;refine gc ?_;exact qan
end
end Go.Proofs.YtminmjlfmolfeaaGreatDoor
