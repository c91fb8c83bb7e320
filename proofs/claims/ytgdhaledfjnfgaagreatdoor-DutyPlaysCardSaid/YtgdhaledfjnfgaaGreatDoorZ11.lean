/- Parts of the proof, one behind the other, each under its own heading. No conditions. -/
import Derived.Test.YtgdhaledfjnfgaaGreatDoorZ10
import Derived.Test.YtgdhaledfjnfgaaGreatDoorRows
import Derived.Test.YtgdhaledfjnfgaaGreatDoorCards
import Derived.Test.YtgdhaledfjnfgaaGreatDoorTie
set_option linter.unusedSectionVars false
set_option linter.unusedSimpArgs false
set_option linter.unusedVariables false
/- Layer 19: DutyPlays. Condition: the table of the standard stands in the fragment; what is pending is not too long. (Printed by gen_bm.py.) -/
set_option maxHeartbeats 6400000
set_option maxRecDepth 20000
namespace Go.Proofs.YtgdhaledfjnfgaaGreatDoor
open Go
def sayI (l:Lgs) (i:Int) (pend:List Req) (wish:Int):Bod × Bool:=if 1 ≤ i ∧ i ≤ (l.n:Int) then sayX l (i - 1).toNat pend wish else sayZ
theorem orS_q {a b:Bod × Bool} (h1:a.1.q.length ≤ 12) (h2:b.1.q.length ≤ 12):(orS a b).1.q.length ≤ 12:=by unfold orS;split <;> assumption
theorem sayX_q (l:Lgs) (o:Nat) (pend:List Req) (wish:Int) (hn:l.n ≤ 11):(sayX l o pend wish).1.q.length ≤ 12:=by
 refine orS_q (Nat.zero_le _) (orS_q ?_ (orS_q ?_ (orS_q ?_ (orS_q (Nat.zero_le _) (Nat.zero_le _)))))
 ·have:=chgQ_half l (dyG l o) l.n;show (chgQ l (dyG l o) l.n).length ≤ 12
  omega
 ·unfold sayE;split <;> exact Nat.zero_le _
 ·unfold sayP;split
  ·split <;> exact Nat.zero_le _
  ·exact Nat.zero_le _
theorem sayI_q (l:Lgs) (i:Int) (pend:List Req) (wish:Int) (hn:l.n ≤ 11):(sayI l i pend wish).1.q.length ≤ 12:=by
 unfold sayI;split
 ·exact sayX_q _ _ _ _ hn
 ·exact Nat.zero_le _
theorem tail4 {A:Frag→Prop} {B:Frag→Option Addr→Prop} {T:Frag→Option Addr→Nat→Nat→Prop} {G:Prop} (main:(∀ (g:Frag) (p:Option Addr) (c t:Nat),A g→B g p→T g p c t)→G) (pf:∀ (g:Frag) (p:Option Addr) (c t:Nat),A g→B g p→T g p c t):G:=main pf
variable {lb pc T sc:Nat} {p pp sp:Option Addr} {n wish:Int} {l:Lgs} {fl:Frag} {pend:List Req}
section
variable (f:Frag) (F:List HP)
theorem dfew_out {n:Nat} {i:Int} (hn3:3 ≤ n ∧ n ≤ 11) (hodd:n % 2 = 1) (hi:i < 1 ∨ (n:Int) < i):Fn Tryz.prog 65 [.pointer (some ⟨lb,0,none⟩),.int .i64 (n:Int),.int .i64 i] f F (Ret (.bool false) f F):=by
 rcases Decidable.em (i < 1) with h1 | h1
 ·refine Fn.e3 Tryz.func65 Tryz.ntmps65 fun base=>?_;refine qhi ?_;refine gX ?_;exact qao
 ·have h2:(n:Int) < i:=by omega
  refine Fn.e3 Tryz.func65 Tryz.ntmps65 fun base=>?_;refine qhi ?_;refine gY ?_;exact H.Ad rfl rfl (fun _ h=>h) ⟨by rw [decide_eq_false (by omega)],rfl,rfl⟩
theorem dfew_4 {i:Int}:Fn Tryz.prog 65 [.pointer (some ⟨lb,0,none⟩),.int .i64 4,.int .i64 i] f F (Ret (.bool false) f F):=by
 refine Fn.e3 Tryz.func65 Tryz.ntmps65 fun base=>?_;refine gH ?_;refine H.rem (z:=0) rfl rfl rfl (by decide) rfl rfl ?_;refine gX ?_;exact qao
theorem djoin_z {i:Int} (hfw:∀ G,Fn Tryz.prog 65 [.pointer p,.int .i64 n,.int .i64 i] f G (Ret (.bool false) f G)):Fn Tryz.prog 36 [.pointer p,.int .i64 n,.int .i64 i] f F (Ret (.int .u64 0) f F):=by
 refine Fn.e3 Tryz.func36 Tryz.ntmps36 fun base=>?_;refine gM ?_;refine H.cr (hfw _) ?_;refine gZ ?_;exact qao
theorem dnext_z {i:Int} {pl:Nat} (hfw:∀ G,Fn Tryz.prog 65 [.pointer p,.int .i64 n,.int .i64 i] f G (Ret (.bool false) f G)):Fn Tryz.prog 33 [.pointer p,.int .i64 n,.int .i64 i,.slice pp pl pc,.int .u64 wish] f F (NxP f F sayZ):=by
 refine Fn.e5 Tryz.func33 Tryz.ntmps33 fun base=>?_;refine gA ?_;refine qds fun ob=>?_;refine gM ?_;refine H.cr (hfw _) ?_;refine qdI ?_;exact qbW
theorem dnextI_fn (htab:TabAt f) (hfl:Le fl f) (hL:LI l T) (hT:T ≤ 254) (hodd:l.n % 2 = 1) {i:Int} (hp:ListAt f pp 40 Req.vals pend) (hpl:pend.length ≤ 1000000) :
  Fn Tryz.prog 33 [.pointer (some ⟨lb,0,none⟩),.int .i64 (l.n:Int),.int .i64 i,.slice pp pend.length pc,.int .u64 wish] f (plogH fl lb l::F) (NxP f (plogH fl lb l::F) (sayI l i pend wish)):=by
 unfold sayI;by_cases h:1 ≤ i ∧ i ≤ (l.n:Int)
 ·rw [if_pos h];have e:i = (((i - 1).toNat + 1:Nat):Int):=by omega
  have:=dnext_fn f F htab hfl (lb:=lb) (o:=(i - 1).toNat) hL hT hodd (by omega) (pc:=pc) (wish:=wish) hp hpl;rw [← e] at this
  exact this
 ·rw [if_neg h];exact dnext_z f _ fun G=>dfew_out f G hL.n3 hodd (by omega)
theorem rnextI_fn (hL:LI l T) (hT:T ≤ 254) (hodd:l.n % 2 = 1) {i:Int} (hfl:Le fl f) (hp:ListAt f sp 40 Req.vals pend) (hpl:pend.length ≤ 1000000) :
  Fn Tryz.prog 34 [.pointer (some ⟨lb,0,none⟩),.int .i64 i,.slice sp pend.length sc,.int .u64 wish] f (logsH fl lb l::F) (NxP f (logsH fl lb l::F) (sayI l i pend wish)):=by
 unfold sayI;by_cases h:1 ≤ i ∧ i ≤ (l.n:Int)
 ·rw [if_pos h];have e:i = (((i - 1).toNat + 1:Nat):Int):=by omega
  have:=rnext_fn f F (lb:=lb) hL hT hodd (o:=(i - 1).toNat) (by omega) hfl (sc:=sc) (wish:=wish) hp hpl;rw [← e] at this
  exact this
 ·rw [if_neg h];exact rnext_no f F hL (by omega)
theorem joinI {pb:Nat} (hL:LI l T) (hodd:l.n % 2 = 1) {i:Int} {fm:Frag} (hfl:Le fl f) (hfm:Le fm f) {i0:LPt} (hi:lgφ fm l i0):∃ φ:Int→Prop,∃ z0:Int,(∀ z,φ z→z = z0) ∧
  (∀ G,Fn Tryz.prog 36 [.pointer (some ⟨lb,0,none⟩),.int .i64 (l.n:Int),.int .i64 i] f (plogH fl lb l::G) (RetP φ (fun z=>.int .u64 z) f (fun _=>plogH fl lb l::G))) ∧
  (∀ G,Fn Tryz.prog 37 [.pointer (some ⟨pb,0,none⟩),.int .i64 i] f (lgB pb l i0 ++ G) (Ret (.int .u64 z0) f (lgB pb l i0 ++ G))):=by
 by_cases h:1 ≤ i ∧ i ≤ (l.n:Int)
 ·have e:i = (((i - 1).toNat + 1:Nat):Int):=by omega
  refine ⟨JV l (i - 1).toNat,jD l (i - 1).toNat l.n,fun z hz=>(jD_eq hL hz hodd (by omega)).symm,fun G=>?_,fun G=>?_⟩
  ·have:=djoin_fn f G (lb:=lb) (o:=(i - 1).toNat) (l:=l) hfl hL.n3 hodd (by omega);rw [← e] at this
   exact this
  ·have:=rjoinL_fn f G (lb:=pb) (l:=l) hL hodd (o:=(i - 1).toNat) (by omega) hfm hi;rw [← e] at this
   exact this
 ·refine ⟨fun z=>z = 0,0,fun z hz=>hz,fun G=>?_,fun G=>rjoinL_no f G hL.n3 (by omega)⟩;exact Fn.wrap (fun _ h=>h) (djoin_z f _ fun G=>dfew_out f G hL.n3 hodd (by omega)) fun v g B hR=>⟨B,⟨0,rfl,hR.1,hR.2.1,hR.2.2⟩,fun _ h=>h⟩
theorem dutyPlays_fn (htab:TabAt f) {n8 w8:UInt8} {c:Nat} {xs:List A15} (hat:ListAt f p 12 A15.vals xs) (hh:∀ x ∈ xs,x.Has f) (hxl:xs.length ≤ 9223372036854775807) {i:Int} (hpe:ListAt f sp 40 Req.vals pend) (hpel:pend.length ≤ 1099511627776) :
  Fn Tryz.prog 9 [.int .u8 (n8.toNat:Nat),.slice p xs.length c,.int .u8 (w8.toNat:Nat),.int .i64 i,.slice sp pend.length sc,.int .u64 wish] f F (Ret (.bool true) f F):=by
 have hfew:=few15_fn f F (c:=c) hat hxl
 cases hf:few15 xs with
 | false =>
  rw [hf] at hfew;refine Fn.e6 Tryz.func9 Tryz.ntmps9 fun base=>?_;refine gM ?_;refine H.Ah rfl rfl rfl hfew ?_;refine H.not (b:=_) (c:=_) rfl rfl rfl rfl ?_;refine gX ?_;exact qch
 | true =>
  rw [hf] at hfew;obtain ⟨hl100,hq20⟩:=few15_all hf;refine Fn.e6 Tryz.func9 Tryz.ntmps9 fun base=>?_;refine gM ?_;refine H.Ah rfl rfl rfl hfew ?_;refine H.not (b:=_) (c:=_) rfl rfl rfl rfl ?_;refine gM ?_;refine H.callP rfl rfl rfl (few10_fn f _ hpe hpel) fun bb _=>?_
  cases bb with
  | false =>
   refine qgZ ?_;refine gX ?_;exact qch
  | true =>
   refine qgi ?_;by_cases h20:pend.length ≤ 20
   ·obtain ⟨n,hn8⟩:∃ n,n = 3 + 2 * (n8.toNat % 5):=⟨_,rfl⟩;have hn3:3 ≤ n ∧ n ≤ 11:=by omega
    have hodd:n % 2 = 1:=by omega
    have hw8:=w8.toNat_lt;obtain ⟨o,hoe⟩:∃ o,o = w8.toNat % n:=⟨_,rfl⟩
    have ho:o < n:=by rw [hoe];exact Nat.mod_lt _ (by omega)
    have hacts:=fun G=>acts15_fn f G hn8 (c:=c) hat (fun x hx=>⟨hh x hx,hq20 x hx⟩) hl100;have hinv:WI n (world15 n xs) xs.length:=by have:=world15_inv hn3.1 hn3.2 xs xs.length (by omega);rwa [List.take_length] at this
    have hwl:(world15 n xs).w.all.length ≤ 100:=by have:=world15_len n xs xs.length;rw [List.take_length] at this;omega
    generalize world15 n xs = W15' at *;refine gT ?_;refine H.cl (hacts _) fun v f' A' hr=>?_;obtain ⟨g,wb,rfl,hd,rfl,rfl⟩:=hr;have le0:=Le.un f g;generalize un f g = f0 at *
    refine H.world15 fun g1 kb ap ac lb0 ml hd1 hwat=>?_;have le1:=le0.trans (Le.un f0 g1);generalize un f0 g1 = f1 at *
    have hta:=tab_mono htab le1;clear hacts hfew hd hd1
    have hK:=hinv.kok hn3.1 hn3.2 hwat.good_v ho;have hkrd:=fun G=>hwat.k.rd G ho
    have hgv:=hwat.good_v;generalize W15'.w.kv o = kv at *
    have hLI:=hK.li W15'.w.all.length;have hln:(lgsOf n (sub kv W15'.w.all)).n = n:=lgsOf_n n _
    rw [List.take_length] at hLI;have hsl:=sub_len kv W15'.w.all;have hatf:=fun G=>at16_fn f1 G hta hn8 (ac:=ac) (lb0:=lb0) (wb:=wb) hwat hK (by omega)
    have hwtf:=fun e G (he:Le f1 e)=>wat15_fn e G hn8 (ac:=ac) (lb0:=lb0) (wb:=wb) (hwat.mono he) hK (by omega);unfold AtP at hatf
    unfold RAtP at hwtf;generalize lgsOf n (sub kv W15'.w.all) = l at *;generalize (sub kv W15'.w.all).length = T at *;have e1:(1:Int) + (o:Int) = ((o + 1:Nat):Int):=by omega
    have hremo:((w8.toNat:Nat):Int).tmod (n:Int) = ((o:Nat):Int):=zas (a:=w8.toNat) (b:=n) hoe.symm;clear hoe hgv
    refine qhn ?_;refine HB.qu [0,1,2,3,4,5,6,7,8,9,10,11,12,13] 2 ?_;refine gc ?_;refine HQ.rem (z:=((o:Nat):Int)) rfl rfl rfl (by omega) (by first | exact hremo | (rw [wr_i64 (by omega)];exact hremo)) rfl ?_;skip;refine HQ.Ag (i:=o) rfl rfl rfl rfl ho rfl ?_;refine HQ.Ae (ls:=v11 kv) rfl rfl rfl (by rw [Nat.zero_add];exact hkrd _) rfl rfl ?_;refine qdw ?_;refine HB.ev 14 ?_;refine H.Aj (ls:=v11 fun _=>0) rfl rfl rfl fun xb=>?_;refine gA ?_;refine qeM ?_;refine qdZ ?_;refine HB.ev 15 ?_;refine H.Af (ls:=v11 fun _=>0) (vs:=v11 kv) (ls':=v11 kv) rfl rfl rfl (zaa rfl) rfl rfl (Nat.le_refl 11) (by repeat constructor) ?_;refine gA ?_;refine qeM ?_;refine qdZ ?_;refine HB.dn ?_;refine gM ?_;refine H.Ae (ls:=v11 kv) rfl rfl rfl (Rd.ofRow (by repeat constructor)) rfl rfl ?_;refine qeM ?_;refine H.cl (hatf _) fun v f' A' hr=>?_;obtain ⟨g2,lb,hd2,rfl,rfl,rfl⟩:=hr;have hup:=Le.un f1 g2;have le2:=le1.trans hup
    clear hatf hd2 hkrd;generalize un f1 g2 = f2 at *;refine gZ ?_;refine H.Ae (ls:=v11 kv) rfl rfl rfl (Rd.ofRow (by repeat constructor)) rfl rfl ?_;refine qeM ?_;refine H.Al rfl rfl rfl (hwtf f2 _ hup) fun v f' A' hr=>?_;obtain ⟨g3,pb,hd3,rfl,rfl,rfl⟩:=hr;have hup3:=Le.un f2 g3;have le3:=le2.trans hup3
    refine qef ?_;refine H.imp (plog_up hup3) ?_;clear hwtf hd3;generalize un f2 g3 = f3 at *;refine gO ?_;refine H.rem (z:=((o:Nat):Int)) rfl rfl rfl (by omega) (by first | exact hremo | (rw [wr_i64 (by omega)];exact hremo)) rfl ?_;refine gN ?_;try rw [e1]
    refine H.Au (out:=[.int .i64 i,.int .i64 ((o + 1:Nat):Int)]) rfl rfl rfl rfl (by decide) (by decide) rfl rfl fun eb=>?_;refine gV ?_;refine qic ?_;refine qeM ?_;refine H.pf (x:=logsH _ pb _) ?_;refine qef ?_;refine qgI ?_;have hpe3:=hpe.mono le3;have hta3:=tab_mono htab le3
    refine H.lo (ι:=Nat) (fun j=>[(19,.int .i64 (j:Int)),(18,.slice (some ⟨eb,0,none⟩) 2 2),(17,.pointer (some ⟨pb,0,none⟩)),(15,.pointer (some ⟨lb,0,none⟩)),(12,.bool false),(5,.int .u64 wish),(4,.slice sp pend.length sc)]) (fun _=>f3)
     (fun _=>row eb 3 [.int .i64 i,.int .i64 ((o + 1:Nat):Int)]::plogH f3 lb l::logsH f3 pb l::row wb 37 (w15C kb n ap ml.length ac lb0)::F) (fun j=>j ≤ 2) (fun j=>2 - j) 0 (Nat.zero_le _) fun j hj=>?_
    have hj:j ≤ 2:=hj;by_cases hj2:j < 2
    ·obtain ⟨iv,hiv⟩:∃ iv:Int,([.int .i64 i,.int .i64 ((o + 1:Nat):Int)]:List Value)[j]? = some (.int .i64 iv):=by
      match j,hj2 with
      | 0,_=>exact ⟨i,rfl⟩
      | 1,_=>exact ⟨_,rfl⟩
     refine gG ?_;refine H.Au (out:=[]) rfl rfl rfl rfl (by decide) (by decide) rfl rfl fun zb=>?_;refine H.asSlc (k:=0) (sz:=40) rfl (by decide) ?_;refine gM ?_;refine H.Ax (xs:=[]) (m:=pend.length) (news:=pend.flatMap Req.vals) rfl rfl rfl rfl rfl (fun p' c'=>.here _ _ _) (hpe3.src Req.len (by decide)) (Reqs_one pend) rfl (by omega) (by omega) fun op2 oc2=>?_;rw [Nat.zero_add,List.nil_append];refine H.Cq (.here _ _) fun go hgo hdo=>?_;have hown:ListAt (un f3 go) op2 40 Req.vals pend:=(zbt (vals:=Req.vals) (xs:=pend) Req.len hgo).mono (Le.right hdo);have hup4:=Le.un f3 go
     clear hgo hdo;generalize un f3 go = f4 at *;have hta4:=tab_mono hta3 hup4;have hnx:=fun G=>dnextI_fn f4 G hta4 (lb:=lb) hup4 hLI (by omega) (by rw [hln];exact hodd) (i:=iv) (pc:=oc2) (wish:=wish) hown (by omega)
     have hrn:=fun e G (he:Le f4 e)=>rnextI_fn e G (lb:=pb) hLI (by omega) (by rw [hln];exact hodd) (i:=iv) (hup4.trans he) (sc:=sc) (wish:=wish) ((hpe3.mono hup4).mono he) (by omega);have hqlen:=sayI_q l iv pend wish (by omega)
     generalize sayI l iv pend wish = say at *;obtain ⟨b,t⟩:=say;have hqlen:b.q.length ≤ 12:=hqlen;have hnl:(n:Int) = (l.n:Int):=by rw [hln]
     refine gM ?_;refine H.pf (x:=logsH _ pb _) ?_;refine H.unpack fun ri hri=>?_;obtain ⟨V,vp,vc,pp,pc,cp,cc,qb,cs⟩:=ri;refine qev ?_;refine qeH ?_;refine tail4 (A:=Dj f4) (B:=fun g4 p4=>QAt (un f4 g4) p4 b.q) (T:=?T) (fun tail=>?main) ?pf
     case main =>
      refine qhb ?_;refine HB.qu [0,1,2,3,4,5,6,7,8,9,10] 7 ?_;refine gc ?_;refine HQ.Ag (i:=j) rfl rfl rfl rfl hj2 rfl ?_;refine HQ.Ab rfl rfl rfl (by rw [Nat.zero_add,Nat.mul_one];exact Rd1.ofRow (.there _ (.here _ _ _)) (by rw [nthV_eq];exact hiv)) rfl ?_;refine gB ?_;refine qdw ?_;refine HB.ev2 (i:=11) (j:=15) (by kernel_rfl) rfl rfl ?_ ?_
      ·refine qef ?_;refine H.cl (hnx _) fun v' f' A' hR=>?_;obtain ⟨g4,p4,c4,hd4,rfl,hq4,rfl,rfl⟩:=hR;refine gA ?_;refine qeH ?_;refine H.on [] (Le.un f4 g4) rfl ?_;refine HB.qu [12,13,14] 3 ?_;refine gQ ?_;refine qhz ?_;refine qds fun tb=>?_;refine gA ?_;refine qeH ?_;refine qdZ ?_;exact qas
      ·refine qds fun tb=>?_;refine gA ?_;refine qeH ?_;refine qdZ ?_;refine HB.ev 11 ?_;refine qef ?_;refine H.cl (hnx _) fun v' f' A' hR=>?_;obtain ⟨g4,p4,c4,hd4,rfl,hq4,rfl,rfl⟩:=hR;refine gA ?_;refine qeH ?_;refine H.on [] (Le.un f4 g4) rfl ?_;refine HB.qu [12,13,14] 2 ?_;refine gQ ?_;refine qdw ?_;exact qas
     case pf =>
      intro g4 p4 c4 tb hd4 hq4;have hup5:=Le.un f4 g4;clear hd4 hri hnx
      generalize un f4 g4 = f5 at *;have hrn:=fun G=>hrn f5 G hup5;refine gM ?_
      refine H.Ag (i:=j) rfl rfl rfl rfl hj2 rfl ?_;refine H.Ab rfl rfl rfl (by rw [Nat.zero_add,Nat.mul_one];exact Rd1.ofRow (.there _ (.here _ _ _)) (by rw [nthV_eq];exact hiv)) rfl ?_;refine gM ?_;refine H.pf (x:=logsH _ pb _) ?_;refine H.cl (hrn _) fun v' f' A' hR=>?_;obtain ⟨g6,p6,c6,hd6,rfl,hq6,rfl,rfl⟩:=hR;have hup6:=Le.un f5 g6;have hq5:=hq4.mono hup6
      have le36:=(hup4.trans hup5).trans hup6;clear hd6 hrn hq4
      generalize un f5 g6 = f6 at *;refine gZ ?_;refine qds fun sb=>?_;refine H.Af (ls:=(Bod.zero 0).vals none 0) (vs:=b.vals p6 c6) (ls':=b.vals p6 c6) rfl rfl rfl (zaa rfl) rfl rfl (Nat.le_refl 76) (.here _ _ _) ?_;refine gM ?_;have hsm:=fun G=>same19_fn f6 G (b:=b) (p:=p4) (p2:=p6) (c:=c4) (c2:=c6) hq5 hq6 (by omega);refine H.pf (x:=logsH _ pb _) ?_
      refine H.unpack fun ri hri=>?_;obtain ⟨V,vp,vc,pp,pc,cp,cc,qb,cs⟩:=ri;refine qev ?_;have hjn:=joinI f6 (lb:=lb) (pb:=pb) (l:=l) hLI (by rw [hln];exact hodd) (i:=iv) (fl:=f3) (fm:=f3) le36 le36 hri;obtain ⟨φ,z0,hφ,hj1,hj2'⟩:=hjn
      refine qhg ?_;refine H.db (S:=[_,_,_,_]) rfl ?_;refine HB.qu [0,1,2,3,4,5] 22 ?_;refine gB ?_;refine HQ.bne (b:=false) rfl rfl rfl rfl (bne_self_eq_false _) rfl ?_;refine gB ?_;refine HQ.Ae (ls:=b.vals p4 c4) rfl rfl rfl (Rd.ofRow (.here _ _ _)) rfl rfl ?_;refine HQ.Ae (ls:=b.vals p6 c6) rfl rfl rfl (Rd.ofRow (.there _ (.here _ _ _))) rfl rfl ?_;refine qgn ?_;refine H.cr (hsm _) ?_;refine qdj ?_;refine HB.qu [7,8,9,10,11,12,13,14,15,16,17,18,20,21,22,23,24] 4 ?_;refine gS ?_;refine qgr ?_;refine gB ?_;refine qgr ?_;skip;refine qdw ?_;refine HB.ev 19 ?_;refine qef ?_;refine H.callP rfl rfl rfl (hj1 _) fun z hz=>?_;obtain rfl:=hφ z hz;refine gA ?_;refine qhg ?_;refine qdZ ?_;refine HB.ev 25 ?_;refine qgx ?_;refine H.Ah rfl rfl rfl (hj2' _) ?_;refine qev ?_;refine gA ?_;refine qhg ?_;refine qdZ ?_;refine HB.qu [26,27] 0 ?_;refine gR ?_;refine qeJ ?_;refine gW ?_;refine qgx ?_;refine H.imp (zah ⟨V,vp,vc,pp,pc,cp,cc,qb,cs⟩ hri) ?_;refine qgH ?_;refine H.pd (x:=row sb _ _) ?_;refine qef ?_;refine qgI ?_;have hown6:=(hown.mono hup5).mono hup6;have hpe6:=hpe3.mono le36
      clear hsm hj1 hj2' hri hφ hz hq5 hq6 hown hqlen
      refine H.lo (ι:=Nat) (fun r=>(25,.int .i64 (r:Int))::(20,.slice op2 pend.length oc2)::[(19,.int .i64 (j:Int)),(18,.slice (some ⟨eb,0,none⟩) 2 2),(17,.pointer (some ⟨pb,0,none⟩)),(15,.pointer (some ⟨lb,0,none⟩)),(12,.bool false),(5,.int .u64 wish),(4,.slice sp pend.length sc)]) (fun _=>f6)
       (fun _=>row eb 3 [.int .i64 i,.int .i64 ((o + 1:Nat):Int)]::plogH f3 lb l::logsH f3 pb l::row wb 37 (w15C kb n ap ml.length ac lb0)::F) (fun r=>r ≤ pend.length) (fun r=>pend.length - r) 0 (Nat.zero_le _) fun r hr=>?_
      have hr:r ≤ pend.length:=hr;by_cases hrl:r < pend.length
      ·obtain ⟨y,hy⟩:∃ y,pend[r]? = some y:=⟨_,List.getElem?_eq_getElem hrl⟩;obtain ⟨b1,o1,cs1,T1,fr1,hp1,hf1,hc1⟩:=hown6 r y hy;obtain ⟨b3,o3,cs3,T3,fr3,hp3,hf3,hc3⟩:=hpe6 r y hy;have hey:eqC y.vals y.vals = true:=eqC_refl rfl;refine qhK ?_
       refine gB ?_;refine HQ.Ag (b:=b1) (off:=o1) (i:=r) rfl (by rw [← hp1];rfl) rfl rfl hrl rfl ?_;refine HQ.Ae (ls:=y.vals) rfl rfl rfl (Rd.imm hf1 hc1) rfl rfl ?_;refine gB ?_;refine HQ.Ag (b:=b3) (off:=o3) (i:=r) rfl (by rw [← hp3];rfl) rfl rfl hrl rfl ?_;refine HQ.Ae (ls:=y.vals) rfl rfl rfl (Rd.imm hf3 hc3) rfl rfl ?_;refine HQ.aggNe (xs:=y.vals) (ys:=y.vals) (D:=4) (b:=false) rfl rfl rfl rfl (by kernel_rfl) (by kernel_rfl) (by kernel_rfl) (by kernel_rfl) (by decide) (by rw [hey];rfl) rfl ?_;refine gK ?_;refine gU ?_;exact H.ag (r + 1) (by show r + 1 ≤ pend.length;omega) (by show pend.length - (r + 1) < pend.length - r;omega)
      ·skip;refine gW ?_;refine H.weakL le36 ?_;exact H.ag (j + 1) (by show j + 1 ≤ 2;omega) (by show 2 - (j + 1) < 2 - j;omega)
    ·skip;refine gW ?_;refine H.Al rfl rfl rfl (dnext_z f3 _ (fun G=>dfew_nil f3 G)) fun v' f' A' hR=>?_;obtain ⟨g6,p6,c6,hd6,hv',_,rfl,rfl⟩:=hR;have hv':v' = .tuple #[.agg ((Bod.zero 0).vals p6 c6).toArray,.bool false]:=hv';subst hv'
     refine H.weakL (Le.un f3 g6) ?_;refine gZ ?_;refine qds fun tb=>?_;refine H.Af (ls:=(Bod.zero 0).vals none 0) (vs:=(Bod.zero 0).vals p6 c6) (ls':=(Bod.zero 0).vals p6 c6) rfl rfl rfl (zaa rfl) rfl rfl (Nat.le_refl 76) (.here _ _ _) ?_;refine gM ?_;refine qef ?_;refine H.Al rfl rfl rfl (dnext_z f3 _ (fun G=>dfew_4 f3 G)) fun v' f' A' hR=>?_;obtain ⟨g7,p7,c7,hd7,hv',_,rfl,rfl⟩:=hR;have hv':v' = .tuple #[.agg ((Bod.zero 0).vals p7 c7).toArray,.bool false]:=hv';subst hv'
     refine H.weakL (Le.un f3 g7) ?_;refine gZ ?_;refine qds fun sb=>?_;refine H.Af (ls:=(Bod.zero 0).vals none 0) (vs:=(Bod.zero 0).vals p7 c7) (ls':=(Bod.zero 0).vals p7 c7) rfl rfl rfl (zaa rfl) rfl rfl (Nat.le_refl 76) (.here _ _ _) ?_;refine gX ?_;refine H.Ah rfl rfl rfl (djoin_z f3 _ (fun G=>dfew_nil f3 G)) ?_;refine gH ?_;refine H.Ah rfl rfl rfl (djoin_z f3 _ (fun G=>dfew_4 f3 G)) ?_;refine gH ?_;refine H.Ah rfl rfl rfl (works19_fn f3 _ hta3) ?_;refine gJ ?_;refine qgH ?_;refine H.pd (x:=row sb _ _) ?_;refine qfX ?_;refine H.pd (x:=plogH _ lb _) ?_;refine H.pd (x:=logsH _ pb _) ?_;refine H.pd (x:=row wb _ _) ?_;refine H.weakL le3 ?_;exact qao
   ·skip;refine gT ?_;exact qch
end
end Go.Proofs.YtgdhaledfjnfgaaGreatDoor

namespace Go.Proofs.YtgdhaledfjnfgaaGreatDoor
open Go Go.ChangeShapes Go.WideShapes Go.RowKit Go.Deep
def FitL (P:Program):List TypeId→List Value→Prop
 | t::ts,v::vs=>(∀ e p l c,P.underlying t = some (.slice e)→v = .slice p l c→l * P.bytesOf e ≤ 140737488351232) ∧ FitL P ts vs
 | [],_=>True
 | _::_,[]=>True
theorem fit_of {H':Type} {enc:TypeId × Value→H'} {P:Program} {W:World} {b:Nat} {sp:Nat→Bool} {hd:Bool} {us:List TypeId} {gs:List (DataW H')}:∀ {ts:List TypeId} {vs:List Value} {ds:List (DataW H')} {ps:List MemPlace},
  DataW.TrodAll enc P W b sp hd ts vs ds ps→(DataW.weightsEach P (ts ++ us) (ds ++ gs)).all (· ≤ reachBytes) = true→FitL P ts vs
 | [],_,_,_,_,_=>trivial
 | _::_,[],_,_,_,_=>trivial
 | t :: ts, v :: vs, d :: ds, _, h, hw => by
  obtain ⟨p,q,⟨n,h1⟩,h2,rfl⟩:=h
  have hw:(d.weights P t ++ DataW.weightsEach P (ts ++ us) (ds ++ gs)).all (· ≤ reachBytes) = true:=by simpa only [List.cons_append,DataW.weightsEach] using hw
  rw [List.all_append,Bool.and_eq_true] at hw
  refine ⟨fun e p l c ht hv=>?_,fit_of h2 hw.2⟩
  subst hv
  rcases DataW.trod_slice ht h1 with ⟨hc,_⟩ | ⟨a,len,cap,elems,rest,n,_,hc,hx,_,_,_,hl,_⟩
  ·simp [Value.cells] at hc
   obtain ⟨_,rfl,_⟩:=hc
   rw [Nat.zero_mul]
   exact Nat.zero_le _
  ·simp [Value.cells] at hc
   obtain ⟨_,rfl,_⟩:=hc
   simp only [Prod.mk.injEq] at hx
   obtain ⟨rfl,_⟩:=hx
   have h3:=hw.1
   simp only [DataW.weights,ht,List.all_cons,Bool.and_eq_true,decide_eq_true_eq,List.length_map] at h3
   have h4:(elems.length + rest.length) * P.bytesOf e ≤ 140737488351232:=h3.1
   have h5:l * P.bytesOf e ≤ (elems.length + rest.length) * P.bytesOf e:=Nat.mul_le_mul_right _ (by omega)
   omega
theorem lawRowW {H':Type} {enc:TypeId × Value→H'} {a:Assume} {C:Checked} {os:Os} {fid:FuncId} {fn:Func} {s:ChangeSpec} {conds:List PathCond} {apart fresh handsOn again:Bool} {tb:TypeId} {laid:List (String × DataW Unit)}
  (own:ownKnob C.prog.godebug = none) (started:os.Started) (noInit:C.prog.inits.idxOf? fid = none) (hfn:C.prog.funcs[fid]? = some fn)
  (witness : ∃ (w : World) (tape : Tape) (i : Input), w.os = os ∧ (w.forCall tape i).Shaped C.prog ∧ i.vars = [] ∧ Input.okWide C.prog (w.forCall tape i) .any w.heap.size fid i ∧
   ((s.pre enc C.prog fn conds apart (w.forCall tape i).memory i.args ∧ laidMetH C.prog laid (w.forCall tape i).memory) ∧ sizedMet enc C.prog fn (OpenSpec.ofChange s) apart (w.forCall tape i).memory i.args) ∧ a.holds C.prog (lone (Frame.enter C.prog fid i.args .normal) [] (w.forCall tape i)))
  (htb:C.prog.underlying tb = some .bool) (hres:fn.resultTypes = #[tb]) (hv:s.vars = []) (hl:laidOutB C.prog = true)
  (hts:fn.params.toList.all (fun t=>C.prog.readableRec t && Nat.blt t C.prog.types.size) = true)
  (hs:∀ ds:List (DataW H'),ds.length = fn.params.toList.length→s.fn H' ds = { results:=[.lit (.bool true)],args:=ds })
  (law:∀ (W:World) (args:List Value),ArgsOk C.prog W fn.params.toList args→FitL C.prog fn.params.toList args→laidMetH C.prog laid W→Fn C.prog fid args (memOf W) [] (Ret (.bool true) (memOf W) [])) :
  ReturnsInHanded a C os fid .any (fun w args=>(s.pre enc C.prog fn conds apart w args ∧ laidMetH C.prog laid w) ∧ sizedMet enc C.prog fn (OpenSpec.ofChange s) apart w args) (s.post enc C.prog fn apart fresh handsOn again):=by
 refine returnsInHanded_of_change_and (X:=fun w _=>laidMetH C.prog laid w) (fun _ _ _ hh h=>h.of_heap hh) own started noInit hfn witness ?_;intro W base args ds gs before hval hW _ hZ hL _;have hW':=hW;obtain ⟨p,q,hA,hV,rfl,_,_⟩:=hW
 rw [hv] at hV;obtain ⟨rfl,rfl⟩:=trodVars_none hV;rw [List.append_nil] at hW'
 have hts':∀ t ∈ fn.params.toList,C.prog.readableRec t = true ∧ t < C.prog.types.size:=fun t ht=>by
  have:=List.all_eq_true.1 hts t ht;simp only [Bool.and_eq_true] at this
  exact ⟨this.1,by have:=this.2;simpa [Nat.blt_eq] using this⟩
 have hlen:=trodAll_len hA;have e:=hs ds hlen
 have hc:=law W args.toList (argsOk_of hA fun j t v h1 h2=>⟨base,hval j t v (by simpa using h1) (by simpa using h2)⟩) (fit_of hA hZ) hL W W (sat_start W);refine hc.mono ?_
 rintro x w' ⟨v,f',A',rfl,⟨rfl,rfl,rfl⟩,hsat⟩;refine ⟨_,rfl,post_own hW' hv hA hl hts' ?_ (by rw [List.append_nil,e]) (by rw [List.append_nil,e]) hsat.below ?_⟩
 ·intro b sp hd;rw [List.append_nil,e,hres];exact trodAll_mk1 (shut_bool htb true)
 ·exact ok_one hres rfl (okWide_bool_mk htb true)
theorem Tryz.own:ownKnob Tryz.prog.godebug = none:=by kernel_rfl
theorem Tryz.laidOut:laidOutB Tryz.prog = true:=by kernel_rfl
abbrev laidL : List (String × DataW Unit) := [("ratchet/sha.table", Rows.laid_ratchet_sha_table)]
theorem door_met (os:Os) (args:Array Value):laidMetH Tryz.prog laidL ((World.doorLaid Tryz.prog 400 os).forCall (fun _ _=>0) ⟨#[],args,[]⟩).memory:=
 laidMetH_of_parts3 (fuel:=8) (laidMet_of_run' 8 (by kernel_rfl) (by kernel_rfl)) (by kernel_rfl) (by kernel_rfl)
theorem tab_eq:(Rows.laid_ratchet_sha_table:DataW Unit) = .agg ((Sha.k.map fun x=>((x.toNat:Nat):Int)).map fun z=>.lit (.int .u32 z)):=by kernel_rfl
theorem tab_of {W:World} (h:laidMetH Tryz.prog laidL W):TabAt (memOf W):=by
 have h2 : laidMetH Tryz.prog [("ratchet/sha.table", .agg ((Sha.k.map fun x => ((x.toNat : Nat) : Int)).map fun z => .lit (.int .u32 z)))] W := by rw [← tab_eq]; exact h
 exact laid_ints h2 (by kernel_rfl) (by kernel_rfl) (t:=250) (e:=223) Tryz.underlying250 Tryz.underlying223 (by kernel_rfl)
end Go.Proofs.YtgdhaledfjnfgaaGreatDoor
