/- Layer 16: DecidePlays, the walk. Condition: the table of the standard stands in the fragment. (Printed by gen_fk.py.) -/
import Derived.Test.YtminmjlfmolfeaaGreatDoorZ10
set_option linter.unusedSectionVars false
set_option linter.unusedSimpArgs false
set_option linter.unusedVariables false
set_option maxHeartbeats 6400000
set_option maxRecDepth 20000
namespace Go.Proofs.YtminmjlfmolfeaaGreatDoor
open Go
section
variable (f:Frag) (F:List HP)
theorem dcfew_4:Fn Tryz.prog 68 [.int .i64 4] f F (Ret (.bool false) f F):=by
 refine Fn.e1 Tryz.func68 Tryz.ntmps68 fun base=>?_;refine gV ?_;refine H.rem (z:=0) rfl rfl rfl (by decide) rfl rfl ?_;refine gL ?_;exact qah
theorem committed_4 {fl:Frag} {lb:Nat} {l:Lgs} {T:Nat} (hL:LI l T) (hT:T ≤ 50000) :
  Fn Tryz.prog 33 [.pointer (some ⟨lb,0,none⟩),.int .i64 4,.int .u64 0] f (plogH fl lb l::F) (Ret (.int .i64 0) f (plogH fl lb l::F)):=by
 have hlog:=fun G=>pllogO_fn f G (fl:=fl) (lb:=lb) hL hT 0;refine Fn.e3 Tryz.func33 Tryz.ntmps33 fun base=>?_
 refine gJ ?_;refine H.cl (hlog _) fun x f' A' hr=>?_;obtain ⟨p,c,rfl,hff,rfl⟩:=hr;rw [hff];clear hff hlog
 cases hv:l.vw 0 with
 | none =>
  exact qcn
 | some w =>
  refine qhb ?_;refine H.cr (dcfew_4 _ _) ?_;refine gX ?_;exact qaz
theorem committed_nil:Fn Tryz.prog 33 [.pointer none,.int .i64 3,.int .u64 0] f F (Ret (.int .i64 0) f F):=by
 refine Fn.e3 Tryz.func33 Tryz.ntmps33 fun base=>?_;refine gJ ?_;refine H.Af rfl rfl rfl (pllog_nil f _) ?_;refine gY ?_;exact qah
theorem dbest_nil:Fn Tryz.prog 67 [.pointer none,.int .i64 3] f F (Ret (.tuple #[.int .u64 0,.int .i64 0]) f F):=by
 refine Fn.e2 Tryz.func67 Tryz.ntmps67 fun base=>?_;refine gJ ?_;refine H.Af rfl rfl rfl (plviews_nil f _) ?_;refine gR ?_;refine H.lo (ι:=Unit) (fun _=>[(12,.int .i64 0),(11,.int .i64 0),(5,.int .i64 0),(4,.int .u64 0)]) (fun _=>f) (fun _=>F) (fun _=>True) (fun _=>0) () trivial fun _ _=>?_;refine gL ?_;exact qaT
theorem decided_nil:Fn Tryz.prog 31 [.pointer none,.int .i64 3] f F (Ret (.slice none 0 0) f F):=by
 refine Fn.e2 Tryz.func31 Tryz.ntmps31 fun base=>?_;refine gJ ?_;refine H.Af rfl rfl rfl (dbest_nil f _) ?_;refine gX ?_;refine H.Af rfl rfl rfl (pllog_nil f _) ?_;refine gX ?_;refine H.sliceTo (hv:=0) rfl rfl rfl rfl (Nat.le_refl _) rfl ?_;refine gR ?_;exact qah
theorem dview_nil:Fn Tryz.prog 32 [.pointer none,.int .i64 3] f F (Ret (.int .u64 0) f F):=by
 refine Fn.e2 Tryz.func32 Tryz.ntmps32 fun base=>?_;refine gJ ?_;refine H.Af rfl rfl rfl (dbest_nil f _) ?_;refine gW ?_;exact qah
theorem decidePlays_fn (htab:TabAt f) {n8 w8:UInt8} {v:Int} {p:Option Addr} {c:Nat} {xs:List A15} (hat:ListAt f p 12 A15.vals xs) (hh:∀ x ∈ xs,x.Has f) (hxl:xs.length ≤ 9223372036854775807) :
  Fn Tryz.prog 5 [.int .u8 (n8.toNat:Nat),.slice p xs.length c,.int .u8 (w8.toNat:Nat),.int .u64 v] f F (Ret (.bool true) f F):=by
 have hfew:=few15_fn f F (c:=c) hat hxl
 cases hf:few15 xs with
 | false =>
  rw [hf] at hfew;refine Fn.e4 Tryz.func5 Tryz.ntmps5 fun base=>?_;exact qaZ
 | true =>
  rw [hf] at hfew;obtain ⟨hl100,hq20⟩:=few15_all hf;refine Fn.e4 Tryz.func5 Tryz.ntmps5 fun base=>?_;refine qdZ ?_;refine gW ?_;obtain ⟨n,hn8⟩:∃ n,n = 3 + 2 * (n8.toNat % 5):=⟨_,rfl⟩;have hn3:3 ≤ n ∧ n ≤ 11:=by omega
  have hodd:n % 2 = 1:=by omega
  have hw8:=w8.toNat_lt;obtain ⟨o,hoe⟩:∃ o,o = w8.toNat % n:=⟨_,rfl⟩
  have ho:o < n:=by rw [hoe];exact Nat.mod_lt _ (by omega)
  have hremo:((w8.toNat:Nat):Int).tmod (n:Int) = ((o:Nat):Int):=zak (a:=w8.toNat) (b:=n) hoe.symm;have hacts:=fun G=>acts15_fn f G hn8 (c:=c) hat (fun x hx=>⟨hh x hx,hq20 x hx⟩) hl100
  have hinv:WI n (world15 n xs) xs.length:=by have:=zbs hn3.1 hn3.2 xs xs.length (by omega);rwa [List.take_length] at this
  have hwl:(world15 n xs).w.all.length ≤ 100:=by have:=zca n xs xs.length;rw [List.take_length] at this;omega
  generalize world15 n xs = W15' at *;refine H.cl (hacts _) fun v f' A' hr=>?_;obtain ⟨g,wb,rfl,hd,rfl,rfl⟩:=hr;have le0:=Le.un f g;generalize un f g = f0 at *
  refine H.world15 fun g1 kb ap ac lb0 ml hd1 hwat=>?_;have le1:=le0.trans (Le.un f0 g1);generalize un f0 g1 = f1 at *
  have hta:=zbm htab le1;clear hacts hfew hd hd1
  have hK:=hinv.kok hn3.1 hn3.2 hwat.good_v ho;have hkrd:=fun G=>hwat.k.rd G ho
  generalize W15'.w.kv o = kv at *;have hLI:=hK.li W15'.w.all.length;have hln:(lgsOf n (sub kv W15'.w.all)).n = n:=lgsOf_n n _
  rw [List.take_length] at hLI;have hsl:=sub_len kv W15'.w.all;have hatf:=fun G=>at16_fn f1 G hta hn8 (ac:=ac) (lb0:=lb0) (wb:=wb) hwat hK (by omega)
  have hwtf:=fun e G (he:Le f1 e)=>wat15_fn e G hn8 (ac:=ac) (lb0:=lb0) (wb:=wb) (hwat.mono he) hK (by omega);unfold AtP at hatf
  unfold RAtP at hwtf;generalize lgsOf n (sub kv W15'.w.all) = l at *;generalize (sub kv W15'.w.all).length = T at *;clear hoe;refine qgt ?_;refine HB.qu [0,1,2,3,4,5,6,7,8,9,10,11,12,13] 2 ?_;refine qeU ?_;skip;refine qgT ?_;refine HB.ev 14 ?_;refine H.Ak (ls:=v11 fun _=>0) rfl rfl rfl fun xb=>?_;refine gA ?_;refine qdS ?_;refine qdI ?_;refine HB.ev 15 ?_;refine H.Ah (ls:=v11 fun _=>0) (vs:=v11 kv) (ls':=v11 kv) rfl rfl rfl (zaa rfl) rfl rfl (Nat.le_refl 11) (by repeat constructor) ?_;refine gA ?_;refine qdS ?_;refine qdI ?_;refine HB.dn ?_;refine gJ ?_;refine H.Ae (ls:=v11 kv) rfl rfl rfl (Rd.ofRow (by repeat constructor)) rfl rfl ?_;refine qdS ?_;refine H.cl (hatf _) fun v f' A' hr=>?_;obtain ⟨g2,lb,hd2,rfl,rfl,rfl⟩:=hr;have hup:=Le.un f1 g2;have le2:=le1.trans hup
  clear hatf hd2 hkrd;generalize un f1 g2 = f2 at *;refine gX ?_;refine H.Ae (ls:=v11 kv) rfl rfl rfl (Rd.ofRow (by repeat constructor)) rfl rfl ?_;refine qdS ?_;refine H.Al rfl rfl rfl (hwtf f2 _ hup) fun v f' A' hr=>?_;obtain ⟨g3,pb,hd3,rfl,rfl,rfl⟩:=hr;have hup3:=Le.un f2 g3;have le3:=le2.trans hup3
  clear hwtf hd3;generalize un f2 g3 = f3 at *;subst hln;have hta3:=zbm htab le3;have hvl:=hLI.vl
  have hcm:=fun e (hle:Le f3 e) G v=>committed_fn e G (hup3.trans hle) (lb:=lb) hLI (by omega) hodd v;have hdec:=fun e (hle:Le f3 e) G=>decided_fn e G (hup3.trans hle) (lb:=lb) hLI (by omega) hodd
  have hdv:=fun e (hle:Le f3 e) G=>dview_fn e G (hup3.trans hle) (lb:=lb) hLI (by omega) hodd;have hc4:=fun e G=>committed_4 e G (fl:=f2) (lb:=lb) hLI (by omega)
  have hDl:(decL l).length ≤ 100:=by
   rw [decL_len];have h1:=decB_le l
   cases hv:l.vw (decB l).1 with
   | none=>rw [hv] at h1;exact Nat.le_trans h1 (Nat.zero_le _)
   | some w=>rw [hv] at h1;have h2:=hLI.al w (vw_v hv).2;have h1:(decB l).2 ≤ w.all.length:=h1;omega
  refine H.pf (x:=logsH _ pb _) ?_;refine H.unpack fun i0 hi=>?_;have hrc:=fun e (hle:Le f3 e) G v=>rcommitted_fn e G (lb:=pb) hLI (by omega) hle hi v;have hrd:=fun e (hle:Le f3 e) G=>rdecided_fn e G (lb:=pb) hLI (by omega) hle hi
  have hVl:=hi.len;clear hi
  obtain ⟨V,vp,vc,pp,pc,cp,cc,qb,cs⟩:=i0;have hVl:V.length = l.vs.length:=hVl;have hrc:∀ e (hle:Le f3 e) G v,Fn Tryz.prog 34 [.pointer (some ⟨pb,0,none⟩),.int .u64 v] e (row pb 75 (lgC l.n l.known vp V.length vc pp pc cp cc)::slc vp V.length vc 81 4 (V.flatMap VV.vals)::lst (V.map VV.own)::fam (fun r=>pstH (qb r) (l.past r)) l.n::slc cp l.n cc 253 1 (chRow l cs)::fam (chFam l cs) l.n::G) (Ret (.int .i64 (cmt l v:Nat)) e (row pb 75 (lgC l.n l.known vp V.length vc pp pc cp cc)::slc vp V.length vc 81 4 (V.flatMap VV.vals)::lst (V.map VV.own)::fam (fun r=>pstH (qb r) (l.past r)) l.n::slc cp l.n cc 253 1 (chRow l cs)::fam (chFam l cs) l.n::G)):=hrc
  have hrd:∀ e (hle:Le f3 e) G,Fn Tryz.prog 29 [.pointer (some ⟨pb,0,none⟩)] e (row pb 75 (lgC l.n l.known vp V.length vc pp pc cp cc)::slc vp V.length vc 81 4 (V.flatMap VV.vals)::lst (V.map VV.own)::fam (fun r=>pstH (qb r) (l.past r)) l.n::slc cp l.n cc 253 1 (chRow l cs)::fam (chFam l cs) l.n::G) (RDecP e (row pb 75 (lgC l.n l.known vp V.length vc pp pc cp cc)::slc vp V.length vc 81 4 (V.flatMap VV.vals)::lst (V.map VV.own)::fam (fun r=>pstH (qb r) (l.past r)) l.n::slc cp l.n cc 253 1 (chRow l cs)::fam (chFam l cs) l.n::G) (decL l) (decB l).1):=hrd;generalize decL l = D at *
  generalize (decB l).1 = dv at *;show H _ _ _ _ f3 (row pb 75 (lgC l.n l.known vp V.length vc pp pc cp cc)::slc vp V.length vc 81 4 (V.flatMap VV.vals)::lst (V.map VV.own)::fam (fun r=>pstH (qb r) (l.past r)) l.n::slc cp l.n cc 253 1 (chRow l cs)::fam (chFam l cs) l.n::_) _;refine gW ?_;refine H.Al rfl rfl rfl (hrd f3 (Le.refl _) _) fun x f' A' hr=>?_;obtain ⟨p1,c1,rfl,hff,rfl⟩:=hr;rw [hff];clear hff hrd;refine qhm fun g4 hg4 hd4=>?_;have hat4:ListAt (un f3 g4) p1 40 Req.vals D:=(zbd Req.len hg4).mono (Le.right hd4);have hup4:=Le.un f3 g4
  clear hg4 hd4;generalize un f3 g4 = e4 at *;refine gM ?_;refine qeY ?_;refine H.Al rfl rfl rfl (hdec e4 hup4 _) fun x f' A' hr=>?_;obtain ⟨p2,c2,rfl,hff,rfl⟩:=hr;rw [hff];clear hff hdec;refine qhm fun g5 hg5 hd5=>?_;have hat5:ListAt (un e4 g5) p2 40 Req.vals D:=(zbd Req.len hg5).mono (Le.right hd5);have hup5:=hup4.trans (Le.un e4 g5)
  have hat45:=hat4.mono (Le.un e4 g5);clear hg5 hd5 hat4 hup4
  generalize un e4 g5 = e5 at *;have hsame:=fun G=>sameR_fn e5 G (ca:=c2) (cb:=c1) hat5 hat45 (by omega);clear hat5 hat45
  refine gJ ?_;refine H.cr (hsame _) ?_;refine gM ?_;refine H.Af rfl rfl rfl (hdv e5 hup5 _) ?_;refine ga ?_;refine H.Af rfl rfl rfl (hcm e5 hup5 _ v) ?_;refine gJ ?_;refine qfv ?_;refine H.pf (x:=slc cp _ cc _ 1 _) ?_;refine H.pf (x:=fam (fun r=>pstH (qb r) (l.past r)) _) ?_;refine qfb ?_;refine H.pf (x:=slc vp _ vc _ 4 _) ?_;refine H.pf (x:=row pb _ _) ?_;refine H.Af rfl rfl rfl (hrc e5 hup5 _ v) ?_;refine ga ?_
  refine H.lo (ι:=Nat) (fun k=>[(16,.int .i64 (k:Int)),(13,.pointer (some ⟨pb,0,none⟩)),(11,.pointer (some ⟨lb,0,none⟩))]) (fun _=>e5)
   (fun _=>row pb 75 (lgC l.n l.known vp V.length vc pp pc cp cc)::slc vp V.length vc 81 4 (V.flatMap VV.vals)::lst (V.map VV.own)::fam (fun r=>pstH (qb r) (l.past r)) l.n::slc cp l.n cc 253 1 (chRow l cs)::fam (chFam l cs) l.n::plogH f2 lb l::row wb 34 (w15C kb l.n ap ml.length ac lb0)::row xb 36 (v11 kv)::F) (fun k=>k ≤ V.length) (fun k=>V.length - k)
   0 (Nat.zero_le _) fun k hk=>?_
  have hk:k ≤ V.length:=hk;by_cases hkl:k < V.length
  ·obtain ⟨x,hx⟩:∃ x,V[k]? = some x:=⟨_,List.getElem?_eq_getElem hkl⟩;refine qfd fun sb hp=>?_;subst hp;have hrdv:∀ {G:List HP} {x0:HP},Rd1 e5 (x0::slc (some ⟨sb,0,none⟩) V.length vc 81 4 (V.flatMap VV.vals)::G) sb (0 + k * 4 + 0) (.int .u64 x.w.v):=fun {G x0}=>Rd1.of (i:=0) (by rw [Nat.zero_add];exact Rd.slcElem (vals:=VV.vals) (xs:=V) VV.len (by decide) (.there _ (.here _ _ _)) hx) rfl;refine gO ?_
   refine qgD ?_;refine HB.qu [0,1,2,3,4,5,6,7,8,9,10,11,12,14,15,16,17,18,19,20,21,22] 3 ?_;refine gS ?_;refine HQ.Ag (i:=k) rfl rfl rfl rfl hkl rfl ?_;refine gQ ?_;refine HQ.Ab rfl rfl rfl hrdv rfl ?_;refine gS ?_;refine HQ.Ag (i:=k) rfl rfl rfl rfl hkl rfl ?_;refine gQ ?_;refine HQ.Ab rfl rfl rfl hrdv rfl ?_;refine qdb ?_;refine HB.ev 13 ?_;refine qeY ?_;refine H.Af rfl rfl rfl (hcm e5 hup5 _ x.w.v) ?_;refine gA ?_;refine qfv ?_;refine H.pf (x:=slc cp _ cc _ 1 _) ?_;refine H.pf (x:=fam (fun r=>pstH (qb r) (l.past r)) _) ?_;refine qfb ?_;refine H.pf (x:=slc (some ⟨sb,0,none⟩) _ vc _ 4 _) ?_;refine H.pf (x:=row pb _ _) ?_;refine qdI ?_;refine HB.ev 23 ?_;refine H.Af rfl rfl rfl (hrc e5 hup5 _ x.w.v) ?_;refine qcS ?_;refine HB.qu [24] 0 ?_;refine gN ?_;refine qdk ?_;refine gP ?_;exact H.ag (k + 1) (by show k + 1 ≤ V.length;omega) (by show V.length - (k + 1) < V.length - k;omega)
  ·have e:k = V.length:=by omega
   subst e;refine gO ?_;refine qeY ?_;refine H.Af rfl rfl rfl (hc4 e5 _) ?_;refine gT ?_;refine H.Af rfl rfl rfl (decided_nil e5 _) ?_;refine gT ?_;refine H.Af rfl rfl rfl (dview_nil e5 _) ?_;refine gT ?_;refine H.Af rfl rfl rfl (committed_nil e5 _) ?_;refine gT ?_;refine H.Af rfl rfl rfl (zby e5 _ (zbm hta3 hup5)) ?_;refine gL ?_;iterate 9 refine H.Ac (.here _ _) ?_
   refine H.weakL (le3.trans hup5) ?_;exact qah
end
end Go.Proofs.YtminmjlfmolfeaaGreatDoor
