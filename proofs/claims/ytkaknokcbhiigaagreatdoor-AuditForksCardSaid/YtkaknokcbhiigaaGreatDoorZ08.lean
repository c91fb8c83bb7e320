/- Parts of the proof. No conditions. -/
import Derived.Test.YtkaknokcbhiigaaGreatDoorZ07
set_option linter.unusedSectionVars false
set_option linter.unusedSimpArgs false
set_option linter.unusedVariables false
/- Layer 15: the document's worlds: body. No condition. -/
set_option maxHeartbeats 3200000
set_option maxRecDepth 20000
namespace Go.Proofs.YtkaknokcbhiigaaGreatDoor
open Go Go.Proofs.Tryz
def bodW(k:UInt8)(v kk:Int):Bod:=⟨k,v,kk,Req.zero,[],noTag⟩
variable {fl:Frag} {wb n T m:Nat} {W:W15} {x:A15}
section
variable (f:Frag) (F:List HP)
theorem body15_fn(hfl:Le fl f){kb lb:Nat}(hW:WI n W T)(hT:T≤1000){ap:Option Addr}{ac o:Nat}(ho:o<n)(hx:x.Has f)(hq20:x.q.length≤20):Fn prog 36 [.pointer (some ⟨wb,0,none⟩),.int .i64 ((o+1:Nat):Int),.agg x.vals.toArray] f (logsH fl lb W.l::row wb 32 (w15C kb n ap m ac lb)::row kb 37 (kRow n W.w.kv)::F)
   (BodP f (logsH fl lb W.l::row wb 32 (w15C kb n ap m ac lb)::row kb 37 (kRow n W.w.kv)::F) (x.bod W n o)):=by
 have hn:=hW.l.n3;have hnn:=hW.n
 have hol:o<W.l.n:=jA
 have hwf:=hW.l.wf o hol;have hg0:=hwf.g0
 have hg1:=hW.l.gb o hol;have hvm:((x.view.toNat % 6:Nat):Int)≤5:=jA
 have hv2:((x.view.toNat % 2:Nat):Int)≤1:=jA
 have hkm:((x.k.toNat % 6:Nat):Int)≤5:=jA
 have hgr:=fun G=>great_fn f G hfl (wb:=wb) (kb:=kb) (lb:=lb) (l:=W.l) hW.l (ap:=ap) (m:=m) (ac:=ac) (n:=n) hol;have hcases:x.kind.toNat % 6=0∨x.kind.toNat % 6=1∨x.kind.toNat % 6=2∨x.kind.toNat % 6=3∨x.kind.toNat % 6=4∨x.kind.toNat % 6=5:=jA
 unfold A15.bod;rcases hcases with h|h|h|h|h|h
 ·have hk6:((x.kind.toNat:Nat):Int).tmod 6=0:=zak (b:=6) h;rw[h]
  have hask:=fun G=>ask_fn f G x;rcases Bool.eq_false_or_eq_true x.raw with hraw|hraw
  ·have hr1:(!x.raw)=false:=by rw[hraw];rfl
   have hb:x.bodK W n o 0=(⟨1,((x.view.toNat % 6:Nat):Int),0,x.req,[],noTag⟩:Bod):=by simp[A15.bodK,hraw,Bod.zero]
   rw[hb];generalize x.req=rq at hask⊢;refine qgB fun base=>?_;refine qej fun xb=>?_;refine qex fun ob=>?_;refine qhu fun bb=>?_;refine qeN ?_;refine H.Ab (ls:=(⟨1,((x.view.toNat % 6:Nat):Int),0,rq,[],noTag⟩:Bod).vals none 0) rfl rfl rfl (Rd.ofRow (.here _ _ _)) rfl rfl ?_;refine H.Ag (ls:=(Bod.zero 0).vals none 0) (vs:=(⟨1,((x.view.toNat % 6:Nat):Int),0,rq,[],noTag⟩:Bod).vals none 0) (ls':=(⟨1,((x.view.toNat % 6:Nat):Int),0,rq,[],noTag⟩:Bod).vals none 0) rfl rfl rfl (zaa rfl) rfl rfl (Nat.le_refl 76) jB ?_;refine qei ?_;exact H.Ay (ls:=(⟨1,((x.view.toNat % 6:Nat):Int),0,rq,[],noTag⟩:Bod).vals none 0) rfl rfl rfl (Rd.ofRow (.here _ _ _)) rfl (fun _ s=>s.drop (.here _ _)) ⟨nil0,none,0,rfl,QAt.nil _ _,Dj.nil _,(un_nil _).symm,rfl⟩
  ·have hr1:(!x.raw)=true:=by rw[hraw];rfl
   have hb:x.bodK W n o 0=(⟨1,(W.l.past o).g,0,x.req,[],noTag⟩:Bod):=by simp[A15.bodK,hraw,Bod.zero]
   rw[hb];generalize x.req=rq at hask⊢;refine qgB fun base=>?_;refine qej fun xb=>?_;refine qex fun ob=>?_;refine qhu fun bb=>?_;refine qeN ?_;refine H.Ab (ls:=(⟨1,(W.l.past o).g,0,rq,[],noTag⟩:Bod).vals none 0) rfl rfl rfl (Rd.ofRow (.here _ _ _)) rfl rfl ?_;refine H.Ag (ls:=(Bod.zero 0).vals none 0) (vs:=(⟨1,(W.l.past o).g,0,rq,[],noTag⟩:Bod).vals none 0) (ls':=(⟨1,(W.l.past o).g,0,rq,[],noTag⟩:Bod).vals none 0) rfl rfl rfl (zaa rfl) rfl rfl (Nat.le_refl 76) jB ?_;refine qei ?_;exact H.Ay (ls:=(⟨1,(W.l.past o).g,0,rq,[],noTag⟩:Bod).vals none 0) rfl rfl rfl (Rd.ofRow (.here _ _ _)) rfl (fun _ s=>s.drop (.here _ _)) ⟨nil0,none,0,rfl,QAt.nil _ _,Dj.nil _,(un_nil _).symm,rfl⟩
 ·have hk6:((x.kind.toNat:Nat):Int).tmod 6=1:=zak (b:=6) h;rw[h]
  rcases Bool.eq_false_or_eq_true x.raw with hraw|hraw
  ·have hr1:(!x.raw)=false:=by rw[hraw];rfl
   have hb:x.bodK W n o 1=(⟨2,((x.view.toNat % 6:Nat):Int),(1+((x.k.toNat % 6:Nat):Int)),Req.zero,[],noTag⟩:Bod):=by simp[A15.bodK,hraw,Bod.zero]
   rw[hb];refine qgB fun base=>?_;refine qej fun xb=>?_;refine qex fun ob=>?_;refine qho fun bb=>?_;refine qfW ?_;refine H.Ab (ls:=(⟨2,((x.view.toNat % 6:Nat):Int),(1+((x.k.toNat % 6:Nat):Int)),Req.zero,[],noTag⟩:Bod).vals none 0) rfl rfl rfl (Rd.ofRow (.here _ _ _)) rfl rfl ?_;refine H.Ag (ls:=(Bod.zero 0).vals none 0) (vs:=(⟨2,((x.view.toNat % 6:Nat):Int),(1+((x.k.toNat % 6:Nat):Int)),Req.zero,[],noTag⟩:Bod).vals none 0) (ls':=(⟨2,((x.view.toNat % 6:Nat):Int),(1+((x.k.toNat % 6:Nat):Int)),Req.zero,[],noTag⟩:Bod).vals none 0) rfl rfl rfl (zaa rfl) rfl rfl (Nat.le_refl 76) jB ?_;refine qei ?_;exact H.Ay (ls:=(⟨2,((x.view.toNat % 6:Nat):Int),(1+((x.k.toNat % 6:Nat):Int)),Req.zero,[],noTag⟩:Bod).vals none 0) rfl rfl rfl (Rd.ofRow (.here _ _ _)) rfl (fun _ s=>s.drop (.here _ _)) ⟨nil0,none,0,rfl,QAt.nil _ _,Dj.nil _,(un_nil _).symm,rfl⟩
  ·have hr1:(!x.raw)=true:=by rw[hraw];rfl
   have hb:x.bodK W n o 1=(⟨2,(W.l.past o).g,votedZ (W.l.past o) (W.l.past o).g+1,Req.zero,[],noTag⟩:Bod):=by simp[A15.bodK,hraw,Bod.zero]
   rw[hb];have hvz:=votedZ_le hwf jA (W.l.past o).g;have hvt:∀(b:Nat) G,Fn prog 67 [.pointer (some ⟨b,0,none⟩),.int .u64 (W.l.past o).g] f (pstH b (W.l.past o)::G) (Ret (.tuple #[.int .i64 (votedZ (W.l.past o) (W.l.past o).g),.bool (PM.voted (W.l.past o).all (W.l.past o).g).isSome]) f (pstH b (W.l.past o)::G)):=fun b G=>pst_voted f G b (W.l.past o) (by have:=hW.l.il o hol;omega) _
   generalize votedZ (W.l.past o) (W.l.past o).g=vz at hvt hvz⊢;refine qgB fun base=>?_;refine qej fun xb=>?_;refine qex fun ob=>?_;refine qho fun bb=>?_;refine qfW ?_;refine qhq ?_;refine H.Bw fun i1 hi1=>?_;obtain⟨V,vp,vc,pp,pc,cp,cc,pb,cs⟩:=i1;have hiF:=hi1.mono hfl;refine qgE ?_
   obtain⟨pbb,poff,hpp0,rdp0⟩:=hiF.past (by show 0<W.l.n;omega);have hpp:pp=some ⟨pbb,poff,none⟩:=hpp0;have rdp:∀ {A:List HP} {r:Nat},r<W.l.n→Rd1 f A pbb (poff+r) (.pointer (some ⟨pb r,0,none⟩)):=fun {A r} hr=>rdp0 (Le.refl f) hr
   clear hpp0 rdp0;refine qet ?_;refine gc ?_;refine H.Ak (b:=pbb) (off:=poff) (i:=o) rfl kd rfl jA hol rfl ?_;refine H.Ad rfl rfl rfl (by rw[Nat.mul_one];exact rdp hol) rfl ?_;refine gK ?_;refine qfT ?_;refine H.Bq hol ?_;refine H.cr (hvt _ _) ?_;refine H.Ca (g:=fun r=>pstH (pb r) (W.l.past r)) hol ?_;refine qhH ?_;refine gg ?_;refine H.Ab (ls:=(⟨2,(W.l.past o).g,vz+1,Req.zero,[],noTag⟩:Bod).vals none 0) rfl rfl rfl (Rd.ofRow (.here _ _ _)) rfl rfl ?_;refine H.Ag (ls:=(Bod.zero 0).vals none 0) (vs:=(⟨2,(W.l.past o).g,vz+1,Req.zero,[],noTag⟩:Bod).vals none 0) (ls':=(⟨2,(W.l.past o).g,vz+1,Req.zero,[],noTag⟩:Bod).vals none 0) rfl rfl rfl (zaa rfl) rfl rfl (Nat.le_refl 76) jB ?_;refine qei ?_;exact H.Ay (ls:=(⟨2,(W.l.past o).g,vz+1,Req.zero,[],noTag⟩:Bod).vals none 0) rfl rfl rfl (Rd.ofRow (.here _ _ _)) rfl (fun _ s=>s.drop (.here _ _)) ⟨nil0,none,0,rfl,QAt.nil _ _,Dj.nil _,(un_nil _).symm,rfl⟩
 ·have hk6:((x.kind.toNat:Nat):Int).tmod 6=2:=zak (b:=6) h;rw[h]
  rcases Bool.eq_false_or_eq_true x.raw with hraw|hraw
  ·have hr1:(!x.raw)=false:=by rw[hraw];rfl
   have hb:x.bodK W n o 2=(⟨3,fix1 (((x.view.toNat % 6:Nat):Int)),0,Req.zero,[],noTag⟩:Bod):=by simp[A15.bodK,hraw,Bod.zero]
   rw[hb];refine qgB fun base=>?_;refine qej fun xb=>?_;refine qex fun ob=>?_;refine qhh fun bb=>?_;refine qgi ?_;by_cases hz:((x.view.toNat % 6:Nat):Int)=0
   ·rw[show fix1 (((x.view.toNat % 6:Nat):Int))=1 from if_pos hz];refine gg ?_;refine H.Ab (ls:=(⟨3,1,0,Req.zero,[],noTag⟩:Bod).vals none 0) rfl rfl rfl (Rd.ofRow (.here _ _ _)) rfl rfl ?_;refine H.Ag (ls:=(Bod.zero 0).vals none 0) (vs:=(⟨3,1,0,Req.zero,[],noTag⟩:Bod).vals none 0) (ls':=(⟨3,1,0,Req.zero,[],noTag⟩:Bod).vals none 0) rfl rfl rfl (zaa rfl) rfl rfl (Nat.le_refl 76) jB ?_;refine qei ?_;exact H.Ay (ls:=(⟨3,1,0,Req.zero,[],noTag⟩:Bod).vals none 0) rfl rfl rfl (Rd.ofRow (.here _ _ _)) rfl (fun _ s=>s.drop (.here _ _)) ⟨nil0,none,0,rfl,QAt.nil _ _,Dj.nil _,(un_nil _).symm,rfl⟩
   ·rw[show fix1 (((x.view.toNat % 6:Nat):Int))=((x.view.toNat % 6:Nat):Int)from if_neg hz];refine gg ?_;refine H.Ab (ls:=(⟨3,((x.view.toNat % 6:Nat):Int),0,Req.zero,[],noTag⟩:Bod).vals none 0) rfl rfl rfl (Rd.ofRow (.here _ _ _)) rfl rfl ?_;refine H.Ag (ls:=(Bod.zero 0).vals none 0) (vs:=(⟨3,((x.view.toNat % 6:Nat):Int),0,Req.zero,[],noTag⟩:Bod).vals none 0) (ls':=(⟨3,((x.view.toNat % 6:Nat):Int),0,Req.zero,[],noTag⟩:Bod).vals none 0) rfl rfl rfl (zaa rfl) rfl rfl (Nat.le_refl 76) jB ?_;refine qei ?_;exact H.Ay (ls:=(⟨3,((x.view.toNat % 6:Nat):Int),0,Req.zero,[],noTag⟩:Bod).vals none 0) rfl rfl rfl (Rd.ofRow (.here _ _ _)) rfl (fun _ s=>s.drop (.here _ _)) ⟨nil0,none,0,rfl,QAt.nil _ _,Dj.nil _,(un_nil _).symm,rfl⟩
  ·have hr1:(!x.raw)=true:=by rw[hraw];rfl
   have hb:x.bodK W n o 2=(⟨3,fix1 ((W.l.past o).g+1+((x.view.toNat % 2:Nat):Int)),0,Req.zero,[],noTag⟩:Bod):=by simp[A15.bodK,hraw,Bod.zero]
   rw[hb];rw[show fix1 ((W.l.past o).g+1+((x.view.toNat % 2:Nat):Int))=(W.l.past o).g+1+((x.view.toNat % 2:Nat):Int)from if_neg jA];refine qgB fun base=>?_;refine qej fun xb=>?_;refine qex fun ob=>?_;refine qhh fun bb=>?_;refine qgi ?_;refine gg ?_;refine H.rem (z:=((x.view.toNat % 2:Nat):Int)) rfl rfl rfl jC (zak (b:=2) rfl) rfl ?_;refine gg ?_;refine H.Ab (ls:=(⟨3,(W.l.past o).g+1+((x.view.toNat % 2:Nat):Int),0,Req.zero,[],noTag⟩:Bod).vals none 0) rfl rfl rfl (Rd.ofRow (.here _ _ _)) rfl rfl ?_;refine H.Ag (ls:=(Bod.zero 0).vals none 0) (vs:=(⟨3,(W.l.past o).g+1+((x.view.toNat % 2:Nat):Int),0,Req.zero,[],noTag⟩:Bod).vals none 0) (ls':=(⟨3,(W.l.past o).g+1+((x.view.toNat % 2:Nat):Int),0,Req.zero,[],noTag⟩:Bod).vals none 0) rfl rfl rfl (zaa rfl) rfl rfl (Nat.le_refl 76) jB ?_;refine qei ?_;exact H.Ay (ls:=(⟨3,(W.l.past o).g+1+((x.view.toNat % 2:Nat):Int),0,Req.zero,[],noTag⟩:Bod).vals none 0) rfl rfl rfl (Rd.ofRow (.here _ _ _)) rfl (fun _ s=>s.drop (.here _ _)) ⟨nil0,none,0,rfl,QAt.nil _ _,Dj.nil _,(un_nil _).symm,rfl⟩
 ·have hk6:((x.kind.toNat:Nat):Int).tmod 6=3:=zak (b:=6) h;rw[h]
  have hq15:=fun G=>q15_fn f G hfl (wb:=wb) (kb:=kb) (lb:=lb) (l:=W.l) hW.l hT (ap:=ap) (m:=m) (ac:=ac) hnn ho (kv:=W.w.kv) hx hq20 (W.l.past o).g;rcases Bool.eq_false_or_eq_true x.raw with hraw|hraw
  ·have hr1:(!x.raw)=false:=by rw[hraw];rfl
   have hb:x.bodK W n o 3=(⟨4,fix1 (((x.view.toNat % 6:Nat):Int)),0,Req.zero,x.qs n W.l.ch (W.w.kv o) (W.l.past o).g,noTag⟩:Bod):=by simp[A15.bodK,hraw,Bod.zero]
   rw[hb];generalize x.qs n W.l.ch (W.w.kv o) (W.l.past o).g=Q at hq15⊢;refine qgB fun base=>?_;refine qej fun xb=>?_;refine qex fun ob=>?_;refine qha fun bb=>?_;refine qfk fun qi=>?_;obtain⟨qp,qc⟩:=qi;refine qkk fun g hg hd=>?_;have hqa:QAt (un f g) qp Q:=ListAt.mono (vals:=pairV) (Le.right hd) (zbi (vals:=pairV) (fun _=>rfl) hg);refine qfl ?_
   refine qfF ?_;by_cases hz:((x.view.toNat % 6:Nat):Int)=0
   ·rw[show fix1 (((x.view.toNat % 6:Nat):Int))=1 from if_pos hz];exact qaA
   ·rw[show fix1 (((x.view.toNat % 6:Nat):Int))=((x.view.toNat % 6:Nat):Int)from if_neg hz];refine gg ?_;refine H.Ab (ls:=(⟨4,((x.view.toNat % 6:Nat):Int),0,Req.zero,Q,noTag⟩:Bod).vals qp qc) rfl rfl rfl (Rd.ofRow (.here _ _ _)) rfl rfl ?_;refine H.Ag (ls:=(Bod.zero 0).vals none 0) (vs:=(⟨4,((x.view.toNat % 6:Nat):Int),0,Req.zero,Q,noTag⟩:Bod).vals qp qc) (ls':=(⟨4,((x.view.toNat % 6:Nat):Int),0,Req.zero,Q,noTag⟩:Bod).vals qp qc) rfl rfl rfl (zaa rfl) rfl rfl (Nat.le_refl 76) jB ?_;refine qei ?_;exact H.Ay (ls:=(⟨4,((x.view.toNat % 6:Nat):Int),0,Req.zero,Q,noTag⟩:Bod).vals qp qc) rfl rfl rfl (Rd.ofRow (.here _ _ _)) rfl (fun _ s=>s.drop (.here _ _)) ⟨g,qp,qc,rfl,hqa,hd,rfl,rfl⟩
  ·have hr1:(!x.raw)=true:=by rw[hraw];rfl
   have hb:x.bodK W n o 3=(⟨4,fix1 ((W.l.past o).g),0,Req.zero,x.qs n W.l.ch (W.w.kv o) (W.l.past o).g,noTag⟩:Bod):=by simp[A15.bodK,hraw,Bod.zero]
   rw[hb];generalize x.qs n W.l.ch (W.w.kv o) (W.l.past o).g=Q at hq15⊢;refine qgB fun base=>?_;refine qej fun xb=>?_;refine qex fun ob=>?_;refine qha fun bb=>?_;refine qfk fun qi=>?_;obtain⟨qp,qc⟩:=qi;refine qkk fun g hg hd=>?_;have hqa:QAt (un f g) qp Q:=ListAt.mono (vals:=pairV) (Le.right hd) (zbi (vals:=pairV) (fun _=>rfl) hg);refine qfl ?_
   refine qfF ?_;by_cases hz:(W.l.past o).g=0
   ·rw[show fix1 ((W.l.past o).g)=1 from if_pos hz];exact qaA
   ·rw[show fix1 ((W.l.past o).g)=(W.l.past o).g from if_neg hz];refine gg ?_;refine H.Ab (ls:=(⟨4,(W.l.past o).g,0,Req.zero,Q,noTag⟩:Bod).vals qp qc) rfl rfl rfl (Rd.ofRow (.here _ _ _)) rfl rfl ?_;refine H.Ag (ls:=(Bod.zero 0).vals none 0) (vs:=(⟨4,(W.l.past o).g,0,Req.zero,Q,noTag⟩:Bod).vals qp qc) (ls':=(⟨4,(W.l.past o).g,0,Req.zero,Q,noTag⟩:Bod).vals qp qc) rfl rfl rfl (zaa rfl) rfl rfl (Nat.le_refl 76) jB ?_;refine qei ?_;exact H.Ay (ls:=(⟨4,(W.l.past o).g,0,Req.zero,Q,noTag⟩:Bod).vals qp qc) rfl rfl rfl (Rd.ofRow (.here _ _ _)) rfl (fun _ s=>s.drop (.here _ _)) ⟨g,qp,qc,rfl,hqa,hd,rfl,rfl⟩
 ·have hk6:((x.kind.toNat:Nat):Int).tmod 6=4:=zak (b:=6) h;rw[h]
  rcases Bool.eq_false_or_eq_true x.raw with hraw|hraw
  ·have hr1:(!x.raw)=false:=by rw[hraw];rfl
   have hb:x.bodK W n o 4=(⟨5,fix1 (((x.view.toNat % 6:Nat):Int)),0,Req.zero,[],noTag⟩:Bod):=by simp[A15.bodK,hraw,Bod.zero]
   rw[hb];refine qgB fun base=>?_;refine qej fun xb=>?_;refine qex fun ob=>?_;refine qgZ fun bb=>?_;refine qge ?_;by_cases hz:((x.view.toNat % 6:Nat):Int)=0
   ·rw[show fix1 (((x.view.toNat % 6:Nat):Int))=1 from if_pos hz];exact qaz
   ·rw[show fix1 (((x.view.toNat % 6:Nat):Int))=((x.view.toNat % 6:Nat):Int)from if_neg hz];refine gg ?_;refine H.Ab (ls:=(⟨5,((x.view.toNat % 6:Nat):Int),0,Req.zero,[],noTag⟩:Bod).vals none 0) rfl rfl rfl (Rd.ofRow (.here _ _ _)) rfl rfl ?_;refine H.Ag (ls:=(Bod.zero 0).vals none 0) (vs:=(⟨5,((x.view.toNat % 6:Nat):Int),0,Req.zero,[],noTag⟩:Bod).vals none 0) (ls':=(⟨5,((x.view.toNat % 6:Nat):Int),0,Req.zero,[],noTag⟩:Bod).vals none 0) rfl rfl rfl (zaa rfl) rfl rfl (Nat.le_refl 76) jB ?_;refine qei ?_;exact H.Ay (ls:=(⟨5,((x.view.toNat % 6:Nat):Int),0,Req.zero,[],noTag⟩:Bod).vals none 0) rfl rfl rfl (Rd.ofRow (.here _ _ _)) rfl (fun _ s=>s.drop (.here _ _)) ⟨nil0,none,0,rfl,QAt.nil _ _,Dj.nil _,(un_nil _).symm,rfl⟩
  ·have hr1:(!x.raw)=true:=by rw[hraw];rfl
   have hb:x.bodK W n o 4=(⟨5,fix1 (lastV W.l.vs),0,Req.zero,[],noTag⟩:Bod):=by simp[A15.bodK,hraw,Bod.zero]
   rw[hb];refine qgB fun base=>?_;refine qej fun xb=>?_;refine qex fun ob=>?_;refine qgZ fun bb=>?_;refine qge ?_;refine qhq ?_;refine H.Bw fun i1 hi1=>?_;obtain⟨V,vp,vc,pp,pc,cp,cc,pb,cs⟩:=i1;have hiF:=hi1.mono hfl;refine qgE ?_
   have hvs:V.map VV.w=W.l.vs:=hi1.vs;have hVl:V.length=W.l.vs.length:=hi1.len
   have hvl:=hW.l.vl
   have hV0:0<V.length:=by
    obtain⟨w0,hw0,_⟩:=hW.l.zero;rw[hVl];exact List.length_pos_of_mem hw0
   obtain⟨X,hX⟩:∃X,V[V.length-1]?=some X:=⟨_,List.getElem?_eq_getElem jA⟩
   have hXv:lastV W.l.vs=X.w.v:=by
    unfold lastV;rw[←hVl,←hvs,List.getElem?_map,hX];rfl
   rw[hXv];refine qfO fun vb hvb=>?_;refine qfl ?_;refine qfF ?_;refine gg ?_;refine qfI ?_;refine qfv ?_;refine H.dc [0,1,2,3,4,5,6,7,8,9,10,11,12,13,14,15,16,17,18] (S:=[_,_,_]) rfl ?_;refine HB.qu [0,1,2,3,4,5,6,7,8,9,10,11,12,13,14,15,16,17,18] 2 ?_;refine gW ?_;refine HQ.Ak (b:=vb) (off:=0) (i:=V.length-1) rfl (by rw[←hvb];rfl) rfl (show((V.length:Int)-1)=((V.length-1:Nat):Int) by omega) (show V.length-1<V.length by omega) rfl ?_;refine gR ?_;refine HQ.Ad rfl rfl rfl (Rd1.of (i:=0) (by rw[Nat.zero_add];exact Rd.slcElem (n:=V.length) (c:=vc) (T:=147) (xs:=V) VV.len jC (by rw[←hvb];exact .there _ (.there _ (.here _ _ _))) hX) rfl) rfl ?_;refine qeC ?_;refine HB.qu [19] 1 ?_;refine qfu ?_;refine HB.ev 20 ?_;refine qfF ?_;refine H.Bb (ls:=(bodW 5 ((x.view.toNat % 6:Nat):Int) 0).vals none 0) (ls':=(bodW 5 X.w.v 0).vals none 0) rfl rfl rfl rfl (.here _ _ _) (.there _ (.here _ _ _)) ?_;refine qeQ ?_;refine qhH ?_;by_cases hz:X.w.v=0
   ·rw[show fix1 (X.w.v)=1 from if_pos hz];exact qaz
   ·rw[show fix1 (X.w.v)=X.w.v from if_neg hz];refine gJ ?_;refine H.Ab (ls:=(⟨5,X.w.v,0,Req.zero,[],noTag⟩:Bod).vals none 0) rfl rfl rfl (Rd.ofRow (.here _ _ _)) rfl rfl ?_;refine H.Ag (ls:=(Bod.zero 0).vals none 0) (vs:=(⟨5,X.w.v,0,Req.zero,[],noTag⟩:Bod).vals none 0) (ls':=(⟨5,X.w.v,0,Req.zero,[],noTag⟩:Bod).vals none 0) rfl rfl rfl (zaa rfl) rfl rfl (Nat.le_refl 76) jB ?_;refine qei ?_;exact H.Ay (ls:=(⟨5,X.w.v,0,Req.zero,[],noTag⟩:Bod).vals none 0) rfl rfl rfl (Rd.ofRow (.here _ _ _)) rfl (fun _ s=>s.drop (.here _ _)) ⟨nil0,none,0,rfl,QAt.nil _ _,Dj.nil _,(un_nil _).symm,rfl⟩
 ·have hk6:((x.kind.toNat:Nat):Int).tmod 6=5:=zak (b:=6) h;rw[h]
  show Fn _ _ _ f _ (BodP f _ (⟨6,0,(1+((x.k.toNat % 6:Nat):Int)),Req.zero,[],dig0 x.key⟩:Bod));refine qgB fun base=>?_;refine qej fun xb=>?_;refine qex fun ob=>?_;refine qef ?_;repeat(first|(refine H.Ax (t:=52) (out:=(bodW 6 ((x.view.toNat % 6:Nat):Int) (1+((x.k.toNat % 6:Nat):Int))).vals none 0) rfl rfl rfl jD rfl ?_)|(refine gh ?_))
  refine qex fun bb=>?_;refine H.Ag (ls:=(Bod.zero 0).vals none 0) (vs:=(bodW 6 ((x.view.toNat % 6:Nat):Int) (1+((x.k.toNat % 6:Nat):Int))).vals none 0) (ls':=(bodW 6 ((x.view.toNat % 6:Nat):Int) (1+((x.k.toNat % 6:Nat):Int))).vals none 0) rfl rfl rfl (zaa rfl) rfl rfl (Nat.le_refl 76) (.here _ _ _) ?_;refine qep ?_;refine gc ?_;refine H.Ao (i:=0) rfl rfl rfl rfl jC rfl ?_;refine gg ?_;refine H.Ab (ls:=(⟨6,0,(1+((x.k.toNat % 6:Nat):Int)),Req.zero,[],dig0 x.key⟩:Bod).vals none 0) rfl rfl rfl (Rd.ofRow (.here _ _ _)) rfl rfl ?_;refine H.Ag (ls:=(Bod.zero 0).vals none 0) (vs:=(⟨6,0,(1+((x.k.toNat % 6:Nat):Int)),Req.zero,[],dig0 x.key⟩:Bod).vals none 0) (ls':=(⟨6,0,(1+((x.k.toNat % 6:Nat):Int)),Req.zero,[],dig0 x.key⟩:Bod).vals none 0) rfl rfl rfl (zaa rfl) rfl rfl (Nat.le_refl 76) jB ?_;refine qei ?_;exact H.Ay (ls:=(⟨6,0,(1+((x.k.toNat % 6:Nat):Int)),Req.zero,[],dig0 x.key⟩:Bod).vals none 0) rfl rfl rfl (Rd.ofRow (.here _ _ _)) rfl (fun _ s=>s.drop (.here _ _)) ⟨nil0,none,0,rfl,QAt.nil _ _,Dj.nil _,(un_nil _).symm,rfl⟩
end
structure W15P where
 kb:Nat
 lb:Nat
 ap:Option Addr
 ac:Nat
 l:List MV
def w15φ(e:Frag)(W:W15)(i:W15P):Prop:=i.l.map MV.m=W.w.all∧∀y∈i.l,y.Good e
def w15B(e:Frag)(wb n:Nat)(W:W15)(i:W15P):List HP:=[row wb 32 (w15C i.kb n i.ap i.l.length i.ac i.lb),row i.kb 37 (kRow n W.w.kv),slc i.ap i.l.length i.ac 54 121 (i.l.flatMap MV.vals),logsH e i.lb W.l]
def wH15(e:Frag)(wb n:Nat)(W:W15):HP:=pack (w15φ e W) (w15B e wb n W)
theorem w15_fold{e:Frag}{F:List HP}(i:W15P)(h:w15φ e W i):∀x,stars (w15B e wb n W i++F) x→stars (wH15 e wb n W::F) x:=fun x hx=>pack_fold (φ:=w15φ e W) (B:=w15B e wb n W) i h x hx
variable {f g:Frag}
theorem w15_mono(h:Le f g):∀x,wH15 f wb n W x→wH15 g wb n W x:=fun _ ⟨i,hi,hx⟩=>⟨i,⟨hi.1,fun y hy=>(hi.2 y hy).mono h⟩,by
 obtain⟨m1,m2,d1,e1,a1,m3,m4,d2,e2,a2,m5,m6,d3,e3,a3,m7,m8,d4,e4,a4,r4⟩:=hx
 exact⟨m1,m2,d1,e1,a1,m3,m4,d2,e2,a2,m5,m6,d3,e3,a3,m7,m8,d4,e4,logsH_mono h _ a4,r4⟩⟩
variable {A:List HP}
theorem w15_up(h:Le f g):∀x,stars (wH15 f wb n W::A) x→stars (wH15 g wb n W::A) x:=fun _ ⟨h1,h2,hd,he,ha,hr⟩=>⟨h1,h2,hd,he,w15_mono h _ ha,hr⟩
def DoP(f:Frag)(F:List HP)(wb n:Nat)(W:W15):Value→Frag→List HP→Prop:=fun v f' A'=>∃(g:Frag) (M:Msg) (qp:Option Addr) (qc:Nat),Dj f g∧v= .agg (M.vals qp qc).toArray∧f'=un f g∧A'=wH15 f' wb n W::F
section
variable (f:Frag) (F:List HP)
theorem do_fn(hfl:Le fl f)(hn3:3≤n∧n≤11)(hW:WI n W T)(hT:T≤900)(hal:W.w.all.length≤900)(hx:x.Has f)(hq20:x.q.length≤20):Fn prog 19 [.pointer (some ⟨wb,0,none⟩),.agg x.vals.toArray] f (wH15 fl wb n W::F) (DoP f F wb n (W.act n x)):=by
 refine qjW fun i0 hi=>?_;obtain⟨kb,lb,ap,ac,l⟩:=i0;have hlm:l.map MV.m=W.w.all:=hi.1;have hlg:∀y∈l,y.Good fl:=hi.2
 have hll:l.length≤900:=by
  have:=congrArg List.length hlm;rw[List.length_map]at this
  omega
 have hn0:((n:Nat):Int)≠0:=jA
 have ho:x.who.toNat % n<n:=Nat.mod_lt _ jA;have hkv:=hW.w.kv_le ho
 have hwho:=x.who.toNat_lt;have hoth:=x.other.toNat_lt
 have hj:x.other.toNat % n<n:=Nat.mod_lt _ jA;show Fn _ _ _ f (row wb 32 (w15C kb n ap l.length ac lb)::row kb 37 (kRow n W.w.kv)::slc ap l.length ac 54 121 (l.flatMap MV.vals)::logsH fl lb W.l::F) _
 refine Fn.e2 func19 ntmps19 fun base=>?_;refine qej fun xb=>?_;refine qfe fun ob=>?_;refine gc ?_;refine H.rem (z:=((x.who.toNat % n:Nat):Int)) rfl rfl rfl hn0 (zak (a:=x.who.toNat) (b:=n) rfl) rfl ?_;refine gc ?_
 cases hmt:x.meet with
 | true =>
  have hact:W.act n x= {W with w:=W.w.meet (x.who.toNat % n) (x.other.toNat % n)}:=by unfold W15.act;rw[if_pos hmt]
  rw[hact];refine gc ?_;refine H.rem (z:=((x.other.toNat % n:Nat):Int)) rfl rfl rfl hn0 (zak (a:=x.other.toNat) (b:=n) rfl) rfl ?_;refine gT ?_;generalize hoe:x.who.toNat % n=o at *;generalize hje:x.other.toNat % n=j at *;have ho11:o<11:=jA
  refine qeE ?_
  refine H.loop (ι:=Nat) (fun i=>[(8,.int .i64 (i:Int)),(6,.int .i64 (1+(o:Int))),(7,.int .i64 (j:Int)),(0,.pointer (some ⟨wb,0,none⟩)),(4,.pointer (some ⟨ob,0,none⟩))]) (fun _=>f)
   (fun i=>row wb 32 (w15C kb n ap l.length ac lb)::row kb 37 (kRow n (raised W.w.kv o j i))::row ob 54 (msgZ.vals none 0)::row xb 71 x.vals::slc ap l.length ac 54 121 (l.flatMap MV.vals)::logsH fl lb W.l::F)
   (fun i=>i≤11) (fun i=>11-i) 0 (Nat.zero_le _) ⟨rfl,rfl,rfl,rfl,rfl,trivial⟩ rfl (by rw[raised_zero]) fun i hi2=>?_
  have hi2:i≤11:=hi2;by_cases hi11:i<11
  ·have hro:=raised_o W.w.kv o j i;have hrj:=raised_j W.w.kv o j i
   have hrn:=raised_next W.w.kv o j i;have hg1:=kRow_get (kv:=raised W.w.kv o j i) ho hi11
   have hg2:=kRow_get (kv:=raised W.w.kv o j i) hj hi11;rw[hro]at hg1
   rw[hrj]at hg2;have hset:=kRow_set (kv:=raised W.w.kv o j i) (maxV (W.w.kv o) (W.w.kv j) i) ho hi11;rw[hrn]at hset
   have hoo:(1:Int)+(o:Int)-1=(o:Nat):=jA
   refine gG ?_;refine H.dc [0,1,2,3,4,5,6,7,8,9,10,11,12,13,14,15,16,17,18,19,20,21,22,23,24,25,26,27,28] (S:=[_,_]) rfl ?_;refine HB.qu [0,1,2,3,4,5,6,7,8,9,10,11,12,13,14,15,16,17,18,19,20,21,22,23,24,25,26,27,28] 1 ?_;refine gW ?_;refine qkt ?_;refine qiD ?_;refine HQ.Ad rfl rfl rfl (.at0 (Rd.ofRow (.there _ (.here _ _ _))) (by rw[Nat.zero_add,Nat.mul_one];exact hg1)) rfl ?_;refine gR ?_;refine HQ.Ak (i:=j) rfl rfl rfl rfl hj rfl ?_;refine qiD ?_;refine HQ.Ad rfl rfl rfl (.at0 (Rd.ofRow (.there _ (.here _ _ _))) (by rw[Nat.zero_add,Nat.mul_one];exact hg2)) rfl ?_;refine HQ.max2 (z:=maxV (W.w.kv o) (W.w.kv j) i) rfl rfl rfl rfl rfl ?_;refine qkt ?_;refine qiD ?_;refine qeC ?_;refine HB.ev 29 ?_;refine H.Bb (v:=.int .u64 (maxV (W.w.kv o) (W.w.kv j) i)) (ls:=kRow n (raised W.w.kv o j i)) (ls':=kRow n (raised W.w.kv o j (i+1))) rfl rfl rfl rfl (.there _ (.here _ _ _)) jb ?_;refine qjh ?_;exact H.ag (i+1) ke jV
  ·have e:i=11:=jA
   subst e;rw[raised_end];refine qhS ?_;refine qip ?_;exact H.Ay (ls:=msgZ.vals none 0) rfl rfl rfl (Rd.ofRow (.here _ _ _)) rfl (fun _ s=>(s.drop (.here _ _)).imp (fun z hz=>w15_up hfl z (w15_fold (W:={W with w:=W.w.meet o j}) ⟨kb,lb,ap,ac,l⟩ ⟨hlm,hlg⟩ z hz))) ⟨nil0,_,_,_,Dj.nil _,rfl,(un_nil f).symm,rfl⟩
 | false =>
  refine gV ?_;generalize hoe:x.who.toNat % n=o at *;have ho11:o<11:=jA
  have hoo:(1:Int)+(o:Int)-1=(o:Nat):=jA
  have ho1:(1:Int)+(o:Int)=((o+1:Nat):Int):=jA
  have hact:W.act n x=if(W.next n o x).may=true then⟨W.w.say o (W.next n o x).signed,(W.l.take (W.next n o x).signed).2⟩else W:=by
   unfold W15.act;rw[if_neg (by rw[hmt];decide),hoe]
  have hgk0:=kRow_get (kv:=W.w.kv) ho ho11;have hko:=hkv o
  have hbody:=fun G=>body15_fn f G hfl (wb:=wb) (kb:=kb) (lb:=lb) hW jA (ap:=ap) (m:=l.length) (ac:=ac) ho hx hq20;refine qhq ?_
  refine qeE ?_;refine qfl ?_
  refine H.cut (ι:=Frag×Option Addr×Nat×Nat) (fun s=>[(9,.pointer (some ⟨s.2.2.2,0,none⟩)),(6,.int .i64 (1+(o:Int))),(0,.pointer (some ⟨wb,0,none⟩)),(4,.pointer (some ⟨ob,0,none⟩))]) (fun s=>un f s.1)
   (fun s=>row xb 71 x.vals::row s.2.2.2 54 ((W.next n o x).vals s.2.1 s.2.2.1)::row ob 54 (msgZ.vals none 0)::row wb 32 (w15C kb n ap l.length ac lb)::row kb 37 (kRow n W.w.kv)::logsH fl lb W.l::slc ap l.length ac 54 121 (l.flatMap MV.vals)::F)
   (fun s=>QAt (un f s.1) s.2.1 (W.next n o x).body.q∧Dj f s.1) _ (fun s hs=>?_) ?_
  ·obtain⟨g,qp,qc,mb⟩:=s;obtain⟨hqat,hd⟩:QAt (un f g) qp (W.next n o x).body.q∧Dj f g:=hs;have hle2:=Le.un f g;have hql:=(x.bod_q hW jA (o:=o)).1
   have hgood:(⟨W.next n o x,qp,qc⟩:MV).Good (un f g):=⟨hqat,by show(x.bod W n o).q.length≤_;omega,A15.bod_ok hW jA ho x⟩;have hmsg:=good_signed hgood
   have hmay:=fun H=>rmmay_fn (un f g) H hgood;have hsg:=fun H=>rtagged_fn (un f g) H (m:=W.next n o x) (q:=qp) (qc:=qc) hgood.1 (by show(x.bod W n o).q.length≤_;omega)
   show H _ _ _ [_,_,_,_] (un f g) (_::row mb _ ((W.next n o x).vals qp qc)::_::_::_::_::_::F) _;refine gA ?_;refine qkT ?_;refine H.cr (hmay _) ?_;refine qhb ?_
   cases hmy:(W.next n o x).may with
   | false =>
    rw[hact,if_neg (by rw[hmy];decide)];refine qhS ?_;refine qeD ?_;refine H.pf (x:=slc ap _ ac _ _ _) ?_;refine qeE ?_;refine qip ?_;exact H.Ay (ls:=msgZ.vals none 0) rfl rfl rfl (Rd.ofRow (.here _ _ _)) rfl (fun _ s=>(s.drop (.here _ _)).imp (fun z hz=>w15_up (hfl.trans hle2) z (w15_fold ⟨kb,lb,ap,ac,l⟩ ⟨hlm,hlg⟩ z hz))) ⟨g,_,_,_,hd,rfl,rfl,rfl⟩
   | true =>
    rw[hact,if_pos hmy];generalize hms:(W.next n o x).signed=ms at *;have htake:=fun H=>take_fn (un f g) H (hfl.trans hle2) (lb:=lb) hW.l jA (x:=⟨ms,qp,qc⟩) hmsg;refine gV ?_
    refine qkT ?_;refine H.cr (hsg _) ?_;refine H.Ag (ls:=(W.next n o x).vals qp qc) (vs:=ms.vals qp qc) (ls':=ms.vals qp qc) rfl rfl rfl (zaa rfl) rfl rfl (Nat.le_refl 121) (.there _ (.here _ _ _)) ?_;refine gA ?_;refine qfv ?_;refine qer ?_;refine qgm ?_;refine HB.qu [0,1,2,3,4] 1 ?_;refine gR ?_;refine HQ.Ab (ls:=ms.vals qp qc) rfl rfl rfl (Rd.ofRow (.here _ _ _)) rfl rfl ?_;refine qel ?_;refine HB.ev 5 ?_;refine qhq ?_;refine H.cl (htake _) fun v f' A' hr=>?_;obtain⟨g2,hd2,rfl,rfl,rfl⟩:=hr;refine gA ?_;refine qfv ?_;refine qer ?_;refine H.on [] (Le.un _ g2) rfl ?_;refine HB.dn ?_;refine gA ?_;refine qhw ?_;refine HQ.Ab (ls:=ms.vals qp qc) rfl rfl rfl (Rd.ofRow (.here _ _ _)) rfl rfl ?_;refine qiI ?_;refine H.Am (out:=ms.vals qp qc) rfl rfl rfl rfl jC jC rfl rfl fun eb=>?_;refine gA ?_;refine qfv ?_;refine qjZ ?_;refine HB.ev 7 ?_;refine H.Ar (sz:=121) (p:=ap) (n0:=l.length) (c:=ac) (xs:=l.flatMap MV.vals) (m:=1) (news:=ms.vals qp qc) rfl rfl rfl rfl rfl (fun p' c'=>jB) (Src.slice (Rd.ofRow jB) rfl) (zaa rfl) rfl jA jA fun ap2 ac2=>?_;refine qeW ?_;refine H.Bb (ls:=w15C kb n ap l.length ac lb) (ls':=w15C kb n ap2 (l.length+1) ac2 lb) rfl rfl rfl rfl (.there _ (.here _ _ _)) (.there _ (.here _ _ _)) ?_;refine qk ?_;have hset:=kRow_set (kv:=W.w.kv) (W.w.kv o o+1) ho ho11;refine qeE ?_
    refine qit ?_;refine qhF ?_;refine HQ.Ad rfl rfl rfl (.at0 (Rd.ofRow (.there _ (.here _ _ _))) kZ) rfl ?_;refine gL ?_;refine qhF ?_;refine qeC ?_;refine HB.ev 14 ?_;refine H.Bb (v:=.int .u64 (W.w.kv o o+1)) (ls:=kRow n W.w.kv) (ls':=kRow n (W.w.say o ms).kv) rfl rfl rfl rfl (.there _ (.here _ _ _)) jb ?_;refine qeQ ?_;refine qja ?_;refine H.Ab (ls:=ms.vals qp qc) rfl rfl rfl (Rd.ofRow (.here _ _ _)) rfl rfl ?_;refine H.Ag (ls:=msgZ.vals none 0) (vs:=ms.vals qp qc) (ls':=ms.vals qp qc) rfl rfl rfl (zaa rfl) rfl rfl (Nat.le_refl 121) jB ?_;refine gT ?_;refine qgV ?_;refine qeD ?_;refine qhq ?_;refine H.pf (x:=slc ap2 _ ac2 _ _ _) ?_;refine qeE ?_;refine qip ?_;have hle3:=Le.un (un f g) g2
    have hφ:w15φ (un (un f g) g2) ⟨W.w.say o ms,(W.l.take ms).2⟩ ⟨kb,lb,ap2,ac2,l++[⟨ms,qp,qc⟩]⟩:=by
     refine⟨?_,fun y hy=>?_⟩
     ·show(l++[(⟨ms,qp,qc⟩:MV)]).map MV.m=W.w.all++[ms];rw[List.map_append,hlm];rfl
     ·rcases List.mem_append.1 hy with h|h
      ·exact(hlg y h).mono ((hfl.trans hle2).trans hle3)
      ·rw[List.mem_singleton.1 h];exact hmsg.mono hle3
    have hsl:slc ap2 (l.length+1) ac2 54 121 (l.flatMap MV.vals++ms.vals qp qc)=slc ap2 (l++[(⟨ms,qp,qc⟩:MV)]).length ac2 54 121 ((l++[(⟨ms,qp,qc⟩:MV)]).flatMap MV.vals):=slc_snoc (y:=(⟨ms,qp,qc⟩:MV));have hfold:=w15_fold (F:=F) (wb:=wb) (n:=n) _ hφ
    exact H.Ay (ls:=ms.vals qp qc) rfl rfl rfl (Rd.ofRow (.here _ _ _)) rfl (fun _ s=>(s.drop (.here _ _)).imp (fun z hz=>hfold z (by
     rw[hsl]at hz;show stars (row wb _ (w15C kb n ap2 (l++[(⟨ms,qp,qc⟩:MV)]).length ac2 lb)::_) z;rw[List.length_append];rw[List.length_append]at hz
     exact hz))) ⟨un g g2,_,_,_,Dj.un3' hd hd2,rfl,zba _ _ _,rfl⟩
  ·refine qkc ?_;refine HB.qu [0,1,2,3,4,5,6,7,8,9,10,11,12,13,14,15,16,17,18,19,20,21,22,23] 4 ?_;refine gW ?_;refine qhF ?_;refine HQ.Ad rfl rfl rfl (.at0 (Rd.ofRow (.there _ (.there _ (.here _ _ _)))) kZ) rfl ?_;refine gW ?_;refine qkt ?_;refine HQ.Ab (ls:=v11 (W.w.kv o)) rfl rfl rfl (by rw[Nat.zero_add];exact Rd.kRow (Rd.ofRow (.there _ (.there _ (.here _ _ _)))) ho) rfl rfl ?_;refine gB ?_;refine qgH ?_;refine qel ?_;refine HB.ev2 (i:=24) (j:=26) jD rfl rfl ?_ ?_
   ·refine qeE ?_;refine qhq ?_;rw[ho1];refine H.cl (hbody _) fun v f' A' hr=>?_;obtain⟨g,qp,qc,rfl,hqat,hd,rfl,rfl⟩:=hr;refine qkb ?_;refine H.on [] (Le.un _ g) rfl ?_;refine HB.qu [25] 2 ?_;refine qky ?_;refine HB.ev 26 ?_;refine qfe fun mb=>?_;refine qkb ?_;refine qeM ?_;exact qaG
   ·refine qfe fun mb=>?_;refine qkb ?_;refine qeM ?_;refine HB.ev 24 ?_;refine qeE ?_;refine qhq ?_;rw[ho1];refine H.cl (hbody _) fun v f' A' hr=>?_;obtain⟨g,qp,qc,rfl,hqat,hd,rfl,rfl⟩:=hr;refine qkb ?_;refine H.on [] (Le.un _ g) rfl ?_;refine HB.qu [25] 1 ?_;refine qky ?_;exact qaG
end
def few15(l:List A15):Bool:=decide (l.length≤100)&&l.all fun x=>decide (x.q.length≤20)
variable {l:List A15}
theorem few15_all(h:few15 l=true):l.length≤100∧∀x∈l,x.q.length≤20:=by
 unfold few15 at h;simp only[Bool.and_eq_true,decide_eq_true_eq,List.all_eq_true]at h;exact h
theorem A15.Has.mono(h:Le f g)(hx:x.Has f):x.Has g:=by
 rcases hx with e|⟨b,off,cs,T,fr,h1,h2,h3⟩
 ·exact .inl e
 ·exact .inr ⟨b,off,cs,T,fr,h1,h _ _ h2,h3⟩
def Acts15P(f:Frag)(F:List HP)(n:Nat)(W:W15):Value→Frag→List HP→Prop:=fun v f' A'=>∃(g:Frag) (wb:Nat),v= .pointer (some ⟨wb,0,none⟩)∧Dj f g∧f'=un f g∧A'=wH15 f' wb n W::F
variable {p:Option Addr} {c:Nat}
section
variable (f:Frag) (F:List HP)
theorem odd15_fn(n8:UInt8):Fn prog 18 [.int .u8 (n8.toNat:Nat)] f F (Ret (.int .i64 ((3+2*(n8.toNat % 5):Nat):Int)) f F):=by
 have h:=n8.toNat_lt;have hm:((n8.toNat % 5:Nat):Int)≤4:=jA
 refine Fn.e1 func18 ntmps18 fun base=>?_;refine gK ?_;refine H.rem (z:=((n8.toNat % 5:Nat):Int)) rfl rfl rfl jC (zak (b:=5) rfl) rfl ?_;refine gV ?_;refine H.Ae rfl rfl iD ⟨?_,rfl,rfl⟩;congr 1
theorem few15_fn(hat:ListAt f p 12 A15.vals l)(hl:l.length≤9223372036854775807):Fn prog 7 [.slice p l.length c] f F (Ret (.bool (few15 l)) f F):=by
 by_cases h30:l.length≤100
 ·refine Fn.e1 func7 ntmps7 fun base=>?_;refine gZ ?_;refine H.lo (ι:=Nat) (fun i=>[(3,.int .i64 (i:Int)),(0,.slice p l.length c)]) (fun _=>f) (fun _=>F) (fun i=>i≤l.length∧∀j x,j<i→l[j]?=some x→x.q.length≤20) (fun i=>l.length-i) 0 ⟨Nat.zero_le _,fun j x hj=>by omega⟩ fun i hi=>?_;obtain⟨hi,hb⟩:i≤l.length∧∀j x,j<i→l[j]?=some x→x.q.length≤20:=hi;by_cases hlt:i<l.length
  ·have hx:l[i]?=some l[i]:=List.getElem?_eq_getElem hlt;generalize l[i]=x at hx
   obtain⟨b,off,cs,T,fr,rfl,hfb,hcs⟩:=hat i x hx;have rd:∀A,Rd f A b (off+i*12) x.vals:=fun A=>Rd.imm hfb hcs;refine qjy ?_
   refine gH ?_;refine H.Ad rfl rfl rfl (Rd1.of (i:=10) (rd _) rfl) rfl ?_;refine gG ?_;by_cases hq:x.q.length≤20
   ·skip;refine gZ ?_;refine H.ag (i+1) ⟨by show i+1≤l.length;omega,fun j y hj hy=>?_⟩ jZ;by_cases e:j=i
    ·subst e;rw[hx]at hy;cases hy;exact hq
    ·exact hb j y jA hy
   ·skip;refine gG ?_;refine H.Ae rfl rfl iD ⟨?_,rfl,rfl⟩
    have:few15 l=false:=by
     unfold few15;rw[Bool.and_eq_false_iff];exact .inr (List.all_eq_false.2 ⟨x,List.mem_of_getElem? hx,by rw[decide_eq_false hq];decide⟩)
    rw[this]
  ·refine gZ ?_;refine H.Ae rfl rfl iD ⟨?_,rfl,rfl⟩
   have:few15 l=true:=by
    unfold few15;rw[decide_eq_true h30,Bool.true_and,List.all_eq_true];intro x hx;obtain⟨j,hj⟩:=List.getElem?_of_mem hx;have hjl:=(List.getElem?_eq_some_iff.1 hj).1;exact decide_eq_true (hb j x jA hj)
   rw[this]
 ·refine Fn.e1 func7 ntmps7 fun base=>?_;refine gG ?_;refine H.Ae rfl rfl iD ⟨?_,rfl,rfl⟩;have:few15 l=false:=by unfold few15;rw[decide_eq_false h30];rfl
  rw[this]
theorem nworld_fn(h:fewZ (n:Int)):Fn prog 17 [.int .i64 (n:Int)] f F (Acts15P f F n (W15.zero n)):=by
 have hn:n≤11:=by have:=h.2.1;omega
 refine Fn.e1 func17 ntmps17 fun base=>?_;refine gK ?_;refine H.Aq rfl rfl rfl (lgnew_fn f _ h) fun v f' A' hr=>?_;obtain⟨g,lb,hd,rfl,rfl,rfl⟩:=hr;refine gY ?_;refine H.makeS (m:=n) (zs:=v11 fun _=>0) rfl rfl rfl rfl rfl rfl rfl jC jA jA rfl fun kb=>?_;rw[kRow_zero];repeat(first|(refine H.Ax (t:=32) (out:=w15C kb n none 0 0 lb) rfl rfl rfl jD rfl ?_)|(refine gh ?_))
 refine H.box (ls:=w15C kb n none 0 0 lb) rfl rfl rfl rfl fun wb=>?_;refine gT ?_;refine qhq ?_;refine H.slc0 54 121 ?_;refine qeE ?_;refine H.imp (w15_fold (e:=un f g) (n:=n) (W:=W15.zero n) ⟨kb,lb,none,0,[]⟩ ⟨rfl,fun y hy=>by cases hy⟩) ?_;exact H.r1 ⟨g,wb,rfl,hd,rfl,rfl⟩
theorem acts15_fn{n8:UInt8}(hn8:n=3+2*(n8.toNat % 5)){xs:List A15}(hat:ListAt f p 12 A15.vals xs)(hh:∀x∈xs,x.Has f∧x.q.length≤20)(hl:xs.length≤100):Fn prog 9 [.int .u8 (n8.toNat:Nat),.slice p xs.length c] f F (Acts15P f F n (world15 n xs)):=by
 have hn3:3≤n∧n≤11:=jA
 have hodd:=fun G=>odd15_fn f G n8;rw[←hn8]at hodd
 have hfz:fewZ (n:Int):=⟨by omega,by omega,by
  rw[show(2:Int)=((2:Nat):Int)from rfl,zak (a:=n) (b:=2) (r:=1) jA];rfl⟩
 refine Fn.e2 func9 ntmps9 fun base=>?_;refine gK ?_;refine H.cr (hodd _) ?_;refine H.Aq rfl rfl rfl (nworld_fn f _ hfz) fun v f' A' hr=>?_;obtain⟨g0,wb,rfl,hd0,rfl,rfl⟩:=hr;refine gT ?_
 refine H.lo (ι:=Nat×Frag) (fun s=>[(6,.int .i64 (s.1:Int)),(1,.slice p xs.length c),(5,.pointer (some ⟨wb,0,none⟩))]) (fun s=>un f s.2)
  (fun s=>wH15 (un f s.2) wb n (world15 n (xs.take s.1))::F)
  (fun s=>s.1≤xs.length∧Dj f s.2) (fun s=>xs.length-s.1) (0,g0) ⟨Nat.zero_le _,hd0⟩ fun s hs=>?_
 obtain⟨k,G⟩:=s;obtain⟨hk,hdj⟩:k≤xs.length∧Dj f G:=hs;show H _ _ _ [(6,.int .i64 (k:Int)),_,_] (un f G) (wH15 (un f G) wb n (world15 n (xs.take k))::F) _;by_cases hlt:k<xs.length
 ·obtain⟨x,hx⟩:∃x,xs[k]?=some x:=⟨_,List.getElem?_eq_getElem hlt⟩;have hnext:world15 n (xs.take (k+1))=(world15 n (xs.take k)).act n x:=by rw[take_snoc hx,world15_snoc]
  obtain⟨hxa,hxq⟩:=hh x (List.mem_of_getElem? hx);obtain⟨b,off,cs,T,fr,rfl,hfb,hcs⟩:=hat k x hx;have rd:∀A,Rd (un f G) A b (off+k*12) x.vals:=fun A=>Rd.imm (Le.un f G b _ hfb) hcs;have hinv:=world15_inv hn3.1 hn3.2 xs k jA
  have hwl:=world15_len n xs k;refine gG ?_
  refine H.Ak (i:=k) rfl rfl rfl rfl hlt rfl ?_;refine H.Ab (ls:=x.vals) rfl rfl rfl (rd _) rfl rfl ?_;refine H.Aq rfl rfl rfl (do_fn (un f G) _ (Le.refl _) hn3 hinv jA jA (hxa.mono (Le.un f G)) hxq) fun v f' A' hr=>?_;obtain⟨g,M,qp,qc,hd,rfl,rfl,rfl⟩:=hr;refine gV ?_;refine H.Av (k+1,un G g) ⟨by show k+1≤xs.length;omega,Dj.un3' hdj hd⟩ (by show xs.length-(k+1)<xs.length-k;omega) ⟨rfl,rfl,rfl,trivial⟩ (zba _ _ _) ?_;show wH15 (un (un f G) g) wb n _::F=wH15 (un f (un G g)) wb n (world15 n (xs.take (k+1)))::F;rw[hnext,zba]
 ·have e:k=xs.length:=jA
  subst e;rw[List.take_length];refine gZ ?_;exact H.r1 ⟨G,wb,rfl,hdj,rfl,rfl⟩
end
theorem H.world15{P:Program}{base:World}{L:Env}{K:Kont}
  (h:∀g kb ap ac lb (l:List MV),Dj f g→WAt (un f g) n W.w kb ap l→H P base m L (un f g) (row wb 32 (w15C kb n ap l.length ac lb)::A) K):H P base m L f (wH15 f wb n W::A) K:=by
 refine H.Bw fun i hi=>?_;obtain⟨kb,lb,ap,ac,l⟩:=i;show H P base m L f (row wb 32 (w15C kb n ap l.length ac lb)::row kb 37 (kRow n W.w.kv)::slc ap l.length ac 54 121 (l.flatMap MV.vals)::logsH f lb W.l::A) K;refine H.Ch (.there _ (.here _ _)) fun g1 hg1 hd1=>?_;refine H.Ch (.there _ (.here _ _)) fun g2 hg2 hd2=>?_;refine qjF ?_;have hd3:Dj f (un g1 g2):=Dj.un3' hd1 hd2;rw[zba]
 have hle:Le f (un f (un g1 g2)):=Le.un _ _;have h1:KAt (un f (un g1 g2)) kb n W.w.kv:=by rw[←zba];exact(KAt.of hg1 hd1).mono (Le.un _ g2)
 have h2:ListAt (un f (un g1 g2)) ap 121 MV.vals l:=by rw[←zba];exact(zbi MV.len hg2).mono (Le.right hd2)
 exact h (un g1 g2) kb ap ac lb l hd3 ⟨h1,h2,fun y hy=>(hi.2 y hy).mono hle,hi.1⟩
section
variable (f:Frag) (F:List HP)
end
end Go.Proofs.YtkaknokcbhiigaaGreatDoor

namespace Go.Proofs.YtkaknokcbhiigaaGreatDoor
open Go Go.Proofs.Tryz Go.ChangeShapes Go.WideShapes Go.RowKit Go.Deep
variable {W:World} {cs:List Value}
theorem Reads.bool{P:Program}{t:TypeId}(ht:P.underlying t=some .bool)(h:Reads P W t cs):∃b,cs=[.bool b]:=by
 obtain⟨H',enc,b,sp,hd,n,x,h⟩:=h;obtain⟨z,h1,_⟩:=DataW.trod_bool ht h;exact⟨z,h1⟩
theorem Reads.u8(h:Reads prog W 5 cs):∃x:UInt8,cs=[.int .u8 (x.toNat:Nat)]:=by
 obtain⟨x,_,e⟩:=reads_byte h;exact⟨x,e⟩
variable {v:Value}
theorem ArgOk.u8(h:ArgOk prog W 5 v):∃x:UInt8,v= .int .u8 (x.toNat:Nat):=by
 obtain⟨z,rfl,hz⟩:=h.int underlying5;exact⟨UInt8.ofNat z.toNat,by rw[u8_back hz]⟩
theorem AllReads.cons{P:Program}{W:World}{t:TypeId}{ts:List TypeId}{ps:List (List Value)}(h:AllReads P W (t::ts) ps):∃p q,ps=p::q∧Reads P W t p∧AllReads P W ts q:=by
 cases ps with
 |nil=>exact h.elim
 |cons p q=>exact⟨p,q,rfl,h.1,h.2⟩
theorem AllReads.nil{P:Program}{W:World}{ps:List (List Value)}(h:AllReads P W [] ps):ps=[]:=by
 cases ps with
 |nil=>rfl
 |cons p q=>exact h.elim
theorem reads_a15(h:Reads prog W 71 cs):∃x:A15,x.Has (memOf W)∧cs=x.vals:=by
 obtain⟨ps,rfl,hh⟩:=h.parts underlying71 jD;have h:AllReads prog W [5,5,4,4,5,5,5,5,5,5,23,4] ps:=hh;obtain⟨p0,q0,rfl,r0,h⟩:=h.cons
 obtain⟨p1,q1,rfl,r1,h⟩:=h.cons;obtain⟨p2,q2,rfl,r2,h⟩:=h.cons;obtain⟨p3,q3,rfl,r3,h⟩:=h.cons;obtain⟨p4,q4,rfl,r4,h⟩:=h.cons;obtain⟨p5,q5,rfl,r5,h⟩:=h.cons;obtain⟨p6,q6,rfl,r6,h⟩:=h.cons;obtain⟨p7,q7,rfl,r7,h⟩:=h.cons;obtain⟨p8,q8,rfl,r8,h⟩:=h.cons;obtain⟨p9,q9,rfl,r9,h⟩:=h.cons;obtain⟨p10,q10,rfl,r10,h⟩:=h.cons;obtain⟨p11,q11,rfl,r11,h⟩:=h.cons;obtain rfl:=h.nil;obtain⟨z0,rfl⟩:=r0.u8;obtain⟨z1,rfl⟩:=r1.u8;obtain⟨z2,rfl⟩:=r2.bool underlying4;obtain⟨z3,rfl⟩:=r3.bool underlying4;obtain⟨z4,rfl⟩:=r4.u8;obtain⟨z5,rfl⟩:=r5.u8;obtain⟨z6,rfl⟩:=r6.u8;obtain⟨z7,rfl⟩:=r7.u8;obtain⟨z8,rfl⟩:=r8.u8;obtain⟨z9,rfl⟩:=r9.u8;obtain⟨p,c,xs,rfl,_,_,_,hat⟩:=r10.list (sz:=1) underlying23 jD jC fun cs=>reads_byte;obtain⟨z11,rfl⟩:=r11.bool underlying4;exact⟨⟨z0,z1,z2,z3,z4,z5,z6,z7,z8,z9,xs,z11,p,c⟩,listAt_bat hat,rfl⟩
theorem ArgOk.acts15(h:ArgOk prog W 22 v):∃(p:Option Addr) (c:Nat) (xs:List A15),v= .slice p xs.length c∧xs.length≤9223372036854775807∧(∀x∈xs,x.Has (memOf W))∧ListAt (memOf W) p 12 A15.vals xs:=by
  obtain⟨p,c,xs,rfl,h1,h2,hq,hat⟩:=h.list (sz:=12) underlying22 jD jC fun cs=>reads_a15
  exact ⟨p, c, xs, rfl, by have : maxLen ≤ 9223372036854775807 := by decide
                           omega,hq,hat⟩
end Go.Proofs.YtkaknokcbhiigaaGreatDoor

namespace Go.Proofs.YtkaknokcbhiigaaGreatDoor
open Go Go.Proofs.Tryz
def allO(o:Option Vw):List Req:=(o.map Vw.all).getD []
def LogOR(f:Frag)(A:List HP)(o:Option Vw):Value→Frag→List HP→Prop:=fun v f' A'=>∃(p:Option Addr) (c:Nat),v= .tuple #[.slice p (allO o).length c,.bool o.isSome]∧f'=f∧A'=slc p (allO o).length c 49 40 ((allO o).flatMap Req.vals)::A
variable {fl:Frag} {lb T:Nat} {l:Lgs} {v:Int}
section
variable (f:Frag) (F:List HP)
theorem pllog_no(hat:vwAt l.vs v=none):Fn prog 55 [.pointer (some ⟨lb,0,none⟩),.int .u64 v] f (plogH fl lb l::F) (Ret (.tuple #[.slice none 0 0,.bool false]) f (plogH fl lb l::F)):=by
 refine qjW fun i hi=>?_;have hvs:=hi.vs;obtain⟨V,vb,pp,pc,cp,cc,pb,cs⟩:=i
 have hvs:(V.map PV.w).Perm l.vs:=hvs;have hget:(getKV (V.map PV.ent) v).getD (.pointer none)= .pointer none:=by rw[view_none hvs hat];rfl
 refine qek ?_;refine Fn.e2 func55 ntmps55 fun base=>?_;refine gc ?_;refine qiA ?_;refine gc ?_;refine qeO ?_;exact qbY
theorem pllogO_fn(hL:LI l T)(hT:T≤50000)(v:Int):Fn prog 55 [.pointer (some ⟨lb,0,none⟩),.int .u64 v] f (plogH fl lb l::F) (LogOR f (plogH fl lb l::F) (l.vw v)):=by
 cases hv:l.vw v with
 | none =>
  intro base w s;have h:=pllog_no f F (fl:=fl) (lb:=lb) (vw_none.1 hv) base w s;refine h.mono ?_
  rintro e w' ⟨x,f',A',rfl,⟨rfl,rfl,rfl⟩,s'⟩;refine⟨_,_,slc none 0 0 49 40 []::plogH fl lb l::F,rfl,⟨none,0,rfl,rfl,rfl⟩,s'.imp fun h hh=>⟨nil0,h,(Dj.nil h).symm,(nil_un h).symm,slc_nil none 49 40,hh⟩⟩
 | some w =>
  obtain⟨i,h1,h2⟩:=vw_at hv;exact(pllog_fn f F hL hT h1 h2).mono fun _ _ _ h=>h
end
open Go.Sort (bitsLen PermIn SortedIn Below ltInt swo_ltInt sorted_unique_holds)
theorem list_arr(xs:List Int):xs.flatMap uV=arr xs.toArray:=rfl
theorem sorted_eq:∀ {ys zs:List Int},ys.Perm zs→zs.Pairwise (· < ·)→ys.Pairwise (· ≤ ·)→ys=zs
 | [],zs,h,_,_=>h.nil_eq
 |y::ys,[],h,_,_=>absurd h.length_eq jL
 | y :: ys, z :: zs, h, hz, hy => by
  rw[List.pairwise_cons]at hz hy
  have e:y=z:=by
   have h1:z∈y::ys:=h.mem_iff.2 jL;have h2:y∈z::zs:=h.mem_iff.1 jL
   rcases List.mem_cons.1 h1 with h1|h1
   ·exact h1.symm
   ·rcases List.mem_cons.1 h2 with h2|h2
    ·exact h2
    ·have:=hy.1 z h1;have:=hz.1 y h2;omega
  subst e
  rw[sorted_eq ((List.perm_cons y).1 h) hz.2 hy.2]
def unseenU(es:List (Int×Value×Nat))(seen:List Int):Nat:=(es.filter fun e=>!seen.contains e.1).length
theorem unseenU_lt:∀ {es:List (Int×Value×Nat)} {seen:List Int} {e:Int×Value×Nat},e∈es→e.1∉seen→unseenU es (e.1::seen)<unseenU es seen:=fun {es seen e} he hn=>by
 have hle:∀l:List (Int×Value×Nat),(l.filter fun x=>!(e.1::seen).contains x.1).length≤(l.filter fun x=>!seen.contains x.1).length:=fun l=>by
  induction l with
  |nil=>exact Nat.le_refl _
  | cons x r ih =>
   by_cases h1:x.1∈seen
   ·rw[List.filter_cons_of_neg (by simp[h1]),List.filter_cons_of_neg (by simp[h1])];exact ih
   ·by_cases h2:x.1=e.1
    ·rw[List.filter_cons_of_neg (by simp[h2]),List.filter_cons_of_pos (by simp[h1])];simp only[List.length_cons];omega
    ·rw[List.filter_cons_of_pos (by simp[h1,h2]),List.filter_cons_of_pos (by simp[h1])];simp only[List.length_cons];omega
 obtain⟨a,b,rfl⟩:=List.append_of_mem he
 unfold unseenU
 rw[List.filter_append,List.filter_append,List.filter_cons_of_neg (p:=fun x:Int×Value×Nat=>!(e.1::seen).contains x.1) jL,List.filter_cons_of_pos (p:=fun x:Int×Value×Nat=>!seen.contains x.1) (by simp[hn]),List.length_append,List.length_append,List.length_cons]
 have:=hle a
 have:=hle b
 omega
theorem nodup_len:∀ {s l:List Int},s.Nodup→(∀k∈s,k∈l)→s.length≤l.length
 | [],_,_,_=>Nat.zero_le _
 | k :: s, l, hn, hs => by
  rw[List.nodup_cons]at hn
  obtain⟨a,b,rfl⟩:=List.append_of_mem (hs k jL)
  have:=nodup_len (l:=a++b) hn.2 fun j hj=>by
   have h1:=hs j (List.mem_cons_of_mem _ hj)
   rw[List.mem_append,List.mem_cons]at h1
   rw[List.mem_append]
   rcases h1 with h1|h1|h1
   ·exact .inl h1
   ·exact absurd (h1▸hj) hn.1
   ·exact .inr h1
  rw[List.length_append]at this
  rw[List.length_append,List.length_cons,List.length_cons]
  omega
variable {lp:Nat} {f:Frag}
theorem YieldFn.exI{P:Program}{args:List Value}{α:Type}{g:α→HP}{A:List HP}{R:Value→Frag→List HP→Prop}(h:∀x,YieldFn P lp args f (g x::A) R):YieldFn P lp args f (ex g::A) R:=fun base w s=>by
 obtain⟨m,⟨m1,m2,d,e,⟨x,hx⟩,h2⟩,hd,hw⟩:=s.mem
 exact h x base w ⟨s.os,s.tape,s.output,s.size,s.imm,m,⟨m1,m2,d,e,hx,h2⟩,hd,hw⟩
variable {n c vb mb:Nat} {m:List (Int × Value)} {LH D:HP} {acc:List Int}
section
variable (f:Frag) (F:List HP)
def SrtL(f:Frag)(F:List HP)(p:Option Addr)(n c:Nat)(xs:List Int):Value→Frag→List HP→Prop:=fun v f' A'=>∃ys:List Int,ys.Perm xs∧ys.Pairwise (· ≤ ·)∧v= .tuple #[]∧f'=f∧A'=slc p n c 35 1 (ys.flatMap uV)::F
theorem sortU_fn{p:Option Addr}{xs:List Int}(hx:xs.length=n)(hn:n≤255):Fn prog 116 [.slice p n c] f (slc p n c 35 1 (xs.flatMap uV)::F) (SrtL f F p n c xs):=by
 have hl:=fun G=>len_fn f G (x:=n) jA;have hb8:bitsLen n≤8:=(tab8 ⟨n,by omega⟩).2.2.2
 have hs:=pdq_fn f F n (p:=p) (n:=n) (c:=c) (a0:=0) (b0:=n) (lim0:=(bitsLen n:Nat)) (d0:=xs.toArray) jr hn (Nat.zero_le _) (Nat.le_refl _) jA (.inl rfl) jA
 have hun:∀d:Array Int,PermIn 0 n xs.toArray d→SortedIn ltInt 0 n d→d.toList.Perm xs∧d.toList.Pairwise (· ≤ ·):=fun d h1 h2=>by
  have hdn:d.size=n:=h1.1.trans jr;have e:xs.toArray.size=n:=by simpa using hx
  refine⟨?_,?_⟩
  ·have:=sorted_unique_holds swo_ltInt (fun x y h1 h2=>by simp only[ltInt,decide_eq_false_iff_not]at h1 h2;omega) xs.toArray d (by rw[e];exact h1) (by rw[e];exact h2);rw[this]
   exact List.mergeSort_perm _ _
  ·rw[List.pairwise_iff_getElem];intro i j hi hj hij;have h3:=h2 i j (Nat.zero_le _) hij (by rw[←hdn];simpa using hj);have hi':i<d.size:=by simpa using hi
   have hj':j<d.size:=by simpa using hj
   rw[getElem!_pos d i hi',getElem!_pos d j hj']at h3;simp only[ltInt,decide_eq_false_iff_not]at h3;simp only[Array.getElem_toList];omega
 rw[list_arr];refine Fn.e1 func116 ntmps116 fun base=>?_;refine gV ?_;refine H.cr (hl _) ?_;skip;refine H.Aq rfl rfl rfl hs fun v f' A' hR=>?_;obtain⟨d,h1,h2,rfl,hff,rfl⟩:=hR;rw[hff];obtain⟨h3,h4⟩:=hun d h1 h2;refine gA ?_;exact H.end0 rfl iD ⟨d.toList,h3,h4,rfl,rfl,rfl⟩
theorem keys_fn:Fn prog 78 [.map (some vb)] f F
  (RetE (α:=Nat) (fun b=>.func (.func 117) #[] #[.pointer (some ⟨b,0,none⟩)]) f (fun b=>row b 120 [.map (some vb)]::F)):=by
 refine Fn.e1 func78 ntmps78 fun base=>?_;refine gA ?_;refine H.box (ls:=[.map (some vb)]) rfl rfl rfl rfl fun b=>?_;refine gX ?_;exact H.r1 ⟨b,rfl,rfl,rfl⟩
theorem keys1_fn{X:List Int→HP}(hnd:(m.map (·.1)).Nodup)
  (hY:∀(acc:List Int) (k:Int) (G:List HP),acc.length≤m.length→YieldFn prog lp [.int .u64 k] f (X acc::G) (fun v g B=>v= .bool true∧g=f∧B=X (acc++[k])::G)) :
  Fn prog 117 ([]++[.func (.yield lp) #[] #[]]++[.pointer (some ⟨mb,0,none⟩)]) f (mp vb keyU m::X []::row mb 120 [.map (some vb)]::F)
   (RetE (α:={ks:List Int // ks.Perm (m.map (·.1))}) (fun _=>.tuple #[]) f (fun ks=>X ks.1::row mb 120 [.map (some vb)]::mp vb keyU m::F)):=by
 refine Fn.openMap fun es clock hes=>?_
 have hkeys:m.map (·.1)=es.map (·.1):=by
  rw[←hes,List.map_map];rfl
 refine Fn.e2 func117 ntmps117 fun base=>?_;refine gF ?_;refine H.range rfl rfl jB rfl fun rb=>?_;refine gT ?_;refine H.pf (x:=X _) ?_
 refine H.lo (ι:=List Int) (fun _=>[(5,.pointer (some ⟨rb,0,none⟩)),(0,.func (.yield lp) #[] #[])]) (fun _=>f)
  (fun s=>X s.reverse::itr rb vb es clock s::mpS vb keyU es clock::row mb 120 [.map (some vb)]::F) (fun s=>s.Nodup∧∀k∈s,k∈es.map (·.1)) (fun s=>unseenU es s) [] ⟨List.nodup_nil,fun k h=>by cases h⟩ fun s hs=>?_
 obtain⟨hsn,hsk⟩:s.Nodup∧∀k∈s,k∈es.map (·.1):=hs;show H _ _ _ [(5,_),_] f (X s.reverse::itr rb vb es clock s::_::_::F) _;refine gA ?_;refine H.next rfl rfl jB jB (fun _=>jB) rfl (fun hend=>?_) (fun e he hns=>?_)
 ·have hp:s.reverse.Perm (m.map (·.1)):=by
   refine(List.reverse_perm s).trans ((List.perm_ext_iff_of_nodup hsn hnd).2 fun k=>?_);rw[hkeys];refine⟨hsk k,fun hk=>?_⟩;obtain⟨e,he,rfl⟩:=List.mem_map.1 hk;exact hend e he
  refine gY ?_;refine H.pd (x:=itr _ _ _ _ _) ?_;refine H.pf (x:=mpS _ _ _ _) ?_;refine H.imp mpS_fold ?_;rw[hes];refine qer ?_;refine H.pf (x:=X _) ?_;exact H.end0 rfl iD ⟨⟨s.reverse,hp⟩,rfl,rfl,rfl⟩
 ·skip;refine gX ?_;refine H.entry rfl rfl jB jB he rfl ?_
  iterate 5 ( first
   |((first|apply H.Aw|apply H.Be|apply H.Bd|apply H.Bi|apply H.Bt|apply H.Bs);(iterate 3 exact rfl))
   |(apply H.Bn;(iterate 3 exact rfl);exact inferInstance;exact rfl)
   |(apply H.Ad;(iterate 3 exact rfl);apply Rd1.ofRow;(repeat(first|exact .here _ _ _|apply At.there));(iterate 2 exact rfl))
   |(first|apply H.seq|apply H.Bg|apply H.nil|apply H.Bj)
   |((first|apply H.cmp|apply H.Ax);(iterate 5 exact rfl))
   |((first|(apply H.ar;(iterate 4 exact rfl))|(apply H.Bk;(iterate 2 exact rfl)));(first|(with_reducible apply zbe;omega)|(with_reducible apply zbf;omega)|(with_reducible apply zbd;omega)|(with_reducible apply wr_i64;omega)|(with_reducible apply wr_u64;omega)|(with_reducible apply wr_u8;omega)|(with_reducible apply wr_u16;omega)|rfl);exact rfl)
   |(apply H.pass;(iterate 2 exact rfl))
   |(apply H.pass0;exact rfl)
   |(apply H.pickT;(iterate 4 exact rfl))
   |((first|apply H.Br|apply H.Bv|apply H.not|apply H.Co);(iterate 4 exact rfl))
   |((first|apply H.ptrNil|apply H.sliceNil);(iterate 5 exact rfl))
   |(apply H.Bb;(iterate 4 exact rfl);(repeat(first|exact .here _ _ _|apply At.there));(repeat(first|exact .here _ _ _|apply SetV.there)))
   |(apply H.Cp;exact rfl)
   |(apply H.Cn;exact rfl)
   |(first|apply H.skip|apply H.ret|apply H.Cf|apply H.Cg|apply H.exit|apply H.Bl|apply H.Bp|apply H.Cb|apply H.Cc|apply H.Ce|apply H.Cd)
   |(apply H.in_miss;exact rfl)
   |(apply H.gyes;(iterate 3 exact rfl);(first|assumption|omega))
   |(apply H.gno;(iterate 3 exact rfl);(first|assumption|omega))
   |(apply H.Ci;exact rfl;(first|assumption|omega))
   |(apply H.Ck;exact rfl;(first|assumption|omega))
   |((first|apply H.gtrue);(iterate 3 exact rfl);assumption)
   |(apply H.gfalse;(iterate 3 exact rfl);assumption)
   |(apply H.cond_t;exact rfl;assumption)
   |(apply H.cond_f;exact rfl;assumption) )
  refine H.regionY ?_
  have hlen:s.reverse.length≤m.length:=by
   have h1:=nodup_len hsn hsk;rw[List.length_map]at h1
   rw[List.length_reverse,←hes,List.length_map];exact h1
  refine H.inOp jE ?_;refine gK ?_;refine H.By ?_;refine H.inOp jE ?_;refine gK ?_;refine H.By ?_;refine H.pf (x:=X _) ?_;refine H.yield rfl rfl rfl rfl (hY s.reverse e.1 _ hlen) fun v f' A' hR=>?_;obtain⟨rfl,hff,rfl⟩:=hR;rw[hff];clear hff;refine H.inOp jE ?_;refine gY ?_;refine H.By ?_;refine H.inNil ?_;refine gV ?_;refine H.pf (x:=mpS _ _ _ _) ?_;refine H.pf (x:=itr _ _ _ _ _) ?_;refine H.pf (x:=X _) ?_;refine H.Av (e.1::s) ⟨List.nodup_cons.2 ⟨hns,hsn⟩,fun k hk=>?_⟩ (unseenU_lt he hns) ⟨rfl,rfl,trivial⟩ rfl ?_
  ·rcases List.mem_cons.1 hk with h|h
   ·rw[h];exact List.mem_map.2 ⟨e,he,rfl⟩
   ·exact hsk k h
  ·show _=X (e.1::s).reverse::_;rw[List.reverse_cons]
def ColP(f:Frag)(F:List HP)(mb vb:Nat)(m:List (Int×Value)):Value→Frag→List HP→Prop:=fun v f' A'=>∃(ks:List Int) (p:Option Addr) (c:Nat),ks.Perm (m.map (·.1))∧v= .slice p ks.length c∧f'=f∧A'=slc p ks.length c 35 1 (ks.flatMap uV)::row mb 120 [.map (some vb)]::mp vb keyU m::F
def accH(LH D:HP)(sb:Nat)(acc:List Int):HP:=ex fun pc:Option Addr×Nat=>stars [LH,D,row sb 110 [.slice pc.1 acc.length pc.2],slc pc.1 acc.length pc.2 35 1 (acc.flatMap uV)]
theorem acc_in{sb:Nat}(p:Option Addr)(c:Nat){A:List HP}:∀h,stars (LH::D::row sb 110 [.slice p acc.length c]::slc p acc.length c 35 1 (acc.flatMap uV)::A) h→stars (accH LH D sb acc::A) h:=fun h hh=>by
 have:=pack_all [LH,D,row sb 110 [.slice p acc.length c],slc p acc.length c 35 1 (acc.flatMap uV)] A h hh
 obtain⟨m1,m2,d,e,a,r⟩:=this
 exact⟨m1,m2,d,e,⟨(p,c),a⟩,r⟩
def acc2(D:HP)(sb:Nat)(acc:List Int):HP:=ex fun pc:Option Addr×Nat=>stars [D,row sb 110 [.slice pc.1 acc.length pc.2],slc pc.1 acc.length pc.2 35 1 (acc.flatMap uV)]
theorem acc_out{sb:Nat}{A:List HP}:∀h,stars (accH LH D sb acc::A) h→stars (LH::acc2 D sb acc::A) h:=fun h ⟨m1,m2,d,e,⟨pc,a⟩,r⟩=>by
 obtain⟨m3,m4,d2,e2,a2,r2⟩:=a
 rw[e2]at d e
 have d3:=Dj.un_left.1 d
 exact⟨m3,un m4 m2,Dj.un_right.2 ⟨d2,d3.1⟩,by rw[e,zba],a2,m4,m2,d3.2,rfl,⟨pc,r2⟩,r⟩
theorem appendSeq_fn(hnd:(m.map (·.1)).Nodup)(hm:m.length≤1000000):Fn prog 145 [.slice none 0 0,.func (.func 117) #[] #[.pointer (some ⟨mb,0,none⟩)]] f (row mb 120 [.map (some vb)]::mp vb keyU m::F) (ColP f F mb vb m):=by
 refine Fn.enterM func145 rfl ntmps145 rfl (L:=[(0,_),(1,_)]) ⟨rfl,rfl,trivial⟩ fun base=>?_;refine gA ?_;refine H.box (ls:=[.slice none 0 0]) rfl rfl rfl rfl fun sb=>?_;refine gT ?_;refine H.slc0 35 1 ?_;refine H.pf (x:=row sb _ _) ?_;refine H.sb [(6,.func (.func 117) #[] #[.pointer (some ⟨mb,0,none⟩)]),(2,.pointer (some ⟨sb,0,none⟩))] ?_;refine H.rangeFuncE (f':=f) (fs:=[]) (cs:=[.pointer (some ⟨mb,0,none⟩)]) rfl rfl fun LH hLH=>⟨{ks:List Int // ks.Perm (m.map (·.1))},fun i D=>acc2 (pts D (.deferred (some []))) sb i.1::row mb 120 [.map (some vb)]::mp vb keyU m::F,fun D lp=>?_,fun i D=>?_⟩
 ·refine Fn.wrap (A1:=mp vb keyU m::accH (LH D lp .ready) (pts D (.deferred (some []))) sb []::row mb 120 [.map (some vb)]::F) (fun h hh=>?_) (keys1_fn f F (X:=accH (LH D lp .ready) (pts D (.deferred (some []))) sb) hnd fun acc k G hacc=>?_) fun v g B hR=>?_
  ·have h1:=acc_in (acc:=[]) none 0 h hh;rw[Pull.eq (x:=mp vb keyU m) (.there _ (.there _ (.here _ _)))]at h1
   exact h1
  ·refine YieldFn.exI fun pc=>?_;obtain⟨p,c⟩:=pc;refine YieldFn.wrap (R1:=fun v g B=>∃(p2:Option Addr) (c2:Nat),v= .bool true∧g=f∧B=LH D lp .ready::pts D (.deferred (some []))::row sb 110 [.slice p2 (acc++[k]).length c2]::slc p2 (acc++[k]).length c2 35 1 ((acc++[k]).flatMap uV)::G) (open_all _ _) ?_ ?_
   ·subst hLH;refine YieldFn.of rfl rfl rfl rfl fun base=>?_;repeat(first|(apply H.regionR;exact rfl;exact jE)|(first|((apply H.Be);(iterate 3 exact rfl))|(apply H.nil)))
    refine H.begin ?_;repeat(first|(first|(apply H.blockR)|(apply H.regionR;exact rfl;exact jE))|(first|((apply H.Aw);(iterate 3 exact rfl))|(apply H.Ad;(iterate 3 exact rfl);apply Rd1.ofRow;(repeat(first|exact .here _ _ _|apply At.there));(iterate 2 exact rfl))))
    show H _ _ _ _ f (_::pts D _::row sb _ [.slice p acc.length c]::slc p acc.length c _ 1 (acc.flatMap uV)::G) _;refine H.Am (out:=uV k) rfl rfl rfl rfl jC jC rfl rfl fun eb=>?_;refine H.Ar (sz:=1) (p:=p) (n0:=acc.length) (c:=c) (xs:=acc.flatMap uV) (m:=1) (news:=uV k) rfl rfl rfl rfl rfl (fun p' c'=>.there _ (.there _ (.there _ (.there _ (.here _ _ _))))) (Src.slice (Rd.ofRow (.here _ _ _)) rfl) (zaa rfl) rfl jA jA fun p2 c2=>?_;refine H.Bb rfl rfl rfl rfl (.there _ (.there _ (.there _ (.here _ _ _)))) (.here _ _ _) ?_;refine qeJ ?_;repeat((first|(apply H.nil)|(apply H.Bp)))
    refine H.endRound ⟨p2,c2,rfl,rfl,?_⟩;rw[List.length_append,List.flatMap_append];rfl
   ·rintro v g B ⟨p2,c2,rfl,rfl,rfl⟩;exact⟨_,⟨rfl,rfl,rfl⟩,acc_in p2 c2⟩
  ·obtain⟨ks,rfl,rfl,rfl⟩:=hR;exact⟨_,⟨ks,rfl,rfl⟩,acc_out⟩
 ·show H _ _ _ _ f (acc2 (pts D (.deferred (some []))) sb i.1::row mb 120 [.map (some vb)]::mp vb keyU m::F) _;refine H.ex fun pc=>?_;obtain⟨p,c⟩:=pc;refine H.imp (open_all [_,_,_] _) ?_;show H _ _ _ _ f (pts D (.deferred (some []))::row sb 110 [.slice p i.1.length c]::slc p i.1.length c 35 1 (i.1.flatMap uV)::_::_::F) _;refine gN ?_;refine H.pd (x:=row sb _ _) ?_;exact H.retMk rfl rfl rfl (.here _ _) iD ⟨i.1,p,c,i.2,rfl,rfl,rfl⟩
theorem collect_fn(hnd:(m.map (·.1)).Nodup)(hm:m.length≤1000000):Fn prog 115 [.func (.func 117) #[] #[.pointer (some ⟨mb,0,none⟩)]] f (row mb 120 [.map (some vb)]::mp vb keyU m::F) (ColP f F mb vb m):=by
 refine Fn.e1 func115 ntmps115 fun base=>?_;refine gK ?_;refine H.Aq rfl rfl rfl (appendSeq_fn f F hnd hm) fun v f' A' hR=>?_;obtain⟨ks,p,c,hp,rfl,hff,rfl⟩:=hR;rw[hff];refine gT ?_;exact H.r1 ⟨ks,p,c,hp,rfl,rfl,rfl⟩
def SdP(f:Frag)(F:List HP)(mb vb:Nat)(m:List (Int×Value))(zs:List Int):Value→Frag→List HP→Prop:=fun v f' A'=>∃(p:Option Addr) (c:Nat),v= .slice p zs.length c∧f'=f∧A'=slc p zs.length c 35 1 (zs.flatMap uV)::row mb 120 [.map (some vb)]::mp vb keyU m::F
theorem sorted_fn{zs:List Int}(hz:(m.map (·.1)).Perm zs)(hr:zs.Pairwise (· < ·))(hm:m.length≤255):Fn prog 77 [.func (.func 117) #[] #[.pointer (some ⟨mb,0,none⟩)]] f (row mb 120 [.map (some vb)]::mp vb keyU m::F) (SdP f F mb vb m zs):=by
 have hnd:(m.map (·.1)).Nodup:=hz.nodup_iff.2 (hr.imp fun h=>by omega);refine Fn.e1 func77 ntmps77 fun base=>?_
 refine gK ?_;refine H.Aq rfl rfl rfl (collect_fn f F hnd jA) fun v f' A' hR=>?_;obtain⟨ks,p,c,hp,rfl,hff,rfl⟩:=hR;rw[hff];have hkl:ks.length≤255:=by rw[hp.length_eq,List.length_map];exact hm
 refine gK ?_;refine H.Aq rfl rfl rfl (sortU_fn f _ (p:=p) (c:=c) (xs:=ks) rfl hkl) fun v f' A' hR=>?_;obtain⟨ys,h1,h2,rfl,hff,rfl⟩:=hR;rw[hff];have e:ys=zs:=sorted_eq (h1.trans (hp.trans hz)) hr h2;have hl:ks.length=zs.length:=by rw[hp.length_eq,hz.length_eq]
 subst e;rw[hl];exact qdk
def viewsU(l:Lgs):List Int:=l.vs.map Vw.v
def ViewsP(f:Frag)(A:List HP)(l:Lgs):Value→Frag→List HP→Prop:=fun v f' A'=>∃(p:Option Addr) (c:Nat),v= .slice p (viewsU l).length c∧f'=f∧A'=slc p (viewsU l).length c 35 1 ((viewsU l).flatMap uV)::A
theorem plviews_fn(hL:LI l T)(hT:T≤254):Fn prog 45 [.pointer (some ⟨lb,0,none⟩)] f (plogH fl lb l::F) (ViewsP f (plogH fl lb l::F) l):=by
 refine qjW fun i hi=>?_;have hvs:=hi.vs;have hvl:=hL.vl
 obtain⟨V,vb,pp,pc,cp,cc,pb,cs⟩:=i;have hvs:(V.map PV.w).Perm l.vs:=hvs;have hVl:=perm_len hvs
 have hz:((V.map PV.ent).map (·.1)).Perm (viewsU l):=by
  have:=hvs.map Vw.v;rw[List.map_map]at this⊢
  exact this
 refine qek ?_;refine Fn.e1 func45 ntmps45 fun base=>?_;refine gc ?_;refine H.callE rfl rfl rfl (keys_fn f _) fun mb=>?_;skip;refine H.pf (x:=mp vb _ _) ?_;refine qer ?_;refine H.Aq rfl rfl rfl (sorted_fn f _ hz hL.rise kT) fun v f' A' hR=>?_;obtain⟨p2,c2,rfl,hff,rfl⟩:=hR;rw[hff];refine qhf ?_;refine qjJ ?_;exact H.r1 ⟨p2,c2,rfl,rfl,rfl⟩
end
def LexLe(a b:Int×Int):Prop:=a.1<b.1∨(a.1=b.1∧a.2≤b.2)
structure Quo(n:Nat)(Q:List Nat):Prop where
 nd:Q.Nodup
 len:Q.length=(n-1) / 2+1
 lt:∀r∈Q,r<n
structure SV(l:Lgs)(w:Vw)(w0:Vw)(Q:List Nat)(k:Nat):Prop where
 q:Quo l.n Q
 m:w0∈l.vs
 lt:w0.v<w.v
 s:w.s=w0.all.take k
 le:k≤w0.all.length
 ge:w0.s.length≤k
 gr:∀r∈Q,w.v≤(l.past r).g
 mo:∀r∈Q,∀x∈(l.past r).all,x.1<w.v→LexLe x (w0.v,(k:Int))
structure SI(l:Lgs):Prop where
 vw:∀w∈l.vs,w.v≠0→∃w0 Q k,SV l w w0 Q k
 z:∀w∈l.vs,w.v=0→w.s=[]
 lo:∀r,r<l.n→∀x∈(l.past r).all,∀w∈l.vs,w.v=x.1→(w.s.length:Int)≤x.2
def vot(l:Lgs)(r:Nat)(v:Int):Int:=(PM.voted (l.past r).all v).getD 0
def cntV(l:Lgs)(v:Int)(j:Nat):Nat:=((List.range l.n).filter fun r=>decide ((j:Int)≤vot l r v)).length
theorem filt_sum{α:Type}(p:α→Bool):∀l:List α,(l.filter p).length+(l.filter fun x=>!p x).length=l.length
 | []=>rfl
 | a :: l => by
  have ih:=filt_sum p l
  by_cases h:p a=true
  ·rw[List.filter_cons_of_pos h,List.filter_cons_of_neg jO,List.length_cons,List.length_cons];omega
  ·rw[List.filter_cons_of_neg h,List.filter_cons_of_pos (by cases e:p a with|true=>exact absurd e h|false=>rfl),List.length_cons,List.length_cons];omega
theorem nodup_le{α:Type}[DecidableEq α]:∀ {s l:List α},s.Nodup→(∀k∈s,k∈l)→s.length≤l.length
 | [],_,_,_=>Nat.zero_le _
 | k :: s, l, hn, hs => by
  rw[List.nodup_cons]at hn
  obtain⟨a,b,rfl⟩:=List.append_of_mem (hs k jL)
  have:=nodup_le (l:=a++b) hn.2 fun j hj=>by
   have h1:=hs j (List.mem_cons_of_mem _ hj)
   rw[List.mem_append,List.mem_cons]at h1
   rw[List.mem_append]
   rcases h1 with h1|h1|h1
   ·exact .inl h1
   ·exact absurd (h1▸hj) hn.1
   ·exact .inr h1
  rw[List.length_append]at this
  rw[List.length_append,List.length_cons,List.length_cons]
  omega
theorem quo_meet{Q:List Nat}(h:Quo n Q){p:Nat→Bool}(hp:(n-1) / 2<((List.range n).filter p).length)(hn:n % 2=1):∃r∈Q,p r=true:=by
 by_cases he:∃r∈Q,p r=true
 ·exact he
 ·exfalso
  have hsub:∀r∈Q,r∈(List.range n).filter fun x=>!p x:=fun r hr=>by
   rw[List.mem_filter];refine⟨List.mem_range.2 (h.lt r hr),?_⟩
   cases e:p r with
   |false=>rfl
   |true=>exact absurd ⟨r,hr,e⟩ he
  have h1:=nodup_le h.nd hsub;have h2:=filt_sum p (List.range n)
  rw[List.length_range]at h2;have h3:=h.len;omega
variable {r:Nat}
theorem vot_pos{j:Nat}(hj:0<j)(h:(j:Int)≤vot l r v):∃k,(v,k)∈(l.past r).all∧(j:Int)≤k:=by
 unfold vot at h
 cases e:PM.voted (l.past r).all v with
 |none=>rw[e]at h;have h:(j:Int)≤0:=h;omega
 |some k=>rw[e]at h;exact⟨k,voted_mem _ _ _ e,h⟩
theorem later{l:Lgs}{T:Nat}(hL:LI l T)(hS:SI l)(hn:l.n % 2=1){w:Vw}(hw:w∈l.vs){j:Nat}(hj:0<j)(hc:(l.n-1) / 2<cntV l w.v j):∀(N:Nat) (w':Vw),w'∈l.vs→w.v<w'.v→w'.v≤w.v+N→j≤w'.s.length∧w'.s.take j=w.all.take j
 |0,w',_,h1,h2=>by omega
 | N + 1, w', hw', h1, h2 => by
  have hwz:0≤w.v:=by
   by_cases h0:w.v=0
   ·omega
   ·obtain⟨p,hp,e⟩:=hL.begun w hw h0
    have:=(hL.wf _ (primI_lt (by have:=hL.n3;omega) w.v)).low p hp;omega
  obtain⟨w0,Q,k,hs⟩:=hS.vw w' hw' jA
  obtain⟨r,hr,hv⟩:=quo_meet hs.q hc hn
  obtain⟨x,hx,hjx⟩:=vot_pos hj (of_decide_eq_true hv)
  have hm:=hs.mo r hr _ hx h1
  have hle:=hs.le
  have hge:=hs.ge
  rcases hm with hlt|⟨heq,hk⟩
  ·have hlt:w.v<w0.v:=hlt
   obtain⟨i1,i2⟩:=later hL hS hn hw hj hc N w0 hs.m hlt (by have:=hs.lt;omega)
   rw[hs.s]
   refine⟨by rw[List.length_take];omega,?_⟩
   rw[List.take_take,show min j k=j by omega]
   show(w0.s++w0.p.map Prod.snd).take j=_
   rw[List.take_append_of_le_length i1,i2]
  ·have heq:w.v=w0.v:=heq
   have hk:x≤(k:Int):=hk
   have e:=Vw.uniq hL.rise hw hs.m heq
   subst e
   rw[hs.s]
   refine⟨by rw[List.length_take];omega,?_⟩
   rw[List.take_take,show min j k=j by omega]
def sub(k:Nat→Int)(all:List Msg):List Msg:=all.filter fun m=>decide (m.number≤k (orgI m))
def cmtF(l:Lgs)(v:Int):Nat→Nat
 |0=>0
 |j+1=>if(l.n-1) / 2<cntV l v (j+1)then j+1 else cmtF l v j
def cmt(l:Lgs)(v:Int):Nat:=match l.vw v with
 |none=>0
 |some w=>cmtF l v w.all.length
theorem cmtF_le(l:Lgs)(v:Int):∀N,cmtF l v N≤N
 |0=>Nat.le_refl _
 |N+1=>by unfold cmtF;split;exact Nat.le_refl _;exact Nat.le_succ_of_le (cmtF_le l v N)
theorem cmtF_ok(l:Lgs)(v:Int):∀N,0<cmtF l v N→(l.n-1) / 2<cntV l v (cmtF l v N)
 |0,h=>by unfold cmtF at h;omega
 | N + 1, h => by
  unfold cmtF at h⊢
  split
  ·rename_i e;exact e
  ·rename_i e;rw[if_neg e]at h;exact cmtF_ok l v N h
theorem cmtF_max(l:Lgs)(v:Int):∀N j,j≤N→(l.n-1) / 2<cntV l v j→j≤cmtF l v N
 |0,j,h,_=>by omega
 | N + 1, j, h, hc => by
  unfold cmtF
  split
  ·exact h
  ·rename_i e
   by_cases ej:j=N+1
   ·subst ej;exact absurd hc e
   ·exact cmtF_max l v N j jA hc
variable {w:Vw}
theorem cmt_at(h:l.vw v=some w):cmt l v=cmtF l v w.all.length:=by unfold cmt;rw[h]
theorem cmt_no(h:l.vw v=none):cmt l v=0:=by unfold cmt;rw[h]
theorem cmt_le(h:l.vw v=some w):cmt l v≤w.all.length:=by rw[cmt_at h];exact cmtF_le _ _ _
theorem cmt_le_len(l:Lgs)(v:Int):cmt l v≤(allO (l.vw v)).length:=by
 cases h:l.vw v with
 |none=>rw[cmt_no h];exact Nat.zero_le _
 |some w=>exact cmt_le h
def bestC(c:Int→Nat):List Int→Int×Nat→Int×Nat
 | [],a=>a
 |v::r,a=>bestC c r (if a.2<c v then(v,c v)else a)
theorem bestC_mem(c:Int→Nat):∀(vs:List Int) (a:Int×Nat),bestC c vs a=a∨((bestC c vs a).1∈vs∧(bestC c vs a).2=c (bestC c vs a).1)
 | [],a=>.inl rfl
 | v :: r, a => by
  unfold bestC
  rcases bestC_mem c r (if a.2<c v then(v,c v)else a)with h|⟨h1,h2⟩
  ·rw[h]
   split
   ·exact .inr ⟨by simp,rfl⟩
   ·exact .inl rfl
  ·exact .inr ⟨List.mem_cons_of_mem _ h1,h2⟩
theorem bestC_snoc(c:Int→Nat)(v:Int):∀(vs:List Int) (a:Int×Nat),bestC c (vs++[v]) a=if(bestC c vs a).2<c v then(v,c v)else bestC c vs a
 | [],a=>rfl
 |u::r,a=>bestC_snoc c v r _
def decB(l:Lgs):Int×Nat:=bestC (cmt l) (viewsU l) (0,0)
def decL(l:Lgs):List Req:=(allO (l.vw (decB l).1)).take (decB l).2
theorem decB_eq(l:Lgs):(decB l).2=cmt l (decB l).1∨decB l=(0,0):=by
 rcases bestC_mem (cmt l) (viewsU l) (0,0)with h|⟨_,h⟩
 ·exact .inr h
 ·exact .inl h
theorem decB_le(l:Lgs):(decB l).2≤(allO (l.vw (decB l).1)).length:=by
 rcases decB_eq l with h|h
 ·rw[h];exact cmt_le_len _ _
 ·rw[h];exact Nat.zero_le _
theorem decL_len(l:Lgs):(decL l).length=(decB l).2:=by
 unfold decL;rw[List.length_take]
 have:=decB_le l;omega
variable {ys:List Int}
theorem cntV_perm(hp:ys.Perm ((List.range l.n).map fun r=>vot l r v))(j:Nat):cntV l v j=ys.countP fun y=>decide ((j:Int)≤y):=by
 unfold cntV;rw[hp.countP_eq,List.countP_map,List.countP_eq_length_filter];rfl
theorem cmt_sort(hv:l.vw v=some w)(hodd:l.n % 2=1)(hnn:∀r,r<l.n→0≤vot l r v)(hp:ys.Perm ((List.range l.n).map fun r=>vot l r v))(hs:ys.Pairwise fun a b=>b≤a):∃x,ys[l.n / 2]?=some x∧0≤x∧(if x≤(w.all.length:Int)then x else(w.all.length:Int))=(cmt l v:Nat):=by
 have hl:ys.length=l.n:=by rw[hp.length_eq,List.length_map,List.length_range]
 have hlt:l.n / 2<ys.length:=jA
 refine⟨ys[l.n / 2],List.getElem?_eq_getElem hlt,?_,?_⟩
 ·exact qcl
 ·have hx0:0≤ys[l.n / 2]:=by
   exact qcl
  have hcut:ys=ys.take (l.n / 2)++ys[l.n / 2]::ys.drop (l.n / 2+1):=by
   rw[←List.drop_eq_getElem_cons hlt,List.take_append_drop]
  generalize ys[l.n / 2]=x at hcut hx0⊢;have hla:(ys.take (l.n / 2)).length=l.n / 2:=by rw[List.length_take];omega
  have hpw:=hs;rw[hcut]at hpw
  obtain⟨_,hpw2,hpw3⟩:=List.pairwise_append.1 hpw
  have key:∀j:Nat,((l.n-1) / 2<cntV l v j↔(j:Int)≤x):=fun j=>by
   rw[cntV_perm hp,hcut,List.countP_append,List.countP_cons];constructor
   ·intro h;by_cases hj:(j:Int)≤x
    ·exact hj
    ·exfalso
     have h1:(ys.drop (l.n / 2+1)).countP (fun y=>decide ((j:Int)≤y))=0:=by
      rw[List.countP_eq_zero];intro y hy
      have:=(List.pairwise_cons.1 hpw2).1 y hy;simp only[decide_eq_true_eq]
      omega
     have h2:=List.countP_le_length (p:=fun y=>decide ((j:Int)≤y)) (l:=ys.take (l.n / 2));rw[h1,decide_eq_false hj]at h
     simp only[Bool.false_eq_true,if_false]at h;omega
   ·intro hj
    have h1:(ys.take (l.n / 2)).countP (fun y=>decide ((j:Int)≤y))=(ys.take (l.n / 2)).length:=by
     rw[List.countP_eq_length];intro y hy
     have:=hpw3 y hy x jL;simp only[decide_eq_true_eq]
     omega
    rw[h1,decide_eq_true hj,hla,if_pos rfl];omega
  have h1:=cmtF_le l v w.all.length;have h2:=cmtF_ok l v w.all.length
  have h3:=cmtF_max l v w.all.length;rw[cmt_at hv]
  generalize cmtF l v w.all.length=c at h1 h2 h3⊢;have h4:0<c→(c:Int)≤x:=fun h=>(key c).1 (h2 h);have h5:=h3 (min x.toNat w.all.length) jA ((key _).2 jA)
  split<;>omega
theorem LI.vot0(h:LI l T)(hr:r<l.n)(v:Int):0≤vot l r v∧vot l r v≤(T:Int):=by
 unfold vot
 cases e:PM.voted (l.past r).all v with
 |none=>exact⟨Int.le_refl _,by show(0:Int)≤T;omega⟩
 |some k=>have:=(h.wf r hr).low _ (voted_mem _ _ _ e);exact⟨this.2.2.1,this.2.2.2⟩
section
variable (f:Frag) (F:List HP)
theorem dcfew_fn(hn3:3≤n∧n≤11)(hodd:n % 2=1):Fn prog 79 [.int .i64 (n:Int)] f F (Ret (.bool true) f F):=by
 refine Fn.e1 func79 ntmps79 fun base=>?_;refine gg ?_;refine H.rem (z:=1) rfl rfl rfl jC (zak (a:=n) (b:=2) hodd) rfl ?_;refine gQ ?_;exact qam
theorem committed_fn(hfl:Le fl f)(hL:LI l T)(hT:T≤50000)(hodd:l.n % 2=1)(v:Int):Fn prog 46 [.pointer (some ⟨lb,0,none⟩),.int .i64 (l.n:Int),.int .u64 v] f (plogH fl lb l::F) (Ret (.int .i64 (cmt l v:Nat)) f (plogH fl lb l::F)):=by
 have hn:=hL.n3;have hlog:=fun G=>pllogO_fn f G (fl:=fl) (lb:=lb) hL hT v
 refine Fn.e3 func46 ntmps46 fun base=>?_;refine gK ?_;refine H.cl (hlog _) fun x f' A' hr=>?_;obtain⟨p,c,rfl,rfl,rfl⟩:=hr;clear hlog
 cases hv:l.vw v with
 | none =>
  have e:cmt l v=0:=cmt_no hv;rw[e]
  show H _ _ _ ((_,.tuple #[.slice p 0 c,.bool false])::_) _ (slc p 0 c _ 40 []::_) _;refine gX ?_;exact qaK
 | some w =>
  have hwl:=hL.al w (vw_v hv).2;show H _ _ _ ((_,.tuple #[.slice p w.all.length c,.bool true])::_) _ (slc p w.all.length c _ 40 (w.all.flatMap Req.vals)::_) _
  refine gY ?_;refine H.Af rfl rfl rfl (dcfew_fn _ _ hn hodd) ?_;refine gY ?_;refine H.slc0 3 1 ?_
  refine H.lo (ι:=Nat×Option Addr×Nat) (fun s=>[(10,.int .i64 ((s.1+1:Nat):Int)),(9,.slice s.2.1 s.1 s.2.2),(7,.slice p w.all.length c),(2,.int .u64 v),(1,.int .i64 (l.n:Int)),(0,.pointer (some ⟨lb,0,none⟩))]) (fun _=>f')
   (fun s=>slc s.2.1 s.1 s.2.2 3 1 (((List.range s.1).map fun r=>vot l r v).flatMap iV)::slc p w.all.length c 49 40 (w.all.flatMap Req.vals)::plogH fl lb l::F) (fun s=>s.1≤l.n) (fun s=>l.n-s.1)
   (0,none,0) (Nat.zero_le _) fun s hs=>?_
  obtain⟨k,q,qc⟩:=s;have hs:k≤l.n:=hs;show H _ _ _ [(10,.int .i64 ((k+1:Nat):Int)),(9,.slice q k qc),_,_,_,_] f' (slc q k qc _ 1 (((List.range k).map fun r=>vot l r v).flatMap iV)::_::_::F) _
  by_cases hk:k<l.n
  ·have hvo:=fun G=>plvoted_fn f' G hfl (lb:=lb) (l:=l) jA hk (r:=((k+1:Nat):Int)) (v:=v) rfl;refine gG ?_
   refine qkj ?_;refine H.cr (hvo _) ?_;refine gY ?_;refine H.Am (out:=iV (vot l k v)) rfl rfl rfl rfl jC jC rfl rfl fun eb=>?_;skip;refine H.Ar (sz:=1) (p:=q) (n0:=k) (c:=qc) (xs:=((List.range k).map fun r=>vot l r v).flatMap iV) (m:=1) (news:=iV (vot l k v)) rfl rfl rfl rfl rfl (fun p' c'=>jB) (Src.slice (Rd.ofRow jB) rfl) (zaa rfl) rfl jA jA fun p2 c2=>?_;refine qgI ?_;refine gV ?_;refine qkj ?_;refine H.pf (x:=slc p _ _ _ _ _) ?_;refine H.pf (x:=slc p2 _ _ _ _ _) ?_
   exact H.Av (k+1,p2,c2) (by show k+1≤l.n;omega) (by show l.n-(k+1)<l.n-k;omega) ⟨rfl,rfl,rfl,rfl,rfl,rfl,trivial⟩ rfl (by
    show slc p2 (k+1) c2 _ 1 (((List.range k).map fun r=>vot l r v).flatMap iV++iV (vot l k v))::_=slc p2 (k+1) c2 _ 1 (((List.range (k+1)).map fun r=>vot l r v).flatMap iV)::_;rw[List.range_succ,List.map_append,List.flatMap_append]
    rfl)
  ·have e:k=l.n:=jA
   subst e;refine gZ ?_;refine H.Aq rfl rfl rfl (sortD_fn f' _ (p:=q) (n:=l.n) (c:=qc) (xs:=(List.range l.n).map fun r=>vot l r v) (by rw[List.length_map,List.length_range]) jA) fun x f2 A' hr=>?_;obtain⟨ys,hp,hso,rfl,rfl,rfl⟩:=hr;obtain⟨x,hx,hx0,hmin⟩:=cmt_sort hv hodd (fun r hr=>(hL.vot0 hr v).1) hp hso;have hyl:ys.length=l.n:=by rw[hp.length_eq,List.length_map,List.length_range]
   refine H.Au (p:=q) (n0:=l.n) (c:=qc) (T:=3) (sz:=1) (xs:=ys.flatMap iV) (.here _ _ _) jA fun sb hp=>?_;subst hp;have hrd:∀ {G},Rd1 f2 (slc (some ⟨sb,0,none⟩) l.n qc 3 1 (ys.flatMap iV)::G) sb ((l.n / 2)*1) (.int .i64 x):=fun {G}=>Rd1.of (i:=0) (Rd.slcElem (vals:=iV) (xs:=ys) iV_len jC (.here _ _ _) hx) rfl
   have hq:((l.n:Int)).tdiv 2=((l.n / 2:Nat):Int):=by
    rw[Int.tdiv_eq_ediv_of_nonneg jA];omega
   refine gK ?_;refine H.quo (z:=((l.n / 2:Nat):Int)) rfl rfl rfl jC ji rfl ?_;refine H.Ah (i:=l.n / 2) rfl rfl rfl rfl jA rfl ?_;refine H.Ad rfl rfl rfl hrd rfl ?_;refine gK ?_;refine H.min2 (z:=((cmt l v:Nat):Int)) rfl rfl rfl (by rw[←hmin];split<;>split<;>omega) rfl ?_;refine gT ?_;exact qda
theorem dbest_fn(hfl:Le fl f)(hL:LI l T)(hT:T≤254)(hodd:l.n % 2=1):Fn prog 54 [.pointer (some ⟨lb,0,none⟩),.int .i64 (l.n:Int)] f (plogH fl lb l::F) (Ret (.tuple #[.int .u64 (decB l).1,.int .i64 ((decB l).2:Nat)]) f (plogH fl lb l::F)):=by
 have hcm:=fun G v=>committed_fn f G hfl (lb:=lb) hL jA hodd v;have hvl:=hL.vl
 have hul:(viewsU l).length=l.vs.length:=by unfold viewsU;rw[List.length_map]
 refine Fn.e2 func54 ntmps54 fun base=>?_;refine gK ?_;refine H.Aq rfl rfl rfl (plviews_fn f _ (fl:=fl) (lb:=lb) hL hT) fun x f' A' hr=>?_;obtain⟨p,c,rfl,hff,rfl⟩:=hr;rw[hff];clear hff;obtain⟨vs,hvs⟩:∃vs,vs=viewsU l:=⟨_,rfl⟩;rw[←hvs]at hul⊢;have hdb:decB l=bestC (cmt l) vs (0,0):=by rw[hvs];rfl
 refine gT ?_;refine qkj ?_
 refine H.lo (ι:=Nat) (fun k=>[(12,.int .i64 (k:Int)),(11,.int .i64 (vs.length:Nat)),(10,.slice p vs.length c),(5,.int .i64 ((bestC (cmt l) (vs.take k) (0,0)).2:Nat)),(4,.int .u64 (bestC (cmt l) (vs.take k) (0,0)).1),(1,.int .i64 (l.n:Int)),(0,.pointer (some ⟨lb,0,none⟩))]) (fun _=>f)
  (fun _=>plogH fl lb l::slc p vs.length c 35 1 (vs.flatMap uV)::F) (fun k=>k≤vs.length) (fun k=>vs.length-k)
  0 (Nat.zero_le _) fun k hk=>?_
 have hk:k≤vs.length:=hk;by_cases hlt:k<vs.length
 ·obtain⟨v,hv⟩:∃v,vs[k]?=some v:=⟨_,List.getElem?_eq_getElem hlt⟩;refine H.Au (p:=p) (n0:=vs.length) (c:=c) (T:=35) (sz:=1) (xs:=vs.flatMap uV) (.there _ (.here _ _ _)) jA fun sb hp=>?_;subst hp;have hrd:∀ {G},Rd1 f (plogH fl lb l::slc (some ⟨sb,0,none⟩) vs.length c 35 1 (vs.flatMap uV)::G) sb (k*1) (.int .u64 v):=fun {G}=>Rd1.of (i:=0) (Rd.slcElem (vals:=uV) (xs:=vs) uV_len jC (.there _ (.here _ _ _)) hv) rfl;have hsn:=bestC_snoc (cmt l) v (vs.take k) (0,0)
  rw[←take_snoc hv]at hsn;generalize bestC (cmt l) (vs.take k) (0,0)=b at hsn⊢;refine qgu ?_;refine gK ?_;refine H.Af rfl rfl rfl (hcm _ v) ?_;by_cases hb:b.2<cmt l v
  ·rw[if_pos hb]at hsn;exact qbi
  ·rw[if_neg hb]at hsn;exact qbi
 ·have e:k=vs.length:=jA
  subst e;rw[List.take_length,←hdb];refine gZ ?_;refine H.pd (x:=slc p _ _ _ _ _) ?_;exact qbe
def DecP(f:Frag)(A:List HP)(R:List Req):Value→Frag→List HP→Prop:=fun v f' A'=>∃(p:Option Addr) (c:Nat),v= .slice p R.length c∧f'=f∧A'=slc p R.length c 49 40 (R.flatMap Req.vals)::A
theorem decided_fn(hfl:Le fl f)(hL:LI l T)(hT:T≤254)(hodd:l.n % 2=1):Fn prog 26 [.pointer (some ⟨lb,0,none⟩),.int .i64 (l.n:Int)] f (plogH fl lb l::F) (DecP f (plogH fl lb l::F) (decL l)):=by
 have hb:=fun G=>dbest_fn f G hfl (lb:=lb) hL hT hodd;have hlog:=fun G=>pllogO_fn f G (fl:=fl) (lb:=lb) hL jA (decB l).1
 have hle:=decB_le l;have hd:decL l=(allO (l.vw (decB l).1)).take (decB l).2:=rfl
 have hdl:=decL_len l;unfold DecP
 rw[hdl];generalize decB l=b at hle hd hlog hb hdl;refine Fn.e2 func26 ntmps26 fun base=>?_;refine gK ?_;refine H.cr (hb _) ?_;refine gY ?_;refine H.cl (hlog _) fun x f' A' hr=>?_;obtain⟨p,c,rfl,rfl,rfl⟩:=hr;generalize allO (l.vw b.1)=R at hle hd⊢;refine gY ?_;refine qia fun hcap _ hpl=>?_;refine H.sliceTo (hv:=b.2) rfl rfl rfl rfl jA rfl ?_;refine H.slc_trunc (m':=b.2) (ys:=(decL l).flatMap Req.vals) hle hcap (by rw[hd,flat_take Req.len]) ?_;exact qdk
theorem dview_fn(hfl:Le fl f)(hL:LI l T)(hT:T≤254)(hodd:l.n % 2=1):Fn prog 43 [.pointer (some ⟨lb,0,none⟩),.int .i64 (l.n:Int)] f (plogH fl lb l::F) (Ret (.int .u64 (decB l).1) f (plogH fl lb l::F)):=by
 refine Fn.e2 func43 ntmps43 fun base=>?_;refine gK ?_;refine H.Af rfl rfl rfl (dbest_fn f _ hfl (lb:=lb) hL hT hodd) ?_;refine gX ?_;exact qam
end
theorem lore_upJ{g:Frag}(h:Le f g){l:List MV}{A:List HP}:∀x,stars (loreH f lb n l::A) x→stars (loreH g lb n l::A) x:=fun _ ⟨h1,h2,hd,he,ha,hr⟩=>⟨h1,h2,hd,he,loreH_mono h _ ha,hr⟩
structure Frk where
 o:Int
 num:Int
 a:Nat
 b:Nat
def fkV(x:Frk):List Value:=[.int .i64 x.o,.int .u64 x.num,.int .i64 (x.a:Nat),.int .i64 (x.b:Nat)]
theorem fkV_len(x:Frk):(fkV x).length=4:=rfl
def vdV(v:Nat):List Value:=[.int .u8 (v:Nat)]
theorem vdV_len(v:Nat):(vdV v).length=1:=rfl
def nV(v:Nat):List Value:=[.int .i64 (v:Nat)]
theorem nV_len(v:Nat):(nV v).length=1:=rfl
structure AuM where
 M:List Msg
 l:Lgs
 vd:List Nat
 fk:List Frk
 tk:List Nat
def AuM.meet(n:Nat)(m:Msg)(i:Nat)(A:AuM):AuM×Bool:=
 if chk n (strm A.M) m=1 then({A with vd:=A.vd.set i 1},true)
 else if chk n (strm A.M) m=0 then({A with M:=A.M++[m],l:=(A.l.take m).2,vd:=A.vd.set i (if(A.l.take m).1.1=true then 6 else 5),tk:=A.tk++[i]},true)
 else(A,false)
def AuM.passTo(n:Nat)(ms:List Msg)(A:AuM):Nat→AuM×Bool
 |0=>(A,false)
 | k + 1 => match ms[k]? with
  |none=>A.passTo n ms k
  |some m=>if(A.passTo n ms k).1.vd[k]?=some 0 then(((A.passTo n ms k).1.meet n m k).1,(A.passTo n ms k).2||((A.passTo n ms k).1.meet n m k).2)else A.passTo n ms k
def auC(n:Nat)(ap:Option Addr)(m c lo lg:Nat)(vp:Option Addr)(vl vc:Nat)(fp:Option Addr)(fl fc:Nat)(tp:Option Addr)(tl tc:Nat):List Value:=
 [.int .i64 (n:Nat),.slice ap m c,.pointer (some ⟨lo,0,none⟩),.pointer (some ⟨lg,0,none⟩),.slice vp vl vc,.slice fp fl fc]++v11 (fun _=>0)++[.slice none 0 0,.int .u64 0,.slice tp tl tc]
structure AuP where
 lo:Nat
 lg:Nat
 L:List MV
 fp:Option Addr
 fc:Nat
 tp:Option Addr
 tc:Nat
def auB(fl:Frag)(ab n:Nat)(ap:Option Addr)(m c:Nat)(vp:Option Addr)(vc:Nat)(A:AuM)(i:AuP):List HP:=
 [row ab 82 (auC n ap m c i.lo i.lg vp A.vd.length vc i.fp A.fk.length i.fc i.tp A.tk.length i.tc),slc vp A.vd.length vc 56 1 (A.vd.flatMap vdV),slc i.fp A.fk.length i.fc 68 4 (A.fk.flatMap fkV),slc i.tp A.tk.length i.tc 3 1 (A.tk.flatMap nV),loreH fl i.lo n i.L,plogH fl i.lg A.l]
def auH(fl:Frag)(ab n:Nat)(ap:Option Addr)(m c:Nat)(vp:Option Addr)(vc:Nat)(A:AuM):HP:=pack (fun i:AuP=>i.L.map MV.m=A.M) (auB fl ab n ap m c vp vc A)
variable {A:AuM} {F:List HP} {ab vc:Nat} {ap vp:Option Addr}
theorem zbx{m:Nat}(i:AuP)(h:i.L.map MV.m=A.M):∀x,stars (auB fl ab n ap m c vp vc A i++F) x→stars (auH fl ab n ap m c vp vc A::F) x:=fun x hx=>pack_fold (φ:=fun i:AuP=>i.L.map MV.m=A.M) (B:=auB fl ab n ap m c vp vc A) i h x hx
structure AuI(n N:Nat)(A:AuM):Prop where
 n3:3≤n∧n≤11
 odd:n % 2=1
 ln:A.l.n=n
 vl:A.vd.length=N
 nl:N≤4096
 li:LI A.l A.M.length
 ni:NI A.l
 ml:A.M.length≤20000
 tl:A.tk.length≤20000
def nwM(n N:Nat):AuM:=⟨[],Lgs.new n,List.replicate N 0,[],[]⟩
variable {vd:List Nat}
theorem vd_set{i:Nat}(h:i<vd.length)(v:Nat):SetV (vd.flatMap vdV) (i*1) (.int .u8 (v:Nat)) ((vd.set i v).flatMap vdV):=by
 have e:∀l:List Nat,l.flatMap vdV=l.map fun z:Nat=>Value.int .u8 (z:Nat):=fun l=>by
  induction l with
  |nil=>rfl
  |cons x r ih=>rw[List.flatMap_cons,ih];rfl
 rw[Nat.mul_one,e,e,List.map_set];exact SetV.mk _ (by rw[List.length_map];exact h)
def MeetP(f:Frag)(F:List HP)(ab n:Nat)(ap:Option Addr)(m c:Nat)(vp:Option Addr)(vc:Nat)(R:AuM×Bool):Value→Frag→List HP→Prop:=fun v f' A'=>∃g,Dj f g∧v= .bool R.2∧f'=un f g∧A'=auH f' ab n ap m c vp vc R.1::F
variable {ml:List MV} {x:MV}
section
variable (f:Frag) (F:List HP)
theorem meet_fn(htab:TabAt f)(hfl:Le fl f)(hat:ListAt f ap 121 MV.vals ml)(hg:∀x∈ml,x.Good f)(hI:AuI n ml.length A){k:Nat}(hx:ml[k]?=some x):Fn prog 75 [.pointer (some ⟨ab,0,none⟩),.int .i64 (k:Int)] f (auH fl ab n ap ml.length c vp vc A::F) (MeetP f F ab n ap ml.length c vp vc (A.meet n x.m k)):=by
 have hkl:k<ml.length:=(List.getElem?_eq_some_iff.1 hx).1;have hxg:=hg x (List.mem_of_getElem? hx)
 have hNl:=hI.nl;have hvl:=hI.vl
 obtain⟨ba,off,rfl,rdA⟩:=hat.all MV.len jC jA;refine qjW fun i hi=>?_;obtain⟨lo,lg,L,fp,fc,tp,tc⟩:=i;have hi:L.map MV.m=A.M:=hi;have hLl:L.length=A.M.length:=by rw[←hi,List.length_map]
 have hadd:=fun G=>ladd_fn f G htab hfl (lb:=lo) (n:=n) (l:=L) (x:=x) hxg (by have:=hI.ml;omega);unfold AddP at hadd
 rw[hi]at hadd;have hmt:A.meet n x.m k=if chk n (strm A.M) x.m=1 then({A with vd:=A.vd.set k 1},true)else if chk n (strm A.M) x.m=0 then({A with M:=A.M++[x.m],l:=(A.l.take x.m).2,vd:=A.vd.set k (if(A.l.take x.m).1.1=true then 6 else 5),tk:=A.tk++[k]},true)else(A,false):=rfl
 generalize chk n (strm A.M) x.m=ck at *;show Fn _ _ _ f (row ab 82 (auC n (some ⟨ba,off,none⟩) ml.length c lo lg vp A.vd.length vc fp A.fk.length fc tp A.tk.length tc)::slc vp A.vd.length vc 56 1 (A.vd.flatMap vdV)::slc fp A.fk.length fc 68 4 (A.fk.flatMap fkV)::slc tp A.tk.length tc 3 1 (A.tk.flatMap nV)::loreH fl lo n L::plogH fl lg A.l::F) _;refine Fn.e2 func75 ntmps75 fun base=>?_;refine gF ?_;refine qiU ?_;refine qfX fun mb=>?_;refine qeX ?_;refine qja ?_;refine qeT ?_;refine qgm ?_;refine HB.qu [0,1,2,3,4] 1 ?_;refine qfy ?_;refine qiQ ?_;refine H.cl (hadd _) fun v f' A' hr=>?_;obtain⟨g,qp,qc,rfl,hd,rfl,rfl⟩:=hr;have hup:=Le.un f g;have hxg2:=hxg.mono hup
 have hta:=zbc htab hup;have hfl2:=hfl.trans hup
 have hdj:=hd;clear hd hadd
 generalize hf2:un f g=f2 at *;have hf2:=hf2.symm;refine qja ?_
 refine qeT ?_;refine H.on [] hup rfl ?_;refine HB.dn ?_;refine H.Au (p:=vp) (n0:=A.vd.length) (c:=vc) (T:=56) (sz:=1) (xs:=A.vd.flatMap vdV) jB jA fun sv hp=>?_;subst hp;by_cases h1:ck=1
 ·rw[if_neg jA];rw[if_pos h1]at hmt;subst h1;rw[hmt];refine gc ?_;refine qgJ ?_;refine H.Az rfl rfl rfl rfl jB (by rw[Nat.zero_add];exact vd_set (vd:=A.vd) (i:=k) jA 1) ?_;refine qhf ?_;refine qgy ?_;refine H.imp (plog_up hfl2) ?_;refine qeA ?_;have hle:A.vd.length=(A.vd.set k 1).length:=by rw[List.length_set]
  rw[hle];refine H.imp (zbx (A:={A with vd:=A.vd.set k 1}) ⟨lo,lg,L,fp,fc,tp,tc⟩ hi) ?_;exact qdf
 ·rw[if_neg h1]at hmt;by_cases h0:ck=0
  ·rw[if_pos h0]at hmt⊢;subst h0;have htk0:=hI.li;have htake:=fun e (he:Le f2 e) G=>pltakeA_fn e G (zbc hta he) (lb:=lg) (hfl2.trans he) hI.li (by have:=hI.ml;omega) hI.ni (by rw[hI.ln];exact hI.odd) (hxg2.mono he)
   have htake:=fun G=>htake f2 (Le.refl _) G;have htl:=hI.tl
   have hls:(A.vd.set k 5).length=A.vd.length:=List.length_set;have hss:(A.vd.set k 5).set k 6=A.vd.set k 6:=List.set_set ..
   refine gc ?_;refine H.Am (out:=nV k) rfl rfl rfl rfl jC jC rfl rfl fun eb=>?_;refine H.Ar (sz:=1) (p:=tp) (n0:=A.tk.length) (c:=tc) (xs:=A.tk.flatMap nV) (m:=1) (news:=nV k) rfl rfl rfl rfl rfl (fun p' c'=>jB) (Src.slice (Rd.ofRow jB) rfl) (zaa rfl) rfl jA jA fun p2 c2=>?_;refine qgI ?_;refine gc ?_;refine qgJ ?_;refine H.Az rfl rfl rfl rfl jB (by rw[Nat.zero_add];exact vd_set (vd:=A.vd) (i:=k) jA 5) ?_;refine qja ?_;refine qeT ?_;refine qgm ?_;refine HB.qu [0,1,2,3,4] 6 ?_;refine qkQ ?_;refine qed ?_;refine HB.qu [6,7,8,9,10] 0 ?_;refine qfh ?_;have e2:A.tk.length+1=(A.tk++[k]).length:=by rw[List.length_append];rfl
   have e3:A.tk.flatMap nV++nV k=(A.tk++[k]).flatMap nV:=by rw[List.flatMap_append];rfl
   cases hb:(A.l.take x.m).1.1 with
   | false =>
    rw[hb,if_neg jC]at hmt;rw[hmt];have e1:A.vd.length=(A.vd.set k 5).length:=List.length_set.symm;refine gV ?_
    refine qeD ?_;refine qfc ?_;refine H.pf (x:=slc p2 _ _ 3 _ _) ?_;refine qhO ?_;rw[e1,e2,e3];refine H.imp (zbx (A:={A with M:=A.M++[x.m],l:=(A.l.take x.m).2,vd:=A.vd.set k 5,tk:=A.tk++[k]}) ⟨lo,lg,L++[⟨x.m,qp,qc⟩],fp,fc,p2,c2⟩ (by rw[List.map_append,hi];rfl)) ?_;exact qdf
   | true =>
    rw[hb,if_pos rfl]at hmt;rw[hmt];have e1:A.vd.length=(A.vd.set k 6).length:=List.length_set.symm;refine gc ?_
    refine qgJ ?_;refine H.Az rfl rfl rfl rfl jB (by rw[Nat.zero_add];exact vd_set (vd:=A.vd.set k 5) (i:=k) jA 6) ?_;refine qhf ?_;refine qfc ?_;refine H.pf (x:=slc p2 _ _ 3 _ _) ?_;refine qhO ?_;rw[hss,e1,e2,e3];refine H.imp (zbx (A:={A with M:=A.M++[x.m],l:=(A.l.take x.m).2,vd:=A.vd.set k 6,tk:=A.tk++[k]}) ⟨lo,lg,L++[⟨x.m,qp,qc⟩],fp,fc,p2,c2⟩ (by rw[List.map_append,hi];rfl)) ?_;exact qdf
  ·rw[if_neg h0]at hmt⊢;rw[hmt];refine gZ ?_;refine qeD ?_;refine qgy ?_;refine H.imp (plog_up hfl2) ?_;refine qiV ?_;exact qdf
theorem AuI.meet{n N:Nat}{A:AuM}(h:AuI n N A){m:Msg}(hv:0≤m.body.view)(k:Nat)(hM:A.M.length<20000)(hT:A.tk.length<20000):AuI n N (A.meet n m k).1∧(A.meet n m k).1.M.length≤A.M.length+1∧(A.meet n m k).1.tk.length≤A.tk.length+1∧(A.meet n m k).1.fk=A.fk:=by
 unfold AuM.meet;split
 ·exact⟨⟨h.n3,h.odd,h.ln,by show(A.vd.set k 1).length=N;rw[List.length_set];exact h.vl,h.nl,h.li,h.ni,h.ml,h.tl⟩,Nat.le_succ _,Nat.le_succ _,rfl⟩
 ·split
  ·refine⟨⟨h.n3,h.odd,by show(A.l.take m).2.n=n;rw[Lgs.take_n];exact h.ln,by show(A.vd.set k _).length=N;rw[List.length_set];exact h.vl,h.nl,by show LI _ (A.M++[m]).length;rw[List.length_append];exact h.li.take hv,h.ni.take m,by show(A.M++[m]).length≤_;rw[List.length_append];show _+1≤_;omega,by show(A.tk++[k]).length≤_;rw[List.length_append];show _+1≤_;omega⟩,by show(A.M++[m]).length≤_;rw[List.length_append];exact Nat.le_refl _,by show(A.tk++[k]).length≤_;rw[List.length_append];exact Nat.le_refl _,rfl⟩
  ·exact⟨h,Nat.le_succ _,Nat.le_succ _,rfl⟩
theorem AuI.passTo{n N:Nat}{A:AuM}(h:AuI n N A){ms:List Msg}(hv:∀m∈ms,0≤m.body.view):∀k,A.M.length+k<20000→A.tk.length+k<20000→AuI n N (A.passTo n ms k).1∧(A.passTo n ms k).1.M.length≤A.M.length+k∧(A.passTo n ms k).1.tk.length≤A.tk.length+k∧(A.passTo n ms k).1.fk=A.fk
 |0,_,_=>⟨h,Nat.le_refl _,Nat.le_refl _,rfl⟩
 | k + 1, h1, h2 => by
  obtain⟨i1,i2,i3,i4⟩:=AuI.passTo h hv k jA jA
  unfold AuM.passTo
  cases hm:ms[k]? with
  |none=>exact⟨i1,by show(A.passTo n ms k).1.M.length≤_;omega,by show(A.passTo n ms k).1.tk.length≤_;omega,i4⟩
  | some m =>
   show AuI n N (if _ then _ else _:AuM×Bool).1∧_
   split
   ·obtain⟨j1,j2,j3,j4⟩:=i1.meet (hv m (List.mem_of_getElem? hm)) k jA jA
    exact⟨j1,by show((A.passTo n ms k).1.meet n m k).1.M.length≤_;omega,by show((A.passTo n ms k).1.meet n m k).1.tk.length≤_;omega,j4.trans i4⟩
   ·exact⟨i1,by show(A.passTo n ms k).1.M.length≤_;omega,by show(A.passTo n ms k).1.tk.length≤_;omega,i4⟩
theorem pass_fn(htab:TabAt f)(hfl:Le fl f)(hat:ListAt f ap 121 MV.vals ml)(hg:∀x∈ml,x.Good f)(hI:AuI n ml.length A)(hM:A.M.length+ml.length<20000)(hT:A.tk.length+ml.length<20000):Fn prog 41 [.pointer (some ⟨ab,0,none⟩)] f (auH fl ab n ap ml.length c vp vc A::F) (MeetP f F ab n ap ml.length c vp vc (A.passTo n (ml.map MV.m) ml.length)):=by
 have hvw:∀m∈ml.map MV.m,0≤m.body.view:=fun m hm=>by
  exact qcv
 have hNl:=hI.nl;have hvl:=hI.vl
 refine qjW fun i hi=>?_;obtain⟨lo,lg,L,fp,fc,tp,tc⟩:=i;refine qgr ?_;refine Fn.e1 func41 ntmps41 fun base=>?_;refine gN ?_;refine qgy ?_;refine H.imp (plog_up hfl) ?_;refine qiQ ?_;refine H.imp (lore_upJ hfl) ?_;refine qgy ?_;refine qiV ?_
 refine H.loop (ι:=Nat×Frag) (fun s=>[(11,.int .i64 (s.1:Int)),(10,.int .i64 (ml.length:Nat)),(9,.slice vp ml.length vc),(2,.bool (A.passTo n (ml.map MV.m) s.1).2),(0,.pointer (some ⟨ab,0,none⟩))]) (fun s=>un f s.2)
  (fun s=>auH (un f s.2) ab n ap ml.length c vp vc (A.passTo n (ml.map MV.m) s.1).1::F) (fun s=>s.1≤ml.length∧Dj f s.2) (fun s=>ml.length-s.1)
  (0,nil0) ⟨Nat.zero_le _,Dj.nil _⟩ ⟨rfl,by show _=some (Value.int .i64 (ml.length:Nat));rw[←hvl];rfl,by show _=some (Value.slice vp ml.length vc);rw[←hvl];rfl,rfl,rfl,trivial⟩ (un_nil _).symm (by show auH f ab n ap ml.length c vp vc A::F=auH (un f nil0) ab n ap ml.length c vp vc A::F;rw[un_nil]) fun s hs=>?_
 obtain⟨k,g⟩:=s;obtain⟨hk,hd⟩:k≤ml.length∧Dj f g:=hs;show H _ _ _ [(11,.int .i64 (k:Int)),_,_,(2,.bool (A.passTo n (ml.map MV.m) k).2),_] (un f g) (auH (un f g) ab n ap ml.length c vp vc (A.passTo n (ml.map MV.m) k).1::F) _;obtain⟨hIk,hMk,hTk,_⟩:=hI.passTo hvw k jA jA;by_cases hkl:k<ml.length
 ·obtain⟨x,hx⟩:∃x,ml[k]?=some x:=⟨_,List.getElem?_eq_getElem hkl⟩;have hxm:(ml.map MV.m)[k]?=some x.m:=by rw[List.getElem?_map,hx];rfl
  have hps:A.passTo n (ml.map MV.m) (k+1)=if(A.passTo n (ml.map MV.m) k).1.vd[k]?=some 0 then(((A.passTo n (ml.map MV.m) k).1.meet n x.m k).1,(A.passTo n (ml.map MV.m) k).2||((A.passTo n (ml.map MV.m) k).1.meet n x.m k).2)else A.passTo n (ml.map MV.m) k:=qdA
  have hmeet:=fun G=>meet_fn (un f g) G (zbc htab (Le.un f g)) (Le.refl _) (ab:=ab) (ap:=ap) (c:=c) (vp:=vp) (vc:=vc) (hat.mono (Le.un f g)) (fun y hy=>(hg y hy).mono (Le.un f g)) hIk hx;have hvk:=hIk.vl
  obtain⟨z,hz⟩:∃z,(A.passTo n (ml.map MV.m) k).1.vd[k]?=some z:=⟨_,List.getElem?_eq_getElem jA⟩;rw[hz]at hps;generalize A.passTo n (ml.map MV.m) k=B at *;refine H.Bw fun j hj=>?_;obtain⟨lo,lg,L,fp,fc,tp,tc⟩:=j;have hj:L.map MV.m=B.1.M:=hj;show H _ _ _ _ _ (row ab 82 (auC n ap ml.length c lo lg vp B.1.vd.length vc fp B.1.fk.length fc tp B.1.tk.length tc)::slc vp B.1.vd.length vc 56 1 (B.1.vd.flatMap vdV)::slc fp B.1.fk.length fc 68 4 (B.1.fk.flatMap fkV)::slc tp B.1.tk.length tc 3 1 (B.1.tk.flatMap nV)::loreH (un f g) lo n L::plogH (un f g) lg B.1.l::F) _
  refine qjw fun sv hp=>?_;subst hp;have hrd:∀ {G:List HP} {x0:HP},Rd1 (un f g) (x0::slc (some ⟨sv,0,none⟩) B.1.vd.length vc 56 1 (B.1.vd.flatMap vdV)::G) sv (k*1) (.int .u8 (z:Nat)):=fun {G x0}=>Rd1.of (i:=0) (Rd.slcElem (vals:=vdV) (xs:=B.1.vd) vdV_len jC (.there _ (.here _ _ _)) hz) rfl;by_cases hz0:z=0
  ·subst hz0;rw[if_pos rfl]at hps;refine qfN ?_;refine gQ ?_;refine H.imp (zbx (A:=B.1) ⟨lo,lg,L,fp,fc,tp,tc⟩ hj) ?_;refine H.cl (hmeet _) fun v f' A' hr=>?_;obtain⟨g2,hd2,rfl,rfl,rfl⟩:=hr;generalize B.1.meet n x.m k=C at *
   cases hb:C.2 with
   | true =>
    have hb2:(A.passTo n (ml.map MV.m) (k+1)).2=true:=by rw[hps];show(B.2||C.2)=true;rw[hb,Bool.or_true]
    exact qaL
   | false =>
    have hb2:(A.passTo n (ml.map MV.m) (k+1)).2=B.2:=by rw[hps];show(B.2||C.2)=B.2;rw[hb,Bool.or_false]
    exact qaL
  ·rw[if_neg (by intro h;exact hz0 (Option.some.inj h))]at hps;have hz1:¬((z:Nat):Int)=0:=jA
   refine qfN ?_;refine gU ?_;refine H.imp (zbx (A:=B.1) ⟨lo,lg,L,fp,fc,tp,tc⟩ hj) ?_;exact H.Av (k+1,g) ⟨by show k+1≤ml.length;omega,hd⟩ jS ⟨rfl,rfl,jg,(by show _=some (Value.bool (A.passTo n (ml.map MV.m) (k+1)).2);rw[hps];rfl),rfl,trivial⟩ rfl (by show auH (un f g) ab n ap ml.length c (some ⟨sv,0,none⟩) vc B.1::F=auH (un f g) ab n ap ml.length c (some ⟨sv,0,none⟩) vc (A.passTo n (ml.map MV.m) (k+1)).1::F;rw[hps])
 ·have e:k=ml.length:=jA
  subst e;refine gZ ?_;exact H.r1 ⟨g,hd,rfl,rfl,rfl⟩
end
def auZero(n:Nat)(ap:Option Addr)(m c:Nat):List Value:=
 [.int .i64 (n:Nat),.slice ap m c,.pointer none,.pointer none,.slice none 0 0,.slice none 0 0]++v11 (fun _=>0)++[.slice none 0 0,.int .u64 0,.slice none 0 0]
def BegP(f:Frag)(F:List HP)(n:Nat)(ap:Option Addr)(N c:Nat):Value→Frag→List HP→Prop:=fun v f' A'=>∃(g:Frag) (ab:Nat) (vp:Option Addr),Dj f g∧v= .tuple #[.pointer (some ⟨ab,0,none⟩),.int .i64 0]∧f'=un f g∧A'=auH f' ab n ap N c vp N (nwM n N)::F
variable {N:Nat}
theorem nwM_I(h3:3≤n∧n≤11)(ho:n % 2=1)(hN:N≤4096):AuI n N (nwM n N):=
 ⟨h3,ho,rfl,List.length_replicate,hN,LI.new h3.1 h3.2,NI.new n,Nat.zero_le _,Nat.zero_le _⟩
theorem vd_zeros(N:Nat):zeros [.int .u8 0] N=(List.replicate N 0).flatMap vdV:=by
 induction N with
 |zero=>rfl
 | succ N ih =>
  show [Value.int .u8 0]++zeros [.int .u8 0] N=vdV 0++(List.replicate N 0).flatMap vdV;rw[ih];rfl
section
variable (f:Frag) (F:List HP)
theorem begin_fn(hfz:fewZ (n:Int))(hN:N≤4096):Fn prog 20 [.int .i64 (n:Nat),.slice ap N c] f F (BegP f F n ap N c):=by
 refine Fn.e2 func20 ntmps20 fun base=>?_;repeat(first|(refine H.Ax (t:=82) (out:=auZero n ap N c) rfl rfl rfl jD rfl ?_)|(refine gh ?_))
 refine H.box (ls:=auZero n ap N c) rfl rfl rfl rfl fun ab=>?_;refine gK ?_;refine H.callE rfl rfl rfl (lnew_fn f _ (n:=n) hfz) fun lo=>?_;refine gg ?_;refine H.Aq rfl rfl rfl (plnew_fn f _ (n:=n) hfz) fun v f' A' hr=>?_;obtain⟨g,lg,hd,rfl,rfl,rfl⟩:=hr;refine gg ?_;refine H.makeS (m:=N) (zs:=[.int .u8 0]) rfl rfl rfl rfl rfl rfl rfl jC jA jA rfl fun vb=>?_;rw[vd_zeros];refine H.asSlc (k:=N) (sz:=1) (by rw[←vd_zeros,zeros_length];exact Nat.mul_comm 1 N▸rfl) jA ?_;refine gc ?_;refine H.slc0 68 4 ?_;refine H.slc0 3 1 ?_;refine qfc ?_;refine H.imp (lore_upJ (Le.un f g)) ?_;refine H.pf (x:=slc none 0 0 3 1 []) ?_;refine H.pf (x:=slc none 0 0 68 4 []) ?_;refine H.pf (x:=slc (some ⟨vb,0,none⟩) _ _ _ _ _) ?_;refine qeT ?_;have hNl:(nwM n N).vd.length=N:=List.length_replicate
 refine H.imp (A':=auH (un f g) ab n ap N c (some ⟨vb,0,none⟩) N (nwM n N)::F) (fun x hx=>zbx (fl:=un f g) (ab:=ab) (n:=n) (ap:=ap) (m:=N) (c:=c) (vp:=some ⟨vb,0,none⟩) (vc:=N) (A:=nwM n N) ⟨lo,lg,[],none,0,none,0⟩ rfl x (by
  show stars (row ab _ (auC n ap N c lo lg (some ⟨vb,0,none⟩) (nwM n N).vd.length N none 0 0 none 0 0)::slc (some ⟨vb,0,none⟩) (nwM n N).vd.length N _ 1 _::_) x;rw[hNl]
  exact hx)) ?_
 exact H.Ba rfl rfl rfl iD ⟨g,ab,some ⟨vb,0,none⟩,hd,rfl,rfl,rfl⟩
def encAu(k:Int×Int):Value:=.agg ([.int .i64 k.1,.int .u64 k.2]:List Value).toArray
instance keyAu:KeyT prog 166 encAu:=keyT_agg (cellsK:=fun k:Int×Int=>[.int .i64 k.1,.int .u64 k.2]) (D:=4) jD (fun k=>by kernel_rfl) jC (fun a b=>by
  obtain⟨a1,a2⟩:=a
  obtain⟨b1,b2⟩:=b
  show(a1 == b1&&(a2 == b2&&true))=_
  by_cases h1:a1=b1<;>by_cases h2:a2=b2<;>simp[h1,h2]) (fun k=>rfl)
abbrev SfM:=List ((Int×Int)×Nat)
def sfV(M:SfM):List ((Int×Int)×Value):=M.map fun e=>(e.1,.int .i64 (e.2:Nat))
def sfG:SfM→Int×Int→Option Nat
 | [],_=>none
 |(k',d)::r,k=>if k=k' then some d else sfG r k
theorem getKV_sfV:∀(M:SfM) (k:Int×Int),getKV (sfV M) k=(sfG M k).map fun i:Nat=>Value.int .i64 (i:Nat)
 | [],_=>rfl
 | (k', d) :: r, k => by
  show(if k=k' then some (Value.int .i64 (d:Nat))else getKV (sfV r) k)=(if k=k' then some d else sfG r k).map _
  rw[getKV_sfV r k]
  split<;>rfl
theorem putKV_sfV:∀(M:SfM) (k:Int×Int) (d:Nat),sfG M k=none→putKV (sfV M) k (.int .i64 (d:Nat))=sfV (M++[(k,d)])
 | [],_,_,_=>rfl
 | (k', u) :: r, k, d, h => by
  have h1:¬k=k':=fun e=>by
   have:sfG ((k',u)::r) k=some u:=if_pos e
   rw[this]at h;cases h
  have h2:sfG r k=none:=by
   have:sfG ((k',u)::r) k=sfG r k:=if_neg h1;rw[this]at h;exact h
  show(if k=k' then _ else(k',Value.int .i64 (u:Nat))::putKV (sfV r) k _)=_
  rw[if_neg h1,putKV_sfV r k d h2]
  rfl
def AuM.sift1(n:Nat)(ms:List Msg)(i:Nat)(m:Msg)(S:AuM×SfM):AuM×SfM:=
 if chk n (strm []) m=1∨chk n (strm []) m=11 then({S.1 with vd:=S.1.vd.set i 1},S.2)
 else match sfG S.2 (m.origin,m.number)with
  |none=>(S.1,S.2++[((m.origin,m.number),i)])
  |some j=>if ms[j]?.map Msg.putB=some m.putB then({S.1 with vd:=S.1.vd.set i 2},S.2)else({S.1 with vd:=S.1.vd.set i 3,fk:=S.1.fk++[⟨m.origin,m.number,j,i⟩]},S.2)
def AuM.siftTo(n:Nat)(ms:List Msg)(A:AuM):Nat→AuM×SfM
 |0=>(A,[])
 | k + 1 => match ms[k]? with
  |none=>A.siftTo n ms k
  |some m=>AuM.sift1 n ms k m (A.siftTo n ms k)
structure SfI(n N:Nat)(M:List Msg)(k:Nat)(S:AuM×SfM):Prop where
 ai:AuI n N S.1
 M0:S.1.M=M
 t0:S.1.tk=[]
 fl:S.1.fk.length≤k
 lt:∀e∈S.2,e.2<k
theorem sfG_mem:∀ {M:SfM} {k:Int×Int} {d:Nat},sfG M k=some d→(k,d)∈M
 | (k', u) :: r, k, d, h => by
  by_cases e:k=k'
  ·have:sfG ((k',u)::r) k=some u:=if_pos e
   rw[this]at h
   cases h
   rw[e]
   exact List.mem_cons_self
  ·have:sfG ((k',u)::r) k=sfG r k:=if_neg e
   rw[this]at h
   exact List.mem_cons_of_mem _ (sfG_mem h)
theorem AuI.vset(h:AuI n N A)(i v:Nat)(fk:List Frk):AuI n N {A with vd:=A.vd.set i v,fk:=fk}:=
 ⟨h.n3,h.odd,h.ln,by show(A.vd.set i v).length=N;rw[List.length_set];exact h.vl,h.nl,h.li,h.ni,h.ml,h.tl⟩
theorem AuM.siftTo_I{n N:Nat}{A:AuM}(h:AuI n N A)(h0:A.tk=[])(hf:A.fk=[]){ms:List Msg}:∀k,SfI n N A.M k (A.siftTo n ms k)
 |0=>⟨h,rfl,h0,by show A.fk.length≤0;rw[hf];exact Nat.le_refl _,fun e he=>absurd he List.not_mem_nil⟩
 | k + 1 => by
  obtain⟨i1,i2,i3,i4,i5⟩:=AuM.siftTo_I (n:=n) h h0 hf (ms:=ms) k
  unfold AuM.siftTo
  cases hm:ms[k]? with
  |none=>exact⟨i1,i2,i3,by show(A.siftTo n ms k).1.fk.length≤_;omega,fun e he=>Nat.lt_succ_of_lt (i5 e he)⟩
  | some m =>
   show SfI n N A.M (k+1) (AuM.sift1 n ms k m (A.siftTo n ms k))
   unfold AuM.sift1
   split
   ·exact⟨i1.vset k 1 _,i2,i3,by show(A.siftTo n ms k).1.fk.length≤_;omega,fun e he=>Nat.lt_succ_of_lt (i5 e he)⟩
   ·split
    ·refine⟨i1,i2,i3,by show(A.siftTo n ms k).1.fk.length≤_;omega,fun e he=>?_⟩
     rcases List.mem_append.1 he with h1|h1
     ·exact Nat.lt_succ_of_lt (i5 e h1)
     ·rw[List.mem_singleton.1 h1]
      exact Nat.lt_succ_self k
    ·split
     ·exact⟨i1.vset k 2 _,i2,i3,by show(A.siftTo n ms k).1.fk.length≤_;omega,fun e he=>Nat.lt_succ_of_lt (i5 e he)⟩
     ·exact⟨i1.vset k 3 _,i2,i3,by show((A.siftTo n ms k).1.fk++[_]).length≤_;rw[List.length_append];show _+1≤_;omega,fun e he=>Nat.lt_succ_of_lt (i5 e he)⟩
theorem sift_fn(htab:TabAt f)(hat:ListAt f ap 121 MV.vals ml)(hg:∀x∈ml,x.Good f)(hI:AuI n ml.length A)(hM:A.M=[])(hT:A.tk=[])(hF:A.fk=[]):Fn prog 40 [.pointer (some ⟨ab,0,none⟩)] f (auH fl ab n ap ml.length c vp vc A::F) (Ret (.tuple #[]) f (auH fl ab n ap ml.length c vp vc (A.siftTo n (ml.map MV.m) ml.length).1::F)):=by
 have hNl:=hI.nl;refine qjW fun i hi=>?_
 obtain⟨lo,lg,L,fp,fc,tp,tc⟩:=i;refine qgr ?_;refine Fn.e1 func40 ntmps40 fun base=>?_;refine gA ?_;refine H.makeMap encAu rfl rfl fun mb=>?_;refine gN ?_;refine qkU ?_;refine qiV ?_
 refine H.lo (ι:=Nat) (fun k=>[(15,.int .i64 (k:Int)),(14,.int .i64 (ml.length:Nat)),(13,.slice ap ml.length c),(2,.map (some mb)),(0,.pointer (some ⟨ab,0,none⟩))]) (fun _=>f)
  (fun k=>auH fl ab n ap ml.length c vp vc (A.siftTo n (ml.map MV.m) k).1::mp mb encAu (sfV (A.siftTo n (ml.map MV.m) k).2)::F) (fun k=>k≤ml.length) (fun k=>ml.length-k)
  0 (Nat.zero_le _) fun k hk=>?_
 show H _ _ _ [(15,.int .i64 (k:Int)),_,_,_,_] f (auH fl ab n ap ml.length c vp vc (A.siftTo n (ml.map MV.m) k).1::mp mb encAu (sfV (A.siftTo n (ml.map MV.m) k).2)::F) _;obtain⟨hIk,hMk,hTk,hFk,hlt⟩:=AuM.siftTo_I (n:=n) hI hT hF (ms:=ml.map MV.m) k;by_cases hkl:k<ml.length
 ·obtain⟨x,hx⟩:∃x,ml[k]?=some x:=⟨_,List.getElem?_eq_getElem hkl⟩;have hxg:=hg x (List.mem_of_getElem? hx);have hxm:(ml.map MV.m)[k]?=some x.m:=by rw[List.getElem?_map,hx];rfl
  have hps:A.siftTo n (ml.map MV.m) (k+1)=AuM.sift1 n (ml.map MV.m) k x.m (A.siftTo n (ml.map MV.m) k):=qdA
  have hvl:=hIk.vl;obtain⟨ba,off,rfl,rdA⟩:=hat.all MV.len jC jA
  generalize A.siftTo n (ml.map MV.m) k=B at *;refine H.Bw fun j hj=>?_;obtain⟨lo,lg,L,fp,fc,tp,tc⟩:=j;have hj:L.map MV.m=B.1.M:=hj;have hL:L.map MV.m=[]:=by rw[hj,hMk,hM]
  have hck:=fun G=>lcheck_fn f G htab (fl:=fl) (lb:=lo) (n:=n) (l:=L) (x:=x) hxg;rw[hL]at hck
  unfold AuM.sift1 at hps;generalize chk n (strm []) x.m=ck at *;show H _ _ _ _ _ (row ab 82 (auC n (some ⟨ba,off,none⟩) ml.length c lo lg vp B.1.vd.length vc fp B.1.fk.length fc tp B.1.tk.length tc)::slc vp B.1.vd.length vc 56 1 (B.1.vd.flatMap vdV)::slc fp B.1.fk.length fc 68 4 (B.1.fk.flatMap fkV)::slc tp B.1.tk.length tc 3 1 (B.1.tk.flatMap nV)::loreH fl lo n L::plogH fl lg B.1.l::mp mb encAu (sfV B.2)::F) _;refine qjw fun sv hp=>?_;subst hp;refine gG ?_;refine qiU ?_;refine qfX fun xb=>?_;refine gK ?_;refine qeX ?_;refine gA ?_;refine qfl ?_;refine qeT ?_;refine qgm ?_;refine HB.qu [0,1,2,3,4] 2 ?_;refine qfy ?_;refine qiQ ?_;refine H.cr (hck _) ?_;refine qht ?_;refine HB.qu [6] 0 ?_;refine qgq ?_;by_cases h1:ck=1
  ·rw[if_pos (.inl h1)]at hps;subst h1;obtain⟨fp2,hfp2⟩:∃q,q=fp:=⟨_,rfl⟩;subst hfp2;refine gg ?_;exact qaD
  ·by_cases h11 : ck = 11
   ·rw[if_pos (.inr h11)]at hps;subst h11;obtain⟨fp2,hfp2⟩:∃q,q=fp:=⟨_,rfl⟩;subst hfp2;refine gU ?_;exact qaD
   ·rw[if_neg jA]at hps;refine gJ ?_;refine H.Aj (ls:=[.int .i64 0,.int .u64 0]) rfl rfl rfl fun kb=>?_;skip;refine H.Ag (ls:=[.int .i64 0,.int .u64 0]) (vs:=[.int .i64 x.m.origin,.int .u64 x.m.number]) (ls':=[.int .i64 x.m.origin,.int .u64 x.m.number]) rfl rfl rfl (zaa rfl) rfl rfl (Nat.le_refl 2) jB ?_;refine gK ?_;refine qke ?_
    cases hs:sfG B.2 (x.m.origin,x.m.number)with
    | none =>
     rw[hs]at hps;have hget:getKV (sfV B.2) (x.m.origin,x.m.number)=none:=by rw[getKV_sfV,hs];rfl
     have hput:=putKV_sfV B.2 (x.m.origin,x.m.number) k hs;have hg1:(getKV (sfV B.2) (x.m.origin,x.m.number)).getD (Value.int .i64 0)=Value.int .i64 0:=by rw[hget];rfl
     have hg2:(getKV (sfV B.2) (x.m.origin,x.m.number)).isSome=false:=by rw[hget];rfl
     clear hget hs;refine qkz ?_;refine gX ?_;refine qke ?_;refine gK ?_;refine H.mapUpdate (enc:=encAu) (k:=(x.m.origin,x.m.number)) (v:=.int .i64 (k:Nat)) rfl rfl rfl rfl jB rfl ?_;rw[hput];refine qjx ?_;obtain⟨fp2,hfp2⟩:∃q,q=fp:=⟨_,rfl⟩;subst hfp2;refine qfG ?_;refine H.imp (zbx (A:=B.1) ⟨lo,lg,L,fp2,fc,tp,tc⟩ hj) ?_;exact qav
    | some j =>
     rw[hs]at hps;have hjk:j<k:=hlt _ (sfG_mem hs);have hjl:j<ml.length:=jA
     obtain⟨y,hy⟩:∃y,ml[j]?=some y:=⟨_,List.getElem?_eq_getElem hjl⟩;have hyg:=hg y (List.mem_of_getElem? hy)
     have hps:A.siftTo n (ml.map MV.m) (k+1)=if y.m.putB=x.m.putB then({B.1 with vd:=B.1.vd.set k 2},B.2)else({B.1 with vd:=B.1.vd.set k 3,fk:=B.1.fk++[⟨x.m.origin,x.m.number,j,k⟩]},B.2):=by
      rw[hps];show(if(ml.map MV.m)[j]?.map Msg.putB=some x.m.putB then _ else _)=_;rw[List.getElem?_map,hy];show(if some y.m.putB=some x.m.putB then _ else _)=_;by_cases he:y.m.putB=x.m.putB
      ·rw[if_pos he,if_pos (congrArg some he)]
      ·rw[if_neg he,if_neg (fun h=>he (Option.some.inj h))]
     have hget:getKV (sfV B.2) (x.m.origin,x.m.number)=some (Value.int .i64 (j:Nat)):=by rw[getKV_sfV,hs];rfl
     have hg1:(getKV (sfV B.2) (x.m.origin,x.m.number)).getD (Value.int .i64 0)=Value.int .i64 (j:Nat):=by rw[hget];rfl
     have hg2:(getKV (sfV B.2) (x.m.origin,x.m.number)).isSome=true:=by rw[hget];rfl
     have hpy:=fun G=>mput_fn f G hyg;have hpx:=fun G=>mput_fn f G hxg
     have hbq:=fun G {p r:Option Addr} {c d:Nat}=>bequal_fn f G (p:=p) (r:=r) (c:=c) (d:=d) (a:=y.m.putB) (b:=x.m.putB);clear hget hs hck
     generalize y.m.putB=yb at *;generalize x.m.putB=xbs at *;refine qkz ?_;refine gY ?_;refine qfl ?_;refine qeT ?_;refine qgm ?_;refine HB.qu [0,1,2,3,4,5,6,8] 4 ?_;refine gR ?_;refine HQ.Ak (i:=j) rfl rfl rfl rfl hjl rfl ?_;refine HQ.Ab (ls:=y.vals) rfl rfl rfl (rdA _ _ _ _ (Le.refl _) hy) rfl rfl ?_;refine qkS ?_;refine HB.ev 7 ?_;refine H.Al rfl rfl rfl (hpy _) fun p1 c1=>?_;refine H.slc_none (.here _ _ _) fun hp1=>?_;refine qht ?_;refine HB.ev 9 ?_;refine H.Al rfl rfl rfl (hpx _) fun p2 c2=>?_;refine H.slc_none (.here _ _ _) fun hp2=>?_;refine qht ?_;refine HB.ev 10 ?_;refine H.Af rfl rfl rfl (hbq _ (Src.slcS jB jG) (Src.slcS jB jG) (fun h=>List.eq_nil_of_length_eq_zero (hp1 h)) (fun h=>List.eq_nil_of_length_eq_zero (hp2 h))) ?_;refine H.pd (x:=slc p1 _ _ _ _ _) ?_;refine H.pd (x:=slc p2 _ _ _ _ _) ?_;refine qht ?_;refine HB.qu [11] 0 ?_;refine qgq ?_;by_cases he:yb=xbs
     ·rw[if_pos he]at hps;rw[decide_eq_true he];clear hbq hpy hpx;obtain⟨fp2,hfp2⟩:∃q,q=fp:=⟨_,rfl⟩;subst hfp2;refine gc ?_;refine qgJ ?_;refine H.Az rfl rfl rfl rfl jB (by rw[Nat.zero_add];exact vd_set (vd:=B.1.vd) (i:=k) jA 2) ?_;refine qjx ?_;refine qfG ?_;have hle:B.1.vd.length=(B.1.vd.set k 2).length:=by rw[List.length_set]
      rw[hle];refine H.imp (zbx (A:={B.1 with vd:=B.1.vd.set k 2}) ⟨lo,lg,L,fp2,fc,tp,tc⟩ hj) ?_;exact qav
     ·rw[if_neg he]at hps;rw[decide_eq_false he];clear hbq hpy hpx;refine gc ?_;refine qgJ ?_;refine H.Az rfl rfl rfl rfl jB (by rw[Nat.zero_add];exact vd_set (vd:=B.1.vd) (i:=k) jA 3) ?_;refine gA ?_;refine qfl ?_;refine qeT ?_;refine H.dc [0,1,2,3,4,5,6,7,8,9,10,11,12,13,14,15,16,17] (S:=[_,_]) rfl ?_;refine HB.qu [0,1,2,3,4,5,6,7,8,9,10,11,12] 6 ?_;refine gW ?_;refine qhC ?_;refine H.Am (out:=fkV ⟨x.m.origin,x.m.number,j,k⟩) rfl rfl rfl rfl jC jC rfl rfl fun eb=>?_;refine qht ?_;refine HB.ev 14 ?_;refine H.Ar (sz:=4) (p:=fp) (n0:=B.1.fk.length) (c:=fc) (xs:=B.1.fk.flatMap fkV) (m:=1) (news:=fkV ⟨x.m.origin,x.m.number,j,k⟩) rfl rfl rfl rfl rfl (fun p' c'=>jB) (Src.slice (Rd.ofRow jB) rfl) (zaa rfl) rfl jA jA fun fp2 fc2=>?_;refine qgI ?_;refine qht ?_;refine HB.qu [15,16,17] 1 ?_;refine gR ?_;refine qeC ?_;refine HB.ev 18 ?_;refine gc ?_;refine qeM ?_;refine HB.dn ?_;refine qjx ?_;refine qfG ?_;have hle:B.1.vd.length=(B.1.vd.set k 3).length:=by rw[List.length_set]
      have e2:B.1.fk.length+1=(B.1.fk++[(⟨x.m.origin,x.m.number,j,k⟩:Frk)]).length:=by rw[List.length_append];rfl
      have e3:B.1.fk.flatMap fkV++fkV ⟨x.m.origin,x.m.number,j,k⟩=(B.1.fk++[(⟨x.m.origin,x.m.number,j,k⟩:Frk)]).flatMap fkV:=by rw[List.flatMap_append];rfl
      rw[hle,e2,e3];refine H.imp (zbx (A:={B.1 with vd:=B.1.vd.set k 3,fk:=B.1.fk++[⟨x.m.origin,x.m.number,j,k⟩]}) ⟨lo,lg,L,fp2,fc2,tp,tc⟩ hj) ?_;exact qav
 ·have e:k=ml.length:=jA
  subst e;refine gZ ?_;refine H.pd (x:=mp _ _ _) ?_;first|exact H.end0 rfl iD ⟨rfl,rfl,rfl⟩|exact H.ret0 rfl iD ⟨rfl,rfl,rfl⟩
end
theorem zc_set{k v:Nat}(h:vd[k]?=some 0)(hv:v≠0):(vd.set k v).count 0+1=vd.count 0:=by
 obtain⟨hk,e⟩:=List.getElem?_eq_some_iff.1 h;have h1:0<vd.count 0:=List.count_pos_iff.2 (e▸List.getElem_mem hk);rw[List.count_set hk,e,if_pos jC,if_neg (by simpa using hv)]
 omega
def ZC(N:Nat)(A:AuM):Prop:=A.M.length+A.vd.count 0≤N∧A.tk.length+A.vd.count 0≤N
theorem AuM.meet_zc{k:Nat}{m:Msg}(hz:A.vd[k]?=some 0)(h:ZC N A):ZC N (A.meet n m k).1∧(A.meet n m k).1.vd.count 0≤A.vd.count 0∧((A.meet n m k).2=true→(A.meet n m k).1.vd.count 0+1≤A.vd.count 0):=by
 obtain⟨h1,h2⟩:=h;unfold AuM.meet;split
 ·have e:=zc_set (v:=1) hz jC;exact⟨⟨by show A.M.length+(A.vd.set k 1).count 0≤N;omega,by show A.tk.length+(A.vd.set k 1).count 0≤N;omega⟩,by show(A.vd.set k 1).count 0≤_;omega,fun _=>by show(A.vd.set k 1).count 0+1≤_;omega⟩
 ·split
  ·have e:=zc_set (v:=if(A.l.take m).1.1=true then 6 else 5) hz (by split<;>decide);generalize(if(A.l.take m).1.1=true then 6 else 5)=v at e
   exact⟨⟨by show(A.M++[m]).length+(A.vd.set k v).count 0≤N;rw[List.length_append];show _+1+_≤_;omega,by show(A.tk++[k]).length+(A.vd.set k v).count 0≤N;rw[List.length_append];show _+1+_≤_;omega⟩,by show(A.vd.set k v).count 0≤_;omega,fun _=>by show(A.vd.set k v).count 0+1≤_;omega⟩
  ·exact⟨⟨h1,h2⟩,Nat.le_refl _,fun h=>by cases h⟩
theorem AuM.passTo_zc{n N:Nat}{A:AuM}{ms:List Msg}(h:ZC N A):∀k,ZC N (A.passTo n ms k).1∧(A.passTo n ms k).1.vd.count 0≤A.vd.count 0∧((A.passTo n ms k).2=true→(A.passTo n ms k).1.vd.count 0+1≤A.vd.count 0)
 |0=>⟨h,Nat.le_refl _,fun h=>by cases h⟩
 | k + 1 => by
  obtain⟨i1,i2,i3⟩:=AuM.passTo_zc (n:=n) (ms:=ms) h k
  unfold AuM.passTo
  cases hm:ms[k]? with
  |none=>exact⟨i1,i2,i3⟩
  | some m =>
   show ZC N (if _ then _ else _:AuM×Bool).1∧_
   split
   ·rename_i hz
    obtain⟨j1,j2,j3⟩:=AuM.meet_zc (n:=n) (m:=m) hz i1
    refine⟨j1,Nat.le_trans j2 i2,fun hb=>?_⟩
    have hb:((A.passTo n ms k).2||((A.passTo n ms k).1.meet n m k).2)=true:=hb
    show((A.passTo n ms k).1.meet n m k).1.vd.count 0+1≤_
    rcases Bool.or_eq_true _ _▸hb with h1|h1
    ·have:=i3 h1
     omega
    ·have:=j3 h1
     omega
   ·exact⟨i1,i2,i3⟩
def AuM.runP(n:Nat)(ms:List Msg)(N:Nat):Nat→AuM→AuM
 |0,A=>A
 |k+1,A=>if(A.passTo n ms N).2=true then AuM.runP n ms N k (A.passTo n ms N).1 else(A.passTo n ms N).1
def waitsTo(vd:List Nat):Nat→List Nat
 |0=>vd
 |k+1=>if(waitsTo vd k)[k]?=some 0 then(waitsTo vd k).set k 4 else waitsTo vd k
theorem waitsTo_len(vd:List Nat):∀k,(waitsTo vd k).length=vd.length
 |0=>rfl
 | k + 1 => by
  unfold waitsTo
  split
  ·rw[List.length_set];exact waitsTo_len vd k
  ·exact waitsTo_len vd k
def AuM.wt(A:AuM)(k:Nat):AuM:={A with vd:=waitsTo A.vd k}
def AuM.run(n:Nat)(ms:List Msg)(N:Nat)(A:AuM):AuM:=(AuM.runP n ms N (N+1) (A.siftTo n ms N).1).wt N
theorem AuI.wt(h:AuI n N A)(k:Nat):AuI n N (A.wt k):=
 ⟨h.n3,h.odd,h.ln,by show(waitsTo A.vd k).length=N;rw[waitsTo_len];exact h.vl,h.nl,h.li,h.ni,h.ml,h.tl⟩
def auCD(n:Nat)(ap:Option Addr)(m c lo lg:Nat)(vp:Option Addr)(vl vc:Nat)(fp:Option Addr)(fl fc:Nat)(kn:Nat→Int)(dp:Option Addr)(dn dc:Nat)(dv:Int)(tp:Option Addr)(tl tc:Nat):List Value:=
 [.int .i64 (n:Nat),.slice ap m c,.pointer (some ⟨lo,0,none⟩),.pointer (some ⟨lg,0,none⟩),.slice vp vl vc,.slice fp fl fc]++v11 kn++[.slice dp dn dc,.int .u64 dv,.slice tp tl tc]
structure AuQ where
 i:AuP
 dp:Option Addr
 dc:Nat
def auDB(fl:Frag)(ab n:Nat)(ap:Option Addr)(m c:Nat)(vp:Option Addr)(vc:Nat)(A:AuM)(q:AuQ):List HP:=
 [row ab 82 (auCD n ap m c q.i.lo q.i.lg vp A.vd.length vc q.i.fp A.fk.length q.i.fc (knownS (strm A.M)) q.dp (decL A.l).length q.dc (decB A.l).1 q.i.tp A.tk.length q.i.tc),slc vp A.vd.length vc 56 1 (A.vd.flatMap vdV),slc q.i.fp A.fk.length q.i.fc 68 4 (A.fk.flatMap fkV),slc q.i.tp A.tk.length q.i.tc 3 1 (A.tk.flatMap nV),loreH fl q.i.lo n q.i.L,plogH fl q.i.lg A.l,slc q.dp (decL A.l).length q.dc 49 40 ((decL A.l).flatMap Req.vals)]
def auD(fl:Frag)(ab n:Nat)(ap:Option Addr)(m c:Nat)(vp:Option Addr)(vc:Nat)(A:AuM):HP:=pack (fun q:AuQ=>q.i.L.map MV.m=A.M) (auDB fl ab n ap m c vp vc A)
theorem auD_fold{m:Nat}(q:AuQ)(h:q.i.L.map MV.m=A.M):∀x,stars (auDB fl ab n ap m c vp vc A q++F) x→stars (auD fl ab n ap m c vp vc A::F) x:=fun x hx=>pack_fold (φ:=fun q:AuQ=>q.i.L.map MV.m=A.M) (B:=auDB fl ab n ap m c vp vc A) q h x hx
def RunQ(f:Frag)(F:List HP)(ab n:Nat)(ap:Option Addr)(m c:Nat)(vp:Option Addr)(vc:Nat)(R:AuM):Value→Frag→List HP→Prop:=fun v f' A'=>∃g,Dj f g∧v= .tuple #[]∧f'=un f g∧A'=auD f' ab n ap m c vp vc R::F
section
variable (f:Frag) (F:List HP)
theorem run_fn(htab:TabAt f)(hfl:Le fl f)(hat:ListAt f ap 121 MV.vals ml)(hg:∀x∈ml,x.Good f)(hN:ml.length≤254)(hI:AuI n ml.length A)(hM:A.M=[])(hT:A.tk=[])(hF:A.fk=[]):Fn prog 21 [.pointer (some ⟨ab,0,none⟩)] f (auH fl ab n ap ml.length c vp vc A::F) (RunQ f F ab n ap ml.length c vp vc (A.run n (ml.map MV.m) ml.length)):=by
 have hvw:∀m∈ml.map MV.m,0≤m.body.view:=fun m hm=>by
  exact qcv
 have hsift:=fun G=>sift_fn f G htab (fl:=fl) (ab:=ab) (c:=c) (vp:=vp) (vc:=vc) hat hg hI hM hT hF;obtain⟨hIs,hMs,hTs,_,_⟩:=AuM.siftTo_I (n:=n) hI hT hF (ms:=ml.map MV.m) ml.length
 unfold AuM.run;generalize(A.siftTo n (ml.map MV.m) ml.length).1=B at *
 have hzc:ZC ml.length B:=by
  have h1:B.vd.count 0≤B.vd.length:=List.count_le_length;rw[hIs.vl]at h1
  exact⟨by rw[hMs,hM];show 0+_≤_;omega,by rw[hTs];show 0+_≤_;omega⟩
 have hz0:B.vd.count 0≤ml.length:=by have h1:B.vd.count 0≤B.vd.length:=List.count_le_length;rw[hIs.vl]at h1;exact h1
 refine Fn.e1 func21 ntmps21 fun base=>?_;refine gK ?_;refine H.cr (hsift _) ?_;refine H.Bw fun i hi=>?_;obtain⟨lo,lg,L,fp,fc,tp,tc⟩:=i;show H _ _ _ _ _ (row ab 82 (auC n ap ml.length c lo lg vp B.vd.length vc fp B.fk.length fc tp B.tk.length tc)::slc vp B.vd.length vc 56 1 (B.vd.flatMap vdV)::slc fp B.fk.length fc 68 4 (B.fk.flatMap fkV)::slc tp B.tk.length tc 3 1 (B.tk.flatMap nV)::loreH fl lo n L::plogH fl lg B.l::F) _;refine gT ?_;refine qgy ?_;refine H.imp (plog_up hfl) ?_;refine qiQ ?_;refine H.imp (lore_upJ hfl) ?_;refine qeA ?_;refine H.imp (zbx (A:=B) ⟨lo,lg,L,fp,fc,tp,tc⟩ hi) ?_
 refine H.loop (ι:=AuM×Frag×Nat) (fun s=>[(0,.pointer (some ⟨ab,0,none⟩))]) (fun s=>un f s.2.1) (fun s=>auH (un f s.2.1) ab n ap ml.length c vp vc s.1::F)
  (fun s=>AuI n ml.length s.1∧Dj f s.2.1∧ZC ml.length s.1∧s.1.vd.count 0+s.2.2≤ml.length∧AuM.runP n (ml.map MV.m) ml.length (ml.length+1) B=AuM.runP n (ml.map MV.m) ml.length (ml.length+1-s.2.2) s.1) (fun s=>s.1.vd.count 0)
  (B,nil0,0) ⟨hIs,Dj.nil _,hzc,hz0,rfl⟩ ⟨rfl,trivial⟩ (un_nil _).symm (by show auH f ab n ap ml.length c vp vc B::F=auH (un f nil0) ab n ap ml.length c vp vc B::F;rw[un_nil]) fun s hs=>?_
 obtain⟨C,g,k⟩:=s;obtain⟨hIC,hd,hzC,hzk,hrun⟩:=hs;have hIC:AuI n ml.length C:=hIC;have hd:Dj f g:=hd
 have hzC:ZC ml.length C:=hzC;have hzk:C.vd.count 0+k≤ml.length:=hzk
 have hrun:AuM.runP n (ml.map MV.m) ml.length (ml.length+1) B=AuM.runP n (ml.map MV.m) ml.length (ml.length+1-k) C:=hrun;show H _ _ _ _ (un f g) (auH (un f g) ab n ap ml.length c vp vc C::F) _
 obtain⟨p1,p2,p3⟩:=AuM.passTo_zc (n:=n) (ms:=ml.map MV.m) hzC ml.length;have hIp:=(hIC.passTo hvw ml.length (by have:=hzC.1;omega) (by have:=hzC.2;omega)).1;have hpass:=fun G=>pass_fn (un f g) G (zbc htab (Le.un f g)) (Le.refl _) (ab:=ab) (ap:=ap) (c:=c) (vp:=vp) (vc:=vc) (hat.mono (Le.un f g)) (fun y hy=>(hg y hy).mono (Le.un f g)) hIC (by have:=hzC.1;omega) (by have:=hzC.2;omega)
 have hstep:AuM.runP n (ml.map MV.m) ml.length (ml.length+1-k) C=if(C.passTo n (ml.map MV.m) ml.length).2=true then AuM.runP n (ml.map MV.m) ml.length (ml.length-k) (C.passTo n (ml.map MV.m) ml.length).1 else(C.passTo n (ml.map MV.m) ml.length).1:=by
  rw[show ml.length+1-k=ml.length-k+1 from by omega];rfl
 rw[hstep]at hrun;generalize C.passTo n (ml.map MV.m) ml.length=D at *;refine gK ?_;refine H.cl (hpass _) fun v f' A' hr=>?_;obtain⟨g2,hd2,rfl,rfl,rfl⟩:=hr
 cases hb:D.2 with
 | true =>
  rw[if_pos hb]at hrun
  have:=p3 hb;refine gX ?_
  exact H.Av (D.1,un g g2,k+1) ⟨hIp,Dj.un3' hd hd2,p1,by show D.1.vd.count 0+(k+1)≤_;omega,by show _=AuM.runP n (ml.map MV.m) ml.length (ml.length+1-(k+1)) D.1;rw[hrun,show ml.length+1-(k+1)=ml.length-k from by omega]⟩ (by show D.1.vd.count 0<C.vd.count 0;omega) ⟨rfl,trivial⟩ (zba _ _ _) (by show auH (un (un f g) g2) ab n ap ml.length c vp vc D.1::F=auH (un f (un g g2)) ab n ap ml.length c vp vc D.1::F;rw[zba])
 | false =>
  rw[if_neg (by rw[hb];decide)]at hrun;rw[hrun];have hdj:=Dj.un3' hd hd2;have hup:Le f (un (un f g) g2):=(Le.un f g).trans (Le.un _ _)
  have hua:un (un f g) g2=un f (un g g2):=zba _ _ _;clear hpass hrun hstep p3 hsift
  generalize un (un f g) g2=f2 at *;generalize D.1=E at *;have hvl:=hIp.vl;refine H.Bw fun j hj=>?_
  obtain⟨lo,lg,L,fp,fc,tp,tc⟩:=j;have hj:L.map MV.m=E.M:=hj;show H _ _ _ _ _ (row ab 82 (auC n ap ml.length c lo lg vp E.vd.length vc fp E.fk.length fc tp E.tk.length tc)::slc vp E.vd.length vc 56 1 (E.vd.flatMap vdV)::slc fp E.fk.length fc 68 4 (E.fk.flatMap fkV)::slc tp E.tk.length tc 3 1 (E.tk.flatMap nV)::loreH f2 lo n L::plogH f2 lg E.l::F) _
  refine gc ?_
  refine H.loop (ι:=Nat) (fun k=>[(14,.int .i64 (k:Int)),(13,.int .i64 (ml.length:Nat)),(12,.slice vp ml.length vc),(0,.pointer (some ⟨ab,0,none⟩))]) (fun _=>f2)
   (fun k=>row ab 82 (auC n ap ml.length c lo lg vp ml.length vc fp E.fk.length fc tp E.tk.length tc)::slc vp ml.length vc 56 1 ((waitsTo E.vd k).flatMap vdV)::slc fp E.fk.length fc 68 4 (E.fk.flatMap fkV)::slc tp E.tk.length tc 3 1 (E.tk.flatMap nV)::loreH f2 lo n L::plogH f2 lg E.l::F) (fun k=>k≤ml.length) (fun k=>ml.length-k)
   0 (Nat.zero_le _) ⟨rfl,by show _=some (Value.int .i64 (ml.length:Nat));rw[←hvl];rfl,by show _=some (Value.slice vp ml.length vc);rw[←hvl];rfl,rfl,trivial⟩ rfl (by rw[hvl];rfl) fun k hk=>?_
  have hk:k≤ml.length:=hk;show H _ _ _ [(14,.int .i64 (k:Int)),_,_,_] f2 (row ab 82 (auC n ap ml.length c lo lg vp ml.length vc fp E.fk.length fc tp E.tk.length tc)::slc vp ml.length vc 56 1 ((waitsTo E.vd k).flatMap vdV)::slc fp E.fk.length fc 68 4 (E.fk.flatMap fkV)::slc tp E.tk.length tc 3 1 (E.tk.flatMap nV)::loreH f2 lo n L::plogH f2 lg E.l::F) _
  by_cases hkl:k<ml.length
  ·have hwl:(waitsTo E.vd k).length=ml.length:=by rw[waitsTo_len,hvl]
   have hws:waitsTo E.vd (k+1)=if(waitsTo E.vd k)[k]?=some 0 then(waitsTo E.vd k).set k 4 else waitsTo E.vd k:=rfl
   obtain⟨z,hz⟩:∃z,(waitsTo E.vd k)[k]?=some z:=⟨_,List.getElem?_eq_getElem jA⟩;rw[hz]at hws;generalize waitsTo E.vd k=W at *;refine H.Au (p:=vp) (n0:=ml.length) (c:=vc) (T:=56) (sz:=1) (xs:=W.flatMap vdV) jB jA fun sv hp=>?_;subst hp;have hrd:∀ {G:List HP} {x0:HP},Rd1 f2 (x0::slc (some ⟨sv,0,none⟩) ml.length vc 56 1 (W.flatMap vdV)::G) sv (k*1) (.int .u8 (z:Nat)):=fun {G x0}=>Rd1.of (i:=0) (Rd.slcElem (vals:=vdV) (xs:=W) vdV_len jC (by rw[←hwl];exact .there _ (.here _ _ _)) hz) rfl;by_cases hz0:z=0
   ·subst hz0;rw[if_pos rfl]at hws;refine qfN ?_;refine gc ?_;refine qiU ?_;refine H.Az rfl rfl rfl rfl jB (by rw[Nat.zero_add];exact vd_set (vd:=W) (i:=k) jA 4) ?_;refine gV ?_;exact qcd
   ·rw[if_neg (by intro h;exact hz0 (Option.some.inj h))]at hws;have hz1:¬((z:Nat):Int)=0:=jA
    refine qfN ?_;refine gZ ?_;exact qcd
  ·have e:k=ml.length:=jA
   subst e;clear hkl;have hIw:=hIp.wt ml.length;have hwl:(E.wt ml.length).vd.length=ml.length:=hIw.vl
   have hTl:E.M.length≤254:=by have:=p1.1;omega
   have hodd:E.l.n % 2=1:=by rw[hIp.ln];exact hIp.odd
   have hdec:=fun G=>decided_fn f2 G (Le.refl _) (lb:=lg) hIp.li hTl hodd;have hvw2:=fun G=>dview_fn f2 G (Le.refl _) (lb:=lg) hIp.li hTl hodd
   have hkn:=fun G=>known_fn f2 G (fl:=f2) (lb:=lo) (n:=n) (l:=L);rw[hIp.ln]at hdec hvw2
   rw[hj]at hkn;refine gN ?_;refine qiQ ?_;refine H.cr (hkn _) ?_;refine qeT ?_;refine gF ?_;refine H.Ag (ls:=auC n ap ml.length c lo lg vp ml.length vc fp E.fk.length fc tp E.tk.length tc) (vs:=v11 (knownS (strm E.M))) (ls':=auCD n ap ml.length c lo lg vp ml.length vc fp E.fk.length fc (knownS (strm E.M)) none 0 0 0 tp E.tk.length tc) rfl rfl rfl (zaa rfl) rfl rfl (show 6+11≤20 by decide) jB ?_;refine qhn ?_;refine H.Al rfl rfl rfl (hdec _) fun dp dc=>?_;refine qhV ?_;refine qhn ?_;refine H.cr (hvw2 _) ?_;refine qhV ?_;skip;refine H.pf (x:=slc dp _ _ _ _ _) ?_;refine qeA ?_
   refine H.imp (A':=auD f2 ab n ap ml.length c vp vc (E.wt ml.length)::F) (fun x hx=>auD_fold (A:=E.wt ml.length) ⟨⟨lo,lg,L,fp,fc,tp,tc⟩,dp,dc⟩ hj x (by
    show stars (row ab _ (auCD n ap ml.length c lo lg vp (E.wt ml.length).vd.length vc fp E.fk.length fc (knownS (strm E.M)) dp (decL E.l).length dc (decB E.l).1 tp E.tk.length tc)::slc vp (E.wt ml.length).vd.length vc _ 1 _::_) x;rw[hwl]
    exact hx)) ?_
   exact H.end0 rfl iD ⟨_,hdj,rfl,hua,rfl⟩
end
def repV(vp:Option Addr)(vl vc:Nat)(fp:Option Addr)(fl fc:Nat)(kn:Nat→Int)(dp:Option Addr)(dn dc:Nat)(dv:Int):List Value:=
 [.slice vp vl vc,.slice fp fl fc]++v11 kn++[.slice dp dn dc,.int .u64 dv]
def repZ:List Value:=repV none 0 0 none 0 0 (fun _=>0) none 0 0 0
def audR(n:Nat)(ms:List Msg):AuM:=(nwM n ms.length).run n ms ms.length
def repA(vp:Option Addr)(vc:Nat)(fp:Option Addr)(fc:Nat)(dp:Option Addr)(dc:Nat)(A:AuM):List HP:=
 [slc vp A.vd.length vc 56 1 (A.vd.flatMap vdV),slc fp A.fk.length fc 68 4 (A.fk.flatMap fkV),slc dp (decL A.l).length dc 49 40 ((decL A.l).flatMap Req.vals)]
def repC(vp:Option Addr)(vc:Nat)(fp:Option Addr)(fc:Nat)(dp:Option Addr)(dc:Nat)(A:AuM):List Value:=repV vp A.vd.length vc fp A.fk.length fc (knownS (strm A.M)) dp (decL A.l).length dc (decB A.l).1
def RunP(f:Frag)(F:List HP)(A:AuM):Value→Frag→List HP→Prop:=fun v f' A'=>∃(g:Frag) (vp:Option Addr) (vc:Nat) (fp:Option Addr) (fc:Nat) (dp:Option Addr) (dc:Nat),Dj f g∧v= .tuple #[.agg (repC vp vc fp fc dp dc A).toArray,.int .i64 0]∧f'=un f g∧A'=repA vp vc fp fc dp dc A++F
variable {z:Int}
section
variable (f:Frag) (F:List HP)
theorem audRun_fn(htab:TabAt f)(hfz:fewZ (n:Int))(hat:ListAt f ap 121 MV.vals ml)(hg:∀x∈ml,x.Good f)(hN:ml.length≤254):Fn prog 10 [.int .i64 (n:Nat),.slice ap ml.length c] f F (RunP f F (audR n (ml.map MV.m))):=by
 have h3:3≤n∧n≤11:=⟨by have:=hfz.1;omega,by have:=hfz.2.1;omega⟩
 have hodd:n % 2=1:=qbq
 have hI:=nwM_I h3 hodd (show ml.length≤4096 by omega);have haud:audR n (ml.map MV.m)=(nwM n ml.length).run n (ml.map MV.m) ml.length:=by unfold audR;rw[List.length_map]
 rw[haud];have hbeg:=fun G=>begin_fn f G hfz (ap:=ap) (N:=ml.length) (c:=c) jA;refine Fn.e2 func10 ntmps10 fun base=>?_
 refine gA ?_;refine qkp fun rb=>?_;refine gK ?_;refine H.cl (hbeg _) fun v f' A' hr=>?_;obtain⟨g,ab,vp,hd,rfl,rfl,rfl⟩:=hr;have hup:Le f (un f g):=Le.un f g;have hrun:=fun G=>run_fn (un f g) G (zbc htab hup) (Le.refl _) (ab:=ab) (c:=c) (vp:=vp) (vc:=ml.length) (hat.mono hup) (fun y hy=>(hg y hy).mono hup) hN hI rfl rfl rfl
 generalize(nwM n ml.length).run n (ml.map MV.m) ml.length=R at *;refine gY ?_;refine H.cl (hrun _) fun v f' A' hr=>?_;obtain⟨g2,hd2,rfl,rfl,rfl⟩:=hr;have hua:un (un f g) g2=un f (un g g2):=zba _ _ _;have hdj:=Dj.un3' hd hd2
 generalize un (un f g) g2=f2 at *;refine H.Bw fun q hq=>?_;obtain⟨⟨lo,lg,L,fp,fc,tp,tc⟩,dp,dc⟩:=q;have hrd:∀ {G:List HP},Rd f2 (row ab 82 (auCD n ap ml.length c lo lg vp R.vd.length ml.length fp R.fk.length fc (knownS (strm R.M)) dp (decL R.l).length dc (decB R.l).1 tp R.tk.length tc)::G) ab (0+4) (repC vp ml.length fp fc dp dc R):=fun {G}=>Rd.sub (f:=f2) (b:=ab) (off:=0) (k:=4) (pre:=[.int .i64 (n:Nat),.slice ap ml.length c,.pointer (some ⟨lo,0,none⟩),.pointer (some ⟨lg,0,none⟩)]) (l:=repC vp ml.length fp fc dp dc R) (post:=[.slice tp R.tk.length tc]) (Rd.ofRow (.here _ _ _)) rfl;refine qeI ?_
 refine gF ?_;refine H.Ab (ls:=repC vp ml.length fp fc dp dc R) rfl rfl rfl hrd rfl rfl ?_;refine H.Ag (ls:=repZ) (vs:=repC vp ml.length fp fc dp dc R) (ls':=repC vp ml.length fp fc dp dc R) rfl rfl rfl (zaa rfl) rfl rfl (Nat.le_refl 15) jB ?_;refine gT ?_;refine qiq ?_;refine H.pd (x:=slc tp _ _ 3 _ _) ?_;refine qgl ?_;refine H.pf (x:=slc dp _ _ 49 _ _) ?_;refine qhm ?_;refine H.pf (x:=row rb _ _) ?_;exact H.retCT rfl rfl rfl rfl (Rd.ofRow (.here _ _ _)) rfl (fun _ s=>s.drop (.here _ _)) ⟨_,vp,ml.length,fp,fc,dp,dc,hdj,rfl,hua,rfl⟩
theorem begin_no(h:¬fewZ z):Fn prog 20 [.int .i64 z,.slice ap N c] f F (Ret (.tuple #[.pointer none,.int .i64 1]) f F):=by
 have hno:=fun G=>lnew_no f G h;refine Fn.e2 func20 ntmps20 fun base=>?_
 repeat(first|(refine H.Ax (t:=82) (out:=[.int .i64 z,.slice ap N c,.pointer none,.pointer none,.slice none 0 0,.slice none 0 0]++v11 (fun _=>0)++[.slice none 0 0,.int .u64 0,.slice none 0 0]) rfl rfl rfl jD rfl ?_)|(refine gh ?_))
 refine H.box (ls:=[.int .i64 z,.slice ap N c,.pointer none,.pointer none,.slice none 0 0,.slice none 0 0]++v11 (fun _=>0)++[.slice none 0 0,.int .u64 0,.slice none 0 0]) rfl rfl rfl rfl fun ab=>?_;refine gK ?_;refine H.cr (hno _) ?_;refine gg ?_;refine qiq ?_;exact qbe
theorem audRun_no(h:¬fewZ z):Fn prog 10 [.int .i64 z,.slice ap N c] f F (Ret (.tuple #[.agg repZ.toArray,.int .i64 1]) f F):=by
 have hno:=fun G=>begin_no f G h (ap:=ap) (N:=N) (c:=c);refine Fn.e2 func10 ntmps10 fun base=>?_
 refine gA ?_;refine qkp fun rb=>?_;refine gK ?_;refine H.cr (hno _) ?_;repeat(first|(refine H.Ax (t:=40) (out:=repZ) rfl rfl rfl jD rfl ?_)|(refine gh ?_))
 refine H.Ag (ls:=repZ) (vs:=repZ) (ls':=repZ) rfl rfl rfl (zaa rfl) rfl rfl (Nat.le_refl 15) jB ?_;refine gT ?_;refine H.pf (x:=row rb _ _) ?_;exact H.retCT rfl rfl rfl rfl (Rd.ofRow (.here _ _ _)) rfl (fun _ s=>s.drop (.here _ _)) ⟨rfl,rfl,rfl⟩
def viewF(l:Lgs)(t:Int):List Int→Int
 | []=>0
 |v::r=>if t≤(cmt l v:Int)then v else viewF l t r
theorem auview_fn(hfl:Le fl f){m:Nat}(hI:AuI n N A)(hT:A.M.length≤254)(t:Int):Fn prog 23 [.pointer (some ⟨ab,0,none⟩),.int .i64 t] f (auD fl ab n ap m c vp vc A::F) (Ret (.int .u64 (viewF A.l t (viewsU A.l))) f (auD fl ab n ap m c vp vc A::F)):=by
 have hodd:A.l.n % 2=1:=by rw[hI.ln];exact hI.odd
 have hvl:=hI.li.vl;have hul:(viewsU A.l).length=A.l.vs.length:=by unfold viewsU;rw[List.length_map]
 refine qjW fun q hq=>?_;obtain⟨⟨lo,lg,L,fp,fc,tp,tc⟩,dp,dc⟩:=q;have hcm:=fun G v=>committed_fn f G hfl (lb:=lg) hI.li jA hodd v;rw[hI.ln]at hcm
 have hvs:=fun G=>plviews_fn f G (fl:=fl) (lb:=lg) hI.li hT;unfold ViewsP at hvs
 show Fn _ _ _ f (row ab 82 (auCD n ap m c lo lg vp A.vd.length vc fp A.fk.length fc (knownS (strm A.M)) dp (decL A.l).length dc (decB A.l).1 tp A.tk.length tc)::slc vp A.vd.length vc 56 1 (A.vd.flatMap vdV)::slc fp A.fk.length fc 68 4 (A.fk.flatMap fkV)::slc tp A.tk.length tc 3 1 (A.tk.flatMap nV)::loreH fl lo n L::plogH fl lg A.l::slc dp (decL A.l).length dc 49 40 ((decL A.l).flatMap Req.vals)::F) _;refine Fn.e2 func23 ntmps23 fun base=>?_;refine gF ?_;refine qgy ?_;refine H.Al rfl rfl rfl (hvs _) fun p pc=>?_;obtain⟨vs,hvsd⟩:∃vs,vs=viewsU A.l:=⟨_,rfl⟩;rw[←hvsd]at hul⊢;refine gT ?_
 refine H.lo (ι:=Nat) (fun k=>[(13,.int .i64 (k:Int)),(12,.int .i64 (vs.length:Nat)),(11,.slice p vs.length pc),(1,.int .i64 t),(0,.pointer (some ⟨ab,0,none⟩))]) (fun _=>f)
  (fun _=>slc p vs.length pc 35 1 (vs.flatMap uV)::plogH fl lg A.l::row ab 82 (auCD n ap m c lo lg vp A.vd.length vc fp A.fk.length fc (knownS (strm A.M)) dp (decL A.l).length dc (decB A.l).1 tp A.tk.length tc)::slc vp A.vd.length vc 56 1 (A.vd.flatMap vdV)::slc fp A.fk.length fc 68 4 (A.fk.flatMap fkV)::slc tp A.tk.length tc 3 1 (A.tk.flatMap nV)::loreH fl lo n L::slc dp (decL A.l).length dc 49 40 ((decL A.l).flatMap Req.vals)::F) (fun k=>k≤vs.length∧viewF A.l t vs=viewF A.l t (vs.drop k)) (fun k=>vs.length-k)
  0 ⟨Nat.zero_le _,rfl⟩ fun k hk=>?_
 obtain⟨hk,hvf⟩:k≤vs.length∧viewF A.l t vs=viewF A.l t (vs.drop k):=hk;rw[hvf];by_cases hkl:k<vs.length
 ·obtain⟨v,hv⟩:∃v,vs[k]?=some v:=⟨_,List.getElem?_eq_getElem hkl⟩
  have hdr:viewF A.l t (vs.drop k)=if t≤(cmt A.l v:Int)then v else viewF A.l t (vs.drop (k+1)):=by
   rw[List.drop_eq_getElem_cons hkl,show vs[k]=v from(List.getElem?_eq_some_iff.1 hv).2];rfl
  rw[hdr]at hvf⊢;refine H.Au (p:=p) (n0:=vs.length) (c:=pc) (T:=35) (sz:=1) (xs:=vs.flatMap uV) (.here _ _ _) jA fun sb hp=>?_;subst hp;have hrd:∀ {G},Rd1 f (slc (some ⟨sb,0,none⟩) vs.length pc 35 1 (vs.flatMap uV)::G) sb (k*1) (.int .u64 v):=fun {G}=>Rd1.of (i:=0) (Rd.slcElem (vals:=uV) (xs:=vs) uV_len jC (.here _ _ _) hv) rfl;clear hdr
  refine qgu ?_;refine gK ?_;refine qeT ?_;refine qeH ?_;refine HB.qu [0,1,2,3,4,5,6,7,8,10] 2 ?_;refine qfu ?_;refine HB.ev 9 ?_;refine qgy ?_;refine H.Af rfl rfl rfl (hcm _ v) ?_;refine qeT ?_;refine qed ?_;refine HB.qu [11] 0 ?_;refine qjz ?_;by_cases hb:t≤(cmt A.l v:Int)
  ·rw[if_pos hb];refine gG ?_;exact qba
  ·rw[if_neg hb]at hvf⊢;refine gZ ?_;refine qgy ?_;refine H.pf (x:=slc _ _ _ 35 _ _) ?_;exact H.ag (k+1) ⟨by show k+1≤vs.length;omega,rfl⟩ kH
 ·have e:k=vs.length:=jA
  subst e;rw[List.drop_length];refine gZ ?_;exact qba
end
abbrev keyIn(k:Int):Value:=.int .i64 k
instance:KeyT prog 3 keyIn:=keyT_int ⟨underlying3⟩
abbrev VtM:=List (Int×Nat)
def vtX(ml:List MV)(i:Nat):Value:=.agg ((ml[i]?.map MV.vals).getD (msgZ.vals none 0)).toArray
def vtV(ml:List MV)(M:VtM):List (Int×Value):=M.map fun e=>(e.1,vtX ml e.2)
def vtG:VtM→Int→Option Nat
 | [],_=>none
 |(k',d)::r,k=>if k=k' then some d else vtG r k
theorem getKV_vtV(ml:List MV):∀(M:VtM) (k:Int),getKV (vtV ml M) k=(vtG M k).map (vtX ml)
 | [],_=>rfl
 | (k', d) :: r, k => by
  show(if k=k' then some (vtX ml d)else getKV (vtV ml r) k)=(if k=k' then some d else vtG r k).map _
  rw[getKV_vtV ml r k]
  split<;>rfl
theorem putKV_vtV(ml:List MV):∀(M:VtM) (k:Int) (d:Nat),vtG M k=none→putKV (vtV ml M) k (vtX ml d)=vtV ml (M++[(k,d)])
 | [],_,_,_=>rfl
 | (k', u) :: r, k, d, h => by
  have h1:¬k=k':=fun e=>by
   have:vtG ((k',u)::r) k=some u:=if_pos e
   rw[this]at h;cases h
  have h2:vtG r k=none:=by
   have:vtG ((k',u)::r) k=vtG r k:=if_neg h1;rw[this]at h;exact h
  show(if k=k' then _ else(k',vtX ml u)::putKV (vtV ml r) k _)=_
  rw[if_neg h1,putKV_vtV ml r k d h2]
  rfl
theorem vtG_mem:∀ {M:VtM} {k:Int} {d:Nat},vtG M k=some d→(k,d)∈M
 | (k', u) :: r, k, d, h => by
  by_cases e:k=k'
  ·have:vtG ((k',u)::r) k=some u:=if_pos e
   rw[this]at h
   cases h
   rw[e]
   exact List.mem_cons_self
  ·have:vtG ((k',u)::r) k=vtG r k:=if_neg e
   rw[this]at h
   exact List.mem_cons_of_mem _ (vtG_mem h)
def vot1(v t:Int)(i:Nat)(m:Msg)(S:Lgs×VtM):Lgs×VtM:=
 match vtG S.2 m.origin with
 |some _=>((S.1.take m).2,S.2)
 |none=>if t≤(PM.voted ((S.1.take m).2.past (orgI m)).all v).getD 0 then((S.1.take m).2,S.2++[(m.origin,i)])else((S.1.take m).2,S.2)
def votTo(n:Nat)(ms:List Msg)(tk:List Nat)(v t:Int):Nat→Lgs×VtM
 |0=>(Lgs.new n,[])
 | k + 1 => match tk[k]?.bind fun i => ms[i]?.map fun m => (i, m) with
  |none=>votTo n ms tk v t k
  |some x=>vot1 v t x.1 x.2 (votTo n ms tk v t k)
def TkI(n:Nat)(ml:List MV)(tk:List Nat):Prop:=∀i∈tk,∃x,ml[i]?=some x∧1≤x.m.origin∧x.m.origin≤(n:Int)
structure VtI(n:Nat)(ml:List MV)(k:Nat)(S:Lgs×VtM):Prop where
 ln:S.1.n=n
 li:LI S.1 k
 ni:NI S.1
 pl:∀e∈S.2,∃x,ml[e.2]?=some x∧x.m.origin=e.1
theorem vot1_I{k:Nat}{S:Lgs×VtM}(h:VtI n ml k S){t:Int}{i:Nat}(hx:ml[i]?=some x)(hv:0≤x.m.body.view):VtI n ml (k+1) (vot1 v t i x.m S):=by
 have h1:((S.1.take x.m).2).n=n:=by rw[Lgs.take_n];exact h.ln
 have h2:LI (S.1.take x.m).2 (k+1):=h.li.take hv;have h3:NI (S.1.take x.m).2:=h.ni.take x.m
 unfold vot1;split
 ·exact⟨h1,h2,h3,h.pl⟩
 ·split
  ·refine⟨h1,h2,h3,fun e he=>?_⟩;rcases List.mem_append.1 he with h4|h4
   ·exact h.pl e h4
   ·rw[List.mem_singleton.1 h4];exact⟨x,hx,rfl⟩
  ·exact⟨h1,h2,h3,h.pl⟩
theorem votTo_I{n:Nat}(h3:3≤n∧n≤11){ml:List MV}(hvw:∀x∈ml,0≤x.m.body.view){tk:List Nat}(htk:TkI n ml tk)(v t:Int):∀k,k≤tk.length→VtI n ml k (votTo n (ml.map MV.m) tk v t k)
 |0,_=>⟨rfl,LI.new h3.1 h3.2,NI.new n,fun e he=>absurd he List.not_mem_nil⟩
 | k + 1, hk => by
  have hi:tk[k]?=some tk[k]:=List.getElem?_eq_getElem hk
  obtain⟨x,hx,_,_⟩:=htk tk[k] (List.getElem_mem hk)
  have hxm:(ml.map MV.m)[tk[k]]?=some x.m:=by rw[List.getElem?_map,hx];rfl
  unfold votTo
  rw[hi]
  show VtI n ml (k+1) (match(ml.map MV.m)[tk[k]]?.map fun m=>(tk[k],m)with|none=>_|some y=>_)
  rw[hxm]
  exact vot1_I (votTo_I h3 hvw htk v t k jA) hx (hvw x (List.mem_of_getElem? hx))
def VotP(f:Frag)(A:List HP)(ml:List MV)(M:VtM):Value→Frag→List HP→Prop:=fun v f' A'=>∃(g:Frag) (mb:Nat),Dj f g∧v= .map (some mb)∧f'=un f g∧A'=mp mb keyIn (vtV ml M)::A
section
variable (f:Frag) (F:List HP)
theorem votes_au_fn(htab:TabAt f)(hfl:Le fl f)(hat:ListAt f ap 121 MV.vals ml)(hg:∀x∈ml,x.Good f)(hfz:fewZ (n:Int))(hI:AuI n ml.length A)(htk:TkI n ml A.tk)(v t:Int):Fn prog 22 [.pointer (some ⟨ab,0,none⟩),.int .u64 v,.int .i64 t] f (auD fl ab n ap ml.length c vp vc A::F) (VotP f (auD fl ab n ap ml.length c vp vc A::F) ml (votTo n (ml.map MV.m) A.tk v t A.tk.length).2):=by
 have hNl:=hI.nl;have htl:=hI.tl
 have h3:=hI.n3;have hnew:=fun G=>plnew_fn f G hfz
 refine qjW fun q hq=>?_;obtain⟨⟨lo,lg,L,fp,fc,tp,tc⟩,dp,dc⟩:=q;show Fn _ _ _ f (row ab 82 (auCD n ap ml.length c lo lg vp A.vd.length vc fp A.fk.length fc (knownS (strm A.M)) dp (decL A.l).length dc (decB A.l).1 tp A.tk.length tc)::slc vp A.vd.length vc 56 1 (A.vd.flatMap vdV)::slc fp A.fk.length fc 68 4 (A.fk.flatMap fkV)::slc tp A.tk.length tc 3 1 (A.tk.flatMap nV)::loreH fl lo n L::plogH fl lg A.l::slc dp (decL A.l).length dc 49 40 ((decL A.l).flatMap Req.vals)::F) _;refine Fn.e3 func22 ntmps22 fun base=>?_;refine gK ?_;refine H.makeMap keyIn rfl rfl fun mb=>?_;refine gF ?_;refine H.cl (hnew _) fun v1 f1 A' hr=>?_;obtain⟨g,lb,hd,rfl,rfl,rfl⟩:=hr;have hup:Le f (un f g):=Le.un f g;have htab2:=zbc htab hup
 have hat2:=hat.mono hup;have hg2:∀x∈ml,x.Good (un f g):=fun y hy=>(hg y hy).mono hup
 obtain⟨f2,hf2⟩:∃f2,un f g=f2:=⟨_,rfl⟩;rw[hf2]at htab2 hat2 hg2⊢;clear hnew;refine gU ?_;refine H.pf (x:=slc dp _ _ 49 _ _) ?_;refine qfc ?_;refine qhm ?_;refine qkj ?_;refine qkU ?_;refine H.pf (x:=slc _ _ _ 3 _ _) ?_;refine qeT ?_
 refine H.lo (ι:=Nat) (fun k=>[(33,.int .i64 (k:Int)),(32,.int .i64 (A.tk.length:Nat)),(31,.slice tp A.tk.length tc),(8,.pointer (some ⟨lb,0,none⟩)),(7,.map (some mb)),(2,.int .i64 t),(1,.int .u64 v),(0,.pointer (some ⟨ab,0,none⟩))]) (fun _=>f2)
  (fun k=>row ab 82 (auCD n ap ml.length c lo lg vp A.vd.length vc fp A.fk.length fc (knownS (strm A.M)) dp (decL A.l).length dc (decB A.l).1 tp A.tk.length tc)::slc tp A.tk.length tc 3 1 (A.tk.flatMap nV)::mp mb keyIn (vtV ml (votTo n (ml.map MV.m) A.tk v t k).2)::plogH f2 lb (votTo n (ml.map MV.m) A.tk v t k).1::slc vp A.vd.length vc 56 1 (A.vd.flatMap vdV)::slc fp A.fk.length fc 68 4 (A.fk.flatMap fkV)::loreH fl lo n L::plogH fl lg A.l::slc dp (decL A.l).length dc 49 40 ((decL A.l).flatMap Req.vals)::F) (fun k=>k≤A.tk.length) (fun k=>A.tk.length-k)
  0 (Nat.zero_le _) fun k hk=>?_
 have hk:k≤A.tk.length:=hk;show H _ _ _ [(33,.int .i64 (k:Int)),_,_,_,_,_,_,_] f2 (row ab 82 (auCD n ap ml.length c lo lg vp A.vd.length vc fp A.fk.length fc (knownS (strm A.M)) dp (decL A.l).length dc (decB A.l).1 tp A.tk.length tc)::slc tp A.tk.length tc 3 1 (A.tk.flatMap nV)::mp mb keyIn (vtV ml (votTo n (ml.map MV.m) A.tk v t k).2)::plogH f2 lb (votTo n (ml.map MV.m) A.tk v t k).1::slc vp A.vd.length vc 56 1 (A.vd.flatMap vdV)::slc fp A.fk.length fc 68 4 (A.fk.flatMap fkV)::loreH fl lo n L::plogH fl lg A.l::slc dp (decL A.l).length dc 49 40 ((decL A.l).flatMap Req.vals)::F) _
 have hvw:∀x∈ml,0≤x.m.body.view:=fun x hx=>(hg x hx).2.2.1.1;have hS:=votTo_I h3 hvw htk v t k hk
 by_cases hkl:k<A.tk.length
 ·obtain⟨i,hi⟩:∃i,A.tk[k]?=some i:=⟨_,List.getElem?_eq_getElem hkl⟩;obtain⟨x,hx,ho1,ho2⟩:=htk i (List.mem_of_getElem? hi);have hxg:=hg2 x (List.mem_of_getElem? hx);have hil:i<ml.length:=(List.getElem?_eq_some_iff.1 hx).1
  have hxm:(ml.map MV.m)[i]?=some x.m:=by rw[List.getElem?_map,hx];rfl
  have hvs:votTo n (ml.map MV.m) A.tk v t (k+1)=vot1 v t i x.m (votTo n (ml.map MV.m) A.tk v t k):=by
   show(match A.tk[k]?.bind fun i=>(ml.map MV.m)[i]?.map fun m=>(i,m)with|none=>_|some y=>_)=_;rw[hi];show(match(ml.map MV.m)[i]?.map fun m=>(i,m)with|none=>_|some y=>_)=_;rw[hxm];rfl
  obtain⟨ba,off,rfl,rdA⟩:=hat2.all MV.len jC jA;generalize votTo n (ml.map MV.m) A.tk v t k=S at *;have hodd:S.1.n % 2=1:=by rw[hS.ln];exact hI.odd
  have htake:=fun G=>pltakeA_fn f2 G htab2 (fl:=f2) (Le.refl _) (lb:=lb) hS.li jA hS.ni hodd hxg;obtain⟨o,hoo,hon,hor⟩:∃o:Nat,orgI x.m=o∧o<n∧x.m.origin=((o+1:Nat):Int):=⟨(x.m.origin-1).toNat,rfl,by omega,by omega⟩
  have hln:(S.1.take x.m).2.n=n:=by rw[Lgs.take_n];exact hS.ln
  have hvoted:=fun G=>plvoted_fn f2 G (fl:=f2) (Le.refl _) (lb:=lb) (l:=(S.1.take x.m).2) jA (o:=o) jA (v:=v) hor;unfold vot1 at hvs
  rw[hoo]at hvs;generalize(PM.voted ((S.1.take x.m).2.past o).all v)=vd at hvs hvoted;generalize hT2:(S.1.take x.m).2=l2 at *;generalize(S.1.take x.m).1=b2 at *;refine H.Au (p:=tp) (n0:=A.tk.length) (c:=tc) (T:=3) (sz:=1) (xs:=A.tk.flatMap nV) jB jA fun sb hp=>?_;subst hp;have hrd:∀ {G:List HP} {x0:HP},Rd1 f2 (x0::slc (some ⟨sb,0,none⟩) A.tk.length tc 3 1 (A.tk.flatMap nV)::G) sb (k*1) (.int .i64 (i:Nat)):=fun {G x0}=>Rd1.of (i:=0) (Rd.slcElem (vals:=nV) (xs:=A.tk) nV_len jC (.there _ (.here _ _ _)) hi) rfl;refine qgu ?_
  refine gF ?_;refine H.Ak (i:=i) rfl rfl rfl rfl hil rfl ?_;refine qfX fun xb=>?_;skip;refine qeX ?_;refine gK ?_;refine qfq ?_;refine qkj ?_;refine H.cr (htake _) ?_;refine qfl ?_
  cases hs:vtG S.2 x.m.origin with
  | some i' =>
   rw[hs]at hvs;obtain⟨y,hy,_⟩:=hS.pl _ (vtG_mem hs);have hgv:getKV (vtV ml S.2) x.m.origin=some (.agg y.vals.toArray):=by rw[getKV_vtV,hs];show some (vtX ml i')=_;unfold vtX;rw[hy];rfl
   have hg1:(getKV (vtV ml S.2) x.m.origin).getD (.agg (msgZ.vals none 0).toArray)= .agg y.vals.toArray:=by rw[hgv];rfl
   have hg2:(getKV (vtV ml S.2) x.m.origin).isSome=true:=by rw[hgv];rfl
   clear hgv hs htake hvoted;refine qiL fun zb=>?_;refine qgF ?_;refine gX ?_;exact qar
  | none =>
   rw[hs]at hvs;have hget:getKV (vtV ml S.2) x.m.origin=none:=by rw[getKV_vtV,hs];rfl
   have hput:=putKV_vtV ml S.2 x.m.origin i hs;have hvx:vtX ml i= .agg x.vals.toArray:=by unfold vtX;rw[hx];rfl
   rw[hvx]at hput;have hg1:(getKV (vtV ml S.2) x.m.origin).getD (.agg (msgZ.vals none 0).toArray)= .agg (msgZ.vals none 0).toArray:=by rw[hget];rfl
   have hg2:(getKV (vtV ml S.2) x.m.origin).isSome=false:=by rw[hget];rfl
   clear hget hs htake;have hvs:votTo n (ml.map MV.m) A.tk v t (k+1)=if t≤vd.getD 0 then(l2,S.2++[(x.m.origin,i)])else(l2,S.2):=hvs
   refine qiL fun zb=>?_;refine qfz ?_;refine qfl ?_;refine gc ?_;refine qkj ?_;refine H.cr (hvoted _) ?_;refine qfl ?_;by_cases hb:t≤vd.getD 0
   ·rw[if_pos hb]at hvs;refine gU ?_;refine qfq ?_;refine H.mapUpdate (enc:=keyIn) (k:=x.m.origin) (v:=.agg x.vals.toArray) rfl rfl rfl rfl jB rfl ?_;rw[hput];refine gV ?_;exact qar
   ·rw[if_neg hb]at hvs;refine gO ?_;exact qar
 ·have e:k=A.tk.length:=jA
  subst e;refine gZ ?_;refine H.pd (x:=plogH _ lb _) ?_;refine qkU ?_;refine H.pf (x:=slc dp _ _ 49 _ _) ?_;refine qjH ?_;refine qhm ?_;refine qeT ?_;refine H.imp (auD_fold (A:=A) ⟨⟨lo,lg,L,fp,fc,tp,tc⟩,dp,dc⟩ hq) ?_;refine qkU ?_;exact H.r1 ⟨g,mb,hd,rfl,hf2.symm,rfl⟩
end
end Go.Proofs.YtkaknokcbhiigaaGreatDoor
