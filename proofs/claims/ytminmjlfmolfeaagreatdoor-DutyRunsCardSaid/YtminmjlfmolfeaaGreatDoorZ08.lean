/- Parts of the proof, one behind the other, each under its own heading. No conditions. -/
import Derived.Test.YtminmjlfmolfeaaGreatDoorZ07
import Derived.Sort.AssemblyPlain
import Derived.Lib.Tables
set_option linter.unusedSectionVars false
set_option linter.unusedSimpArgs false
set_option linter.unusedVariables false
/- Layer 15: the program's logs: enter. No condition. -/
set_option maxHeartbeats 3200000
set_option maxRecDepth 20000
namespace Go.Proofs.YtminmjlfmolfeaaGreatDoor
open Go
variable {fl:Frag} {lb T r:Nat} {l:Lgs}
section
variable (f:Frag) (F:List HP)
theorem plenter_fn (hfl:Le fl f) (hL:LI l T) (hT:T ≤ 50000) {x:MV} (hm:MIn l.n x.m) (hk:x.m.body.kind = 5) {i:PPt} (hi:plφ fl l i) (hre:r = orgI x.m) :
  Fn Tryz.prog 96 [.pointer (some ⟨lb,0,none⟩),.agg x.vals.toArray,.pointer (some ⟨i.pb r,0,none⟩)] f (plB lb l i ++ F) (Ret (.bool (l.counts x.m).1) f (plogH f lb (l.counts x.m).2::F)):=by
 have hiF:=hi.mono hfl;have hn:=hL.n3
 have hor:=hm.o;have hr:r < l.n:=by rw [hre];unfold orgI;omega
 have hwf:=hL.wf r hr;have hil:=hL.il r hr
 have hvl:=hL.vl;have hv0:=hm.v
 have hvs:=hi.vs;obtain ⟨V,vb,pp,pc,cp,cc,pb,cs⟩:=i
 have hvs:(V.map PV.w).Perm l.vs:=hvs;have hprim:=fun G=>plprim_fn f G (lb:=lb) (n:=l.n) (kn:=l.known) (vb:=vb) (pp:=pp) (pc:=pc) (cp:=cp) (cc:=cc) (by omega) hv0
 have hpl:primI l.n x.m.body.view < 11:=by
  exact qcO
 have hpz:primZ l.n x.m.body.view - 1 = (primI l.n x.m.body.view:Nat):=by unfold primZ;omega
 have hvd:(v11 x.m.deps)[primI l.n x.m.body.view]? = some (.int .u64 (x.m.deps (primI l.n x.m.body.view))):=zay _ hpl;refine qcY ?_
 cases hat:vwAt l.vs x.m.body.view with
 | none =>
  rw [Lgs.counts_5n hk hat];have hget:(getKV (V.map PV.ent) x.m.body.view).getD (.pointer none) = .pointer none:=by rw [view_none hvs hat];rfl
  refine Fn.e3 Tryz.func96 Tryz.ntmps96 fun base=>?_;refine qdh fun mb=>?_;refine qef ?_;refine qdC ?_;refine HB.qu [0,1,2,3,4,5,6,7,8,11] 16 ?_;refine qez ?_;refine HB.ev 9 ?_;refine qfB ?_;refine HB.qu [10,12,13,14,15,16,17,18,19,20,21,22] 3 ?_;refine qgZ ?_;refine HB.ev 23 ?_;refine qfB ?_;refine HB.qu [24,25] 0 ?_;refine qdo ?_;refine qgT ?_;exact qaa
 | some iv =>
  obtain ⟨⟨w,hw,hwv⟩,_⟩:=zaw.1 hat;obtain ⟨j,X,hX,hXw,hgetX⟩:=view_some hvs hL.rise hat hw;have hget:(getKV (V.map PV.ent) x.m.body.view).getD (.pointer none) = .pointer (some ⟨X.b,0,none⟩):=by rw [hgetX];rfl
  rw [Lgs.counts_5 hk hat hw,← hre];subst hXw;have hXl:=hL.al X.w (List.mem_of_getElem? hw);have hXa:=X.w.all_len
  by_cases h1:X.w.num ≤ x.m.deps (primI l.n x.m.body.view)
  ·rw [if_neg (by omega)];have hen:=fun G=>enter_fn f G (pb r) (l.past r) hwf (by omega) x.m.body.view ((X.w.s.length:Nat):Int);refine Fn.e3 Tryz.func96 Tryz.ntmps96 fun base=>?_
   refine qdh fun mb=>?_;refine qef ?_;refine qeK ?_;refine H.Cj (x:=X.own) (i:=j) (by rw [List.getElem?_map,hX];rfl) ?_;refine qfy ?_;refine qeB ?_;refine H.Bt hr ?_;refine H.cr (hen _) ?_;refine qfV ?_;rw [past_updF];refine qgh ?_;refine qgD ?_;refine qdT ?_;refine HB.qu [24,25] 0 ?_;refine qdo ?_;refine gZ ?_;refine qdm ?_;refine H.Ck (by rw [List.getElem?_map,hX];rfl) ?_;exact qaU
  ·rw [if_pos (by omega)];refine Fn.e3 Tryz.func96 Tryz.ntmps96 fun base=>?_;refine qdh fun mb=>?_;refine qef ?_;refine qeK ?_;refine H.Cj (x:=X.own) (i:=j) (by rw [List.getElem?_map,hX];rfl) ?_;refine qfy ?_;refine qfB ?_;refine HB.qu [24,25] 0 ?_;refine qdo ?_;refine gZ ?_;refine qdm ?_;refine H.Ck (by rw [List.getElem?_map,hX];rfl) ?_;refine qdD ?_;exact qaa
end
structure NI (l:Lgs):Prop where
 rise:∀ w ∈ l.vs,RiseN w.p
 low:∀ w ∈ l.vs,∀ y ∈ w.p,y.1 ≤ l.known (primI l.n w.v)
theorem RiseN.nil:RiseN []:=fun i j y z _ hy _=>by cases hy
theorem NI.new (n:Nat):NI (Lgs.new n):=⟨fun w hw=>by
  have e:w = ⟨0,0,[],[]⟩:=List.mem_singleton.1 hw
  rw [e];exact RiseN.nil,fun w hw y hy=>by
  have e:w = ⟨0,0,[],[]⟩:=List.mem_singleton.1 hw
  rw [e] at hy;cases hy⟩
theorem Lgs.counts_vs (l:Lgs) (m:Msg):(l.counts m).2.vs = l.vs ∨
  (∃ i w,vwAt l.vs m.body.view = some i ∧ l.vs[i]? = some w ∧ primZ l.n m.body.view = m.origin ∧ (l.counts m).2.vs = l.vs.set i { w with p:=w.p ++ [(m.number,m.body.req)] }) ∨
  (∃ s,(l.counts m).2.vs = insV ⟨m.body.view,m.number,s,[]⟩ l.vs):=by
 by_cases h3:m.body.kind = 3
 ·rw [Lgs.counts_3 h3];split <;> exact .inl rfl
 ·by_cases h4 : m.body.kind = 4
  ·rw [Lgs.counts_4 h4];split
   ·unfold Lgs.begins;split
    ·exact .inl rfl
    ·split
     ·exact .inl rfl
     ·split
      ·exact .inl rfl
      ·exact .inr (.inr ⟨_,rfl⟩)
   ·exact .inl rfl
  ·by_cases h5 : m.body.kind = 5
   ·cases hat:vwAt l.vs m.body.view with
    | none=>rw [Lgs.counts_5n h5 hat];exact .inl rfl
    | some i =>
     obtain ⟨⟨w,hw,_⟩,_⟩:=zaw.1 hat;rw [Lgs.counts_5 h5 hat hw];split <;> exact .inl rfl
   ·by_cases h1 : m.body.kind = 1
    ·cases hat:vwAt l.vs m.body.view with
     | none=>rw [Lgs.counts_1n h1 hat];exact .inl rfl
     | some i =>
      obtain ⟨⟨w,hw,_⟩,_⟩:=zaw.1 hat;rw [Lgs.counts_1 h1 hat hw];split
      ·exact .inl rfl
      ·rename_i h
       refine .inr (.inl ⟨i,w,rfl,hw,?_,rfl⟩);rcases Decidable.em (primZ l.n m.body.view = m.origin) with e | e
       ·exact e
       ·exact absurd (.inl (decide_eq_false e)) h
    ·by_cases h2 : m.body.kind = 2
     ·cases hat:vwAt l.vs m.body.view with
      | none=>rw [Lgs.counts_2n h2 hat];exact .inl rfl
      | some i =>
       obtain ⟨⟨w,hw,_⟩,_⟩:=zaw.1 hat;rw [Lgs.counts_2 h2 hat hw];split <;> exact .inl rfl
     ·rw [Lgs.counts_x h3 h4 h5 h1 h2];exact .inl rfl
theorem NI.take {l:Lgs} (h:NI l) (m:Msg):NI (l.take m).2:=by
 unfold Lgs.take;split
 ·exact h
 ·split
  ·exact h
  ·rename_i _ hn
   have hnum:m.number = l.known (orgI m) + 1:=by
    rcases Decidable.em (m.number = l.known (orgI m) + 1) with e | e
    ·exact e
    ·exact absurd (.inl e) hn
   have hk:=l.counts_nk m;obtain ⟨K,hK⟩:∃ K,K = updF (l.counts m).2.known (orgI m) ((l.counts m).2.known (orgI m) + 1):=⟨_,rfl⟩
   have hge:∀ r,l.known r ≤ K r:=fun r=>by
    rw [hK,hk.2];by_cases e:r = orgI m
    ·subst e;rw [zae];omega
    ·rw [zaq _ _ e];exact Int.le_refl _
   have hKo:K (orgI m) = m.number:=by rw [hK,zae,hk.2,hnum]
   show NI { (l.counts m).2 with known:=updF (l.counts m).2.known (orgI m) ((l.counts m).2.known (orgI m) + 1) };rw [← hK]
   have key:(∀ w ∈ (l.counts m).2.vs,RiseN w.p) ∧ ∀ w ∈ (l.counts m).2.vs,∀ y ∈ w.p,y.1 ≤ K (primI l.n w.v):=by
    rcases l.counts_vs m with e | ⟨i,w,hat,hw,hp,e⟩ | ⟨s,e⟩
    ·rw [e];exact ⟨h.rise,fun w hw y hy=>Int.le_trans (h.low w hw y hy) (hge _)⟩
    ·rw [e];have hwm:=List.mem_of_getElem? hw;obtain ⟨⟨w',hw',hv⟩,_⟩:=zaw.1 hat
     rw [hw] at hw';cases hw';have hpi:primI l.n w.v = orgI m:=by rw [hv];unfold primZ at hp;unfold orgI;omega
     refine ⟨fun x hx=>?_,fun x hx y hy=>?_⟩
     ·rcases List.mem_or_eq_of_mem_set hx with hx | rfl
      ·exact h.rise x hx
      ·intro a b y z hab hy hz;show y.1 < z.1;have hy:(w.p ++ [(m.number,m.body.req)])[a]? = some y:=hy;have hz:(w.p ++ [(m.number,m.body.req)])[b]? = some z:=hz
       have hbl:=(List.getElem?_eq_some_iff.1 hz).1;rw [List.length_append,List.length_singleton] at hbl
       rw [List.getElem?_append_left (by omega)] at hy;by_cases hb:b < w.p.length
       ·rw [List.getElem?_append_left hb] at hz;exact h.rise w hwm a b y z hab hy hz
       ·rw [List.getElem?_append_right (by omega),show b - w.p.length = 0 by omega] at hz;cases hz
        have:=h.low w hwm y (List.mem_of_getElem? hy);rw [hpi] at this
        show y.1 < m.number;omega
     ·rcases List.mem_or_eq_of_mem_set hx with hx | rfl
      ·exact Int.le_trans (h.low x hx y hy) (hge _)
      ·show y.1 ≤ K (primI l.n w.v);have hy:y ∈ w.p ++ [(m.number,m.body.req)]:=hy;rcases List.mem_append.1 hy with hy | hy
       ·exact Int.le_trans (h.low w hwm y hy) (hge _)
       ·rw [List.mem_singleton.1 hy,hpi,hKo];exact Int.le_refl _
    ·rw [e];refine ⟨fun x hx=>?_,fun x hx y hy=>?_⟩
     ·rcases List.mem_cons.1 ((zbq _ _).mem_iff.2 hx) with rfl | hx
      ·exact RiseN.nil
      ·exact h.rise x hx
     ·rcases List.mem_cons.1 ((zbq _ _).mem_iff.2 hx) with rfl | hx
      ·cases hy
      ·exact Int.le_trans (h.low x hx y hy) (hge _)
   refine ⟨key.1,fun w hw y hy=>?_⟩
   have:=key.2 w hw y hy;show y.1 ≤ K (primI (l.counts m).2.n w.v)
   rw [hk.1];exact this
variable {f:Frag}
theorem may_kind {x:MV} (hx:x.Good f) (hm:x.m.may = true):1 ≤ x.m.body.kind.toNat ∧ x.m.body.kind.toNat ≤ 6:=by
 unfold Msg.may at hm;rw [Bool.and_eq_true] at hm;have h:=mayB_eq hx.2.2;rw [hm.2] at h
 unfold Bod.mayB at h;rw [Bool.and_eq_true] at h;exact of_decide_eq_true h.1
variable {n:Nat}
theorem u8_ne {k:UInt8} (hn:n < 256) (h:k ≠ UInt8.ofNat n):k.toNat ≠ n:=fun e=>h (by rw [← e];simp)
section
variable (f:Frag) (F:List HP)
theorem by3_fn:Fn Tryz.prog 53 [.int .u8 3] f F (Ret (.func (.func 94) #[] #[]) f F):=by
 exact qbm
theorem by4_fn:Fn Tryz.prog 53 [.int .u8 4] f F (Ret (.func (.func 95) #[] #[]) f F):=by
 exact qbm
theorem by5_fn:Fn Tryz.prog 53 [.int .u8 5] f F (Ret (.func (.func 96) #[] #[]) f F):=by
 exact qbm
theorem by6_fn {k:Int} (h1:k ≠ 1) (h2:k ≠ 2) (h3:k ≠ 3) (h4:k ≠ 4) (h5:k ≠ 5):Fn Tryz.prog 53 [.int .u8 k] f F (Ret (.func (.func 99) #[] #[]) f F):=by
 refine Fn.e1 Tryz.func53 Tryz.ntmps53 fun base=>?_;refine gF ?_;exact qap
theorem pltakeA_fn (htab:TabAt f) (hfl:Le fl f) (hL:LI l T) (hT:T ≤ 40000) (hN:NI l) (hodd:l.n % 2 = 1) {x:MV} (hx:x.Good f) :
  Fn Tryz.prog 20 [.pointer (some ⟨lb,0,none⟩),.agg x.vals.toArray] f (plogH fl lb l::F) (Ret (.tuple #[.bool (l.take x.m).1.1,.int .i64 (l.take x.m).1.2]) f (plogH f lb (l.take x.m).2::F)):=by
 by_cases k1:x.m.body.kind = 1
 ·exact pltake1_fn f F htab hfl hL hT hx k1
 ·by_cases k2 : x.m.body.kind = 2
  ·exact pltake2_fn f F hfl hL hT hN.rise hx k2
  ·by_cases k3 : x.m.body.kind = 3
   ·exact pltake_fn f F hfl hL hT hx (fid:=94) (fun G=>by rw [k3];exact by3_fn f G) fun _ hm i G hi=>plchange_fn f G hfl (hL.more x.m) (by omega) hm k3 hi rfl
   ·by_cases k4 : x.m.body.kind = 4
    ·exact pltake_fn f F hfl hL hT hx (fid:=95) (fun G=>by rw [k4];exact by4_fn f G) fun _ hm i G hi=>plnew_view_fn f G hfl (hL.more x.m) (by omega) hodd hx hm k4 hi rfl
    ·by_cases k5 : x.m.body.kind = 5
     ·exact pltake_fn f F hfl hL hT hx (fid:=96) (fun G=>by rw [k5];exact by5_fn f G) fun _ hm i G hi=>plenter_fn f G hfl (hL.more x.m) (by omega) hm k5 hi rfl
     ·have n1:=u8_ne (n:=1) (by decide) k1;have n2:=u8_ne (n:=2) (by decide) k2
      have n3:=u8_ne (n:=3) (by decide) k3;have n4:=u8_ne (n:=4) (by decide) k4
      have n5:=u8_ne (n:=5) (by decide) k5;refine pltake_fn f F hfl hL hT hx (fid:=99) (fun G=>by6_fn f G (by omega) (by omega) (by omega) (by omega) (by omega)) fun hmay hm i G hi=>?_
      have hk:=may_kind hx hmay
      have k6:x.m.body.kind = 6:=by
       have e:x.m.body.kind.toNat = 6:=by omega
       exact UInt8.toNat_inj.1 e
      exact plcheck_fn f G hfl k6 hi
end
def Lgs.vw (l:Lgs) (v:Int):Option Vw:=(vwAt l.vs v).bind fun i=>l.vs[i]?
variable {v:Int} {w:Vw}
theorem vw_at (h:l.vw v = some w):∃ i,vwAt l.vs v = some i ∧ l.vs[i]? = some w:=by
 unfold Lgs.vw at h
 cases e:vwAt l.vs v with
 | none=>rw [e] at h;cases h
 | some i=>rw [e] at h;exact ⟨i,rfl,h⟩
theorem vw_v (h:l.vw v = some w):w.v = v ∧ w ∈ l.vs:=by
 obtain ⟨i,h1,h2⟩:=vw_at h;obtain ⟨⟨w',h3,h4⟩,_⟩:=zaw.1 h1;rw [h2] at h3;cases h3;exact ⟨h4,List.mem_of_getElem? h2⟩
theorem vw_none:l.vw v = none ↔ vwAt l.vs v = none:=by
 unfold Lgs.vw
 cases e:vwAt l.vs v with
 | none=>simp
 | some i =>
  obtain ⟨⟨w,h1,_⟩,_⟩:=zaw.1 e;simp [h1]
theorem vw_mem (h:(l.vs.map Vw.v).Pairwise (· < ·)) (hw:w ∈ l.vs):l.vw w.v = some w:=by
 obtain ⟨i,h1,h2⟩:=vwAt_mem h hw;unfold Lgs.vw;rw [h1];exact h2
theorem vw_no (h:l.vw v = none):∀ w ∈ l.vs,w.v ≠ v:=vwAt_none.1 (vw_none.1 h)
inductive Eff where
 | no
 | past (p:PM)
 | chg (p:PM) (c:Int × Int)
 | prep (p:PM) (v:Int) (y:Int × Req)
 | beg (p:PM) (w:Vw)
def putV (v:Int) (y:Int × Req) (w:Vw):Vw:=if w.v = v then { w with p:=w.p ++ [y] } else w
theorem putV_v (v:Int) (y:Int × Req) (w:Vw):(putV v y w).v = w.v:=by unfold putV;split <;> rfl
def Lgs.app (l:Lgs) (r:Nat):Eff→Lgs
 | .no=>l
 | .past p=>{ l with past:=updF l.past r p }
 | .chg p c=>{ l with past:=updF l.past r p,ch:=updF l.ch r (l.ch r ++ [c]) }
 | .prep p v y=>{ l with past:=updF l.past r p,vs:=l.vs.map (putV v y) }
 | .beg p w=>{ l with past:=updF l.past r p,vs:=insV w l.vs }
def Lgs.best (l:Lgs) (m:Msg):Int × Int:=bestQ l.past m.body.view m.body.q (0,0)
def Lgs.pref (l:Lgs) (b:Int × Int):List Req:=((l.vw b.1).map fun w=>w.all.take b.2.toNat).getD []
def Lgs.qAll (l:Lgs) (m:Msg):Bool:=m.body.q.all fun q=>decide (q.2 ≤ m.deps (q.1 - 1).toNat) && chB l q m.body.view
def Lgs.eff (l:Lgs) (m:Msg):Option Eff:=
 if m.body.kind = 3 then (if (l.past (orgI m)).changeOk m.body.view = true then some (.chg ((l.past (orgI m)).change m.body.view) (m.body.view,m.number)) else none)
 else if m.body.kind = 4 then
  (if primZ l.n m.body.view = m.origin ∧ m.body.q.length = (l.n - 1) / 2 + 1 ∧ l.qAll m = true ∧ (l.past (orgI m)).enterOk m.body.view (l.best m).2 = true then
   some (.beg ((l.past (orgI m)).enter m.body.view (l.best m).2) ⟨m.body.view,m.number,l.pref (l.best m),[]⟩) else none)
 else if m.body.kind = 5 then (match l.vw m.body.view with
  | none=>none
  | some w=>if w.num ≤ m.deps (primI l.n m.body.view) ∧ (l.past (orgI m)).enterOk m.body.view (w.s.length:Nat) = true then some (.past ((l.past (orgI m)).enter m.body.view (w.s.length:Nat))) else none)
 else if m.body.kind = 1 then (match l.vw m.body.view with
  | none=>none
  | some w => if primZ l.n m.body.view = m.origin ∧ m.body.req.auth = true ∧ holdsB w.all m.body.req.client m.body.req.time = false ∧ (l.past (orgI m)).isOpen m.body.view = true then
    some (.prep ((l.past (orgI m)).prepare m.body.view) m.body.view (m.number,m.body.req)) else none)
 else if m.body.kind = 2 then (match l.vw m.body.view with
  | none=>none
  | some w => if primZ l.n m.body.view ≠ m.origin ∧ (l.past (orgI m)).commitOk m.body.view m.body.k (knowsV w (m.deps (primI l.n m.body.view)) : Nat) = true then
    some (.past ((l.past (orgI m)).commit m.body.view m.body.k (knowsV w (m.deps (primI l.n m.body.view)):Nat))) else none)
 else if m.body.kind = 6 then some .no else none
def Lgs.res (l:Lgs) (r:Nat):Option Eff→Bool × Lgs
 | none=>(false,l)
 | some e=>(true,l.app r e)
variable {vs:List Vw}
theorem set_putV (h:(vs.map Vw.v).Pairwise (· < ·)) {i:Nat} (hat:vwAt vs v = some i) (hw:vs[i]? = some w) (y:Int × Req):vs.set i { w with p:=w.p ++ [y] } = vs.map (putV v y):=by
 obtain ⟨⟨w',h3,h4⟩,_⟩:=zaw.1 hat;rw [hw] at h3;cases h3;have hi:=(List.getElem?_eq_some_iff.1 hw).1;refine List.ext_getElem? fun j=>?_
 rw [List.getElem?_map];by_cases e:i = j
 ·subst e;rw [List.getElem?_set_self hi,hw];show _ = some (putV v y w);unfold putV;rw [if_pos h4]
 ·rw [List.getElem?_set_ne e]
  cases hj:vs[j]? with
  | none=>rfl
  | some x =>
   show some x = some (putV v y x);unfold putV;rw [if_neg];intro hx
   have:=Vw.uniq h (List.mem_of_getElem? hj) (List.mem_of_getElem? hw) (hx.trans h4.symm);subst this
   have h1:=(List.getElem?_eq_some_iff.1 hj);have h2:=(List.getElem?_eq_some_iff.1 hw)
   rcases Nat.lt_or_gt_of_ne e with hl | hl
   ·have:=List.pairwise_iff_getElem.1 h i j (by rw [List.length_map];exact h2.1) (by rw [List.length_map];exact h1.1) hl;rw [List.getElem_map,List.getElem_map,h1.2,h2.2] at this
    omega
   ·have:=List.pairwise_iff_getElem.1 h j i (by rw [List.length_map];exact h1.1) (by rw [List.length_map];exact h2.1) hl;rw [List.getElem_map,List.getElem_map,h1.2,h2.2] at this
    omega
theorem doPast_self (l:Lgs) (r:Nat):({ l with past:=updF l.past r (l.past r) }:Lgs) = l:=by rw [updF_self]
theorem counts_eff (h:(l.vs.map Vw.v).Pairwise (· < ·)) (m:Msg):l.counts m = l.res (orgI m) (l.eff m):=by
 unfold Lgs.eff;by_cases h3:m.body.kind = 3
 ·rw [Lgs.counts_3 h3,if_pos h3];split <;> rfl
 ·rw [if_neg h3];by_cases h4 : m.body.kind = 4
  ·rw [Lgs.counts_4 h4, if_pos h4];by_cases hp : primZ l.n m.body.view = m.origin
   ·rw [if_pos (decide_eq_true hp)];unfold Lgs.begins;by_cases h1 : m.body.q.length = (l.n - 1) / 2 + 1
    ·rw [if_neg (fun e => e h1)];have hqd : l.qAll m = (m.body.q.all fun q => decide (q.2 ≤ m.deps (q.1 - 1).toNat) && chB l q m.body.view) := rfl;have hbd : l.best m = bestQ l.past m.body.view m.body.q (0, 0) := rfl
     rw [← hqd,← hbd]
     cases hq:l.qAll m with
     | false=>rw [if_pos rfl,if_neg (fun e=>by have:=e.2.2.1;cases this)];rfl
     | true =>
      rw [if_neg (by decide)]
      cases he:(l.past (orgI m)).enterOk m.body.view (l.best m).2 with
      | false=>rw [if_pos rfl,if_neg (fun e=>by have:=e.2.2.2;cases this)];rfl
      | true =>
       rw [if_neg (by decide),if_pos ⟨hp,h1,rfl,rfl⟩];show (true,_) = (true,({ l with past:=_,vs:=insV ⟨m.body.view,m.number,l.pref (l.best m),[]⟩ l.vs }:Lgs))
       have e:((match vwAt l.vs (l.best m).1 with | none=>[] | some i=>(l.vs[i]?.map Vw.all).getD []).take (l.best m).2.toNat) = l.pref (l.best m):=by
        unfold Lgs.pref Lgs.vw
        cases hat:vwAt l.vs (l.best m).1 with
        | none=>exact List.take_nil
        | some i =>
         show List.take _ ((l.vs[i]?.map Vw.all).getD []) = ((l.vs[i]?).map _).getD []
         cases l.vs[i]? with
         | none=>exact List.take_nil
         | some w=>rfl
       rw [← e];rfl
    ·rw [if_pos h1,if_neg (fun e=>h1 e.2.1)];rfl
   ·rw [if_neg (fun e=>hp (of_decide_eq_true e)),if_neg (fun e=>hp e.1)];rfl
  ·rw [if_neg h4];by_cases h5 : m.body.kind = 5
   ·rw [if_pos h5]
    cases hv:l.vw m.body.view with
    | none=>rw [Lgs.counts_5n h5 (vw_none.1 hv)];rfl
    | some w =>
     obtain ⟨i,h1,h2⟩:=vw_at hv;rw [Lgs.counts_5 h5 h1 h2];show _ = l.res _ (if _ then _ else none);by_cases hd:m.deps (primI l.n m.body.view) < w.num
     ·rw [if_pos hd,if_neg (fun e=>by have:=e.1;omega)];rfl
     ·rw [if_neg hd]
      cases he:(l.past (orgI m)).enterOk m.body.view (w.s.length:Nat) with
      | false =>
       rw [if_neg (fun e=>by have:=e.2;cases this)];show (false,l.doPast _ _) = (false,l);unfold PM.enter Lgs.doPast;rw [he];exact congrArg _ (doPast_self l _)
      | true=>rw [if_pos ⟨by omega,rfl⟩];rfl
   ·rw [if_neg h5];by_cases k1 : m.body.kind = 1
    ·rw [if_pos k1]
     cases hv:l.vw m.body.view with
     | none=>rw [Lgs.counts_1n k1 (vw_none.1 hv)];rfl
     | some w =>
      obtain ⟨i,h1,h2⟩:=vw_at hv;rw [Lgs.counts_1 k1 h1 h2];show _ = l.res _ (if _ then _ else none);by_cases hg:primZ l.n m.body.view = m.origin ∧ m.body.req.auth = true ∧ holdsB w.all m.body.req.client m.body.req.time = false ∧ (l.past (orgI m)).isOpen m.body.view = true
      ·rw [if_pos hg,if_neg]
       ·show (true,_) = (true,({ l with past:=_,vs:=l.vs.map _ }:Lgs));rw [set_putV h h1 h2]
       ·rintro (e | e | e | e)
        ·exact absurd hg.1 (of_decide_eq_false e)
        ·rw [hg.2.1] at e;cases e
        ·rw [hg.2.2.1] at e;cases e
        ·rw [hg.2.2.2] at e;cases e
      ·rw [if_neg hg, if_pos]
       ·rfl
       ·by_cases e1 : primZ l.n m.body.view = m.origin
        ·cases e2:m.body.req.auth with
         | false=>exact .inr (.inl rfl)
         | true =>
          cases e3:holdsB w.all m.body.req.client m.body.req.time with
          | true=>exact .inr (.inr (.inl rfl))
          | false =>
           cases e4:(l.past (orgI m)).isOpen m.body.view with
           | false=>exact .inr (.inr (.inr rfl))
           | true=>exact absurd ⟨e1,e2,e3,e4⟩ hg
        ·exact .inl (decide_eq_false e1)
    ·rw [if_neg k1];by_cases k2 : m.body.kind = 2
     ·rw [if_pos k2]
      cases hv:l.vw m.body.view with
      | none=>rw [Lgs.counts_2n k2 (vw_none.1 hv)];rfl
      | some w =>
       obtain ⟨i,h1,h2⟩:=vw_at hv;rw [Lgs.counts_2 k2 h1 h2];show _ = l.res _ (if _ then _ else none);by_cases hp:primZ l.n m.body.view = m.origin
       ·rw [if_pos (decide_eq_true hp),if_neg (fun e=>e.1 hp)];rfl
       ·rw [if_neg (fun e=>hp (of_decide_eq_true e))]
        cases he:(l.past (orgI m)).commitOk m.body.view m.body.k (knowsV w (m.deps (primI l.n m.body.view)):Nat) with
        | false =>
         rw [if_neg (fun e=>by have:=e.2;cases this)];show (false,l.doPast _ _) = (false,l);unfold PM.commit Lgs.doPast;rw [he];exact congrArg _ (doPast_self l _)
        | true=>rw [if_pos ⟨hp,rfl⟩];rfl
     ·rw [if_neg k2,Lgs.counts_x h3 h4 h5 k1 k2];by_cases k6:m.body.kind = 6
      ·rw [if_pos k6,k6];rfl
      ·rw [if_neg k6,decide_eq_false k6];rfl
theorem primI_lt (hn:0 < n) (v:Int):primI n v < n:=by
 have h1:v % (n:Int) < n:=Int.emod_lt_of_pos _ (by omega);have h2:0 ≤ v % (n:Int):=Int.emod_nonneg _ (by omega)
 unfold primI;omega
variable {m:Msg}
theorem prim_org (h:primZ n v = m.origin):primI n v = orgI m:=by unfold primZ at h;unfold orgI;omega
def CI (l:Lgs):Prop:=∀ r c,c ∈ l.ch r→c.1 ≤ (l.past r).g
theorem CI.new (n:Nat):CI (Lgs.new n):=fun r c h=>by cases h
theorem CI.app (h:CI l) {p:PM} (hg:(l.past r).g ≤ p.g) {ch:Nat→List (Int × Int)} (hc:(∀ s,s ≠ r→ch s = l.ch s) ∧ ∀ c ∈ ch r,c ∈ l.ch r ∨ c.1 ≤ p.g):CI { l with past:=updF l.past r p,ch:=ch,vs:=vs }:=fun s c hs=>by
 have hs:c ∈ ch s:=hs
 show c.1 ≤ (updF l.past r p s).g
 by_cases e:s = r
 ·subst e
  rw [zae]
  rcases hc.2 c hs with h1 | h1
  ·have:=h s c h1;omega
  ·exact h1
 ·rw [zaq _ _ e]
  rw [hc.1 s e] at hs
  exact h s c hs
theorem PM.change_g (s:PM) (v:Int):s.g ≤ (s.change v).g:=by
 unfold PM.change;split
 ·rename_i h
  have:=of_decide_eq_true h;show s.g ≤ v
  omega
 ·exact Int.le_refl _
theorem PM.enter_gg (s:PM) (v k:Int):s.g ≤ (s.enter v k).g:=by
 unfold PM.enter;split
 ·rename_i h
  have:=(PM.enterOk_lt h).2;exact this
 ·exact Int.le_refl _
theorem PM.prepare_g (s:PM) (v:Int):(s.prepare v).g = s.g:=by unfold PM.prepare;split <;> rfl
theorem PM.commit_g (s:PM) (v k most:Int):(s.commit v k most).g = s.g:=by unfold PM.commit;split <;> rfl
theorem eff_cases {e:Eff} (h:l.eff m = some e) :
  (e = .no) ∨
  (∃ c,e = .chg ((l.past (orgI m)).change m.body.view) c ∧ c = (m.body.view,m.number) ∧ (l.past (orgI m)).changeOk m.body.view = true) ∨
  (primZ l.n m.body.view = m.origin ∧ l.qAll m = true ∧ (l.past (orgI m)).enterOk m.body.view (l.best m).2 = true ∧ e = .beg ((l.past (orgI m)).enter m.body.view (l.best m).2) ⟨m.body.view,m.number,l.pref (l.best m),[]⟩) ∨
  (∃ k,(l.past (orgI m)).enterOk m.body.view k = true ∧ e = .past ((l.past (orgI m)).enter m.body.view k)) ∨
  (primZ l.n m.body.view = m.origin ∧ (l.past (orgI m)).isOpen m.body.view = true ∧ (∃ w,l.vw m.body.view = some w) ∧ e = .prep ((l.past (orgI m)).prepare m.body.view) m.body.view (m.number,m.body.req)) ∨
  (∃ k most,(l.past (orgI m)).commitOk m.body.view k most = true ∧ e = .past ((l.past (orgI m)).commit m.body.view k most)):=by
 unfold Lgs.eff at h;split at h
 ·split at h
  ·rename_i hc
   cases h
   exact .inr (.inl ⟨_,rfl,rfl,hc⟩)
  ·cases h
 ·split at h
  ·split at h
   ·rename_i hc
    cases h
    exact .inr (.inr (.inl ⟨hc.1,hc.2.2.1,hc.2.2.2,rfl⟩))
   ·cases h
  ·split at h
   ·split at h
    ·cases h
    ·split at h
     ·rename_i hc
      cases h
      exact .inr (.inr (.inr (.inl ⟨_,hc.2,rfl⟩)))
     ·cases h
   ·split at h
    ·split at h
     ·cases h
     ·rename_i w hw
      split at h
      ·rename_i hc
       cases h
       exact .inr (.inr (.inr (.inr (.inl ⟨hc.1,hc.2.2.2,⟨w,hw⟩,rfl⟩))))
      ·cases h
    ·split at h
     ·split at h
      ·cases h
      ·split at h
       ·rename_i hc
        cases h
        exact .inr (.inr (.inr (.inr (.inr ⟨_,_,hc.2,rfl⟩))))
       ·cases h
     ·split at h
      ·cases h;exact .inl rfl
      ·cases h
theorem CI.counts (h:CI l) (hr:(l.vs.map Vw.v).Pairwise (· < ·)) (m:Msg):CI (l.counts m).2:=by
 rw [counts_eff hr]
 cases he:l.eff m with
 | none=>exact h
 | some e =>
  show CI (l.app (orgI m) e);have hsame:(∀ s,s ≠ orgI m→l.ch s = l.ch s) ∧ ∀ c ∈ l.ch (orgI m),c ∈ l.ch (orgI m) ∨ c.1 ≤ (0:Int):=⟨fun _ _=>rfl,fun c hc=>.inl hc⟩;have hsm:∀ p:PM,(∀ s,s ≠ orgI m→l.ch s = l.ch s) ∧ ∀ c ∈ l.ch (orgI m),c ∈ l.ch (orgI m) ∨ c.1 ≤ p.g:=fun p=>⟨fun _ _=>rfl,fun c hc=>.inl hc⟩
  rcases eff_cases he with rfl | ⟨c,rfl,hc,hok⟩ | ⟨_,_,_,rfl⟩ | ⟨k,_,rfl⟩ | ⟨_,_,_,rfl⟩ | ⟨k,most,_,rfl⟩
  ·exact h
  ·refine h.app (ch:=updF l.ch (orgI m) (l.ch (orgI m) ++ [c])) (PM.change_g _ _) ⟨fun s hs=>zaq _ _ hs,fun d hd=>?_⟩;rw [zae] at hd;rcases List.mem_append.1 hd with h1 | h1
   ·exact .inl h1
   ·rw [List.mem_singleton.1 h1,hc];refine .inr ?_;unfold PM.change;rw [if_pos hok];exact Int.le_refl _
  ·exact h.app (PM.enter_gg _ _ _) (hsm _)
  ·exact h.app (PM.enter_gg _ _ _) (hsm _)
  ·exact h.app (Int.le_of_eq (PM.prepare_g _ _).symm) (hsm _)
  ·exact h.app (Int.le_of_eq (PM.commit_g _ _ _ _).symm) (hsm _)
structure Rdy (l:Lgs) (m:Msg):Prop where
 may:m.may = true
 org:m.origin ≤ (l.n:Int)
 q:qIn l.n m = true
 v:0 ≤ m.body.view
 num:m.number = l.known (orgI m) + 1
 dep:∀ i,i < 11→m.deps i ≤ l.known i
theorem Rdy.min (h:Rdy l m):MIn l.n m:=may_MIn h.may h.org h.q h.v
theorem Rdy.take {l:Lgs} {m:Msg} (h:Rdy l m):l.take m = (((l.counts m).1,0),{ (l.counts m).2 with known:=updF l.known (orgI m) (l.known (orgI m) + 1) }):=by
 have hk:=(l.counts_nk m).2;unfold Lgs.take
 rw [if_neg,if_neg,hk]
 ·rintro (e | e)
  ·exact e h.num
  ·have:depsIn m l.known = true:=by
    unfold depsIn;rw [List.all_eq_true];intro i hi;exact decide_eq_true (h.dep i (List.mem_range.1 hi))
   rw [this] at e;cases e
 ·rintro (e | e | e)
  ·rw [h.may] at e;cases e
  ·have:=h.org;omega
  ·rw [h.q] at e;cases e
variable {l2:Lgs}
theorem vw_congr (h:l2.vs = l.vs) (v:Int):l2.vw v = l.vw v:=by unfold Lgs.vw;rw [h]
theorem rise_put (h:(vs.map Vw.v).Pairwise (· < ·)) (v:Int) (y:Int × Req):((vs.map (putV v y)).map Vw.v).Pairwise (· < ·):=by
 have e:(vs.map (putV v y)).map Vw.v = vs.map Vw.v:=by
  rw [List.map_map];exact List.map_congr_left fun w _=>putV_v v y w
 rw [e];exact h
theorem vw_put (h:(l.vs.map Vw.v).Pairwise (· < ·)) {y:Int × Req} (h2:l2.vs = l.vs.map (putV v y)) (u:Int):l2.vw u = (l.vw u).map (putV v y):=by
 have hr2:(l2.vs.map Vw.v).Pairwise (· < ·):=by rw [h2];exact rise_put h v y
 cases hv:l.vw u with
 | none =>
  show _ = none;refine vw_none.2 (vwAt_none.2 fun w hw e=>?_);rw [h2] at hw;obtain ⟨z,hz,rfl⟩:=List.mem_map.1 hw;rw [putV_v] at e;exact vw_no hv z hz e
 | some w =>
  obtain ⟨h1,hm⟩:=vw_v hv;have hm2:putV v y w ∈ l2.vs:=by rw [h2];exact List.mem_map.2 ⟨w,hm,rfl⟩
  have:=vw_mem hr2 hm2;rw [putV_v,h1] at this
  exact this
theorem vw_ins (h2:l2.vs = insV w l.vs) (hr2:(l2.vs.map Vw.v).Pairwise (· < ·)) (u:Int):l2.vw u = if u = w.v then some w else l.vw u:=by
 have hperm:=zbq w l.vs
 have hr:(l.vs.map Vw.v).Pairwise (· < ·):=by
  have:l.vs.Sublist l2.vs:=by
   rw [h2];unfold insV;conv=>lhs;rw [← List.take_append_drop (insK w.v l.vs) l.vs]
   exact List.Sublist.append_left (List.sublist_cons_self _ _) _
  exact List.Pairwise.sublist (this.map Vw.v) hr2
 split
 ·rename_i e
  have:w ∈ l2.vs:=by rw [h2];exact hperm.mem_iff.1 List.mem_cons_self
  rw [e];exact vw_mem hr2 this
 ·rename_i e
  cases hv:l.vw u with
  | none =>
   refine vw_none.2 (vwAt_none.2 fun x hx e2=>?_);rw [h2] at hx;rcases List.mem_cons.1 (hperm.mem_iff.2 hx) with rfl | hx
   ·exact e e2.symm
   ·exact vw_no hv x hx e2
  | some x =>
   obtain ⟨h1,hm⟩:=vw_v hv;have:x ∈ l2.vs:=by rw [h2];exact hperm.mem_iff.1 (List.mem_cons_of_mem _ hm)
   have:=vw_mem hr2 this;rw [h1] at this
   exact this
variable {y:Operand} {z:Int}
section
variable {P:Program} {base:World} {n:Nat} {L:Env} {f:Frag} {A:List HP} {q:Post} {l:List Oper} {d:Nat} {ty:TypeId} {pos:String} {af:Array Edge} {gd:Option (Nat × Bool)} {listed:Array Bool} {fuel:Nat}
theorem HN.pure {i:Nat} {op:Op} {v:Value} (hc:pureB l listed i = true) (ho:getO l i = some ⟨some d,op,ty,pos,af,gd⟩) (hw:want? l L gd = true) (hd:Nat.ble (d + 1) n = true)
  (hx:∀ a w,Fr n a L→(execOp a.eval ⟨some d,op,ty,pos,af,gd⟩).run P w = .ok (.value v) w)
  (k:HN (listed.setIfInBounds i true) fuel P base n ((d,v)::L) f A (.ops l [] q)):HN listed (fuel + 1) P base n L f A (.ops l [] q):=.mk fun l' q' hK hs hb a w hf s=>by
 simp only [Kont.ops.injEq] at hK
 obtain ⟨rfl,_,rfl⟩:=hK
 simp only [pureB,Bool.and_eq_true] at hc
 obtain ⟨⟨⟨⟨⟨h1,h2⟩,h3⟩,h4⟩,h5⟩,h6⟩:=hc
 have h5':listed.size = l.toArray.size:=by simpa using Nat.eq_of_beq_eq_true h5
 have h6':l.toArray.size ≠ 0:=by
  have:=Nat.le_of_ble_eq_true h6;simp only [List.size_toArray];omega
 have hk:=k.out l q rfl hs hb (a.put (some d) v) w (hf.put (Nat.le_of_ble_eq_true hd) v) s
 have hk2:=wpAnyC_true h6' _ _ _ _ (by simpa using h5') hk
 exact wpAnyC.any _ _ _ _ (wpAnyC_take (C:=fun _=>True) (cut:=#[]) (oi:=⟨some d,op,ty,pos,af,gd⟩) (v:=v) (by rw [List.getElem?_toArray,← getO_eq];exact ho) hs h2 h3 h4 h1 (fun c a w h=>hb c a _ _ w h) (.inl ⟨hf.want hw,fun w' _=>hx _ _ hf⟩) hk2)
theorem HN.ar {i:Nat} {op:BinOp} {xt yt:TypeId} {x:Operand} {k:IntKind} {p p2 r:Int} (hc:pureB l listed i = true) (ho:getO l i = some ⟨some d,.binOp op xt x y yt,ty,pos,af,gd⟩) (hw:want? l L gd = true) (hx:ev? L x = some (.int k p)) (hy:ev? L y = some (.int k p2)) (ha:arP op k p p2 = some r) (hz:r = z) (hd:Nat.ble (d + 1) n = true)
  (kk:HN (listed.setIfInBounds i true) fuel P base n ((d,.int k z)::L) f A (.ops l [] q)):HN listed (fuel + 1) P base n L f A (.ops l [] q):=
 HN.pure hc ho hw hd (fun a w hf=>by
  cases op <;> simp only [arP,Option.some.injEq,reduceCtorEq] at ha <;> subst ha <;> subst hz <;>
   simp [execOp,eqGuard,binOp,Op.intArith,hf.eval hx,hf.eval hy]) kk
theorem H.indexS {rest:List Oper} {t:TypeId} {i:Nat} {x:Operand} {s:ByteArray} {ik:IntKind} {b:UInt8} [hu:Und P t .string] (hw:want? l L gd = true)
  (hx:ev? L x = some (.string s)) (hy:ev? L y = some (.int ik z)) (hq:z = (i:Nat)) (hb:s[i]? = some b) (hd:Nat.ble (d + 1) n = true)
  (k:H P base n ((d,.int .u8 (b.toNat:Nat))::L) f A (.ops l rest q)):H P base n L f A (.ops l (⟨some d,.index t x y,ty,pos,af,gd⟩::rest) q):=
 H.opV hw hd (fun a w hf _=>by
  subst hq
  have h1:=hu.run w
  have hi2:(0:Int) ≤ (i:Int):=by omega
  simp only [execOp,hf.eval hx,hf.eval hy,Instr.index,asIntOf,Sem.run_bind,Sem.run_pure,Result.andThen_ok,h1,hi2,if_true,Int.toNat_natCast,hb]) k
end
open Go.Sort (swp ltInt insInner insOuter insertionSort)
def uV (z:Int):List Value:=[.int .u64 z]
theorem uV_len (z:Int):(uV z).length = 1:=rfl
def arr (d:Array Int):List Value:=d.toList.flatMap uV
theorem zbh (d:Array Int) (i j:Nat):(swp d i j).size = d.size:=by unfold swp;simp
variable {d:Array Int}
theorem arr_get {i:Nat} (h:i < d.size):d.toList[i]? = some d[i]!:=by
 rw [Array.getElem?_toList,getElem!_pos d i h];simp [h]
theorem arr_map (d:Array Int):arr d = d.toList.map fun z=>.int .u64 z:=by
 unfold arr
 induction d.toList with
 | nil=>rfl
 | cons x r ih=>rw [List.flatMap_cons,ih];rfl
theorem zax {i:Nat} (h:i < d.size) (z:Int):SetV (arr d) (i * 1) (.int .u64 z) (arr (d.setIfInBounds i z)):=by
 have e:arr (d.setIfInBounds i z) = (arr d).set i (.int .u64 z):=by rw [arr_map,arr_map,Array.toList_setIfInBounds,List.map_set]
 rw [e,Nat.mul_one];exact SetV.mk _ (by rw [arr_map,List.length_map];simpa using h)
variable {b c:Nat}
theorem Rd.arr {A A':List HP} (h:At A (slc (some ⟨b,0,none⟩) n c 24 1 (arr d)) A' (slc (some ⟨b,0,none⟩) n c 24 1 (arr d))) {i:Nat} (hi:i < d.size):Rd1 f A b (i * 1) (.int .u64 d[i]!):=
 Rd1.of (i:=0) (Rd.slcElem (vals:=uV) (xs:=d.toList) uV_len (by decide) h (arr_get hi)) rfl
variable {p:Option Addr} {a:Nat} {d0:Array Int}
section
variable (f:Frag) (F:List HP)
theorem nan_fn (x:Int):Fn Tryz.prog 233 [.int .u64 x] f F (Ret (.bool false) f F):=by
 refine Fn.e1 Tryz.func233 Tryz.ntmps233 fun base=>?_;exact qca
theorem zcb (x y:Int):Fn Tryz.prog 179 [.int .u64 x,.int .u64 y] f F (Ret (.bool (ltInt x y)) f F):=by
 refine Fn.e2 Tryz.func179 Tryz.ntmps179 fun base=>?_;refine gL ?_;refine H.Ag rfl rfl rfl (nan_fn f _ x) ?_;refine gQ ?_;exact qap
theorem insSort_fn (hd0:d0.size = n) (hn:n ≤ 1000000) (hb:b ≤ n) (ha:a ≤ n) :
  Fn Tryz.prog 173 [.slice p n c,.int .i64 (a:Int),.int .i64 (b:Int)] f (slc p n c 24 1 (arr d0)::F) (Ret (.tuple #[]) f (slc p n c 24 1 (arr (insertionSort ltInt d0 a b))::F)):=by
 refine Fn.e3 Tryz.func173 Tryz.ntmps173 fun base=>?_;refine gX ?_
 refine H.lo (ι:=Nat × Array Int) (fun s=>[(6,.int .i64 (s.1:Int)),(0,.slice p n c),(1,.int .i64 (a:Int)),(2,.int .i64 (b:Int))]) (fun _=>f) (fun s=>slc p n c 24 1 (arr s.2)::F)
  (fun s=>s.1 ≤ n + 1 ∧ s.2.size = n ∧ insOuter ltInt a b s.1 s.2 = insertionSort ltInt d0 a b) (fun s=>b - s.1) (a + 1,d0) ⟨by show a + 1 ≤ n + 1;omega,hd0,rfl⟩ fun s hs=>?_
 obtain ⟨i,d1⟩:=s;obtain ⟨hi,hd1,hR⟩:i ≤ n + 1 ∧ d1.size = n ∧ insOuter ltInt a b i d1 = insertionSort ltInt d0 a b:=hs;show H _ _ _ [(6,.int .i64 (i:Int)),_,_,_] f (slc p n c _ 1 (arr d1)::F) _;rw [insOuter] at hR;by_cases hlt:i < b
 ·rw [if_pos hlt] at hR;refine gI ?_
  refine H.lo (ι:=Nat × Array Int) (fun s=>[(7,.int .i64 (s.1:Int)),(6,.int .i64 (i:Int)),(0,.slice p n c),(1,.int .i64 (a:Int)),(2,.int .i64 (b:Int))]) (fun _=>f) (fun s=>slc p n c 24 1 (arr s.2)::F)
   (fun s=>s.1 ≤ i ∧ s.2.size = n ∧ insInner ltInt a s.1 s.2 = insInner ltInt a i d1) (fun s=>s.1) (i,d1) ⟨Nat.le_refl i,hd1,rfl⟩ fun s hs=>?_
  obtain ⟨k,d⟩:=s;obtain ⟨hk,hd,hr⟩:k ≤ i ∧ d.size = n ∧ insInner ltInt a k d = insInner ltInt a i d1:=hs;show H _ _ _ [(7,.int .i64 (k:Int)),_,_,_,_] f (slc p n c _ 1 (arr d)::F) _;refine qei fun sb hp=>?_;subst hp;by_cases hka:a < k
  ·obtain ⟨j,rfl⟩:∃ j,k = j + 1:=⟨k - 1,by omega⟩;rw [insInner] at hr;have hja:decide (j + 1 > a) = true:=decide_eq_true hka;rw [hja,Bool.true_and] at hr
   refine qfX ?_;refine HB.qu [0,1,2,3,4,5,6,7,8,9,10,11,12] 2 ?_;refine gW ?_;refine HQ.Aj (i:=j + 1) rfl rfl rfl rfl (by omega) rfl ?_;refine qda ?_;refine gW ?_;refine qfR ?_;refine qda ?_;refine qdg ?_;refine HB.ev 13 ?_;refine H.Ag rfl rfl rfl (zcb f _ d[j + 1]! d[j]!) ?_;refine qcX ?_;refine HB.qu [14] 0 ?_;refine qdo ?_
   cases hlj:ltInt d[j + 1]! d[j]! with
   | false =>
    rw [hlj,if_neg (by decide)] at hr;rw [← hr] at hR;exact qcr
   | true =>
    rw [hlj,if_pos rfl] at hr;refine gE ?_;refine H.drawN (by kernel_rfl) (by decide +kernel) (by repeat (first | exact zac | refine zab ?_ | refine zak ?_ | refine zap ?_)) ?_;refine qdi ?_;refine HN.ar (i:=4) (z:=((j:Nat):Int)) (by kernel_rfl) rfl rfl rfl rfl rfl (by rw [wr_i64 (by omega)];omega) rfl ?_;refine qeF ?_;refine qfR ?_;refine qfP ?_;refine HQ.Aj (i:=j + 1) rfl rfl rfl (by omega) (by omega) rfl ?_;refine qda ?_;refine qdv ?_;refine HB.qu [14] 3 ?_;refine HQ.Aj (i:=j + 1) rfl rfl rfl (by omega) (by omega) rfl ?_;refine qhn ?_;refine qfR ?_;refine qdg ?_;refine HB.ev 17 ?_;refine qdd ?_;show H _ _ _ _ f (slc (some ⟨sb,0,none⟩) n c _ 1 (arr (swp d (j + 1) (j)))::_) _;refine gX ?_;exact H.ag (j,swp d (j + 1) j) ⟨by show j ≤ i;omega,by rw [zbh];exact hd,hr⟩ (by show j < j + 1;omega)
  ·have hr2:insInner ltInt a k d = d:=by
    cases k with
    | zero=>rfl
    | succ j=>rw [insInner,if_neg (by rw [decide_eq_false (by omega),Bool.false_and];decide)]
   rw [hr2] at hr;rw [← hr] at hR;refine qfX ?_;refine HB.qu [0,1,2,3,4,5,6,7,8,9,10,11,12] 2 ?_;refine qez ?_;refine HB.ev 13 ?_;refine qfB ?_;refine HB.qu [14] 0 ?_;refine qdo ?_;exact qcr
 ·rw [if_neg hlt] at hR;rw [← hR];refine gF ?_;exact qaW
end
open Go.Sort (swp ltInt insInner insOuter insertionSort siftDown heapBuild heapPop heapSort reverseLoop reverseRange scanUp scanDown partLoop partEqLoop scanSorted shiftDown shiftUp partialIns partialInsertionSort)
variable {hi:Nat}
section
variable (f:Frag) (F:List HP)
theorem siftDown_step {first root:Nat} (h:2 * root + 1 < hi):∃ ch,(ch = 2 * root + 1 ∨ ch = 2 * root + 2) ∧ ch < hi ∧ ((2 * root + 2 < hi ∧ ltInt d[first + (2 * root + 1)]! d[first + (2 * root + 1) + 1]! = true) ↔ ch = 2 * root + 2) ∧
  siftDown ltInt hi first root d = if ltInt d[first + root]! d[first + ch]! = true then siftDown ltInt hi first ch (swp d (first + root) (first + ch)) else d:=by
 rw [siftDown,dif_neg (by omega)];by_cases h2:2 * root + 2 < hi ∧ ltInt d[first + (2 * root + 1)]! d[first + (2 * root + 1) + 1]! = true
 ·rw [if_pos (by rw [Bool.and_eq_true];exact ⟨decide_eq_true h2.1,h2.2⟩)];refine ⟨2 * root + 2,.inr rfl,h2.1,⟨fun _=>rfl,fun _=>h2⟩,?_⟩
  cases ltInt d[first + root]! d[first + (2 * root + 2)]! with
  | false=>rfl
  | true=>rw [dif_pos h2.1];rfl
 ·rw [if_neg (fun e=>h2 (by rw [Bool.and_eq_true] at e;exact ⟨of_decide_eq_true e.1,e.2⟩))];refine ⟨2 * root + 1,.inl rfl,h,⟨fun e=>absurd e h2,fun e=>by omega⟩,?_⟩
  cases ltInt d[first + root]! d[first + (2 * root + 1)]! with
  | false=>rfl
  | true=>rfl
theorem siftDown_fn {lo first:Nat} (hd0:d0.size = n) (hn:n ≤ 1000000) (hb:first + hi ≤ n) (hlo:lo ≤ n) :
  Fn Tryz.prog 230 [.slice p n c,.int .i64 (lo:Int),.int .i64 (hi:Int),.int .i64 (first:Int)] f (slc p n c 24 1 (arr d0)::F) (Ret (.tuple #[]) f (slc p n c 24 1 (arr (siftDown ltInt hi first lo d0))::F)):=by
 refine Fn.e4 Tryz.func230 Tryz.ntmps230 fun base=>?_;refine gZ ?_
 refine H.lo (ι:=Nat × Array Int) (fun s=>[(8,.int .i64 (s.1:Int)),(0,.slice p n c),(2,.int .i64 (hi:Int)),(3,.int .i64 (first:Int))]) (fun _=>f) (fun s=>slc p n c 24 1 (arr s.2)::F)
  (fun s=>s.1 ≤ n ∧ s.2.size = n ∧ siftDown ltInt hi first s.1 s.2 = siftDown ltInt hi first lo d0) (fun s=>hi - s.1) (lo,d0) ⟨hlo,hd0,rfl⟩ fun s hs=>?_
 obtain ⟨root,d⟩:=s;obtain ⟨hi0,hd,hR⟩:root ≤ n ∧ d.size = n ∧ siftDown ltInt hi first root d = siftDown ltInt hi first lo d0:=hs;show H _ _ _ [(8,.int .i64 (root:Int)),_,_,_] f (slc p n c _ 1 (arr d)::F) _;by_cases hge:hi ≤ 2 * root + 1
 ·rw [siftDown,dif_pos hge] at hR;rw [← hR];refine gO ?_;exact qaW
 ·obtain ⟨ch,hch,hchi,hiff,he⟩:=siftDown_step (first:=first) (d:=d) (hi:=hi) (root:=root) (by omega);rw [he] at hR;clear he;refine qei fun sb hp=>?_;subst hp;repeat (first | ((first | apply H.Ap | apply H.Bb);(iterate 3 exact rfl)) | (first | apply H.seq | apply H.Bf | apply H.nil | apply H.Bh) | ((apply H.cmp);(iterate 5 exact rfl)) | ((apply H.ar;(iterate 4 exact rfl));(with_reducible apply wr_i64;omega);exact rfl) | (first | apply H.skip | apply H.Bm) | (apply H.Ch;exact rfl;(omega)))
  refine H.Bk (d:=9) (u:=.int .i64 ((2 * root + 1:Nat):Int)) rfl (by first | rfl | (congr 1)) ?_;refine H.cut (ι:=Bool) (fun b=>[(36,.bool b),(9,.int .i64 ((2 * root + 1:Nat):Int)),(8,.int .i64 (root:Int)),(0,.slice (some ⟨sb,0,none⟩) n c),(2,.int .i64 (hi:Int)),(3,.int .i64 (first:Int))]) (fun _=>f) (fun _=>slc (some ⟨sb,0,none⟩) n c 24 1 (arr d)::F) (fun b=>b = true ↔ ch = 2 * root + 2) _ (fun b hb2=>?_) ?_;rotate_left
  ·by_cases h2:2 * root + 2 < hi
   ·skip;refine qdC ?_;refine HB.qu [0,1,2,3,4,5,6,7,8,9,10,11,12,13,14,15,16,17] 2 ?_;refine gW ?_;refine HQ.Aj (i:=first + (2 * root + 1)) rfl rfl rfl (by omega) (by omega) rfl ?_;refine qda ?_;refine gW ?_;refine HQ.Aj (i:=first + (2 * root + 1) + 1) rfl rfl rfl (by omega) (by omega) rfl ?_;refine qda ?_;refine qdg ?_;refine HB.ev 18 ?_;refine H.Ag rfl rfl rfl (zcb f _ d[first + (2 * root + 1)]! d[first + (2 * root + 1) + 1]!) ?_;refine qcX ?_;refine HB.qu [19] 0 ?_;refine qdo ?_;skip;exact H.Ba (ltInt d[first + (2 * root + 1)]! d[first + (2 * root + 1) + 1]!) ⟨fun e=>hiff.1 ⟨h2,e⟩,fun e=>(hiff.2 e).2⟩ ⟨rfl,rfl,rfl,rfl,rfl,rfl,trivial⟩ rfl rfl
   ·skip;refine qdC ?_;refine HB.qu [0,1,2,3,4,5,6,7,8,9,10,11,12,13,14,15,16,17] 2 ?_;refine qez ?_;refine HB.ev 18 ?_;refine qfB ?_;refine HB.qu [19] 0 ?_;refine qdo ?_;skip;exact H.Ba false ⟨fun e=>(by cases e),fun e=>absurd (hiff.2 e).1 h2⟩ ⟨rfl,rfl,rfl,rfl,rfl,rfl,trivial⟩ rfl rfl
  show H _ _ _ [(36,.bool b),(9,.int .i64 ((2 * root + 1:Nat):Int)),(8,.int .i64 (root:Int)),(0,.slice (some ⟨sb,0,none⟩) n c),(2,.int .i64 (hi:Int)),(3,.int .i64 (first:Int))] f (slc (some ⟨sb,0,none⟩) n c _ 1 (arr d)::F) _;refine H.cut (ι:=Unit) (fun _=>[(9,.int .i64 (ch:Int)),(8,.int .i64 (root:Int)),(0,.slice (some ⟨sb,0,none⟩) n c),(2,.int .i64 (hi:Int)),(3,.int .i64 (first:Int))]) (fun _=>f) (fun _=>slc (some ⟨sb,0,none⟩) n c 24 1 (arr d)::F) (fun _=>True) _ (fun _ _=>?_) ?_;rotate_left
  ·cases b with
   | true =>
    have hce:=hb2.1 rfl;refine gJ ?_
    exact H.Ba () trivial ⟨by rw [hce];rfl,rfl,rfl,rfl,rfl,trivial⟩ rfl rfl
   | false =>
    have hce:ch = 2 * root + 1:=by
     rcases hch with e | e
     ·exact e
     ·exact absurd (hb2.2 e) (by decide)
    refine gX ?_;exact H.Ba () trivial ⟨by rw [hce];rfl,rfl,rfl,rfl,rfl,trivial⟩ rfl rfl
  show H _ _ _ [(9,.int .i64 (ch:Int)),(8,.int .i64 (root:Int)),(0,.slice (some ⟨sb,0,none⟩) n c),(2,.int .i64 (hi:Int)),(3,.int .i64 (first:Int))] f (slc (some ⟨sb,0,none⟩) n c _ 1 (arr d)::F) _;refine qfX ?_;refine HB.qu [0,1,2,3,4,5,6,7,8,9,10,11] 2 ?_;refine gW ?_;refine HQ.Aj (i:=first + root) rfl rfl rfl (by omega) (by omega) rfl ?_;refine qda ?_;refine gW ?_;refine HQ.Aj (i:=first + ch) rfl rfl rfl (by omega) (by omega) rfl ?_;refine qda ?_;refine qgz ?_;refine H.Ag rfl rfl rfl (zcb f _ d[first + root]! d[first + ch]!) ?_;refine qcX ?_;refine HB.qu [13] 0 ?_;refine qdo ?_
  cases hl2:ltInt d[first + root]! d[first + ch]! with
  | false =>
   rw [hl2,if_neg (by decide)] at hR;rw [← hR];refine gE ?_;exact H.ret0 rfl (fun _ h=>h) ⟨rfl,rfl,rfl⟩
  | true =>
   rw [hl2,if_pos rfl] at hR;refine gX ?_;refine H.drawN (by kernel_rfl) (by decide +kernel) (by repeat (first | exact zac | refine zab ?_ | refine zak ?_ | refine zap ?_)) ?_;refine qhj ?_;refine HN.move (i:=5) (by kernel_rfl) rfl rfl rfl rfl ?_;refine HN.move (i:=6) (by kernel_rfl) rfl rfl rfl rfl ?_;refine HN.ar (i:=7) (z:=((first + ch:Nat):Int)) (by kernel_rfl) rfl rfl rfl rfl rfl (by rw [wr_i64 (by omega)];omega) rfl ?_;refine HN.phase [0,1,2,3,8,9,10,11,12,13,14,15,16,17,18,19] (S:=[slc (some ⟨sb,0,none⟩) n c 24 1 (arr d)]) rfl ?_;refine HB.qu [0,1,2,3,8,9,10,11,12,13,14,15,16,17,18,19] 4 ?_;refine gW ?_;refine HQ.Aj (i:=first + ch) rfl rfl rfl (by omega) (by omega) rfl ?_;refine qda ?_;refine gW ?_;refine HQ.Aj (i:=first + root) rfl rfl rfl (by omega) (by omega) rfl ?_;refine qda ?_;refine qdv ?_;refine HB.qu [20] 3 ?_;refine HQ.Aj (i:=first + root) rfl rfl rfl (by omega) (by omega) rfl ?_;refine qdg ?_;refine HB.ev 21 ?_;refine qdq ?_;refine HB.qu [22] 1 ?_;refine HQ.Aj (i:=first + ch) rfl rfl rfl (by omega) (by omega) rfl ?_;refine qdg ?_;refine HB.ev 23 ?_;refine qdd ?_;show H _ _ _ _ f (slc (some ⟨sb,0,none⟩) n c _ 1 (arr (swp d (first + root) (first + ch)))::_) _;refine gZ ?_;exact H.ag (ch,swp d (first + root) (first + ch)) ⟨by show ch ≤ n;omega,by rw [zbh];exact hd,hR⟩ (by show hi - ch < hi - root;omega)
end
open Go.Sort (swp ltInt insInner insOuter insertionSort siftDown heapBuild heapPop heapSort reverseLoop reverseRange scanUp scanDown partLoop partEqLoop scanSorted shiftDown shiftUp partialIns partialInsertionSort)
theorem quo2 {h:Nat} (hh:h ≤ 1000000):IntKind.wrap .i64 (((h:Int) - 1).tdiv 2) = (((h - 1) / 2 + 1:Nat):Int) - 1:=by
 rcases Nat.eq_zero_or_pos h with e | e
 ·subst e;rfl
 ·rw [show (h:Int) - 1 = ((h - 1:Nat):Int) by omega,show (2:Int) = ((2:Nat):Int) from rfl,tdiv64,wr_i64 (by omega)];omega
theorem siftDown_size (hi first:Nat):∀ (root:Nat) (d:Array Int),(siftDown ltInt hi first root d).size = d.size:=by
 have:∀ (m root:Nat) (d:Array Int),hi - root ≤ m→(siftDown ltInt hi first root d).size = d.size:=by
  intro m
  induction m with
  | zero=>intro root d h;rw [siftDown,dif_pos (by omega)]
  | succ m ih =>
   intro root d h;by_cases hge:hi ≤ 2 * root + 1
   ·rw [siftDown,dif_pos hge]
   ·obtain ⟨ch,hch,hchi,_,he⟩:=siftDown_step (first:=first) (d:=d) (hi:=hi) (root:=root) (by omega);rw [he];split
    ·rw [ih _ _ (by omega),zbh]
    ·rfl
 exact fun root d=>this _ root d (Nat.le_refl _)
theorem heapBuild_size (hi first:Nat):∀ (k:Nat) (d:Array Int),(heapBuild ltInt hi first k d).size = d.size
 | 0,d=>rfl
 | k + 1,d=>by rw [heapBuild,heapBuild_size hi first k,siftDown_size]
section
variable (f:Frag) (F:List HP)
theorem heapSort_fn (hd0:d0.size = n) (hn:n ≤ 1000000) (hab:a < b) (hb:b ≤ n) :
  Fn Tryz.prog 174 [.slice p n c,.int .i64 (a:Int),.int .i64 (b:Int)] f (slc p n c 24 1 (arr d0)::F) (Ret (.tuple #[]) f (slc p n c 24 1 (arr (heapSort ltInt d0 a b))::F)):=by
 obtain ⟨h,hh⟩:∃ h,h = b - a:=⟨_,rfl⟩;have hz:(b:Int) - (a:Int) = (h:Int):=by omega
 have hR0:heapSort ltInt d0 a b = heapPop ltInt a h (heapBuild ltInt h a ((h - 1) / 2 + 1) d0):=by unfold heapSort;rw [← hh]
 have hq:=quo2 (h:=h) (by omega);rw [hR0]
 have hsz:∀ (k:Nat) (d:Array Int),(siftDown ltInt h a k d).size = d.size:=fun k d=>siftDown_size h a k d;refine Fn.e3 Tryz.func174 Tryz.ntmps174 fun base=>?_
 repeat (first | (refine H.ar (op:=.sub) (p:=(b:Int)) (p2:=(a:Int)) (z:=(h:Int)) rfl rfl rfl rfl (by rw [hz,wr_i64 (by omega)]) rfl ?_) | (refine H.quo (p:=(h:Int) - 1) (z:=(((h - 1) / 2 + 1:Nat):Int) - 1) rfl rfl rfl (by decide) hq rfl ?_) | ((first | apply H.Ap | apply H.Bb);(iterate 3 exact rfl)) | (first | apply H.seq | apply H.Bf | apply H.nil | apply H.Bh) | ((apply H.ar;(iterate 4 exact rfl));(with_reducible apply wr_i64;omega);exact rfl) | (apply H.Bm))
 refine H.cutB (ι:=Unit) (fun _=>[(6,.int .i64 (a:Int)),(7,.int .i64 0),(8,.int .i64 (h:Int)),(0,.slice p n c)]) (fun _=>f) (fun _=>slc p n c 24 1 (arr (heapBuild ltInt h a ((h - 1) / 2 + 1) d0))::F) (fun _=>True) _ (fun _ _=>?_) ?_;rotate_left
 ·refine H.lo (ι:=Nat × Array Int) (fun s=>[(9,.int .i64 ((s.1:Int) - 1)),(6,.int .i64 (a:Int)),(7,.int .i64 0),(8,.int .i64 (h:Int)),(0,.slice p n c)]) (fun _=>f) (fun s=>slc p n c 24 1 (arr s.2)::F)
   (fun s=>s.1 ≤ n ∧ s.2.size = n ∧ heapBuild ltInt h a s.1 s.2 = heapBuild ltInt h a ((h - 1) / 2 + 1) d0) (fun s=>s.1) ((h - 1) / 2 + 1,d0) ⟨by show (h - 1) / 2 + 1 ≤ n;omega,hd0,rfl⟩ fun s hs=>?_
  obtain ⟨k,d⟩:=s;obtain ⟨hk,hd,hr⟩:k ≤ n ∧ d.size = n ∧ heapBuild ltInt h a k d = heapBuild ltInt h a ((h - 1) / 2 + 1) d0:=hs;show H _ _ _ [(9,.int .i64 ((k:Int) - 1)),_,_,_,_] f (slc p n c _ 1 (arr d)::F) _
  cases k with
  | zero =>
   rw [← hr];refine gV ?_;exact H.Ba () trivial ⟨rfl,rfl,rfl,rfl,trivial⟩ rfl rfl
  | succ j =>
   refine H.Bk (d:=9) (u:=.int .i64 (j:Int)) rfl (by first | rfl | (congr 1;omega)) ?_;refine gV ?_;refine H.Al rfl rfl rfl (siftDown_fn f F (p:=p) (c:=c) (lo:=j) (hi:=h) (first:=a) hd hn (by omega) (by omega)) fun v f' A' hR=>?_;obtain ⟨rfl,hff,rfl⟩:=hR;rw [hff];refine gX ?_;exact H.ag (j,siftDown ltInt h a j d) ⟨by show j ≤ n;omega,by show (siftDown ltInt h a j d).size = n;rw [hsz];exact hd,hr⟩ (by show j < j + 1;omega)
 have hd1:(heapBuild ltInt h a ((h - 1) / 2 + 1) d0).size = n:=by rw [heapBuild_size];exact hd0
 generalize heapBuild ltInt h a ((h - 1) / 2 + 1) d0 = d1 at *;show H _ _ _ [(6,.int .i64 (a:Int)),(7,.int .i64 0),(8,.int .i64 (h:Int)),(0,.slice p n c)] f (slc p n c _ 1 (arr d1)::F) _;refine gX ?_
 refine H.lo (ι:=Nat × Array Int) (fun s=>[(10,.int .i64 ((s.1:Int) - 1)),(6,.int .i64 (a:Int)),(7,.int .i64 0),(8,.int .i64 (h:Int)),(0,.slice p n c)]) (fun _=>f) (fun s=>slc p n c 24 1 (arr s.2)::F)
  (fun s=>s.1 ≤ h ∧ s.2.size = n ∧ heapPop ltInt a s.1 s.2 = heapPop ltInt a h d1) (fun s=>s.1) (h,d1) ⟨Nat.le_refl h,hd1,rfl⟩ fun s hs=>?_
 obtain ⟨k,d⟩:=s;obtain ⟨hk,hd,hr⟩:k ≤ h ∧ d.size = n ∧ heapPop ltInt a k d = heapPop ltInt a h d1:=hs;show H _ _ _ [(10,.int .i64 ((k:Int) - 1)),_,_,_,_] f (slc p n c _ 1 (arr d)::F) _
 cases k with
 | zero =>
  rw [← hr];refine gV ?_;exact qaW
 | succ j =>
  refine H.Bk (d:=10) (u:=.int .i64 (j:Int)) rfl (by first | rfl | (congr 1;omega)) ?_;refine qei fun sb hp=>?_;subst hp;refine gV ?_;refine H.drawN (by kernel_rfl) (by decide +kernel) (by repeat (first | exact zac | refine zab ?_ | refine zak ?_ | refine zap ?_)) ?_;refine qdi ?_;refine qhj ?_;refine HN.ar (i:=5) (z:=((a + j:Nat):Int)) (by kernel_rfl) rfl rfl rfl rfl rfl (by rw [wr_i64 (by omega)];omega) rfl ?_;refine qey ?_;refine HQ.Aj (i:=a + j) rfl rfl rfl (by omega) (by omega) rfl ?_;refine qfP ?_;refine qdU ?_;refine qda ?_;refine qdv ?_;refine HB.qu [16] 3 ?_;refine qdU ?_;refine qdg ?_;refine HB.ev 17 ?_;refine qdq ?_;refine HB.qu [18] 1 ?_;refine HQ.Aj (i:=a + j) rfl rfl rfl (by omega) (by omega) rfl ?_;refine qdg ?_;refine HB.ev 19 ?_;refine qdd ?_;show H _ _ _ _ f (slc (some ⟨sb,0,none⟩) n c _ 1 (arr (swp d (a) (a + j)))::_) _;refine gL ?_;refine H.Al rfl rfl rfl (siftDown_fn f F (p:=some ⟨sb,0,none⟩) (c:=c) (lo:=0) (hi:=j) (first:=a) (d0:=swp d a (a + j)) (by rw [zbh];exact hd) hn (by omega) (by omega)) fun v f' A' hR=>?_;obtain ⟨rfl,hff,rfl⟩:=hR;rw [hff];refine gX ?_;exact H.ag (j,siftDown ltInt j a 0 (swp d a (a + j))) ⟨by show j ≤ h;omega,by show (siftDown ltInt j a 0 (swp d a (a + j))).size = n;rw [siftDown_size,zbh];exact hd,hr⟩ (by show j < j + 1;omega)
theorem reverse_fn (hd0:d0.size = n) (hn:n ≤ 1000000) (hab:a < b) (hb:b ≤ n) :
  Fn Tryz.prog 177 [.slice p n c,.int .i64 (a:Int),.int .i64 (b:Int)] f (slc p n c 24 1 (arr d0)::F) (Ret (.tuple #[]) f (slc p n c 24 1 (arr (reverseRange d0 a b))::F)):=by
 obtain ⟨b1,rfl⟩:∃ b1,b = b1 + 1:=⟨b - 1,by omega⟩;refine Fn.e3 Tryz.func177 Tryz.ntmps177 fun base=>?_;refine gX ?_
 refine H.lo (ι:=Nat × Nat × Array Int) (fun s=>[(6,.int .i64 (s.1:Int)),(7,.int .i64 (s.2.1:Int)),(0,.slice p n c)]) (fun _=>f) (fun s=>slc p n c 24 1 (arr s.2.2)::F)
  (fun s=>s.1 ≤ n ∧ s.2.1 < n ∧ s.2.2.size = n ∧ reverseLoop s.1 s.2.1 s.2.2 = reverseRange d0 a (b1 + 1)) (fun s=>s.2.1 - s.1) (a,b1,d0) ⟨by show a ≤ n;omega,by show b1 < n;omega,hd0,rfl⟩ fun s hs=>?_
 obtain ⟨i,j,d⟩:=s;obtain ⟨hi,hj,hd,hr⟩:i ≤ n ∧ j < n ∧ d.size = n ∧ reverseLoop i j d = reverseRange d0 a (b1 + 1):=hs;show H _ _ _ [(6,.int .i64 (i:Int)),(7,.int .i64 (j:Int)),_] f (slc p n c _ 1 (arr d)::F) _;rw [reverseLoop] at hr;by_cases hlt:i < j
 ·rw [if_pos hlt] at hr;refine qei fun sb hp=>?_;subst hp;refine gI ?_;refine H.drawN (by kernel_rfl) (by decide +kernel) (by repeat (first | exact zac | refine zab ?_ | refine zak ?_ | refine zap ?_)) ?_;refine qdy ?_;refine qfR ?_;refine qfP ?_;refine HQ.Aj (i:=i) rfl rfl rfl (by omega) (by omega) rfl ?_;refine qda ?_;refine qdv ?_;refine HB.qu [12] 3 ?_;refine HQ.Aj (i:=i) rfl rfl rfl (by omega) (by omega) rfl ?_;refine qgl ?_;refine qfR ?_;refine qdg ?_;refine HB.ev 15 ?_;refine qdd ?_;show H _ _ _ _ f (slc (some ⟨sb,0,none⟩) n c _ 1 (arr (swp d (i) (j)))::_) _;obtain ⟨j1,rfl⟩:∃ j1,j = j1 + 1:=⟨j - 1,by omega⟩;refine gX ?_;exact H.ag (i + 1,j1,swp d i (j1 + 1)) ⟨by show i + 1 ≤ n;omega,by show j1 < n;omega,by show (swp d i (j1 + 1)).size = n;rw [zbh];exact hd,hr⟩ (by show j1 - (i + 1) < j1 + 1 - i;omega)
 ·rw [if_neg hlt] at hr;rw [← hr];refine gF ?_;exact qaW
end
open Go.Sort (swp ltInt insInner insOuter insertionSort siftDown heapBuild heapPop heapSort reverseLoop reverseRange scanUp scanDown partLoop partEqLoop scanSorted shiftDown shiftUp partialIns partialInsertionSort)
open Go.Sort (partition partitionEqual partLoop_eq partEqLoop_eq partition_fst partition_arr scanUp_spec scanDown_spec)
theorem two_scans (p q:Int→Bool) (hq:∀ x,q x = !p x) (d:Array Int) {i j:Nat} (hi:0 < i) (hij:i ≤ j + 1) :
  i ≤ scanUp p d j i ∧ scanUp p d j i ≤ j + 1 ∧ scanDown q d (scanUp p d j i) j ≤ j ∧ scanUp p d j i ≤ scanDown q d (scanUp p d j i) j + 1 ∧ (scanUp p d j i ≤ scanDown q d (scanUp p d j i) j→scanUp p d j i < scanDown q d (scanUp p d j i) j):=by
 obtain ⟨u1,u2,u3,u4⟩:=scanUp_spec p d j _ i rfl;obtain ⟨v1,v2,v3,v4⟩:=scanDown_spec q d (scanUp p d j i) j;have hu:=u2 hij;refine ⟨u1,hu,v1,v2 hu,fun h=>?_⟩
 have f1:=u4 (by omega);have f2:=v4 (by omega) (by omega)
 rw [hq] at f2;rcases Nat.lt_or_ge (scanUp p d j i) (scanDown q d (scanUp p d j i) j) with h' | h'
 ·exact h'
 ·have e:scanUp p d j i = scanDown q d (scanUp p d j i) j:=by omega
  rw [← e,f1] at f2;cases f2
variable {pivot:Nat}
section
variable (f:Frag) (F:List HP)
def PartP (f:Frag) (F:List HP) (p:Option Addr) (n c k:Nat) (d:Array Int):Value→Frag→List HP→Prop:=fun v f' A'=>∃ ap:Bool,v = .tuple #[.int .i64 (k:Int),.bool ap] ∧ f' = f ∧ A' = slc p n c 24 1 (arr d)::F
theorem partition_fn (hd0:d0.size = n) (hn:n ≤ 1000000) (hap:a ≤ pivot) (hpb:pivot < b) (hb:b ≤ n) :
  Fn Tryz.prog 181 [.slice p n c,.int .i64 (a:Int),.int .i64 (b:Int),.int .i64 (pivot:Int)] f (slc p n c 24 1 (arr d0)::F) (PartP f F p n c (partition ltInt d0 a b pivot).1 (partition ltInt d0 a b pivot).2.2):=by
 rw [partition_arr,partition_fst];refine Fn.e4 Tryz.func181 Tryz.ntmps181 fun base=>?_;refine qgd fun sb hp=>?_;subst hp;refine gL ?_;refine H.drawN (by kernel_rfl) (by decide +kernel) (by repeat (first | exact zac | refine zab ?_ | refine zak ?_ | refine zap ?_)) ?_;refine qfb ?_;have hd:(swp d0 a pivot).size = n:=by rw [zbh];exact hd0
 generalize swp d0 a pivot = d at *;refine gX ?_;obtain ⟨i,hi⟩:∃ i,i = a + 1:=⟨_,rfl⟩;obtain ⟨j,hj⟩:∃ j,j = b - 1:=⟨_,rfl⟩;rw [← hi,← hj];refine H.Bk (d:=11) (u:=.int .i64 (j:Int)) rfl (by first | rfl | (congr 1;omega)) ?_;refine H.Bk (d:=10) (u:=.int .i64 (i:Int)) rfl (by first | rfl | (congr 1;omega)) ?_;obtain ⟨s1,s2,s3,s4,s5⟩:=two_scans (fun x=>ltInt x d[a]!) (fun x=>!ltInt x d[a]!) (fun _=>rfl) d (i:=i) (j:=j) (by omega) (by omega);have heq:=partLoop_eq ltInt a i j d;skip
 refine H.cutB (ι:=Unit) (fun _=>[(10,.int .i64 ((scanUp (fun x=>ltInt x d[a]!) d j i:Nat):Int)),(11,.int .i64 (j:Int)),(0,.slice (some ⟨sb,0,none⟩) n c),(1,.int .i64 (a:Int))]) (fun _=>f) (fun _=>slc (some ⟨sb,0,none⟩) n c 24 1 (arr d)::F) (fun _=>True) _ (fun _ _=>?_) ?_;rotate_left
 ·exact qad
 refine qfv ?_;obtain ⟨i2,hi2⟩:∃ i2,i2 = scanUp (fun x=>ltInt x d[a]!) d j i:=⟨_,rfl⟩;rw [← hi2] at s1 s2 s3 s4 s5 heq ⊢;repeat (first | (apply H.seq) | (apply H.Bm))
 refine H.cutB (ι:=Unit) (fun _=>[(11,.int .i64 ((scanDown (fun x=>!ltInt x d[a]!) d i2 j:Nat):Int)),(10,.int .i64 (i2:Int)),(0,.slice (some ⟨sb,0,none⟩) n c),(1,.int .i64 (a:Int))]) (fun _=>f) (fun _=>slc (some ⟨sb,0,none⟩) n c 24 1 (arr d)::F) (fun _=>True) _ (fun _ _=>?_) ?_;rotate_left
 ·exact qac
 refine qft ?_;obtain ⟨j2,hj2⟩:∃ j2,j2 = scanDown (fun x=>!ltInt x d[a]!) d i2 j:=⟨_,rfl⟩;rw [← hj2] at s3 s4 s5 heq ⊢;by_cases hgt:j2 < i2
 ·rw [if_pos hgt] at heq;rw [heq];refine gI ?_;refine H.drawN (by kernel_rfl) (by decide +kernel) (by repeat (first | exact zac | refine zab ?_ | refine zak ?_ | refine zap ?_)) ?_;refine qdy ?_;refine qdU ?_;refine qfP ?_;refine qfM ?_;refine qda ?_;refine qeL ?_;refine gZ ?_;exact H.Be rfl rfl rfl (fun _ h=>h) ⟨true,rfl,rfl,rfl⟩
 ·have hlt:=s5 (by omega);rw [if_neg hgt] at heq
  rw [heq];refine gF ?_;refine H.drawN (by kernel_rfl) (by decide +kernel) (by repeat (first | exact zac | refine zab ?_ | refine zak ?_ | refine zap ?_)) ?_;refine qem ?_;obtain ⟨j1,hj1⟩:∃ j1,j1 = j2 - 1:=⟨_,rfl⟩;rw [← hj1];have hd1:(swp d i2 j2).size = n:=by rw [zbh];exact hd
  generalize swp d i2 j2 = d1 at *;refine gX ?_;refine H.Bk (d:=11) (u:=.int .i64 (j1:Int)) rfl (by first | rfl | (congr 1;omega)) ?_
  refine H.lo (ι:=Nat × Nat × Array Int) (fun s=>[(10,.int .i64 (s.1:Int)),(11,.int .i64 (s.2.1:Int)),(0,.slice (some ⟨sb,0,none⟩) n c),(1,.int .i64 (a:Int))]) (fun _=>f) (fun s=>slc (some ⟨sb,0,none⟩) n c 24 1 (arr s.2.2)::F)
   (fun s=>0 < s.1 ∧ s.1 ≤ s.2.1 + 1 ∧ s.2.1 < n ∧ s.2.2.size = n ∧ partLoop ltInt a s.1 s.2.1 s.2.2 = partLoop ltInt a (i2 + 1) j1 d1) (fun s=>s.2.1 + 1 - s.1) (i2 + 1,j1,d1) ⟨by show 0 < i2 + 1;omega,by show i2 + 1 ≤ j1 + 1;omega,by show j1 < n;omega,hd1,rfl⟩ fun s hs=>?_
  clear s1 s2 s3 s4 s5 heq hi2 hj2 hgt hlt;obtain ⟨i,j,d⟩:=s;obtain ⟨h0,hij,hjn,hd,hr⟩:0 < i ∧ i ≤ j + 1 ∧ j < n ∧ d.size = n ∧ partLoop ltInt a i j d = partLoop ltInt a (i2 + 1) j1 d1:=hs;rw [← hr];clear hr;show H _ _ _ [(10,.int .i64 (i:Int)),(11,.int .i64 (j:Int)),_,_] f (slc (some ⟨sb,0,none⟩) n c _ 1 (arr d)::F) _;clear hj1 hd1;obtain ⟨s1,s2,s3,s4,s5⟩:=two_scans (fun x=>ltInt x d[a]!) (fun x=>!ltInt x d[a]!) (fun _=>rfl) d (i:=i) (j:=j) h0 hij;have heq:=partLoop_eq ltInt a i j d;repeat (first | (apply H.seq) | (apply H.Bm))
  refine H.cutB (ι:=Unit) (fun _=>[(10,.int .i64 ((scanUp (fun x=>ltInt x d[a]!) d j i:Nat):Int)),(11,.int .i64 (j:Int)),(0,.slice (some ⟨sb,0,none⟩) n c),(1,.int .i64 (a:Int))]) (fun _=>f) (fun _=>slc (some ⟨sb,0,none⟩) n c 24 1 (arr d)::F) (fun _=>True) _ (fun _ _=>?_) ?_;rotate_left
  ·exact qad
  refine qfv ?_;obtain ⟨i2,hi2⟩:∃ i2,i2 = scanUp (fun x=>ltInt x d[a]!) d j i:=⟨_,rfl⟩;rw [← hi2] at s1 s2 s3 s4 s5 heq ⊢;repeat (first | (apply H.seq) | (apply H.Bm))
  refine H.cutB (ι:=Unit) (fun _=>[(11,.int .i64 ((scanDown (fun x=>!ltInt x d[a]!) d i2 j:Nat):Int)),(10,.int .i64 (i2:Int)),(0,.slice (some ⟨sb,0,none⟩) n c),(1,.int .i64 (a:Int))]) (fun _=>f) (fun _=>slc (some ⟨sb,0,none⟩) n c 24 1 (arr d)::F) (fun _=>True) _ (fun _ _=>?_) ?_;rotate_left
  ·exact qac
  refine qft ?_;obtain ⟨j2,hj2⟩:∃ j2,j2 = scanDown (fun x=>!ltInt x d[a]!) d i2 j:=⟨_,rfl⟩;rw [← hj2] at s3 s4 s5 heq ⊢;by_cases hgt:j2 < i2
  ·rw [if_pos hgt] at heq;rw [heq];refine gO ?_;refine H.drawN (by kernel_rfl) (by decide +kernel) (by repeat (first | exact zac | refine zab ?_ | refine zak ?_ | refine zap ?_)) ?_;refine qdy ?_;refine qdU ?_;refine qfP ?_;refine qfM ?_;refine qda ?_;refine qeL ?_;refine gZ ?_;exact H.Be rfl rfl rfl (fun _ h=>h) ⟨false,rfl,rfl,rfl⟩
  ·have hlt:=s5 (by omega);rw [if_neg hgt] at heq
   refine gF ?_;refine H.drawN (by kernel_rfl) (by decide +kernel) (by repeat (first | exact zac | refine zab ?_ | refine zak ?_ | refine zap ?_)) ?_;refine qem ?_;obtain ⟨j1,rfl⟩:∃ j1,j2 = j1 + 1:=⟨j2 - 1,by omega⟩;refine gX ?_;exact H.ag (i2 + 1,j1,swp d i2 (j1 + 1)) ⟨by show 0 < i2 + 1;omega,by show i2 + 1 ≤ j1 + 1;omega,by show j1 < n;omega,by show (swp d i2 (j1 + 1)).size = n;rw [zbh];exact hd,heq.symm⟩ (by show j1 + 1 - (i2 + 1) < j + 1 - i;omega)
theorem partEq_fn (hd0:d0.size = n) (hn:n ≤ 1000000) (hap:a ≤ pivot) (hpb:pivot < b) (hb:b ≤ n) :
  Fn Tryz.prog 180 [.slice p n c,.int .i64 (a:Int),.int .i64 (b:Int),.int .i64 (pivot:Int)] f (slc p n c 24 1 (arr d0)::F) (Ret (.int .i64 ((partitionEqual ltInt d0 a b pivot).1:Nat)) f (slc p n c 24 1 (arr (partitionEqual ltInt d0 a b pivot).2)::F)):=by
 unfold partitionEqual;refine Fn.e4 Tryz.func180 Tryz.ntmps180 fun base=>?_;refine qgd fun sb hp=>?_;subst hp;refine gL ?_;refine H.drawN (by kernel_rfl) (by decide +kernel) (by repeat (first | exact zac | refine zab ?_ | refine zak ?_ | refine zap ?_)) ?_;refine qfb ?_;have hd:(swp d0 a pivot).size = n:=by rw [zbh];exact hd0
 generalize swp d0 a pivot = d1 at *;obtain ⟨j1,hj1⟩:∃ j1,j1 = b - 1:=⟨_,rfl⟩;rw [← hj1];refine gX ?_;refine H.Bk (d:=10) (u:=.int .i64 (j1:Int)) rfl (by first | rfl | (congr 1;omega)) ?_
 refine H.lo (ι:=Nat × Nat × Array Int) (fun s=>[(9,.int .i64 (s.1:Int)),(10,.int .i64 (s.2.1:Int)),(0,.slice (some ⟨sb,0,none⟩) n c),(1,.int .i64 (a:Int))]) (fun _=>f) (fun s=>slc (some ⟨sb,0,none⟩) n c 24 1 (arr s.2.2)::F)
  (fun s=>0 < s.1 ∧ s.1 ≤ s.2.1 + 1 ∧ s.2.1 < n ∧ s.2.2.size = n ∧ partEqLoop ltInt a s.1 s.2.1 s.2.2 = partEqLoop ltInt a (a + 1) j1 d1) (fun s=>s.2.1 + 1 - s.1) (a + 1,j1,d1) ⟨by show 0 < a + 1;omega,by show a + 1 ≤ j1 + 1;omega,by show j1 < n;omega,hd,rfl⟩ fun s hs=>?_
 clear hd;obtain ⟨i,j,d⟩:=s;obtain ⟨h0,hij,hjn,hd,hr⟩:0 < i ∧ i ≤ j + 1 ∧ j < n ∧ d.size = n ∧ partEqLoop ltInt a i j d = partEqLoop ltInt a (a + 1) j1 d1:=hs;rw [← hr];clear hr;show H _ _ _ [(9,.int .i64 (i:Int)),(10,.int .i64 (j:Int)),_,_] f (slc (some ⟨sb,0,none⟩) n c _ 1 (arr d)::F) _;obtain ⟨s1,s2,s3,s4,s5⟩:=two_scans (fun x=>!ltInt d[a]! x) (fun x=>ltInt d[a]! x) (fun x=>by simp) d (i:=i) (j:=j) h0 hij;have heq:=partEqLoop_eq ltInt a i j d;repeat (first | (apply H.seq) | (apply H.Bm))
 refine H.cutB (ι:=Unit) (fun _=>[(9,.int .i64 ((scanUp (fun x=>!ltInt d[a]! x) d j i:Nat):Int)),(10,.int .i64 (j:Int)),(0,.slice (some ⟨sb,0,none⟩) n c),(1,.int .i64 (a:Int))]) (fun _=>f) (fun _=>slc (some ⟨sb,0,none⟩) n c 24 1 (arr d)::F) (fun _=>True) _ (fun _ _=>?_) ?_;rotate_left
 ·skip;refine H.lo (ι:=Nat) (fun x=>[(9,.int .i64 (x:Int)),(10,.int .i64 (j:Int)),(0,.slice (some ⟨sb,0,none⟩) n c),(1,.int .i64 (a:Int))]) (fun _=>f) (fun _=>slc (some ⟨sb,0,none⟩) n c 24 1 (arr d)::F) (fun x=>x ≤ j + 1 ∧ scanUp (fun x=>!ltInt d[a]! x) d j x = scanUp (fun x=>!ltInt d[a]! x) d j i) (fun x=>j + 1 - x) i ⟨by show i ≤ j + 1;omega,rfl⟩ fun x hx=>?_;obtain ⟨hx,hs⟩:x ≤ j + 1 ∧ scanUp (fun x=>!ltInt d[a]! x) d j x = scanUp (fun x=>!ltInt d[a]! x) d j i:=hx;show H _ _ _ [(9,.int .i64 (x:Int)),_,_,_] f (slc (some ⟨sb,0,none⟩) n c _ 1 (arr d)::F) _;rw [scanUp] at hs;by_cases hxj:x ≤ j
  ·skip;refine qfX ?_;refine HB.qu [0,1,2,3,4,5,6,7,8,9,10,11] 3 ?_;refine gW ?_;refine qdU ?_;refine qfP ?_;refine HQ.Aj (i:=x) rfl rfl rfl (by omega) (by omega) rfl ?_;refine qda ?_;refine qgz ?_;refine H.Ag rfl rfl rfl (zcb f _ d[a]! d[x]!) ?_;refine qcX ?_;refine HB.qu [13,14] 0 ?_;refine qdo ?_
   cases hl:ltInt d[a]! d[x]! with
   | false =>
    rw [if_pos (by rw [decide_eq_true hxj,hl];rfl)] at hs;refine gJ ?_;exact H.ag (x + 1) ⟨by show x + 1 ≤ j + 1;omega,hs⟩ (by show j + 1 - (x + 1) < j + 1 - x;omega)
   | true =>
    rw [if_neg (by rw [hl,decide_eq_true hxj];decide)] at hs;exact qbn
  ·skip;rw [if_neg (by rw [decide_eq_false hxj,Bool.false_and];decide)] at hs;refine qfX ?_;refine qgI ?_;exact qbn
 show H _ _ _ [(9,.int .i64 ((scanUp (fun x=>!ltInt d[a]! x) d j i:Nat):Int)),(10,.int .i64 (j:Int)),(0,.slice (some ⟨sb,0,none⟩) n c),(1,.int .i64 (a:Int))] f (slc (some ⟨sb,0,none⟩) n c _ 1 (arr d)::F) _;obtain ⟨i2,hi2⟩:∃ i2,i2 = scanUp (fun x=>!ltInt d[a]! x) d j i:=⟨_,rfl⟩;rw [← hi2] at s1 s2 s3 s4 s5 heq ⊢;repeat (first | (apply H.seq) | (apply H.Bm))
 refine H.cutB (ι:=Unit) (fun _=>[(10,.int .i64 ((scanDown (fun x=>ltInt d[a]! x) d i2 j:Nat):Int)),(9,.int .i64 (i2:Int)),(0,.slice (some ⟨sb,0,none⟩) n c),(1,.int .i64 (a:Int))]) (fun _=>f) (fun _=>slc (some ⟨sb,0,none⟩) n c 24 1 (arr d)::F) (fun _=>True) _ (fun _ _=>?_) ?_;rotate_left
 ·skip;refine H.lo (ι:=Nat) (fun x=>[(10,.int .i64 (x:Int)),(9,.int .i64 (i2:Int)),(0,.slice (some ⟨sb,0,none⟩) n c),(1,.int .i64 (a:Int))]) (fun _=>f) (fun _=>slc (some ⟨sb,0,none⟩) n c 24 1 (arr d)::F) (fun x=>x ≤ j ∧ scanDown (fun x=>ltInt d[a]! x) d i2 x = scanDown (fun x=>ltInt d[a]! x) d i2 j) (fun x=>x) j ⟨Nat.le_refl j,rfl⟩ fun x hx=>?_;obtain ⟨hx,hs⟩:x ≤ j ∧ scanDown (fun x=>ltInt d[a]! x) d i2 x = scanDown (fun x=>ltInt d[a]! x) d i2 j:=hx;show H _ _ _ [(10,.int .i64 (x:Int)),_,_,_] f (slc (some ⟨sb,0,none⟩) n c _ 1 (arr d)::F) _;by_cases hxj:i2 ≤ x
  ·skip;obtain ⟨y,rfl⟩:∃ y,x = y + 1:=⟨x - 1,by omega⟩;rw [scanDown] at hs;refine qfX ?_;refine HB.qu [0,1,2,3,4,5,6,7,8,9,10,11] 2 ?_;refine gW ?_;refine qdU ?_;refine qfP ?_;refine qfD ?_;refine qda ?_;refine qgz ?_;refine H.Ag rfl rfl rfl (zcb f _ d[a]! d[y + 1]!) ?_;refine qcX ?_;refine HB.qu [13] 0 ?_;refine qdo ?_
   cases hl:ltInt d[a]! d[y + 1]! with
   | false =>
    rw [if_neg (by rw [hl,decide_eq_true hxj];decide)] at hs;exact qbn
   | true =>
    rw [if_pos (by rw [decide_eq_true hxj,hl];rfl)] at hs;refine gJ ?_;exact H.ag y ⟨by show y ≤ j;omega,hs⟩ (by show y < y + 1;omega)
  ·skip
   have hs:x = scanDown (fun x=>ltInt d[a]! x) d i2 j:=by
    rw [← hs]
    cases x with
    | zero=>rfl
    | succ y=>rw [scanDown,if_neg (by rw [decide_eq_false hxj,Bool.false_and];decide)]
   refine qfX ?_;refine HB.qu [0,1,2,3,4,5,6,7,8,9,10,11] 2 ?_;refine qez ?_;refine HB.ev 12 ?_;refine qfB ?_;refine HB.qu [13] 0 ?_;refine qdo ?_;exact qbn
 show H _ _ _ [(10,.int .i64 ((scanDown (fun x=>ltInt d[a]! x) d i2 j:Nat):Int)),(9,.int .i64 (i2:Int)),(0,.slice (some ⟨sb,0,none⟩) n c),(1,.int .i64 (a:Int))] f (slc (some ⟨sb,0,none⟩) n c _ 1 (arr d)::F) _;obtain ⟨j2,hj2⟩:∃ j2,j2 = scanDown (fun x=>ltInt d[a]! x) d i2 j:=⟨_,rfl⟩;rw [← hj2] at s3 s4 s5 heq ⊢;by_cases hgt:j2 < i2
 ·rw [if_pos hgt] at heq;rw [heq];refine gO ?_;exact qap
 ·have hlt:=s5 (by omega);rw [if_neg hgt] at heq
  refine gF ?_;refine H.drawN (by kernel_rfl) (by decide +kernel) (by repeat (first | exact zac | refine zab ?_ | refine zak ?_ | refine zap ?_)) ?_;refine qem ?_;obtain ⟨j3,rfl⟩:∃ j3,j2 = j3 + 1:=⟨j2 - 1,by omega⟩;refine gX ?_;exact H.ag (i2 + 1,j3,swp d i2 (j3 + 1)) ⟨by show 0 < i2 + 1;omega,by show i2 + 1 ≤ j3 + 1;omega,by show j3 < n;omega,by show (swp d i2 (j3 + 1)).size = n;rw [zbh];exact hd,heq.symm⟩ (by show j3 + 1 - (i2 + 1) < j + 1 - i;omega)
end
open Go.Sort (swp ltInt insInner insOuter insertionSort siftDown heapBuild heapPop heapSort reverseLoop reverseRange scanUp scanDown partLoop partEqLoop scanSorted shiftDown shiftUp partialIns partialInsertionSort)
open Go.Sort (partialIns_succ fixDown fixUp)
theorem shiftDown_size:∀ (j:Nat) (d:Array Int),(shiftDown ltInt j d).size = d.size
 | 0,d=>rfl
 | j + 1, d => by
  rw [shiftDown]
  split
  ·rfl
  ·rw [shiftDown_size j,zbh]
theorem shiftUp_size (b:Nat):∀ (m j:Nat) (d:Array Int),b - j ≤ m→(shiftUp ltInt b j d).size = d.size
 | 0,j,d,h=>by rw [shiftUp,if_neg (by omega)]
 | m + 1, j, d, h => by
  rw [shiftUp]
  split
  ·split
   ·rfl
   ·rw [shiftUp_size b m (j + 1) _ (by omega),zbh]
  ·rfl
theorem scanSorted_rng (d:Array Int) (b:Nat):∀ (m i:Nat),b - i ≤ m→i ≤ b→i ≤ scanSorted ltInt d b i ∧ scanSorted ltInt d b i ≤ b
 | 0,i,h,hi=>by rw [scanSorted,if_neg (by rw [decide_eq_false (by omega),Bool.false_and];decide)];omega
 | m + 1, i, h, hi => by
  rw [scanSorted]
  split
  ·rename_i hc
   rw [Bool.and_eq_true] at hc
   have h1:=of_decide_eq_true hc.1
   have:=scanSorted_rng d b m (i + 1) (by omega) (by omega)
   omega
  ·omega
section
variable (f:Frag) (F:List HP)
theorem partIns_fn (hd0:d0.size = n) (hn:n ≤ 1000000) (hab:a < b) (hb:b ≤ n) :
  Fn Tryz.prog 178 [.slice p n c,.int .i64 (a:Int),.int .i64 (b:Int)] f (slc p n c 24 1 (arr d0)::F) (Ret (.bool (partialInsertionSort ltInt d0 a b).2) f (slc p n c 24 1 (arr (partialInsertionSort ltInt d0 a b).1)::F)):=by
 obtain ⟨R,hR⟩:∃ R,partialInsertionSort ltInt d0 a b = R:=⟨_,rfl⟩;have hR:partialIns ltInt a b 5 (a + 1) d0 = R:=hR;have hR2:partialInsertionSort ltInt d0 a b = R:=hR
 rw [hR2];clear hR2;refine Fn.e3 Tryz.func178 Tryz.ntmps178 fun base=>?_;refine qgd fun sb hp=>?_;subst hp;refine gX ?_
 refine H.lo (ι:=Nat × Nat × Array Int) (fun s=>[(8,.int .i64 (s.1:Int)),(7,.int .i64 (s.2.1:Int)),(0,.slice (some ⟨sb,0,none⟩) n c),(1,.int .i64 (a:Int)),(2,.int .i64 (b:Int))]) (fun _=>f) (fun s=>slc (some ⟨sb,0,none⟩) n c 24 1 (arr s.2.2)::F)
  (fun s=>s.1 ≤ 5 ∧ a + 1 ≤ s.2.1 ∧ s.2.1 ≤ b ∧ s.2.2.size = n ∧ partialIns ltInt a b (5 - s.1) s.2.1 s.2.2 = R) (fun s=>5 - s.1) (0,a + 1,d0) ⟨Nat.zero_le _,Nat.le_refl _,by show a + 1 ≤ b;omega,hd0,hR⟩ fun s hs=>?_
 clear hR hd0;obtain ⟨t,i,d⟩:=s;obtain ⟨ht,hai,hib,hd,hr⟩:t ≤ 5 ∧ a + 1 ≤ i ∧ i ≤ b ∧ d.size = n ∧ partialIns ltInt a b (5 - t) i d = R:=hs;show H _ _ _ [(8,.int .i64 (t:Int)),(7,.int .i64 (i:Int)),_,_,_] f (slc (some ⟨sb,0,none⟩) n c _ 1 (arr d)::F) _;by_cases ht5:t < 5
 ·obtain ⟨s,hs5⟩:∃ s,5 - t = s + 1:=⟨5 - t - 1,by omega⟩;rw [hs5,partialIns_succ] at hr;have hrng:=scanSorted_rng d b _ i (Nat.le_refl _) hib;repeat (first | ((apply H.Ap);(iterate 3 exact rfl)) | (first | apply H.seq | apply H.Bf | apply H.nil | apply H.Bh) | ((apply H.cmp);(iterate 5 exact rfl)) | (first | apply H.skip | apply H.Bm) | (apply H.Ci;exact rfl;(omega)))
  refine H.cutB (ι:=Unit) (fun _=>[(7,.int .i64 ((scanSorted ltInt d b i:Nat):Int)),(8,.int .i64 (t:Int)),(0,.slice (some ⟨sb,0,none⟩) n c),(1,.int .i64 (a:Int)),(2,.int .i64 (b:Int))]) (fun _=>f) (fun _=>slc (some ⟨sb,0,none⟩) n c 24 1 (arr d)::F) (fun _=>True) _ (fun _ _=>?_) ?_;rotate_left
  ·refine H.lo (ι:=Nat) (fun x=>[(7,.int .i64 (x:Int)),(8,.int .i64 (t:Int)),(0,.slice (some ⟨sb,0,none⟩) n c),(1,.int .i64 (a:Int)),(2,.int .i64 (b:Int))]) (fun _=>f) (fun _=>slc (some ⟨sb,0,none⟩) n c 24 1 (arr d)::F) (fun x=>a + 1 ≤ x ∧ x ≤ b ∧ scanSorted ltInt d b x = scanSorted ltInt d b i) (fun x=>b - x) i ⟨hai,hib,rfl⟩ fun x hx=>?_;obtain ⟨hx1,hx2,hs⟩:a + 1 ≤ x ∧ x ≤ b ∧ scanSorted ltInt d b x = scanSorted ltInt d b i:=hx;obtain ⟨y,rfl⟩:∃ y,x = y + 1:=⟨x - 1,by omega⟩;show H _ _ _ [(7,.int .i64 ((y + 1:Nat):Int)),_,_,_,_] f (slc (some ⟨sb,0,none⟩) n c _ 1 (arr d)::F) _;rw [scanSorted] at hs;by_cases hxb:y + 1 < b
   ·refine qfX ?_;refine HB.qu [0,1,2,3,4,5,6,7,8,9,10,11,12] 3 ?_;refine gW ?_;refine qfD ?_;refine qda ?_;refine gW ?_;refine qgR ?_;refine qda ?_;refine qdg ?_;refine HB.ev 13 ?_;refine H.Ag rfl rfl rfl (zcb f _ d[y + 1]! d[y]!) ?_;refine qcX ?_;refine HB.qu [14,15] 0 ?_;refine qdo ?_;have hyy:y + 1 - 1 = y:=rfl;rw [hyy] at hs
    cases hl:ltInt d[y + 1]! d[y]! with
    | false =>
     rw [if_pos (by rw [decide_eq_true hxb,hl];rfl)] at hs;refine gJ ?_;exact H.ag (y + 1 + 1) ⟨by show a + 1 ≤ y + 1 + 1;omega,by show y + 1 + 1 ≤ b;omega,hs⟩ (by show b - (y + 1 + 1) < b - (y + 1);omega)
    | true =>
     rw [if_neg (by rw [decide_eq_true hxb,hl];decide)] at hs;exact qcM
   ·rw [if_neg (by rw [decide_eq_false hxb,Bool.false_and];decide)] at hs;refine qfX ?_;refine HB.qu [0,1,2,3,4,5,6,7,8,9,10,11,12] 3 ?_;refine qez ?_;refine HB.ev 13 ?_;refine qfB ?_;refine HB.qu [14,15] 0 ?_;refine qdo ?_;exact qcM
  show H _ _ _ [(7,.int .i64 ((scanSorted ltInt d b i:Nat):Int)),(8,.int .i64 (t:Int)),(0,.slice (some ⟨sb,0,none⟩) n c),(1,.int .i64 (a:Int)),(2,.int .i64 (b:Int))] f (slc (some ⟨sb,0,none⟩) n c _ 1 (arr d)::F) _;generalize scanSorted ltInt d b i = i2 at *;by_cases heb:i2 = b
  ·rw [if_pos heb] at hr;subst hr;refine gI ?_;exact qap
  ·rw [if_neg heb] at hr;by_cases h50 : b - a < 50
   ·rw [if_pos h50] at hr;subst hr;refine gQ ?_;exact qap
   ·rw [if_neg h50] at hr;obtain ⟨k, rfl⟩ : ∃ k, i2 = k + 1 := ⟨i2 - 1, by omega⟩;refine gO ?_;refine H.drawN (by kernel_rfl) (by decide +kernel) (by repeat (first | exact zac | refine zab ?_ | refine zak ?_ | refine zap ?_)) ?_;refine qdi ?_;refine HN.ar (i := 4) (z := ((k : Nat) : Int)) (by kernel_rfl) rfl rfl rfl rfl rfl (by rw [wr_i64 (by omega)]; omega) rfl ?_;refine qeF ?_;refine HQ.Aj (i := k) rfl rfl rfl (by omega) (by omega) rfl ?_;refine qfP ?_;refine HQ.Aj (i := k + 1) rfl rfl rfl (by omega) (by omega) rfl ?_;refine qda ?_;refine qdv ?_;refine HB.qu [14] 3 ?_;refine HQ.Aj (i := k + 1) rfl rfl rfl (by omega) (by omega) rfl ?_;refine qhn ?_;refine HQ.Aj (i := k) rfl rfl rfl (by omega) (by omega) rfl ?_;refine qdg ?_;refine HB.ev 17 ?_;refine qdd ?_;show H _ _ _ _ f (slc (some ⟨sb, 0, none⟩) n c _ 1 (arr (swp d (k + 1) (k))) :: _) _;have hkk : k + 1 - 1 = k := rfl;rw [hkk] at hr
    have hd1:(swp d (k + 1) k).size = n:=by rw [zbh];exact hd
    generalize swp d (k + 1) k = d1 at *;refine qfl ?_;refine H.cut (ι:=Unit) (fun _=>[(7,.int .i64 ((k + 1:Nat):Int)),(8,.int .i64 (t:Int)),(0,.slice (some ⟨sb,0,none⟩) n c),(1,.int .i64 (a:Int)),(2,.int .i64 (b:Int))]) (fun _=>f) (fun _=>slc (some ⟨sb,0,none⟩) n c 24 1 (arr (fixDown ltInt a (k + 1) d1))::F) (fun _=>True) _ (fun _ _=>?_) ?_;rotate_left
    ·unfold fixDown;by_cases h2:k + 1 - a ≥ 2
     ·rw [if_pos h2,hkk];refine gO ?_
      refine H.lo (ι:=Nat × Array Int) (fun s=>[(9,.int .i64 (s.1:Int)),(7,.int .i64 ((k + 1:Nat):Int)),(8,.int .i64 (t:Int)),(0,.slice (some ⟨sb,0,none⟩) n c),(1,.int .i64 (a:Int)),(2,.int .i64 (b:Int))]) (fun _=>f) (fun s=>slc (some ⟨sb,0,none⟩) n c 24 1 (arr s.2)::F)
       (fun s=>s.1 ≤ k ∧ s.2.size = n ∧ shiftDown ltInt s.1 s.2 = shiftDown ltInt k d1) (fun s=>s.1) (k,d1) ⟨Nat.le_refl k,hd1,rfl⟩ fun s hs=>?_
      obtain ⟨x,d⟩:=s;obtain ⟨hx,hd,hs⟩:x ≤ k ∧ d.size = n ∧ shiftDown ltInt x d = shiftDown ltInt k d1:=hs;show H _ _ _ [(9,.int .i64 (x:Int)),_,_,_,_,_] f (slc (some ⟨sb,0,none⟩) n c _ 1 (arr d)::F) _
      cases x with
      | zero =>
       rw [← hs];refine gV ?_;exact qbj
      | succ y =>
       rw [shiftDown] at hs;refine gI ?_;refine qdC ?_;refine qee ?_;refine qdo ?_
       cases hl:ltInt d[y + 1]! d[y]! with
       | false =>
        exact qcF
       | true =>
        rw [hl,if_neg (by decide)] at hs;refine gX ?_;refine H.drawN (by kernel_rfl) (by decide +kernel) (by repeat (first | exact zac | refine zab ?_ | refine zak ?_ | refine zap ?_)) ?_;refine qej ?_;exact H.ag (y,swp d (y + 1) y) ⟨by show y ≤ k;omega,by show (swp d (y + 1) y).size = n;rw [zbh];exact hd,hs⟩ (by show y < y + 1;omega)
     ·rw [if_neg h2];refine gF ?_;exact qbj
    have hd2:(fixDown ltInt a (k + 1) d1).size = n:=by
     unfold fixDown;split
     ·rw [shiftDown_size];exact hd1
     ·exact hd1
    generalize fixDown ltInt a (k + 1) d1 = d2 at *;show H _ _ _ [(7,.int .i64 ((k + 1:Nat):Int)),(8,.int .i64 (t:Int)),(0,.slice (some ⟨sb,0,none⟩) n c),(1,.int .i64 (a:Int)),(2,.int .i64 (b:Int))] f (slc (some ⟨sb,0,none⟩) n c _ 1 (arr d2)::F) _;refine qfl ?_;refine H.cutB (ι:=Unit) (fun _=>[(7,.int .i64 ((k + 1:Nat):Int)),(8,.int .i64 (t:Int)),(0,.slice (some ⟨sb,0,none⟩) n c),(1,.int .i64 (a:Int)),(2,.int .i64 (b:Int))]) (fun _=>f) (fun _=>slc (some ⟨sb,0,none⟩) n c 24 1 (arr (fixUp ltInt b (k + 1) d2))::F) (fun _=>True) _ (fun _ _=>?_) ?_;rotate_left
    ·unfold fixUp;by_cases h2:b - (k + 1) ≥ 2
     ·rw [if_pos h2];refine gO ?_
      refine H.lo (ι:=Nat × Array Int) (fun s=>[(10,.int .i64 ((s.1 + 1:Nat):Int)),(7,.int .i64 ((k + 1:Nat):Int)),(8,.int .i64 (t:Int)),(0,.slice (some ⟨sb,0,none⟩) n c),(1,.int .i64 (a:Int)),(2,.int .i64 (b:Int))]) (fun _=>f) (fun s=>slc (some ⟨sb,0,none⟩) n c 24 1 (arr s.2)::F)
       (fun s=>s.1 + 1 ≤ b ∧ s.2.size = n ∧ shiftUp ltInt b (s.1 + 1) s.2 = shiftUp ltInt b (k + 1 + 1) d2) (fun s=>b - s.1) (k + 1,d2) ⟨by show k + 1 + 1 ≤ b;omega,hd2,rfl⟩ fun s hs=>?_
      obtain ⟨y,d⟩:=s;obtain ⟨hx,hd,hs⟩:y + 1 ≤ b ∧ d.size = n ∧ shiftUp ltInt b (y + 1) d = shiftUp ltInt b (k + 1 + 1) d2:=hs;show H _ _ _ [(10,.int .i64 ((y + 1:Nat):Int)),_,_,_,_,_] f (slc (some ⟨sb,0,none⟩) n c _ 1 (arr d)::F) _;rw [shiftUp] at hs;by_cases hyb:y + 1 < b
      ·rw [if_pos hyb,show y + 1 - 1 = y from rfl] at hs;refine gI ?_;refine qdC ?_;refine qee ?_;refine qdo ?_
       cases hl:ltInt d[y + 1]! d[y]! with
       | false =>
        exact qcF
       | true =>
        rw [hl,if_neg (by decide)] at hs;refine gX ?_;refine H.drawN (by kernel_rfl) (by decide +kernel) (by repeat (first | exact zac | refine zab ?_ | refine zak ?_ | refine zap ?_)) ?_;refine qej ?_;exact H.ag (y + 1,swp d (y + 1) y) ⟨by show y + 1 + 1 ≤ b;omega,by show (swp d (y + 1) y).size = n;rw [zbh];exact hd,hs⟩ (by show b - (y + 1) < b - y;omega)
      ·rw [if_neg hyb] at hs;rw [← hs];refine gF ?_;exact qbj
     ·rw [if_neg h2];refine gF ?_;exact qbj
    have hd3:(fixUp ltInt b (k + 1) d2).size = n:=by
     unfold fixUp;split
     ·rw [shiftUp_size b _ _ _ (Nat.le_refl _)];exact hd2
     ·exact hd2
    generalize fixUp ltInt b (k + 1) d2 = d3 at *;show H _ _ _ [(7,.int .i64 ((k + 1:Nat):Int)),(8,.int .i64 (t:Int)),(0,.slice (some ⟨sb,0,none⟩) n c),(1,.int .i64 (a:Int)),(2,.int .i64 (b:Int))] f (slc (some ⟨sb,0,none⟩) n c _ 1 (arr d3)::F) _;refine gX ?_;exact H.ag (t + 1,k + 1,d3) ⟨by show t + 1 ≤ 5;omega,by show a + 1 ≤ k + 1;omega,by show k + 1 ≤ b;omega,hd3,by show partialIns ltInt a b (5 - (t + 1)) (k + 1) d3 = R;rw [show 5 - (t + 1) = s by omega];exact hr⟩ (by show 5 - (t + 1) < 5 - t;omega)
 ·rw [show 5 - t = 0 by omega] at hr;have hr:(d,false) = R:=hr;subst hr
  refine gF ?_;exact qap
end
open Go.Sort (swp ltInt insInner insOuter insertionSort siftDown heapBuild heapPop heapSort reverseLoop reverseRange scanUp scanDown partLoop partEqLoop scanSorted shiftDown shiftUp partialIns partialInsertionSort)
open Go.Sort (bitsLen PermIn swp_permIn permIn_trans permIn_refl)
theorem tab8:∀ i:Fin 256,Lib.len8tab[i.val]? = some (UInt8.ofNat (bitsLen i.val)) ∧ i.val < 2 ^ bitsLen i.val ∧ (8 ≤ i.val→2 ^ bitsLen i.val ≤ 2 * i.val) ∧ bitsLen i.val ≤ 8:=by decide +kernel
theorem and_le (x:Int) {m:Nat} (hm:m ≤ 511):0 ≤ IntKind.wrap .u64 ((BitVec.ofInt IntKind.u64.bits x &&& BitVec.ofInt IntKind.u64.bits (m:Int)).toNat:Nat) ∧ IntKind.wrap .u64 ((BitVec.ofInt IntKind.u64.bits x &&& BitVec.ofInt IntKind.u64.bits (m:Int)).toNat:Nat) ≤ (m:Int):=by
 have h1:(BitVec.ofInt IntKind.u64.bits x &&& BitVec.ofInt IntKind.u64.bits (m:Int)).toNat ≤ m:=by
  rw [BitVec.toNat_and];refine Nat.le_trans Nat.and_le_right ?_;rw [BitVec.ofInt_natCast,BitVec.toNat_ofNat];exact Nat.mod_le _ _
 rw [wr_u64 (by omega)];omega
variable {x:Nat}
section
variable (f:Frag) (F:List HP)
theorem len64_fn (hx:x < 256):Fn Tryz.prog 163 [.int .u64 (x:Int)] f F (Ret (.int .i64 (bitsLen x:Nat)) f F):=by
 have ht:=tab8 ⟨x,hx⟩
 have hb:(UInt8.ofNat (bitsLen x)).toNat = bitsLen x:=by
  have:=ht.2.2.2;have:bitsLen x ≤ 8:=this
  exact qcu
 have hb8:bitsLen x ≤ 8:=ht.2.2.2;refine Fn.e1 Tryz.func163 Tryz.ntmps163 fun base=>?_
 refine gO ?_;refine H.indexS (s:=Lib.len8tab) (i:=x) rfl (by kernel_rfl) rfl rfl ht.1 rfl ?_;rw [hb];refine gX ?_;refine H.Ad rfl rfl (fun _ h=>h) ⟨?_,rfl,rfl⟩;first | rfl | (congr 1;omega)
theorem len_fn (hx:x < 256):Fn Tryz.prog 111 [.int .u64 (x:Int)] f F (Ret (.int .i64 (bitsLen x:Nat)) f F):=by
 have h:=fun G=>len64_fn f G hx;refine Fn.e1 Tryz.func111 Tryz.ntmps111 fun base=>?_
 refine gX ?_;refine H.cr (h _) ?_;refine gZ ?_;exact qap
theorem npow_fn (hx:x < 256):Fn Tryz.prog 220 [.int .i64 (x:Int)] f F (Ret (.int .u64 ((2 ^ bitsLen x:Nat):Int)) f F):=by
 have h:=fun G=>len_fn f G hx;have hb8:bitsLen x ≤ 8:=(tab8 ⟨x,hx⟩).2.2.2
 have hp:2 ^ bitsLen x ≤ 2 ^ 8:=Nat.pow_le_pow_right (by decide) hb8
 have e:IntKind.wrap .u64 ((1:Int) * 2 ^ (min ((bitsLen x:Nat):Int).toNat IntKind.u64.bits)) = ((2 ^ bitsLen x:Nat):Int):=by
  have e1:min ((bitsLen x:Nat):Int).toNat IntKind.u64.bits = bitsLen x:=by
   rw [Int.toNat_natCast];exact Nat.min_eq_left (by show _ ≤ 64;omega)
  have e2:((2 ^ bitsLen x:Nat):Int) = (2:Int) ^ bitsLen x:=by rw [Int.natCast_pow];rfl
  rw [e1,Int.one_mul,← e2];generalize 2 ^ bitsLen x = m at hp ⊢;exact wr_u64 (by omega)
 refine Fn.e1 Tryz.func220 Tryz.ntmps220 fun base=>?_;refine gX ?_;refine H.cr (h _) ?_;skip;refine H.Bq (op:=.shl) rfl rfl rfl rfl (by omega) e rfl ?_;refine gZ ?_;exact qap
def NextP (f:Frag) (F:List HP) (rb:Nat):Value→Frag→List HP→Prop:=fun v f' A'=>∃ z:Int,v = .int .u64 z ∧ f' = f ∧ A' = row rb 297 [.int .u64 z]::F
theorem next_fn {rb:Nat}:Fn Tryz.prog 221 [.pointer (some ⟨rb,0,none⟩)] f (row rb 297 [.int .u64 z]::F) (NextP f F rb):=by
 refine Fn.e1 Tryz.func221 Tryz.ntmps221 fun base=>?_;refine gL ?_;refine qdQ ?_;refine gA ?_;refine qdQ ?_;refine gA ?_;refine qdQ ?_;refine gM ?_;exact H.r1 ⟨_,rfl,rfl,rfl⟩
def BrkP (f:Frag) (F:List HP) (p:Option Addr) (n c a b:Nat) (d0:Array Int):Value→Frag→List HP→Prop:=fun v f' A'=>∃ d:Array Int,PermIn a b d0 d ∧ v = .tuple #[] ∧ f' = f ∧ A' = slc p n c 24 1 (arr d)::F
theorem break_fn (hd0:d0.size = n) (hn:n ≤ 255) (h8:a + 8 ≤ b) (hb:b ≤ n) :
  Fn Tryz.prog 175 [.slice p n c,.int .i64 (a:Int),.int .i64 (b:Int)] f (slc p n c 24 1 (arr d0)::F) (BrkP f F p n c a b d0):=by
 obtain ⟨l,hl⟩:∃ l,l = b - a:=⟨_,rfl⟩;have hz:(b:Int) - (a:Int) = (l:Int):=by omega
 have h1:=tab8 ⟨l,by omega⟩;have hm1:l < 2 ^ bitsLen l:=h1.2.1
 have hm2:2 ^ bitsLen l ≤ 2 * l:=h1.2.2.1 (by show 8 ≤ l;omega);have hnp:=fun G=>npow_fn f G (x:=l) (by omega)
 have hq:IntKind.wrap .i64 ((l:Int).tdiv 4) = ((l / 4:Nat):Int):=by rw [show (4:Int) = ((4:Nat):Int) from rfl,tdiv64,wr_i64 (by omega)]
 generalize 2 ^ bitsLen l = m at *;have hu:IntKind.wrap .u64 ((m:Int) - 1) = ((m - 1:Nat):Int):=by rw [wr_u64 (by omega)];omega
 refine Fn.e3 Tryz.func175 Tryz.ntmps175 fun base=>?_;refine qeS ?_;refine H.Ah (ls:=[.int .u64 0]) rfl rfl rfl fun rb=>?_;refine H.Az rfl rfl rfl rfl (.here _ _ _) (.here _ _ _) ?_;refine gL ?_;refine H.cr (hnp _) ?_;refine qfp ?_;refine H.Bk (d:=9) (u:=.int .i64 ((a + l / 4 * 2 - 1:Nat):Int)) rfl (by first | rfl | (congr 1;omega)) ?_;refine H.pf (x:=slc p n c _ _ _) ?_
 refine H.lo (ι:=Nat × Int × Array Int) (fun s=>[(9,.int .i64 (s.1:Int)),(8,.int .u64 (m:Int)),(7,.pointer (some ⟨rb,0,none⟩)),(6,.int .i64 (l:Int)),(0,.slice p n c),(1,.int .i64 (a:Int))]) (fun _=>f) (fun s=>slc p n c 24 1 (arr s.2.2)::row rb 297 [.int .u64 s.2.1]::F)
  (fun s=>a ≤ s.1 ∧ PermIn a b d0 s.2.2) (fun s=>n - s.1) (a + l / 4 * 2 - 1,(l:Int),d0) ⟨by show a ≤ a + l / 4 * 2 - 1;omega,permIn_refl _ _ _⟩ fun s hs=>?_
 obtain ⟨x,z,d⟩:=s;obtain ⟨hx,hP⟩:a ≤ x ∧ PermIn a b d0 d:=hs;have hd:d.size = n:=hP.1.trans hd0;show H _ _ _ [(9,.int .i64 (x:Int)),_,_,_,_,_] f (slc p n c _ 1 (arr d)::row rb _ [.int .u64 z]::F) _
 by_cases hx2:x ≤ a + l / 4 * 2 + 1
 ·skip;refine qfp ?_;refine H.pf (x:=row rb _ _) ?_;refine H.Al rfl rfl rfl (next_fn f _) fun v f' A' hR=>?_;obtain ⟨z2,rfl,hff,rfl⟩:=hR;rw [hff];have hand:=and_le z2 (m:=m - 1) (by omega);repeat (first | (refine H.ar (op:=.sub) (p:=(m:Int)) (p2:=1) (z:=((m - 1:Nat):Int)) rfl rfl rfl rfl hu rfl ?_) | (refine gh ?_))
  refine H.Bg (op:=.and) rfl rfl rfl rfl rfl rfl ?_;generalize IntKind.wrap .u64 ((BitVec.ofInt IntKind.u64.bits z2 &&& BitVec.ofInt IntKind.u64.bits ((m - 1:Nat):Int)).toNat:Nat) = o at *;obtain ⟨k,rfl⟩:∃ k:Nat,o = (k:Int):=⟨o.toNat,by omega⟩;refine H.pf (x:=slc p n c _ _ _) ?_;refine qei fun sb hp=>?_;subst hp;by_cases hkl:l ≤ k
  ·obtain ⟨o,ho⟩:∃ o,k = l + o:=⟨k - l,by omega⟩;subst ho;have hol:((l + o:Nat):Int) - (l:Int) = (o:Int):=by omega
   repeat (first | (refine H.ar (op:=.sub) (p:=((l + o:Nat):Int)) (p2:=(l:Int)) (z:=(o:Int)) rfl rfl rfl rfl (by rw [hol,wr_i64 (by omega)]) rfl ?_) | (refine gh ?_))
   refine H.drawN (by kernel_rfl) (by decide +kernel) (by repeat (first | exact zac | refine zab ?_ | refine zak ?_ | refine zap ?_)) ?_;refine qdi ?_;refine qhj ?_;refine HN.ar (i:=5) (z:=((a + o:Nat):Int)) (by kernel_rfl) rfl rfl rfl rfl rfl (by rw [wr_i64 (by omega)];omega) rfl ?_;refine qey ?_;refine HQ.Aj (i:=a + o) rfl rfl rfl (by omega) (by omega) rfl ?_;refine qeW ?_;refine HQ.Aj (i:=a + o) rfl rfl rfl (by omega) (by omega) rfl ?_;refine qdg ?_;refine HB.ev 19 ?_;refine qdd ?_;show H _ _ _ _ f (slc (some ⟨sb,0,none⟩) n c _ 1 (arr (swp d (x) (a + o)))::_) _;refine gX ?_;exact H.ag (x + 1,z2,swp d x (a + o)) ⟨by show a ≤ x + 1;omega,permIn_trans _ _ _ _ _ hP (swp_permIn _ _ _ _ _ hx (by omega) (by omega) (by omega) (by omega))⟩ (by show n - (x + 1) < n - x;omega)
  ·refine gO ?_;refine H.drawN (by kernel_rfl) (by decide +kernel) (by repeat (first | exact zac | refine zab ?_ | refine zak ?_ | refine zap ?_)) ?_;refine qdi ?_;refine qhj ?_;refine HN.ar (i:=5) (z:=((a + k:Nat):Int)) (by kernel_rfl) rfl rfl rfl rfl rfl (by rw [wr_i64 (by omega)];omega) rfl ?_;refine qey ?_;refine HQ.Aj (i:=a + k) rfl rfl rfl (by omega) (by omega) rfl ?_;refine qeW ?_;refine HQ.Aj (i:=a + k) rfl rfl rfl (by omega) (by omega) rfl ?_;refine qdg ?_;refine HB.ev 19 ?_;refine qdd ?_;show H _ _ _ _ f (slc (some ⟨sb,0,none⟩) n c _ 1 (arr (swp d (x) (a + k)))::_) _;refine gX ?_;exact H.ag (x + 1,z2,swp d x (a + k)) ⟨by show a ≤ x + 1;omega,permIn_trans _ _ _ _ _ hP (swp_permIn _ _ _ _ _ hx (by omega) (by omega) (by omega) (by omega))⟩ (by show n - (x + 1) < n - x;omega)
 ·skip;refine qfp ?_;refine H.pd (x:=row rb _ _) ?_;exact H.end0 rfl (fun _ h=>h) ⟨d,hP,rfl,rfl,rfl⟩
end
open Go.Sort (swp ltInt insInner insOuter insertionSort siftDown heapBuild heapPop heapSort reverseLoop reverseRange scanUp scanDown partLoop partEqLoop scanSorted shiftDown shiftUp partialIns partialInsertionSort)
variable {s wb:Nat}
section
variable (f:Frag) (F:List HP)
def Ord2P (f:Frag) (F:List HP) (A1:HP) (wb a b s:Nat):Value→Frag→List HP→Prop:=fun v f' A'=>∃ x y s2:Nat,((x = a ∧ y = b) ∨ (x = b ∧ y = a)) ∧ s2 ≤ s + 1 ∧ v = .tuple #[.int .i64 (x:Int),.int .i64 (y:Int)] ∧ f' = f ∧ A' = A1::row wb 3 [.int .i64 (s2:Int)]::F
theorem order2_fn (hd:d.size = n) (hn:n ≤ 1000000) (ha:a < n) (hb:b < n) (hs:s ≤ 100) :
  Fn Tryz.prog 254 [.slice p n c,.int .i64 (a:Int),.int .i64 (b:Int),.pointer (some ⟨wb,0,none⟩)] f (slc p n c 24 1 (arr d)::row wb 3 [.int .i64 (s:Int)]::F) (Ord2P f F (slc p n c 24 1 (arr d)) wb a b s):=by
 refine Fn.e4 Tryz.func254 Tryz.ntmps254 fun base=>?_;refine qei fun sb hp=>?_;subst hp;refine gL ?_;refine qdC ?_;refine HB.qu [0,1,2,3,4,5,6,7] 1 ?_;refine gB ?_;refine HQ.Aj (i:=b) rfl rfl rfl (by omega) (by omega) rfl ?_;refine qfP ?_;refine qdU ?_;refine qda ?_;refine qdg ?_;refine HB.ev 8 ?_;refine H.Ag rfl rfl rfl (zcb f _ d[b]! d[a]!) ?_;refine qdM ?_
 cases hl:ltInt d[b]! d[a]! with
 | false =>
  refine gX ?_;exact H.Be rfl rfl rfl (fun _ h=>h) ⟨a,b,s,.inl ⟨rfl,rfl⟩,Nat.le_succ s,rfl,rfl,rfl⟩
 | true =>
  refine gT ?_;exact H.Be rfl rfl rfl (fun _ h=>h) ⟨b,a,s + 1,.inr ⟨rfl,rfl⟩,Nat.le_refl _,rfl,rfl,rfl⟩
def MedP (f:Frag) (F:List HP) (A1:HP) (wb a b c s:Nat):Value→Frag→List HP→Prop:=fun v f' A'=>∃ x s2:Nat,(x = a ∨ x = b ∨ x = c) ∧ s2 ≤ s + 3 ∧ v = .int .i64 (x:Int) ∧ f' = f ∧ A' = A1::row wb 3 [.int .i64 (s2:Int)]::F
theorem median_fn {k:Nat} (hd:d.size = n) (hn:n ≤ 1000000) (ha:a < n) (hb:b < n) (hk:k < n) (hs:s ≤ 90) :
  Fn Tryz.prog 232 [.slice p n c,.int .i64 (a:Int),.int .i64 (b:Int),.int .i64 (k:Int),.pointer (some ⟨wb,0,none⟩)] f (slc p n c 24 1 (arr d)::row wb 3 [.int .i64 (s:Int)]::F) (MedP f F (slc p n c 24 1 (arr d)) wb a b k s):=by
 refine Fn.e5 Tryz.func232 Tryz.ntmps232 fun base=>?_;refine gL ?_;refine H.Al rfl rfl rfl (order2_fn f F hd hn ha hb (by omega)) fun v f' A' hR=>?_;obtain ⟨x1,y1,t1,h1,ht1,rfl,hff,rfl⟩:=hR;rw [hff];refine gV ?_;refine H.Al rfl rfl rfl (order2_fn f F hd hn (a:=y1) (b:=k) (by omega) hk (by omega)) fun v f' A' hR=>?_;obtain ⟨x2,y2,t2,h2,ht2,rfl,hff,rfl⟩:=hR;rw [hff];refine gV ?_;refine H.Al rfl rfl rfl (order2_fn f F hd hn (a:=x1) (b:=x2) (by omega) (by omega) (by omega)) fun v f' A' hR=>?_;obtain ⟨x3,y3,t3,h3,ht3,rfl,hff,rfl⟩:=hR;rw [hff];refine gV ?_;exact H.Ad rfl rfl (fun _ h=>h) ⟨y3,t3,by omega,by omega,rfl,rfl,rfl⟩
theorem medAdj_fn (hd:d.size = n) (hn:n ≤ 1000000) (h0:1 ≤ a) (ha:a + 1 < n) (hs:s ≤ 90) :
  Fn Tryz.prog 231 [.slice p n c,.int .i64 (a:Int),.pointer (some ⟨wb,0,none⟩)] f (slc p n c 24 1 (arr d)::row wb 3 [.int .i64 (s:Int)]::F) (MedP f F (slc p n c 24 1 (arr d)) wb (a - 1) a (a + 1) s):=by
 obtain ⟨a1,rfl⟩:∃ a1,a = a1 + 1:=⟨a - 1,by omega⟩;refine Fn.e3 Tryz.func231 Tryz.ntmps231 fun base=>?_;refine gX ?_;refine H.Al rfl rfl rfl (median_fn f F hd hn (a:=a1) (b:=a1 + 1) (k:=a1 + 1 + 1) (by omega) (by omega) ha hs) fun v f' A' hR=>?_;obtain ⟨x,t,h1,ht,rfl,hff,rfl⟩:=hR;rw [hff];refine gZ ?_;exact H.r1 ⟨x,t,h1,ht,rfl,rfl,rfl⟩
def PivP (f:Frag) (F:List HP) (A1:HP) (a b:Nat):Value→Frag→List HP→Prop:=fun v f' A'=>∃ (x:Nat) (h:Int),a ≤ x ∧ x < b ∧ v = .tuple #[.int .i64 (x:Int),.int .i64 h] ∧ f' = f ∧ A' = A1::F
theorem pivot_fn (hd:d.size = n) (hn:n ≤ 1000000) (h8:a + 8 ≤ b) (hb:b ≤ n) :
  Fn Tryz.prog 176 [.slice p n c,.int .i64 (a:Int),.int .i64 (b:Int)] f (slc p n c 24 1 (arr d)::F) (PivP f F (slc p n c 24 1 (arr d)) a b):=by
 obtain ⟨l,hl⟩:∃ l,l = b - a:=⟨_,rfl⟩;have hz:(b:Int) - (a:Int) = (l:Int):=by omega
 obtain ⟨q,hq0⟩:∃ q,q = l / 4:=⟨_,rfl⟩;have hq:IntKind.wrap .i64 ((l:Int).tdiv 4) = (q:Int):=by rw [show (4:Int) = ((4:Nat):Int) from rfl,tdiv64,wr_i64 (by omega),hq0]
 refine Fn.e3 Tryz.func176 Tryz.ntmps176 fun base=>?_;repeat (first | (refine H.ar (op:=.sub) (p:=(b:Int)) (p2:=(a:Int)) (z:=(l:Int)) rfl rfl rfl rfl (by rw [hz,wr_i64 (by omega)]) rfl ?_) | (refine H.quo (p:=(l:Int)) (z:=(q:Int)) rfl rfl rfl (by decide) hq rfl ?_) | (refine H.Ah (ls:=[.int .i64 0]) rfl rfl rfl fun wb=>?_) | (refine gh ?_))
 refine H.pf (x:=slc p n c _ _ _) ?_;refine H.Bk (d:=10) (u:=.int .i64 ((a + q * 1:Nat):Int)) rfl (by first | rfl | (congr 1;omega)) ?_;refine H.Bk (d:=11) (u:=.int .i64 ((a + q * 2:Nat):Int)) rfl (by first | rfl | (congr 1;omega)) ?_;refine H.Bk (d:=12) (u:=.int .i64 ((a + q * 3:Nat):Int)) rfl (by first | rfl | (congr 1;omega)) ?_;by_cases h50:50 ≤ l
 ·refine gI ?_;refine H.Al rfl rfl rfl (medAdj_fn f F hd hn (a:=a + q * 1) (s:=0) (by omega) (by omega) (by omega)) fun v f' A' hR=>?_;obtain ⟨x1,t1,h1,ht1,rfl,hff,rfl⟩:=hR;rw [hff];refine gL ?_;refine H.Al rfl rfl rfl (medAdj_fn f F hd hn (a:=a + q * 2) (s:=t1) (by omega) (by omega) (by omega)) fun v f' A' hR=>?_;obtain ⟨x2,t2,h2,ht2,rfl,hff,rfl⟩:=hR;rw [hff];refine gL ?_;refine H.Al rfl rfl rfl (medAdj_fn f F hd hn (a:=a + q * 3) (s:=t2) (by omega) (by omega) (by omega)) fun v f' A' hR=>?_;obtain ⟨x3,t3,h3,ht3,rfl,hff,rfl⟩:=hR;rw [hff];refine gL ?_;refine H.Al rfl rfl rfl (median_fn f F hd hn (a:=x1) (b:=x2) (k:=x3) (s:=t3) (by omega) (by omega) (by omega) (by omega)) fun v f' A' hR=>?_;obtain ⟨x,t,h4,ht,rfl,hff,rfl⟩:=hR;rw [hff];by_cases h0:t = 0
  ·refine gM ?_;exact qaH
  ·by_cases h12:t = 12
   ·refine gS ?_;exact qaH
   ·refine gM ?_;exact qaH
 ·refine gF ?_;refine H.Al rfl rfl rfl (median_fn f F hd hn (a:=a + q * 1) (b:=a + q * 2) (k:=a + q * 3) (s:=0) (by omega) (by omega) (by omega) (by omega)) fun v f' A' hR=>?_;obtain ⟨x,t,h4,ht,rfl,hff,rfl⟩:=hR;rw [hff];by_cases h0:t = 0
  ·refine gM ?_;exact qaH
  ·by_cases h12:t = 12
   ·refine gM ?_;exact qaH
   ·refine gM ?_;exact qaH
end
open Go.Sort (swp ltInt insInner insOuter insertionSort siftDown heapBuild heapPop heapSort reverseLoop reverseRange scanUp scanDown partLoop partEqLoop scanSorted shiftDown shiftUp partialIns partialInsertionSort)
open Go.Sort (bitsLen PermIn SortedIn Below permIn_trans permIn_refl insertionSort_holds heapSort_holds partialInsertionSort_holds partition_holds partitionEqual_holds reverseRange_holds swo_ltInt round_eq round_part partition partitionEqual)
section
variable (f:Frag) (F:List HP)
def SrtP (f:Frag) (F:List HP) (p:Option Addr) (n c a b:Nat) (d0:Array Int):Value→Frag→List HP→Prop:=fun v f' A'=>∃ d:Array Int,PermIn a b d0 d ∧ SortedIn ltInt a b d ∧ v = .tuple #[] ∧ f' = f ∧ A' = slc p n c 24 1 (arr d)::F
def pdSt (p:Option Addr) (n c:Nat) (s:Nat × Nat × Int × Bool × Bool × Array Int):Env:=[(0,.slice p n c),(1,.int .i64 (s.1:Int)),(2,.int .i64 (s.2.1:Int)),(3,.int .i64 s.2.2.1),(8,.bool s.2.2.2.1),(9,.bool s.2.2.2.2.1)]
theorem pdq_fn:∀ (m:Nat) {p:Option Addr} {n c a0 b0:Nat} {lim0:Int} {d0:Array Int} (hd0:d0.size = n) (hn:n ≤ 255) (ha:a0 ≤ b0) (hb:b0 ≤ n) (hl:0 ≤ lim0 ∧ lim0 ≤ 100) (hB:Below ltInt a0 b0 d0) (hm:b0 - a0 ≤ m),
  Fn Tryz.prog 125 [.slice p n c,.int .i64 (a0:Int),.int .i64 (b0:Int),.int .i64 lim0] f (slc p n c 24 1 (arr d0)::F) (SrtP f F p n c a0 b0 d0):=by
 intro m
 induction m with
 | zero =>
  intro p n c a0 b0 lim0 d0 hd0 hn ha hb hl hB hm;have h1:=insertionSort_holds swo_ltInt d0 a0 b0 ha (by omega);have hz:(b0:Int) - (a0:Int) = 0:=by omega
  refine Fn.e4 Tryz.func125 Tryz.ntmps125 fun base=>?_;refine gZ ?_;refine H.lo (ι:=Unit) (fun _=>[(0,.slice p n c),(1,.int .i64 (a0:Int)),(2,.int .i64 (b0:Int))]) (fun _=>f) (fun _=>slc p n c 24 1 (arr d0)::F) (fun _=>True) (fun _=>0) () trivial fun _ _=>?_;show H _ _ _ [(0,.slice p n c),(1,.int .i64 (a0:Int)),(2,.int .i64 (b0:Int))] f (slc p n c _ 1 (arr d0)::F) _;repeat (first | (refine H.ar (op:=.sub) (p:=(b0:Int)) (p2:=(a0:Int)) (z:=0) rfl rfl rfl rfl (by rw [hz];rfl) rfl ?_) | (refine gh ?_))
  refine H.Ag rfl rfl rfl (insSort_fn f _ (a:=a0) (b:=b0) hd0 (by omega) hb (by omega)) ?_;refine gZ ?_;exact H.ret0 rfl (fun _ h=>h) ⟨_,h1.1,h1.2,rfl,rfl,rfl⟩
 | succ m ih =>
  intro p n c a0 b0 lim0 d0 hd0 hn ha hb hl hB hm;refine Fn.e4 Tryz.func125 Tryz.ntmps125 fun base=>?_;refine gZ ?_
  refine H.lo (ι:=Nat × Nat × Int × Bool × Bool × Array Int) (pdSt p n c) (fun _=>f) (fun s=>slc p n c 24 1 (arr s.2.2.2.2.2)::F)
   (fun s=>s.1 ≤ s.2.1 ∧ s.2.1 ≤ n ∧ s.2.1 - s.1 ≤ m + 1 ∧ s.2.2.2.2.2.size = n ∧ (0 ≤ s.2.2.1 ∧ s.2.2.1 ≤ 100) ∧ Below ltInt s.1 s.2.1 s.2.2.2.2.2 ∧ ∀ R,PermIn s.1 s.2.1 s.2.2.2.2.2 R→SortedIn ltInt s.1 s.2.1 R→PermIn a0 b0 d0 R ∧ SortedIn ltInt a0 b0 R)
   (fun s=>s.2.1 - s.1) (a0,b0,lim0,true,true,d0) ⟨ha,hb,hm,hd0,hl,hB,fun R h1 h2=>⟨h1,h2⟩⟩ fun s hs=>?_
  clear hl hB;obtain ⟨a,b,lim,wb,wp,d⟩:=s;obtain ⟨hab,hbn,hm1,hd,hl,hB,hfin⟩:a ≤ b ∧ b ≤ n ∧ b - a ≤ m + 1 ∧ d.size = n ∧ (0 ≤ lim ∧ lim ≤ 100) ∧ Below ltInt a b d ∧ ∀ R,PermIn a b d R→SortedIn ltInt a b R→PermIn a0 b0 d0 R ∧ SortedIn ltInt a0 b0 R:=hs;show H _ _ _ [(0,.slice p n c),(1,.int .i64 (a:Int)),(2,.int .i64 (b:Int)),(3,.int .i64 lim),(8,.bool wb),(9,.bool wp)] f (slc p n c _ 1 (arr d)::F) _;obtain ⟨l,hl0⟩:∃ l,l = b - a:=⟨_,rfl⟩;have hz:(b:Int) - (a:Int) = (l:Int):=by omega
  by_cases h12:l ≤ 12
  ·skip;refine qeS ?_;refine H.Ag rfl rfl rfl (insSort_fn f _ (a:=a) (b:=b) hd (by omega) hbn (by omega)) ?_;refine gZ ?_;have h1:=insertionSort_holds swo_ltInt d a b hab (by omega);exact qcP
  ·by_cases hl00 : lim = 0
   ·skip;refine qeS ?_;refine H.Ag rfl rfl rfl (heapSort_fn f _ (a:=a) (b:=b) hd (by omega) (by omega) hbn) ?_;refine gZ ?_;have h1:=heapSort_holds swo_ltInt d a b hab (by omega);exact qcP
   ·skip;repeat (first | (refine H.ar (op:=.sub) (p:=(b:Int)) (p2:=(a:Int)) (z:=(l:Int)) rfl rfl rfl rfl (by rw [hz,wr_i64 (by omega)]) rfl ?_) | ((first | apply H.Ap | apply H.Bb);(iterate 3 exact rfl)) | (first | apply H.seq | apply H.Bf | apply H.nil | apply H.Bh) | ((apply H.cmp);(iterate 5 exact rfl)) | ((apply H.not);(iterate 4 exact rfl)) | (first | apply H.skip | apply H.Bm) | (apply H.Ch;exact rfl;(first | assumption | omega)))
    refine H.cut (ι:=Int × Array Int) (fun s=>[(0,.slice p n c),(1,.int .i64 (a:Int)),(2,.int .i64 (b:Int)),(3,.int .i64 s.1),(8,.bool wb),(9,.bool wp),(10,.int .i64 (l:Int))]) (fun _=>f) (fun s=>slc p n c 24 1 (arr s.2)::F) (fun s=>(0 ≤ s.1 ∧ s.1 ≤ 100) ∧ PermIn a b d s.2) _ (fun s hs=>?_) ?_;rotate_left
    ·cases wb with
     | true =>
      refine gX ?_;exact H.Ba (lim,d) ⟨hl,permIn_refl _ _ _⟩ ⟨rfl,rfl,rfl,rfl,rfl,rfl,rfl,trivial⟩ rfl rfl
     | false =>
      refine gE ?_;refine H.Al rfl rfl rfl (break_fn f F (a:=a) (b:=b) hd hn (by omega) hbn) fun v f' A' hR=>?_;obtain ⟨d1,hP,rfl,hff,rfl⟩:=hR;rw [hff];refine gX ?_;exact H.Ba (lim - 1,d1) ⟨by show 0 ≤ lim - 1 ∧ lim - 1 ≤ 100;omega,hP⟩ ⟨rfl,rfl,rfl,rfl,rfl,rfl,rfl,trivial⟩ rfl rfl
    obtain ⟨lim1,d1⟩:=s;obtain ⟨hl1,hP1⟩:(0 ≤ lim1 ∧ lim1 ≤ 100) ∧ PermIn a b d d1:=hs;show H _ _ _ [(0,.slice p n c),(1,.int .i64 (a:Int)),(2,.int .i64 (b:Int)),(3,.int .i64 lim1),(8,.bool wb),(9,.bool wp),(10,.int .i64 (l:Int))] f (slc p n c _ 1 (arr d1)::F) _;have hd1:d1.size = n:=hP1.1.trans hd;refine gL ?_
    refine H.Al rfl rfl rfl (pivot_fn f F (a:=a) (b:=b) hd1 (by omega) (by omega) hbn) fun v f' A' hR=>?_;obtain ⟨x,h,hx1,hx2,rfl,hff,rfl⟩:=hR;rw [hff];repeat (first | ((first | apply H.Ap | apply H.Bb);(iterate 3 exact rfl)) | (first | apply H.seq | apply H.Bf | apply H.nil | apply H.Bh) | ((apply H.cmp);(iterate 5 exact rfl)) | ((apply H.Cf);(iterate 4 exact rfl)))
    refine H.cut (ι:=Nat × Int × Array Int) (fun s=>[(11,.int .i64 (s.1:Int)),(12,.int .i64 s.2.1),(0,.slice p n c),(1,.int .i64 (a:Int)),(2,.int .i64 (b:Int)),(3,.int .i64 lim1),(8,.bool wb),(9,.bool wp),(10,.int .i64 (l:Int))]) (fun _=>f) (fun s=>slc p n c 24 1 (arr s.2.2)::F) (fun s=>a ≤ s.1 ∧ s.1 < b ∧ PermIn a b d s.2.2) _ (fun s hs=>?_) ?_;rotate_left
    ·by_cases h2:h = 2
     ·have hpz:(b:Int) - 1 - ((x:Int) - (a:Int)) = ((b - 1 - (x - a):Nat):Int):=by omega
      refine gI ?_;refine H.Ag rfl rfl rfl (reverse_fn f _ (a:=a) (b:=b) hd1 (by omega) (by omega) hbn) ?_;repeat (first | (refine H.ar (op:=.sub) (p:=(b:Int) - 1) (p2:=(x:Int) - (a:Int)) (z:=((b - 1 - (x - a):Nat):Int)) rfl rfl rfl rfl (by rw [hpz,wr_i64 (by omega)]) rfl ?_) | (refine gh ?_))
      exact H.Ba (b - 1 - (x - a),1,Go.Sort.reverseRange d1 a b) ⟨by show a ≤ b - 1 - (x - a);omega,by show b - 1 - (x - a) < b;omega,permIn_trans _ _ _ _ _ hP1 (reverseRange_holds d1 a b hab (by omega))⟩ ⟨rfl,rfl,rfl,rfl,rfl,rfl,rfl,rfl,rfl,trivial⟩ rfl rfl
     ·refine gF ?_;exact H.Ba (x,h,d1) ⟨hx1,hx2,hP1⟩ ⟨rfl,rfl,rfl,rfl,rfl,rfl,rfl,rfl,rfl,trivial⟩ rfl rfl
    clear hP1 hd1 hx1 hx2;obtain ⟨pv,hh,d2⟩:=s;obtain ⟨hp1,hp2,hP2⟩:a ≤ pv ∧ pv < b ∧ PermIn a b d d2:=hs;show H _ _ _ [(11,.int .i64 (pv:Int)),(12,.int .i64 hh),(0,.slice p n c),(1,.int .i64 (a:Int)),(2,.int .i64 (b:Int)),(3,.int .i64 lim1),(8,.bool wb),(9,.bool wp),(10,.int .i64 (l:Int))] f (slc p n c _ 1 (arr d2)::F) _;have hd2:d2.size = n:=hP2.1.trans hd;repeat apply H.seq
    refine H.cut (ι:=Bool) (fun t=>[(68,.bool t),(11,.int .i64 (pv:Int)),(0,.slice p n c),(1,.int .i64 (a:Int)),(2,.int .i64 (b:Int)),(3,.int .i64 lim1),(8,.bool wb),(9,.bool wp),(10,.int .i64 (l:Int))]) (fun _=>f) (fun _=>slc p n c 24 1 (arr d2)::F) (fun _=>True) _ (fun t _=>?_) ?_;rotate_left
    ·cases wb with
     | false =>
      exact qcA
     | true =>
      cases wp with
      | false =>
       exact qcA
      | true =>
       refine gS ?_;exact H.Ba _ trivial ⟨rfl,rfl,rfl,rfl,rfl,rfl,rfl,rfl,rfl,trivial⟩ rfl rfl
    show H _ _ _ [(68,.bool t),(11,.int .i64 (pv:Int)),(0,.slice p n c),(1,.int .i64 (a:Int)),(2,.int .i64 (b:Int)),(3,.int .i64 lim1),(8,.bool wb),(9,.bool wp),(10,.int .i64 (l:Int))] f (slc p n c _ 1 (arr d2)::F) _;refine H.cut (ι:=Array Int) (fun _=>[(11,.int .i64 (pv:Int)),(0,.slice p n c),(1,.int .i64 (a:Int)),(2,.int .i64 (b:Int)),(3,.int .i64 lim1),(8,.bool wb),(9,.bool wp),(10,.int .i64 (l:Int))]) (fun _=>f) (fun s=>slc p n c 24 1 (arr s)::F) (fun s=>PermIn a b d s) _ (fun d3 hP3=>?_) ?_;rotate_left
    ·cases t with
     | false =>
      refine gX ?_;exact H.Ba d2 hP2 ⟨rfl,rfl,rfl,rfl,rfl,rfl,rfl,rfl,trivial⟩ rfl rfl
     | true =>
      have h1:=partialInsertionSort_holds swo_ltInt d2 a b (by omega) (by omega) (hB.perm (by omega) hP2);have h2:=permIn_trans _ _ _ _ _ hP2 h1.1
      refine gE ?_;refine H.Ag rfl rfl rfl (partIns_fn f _ (a:=a) (b:=b) hd2 (by omega) (by omega) hbn) ?_;generalize partialInsertionSort ltInt d2 a b = r at *;obtain ⟨d3,r2⟩:=r
      cases r2 with
      | true =>
       refine gE ?_;have h3:=hfin d3 h2 (h1.2 rfl);exact H.ret0 rfl (fun _ h=>h) ⟨d3,h3.1,h3.2,rfl,rfl,rfl⟩
      | false =>
       refine gX ?_;exact H.Ba d3 h2 ⟨rfl,rfl,rfl,rfl,rfl,rfl,rfl,rfl,trivial⟩ rfl rfl
    clear hP2 hd2;show H _ _ _ [(11,.int .i64 (pv:Int)),(0,.slice p n c),(1,.int .i64 (a:Int)),(2,.int .i64 (b:Int)),(3,.int .i64 lim1),(8,.bool wb),(9,.bool wp),(10,.int .i64 (l:Int))] f (slc p n c _ 1 (arr d3)::F) _;have hd3:d3.size = n:=hP3.1.trans hd;have hB3:=hB.perm (by omega) hP3
    repeat apply H.seq
    refine H.cut (ι:=Bool) (fun t=>[(87,.bool t),(11,.int .i64 (pv:Int)),(0,.slice p n c),(1,.int .i64 (a:Int)),(2,.int .i64 (b:Int)),(3,.int .i64 lim1),(8,.bool wb),(9,.bool wp),(10,.int .i64 (l:Int))]) (fun _=>f) (fun _=>slc p n c 24 1 (arr d3)::F) (fun t=>t = true→0 < a ∧ ltInt d3[a - 1]! d3[pv]! = false) _ (fun t ht=>?_) ?_;rotate_left
    ·refine H.Ay (p:=p) (n0:=n) (c:=c) (T:=24) (sz:=1) (xs:=arr d3) (.here _ _ _) (by omega) fun sb hp=>?_;subst hp;by_cases ha0:0 < a
     ·obtain ⟨a1,rfl⟩:∃ a1,a = a1 + 1:=⟨a - 1,by omega⟩;refine qdC ?_;refine HB.qu [0,1,2,3,4,5,6,7,8,9,10,11] 3 ?_;refine gW ?_;refine HQ.Aj (i:=a1) rfl rfl rfl (by omega) (by omega) rfl ?_;refine qfP ?_;refine HQ.Aj (i:=pv) rfl rfl rfl (by omega) (by omega) rfl ?_;refine qda ?_;refine qgz ?_;refine H.Ag rfl rfl rfl (zcb f _ d3[a1]! d3[pv]!) ?_;refine qcX ?_;refine HB.qu [13,14] 0 ?_;refine qdo ?_
      cases hlx:ltInt d3[a1]! d3[pv]! with
      | true =>
       exact qcp
      | false =>
       skip;exact H.Ba true (fun _=>⟨ha0,hlx⟩) ⟨rfl,rfl,rfl,rfl,rfl,rfl,rfl,rfl,rfl,trivial⟩ rfl rfl
     ·skip;refine qdC ?_;refine qgI ?_;exact qcp
    show H _ _ _ [(87,.bool t),(11,.int .i64 (pv:Int)),(0,.slice p n c),(1,.int .i64 (a:Int)),(2,.int .i64 (b:Int)),(3,.int .i64 lim1),(8,.bool wb),(9,.bool wp),(10,.int .i64 (l:Int))] f (slc p n c _ 1 (arr d3)::F) _
    cases t with
    | true =>
     obtain ⟨ha0,hnl⟩:=ht rfl;obtain ⟨g1,g2,g3,g4,g5⟩:=round_eq swo_ltInt (partitionEqual_holds ltInt) ha0 hp1 hp2 (by omega) hB3 hnl (d4:=(partitionEqual ltInt d3 a b pv).2) (mid:=(partitionEqual ltInt d3 a b pv).1) rfl;refine gE ?_;refine H.Ag rfl rfl rfl (partEq_fn f _ (a:=a) (b:=b) (pivot:=pv) hd3 (by omega) hp1 hp2 hbn) ?_;generalize (partitionEqual ltInt d3 a b pv).1 = mid at *;generalize (partitionEqual ltInt d3 a b pv).2 = d4 at *;refine gZ ?_
     exact H.Ax (mid,b,lim1,wb,wp,d4) ⟨by show mid ≤ b;omega,hbn,by show b - mid ≤ m + 1;omega,by show d4.size = n;omega,hl1,g4,fun R h1 h2=>by
      have h3:=g5 R h1 h2
      exact hfin R (permIn_trans _ _ _ _ _ hP3 h3.1) h3.2⟩ (by show b - mid < b - a;omega) ⟨rfl,rfl,rfl,rfl,rfl,rfl,trivial⟩ rfl rfl
    | false =>
     have hrp:=round_part swo_ltInt (partition_holds ltInt) hp1 hp2 (by omega:b ≤ d3.size) hB3 (d4:=(partition ltInt d3 a b pv).2.2) (ap:=(partition ltInt d3 a b pv).2.1) (mid:=(partition ltInt d3 a b pv).1) rfl;have hq:IntKind.wrap .i64 ((l:Int).tdiv 8) = ((l / 8:Nat):Int):=by rw [show (8:Int) = ((8:Nat):Int) from rfl,tdiv64,wr_i64 (by omega)]
     refine gX ?_;refine H.Al rfl rfl rfl (partition_fn f F (a:=a) (b:=b) (pivot:=pv) hd3 (by omega) hp1 hp2 hbn) fun v f' A' hR=>?_;generalize (partition ltInt d3 a b pv).1 = mid at *;generalize (partition ltInt d3 a b pv).2.2 = d4 at *;obtain ⟨ap,rfl,hff,rfl⟩:=hR;rw [hff];obtain ⟨g1,g2,g3,g4,g5,g6,g7⟩:=hrp;by_cases hlr:mid - a < b - mid
     ·skip;repeat (first | (refine H.quo (p:=(l:Int)) (z:=((l / 8:Nat):Int)) rfl rfl rfl (by decide) hq rfl ?_) | (refine gh ?_))
      refine H.Al rfl rfl rfl (ih (n:=n) (c:=c) (p:=p) (a0:=a) (b0:=mid) (lim0:=lim1) (d0:=d4) (by omega) hn g1 (by omega) hl1 g4 (by omega)) fun v f' A' hR=>?_;obtain ⟨L,hL1,hL2,rfl,hff,rfl⟩:=hR;rw [hff];obtain ⟨k1,k2⟩:=g6 L hL1 hL2;refine gX ?_
      exact H.Ax (mid + 1,b,lim1,_,ap,L) ⟨by show mid + 1 ≤ b;omega,hbn,by show b - (mid + 1) ≤ m + 1;omega,by show L.size = n;have:=hL1.1;omega,hl1,k1,fun R h1 h2=>by
       have h3:=k2 R h1 h2
       exact hfin R (permIn_trans _ _ _ _ _ hP3 h3.1) h3.2⟩ (by show b - (mid + 1) < b - a;omega) ⟨rfl,rfl,rfl,rfl,rfl,rfl,trivial⟩ rfl rfl
     ·skip;repeat (first | (refine H.quo (p:=(l:Int)) (z:=((l / 8:Nat):Int)) rfl rfl rfl (by decide) hq rfl ?_) | (refine gh ?_))
      refine H.Al rfl rfl rfl (ih (n:=n) (c:=c) (p:=p) (a0:=mid + 1) (b0:=b) (lim0:=lim1) (d0:=d4) (by omega) hn (by omega) hbn hl1 g5 (by omega)) fun v f' A' hR=>?_;obtain ⟨L,hL1,hL2,rfl,hff,rfl⟩:=hR;rw [hff];obtain ⟨k1,k2⟩:=g7 L hL1 hL2;refine gZ ?_
      exact H.Ax (a,mid,lim1,_,ap,L) ⟨g1,by show mid ≤ n;omega,by show mid - a ≤ m + 1;omega,by show L.size = n;have:=hL1.1;omega,hl1,k1,fun R h1 h2=>by
       have h3:=k2 R h1 h2
       exact hfin R (permIn_trans _ _ _ _ _ hP3 h3.1) h3.2⟩ (by show mid - a < b - a;omega) ⟨rfl,rfl,rfl,rfl,rfl,rfl,trivial⟩ rfl rfl
end
def w15C (kb n:Nat) (ap:Option Addr) (m ac lb:Nat):List Value:=[.slice (some ⟨kb,0,none⟩) n n,.slice ap m ac,.pointer (some ⟨lb,0,none⟩)]
section
variable (f:Frag) (F:List HP)
theorem great_fn (hfl:Le fl f) {kb:Nat} (hL:LI l T) {ap:Option Addr} {m ac o:Nat} (ho:o < l.n) :
  Fn Tryz.prog 113 [.pointer (some ⟨wb,0,none⟩),.int .i64 ((o + 1:Nat):Int)] f (logsH fl lb l::row wb 34 (w15C kb n ap m ac lb)::F)
   (Ret (.int .u64 (l.past o).g) f (logsH fl lb l::row wb 34 (w15C kb n ap m ac lb)::F)):=by
 refine Fn.unpack fun i0 hi=>?_;obtain ⟨V,vp,vc,pp,pc,cp,cc,pb,cs⟩:=i0;have hiF:=hi.mono hfl;have hn:=hL.n3
 obtain ⟨pbb,poff,hpp0,rdp0⟩:=hiF.past (by show 0 < l.n;omega);have hpp:pp = some ⟨pbb,poff,none⟩:=hpp0;have rdp:∀ {A:List HP} {r:Nat},r < l.n→Rd1 f A pbb (poff + r) (.pointer (some ⟨pb r,0,none⟩)):=fun {A r} hr=>rdp0 (Le.refl f) hr
 clear hpp0 rdp0;show Fn _ _ _ f (row lb 75 (lgC l.n l.known vp V.length vc pp pc cp cc)::slc vp V.length vc 81 4 (V.flatMap VV.vals)::lst (V.map VV.own)::fam (fun r=>pstH (pb r) (l.past r)) l.n::slc cp l.n cc 253 1 (chRow l cs)::fam (chFam l cs) l.n::_::F) _;refine Fn.e2 Tryz.func113 Tryz.ntmps113 fun base=>?_;refine gT ?_;refine H.Ak (b:=pbb) (off:=poff) (i:=o) rfl (by rw [← hpp];rfl) rfl (by omega) ho rfl ?_;refine H.Ab rfl rfl rfl (by rw [Nat.mul_one];exact rdp ho) rfl ?_;refine qeE ?_;refine H.Bt ho ?_;refine pstH_openH fun eb ec=>?_;refine gM ?_;refine H.imp (zaz (b:=pb o) (eb:=eb) (ec:=ec) (s:=l.past o)) ?_;refine H.Cd (g:=fun r=>pstH (pb r) (l.past r)) ho ?_;refine qcW ?_;refine H.imp (zao ⟨V,vp,vc,pp,pc,cp,cc,pb,cs⟩ hi) ?_;exact qap
theorem byte_toNat {k:Nat} (h:k < 256):((UInt8.ofNat k).toNat:Int) = (k:Int):=by
 exact qcu
theorem ask_fn (x:A15):Fn Tryz.prog 114 [.agg x.vals.toArray] f F (Ret (.agg x.req.vals.toArray) f F):=by
 have hcm:((x.client.toNat % 3:Nat):Int) ≤ 2:=by omega
 have hkm:((x.key.toNat % 4:Nat):Int) ≤ 3:=by omega
 have htm:((x.time.toNat % 10:Nat):Int) ≤ 9:=by omega
 have ht:=x.time.toNat_lt;have hsg:=fun G=>rsigned_fn f G x.req0
 refine Fn.e1 Tryz.func114 Tryz.ntmps114 fun base=>?_;refine qdh fun xb=>?_;refine qep fun ob=>?_;refine gH ?_;refine H.rem (z:=((x.client.toNat % 3:Nat):Int)) rfl rfl rfl (by decide) (zat (b:=3) rfl) rfl ?_;refine gK ?_;refine H.rem (z:=((x.key.toNat % 4:Nat):Int)) rfl rfl rfl (by decide) (zat (b:=4) rfl) rfl ?_;refine gK ?_;refine H.Bk (d:=16) (u:=.int .u8 ((UInt8.ofNat (97 + x.key.toNat % 4)).toNat:Nat)) rfl (by rw [byte_toNat (by omega)];rfl) ?_;refine H.Ar (out:=bytesV [UInt8.ofNat (97 + x.key.toNat % 4)]) rfl rfl rfl rfl (by decide) (by decide) rfl rfl fun eb=>?_;refine H.convBS (bs:=[UInt8.ofNat (97 + x.key.toNat % 4)]) rfl rfl (Src.slice (Rd.ofRow (.here _ _ _)) rfl) (fun h=>by cases h) rfl ?_;refine gK ?_;refine H.rem (z:=((x.time.toNat % 10:Nat):Int)) rfl rfl rfl (by decide) (zat (b:=10) rfl) rfl ?_;refine gK ?_;refine H.Bk (d:=22) (u:=.int .u8 ((UInt8.ofNat (48 + x.time.toNat % 10)).toNat:Nat)) rfl (by rw [byte_toNat (by omega)];rfl) ?_;refine H.Ar (out:=bytesV [UInt8.ofNat (48 + x.time.toNat % 10)]) rfl rfl rfl rfl (by decide) (by decide) rfl rfl fun eb2=>?_;refine H.convBS (bs:=[UInt8.ofNat (48 + x.time.toNat % 10)]) rfl rfl (Src.slice (Rd.ofRow (.here _ _ _)) rfl) (fun h=>by cases h) rfl ?_;refine qdx ?_;refine qdx ?_;repeat (first | (refine H.Au (t:=44) (out:=x.req0.vals) rfl rfl rfl (by kernel_rfl) rfl ?_) | (refine gh ?_))
 refine qep fun rb=>?_;refine H.Af (ls:=Req.zero.vals) (vs:=x.req0.vals) (ls':=x.req0.vals) rfl rfl rfl (zaa rfl) rfl rfl (Nat.le_refl 40) (.here _ _ _) ?_;refine gH ?_;unfold A15.req
 cases hno:x.no with
 | true =>
  refine gE ?_;refine H.Ae (ls:=x.req0.vals) rfl rfl rfl (Rd.ofRow (.here _ _ _)) rfl rfl ?_;refine H.Af (ls:=Req.zero.vals) (vs:=x.req0.vals) (ls':=x.req0.vals) rfl rfl rfl (zaa rfl) rfl rfl (Nat.le_refl 40) (.there _ (.here _ _ _)) ?_;refine qfk ?_;refine qhq ?_;exact H.Aw (ls:=x.req0.vals) rfl rfl rfl (Rd.ofRow (.here _ _ _)) rfl (fun _ s=>s.drop (.here _ _)) ⟨rfl,rfl,rfl⟩
 | false =>
  refine gX ?_;refine H.Ae (ls:=x.req0.vals) rfl rfl rfl (Rd.ofRow (.here _ _ _)) rfl rfl ?_;refine H.cr (hsg _) ?_;refine H.Af (ls:=Req.zero.vals) (vs:=x.req0.signed.vals) (ls':=x.req0.signed.vals) rfl rfl rfl (zaa rfl) rfl rfl (Nat.le_refl 40) (.there _ (.here _ _ _)) ?_;refine qfk ?_;refine qhq ?_;exact H.Aw (ls:=x.req0.signed.vals) rfl rfl rfl (Rd.ofRow (.here _ _ _)) rfl (fun _ s=>s.drop (.here _ _)) ⟨rfl,rfl,rfl⟩
end
end Go.Proofs.YtminmjlfmolfeaaGreatDoor
