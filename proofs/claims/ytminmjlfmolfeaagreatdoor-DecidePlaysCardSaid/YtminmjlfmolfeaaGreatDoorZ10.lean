/- Parts of the proof, one behind the other, each under its own heading. No conditions. -/
import Derived.Test.YtminmjlfmolfeaaGreatDoorZ09
import Derived.OrdersIn
import Derived.Test.YtminmjlfmolfeaaGreatDoorRows
import Derived.Test.YtminmjlfmolfeaaGreatDoorCards
import Derived.Test.YtminmjlfmolfeaaGreatDoorTie
set_option linter.unusedSectionVars false
set_option linter.unusedSimpArgs false
set_option linter.unusedVariables false
/- Layer 16, plain: what is committed in a view stands in each later one. No program in sight; no conditions. -/
set_option maxHeartbeats 6400000
set_option maxRecDepth 20000
namespace Go.Proofs.YtminmjlfmolfeaaGreatDoor
open Go
def LexLe (a b:Int × Int):Prop:=a.1 < b.1 ∨ (a.1 = b.1 ∧ a.2 ≤ b.2)
theorem LexLe.refl (a:Int × Int):LexLe a a:=.inr ⟨rfl,Int.le_refl _⟩
theorem LexLe.trans {a b c:Int × Int} (h1:LexLe a b) (h2:LexLe b c):LexLe a c:=by
 unfold LexLe at *;omega
theorem bestOf_ge (bv:Int):∀ (l:List (Int × Int)) (a:Int × Int),LexLe a (bestOf bv l a) ∧ ∀ x ∈ l,x.1 < bv→LexLe x (bestOf bv l a)
 | [],a=>⟨LexLe.refl a,fun x hx=>by cases hx⟩
 | y :: r, a => by
  rw [zbt]
  by_cases hc:y.1 < bv ∧ (a.1 < y.1 ∨ (y.1 = a.1 ∧ a.2 < y.2))
  ·rw [if_pos hc]
   obtain ⟨h1,h2⟩:=bestOf_ge bv r y
   have hay:LexLe a y:=by unfold LexLe;omega
   refine ⟨hay.trans h1,fun x hx hb=>?_⟩
   rcases List.mem_cons.1 hx with rfl | hx
   ·exact h1
   ·exact h2 x hx hb
  ·rw [if_neg hc]
   obtain ⟨h1,h2⟩:=bestOf_ge bv r a
   refine ⟨h1,fun x hx hb=>?_⟩
   rcases List.mem_cons.1 hx with rfl | hx
   ·have hya:LexLe x a:=by unfold LexLe;omega
    exact hya.trans h1
   ·exact h2 x hx hb
theorem bestQ_ge (past:Nat→PM) (bv:Int):∀ (q:List (Int × Int)) (a:Int × Int),LexLe a (bestQ past bv q a) ∧ ∀ p ∈ q,∀ x ∈ (past (p.1 - 1).toNat).all,x.1 < bv→LexLe x (bestQ past bv q a)
 | [],a=>⟨LexLe.refl a,fun p hp=>by cases hp⟩
 | y :: r, a => by
  rw [bestQ_cons]
  obtain ⟨h1,h2⟩:=bestQ_ge past bv r (bestOf bv (past (y.1 - 1).toNat).all a)
  obtain ⟨h3,h4⟩:=bestOf_ge bv (past (y.1 - 1).toNat).all a
  refine ⟨h3.trans h1,fun p hp x hx hb=>?_⟩
  rcases List.mem_cons.1 hp with rfl | hp
  ·exact (h4 x hx hb).trans h1
  ·exact h2 p hp x hx hb
theorem bestOf_lt {bv:Int}:∀ (l:List (Int × Int)) (a:Int × Int),a.1 < bv→(bestOf bv l a).1 < bv
 | [],_,h=>h
 | y :: r, a, h => by
  rw [zbt]
  split
  ·rename_i hc;exact bestOf_lt r y hc.1
  ·exact bestOf_lt r a h
theorem bestQ_lt {past:Nat→PM} {bv:Int}:∀ (q:List (Int × Int)) (a:Int × Int),a.1 < bv→(bestQ past bv q a).1 < bv
 | [],_,h=>h
 | y::r,a,h=>by rw [bestQ_cons];exact bestQ_lt r _ (bestOf_lt _ _ h)
theorem quo_rise:∀ (q:List (Int × Int)) (w:Int),quo w q = true→q.Pairwise (fun a b=>a.1 < b.1) ∧ ∀ p ∈ q,w < p.1
 | [],_,_=>⟨List.Pairwise.nil,fun p hp=>by cases hp⟩
 | y :: r, w, h => by
  unfold quo at h
  split at h
  ·cases h
  ·rename_i hno
   obtain ⟨h1,h2⟩:=quo_rise r y.1 h
   refine ⟨List.pairwise_cons.2 ⟨fun b hb=>h2 b hb,h1⟩,fun p hp=>?_⟩
   rcases List.mem_cons.1 hp with e | e
   ·rw [e];omega
   ·have:=h2 p e;omega
variable {m:Msg}
theorem may_rise (h:m.may = true):m.body.q.Pairwise (fun a b=>a.1 < b.1):=by
 obtain ⟨h1,h2,h3⟩:=Bod.may_spec (Msg.may_body h);have hq:=Bod.eqB_q h1;by_cases h4:m.body.kind.toNat = 4
 ·rw [h4] at h3;have h3:(decide (1 ≤ m.body.view) && (quo 0 m.body.q && decide (0 < m.body.q.length))) = true:=h3;simp only [Bool.and_eq_true] at h3
  exact (quo_rise _ 0 h3.2.1).1
 ·rw [own_q h4] at hq;rw [← hq];exact List.Pairwise.nil
structure PStep (p p':PM):Prop where
 g:p.g ≤ p'.g
 low:∀ x ∈ p'.all,x.1 < p.g→x ∈ p.all
 up:∀ v k,PM.voted p.all v = some k→∃ k',k ≤ k' ∧ PM.voted p'.all v = some k'
theorem PStep.refl (p:PM):PStep p p:=⟨Int.le_refl _,fun _ h _=>h,fun _ k h=>⟨k,Int.le_refl _,h⟩⟩
theorem PStep.change (p:PM) (v:Int):PStep p (p.change v):=
 ⟨PM.change_g p v,fun x hx _=>by rw [(PM.change_all p v).1] at hx;exact hx,fun u k h=>⟨k,Int.le_refl _,by rw [(PM.change_all p v).1];exact h⟩⟩
variable {p:PM} {v:Int}
theorem PStep.enter {k:Int} (h:p.enterOk v k = true):PStep p (p.enter v k):=by
 have h2:=(PM.enterOk_lt h).2;refine ⟨PM.enter_gg p v k,fun x hx hlt=>?_,fun u j hj=>⟨j,Int.le_refl _,by rw [(PM.enter_all h).1];exact voted_app _ _ _ _ hj⟩⟩
 rw [(PM.enter_all h).1] at hx;rcases List.mem_append.1 hx with hx | hx
 ·exact hx
 ·rw [List.mem_singleton.1 hx] at hlt;have hlt:v < p.g:=hlt;omega
theorem PM.bump_all2 (p:PM):({ p with ln:=p.ln + 1 }:PM).all = p.init ++ [(p.lv,p.ln + 1)]:=rfl
theorem voted_bump (l:List (Int × Int)) (v a b u k:Int) (hab:a ≤ b) (h:PM.voted (l ++ [(v,a)]) u = some k):∃ k',k ≤ k' ∧ PM.voted (l ++ [(v,b)]) u = some k':=by
 induction l with
 | nil =>
  have h:(if u = v then some a else none) = some k:=h;show ∃ k',k ≤ k' ∧ (if u = v then some b else none) = some k'
  by_cases e:u = v
  ·rw [if_pos e] at h ⊢;cases h;exact ⟨b,hab,rfl⟩
  ·rw [if_neg e] at h;cases h
 | cons y r ih =>
  obtain ⟨w,n⟩:=y;have h:(if u = w then some n else PM.voted (r ++ [(v,a)]) u) = some k:=h;show ∃ k',k ≤ k' ∧ (if u = w then some n else PM.voted (r ++ [(v,b)]) u) = some k'
  by_cases e:u = w
  ·rw [if_pos e] at h ⊢;exact ⟨k,Int.le_refl _,h⟩
  ·rw [if_neg e] at h ⊢;exact ih h
theorem PStep.bump (h:p.isOpen v = true):PStep p { p with ln:=p.ln + 1 }:=by
 have hg:=PM.open_g h;refine ⟨Int.le_refl _,fun x hx hlt=>?_,fun u k hk=>voted_bump p.init p.lv p.ln (p.ln + 1) u k (by omega) hk⟩
 rw [PM.bump_all2] at hx;rcases List.mem_append.1 hx with hx | hx
 ·exact List.mem_append_left _ hx
 ·rw [List.mem_singleton.1 hx] at hlt;have hlt:p.lv < p.g:=hlt;omega
variable {l:Lgs}
theorem eff_all {e:Eff} (h:l.eff m = some e) :
  (e = .no) ∨
  (e = .chg ((l.past (orgI m)).change m.body.view) (m.body.view,m.number)) ∨
  (primZ l.n m.body.view = m.origin ∧ m.body.q.length = (l.n - 1) / 2 + 1 ∧ l.qAll m = true ∧ (l.past (orgI m)).enterOk m.body.view (l.best m).2 = true ∧ e = .beg ((l.past (orgI m)).enter m.body.view (l.best m).2) ⟨m.body.view,m.number,l.pref (l.best m),[]⟩) ∨
  (∃ w,l.vw m.body.view = some w ∧ (l.past (orgI m)).enterOk m.body.view (w.s.length:Nat) = true ∧ e = .past ((l.past (orgI m)).enter m.body.view (w.s.length:Nat))) ∨
  ((l.past (orgI m)).isOpen m.body.view = true ∧ primZ l.n m.body.view = m.origin ∧ e = .prep { l.past (orgI m) with ln:=(l.past (orgI m)).ln + 1 } m.body.view (m.number,m.body.req)) ∨
  ((l.past (orgI m)).isOpen m.body.view = true ∧ primZ l.n m.body.view ≠ m.origin ∧ e = .past { l.past (orgI m) with ln:=(l.past (orgI m)).ln + 1 }):=by
 unfold Lgs.eff at h;split at h
 ·split at h
  ·cases h
   exact .inr (.inl rfl)
  ·cases h
 ·split at h
  ·split at h
   ·rename_i hc
    cases h
    exact .inr (.inr (.inl ⟨hc.1,hc.2.1,hc.2.2.1,hc.2.2.2,rfl⟩))
   ·cases h
  ·split at h
   ·split at h
    ·cases h
    ·split at h
     ·rename_i w hw hc
      cases h
      exact .inr (.inr (.inr (.inl ⟨w,hw,hc.2,rfl⟩)))
     ·cases h
   ·split at h
    ·split at h
     ·cases h
     ·split at h
      ·rename_i hc
       cases h
       refine .inr (.inr (.inr (.inr (.inl ⟨hc.2.2.2,hc.1,?_⟩))));unfold PM.prepare;rw [if_pos hc.2.2.2]
      ·cases h
    ·split at h
     ·split at h
      ·cases h
      ·split at h
       ·rename_i hc
        cases h
        have hok:=of_decide_eq_true (show decide _ = true from hc.2);refine .inr (.inr (.inr (.inr (.inr ⟨decide_eq_true hok.1,hc.1,?_⟩))))
        unfold PM.commit;rw [if_pos hc.2]
       ·cases h
     ·split at h
      ·cases h;exact .inl rfl
      ·cases h
structure Quo (n:Nat) (Q:List Nat):Prop where
 nd:Q.Nodup
 len:Q.length = (n - 1) / 2 + 1
 lt:∀ r ∈ Q,r < n
structure SV (l:Lgs) (w:Vw) (w0:Vw) (Q:List Nat) (k:Nat):Prop where
 q:Quo l.n Q
 m:w0 ∈ l.vs
 lt:w0.v < w.v
 s:w.s = w0.all.take k
 le:k ≤ w0.all.length
 ge:w0.s.length ≤ k
 gr:∀ r ∈ Q,w.v ≤ (l.past r).g
 mo:∀ r ∈ Q,∀ x ∈ (l.past r).all,x.1 < w.v→LexLe x (w0.v,(k:Int))
structure SI (l:Lgs):Prop where
 vw:∀ w ∈ l.vs,w.v ≠ 0→∃ w0 Q k,SV l w w0 Q k
 z:∀ w ∈ l.vs,w.v = 0→w.s = []
 lo:∀ r,r < l.n→∀ x ∈ (l.past r).all,∀ w ∈ l.vs,w.v = x.1→(w.s.length:Int) ≤ x.2
theorem SI.new (n:Nat):SI (Lgs.new n):=by
 refine ⟨fun w hw h0=>?_,fun w hw _=>?_,fun r _ x hx w hw _=>?_⟩
 ·rw [List.mem_singleton.1 hw] at h0;exact absurd rfl h0
 ·rw [List.mem_singleton.1 hw]
 ·rw [List.mem_singleton.1 hw,List.mem_singleton.1 hx];exact Int.le_refl _
variable {l2:Lgs} {w w':Vw} {Q:List Nat}
theorem SV.mono {w0 w0':Vw} {k:Nat} (h:SV l w w0 Q k) (hn:l2.n = l.n) (hwv:w'.v = w.v) (hws:w'.s = w.s) (h0m:w0' ∈ l2.vs) (h0v:w0'.v = w0.v) (h0s:w0'.s = w0.s) (h0a:w0.all <+: w0'.all) (hp:∀ r,PStep (l.past r) (l2.past r)):SV l2 w' w0' Q k:=by
 obtain ⟨t,ht⟩:=h0a;refine ⟨by rw [hn];exact h.q,h0m,by rw [h0v,hwv];exact h.lt,?_,?_,by rw [h0s];exact h.ge,fun r hr=>by rw [hwv];exact Int.le_trans (h.gr r hr) (hp r).g,fun r hr x hx hlt=>?_⟩
 ·rw [hws,h.s,← ht,List.take_append_of_le_length h.le]
 ·rw [← ht,List.length_append];have:=h.le;omega
 ·rw [hwv] at hlt;rw [h0v];exact h.mo r hr x ((hp r).low x hx (by have:=h.gr r hr;omega)) hlt
variable {o:Nat}
theorem updF_step {past:Nat→PM} (h:PStep (past o) p) (r:Nat):PStep (past r) (updF past o p r):=by
 by_cases e:r = o
 ·subst e;rw [zae];exact h
 ·rw [zaf _ _ e];exact PStep.refl _
variable {T:Nat}
theorem past_step (h:LI l T) (m:Msg):∀ r,PStep (l.past r) ((l.counts m).2.past r):=by
 rw [zbp h.rise]
 cases he:l.eff m with
 | none=>exact fun r=>PStep.refl _
 | some e =>
  rcases eff_all he with rfl | rfl | ⟨_,_,_,hok,rfl⟩ | ⟨w,_,hok,rfl⟩ | ⟨hok,_,rfl⟩ | ⟨hok,_,rfl⟩
  ·exact fun r=>PStep.refl _
  ·exact updF_step (PStep.change _ _)
  ·exact updF_step (PStep.enter hok)
  ·exact updF_step (PStep.enter hok)
  ·exact updF_step (PStep.bump hok)
  ·exact updF_step (PStep.bump hok)
theorem SI.past {l:Lgs} {T:Nat} (hL:LI l T) (h:SI l) {o:Nat} {p:PM} {ch:Nat→List (Int × Int)} (hp:PStep (l.past o) p) (hlo:∀ x ∈ p.all,∀ w ∈ l.vs,w.v = x.1→(w.s.length:Int) ≤ x.2):SI { l with past:=updF l.past o p,ch:=ch }:=by
 refine ⟨fun w hw h0=>?_,h.z,fun r hr x hx w hw e=>?_⟩
 ·obtain ⟨w0,Q,k,hs⟩:=h.vw w hw h0;exact ⟨w0,Q,k,hs.mono rfl rfl rfl hs.m rfl rfl (List.prefix_refl _) (updF_step hp)⟩
 ·have hx:x ∈ (updF l.past o p r).all:=hx;by_cases er:r = o
  ·subst er;rw [zae] at hx;exact hlo x hx w hw e
  ·rw [zaf _ _ er] at hx;exact h.lo r hr x hx w hw e
theorem bump_lo (h:SI l) (ho:o < l.n):∀ x ∈ ({ l.past o with ln:=(l.past o).ln + 1 }:PM).all,∀ w ∈ l.vs,w.v = x.1→(w.s.length:Int) ≤ x.2:=by
 intro x hx w hw e;rw [PM.bump_all2] at hx;rcases List.mem_append.1 hx with hx | hx
 ·exact h.lo o ho x (List.mem_append_left _ hx) w hw e
 ·rw [List.mem_singleton.1 hx] at e ⊢
  have:=h.lo o ho ((l.past o).lv,(l.past o).ln) (List.mem_append_right _ (List.mem_singleton.2 rfl)) w hw e;have:(w.s.length:Int) ≤ (l.past o).ln:=this
  show (w.s.length:Int) ≤ (l.past o).ln + 1;omega
theorem SI.counts {l:Lgs} {T:Nat} (hL:LI l T) (hC:CI l) (h:SI l) {m:Msg} (hm:MIn l.n m) (hq:m.body.q.Pairwise (fun a b=>a.1 < b.1)):SI (l.counts m).2:=by
 have hor:=hm.o;have ho:orgI m < l.n:=by unfold orgI;omega
 have hr2:=(hL.counts hm).rise;rw [zbp hL.rise] at hr2 ⊢
 cases he:l.eff m with
 | none=>exact h
 | some e =>
  rw [he] at hr2;have hr2:((l.app (orgI m) e).vs.map Vw.v).Pairwise (· < ·):=hr2;show SI (l.app (orgI m) e)
  rcases eff_all he with rfl | rfl | ⟨hpr,hlen,hqa,hok,rfl⟩ | ⟨w,hw,hok,rfl⟩ | ⟨hok,hpr,rfl⟩ | ⟨hok,_,rfl⟩
  ·exact h
  ·exact h.past hL (PStep.change _ _) fun x hx=>by rw [(PM.change_all _ _).1] at hx;exact h.lo _ ho x hx
  ·obtain ⟨i,w0,hb1,hb2,hb3,hb4⟩:=hL.best hm;have hb0:l.best m = bestQ l.past m.body.view m.body.q (0,0):=rfl;rw [← hb0] at hb1 hb3 hb4
   have hw0:=List.mem_of_getElem? hb2
   have hw0v:w0.v = (l.best m).1:=by
    obtain ⟨⟨x,e1,e2⟩,_⟩:=zaq.1 hb1;rw [hb2] at e1;cases e1;exact e2
   have hvw0:l.vw (l.best m).1 = some w0:=by unfold Lgs.vw;rw [hb1];exact hb2
   have hpref:l.pref (l.best m) = w0.all.take (l.best m).2.toNat:=by unfold Lgs.pref;rw [hvw0];rfl
   have hnew:l.vw m.body.view = none:=by
    have hpi:=prim_org hpr;exact vw_none.2 (hL.fresh (k:=(l.best m).2) (by rw [hpi];exact ho) (by rw [hpi];exact hok))
   have hlv0:=(hL.wf _ ho).last;have hlt:=PM.enterOk_lt hok
   have hbv:(l.best m).1 < m.body.view:=bestQ_lt _ _ (by show (0:Int) < _;omega);obtain ⟨_,hge⟩:=bestQ_ge l.past m.body.view m.body.q (0,0)
   rw [← hb0] at hge
   have hqr:∀ p ∈ m.body.q,(p.1 - 1).toNat < l.n ∧ m.body.view ≤ (l.past (p.1 - 1).toNat).g:=fun p hp=>by
    have h1:=hm.q p hp;refine ⟨by omega,?_⟩
    unfold Lgs.qAll at hqa;have h2:=List.all_eq_true.1 hqa p hp;rw [Bool.and_eq_true] at h2
    obtain ⟨c,hc,h4⟩:=List.any_eq_true.1 h2.2;rw [Bool.and_eq_true] at h4;have h5:=hC _ c hc;rw [of_decide_eq_true h4.1] at h5
    exact h5
   have hw0s:(w0.s.length:Int) ≤ (l.best m).2:=by
    rcases bestQ_mem l.past m.body.view m.body.q (0,0) with e | ⟨p,hp,hx⟩
    ·rw [← hb0] at e;rw [e] at hw0v ⊢;rw [h.z w0 hw0 hw0v];exact Int.le_refl _
    ·rw [← hb0] at hx;exact h.lo _ (hqr p hp).1 _ hx w0 hw0 hw0v
   have hstep:∀ r,PStep (l.past r) (updF l.past (orgI m) ((l.past (orgI m)).enter m.body.view (l.best m).2) r):=updF_step (PStep.enter hok)
   have hmem:∀ {x:Vw},x ∈ insV ⟨m.body.view,m.number,l.pref (l.best m),[]⟩ l.vs→x = ⟨m.body.view,m.number,l.pref (l.best m),[]⟩ ∨ x ∈ l.vs:=fun hx=>by
    rcases List.mem_cons.1 ((zbg _ _).mem_iff.2 hx) with e | e
    ·exact .inl e
    ·exact .inr e
   have hkeep:∀ {x:Vw},x ∈ l.vs→x ∈ insV ⟨m.body.view,m.number,l.pref (l.best m),[]⟩ l.vs:=fun hx=>(zbg _ _).mem_iff.1 (List.mem_cons_of_mem _ hx);refine ⟨fun w hw h0=>?_,fun w hw h0=>?_,fun r hr x hx w hw e=>?_⟩
   ·rcases hmem hw with rfl | hw
    ·refine ⟨w0,m.body.q.map fun p=>(p.1 - 1).toNat,(l.best m).2.toNat,⟨⟨?_,?_,?_⟩,hkeep hw0,by rw [hw0v];exact hbv,hpref,by omega,by omega,fun r hr=>?_,fun r hr x hx hxl=>?_⟩⟩
     ·refine List.pairwise_map.2 (List.Pairwise.imp_of_mem ?_ hq);intro a b ha hb hab e;have h1:=hm.q a ha;have h2:=hm.q b hb
      have e:(a.1 - 1).toNat = (b.1 - 1).toNat:=e;omega
     ·rw [List.length_map];exact hlen
     ·intro r hr;obtain ⟨p,hp,rfl⟩:=List.mem_map.1 hr;exact (hqr p hp).1
     ·obtain ⟨p,hp,rfl⟩:=List.mem_map.1 hr;exact Int.le_trans (hqr p hp).2 (hstep _).g
     ·obtain ⟨p,hp,rfl⟩:=List.mem_map.1 hr;have h1:=(hstep _).low x hx (by have h2:=(hqr p hp).2;have hxl:x.1 < m.body.view:=hxl;omega);have h2:=hge p hp x h1 hxl
      rw [hw0v,show (((l.best m).2.toNat:Nat):Int) = (l.best m).2 by omega];exact h2
    ·obtain ⟨w1,Q,k,hs⟩:=h.vw w hw h0;exact ⟨w1,Q,k,hs.mono rfl rfl rfl (hkeep hs.m) rfl rfl (List.prefix_refl _) hstep⟩
   ·rcases hmem hw with rfl | hw
    ·have h0:m.body.view = 0:=h0;omega
    ·exact h.z w hw h0
   ·have hx:x ∈ (updF l.past (orgI m) ((l.past (orgI m)).enter m.body.view (l.best m).2) r).all:=hx
    have hold:∀ r,r < l.n→x ∈ (l.past r).all→(w.s.length:Int) ≤ x.2:=fun r hr hx=>by
     rcases hmem hw with rfl | hw
     ·obtain ⟨y,hy,hy1,_⟩:=hL.log r hr x hx;exact absurd (hy1.trans e.symm) (vw_no hnew y hy)
     ·exact h.lo r hr x hx w hw e
    by_cases er:r = orgI m
    ·subst er;rw [zae,(PM.enter_all hok).1] at hx;rcases List.mem_append.1 hx with hx | hx
     ·exact hold _ ho hx
     ·rw [List.mem_singleton.1 hx] at e ⊢;rcases hmem hw with rfl | hw
      ·show ((l.pref (l.best m)).length:Int) ≤ (l.best m).2;rw [hpref,List.length_take];omega
      ·exact absurd e (vw_no hnew w hw)
    ·rw [zaf _ _ er] at hx;exact hold r hr hx
  ·refine h.past hL (PStep.enter hok) fun x hx w' hw' e=>?_;rw [(PM.enter_all hok).1] at hx;rcases List.mem_append.1 hx with hx | hx
   ·exact h.lo _ ho x hx w' hw' e
   ·rw [List.mem_singleton.1 hx] at e ⊢;obtain ⟨h1,h2⟩:=vw_v hw;rw [Vw.uniq hL.rise hw' h2 (e.trans h1.symm)];exact Int.le_refl _
  ·have hstep:∀ r,PStep (l.past r) (updF l.past (orgI m) { l.past (orgI m) with ln:=(l.past (orgI m)).ln + 1 } r):=updF_step (PStep.bump hok);have hps:∀ x:Vw,(putV m.body.view (m.number,m.body.req) x).s = x.s:=fun x=>by unfold putV;split <;> rfl
   have hpa:∀ x:Vw,x.all <+: (putV m.body.view (m.number,m.body.req) x).all:=fun x=>by
    unfold putV;split
    ·show x.s ++ x.p.map Prod.snd <+: x.s ++ (x.p ++ [_]).map Prod.snd;rw [List.map_append,← List.append_assoc];exact List.prefix_append _ _
    ·exact List.prefix_refl _
   refine ⟨fun w hw h0=>?_,fun w hw h0=>?_,fun r hr x hx w hw e=>?_⟩
   ·obtain ⟨y,hy,rfl⟩:=List.mem_map.1 (show w ∈ l.vs.map (putV _ _) from hw);rw [putV_v] at h0;obtain ⟨w1,Q,k,hs⟩:=h.vw y hy h0;exact ⟨putV m.body.view (m.number,m.body.req) w1,Q,k,hs.mono rfl (putV_v _ _ _) (hps y) (List.mem_map.2 ⟨w1,hs.m,rfl⟩) (putV_v _ _ _) (hps w1) (hpa w1) hstep⟩
   ·obtain ⟨y,hy,rfl⟩:=List.mem_map.1 (show w ∈ l.vs.map (putV _ _) from hw);rw [putV_v] at h0;rw [hps];exact h.z y hy h0
   ·obtain ⟨y,hy,rfl⟩:=List.mem_map.1 (show w ∈ l.vs.map (putV _ _) from hw);rw [putV_v] at e;rw [hps];have hx:x ∈ (updF l.past (orgI m) { l.past (orgI m) with ln:=(l.past (orgI m)).ln + 1 } r).all:=hx;by_cases er:r = orgI m
    ·subst er;rw [zae] at hx;exact bump_lo h ho x hx y hy e
    ·rw [zaf _ _ er] at hx;exact h.lo r hr x hx y hy e
  ·exact h.past hL (PStep.bump hok) (bump_lo h ho)
structure DS (l:Lgs):Prop where
 li:∃ T,LI l T
 ci:CI l
 si:SI l
theorem SI.known (h:SI l) (k:Nat→Int):SI { l with known:=k }:=
 ⟨fun w hw h0=>by obtain ⟨w0,Q,j,hs⟩:=h.vw w hw h0;exact ⟨w0,Q,j,⟨hs.q,hs.m,hs.lt,hs.s,hs.le,hs.ge,hs.gr,hs.mo⟩⟩,h.z,h.lo⟩
theorem DS.new {n:Nat} (h3:3 ≤ n) (h11:n ≤ 11):DS (Lgs.new n):=⟨⟨0,LI.new h3 h11⟩,CI.new n,SI.new n⟩
theorem DS.take {l:Lgs} (h:DS l) {m:Msg} (hm:Rdy l m):DS (l.take m).2:=by
 obtain ⟨T,hL⟩:=h.li;have h1:=SI.counts hL h.ci h.si hm.min (may_rise hm.may);have h2:=CI.counts h.ci hL.rise m
 refine ⟨⟨T + 1,hL.take hm.v⟩,?_,?_⟩
 ·rw [hm.take];exact h2
 ·rw [hm.take];exact h1.known _
theorem DS.run:∀ {a:List Msg} {L:Lgs},DS L→RunF L a→DS (stF L a)
 | [],_,h,_=>h
 | m::a,L,h,hr=>DS.run (a:=a) (L:=(L.take m).2) (h.take hr.1) hr.2
def vot (l:Lgs) (r:Nat) (v:Int):Int:=(PM.voted (l.past r).all v).getD 0
def cntV (l:Lgs) (v:Int) (j:Nat):Nat:=((List.range l.n).filter fun r=>decide ((j:Int) ≤ vot l r v)).length
theorem filt_sum {α:Type} (p:α→Bool):∀ l:List α,(l.filter p).length + (l.filter fun x=>!p x).length = l.length
 | []=>rfl
 | a :: l => by
  have ih:=filt_sum p l
  by_cases h:p a = true
  ·rw [List.filter_cons_of_pos h,List.filter_cons_of_neg (by rw [h];decide),List.length_cons,List.length_cons];omega
  ·rw [List.filter_cons_of_neg h,List.filter_cons_of_pos (by cases e:p a with | true=>exact absurd e h | false=>rfl),List.length_cons,List.length_cons];omega
theorem nodup_le {α:Type} [DecidableEq α]:∀ {s l:List α},s.Nodup→(∀ k ∈ s,k ∈ l)→s.length ≤ l.length
 | [],_,_,_=>Nat.zero_le _
 | k :: s, l, hn, hs => by
  rw [List.nodup_cons] at hn
  obtain ⟨a,b,rfl⟩:=List.append_of_mem (hs k (by simp))
  have:=nodup_le (l:=a ++ b) hn.2 fun j hj=>by
   have h1:=hs j (List.mem_cons_of_mem _ hj)
   rw [List.mem_append,List.mem_cons] at h1
   rw [List.mem_append]
   rcases h1 with h1 | h1 | h1
   ·exact .inl h1
   ·exact absurd (h1 ▸ hj) hn.1
   ·exact .inr h1
  rw [List.length_append] at this
  rw [List.length_append,List.length_cons,List.length_cons]
  omega
variable {n:Nat}
theorem quo_meet (h:Quo n Q) {p:Nat→Bool} (hp:(n - 1) / 2 < ((List.range n).filter p).length) (hn:n % 2 = 1):∃ r ∈ Q,p r = true:=by
 by_cases he:∃ r ∈ Q,p r = true
 ·exact he
 ·exfalso
  have hsub:∀ r ∈ Q,r ∈ (List.range n).filter fun x=>!p x:=fun r hr=>by
   rw [List.mem_filter];refine ⟨List.mem_range.2 (h.lt r hr),?_⟩
   cases e:p r with
   | false=>rfl
   | true=>exact absurd ⟨r,hr,e⟩ he
  have h1:=nodup_le h.nd hsub;have h2:=filt_sum p (List.range n)
  rw [List.length_range] at h2;have h3:=h.len;omega
variable {r j:Nat}
theorem vot_pos (hj:0 < j) (h:(j:Int) ≤ vot l r v):∃ k,(v,k) ∈ (l.past r).all ∧ (j:Int) ≤ k:=by
 unfold vot at h
 cases e:PM.voted (l.past r).all v with
 | none=>rw [e] at h;have h:(j:Int) ≤ 0:=h;omega
 | some k=>rw [e] at h;exact ⟨k,voted_mem _ _ _ e,h⟩
theorem later {l:Lgs} {T:Nat} (hL:LI l T) (hS:SI l) (hn:l.n % 2 = 1) {w:Vw} (hw:w ∈ l.vs) {j:Nat} (hj:0 < j) (hc:(l.n - 1) / 2 < cntV l w.v j) :
  ∀ (N:Nat) (w':Vw),w' ∈ l.vs→w.v < w'.v→w'.v ≤ w.v + N→j ≤ w'.s.length ∧ w'.s.take j = w.all.take j
 | 0,w',_,h1,h2=>by omega
 | N + 1, w', hw', h1, h2 => by
  have hwz:0 ≤ w.v:=by
   by_cases h0:w.v = 0
   ·omega
   ·obtain ⟨p,hp,e⟩:=hL.begun w hw h0
    have:=(hL.wf _ (primI_lt (by have:=hL.n3;omega) w.v)).low p hp;omega
  obtain ⟨w0,Q,k,hs⟩:=hS.vw w' hw' (by omega)
  obtain ⟨r,hr,hv⟩:=quo_meet hs.q hc hn
  obtain ⟨x,hx,hjx⟩:=vot_pos hj (of_decide_eq_true hv)
  have hm:=hs.mo r hr _ hx h1
  have hle:=hs.le
  have hge:=hs.ge
  rcases hm with hlt | ⟨heq,hk⟩
  ·have hlt:w.v < w0.v:=hlt
   obtain ⟨i1,i2⟩:=later hL hS hn hw hj hc N w0 hs.m hlt (by have:=hs.lt;omega)
   rw [hs.s]
   refine ⟨by rw [List.length_take];omega,?_⟩
   rw [List.take_take,show min j k = j by omega]
   show (w0.s ++ w0.p.map Prod.snd).take j = _
   rw [List.take_append_of_le_length i1,i2]
  ·have heq:w.v = w0.v:=heq
   have hk:x ≤ (k:Int):=hk
   have e:=Vw.uniq hL.rise hw hs.m heq
   subst e
   rw [hs.s]
   refine ⟨by rw [List.length_take];omega,?_⟩
   rw [List.take_take,show min j k = j by omega]
theorem later_all (hL:LI l T) (hS:SI l) (hn:l.n % 2 = 1) (hw:w ∈ l.vs) (hw':w' ∈ l.vs) (hlt:w.v < w'.v) (hc:(l.n - 1) / 2 < cntV l w.v j) :
  j ≤ w'.all.length ∧ w'.all.take j = w.all.take j:=by
 by_cases hj:0 < j
 ·obtain ⟨h1,h2⟩:=later hL hS hn hw hj hc (w'.v - w.v).toNat w' hw' hlt (by omega);refine ⟨by rw [Vw.all_len];omega,?_⟩;show (w'.s ++ w'.p.map Prod.snd).take j = _;rw [List.take_append_of_le_length h1,h2]
 ·have e:j = 0:=by omega
  subst e;exact ⟨Nat.zero_le _,by rw [List.take_zero,List.take_zero]⟩
theorem zcg (n:Nat):∀ (l:List Msg) (L:Lgs),stF L l = l.foldl (fun L m=>(L.take m).2) L
 | [],_=>rfl
 | m::l,L=>zcg n l _
theorem world_rdy {all:List Msg} (hW:WOK n all) (hv:∀ m ∈ all,0 ≤ m.body.view) {i:Nat} (hm:all[i]? = some m):Rdy (lgsOf n (all.take i)) m:=by
 have hi:=(List.getElem?_eq_some_iff.1 hm).1;have h:=hW i m hm
 have hf:=h.fits;unfold fitsB at hf
 simp only [Bool.and_eq_true] at hf;obtain ⟨h1,h2,h3,_⟩:=hf;have hk:=lgsOf_known hW i (by omega);refine ⟨h1,by rw [lgsOf_n];exact of_decide_eq_true h2,by rw [lgsOf_n];exact h3,hv m (List.mem_of_getElem? hm),?_,fun k hk2=>?_⟩
 ·rw [hk,h.num];show ((cnt _ (orgI m) + 1:Nat):Int) = ((cnt _ (orgI m):Nat):Int) + 1;omega
 ·rw [hk];exact (h.dep k hk2).2
theorem world_run {n:Nat} {all:List Msg} (hW:WOK n all) (hv:∀ m ∈ all,0 ≤ m.body.view):∀ i,i ≤ all.length→RunF (Lgs.new n) (all.take i)
 | 0,_=>by rw [List.take_zero];exact trivial
 | i + 1, hi => by
  obtain ⟨m,hm⟩:∃ m,all[i]? = some m:=⟨_,List.getElem?_eq_getElem (by omega)⟩
  rw [zbh hm]
  refine RunF.app.2 ⟨world_run hW hv i (by omega),?_,trivial⟩
  rw [zcg n]
  exact world_rdy hW hv hm
def sub (k:Nat→Int) (all:List Msg):List Msg:=all.filter fun m=>decide (m.number ≤ k (orgI m))
theorem sub_mem {k:Nat→Int} {l:List Msg}:m ∈ sub k l ↔ m ∈ l ∧ m.number ≤ k (orgI m):=by unfold sub;rw [List.mem_filter,decide_eq_true_eq]
theorem sub_yes {k:Nat→Int} {l:List Msg} (h:m.number ≤ k (orgI m)):sub k (l ++ [m]) = sub k l ++ [m]:=by
 unfold sub;rw [List.filter_append];congr 1;simp [h]
theorem sub_no {k:Nat→Int} {l:List Msg} (h:¬ m.number ≤ k (orgI m)):sub k (l ++ [m]) = sub k l:=by
 unfold sub;rw [List.filter_append];simp [h]
theorem sub_len (k:Nat→Int) (l:List Msg):(sub k l).length ≤ l.length:=List.length_filter_le _ _
theorem cnt_sub {k:Nat→Int} (h0:∀ i,0 ≤ k i) (l:List Msg):WOK n l→∀ i,((cnt (sub k l) i:Nat):Int) = minU k l i:=by
 refine snocInd (p:=fun l=>WOK n l→∀ i,((cnt (sub k l) i:Nat):Int) = minU k l i) (fun _ i=>?_) (fun l m ih hW i=>?_) l
 ·rw [minU_nil h0];rfl
 ·have hm:=WOK.at (post:=[]) hW;have hl:WOK n l:=by have:=hW.take l.length;rwa [List.take_left] at this
  have ih:=ih hl i;have hnum:=hm.num
  have hc:=cnt_snoc l m i;by_cases hk:m.number ≤ k (orgI m)
  ·rw [sub_yes hk,cnt_snoc];unfold minU at ih ⊢;rw [hc];by_cases e:i = orgI m
   ·subst e;rw [if_pos rfl];split at ih <;> split <;> omega
   ·rw [if_neg e];exact ih
  ·rw [sub_no hk,ih];unfold minU;rw [hc];by_cases e:i = orgI m
   ·subst e;rw [if_pos rfl];split <;> split <;> omega
   ·rw [if_neg e];rfl
theorem WOK.sub {n:Nat} {k:Nat→Int} (h0:∀ i,0 ≤ k i) (l:List Msg):WOK n l→(∀ x ∈ l,x.number ≤ k (orgI x)→∀ i,i < 11→x.deps i ≤ k i)→WOK n (sub k l):=by
 refine snocInd (p:=fun l=>WOK n l→(∀ x ∈ l,x.number ≤ k (orgI x)→∀ i,i < 11→x.deps i ≤ k i)→WOK n (Go.Proofs.YtminmjlfmolfeaaGreatDoor.sub k l)) (fun h _=>h) (fun l m ih hW hc=>?_) l;have hm:=WOK.at (post:=[]) hW;have hl:WOK n l:=by have:=hW.take l.length;rwa [List.take_left] at this
 have ih:=ih hl fun x hx=>hc x (List.mem_append_left _ hx);by_cases hk:m.number ≤ k (orgI m)
 ·rw [sub_yes hk];refine ih.snoc ⟨hm.org,hm.fits,hm.right,?_,fun i hi=>?_,fun x hx=>hm.mono x (sub_mem.1 hx).1⟩
  ·have h1:=cnt_sub (n:=n) h0 l hl (orgI m);have h2:=hm.num
   unfold minU at h1;split at h1 <;> omega
  ·have h1:=cnt_sub (n:=n) h0 l hl i;have h2:=hm.dep i hi
   have h3:=hc m (by simp) hk i hi;unfold minU at h1
   split at h1 <;> omega
 ·rw [sub_no hk];exact ih
theorem sub_step2 {k:Nat→Int} (h0:∀ i,0 ≤ k i) {all:List Msg} (hW:WOK n all) (hc:∀ x ∈ all,x.number ≤ k (orgI x)→∀ i,i < 11→x.deps i ≤ k i) {i:Nat} (hm:all[i]? = some m) :
  (m.number ≤ k (orgI m)→∃ b,(lgsOf n (sub k (all.take i))).take m = ((b,0),lgsOf n (sub k (all.take (i + 1))))) ∧ (¬ m.number ≤ k (orgI m)→sub k (all.take (i + 1)) = sub k (all.take i)):=by
 rw [zbh hm];refine ⟨fun hk=>?_,fun hk=>sub_no hk⟩;have h1:WOK n (sub k (all.take i ++ [m])):=WOK.sub h0 _ (by rw [← zbh hm];exact hW.take _) fun x hx=>hc x (by rw [← zbh hm] at hx;exact List.mem_of_mem_take hx);rw [sub_yes hk] at h1 ⊢
 have h2:(sub k (all.take i) ++ [m])[(sub k (all.take i)).length]? = some m:=List.getElem?_concat_length;obtain ⟨h3,_⟩:=world_take h1 h2
 have e1:(sub k (all.take i) ++ [m]).take (sub k (all.take i)).length = sub k (all.take i):=List.take_left;have e2:(sub k (all.take i) ++ [m]).take ((sub k (all.take i)).length + 1) = sub k (all.take i) ++ [m]:=by rw [List.take_of_length_le];rw [List.length_append];exact Nat.le_refl _
 rw [e1,e2] at h3;exact ⟨_,h3⟩
def cmtF (l:Lgs) (v:Int):Nat→Nat
 | 0=>0
 | j + 1=>if (l.n - 1) / 2 < cntV l v (j + 1) then j + 1 else cmtF l v j
def cmt (l:Lgs) (v:Int):Nat:=match l.vw v with
 | none=>0
 | some w=>cmtF l v w.all.length
theorem cmtF_le (l:Lgs) (v:Int):∀ N,cmtF l v N ≤ N
 | 0=>Nat.le_refl _
 | N + 1=>by unfold cmtF;split;exact Nat.le_refl _;exact Nat.le_succ_of_le (cmtF_le l v N)
theorem cmtF_ok (l:Lgs) (v:Int):∀ N,0 < cmtF l v N→(l.n - 1) / 2 < cntV l v (cmtF l v N)
 | 0,h=>by unfold cmtF at h;omega
 | N + 1, h => by
  unfold cmtF at h ⊢
  split
  ·rename_i e;exact e
  ·rename_i e;rw [if_neg e] at h;exact cmtF_ok l v N h
theorem cmtF_max (l:Lgs) (v:Int):∀ N j,j ≤ N→(l.n - 1) / 2 < cntV l v j→j ≤ cmtF l v N
 | 0,j,h,_=>by omega
 | N + 1, j, h, hc => by
  unfold cmtF
  split
  ·exact h
  ·rename_i e
   by_cases ej:j = N + 1
   ·subst ej;exact absurd hc e
   ·exact cmtF_max l v N j (by omega) hc
theorem cmt_at (h:l.vw v = some w):cmt l v = cmtF l v w.all.length:=by unfold cmt;rw [h]
theorem cmt_no (h:l.vw v = none):cmt l v = 0:=by unfold cmt;rw [h]
theorem cmt_le (h:l.vw v = some w):cmt l v ≤ w.all.length:=by rw [cmt_at h];exact cmtF_le _ _ _
theorem cmt_le_len (l:Lgs) (v:Int):cmt l v ≤ (allO (l.vw v)).length:=by
 cases h:l.vw v with
 | none=>rw [cmt_no h];exact Nat.zero_le _
 | some w=>exact cmt_le h
theorem cmt_ok (h:0 < cmt l v):(l.n - 1) / 2 < cntV l v (cmt l v):=by
 cases hv:l.vw v with
 | none=>rw [cmt_no hv] at h;omega
 | some w=>rw [cmt_at hv] at h ⊢;exact cmtF_ok _ _ _ h
theorem cmt_max (h:l.vw v = some w) (hj:j ≤ w.all.length) (hc:(l.n - 1) / 2 < cntV l v j):j ≤ cmt l v:=by rw [cmt_at h];exact cmtF_max _ _ _ _ hj hc
def bestC (c:Int→Nat):List Int→Int × Nat→Int × Nat
 | [],a=>a
 | v::r,a=>bestC c r (if a.2 < c v then (v,c v) else a)
theorem bestC_mem (c:Int→Nat):∀ (vs:List Int) (a:Int × Nat),bestC c vs a = a ∨ ((bestC c vs a).1 ∈ vs ∧ (bestC c vs a).2 = c (bestC c vs a).1)
 | [],a=>.inl rfl
 | v :: r, a => by
  unfold bestC
  rcases bestC_mem c r (if a.2 < c v then (v,c v) else a) with h | ⟨h1,h2⟩
  ·rw [h]
   split
   ·exact .inr ⟨by simp,rfl⟩
   ·exact .inl rfl
  ·exact .inr ⟨List.mem_cons_of_mem _ h1,h2⟩
theorem bestC_ge (c:Int→Nat):∀ (vs:List Int) (a:Int × Nat),a.2 ≤ (bestC c vs a).2 ∧ ∀ v ∈ vs,c v ≤ (bestC c vs a).2
 | [],a=>⟨Nat.le_refl _,fun v h=>by cases h⟩
 | v :: r, a => by
  unfold bestC
  obtain ⟨h1,h2⟩:=bestC_ge c r (if a.2 < c v then (v,c v) else a)
  have h3:a.2 ≤ (if a.2 < c v then (v,c v) else a).2 ∧ c v ≤ (if a.2 < c v then (v,c v) else a).2:=by
   split
   ·rename_i e;exact ⟨Nat.le_of_lt e,Nat.le_refl _⟩
   ·rename_i e;exact ⟨Nat.le_refl _,Nat.le_of_not_lt e⟩
  refine ⟨Nat.le_trans h3.1 h1,fun u hu=>?_⟩
  rcases List.mem_cons.1 hu with rfl | hu
  ·exact Nat.le_trans h3.2 h1
  ·exact h2 u hu
theorem bestC_snoc (c:Int→Nat) (v:Int):∀ (vs:List Int) (a:Int × Nat),bestC c (vs ++ [v]) a = if (bestC c vs a).2 < c v then (v,c v) else bestC c vs a
 | [],a=>rfl
 | u::r,a=>bestC_snoc c v r _
def decB (l:Lgs):Int × Nat:=bestC (cmt l) (viewsU l) (0,0)
def decL (l:Lgs):List Req:=(allO (l.vw (decB l).1)).take (decB l).2
theorem decB_eq (l:Lgs):(decB l).2 = cmt l (decB l).1 ∨ decB l = (0,0):=by
 rcases bestC_mem (cmt l) (viewsU l) (0,0) with h | ⟨_,h⟩
 ·exact .inr h
 ·exact .inl h
theorem decB_le (l:Lgs):(decB l).2 ≤ (allO (l.vw (decB l).1)).length:=by
 rcases decB_eq l with h | h
 ·rw [h];exact cmt_le_len _ _
 ·rw [h];exact Nat.zero_le _
theorem decL_len (l:Lgs):(decL l).length = (decB l).2:=by
 unfold decL;rw [List.length_take]
 have:=decB_le l;omega
theorem decB_ge (l:Lgs) (h:v ∈ viewsU l):cmt l v ≤ (decB l).2:=(bestC_ge (cmt l) (viewsU l) (0,0)).2 v h
theorem dec_has (h:DS l) (hn:l.n % 2 = 1) (hv:l.vw v = some w) (hj:j ≤ w.all.length) (hc:0 < j→(l.n - 1) / 2 < cntV l v j):w.all.take j <+: decL l:=by
 by_cases h0:0 < j
 ·obtain ⟨T,hL⟩:=h.li;have hc:=hc h0;have hle:=cmt_max hv hj hc
  have hge:=decB_ge l (viewsU_mem.2 ⟨w,hv⟩);obtain ⟨hwv,hwm⟩:=vw_v hv
  rcases decB_eq l with he | he
  ·have hpos:0 < cmt l (decB l).1:=by omega
   have hok:=cmt_ok hpos
   cases hv2:l.vw (decB l).1 with
   | none=>rw [cmt_no hv2] at hpos;omega
   | some w2 =>
    obtain ⟨hwv2,hwm2⟩:=vw_v hv2;have hd:decL l = w2.all.take (decB l).2:=by unfold decL;rw [hv2];rfl
    have hle2:=cmt_le hv2
    have key:w2.all.take j = w.all.take j:=by
     rcases Int.lt_trichotomy w.v w2.v with hlt | heq | hgt
     ·exact (later_all hL h.si hn hwm hwm2 hlt (by rw [hwv];exact hc)).2
     ·rw [Vw.uniq hL.rise hwm hwm2 heq]
     ·have h3:=(later_all hL h.si hn hwm2 hwm hgt (j:=cmt l (decB l).1) (by rw [hwv2];exact hok)).2;have h4:=congrArg (List.take j) h3
      rw [List.take_take,List.take_take,show min j (cmt l (decB l).1) = j by omega] at h4;exact h4.symm
    rw [hd,← key,show j = min j (decB l).2 by omega,← List.take_take];exact List.take_prefix _ _
  ·rw [he] at hge;have:cmt l v ≤ 0:=hge;omega
 ·have e:j = 0:=by omega
  subst e;rw [List.take_zero];exact List.nil_prefix
structure Mo (l l2:Lgs):Prop where
 n:l2.n = l.n
 vo:∀ r v,vot l r v ≤ vot l2 r v
 vw:∀ v w,l.vw v = some w→∃ w2,l2.vw v = some w2 ∧ w.all <+: w2.all
theorem Mo.refl (l:Lgs):Mo l l:=⟨rfl,fun _ _=>Int.le_refl _,fun _ w h=>⟨w,h,List.prefix_refl _⟩⟩
theorem Mo.trans {a b c:Lgs} (h:Mo a b) (h2:Mo b c):Mo a c:=
 ⟨h2.n.trans h.n, fun r v => Int.le_trans (h.vo r v) (h2.vo r v), fun v w hw => by
  obtain ⟨x,h3,h4⟩:=h.vw v w hw
  obtain ⟨y,h5,h6⟩:=h2.vw v x h3
  exact ⟨y,h5,h4.trans h6⟩⟩
theorem cntV_mono (h:Mo l l2) (v:Int) (j:Nat):cntV l v j ≤ cntV l2 v j:=by
 unfold cntV;rw [h.n,← List.countP_eq_length_filter,← List.countP_eq_length_filter];exact List.countP_mono_left fun r _ hr=>decide_eq_true (Int.le_trans (of_decide_eq_true hr) (h.vo r v))
theorem dec_mono (h2:DS l2) (hn:l2.n % 2 = 1) (hM:Mo l l2):decL l <+: decL l2:=by
 rcases decB_eq l with he | he
 ·cases hv:l.vw (decB l).1 with
  | none =>
   have:decL l = []:=by unfold decL;rw [hv];exact List.take_nil
   rw [this];exact List.nil_prefix
  | some w =>
   obtain ⟨w2,h3,h4⟩:=hM.vw _ w hv;have hle:=cmt_le hv;have hd:decL l = w.all.take (decB l).2:=by unfold decL;rw [hv];rfl
   obtain ⟨t,ht⟩:=h4;have e:w2.all.take (decB l).2 = w.all.take (decB l).2:=by rw [← ht,List.take_append_of_le_length (by omega)]
   rw [hd,← e];refine dec_has h2 hn h3 (by rw [← ht,List.length_append];omega) fun hpos=>?_;rw [he] at hpos ⊢
   have:=cmt_ok hpos;have h5:=cntV_mono hM (decB l).1 (cmt l (decB l).1)
   rw [hM.n];omega
 ·have:decL l = []:=by unfold decL;rw [he];exact List.take_zero
  rw [this];exact List.nil_prefix
theorem Mo.take {l:Lgs} {T:Nat} (hL:LI l T) {m:Msg} (hm:Rdy l m):Mo l (l.take m).2:=by
 have hg:=Grow.counts hL hm.min;have hp:=past_step hL m
 rw [hm.take];refine ⟨(l.counts_nk m).1,fun r v=>?_,fun v w hw=>?_⟩
 ·show (PM.voted (l.past r).all v).getD 0 ≤ (PM.voted ((l.counts m).2.past r).all v).getD 0
  cases e:PM.voted (l.past r).all v with
  | some k =>
   obtain ⟨k',h1,h2⟩:=(hp r).up v k e;rw [h2];exact h1
  | none =>
   cases e2:PM.voted ((l.counts m).2.past r).all v with
   | none=>exact Int.le_refl _
   | some k =>
    show (0:Int) ≤ k;by_cases hr:r < l.n
    ·have hw:=(hL.counts hm.min).wf r (by rw [(l.counts_nk m).1];exact hr);exact (hw.low _ (voted_mem _ _ _ e2)).2.2.1
    ·exfalso;have hor:=hm.min.o;have hne:r ≠ orgI m:=fun e=>hr (by rw [e];unfold orgI;omega)
     have h3:=(near hL hm.min).past r hne;rw [h3,e] at e2;cases e2
 ·obtain ⟨w2,h1,h2⟩:=hg.vw v w hw;exact ⟨w2,h1,h2⟩
theorem Mo.run:∀ {a:List Msg} {L:Lgs},(∃ T,LI L T)→RunF L a→Mo L (stF L a)
 | [],L,_,_=>Mo.refl L
 | m::a,L,⟨T,hL⟩,hr=>(Mo.take hL hr.1).trans (Mo.run (a:=a) (L:=(L.take m).2) ⟨T + 1,hL.take hr.1.v⟩ hr.2)
theorem DS.world {all:List Msg} (hW:WOK n all) (hv:∀ m ∈ all,0 ≤ m.body.view) (h3:3 ≤ n) (h11:n ≤ 11):DS (lgsOf n all):=by
 have hr:=world_run hW hv all.length (Nat.le_refl _);rw [List.take_length] at hr
 have:=DS.run (DS.new h3 h11) hr;rwa [zcg n] at this
theorem unk_run {n:Nat} {all:List Msg} (hW:WOK n all) (hv:∀ m ∈ all,0 ≤ m.body.view):∀ (ms:List Msg) (u:Nat→Int) (L:Lgs),Knw all u→unk u all = ms→L.n = n→(∀ i,L.known i = u i)→RunF L ms
 | [],_,_,_,_,_,_=>trivial
 | m :: rest, u, L, hk, hu, hn, hkn => by
  obtain ⟨h1,_,h3,h4,h5⟩:=unk_first hW hk hu
  have hmem:m ∈ all:=by
   have:m ∈ unk u all:=by rw [hu];simp
   unfold unk at this;exact (List.mem_filter.1 this).1
  obtain ⟨i,hi⟩:=List.getElem?_of_mem hmem
  have hok:=hW i m hi
  have hf:=hok.fits
  unfold fitsB at hf
  simp only [Bool.and_eq_true] at hf
  obtain ⟨f1,f2,f3,_⟩:=hf
  have hks:=knownS_uptoS hk (orgI m)
  unfold knownS at hks
  have hnum:m.number = u (orgI m) + 1:=by
   unfold chk at h1
   rw [if_neg (by rw [hok.fits];decide),if_neg (by rw [hok.right];decide)] at h1
   split at h1
   ·exact absurd h1 (by decide)
   ·split at h1
    ·exact absurd h1 (by decide)
    ·split at h1
     ·exact absurd h1 (by decide)
     ·rename_i a b c
      have:¬ (((uptoS all u (orgI m)).length + 1:Nat):Int) < m.number:=fun e=>c (.inl e)
      omega
  have hrd:Rdy L m:=⟨f1,by rw [hn];exact of_decide_eq_true f2,by rw [hn];exact f3,hv m hmem,by rw [hkn];exact hnum,fun j hj=>by rw [hkn];exact h5 j hj⟩
  refine ⟨hrd,unk_run hW hv rest (updF u (orgI m) (u (orgI m) + 1)) (L.take m).2 h3 h4 (by rw [Lgs.take_n,hn]) fun j=>?_⟩
  rw [take_known hrd]
  by_cases e:j = orgI m
  ·rw [e,zae,zae,hkn]
  ·rw [zaf _ _ e,zaf _ _ e,hkn]
theorem sub_unk_perm (k:Nat→Int) (all:List Msg):(sub k all ++ unk k all).Perm all:=by
 have h:=List.filter_append_perm (fun m:Msg=>decide (m.number ≤ k (orgI m))) all
 have e:(all.filter fun m=>!decide (m.number ≤ k (orgI m))) = unk k all:=by
  unfold unk;refine List.filter_congr fun m _=>?_;by_cases h:m.number ≤ k (orgI m)
  ·rw [decide_eq_true h,decide_eq_false (by omega)];rfl
  ·rw [decide_eq_false h,decide_eq_true (by omega)];rfl
 rw [e] at h;exact h
theorem sub_all {all:List Msg} {k:Nat→Int} (hW:WOK n all) (hk:Knw all k) (hv:∀ m ∈ all,0 ≤ m.body.view) (h3:3 ≤ n) (h11:n ≤ 11) :
  DS (lgsOf n (sub k all)) ∧ DS (lgsOf n all) ∧ Mo (lgsOf n (sub k all)) (lgsOf n all):=by
 have h0:∀ i,0 ≤ k i:=fun i=>(hk.le i).1;have hW1:WOK n (sub k all):=WOK.sub h0 all hW hk.closed
 have hv1:∀ m ∈ sub k all,0 ≤ m.body.view:=fun m hm=>hv m (sub_mem.1 hm).1;have hD1:=DS.world hW1 hv1 h3 h11
 have hD2:=DS.world hW hv h3 h11;have hr1:=world_run hW1 hv1 (sub k all).length (Nat.le_refl _)
 rw [List.take_length] at hr1
 have hkn:∀ i,(lgsOf n (sub k all)).known i = k i:=fun i=>by
  have h1:=lgsOf_known hW1 (sub k all).length (Nat.le_refl _);rw [List.take_length] at h1
  rw [h1];show ((cnt (sub k all) i:Nat):Int) = k i;rw [cnt_sub h0 all hW i,minU_all hk]
 have hr2:=unk_run hW hv (unk k all) k (lgsOf n (sub k all)) hk rfl (lgsOf_n _ _) hkn
 have hr3:RunF (Lgs.new n) (sub k all ++ unk k all):=by
  refine RunF.app.2 ⟨hr1,?_⟩;rw [zcg n];exact hr2
 have hr4:=world_run hW hv all.length (Nat.le_refl _);rw [List.take_length] at hr4
 have hI:Inv (Lgs.new n):=⟨⟨0,LI.new h3 h11⟩,CI.new n⟩;have e:=(run_order hI hr3 hr4 (sub_unk_perm k all)).1
 rw [stF_app,zcg n (sub k all),zcg n all] at e;have hM:=Mo.run hD1.li hr2;refine ⟨hD1,hD2,?_⟩
 have e:stF (lgsOf n (sub k all)) (unk k all) = lgsOf n all:=e;rw [e] at hM
 exact hM
theorem dec_sub {all:List Msg} {k:Nat→Int} (hW:WOK n all) (hk:Knw all k) (hv:∀ m ∈ all,0 ≤ m.body.view) (h3:3 ≤ n) (h11:n ≤ 11) (hodd:n % 2 = 1):decL (lgsOf n (sub k all)) <+: decL (lgsOf n all):=by
 obtain ⟨_,h2,h3⟩:=sub_all hW hk hv h3 h11;exact dec_mono h2 (by rw [lgsOf_n];exact hodd) h3
theorem dec_app {a b:List Msg} (hW:WOK n (a ++ b)) (hv:∀ m ∈ a ++ b,0 ≤ m.body.view) (h3:3 ≤ n) (h11:n ≤ 11) (hodd:n % 2 = 1):decL (lgsOf n a) <+: decL (lgsOf n (a ++ b)):=by
 have hD2:=DS.world hW hv h3 h11;have hr:=world_run hW hv (a ++ b).length (Nat.le_refl _)
 rw [List.take_length] at hr;have hr2:=(RunF.app.1 hr).2;rw [zcg n] at hr2
 have hD1:=DS.world hW.pre (fun m hm=>hv m (List.mem_append_left _ hm)) h3 h11;have hM:=Mo.run hD1.li hr2
 have e:stF (lgsOf n a) b = lgsOf n (a ++ b):=by
  show stF (a.foldl (fun L m=>(L.take m).2) (Lgs.new n)) b = (a ++ b).foldl (fun L m=>(L.take m).2) (Lgs.new n);rw [← zcg n a,← stF_app,zcg n]
 rw [e] at hM;exact dec_mono hD2 (by rw [lgsOf_n];exact hodd) hM
variable {α:Type}
theorem pre_take {a b c:List α} (ha:a <+: c) (hb:b <+: c):a.take (min a.length b.length) = b.take (min a.length b.length):=by
 obtain ⟨s,rfl⟩:=ha;obtain ⟨t,ht⟩:=hb;have h1:(a ++ s).take (min a.length b.length) = a.take (min a.length b.length):=List.take_append_of_le_length (Nat.min_le_left _ _);have h2:(b ++ t).take (min a.length b.length) = b.take (min a.length b.length):=List.take_append_of_le_length (Nat.min_le_right _ _)
 rw [← h1,← h2,ht]
variable {ys:List Int}
theorem cntV_perm (hp:ys.Perm ((List.range l.n).map fun r=>vot l r v)) (j:Nat):cntV l v j = ys.countP fun y=>decide ((j:Int) ≤ y):=by
 unfold cntV;rw [hp.countP_eq,List.countP_map,List.countP_eq_length_filter];rfl
theorem cmt_sort (hv:l.vw v = some w) (hodd:l.n % 2 = 1) (hnn:∀ r,r < l.n→0 ≤ vot l r v) (hp:ys.Perm ((List.range l.n).map fun r=>vot l r v)) (hs:ys.Pairwise fun a b=>b ≤ a) :
  ∃ x,ys[l.n / 2]? = some x ∧ 0 ≤ x ∧ (if x ≤ (w.all.length:Int) then x else (w.all.length:Int)) = (cmt l v:Nat):=by
 have hl:ys.length = l.n:=by rw [hp.length_eq,List.length_map,List.length_range]
 have hlt:l.n / 2 < ys.length:=by omega
 refine ⟨ys[l.n / 2],List.getElem?_eq_getElem hlt,?_,?_⟩
 ·exact qbS
 ·have hx0:0 ≤ ys[l.n / 2]:=by
   exact qbS
  have hcut:ys = ys.take (l.n / 2) ++ ys[l.n / 2]::ys.drop (l.n / 2 + 1):=by
   rw [← List.drop_eq_getElem_cons hlt,List.take_append_drop]
  generalize ys[l.n / 2] = x at hcut hx0 ⊢;have hla:(ys.take (l.n / 2)).length = l.n / 2:=by rw [List.length_take];omega
  have hpw:=hs;rw [hcut] at hpw
  obtain ⟨_,hpw2,hpw3⟩:=List.pairwise_append.1 hpw
  have key:∀ j:Nat,((l.n - 1) / 2 < cntV l v j ↔ (j:Int) ≤ x):=fun j=>by
   rw [cntV_perm hp,hcut,List.countP_append,List.countP_cons];constructor
   ·intro h;by_cases hj:(j:Int) ≤ x
    ·exact hj
    ·exfalso
     have h1:(ys.drop (l.n / 2 + 1)).countP (fun y=>decide ((j:Int) ≤ y)) = 0:=by
      rw [List.countP_eq_zero];intro y hy
      have:=(List.pairwise_cons.1 hpw2).1 y hy;simp only [decide_eq_true_eq]
      omega
     have h2:=List.countP_le_length (p:=fun y=>decide ((j:Int) ≤ y)) (l:=ys.take (l.n / 2));rw [h1,decide_eq_false hj] at h
     simp only [Bool.false_eq_true,if_false] at h;omega
   ·intro hj
    have h1:(ys.take (l.n / 2)).countP (fun y=>decide ((j:Int) ≤ y)) = (ys.take (l.n / 2)).length:=by
     rw [List.countP_eq_length];intro y hy
     have:=hpw3 y hy x (by simp);simp only [decide_eq_true_eq]
     omega
    rw [h1,decide_eq_true hj,hla,if_pos rfl];omega
  have h1:=cmtF_le l v w.all.length;have h2:=cmtF_ok l v w.all.length
  have h3:=cmtF_max l v w.all.length;rw [cmt_at hv]
  generalize cmtF l v w.all.length = c at h1 h2 h3 ⊢;have h4:0 < c→(c:Int) ≤ x:=fun h=>(key c).1 (h2 h);have h5:=h3 (min x.toNat w.all.length) (by omega) ((key _).2 (by omega))
  split <;> omega
theorem LI.vot0 (h:LI l T) (hr:r < l.n) (v:Int):0 ≤ vot l r v ∧ vot l r v ≤ (T:Int):=by
 unfold vot
 cases e:PM.voted (l.past r).all v with
 | none=>exact ⟨Int.le_refl _,by show (0:Int) ≤ T;omega⟩
 | some k=>have:=(h.wf r hr).low _ (voted_mem _ _ _ e);exact ⟨this.2.2.1,this.2.2.2⟩
variable {fl:Frag} {lb:Nat}
section
variable (f:Frag) (F:List HP)
theorem dcfew_fn (hn3:3 ≤ n ∧ n ≤ 11) (hodd:n % 2 = 1):Fn Tryz.prog 68 [.int .i64 (n:Int)] f F (Ret (.bool true) f F):=by
 refine Fn.e1 Tryz.func68 Tryz.ntmps68 fun base=>?_;refine gV ?_;refine H.rem (z:=1) rfl rfl rfl (by decide) (zak (a:=n) (b:=2) hodd) rfl ?_;refine gL ?_;exact qah
theorem committed_fn (hfl:Le fl f) (hL:LI l T) (hT:T ≤ 50000) (hodd:l.n % 2 = 1) (v:Int) :
  Fn Tryz.prog 33 [.pointer (some ⟨lb,0,none⟩),.int .i64 (l.n:Int),.int .u64 v] f (plogH fl lb l::F) (Ret (.int .i64 (cmt l v:Nat)) f (plogH fl lb l::F)):=by
 have hn:=hL.n3;have hlog:=fun G=>pllogO_fn f G (fl:=fl) (lb:=lb) hL hT v
 refine Fn.e3 Tryz.func33 Tryz.ntmps33 fun base=>?_;refine gJ ?_;refine H.cl (hlog _) fun x f' A' hr=>?_;obtain ⟨p,c,rfl,rfl,rfl⟩:=hr;clear hlog
 cases hv:l.vw v with
 | none =>
  have e:cmt l v = 0:=cmt_no hv;rw [e]
  exact qcn
 | some w =>
  have hwl:=hL.al w (vw_v hv).2;refine qhb ?_
  refine H.Af rfl rfl rfl (dcfew_fn _ _ hn hodd) ?_;refine gW ?_;refine H.slc0 3 1 ?_
  refine H.lo (ι:=Nat × Option Addr × Nat) (fun s=>[(10,.int .i64 ((s.1 + 1:Nat):Int)),(9,.slice s.2.1 s.1 s.2.2),(7,.slice p w.all.length c),(2,.int .u64 v),(1,.int .i64 (l.n:Int)),(0,.pointer (some ⟨lb,0,none⟩))]) (fun _=>f')
   (fun s=>slc s.2.1 s.1 s.2.2 3 1 (((List.range s.1).map fun r=>vot l r v).flatMap iV)::slc p w.all.length c 44 40 (w.all.flatMap Req.vals)::plogH fl lb l::F) (fun s=>s.1 ≤ l.n) (fun s=>l.n - s.1)
   (0,none,0) (Nat.zero_le _) fun s hs=>?_
  obtain ⟨k,q,qc⟩:=s;have hs:k ≤ l.n:=hs;show H _ _ _ [(10,.int .i64 ((k + 1:Nat):Int)),(9,.slice q k qc),_,_,_,_] f' (slc q k qc _ 1 (((List.range k).map fun r=>vot l r v).flatMap iV)::_::_::F) _
  by_cases hk:k < l.n
  ·have hvo:=fun G=>plvoted_fn f' G hfl (lb:=lb) (l:=l) (by omega) hk (r:=((k + 1:Nat):Int)) (v:=v) rfl;refine gG ?_
   refine qeY ?_;refine H.cr (hvo _) ?_;refine gX ?_;refine H.Ar (out:=iV (vot l k v)) rfl rfl rfl rfl (by decide) (by decide) rfl rfl fun eb=>?_;skip;refine H.Aw (sz:=1) (p:=q) (n0:=k) (c:=qc) (xs:=((List.range k).map fun r=>vot l r v).flatMap iV) (m:=1) (news:=iV (vot l k v)) rfl rfl rfl rfl rfl (fun p' c'=>(by repeat constructor)) (Src.slice (Rd.ofRow (by repeat constructor)) rfl) (zaa rfl) rfl (by omega) (by omega) fun p2 c2=>?_;refine qgC ?_;refine gD ?_;refine qeY ?_;refine H.pf (x:=slc p _ _ _ _ _) ?_;refine H.pf (x:=slc p2 _ _ _ _ _) ?_
   exact H.Aq (k + 1,p2,c2) (by show k + 1 ≤ l.n;omega) (by show l.n - (k + 1) < l.n - k;omega) ⟨rfl,rfl,rfl,rfl,rfl,rfl,trivial⟩ rfl (by
    show slc p2 (k + 1) c2 _ 1 (((List.range k).map fun r=>vot l r v).flatMap iV ++ iV (vot l k v))::_ = slc p2 (k + 1) c2 _ 1 (((List.range (k + 1)).map fun r=>vot l r v).flatMap iV)::_;rw [List.range_succ,List.map_append,List.flatMap_append]
    rfl)
  ·have e:k = l.n:=by omega
   subst e;refine gP ?_;refine H.Al rfl rfl rfl (sortD_fn f' _ (p:=q) (n:=l.n) (c:=qc) (xs:=(List.range l.n).map fun r=>vot l r v) (by rw [List.length_map,List.length_range]) (by omega)) fun x f2 A' hr=>?_;obtain ⟨ys,hp,hso,rfl,rfl,rfl⟩:=hr;obtain ⟨x,hx,hx0,hmin⟩:=cmt_sort hv hodd (fun r hr=>(hL.vot0 hr v).1) hp hso;have hyl:ys.length = l.n:=by rw [hp.length_eq,List.length_map,List.length_range]
   refine H.Av (p:=q) (n0:=l.n) (c:=qc) (T:=3) (sz:=1) (xs:=ys.flatMap iV) (.here _ _ _) (by omega) fun sb hp=>?_;subst hp;have hrd:∀ {G},Rd1 f2 (slc (some ⟨sb,0,none⟩) l.n qc 3 1 (ys.flatMap iV)::G) sb ((l.n / 2) * 1) (.int .i64 x):=fun {G}=>Rd1.of (i:=0) (Rd.slcElem (vals:=iV) (xs:=ys) iV_len (by decide) (.here _ _ _) hx) rfl
   have hq:((l.n:Int)).tdiv 2 = ((l.n / 2:Nat):Int):=by
    rw [Int.tdiv_eq_ediv_of_nonneg (by omega)];omega
   refine gJ ?_;refine H.quo (z:=((l.n / 2:Nat):Int)) rfl rfl rfl (by decide) (by rw [show (2:Int) = ((2:Nat):Int) from rfl,tdiv64,wr_i64 (by omega)]) rfl ?_;refine H.Aj (i:=l.n / 2) rfl rfl rfl rfl (by omega) rfl ?_;refine H.Ab rfl rfl rfl hrd rfl ?_;refine gJ ?_;refine H.min2 (z:=((cmt l v:Nat):Int)) rfl rfl rfl (by rw [← hmin];split <;> split <;> omega) rfl ?_;refine qfm ?_;exact qaz
theorem dbest_fn (hfl:Le fl f) (hL:LI l T) (hT:T ≤ 254) (hodd:l.n % 2 = 1) :
  Fn Tryz.prog 67 [.pointer (some ⟨lb,0,none⟩),.int .i64 (l.n:Int)] f (plogH fl lb l::F) (Ret (.tuple #[.int .u64 (decB l).1,.int .i64 ((decB l).2:Nat)]) f (plogH fl lb l::F)):=by
 have hcm:=fun G v=>committed_fn f G hfl (lb:=lb) hL (by omega) hodd v;have hvl:=hL.vl
 have hul:(viewsU l).length = l.vs.length:=by unfold viewsU;rw [List.length_map]
 refine Fn.e2 Tryz.func67 Tryz.ntmps67 fun base=>?_;refine gJ ?_;refine H.Al rfl rfl rfl (plviews_fn f _ (fl:=fl) (lb:=lb) hL hT) fun x f' A' hr=>?_;obtain ⟨p,c,rfl,hff,rfl⟩:=hr;rw [hff];clear hff;obtain ⟨vs,hvs⟩:∃ vs,vs = viewsU l:=⟨_,rfl⟩;rw [← hvs] at hul ⊢;have hdb:decB l = bestC (cmt l) vs (0,0):=by rw [hvs];rfl
 refine gR ?_;refine qeY ?_
 refine H.lo (ι:=Nat) (fun k=>[(12,.int .i64 (k:Int)),(11,.int .i64 (vs.length:Nat)),(10,.slice p vs.length c),(5,.int .i64 ((bestC (cmt l) (vs.take k) (0,0)).2:Nat)),(4,.int .u64 (bestC (cmt l) (vs.take k) (0,0)).1),(1,.int .i64 (l.n:Int)),(0,.pointer (some ⟨lb,0,none⟩))]) (fun _=>f)
  (fun _=>plogH fl lb l::slc p vs.length c 24 1 (vs.flatMap uV)::F) (fun k=>k ≤ vs.length) (fun k=>vs.length - k)
  0 (Nat.zero_le _) fun k hk=>?_
 have hk:k ≤ vs.length:=hk;by_cases hlt:k < vs.length
 ·obtain ⟨v,hv⟩:∃ v,vs[k]? = some v:=⟨_,List.getElem?_eq_getElem hlt⟩;refine qfh fun sb hp=>?_;subst hp;have hrd:∀ {G},Rd1 f (plogH fl lb l::slc (some ⟨sb,0,none⟩) vs.length c 24 1 (vs.flatMap uV)::G) sb (k * 1) (.int .u64 v):=fun {G}=>Rd1.of (i:=0) (Rd.slcElem (vals:=uV) (xs:=vs) uV_len (by decide) (.there _ (.here _ _ _)) hv) rfl;have hsn:=bestC_snoc (cmt l) v (vs.take k) (0,0)
  rw [← zbh hv] at hsn;generalize bestC (cmt l) (vs.take k) (0,0) = b at hsn ⊢;refine gG ?_;refine H.Aj (i:=k) rfl rfl rfl rfl (by omega) rfl ?_;refine H.Ab rfl rfl rfl hrd rfl ?_;refine gJ ?_;refine H.Af rfl rfl rfl (hcm _ v) ?_;by_cases hb:b.2 < cmt l v
  ·rw [if_pos hb] at hsn;refine gc ?_;exact qbb
  ·rw [if_neg hb] at hsn;refine gP ?_;exact qbb
 ·have e:k = vs.length:=by omega
  subst e;rw [List.take_length,← hdb];refine gP ?_;refine H.pd (x:=slc p _ _ _ _ _) ?_;exact qaT
def DecP (f:Frag) (A:List HP) (R:List Req):Value→Frag→List HP→Prop:=fun v f' A'=>∃ (p:Option Addr) (c:Nat),v = .slice p R.length c ∧ f' = f ∧ A' = slc p R.length c 44 40 (R.flatMap Req.vals)::A
theorem decided_fn (hfl:Le fl f) (hL:LI l T) (hT:T ≤ 254) (hodd:l.n % 2 = 1) :
  Fn Tryz.prog 31 [.pointer (some ⟨lb,0,none⟩),.int .i64 (l.n:Int)] f (plogH fl lb l::F) (DecP f (plogH fl lb l::F) (decL l)):=by
 have hb:=fun G=>dbest_fn f G hfl (lb:=lb) hL hT hodd;have hlog:=fun G=>pllogO_fn f G (fl:=fl) (lb:=lb) hL (by omega) (decB l).1
 have hle:=decB_le l;have hd:decL l = (allO (l.vw (decB l).1)).take (decB l).2:=rfl
 have hdl:=decL_len l;unfold DecP
 rw [hdl];generalize decB l = b at hle hd hlog hb hdl;refine Fn.e2 Tryz.func31 Tryz.ntmps31 fun base=>?_;refine gJ ?_;refine H.cr (hb _) ?_;refine gX ?_;refine H.cl (hlog _) fun x f' A' hr=>?_;obtain ⟨p,c,rfl,rfl,rfl⟩:=hr;generalize allO (l.vw b.1) = R at hle hd ⊢;refine gX ?_;refine H.Cg (.here _ _ _) fun hcap _ hpl=>?_;refine H.sliceTo (hv:=b.2) rfl rfl rfl rfl (by omega) rfl ?_;refine H.slc_trunc (m':=b.2) (ys:=(decL l).flatMap Req.vals) hle hcap (by rw [hd,flat_take Req.len]) ?_;exact qcN
theorem dview_fn (hfl:Le fl f) (hL:LI l T) (hT:T ≤ 254) (hodd:l.n % 2 = 1) :
  Fn Tryz.prog 32 [.pointer (some ⟨lb,0,none⟩),.int .i64 (l.n:Int)] f (plogH fl lb l::F) (Ret (.int .u64 (decB l).1) f (plogH fl lb l::F)):=by
 refine Fn.e2 Tryz.func32 Tryz.ntmps32 fun base=>?_;refine gJ ?_;refine H.Af rfl rfl rfl (dbest_fn f _ hfl (lb:=lb) hL hT hodd) ?_;refine gW ?_;exact qah
end
variable {c:Nat}
theorem rd_uV {e:Frag} {A A':List HP} {b:Nat} {K:List Int} (h:At A (slc (some ⟨b,0,none⟩) n c 24 1 (K.flatMap uV)) A' (slc (some ⟨b,0,none⟩) n c 24 1 (K.flatMap uV))) {k:Nat} {x:Int} (hg:K[k]? = some x):Rd1 e A b (0 + k * 1) (.int .u64 x):=by
 rw [Nat.zero_add];exact Rd1.of (i:=0) (Rd.slcElem uV_len (by decide) h hg) rfl
section
variable (f:Frag) (F:List HP)
end
section
variable (f:Frag) (F:List HP)
def lgL (lb n:Nat) (kn:Nat→Int) (V:List VV) (vp:Option Addr) (vc:Nat) (pp:Option Addr) (pc:Nat) (cp:Option Addr) (cc:Nat) (F:List HP):List HP:=
 row lb 75 (lgC n kn vp V.length vc pp pc cp cc)::slc vp V.length vc 81 4 (V.flatMap VV.vals)::lst (V.map VV.own)::F
theorem lglog_fn (hfl:Le fl f) (hL:LI l T) (hT:T ≤ 50000) {i:LPt} (hi:lgφ fl l i) {kn:Nat→Int} {pp:Option Addr} {pc:Nat} {cp:Option Addr} {cc:Nat} (v:Int) :
  Fn Tryz.prog 66 [.pointer (some ⟨lb,0,none⟩),.int .u64 v] f (lgL lb l.n kn i.V i.vp i.vc pp pc cp cc F) (LogOR f (lgL lb l.n kn i.V i.vp i.vc pp pc cp cc F) (l.vw v)):=by
 have hvs:=hi.vs;have hlen:=hi.len
 have hsat:=hi.s;have hvl:=hL.vl
 obtain ⟨V,vp,vc,pp0,pc0,cp0,cc0,pb,cs⟩:=i;have hvs:V.map VV.w = l.vs:=hvs;have hlen:V.length = l.vs.length:=hlen
 have hview:=fun G=>lgview_fn f G (lb:=lb) (n:=l.n) (kn:=kn) (V:=V) (vp:=vp) (vc:=vc) (pp:=pp) (pc:=pc) (cp:=cp) (cc:=cc) (by omega) v;rw [hvs] at hview
 show Fn _ _ _ f (row lb 75 (lgC l.n kn vp V.length vc pp pc cp cc)::slc vp V.length vc 81 4 (V.flatMap VV.vals)::lst (V.map VV.own)::F) (LogOR f (row lb 75 (lgC l.n kn vp V.length vc pp pc cp cc)::slc vp V.length vc 81 4 (V.flatMap VV.vals)::lst (V.map VV.own)::F) (l.vw v))
 cases hat:vwAt l.vs v with
 | none =>
  rw [vw_none.2 hat];have hz:vwZ l.vs v = -1:=by unfold vwZ;rw [hat]
  rw [hz] at hview;refine Fn.e2 Tryz.func66 Tryz.ntmps66 fun base=>?_;refine gJ ?_;refine H.cr (hview _) ?_;refine gU ?_;refine H.slc0 44 40 ?_;exact H.Bb rfl rfl rfl (fun _ h=>h) ⟨none,0,rfl,rfl,rfl⟩
 | some j =>
  obtain ⟨⟨w,hw,hwv⟩,_⟩:=zaq.1 hat;have hz:vwZ l.vs v = (j:Nat):=by unfold vwZ;rw [hat]
  rw [hz] at hview
  obtain ⟨X,hX,hXw⟩:∃ X,V[j]? = some X ∧ X.w = w:=by
   rw [← hvs,List.getElem?_map] at hw
   cases e:V[j]? with
   | none=>rw [e] at hw;cases hw
   | some x=>rw [e] at hw;cases hw;exact ⟨x,rfl,rfl⟩
  subst hXw;have hj:=(List.getElem?_eq_some_iff.1 hX).1;have hXs:=hsat X (List.mem_of_getElem? hX)
  have hal:=hL.al _ (List.mem_of_getElem? hw);rw [X.w.all_len] at hal
  have hvw:l.vw v = some X.w:=by unfold Lgs.vw;rw [hat];exact hw
  rw [hvw];refine Fn.e2 Tryz.func66 Tryz.ntmps66 fun base=>?_;refine gJ ?_;refine H.cr (hview _) ?_;refine qfd fun vb hvb=>?_;subst hvb;refine gU ?_;refine H.Ag (i:=j) rfl rfl rfl rfl hj rfl ?_;refine H.Ae (ls:=X.vals) rfl rfl rfl (by rw [Nat.zero_add];exact Rd.slcElem VV.len (by decide) (.there _ (.here _ _ _)) hX) rfl rfl ?_;refine qfb ?_;refine H.Ch (x:=X.own) (i:=j) (by rw [List.getElem?_map,hX];rfl) ?_;refine H.callE rfl rfl rfl (all_fn f _ hfl hXs (by omega)) fun ap=>?_;obtain ⟨qp,qc⟩:=ap;refine gR ?_;refine H.pf (x:=lst ((V.map VV.own).set j emp)) ?_;refine H.pf (x:=X.own) ?_;refine H.Ck (xs:=V.map VV.own) (i:=j) (by rw [List.getElem?_map,hX];rfl) ?_;refine qhd ?_;refine H.pf (x:=slc qp _ qc _ 40 _) ?_;exact H.Bb rfl rfl rfl (fun _ h=>h) ⟨qp,qc,rfl,rfl,rfl⟩
end
section
variable (f:Frag) (F:List HP)
end
section
variable (f:Frag) (F:List HP)
end
section
variable {P:Program} {base:World} {n:Nat} {L:Env} {f f':Frag} {A A':List HP} {q:Post}
/-! ### A region that draws its order, in a round -/
/-! ### Results in two cells, behind a range over a function -/
end
section
variable (f:Frag) (F:List HP)
end
section
variable (f:Frag) (F:List HP)
end
section
variable (f:Frag) (F:List HP)
end
def L4 (r:Req):Lgs:=⟨3,updF (updF (fun _=>0) 0 1) 1 1,[⟨0,0,[],[(1,r)]⟩],updF (updF (fun _=>PM.new) 0 (PM.new.prepare 0)) 1 (PM.new.commit 0 1 1),fun _=>[]⟩
theorem t16c {r:Req} {t:Nat→UInt8} (hm:(d15 t).may = true):(L1 r).take (d15 t) = ((true,0),L4 r):=by
 rw [tk_ok hm (by show (2:Int) ≤ 3;decide) rfl rfl rfl,Lgs.counts_2 (i:=0) (w:=⟨0,0,[],[(1,r)]⟩) rfl rfl rfl,if_neg]
 ·rfl
 ·exact fun h=>Bool.noConfusion (show false = true from h)
theorem dec16a (r:Req):decL (L1 r) = []:=by kernel_rfl
theorem dec16b (r:Req):decL (L4 r) = [r]:=by kernel_rfl
theorem dec16c (r:Req):(decB (L4 r)).1 = 0:=by kernel_rfl
theorem dec16d (r:Req):cmt (L4 r) 0 = 1:=by kernel_rfl
theorem ListAt.take {f:Frag} {p:Option Addr} {sz:Nat} {vals:α→List Value} {xs:List α} (h:ListAt f p sz vals xs) (k:Nat):ListAt f p sz vals (xs.take k):=fun i x hi=>by
 rw [List.getElem?_take] at hi
 split at hi
 ·exact h i x hi
 ·cases hi
section
variable (f:Frag) (F:List HP)
theorem zby (htab:TabAt f):Fn Tryz.prog 27 [] f F (Ret (.bool true) f F):=by
 obtain ⟨hau,hcl,hti⟩:=signed_auth r15_asked;have hp0:=p15_may
 have hokr:r15.Ok:=by
  unfold r15;unfold Req.signed;rw [if_pos r15_asked];exact ⟨⟨by show (0:Int) ≤ 1;decide,by show (1:Int) ≤ 18446744073709551615;decide⟩,⟨by show (0:Int) ≤ 0;decide,by show (0:Int) ≤ 18446744073709551615;decide⟩⟩
 have hau:r15.auth = true:=hau;have hsg:=fun e G=>rsigned_fn e G r15u
 have hr15:r15u.signed = r15:=by unfold r15;rfl
 rw [hr15] at hsg;clear hr15 hcl hti;generalize r15 = r at *;obtain ⟨t1,e1⟩:=signed_is hp0;obtain ⟨t3,e3⟩:=signed_is d15_may;have h1:=fun f G=>rtagged_fn f G (m:=p15 r noTag) (q:=none) (qc:=0) (QAt.nil _ none) (Nat.zero_le _);have h3:=fun f G=>rtagged_fn f G (m:=d15 noTag) (q:=none) (qc:=0) (QAt.nil _ none) (Nat.zero_le _)
 rw [e1] at h1;rw [e3] at h3;have m1:(p15 r t1).may = true:=hp0;have m3:(d15 t3).may = true:=d15_may
 have g1:∀ f,(⟨p15 r t1,none,0⟩:MV).Good f:=fun f=>⟨QAt.nil f none,Nat.zero_le _,⟨Int.le_refl _,by show (0:Int) ≤ _;decide⟩,⟨Int.le_refl _,by show (0:Int) ≤ _;decide⟩,hokr⟩;have g3:∀ f,(⟨d15 t3,none,0⟩:MV).Good f:=fun f=>⟨QAt.nil f none,Nat.zero_le _,⟨Int.le_refl _,by show (0:Int) ≤ _;decide⟩,⟨by show (0:Int) ≤ 1;decide,by show (1:Int) ≤ _;decide⟩,⟨Int.le_refl _,by show (0:Int) ≤ _;decide⟩,⟨Int.le_refl _,by show (0:Int) ≤ _;decide⟩⟩
 have k1:=t15a (r:=r) (t:=t1) m1 hau;have k3:=t16c (r:=r) (t:=t3) m3
 have i0:LI (Lgs.new 3) 0:=LI.new (by decide) (by decide);have i1:LI (L1 r) 1:=by have h:=i0.take (m:=p15 r t1) (Int.le_refl 0);rw [k1] at h;exact h
 have i3:LI (L4 r) 2:=by have h:=i1.take (m:=d15 t3) (Int.le_refl 0);rw [k3] at h;exact h
 clear e1 e3 hau hp0 hokr;refine Fn.e0 Tryz.func27 Tryz.ntmps27 fun base=>?_;refine gJ ?_;refine H.Al rfl rfl rfl (plnew_fn f _ (n:=3) (by decide)) fun v f' A' hr=>?_;obtain ⟨g,lb,hd,rfl,rfl,rfl⟩:=hr;have hle:=Le.un f g;generalize un f g = f1 at *
 have hta:=zbm htab hle;have T1:=fun G=>pltake1_fn f1 G hta (Le.refl f1) (lb:=lb) i0 (by decide) (g1 f1) rfl
 have T3:=fun G=>pltake2_fn f1 G (Le.refl f1) (lb:=lb) i1 (by decide) rise1 (g3 f1) rfl;have T1:∀ G,Fn Tryz.prog 20 [.pointer (some ⟨lb,0,none⟩),.agg ((p15 r t1).vals none 0).toArray] f1 (plogH f1 lb (Lgs.new 3)::G) (Ret (.tuple #[.bool true,.int .i64 0]) f1 (plogH f1 lb (L1 r)::G)):=fun G=>by have h:=T1 G;rw [k1] at h;exact h
 have T3:∀ G,Fn Tryz.prog 20 [.pointer (some ⟨lb,0,none⟩),.agg ((d15 t3).vals none 0).toArray] f1 (plogH f1 lb (L1 r)::G) (Ret (.tuple #[.bool true,.int .i64 0]) f1 (plogH f1 lb (L4 r)::G)):=fun G=>by have h:=T3 G;rw [k3] at h;exact h
 have D1:=fun G=>decided_fn f1 G (Le.refl f1) (lb:=lb) i1 (by decide) (show 3 % 2 = 1 from rfl);have D3:=fun G=>decided_fn f1 G (Le.refl f1) (lb:=lb) i3 (by decide) (show 3 % 2 = 1 from rfl)
 have C3:=fun G=>committed_fn f1 G (Le.refl f1) (lb:=lb) i3 (by decide) (show 3 % 2 = 1 from rfl) 0;have V3:=fun G=>dview_fn f1 G (Le.refl f1) (lb:=lb) i3 (by decide) (show 3 % 2 = 1 from rfl)
 rw [dec16a] at D1;rw [dec16b] at D3;rw [dec16c] at V3;rw [dec16d] at C3;have D1:∀ G,Fn Tryz.prog 31 [.pointer (some ⟨lb,0,none⟩),.int .i64 3] f1 (plogH f1 lb (L1 r)::G) (DecP f1 (plogH f1 lb (L1 r)::G) []):=D1;have D3:∀ G,Fn Tryz.prog 31 [.pointer (some ⟨lb,0,none⟩),.int .i64 3] f1 (plogH f1 lb (L4 r)::G) (DecP f1 (plogH f1 lb (L4 r)::G) [r]):=D3
 have C3:∀ G,Fn Tryz.prog 33 [.pointer (some ⟨lb,0,none⟩),.int .i64 3,.int .u64 0] f1 (plogH f1 lb (L4 r)::G) (Ret (.int .i64 1) f1 (plogH f1 lb (L4 r)::G)):=C3;have V3:∀ G,Fn Tryz.prog 32 [.pointer (some ⟨lb,0,none⟩),.int .i64 3] f1 (plogH f1 lb (L4 r)::G) (Ret (.int .u64 0) f1 (plogH f1 lb (L4 r)::G)):=V3
 clear i0 i1 i3 k1 k3 m1 m3 g1 g3;generalize L4 r = l4 at *;generalize L1 r = l1 at *;repeat (first | (refine H.Az (t:=44) (out:=r15u.vals) rfl rfl rfl (by kernel_rfl) rfl ?_) | (refine gg ?_))
 refine H.cr (hsg _ _) ?_;refine qeZ fun rb=>?_;refine H.Ah (ls:=Req.zero.vals) (vs:=r.vals) (ls':=r.vals) rfl rfl rfl (zaa rfl) rfl rfl (Nat.le_refl 40) (.here _ _ _) ?_;repeat (first | (refine H.Az (t:=47) (out:=({ Bod.zero 1 with req:=r }:Bod).vals none 0) rfl rfl rfl (by kernel_rfl) rfl ?_) | (refine H.Az (t:=51) (out:=(p15 r noTag).vals none 0) rfl rfl rfl (by kernel_rfl) rfl ?_) | (refine gg ?_) | (refine H.Ae (ls:=r.vals) rfl rfl rfl (Rd.ofRow (by repeat constructor)) rfl rfl ?_))
 refine H.Af rfl rfl rfl (h1 f1 _) ?_;refine H.pf (x:=plogH _ _ _) ?_;refine H.cr (T1 _) ?_;refine gJ ?_;refine H.cl (D1 _) fun v' f' A' hr=>?_;obtain ⟨p1,c1,rfl,hff,rfl⟩:=hr;rw [hff];clear hff;show H _ _ _ ((_,.slice p1 0 c1)::_) _ (slc p1 0 c1 _ 40 []::_) _;repeat (first | (refine H.buildA (t:=36) (out:=v11 fun i=>if i = 0 then 1 else 0) rfl rfl rfl (by kernel_rfl) rfl ?_) | (refine H.Az (t:=47) (out:=({ Bod.zero 2 with k:=1 }:Bod).vals none 0) rfl rfl rfl (by kernel_rfl) rfl ?_) | (refine H.Az (t:=51) (out:=(d15 noTag).vals none 0) rfl rfl rfl (by kernel_rfl) rfl ?_) | (refine gg ?_))
 refine H.Af rfl rfl rfl (h3 f1 _) ?_;refine H.pf (x:=plogH _ _ _) ?_;refine H.cr (T3 _) ?_;refine gJ ?_;refine H.cl (D3 _) fun v' f' A' hr=>?_;obtain ⟨p2,c2,rfl,hff,rfl⟩:=hr;rw [hff];clear hff;show H _ _ _ ((_,.slice p2 1 c2)::_) _ (slc p2 1 c2 _ 40 ([r].flatMap Req.vals)::_) _;refine H.Av (p:=p2) (n0:=1) (c:=c2) (T:=44) (sz:=40) (xs:=[r].flatMap Req.vals) (.here _ _ _) (by omega) fun sb hp=>?_;subst hp;have hrd:∀ {G},Rd f1 (slc (some ⟨sb,0,none⟩) 1 c2 44 40 ([r].flatMap Req.vals)::G) sb (0 * 40) r.vals:=fun {G}=>Rd.slcElem (vals:=Req.vals) (xs:=[r]) Req.len (by decide) (.here _ _ _) rfl;refine gJ ?_
 refine qgl ?_;refine qgD ?_;refine HB.qu [0,1,2,3,4,5,6,7,8,9,10,11,12,13,14,15,16] 9 ?_
 iterate 10 (
  first
   | ((first | apply HQ.Au | apply HQ.Bd | apply HQ.Be | apply HQ.Bi);(iterate 3 exact rfl))
   | (apply HQ.Bm;(iterate 3 exact rfl);exact inferInstance;exact rfl)
   | (apply HQ.Ab;(iterate 3 exact rfl);apply Rd1.ofRow;(repeat (first | exact .here _ _ _ | apply At.there));(iterate 2 exact rfl))
   | ((first | apply HQ.done0 | apply HQ.done);exact rfl)
   | ((first | apply HQ.cmp | apply HQ.Az);(iterate 5 exact rfl))
   | ((first | (apply HQ.ar;(iterate 4 exact rfl)) | (apply HQ.Bk;(iterate 2 exact rfl)));(first | (with_reducible apply zaz;omega) | (with_reducible apply zbb;omega) | (with_reducible apply zba;omega) | (with_reducible apply wr_i64;omega) | (with_reducible apply wr_u64;omega) | (with_reducible apply wr_u8;omega) | (with_reducible apply wr_u16;omega) | rfl);exact rfl)
   | (apply HQ.pass;(iterate 2 exact rfl))
   | (apply HQ.pickT;(iterate 4 exact rfl))
   | ((first | apply HQ.Bs | apply HQ.Cc | apply HQ.not);(iterate 4 exact rfl))
   | ((first | apply HQ.ptrNil | apply HQ.Cl);(iterate 5 exact rfl))
   | (apply HQ.gyes;(iterate 3 exact rfl);(first | assumption | omega))
   | (apply HQ.gno;(iterate 3 exact rfl);(first | assumption | omega))
   | (apply HQ.gtrue;(iterate 3 exact rfl);assumption)
   | (apply HQ.gfalse;(iterate 3 exact rfl);assumption))
 refine HQ.Ag (i:=0) rfl rfl rfl rfl (by omega) rfl ?_;refine HQ.Ae (ls:=r.vals) rfl rfl rfl hrd rfl rfl ?_;refine HQ.Ae (ls:=r.vals) rfl rfl rfl (Rd.ofRow (.there _ (.here _ _ _))) rfl rfl ?_;refine HQ.aggEq (xs:=r.vals) (ys:=r.vals) (D:=4) (b:=true) rfl rfl rfl rfl (by kernel_rfl) (by kernel_rfl) (by kernel_rfl) (by kernel_rfl) (by decide) (eqC_refl rfl) rfl ?_;refine gI ?_;refine qgA ?_;refine H.pf (x:=plogH _ _ _) ?_;refine H.cr (C3 _) ?_;refine qgl ?_;refine qcS ?_;refine HB.qu [18,19,20,21] 4 ?_;refine gN ?_;refine qdb ?_;refine HB.ev 22 ?_;refine H.pf (x:=plogH _ _ _) ?_;refine H.cr (V3 _) ?_;refine qgl ?_;refine qcS ?_;refine HB.qu [23,24,25] 0 ?_;refine gN ?_;refine qdk ?_;refine qfm ?_;refine qgi ?_;refine qdp ?_;refine H.weakL hle ?_;exact qah
end
section
variable {l:Lgs} {T:Nat} {o:Nat} {m:Msg}
end
section
variable {X:Nat} {l:Lgs} {o:Nat} {pend:List Req} {wish:Int}
variable {l':Lgs}
end
section
variable {l:Lgs} {W:Int} {q:Req} {T:Nat}
end
structure KOK (n:Nat) (all:List Msg) (k:Nat→Int):Prop where
 w:WOK n all
 n3:3 ≤ n
 n11:n ≤ 11
 v:∀ m ∈ all,0 ≤ m.body.view
 z:∀ i,0 ≤ k i
 c:∀ x ∈ all,x.number ≤ k (orgI x)→∀ i,i < 11→x.deps i ≤ k i
theorem KOK.li {all:List Msg} {k:Nat→Int} (h:KOK n all k) (i:Nat):LI (lgsOf n (sub k (all.take i))) (sub k (all.take i)).length:=lgsOf_LI h.n3 h.n11 _ fun m hm=>h.v m (List.mem_of_mem_take (sub_mem.1 hm).1)
def AtP (f:Frag) (F:List HP) (n:Nat) (all:List Msg):Value→Frag→List HP→Prop:=fun v f' A'=>∃ (g:Frag) (lb:Nat),Dj f g ∧ v = .tuple #[.pointer (some ⟨lb,0,none⟩),.bool true] ∧ f' = un f g ∧ A' = plogH f' lb (lgsOf n all)::F
def RAtP (f:Frag) (F:List HP) (n:Nat) (all:List Msg):Value→Frag→List HP→Prop:=fun v f' A'=>∃ (g:Frag) (lb:Nat),Dj f g ∧ v = .pointer (some ⟨lb,0,none⟩) ∧ f' = un f g ∧ A' = logsH f' lb (lgsOf n all)::F
variable {n8:UInt8} {W:W12} {kb ac lb0 wb:Nat} {ap:Option Addr}
section
variable (f:Frag) (F:List HP)
theorem at16_fn (htab:TabAt f) (hn8:n = 3 + 2 * (n8.toNat % 5)) {l:List MV} (hwat:WAt f n W kb ap l) {k:Nat→Int} (hK:KOK n W.all k) (hl:W.all.length ≤ 1000) :
  Fn Tryz.prog 17 [.pointer (some ⟨wb,0,none⟩),.agg (v11 k).toArray] f (row wb 34 (w15C kb n ap l.length ac lb0)::F) (AtP f (row wb 34 (w15C kb n ap l.length ac lb0)::F) n (sub k W.all)):=by
 have hn3:3 ≤ n ∧ n ≤ 11:=by omega
 have hodd:n % 2 = 1:=by omega
 have hlm:=hwat.m;have hll:l.length = W.all.length:=by rw [← hlm,List.length_map]
 refine Fn.e2 Tryz.func17 Tryz.ntmps17 fun base=>?_;refine gA ?_;refine H.box (ls:=v11 k) rfl rfl rfl rfl fun xb=>?_;refine gF ?_;refine H.Al rfl rfl rfl (plnew_fn f _ (n:=n) (fewz_odd hn8)) fun v f' A' hr=>?_;obtain ⟨g,lb,hd,rfl,rfl,rfl⟩:=hr;have hle:=Le.un f g;obtain ⟨f1,hf1⟩:∃ f1,f1 = un f g:=⟨_,rfl⟩
 rw [← hf1] at hle ⊢;have hta:=zbm htab hle;have hwa1:=hwat.mono hle
 refine gT ?_;refine qer ?_
 refine H.lo (ι:=Nat) (fun i=>[(8,.int .i64 (i:Int)),(6,.pointer (some ⟨lb,0,none⟩)),(3,.pointer (some ⟨xb,0,none⟩)),(0,.pointer (some ⟨wb,0,none⟩))]) (fun _=>f1)
  (fun i=>row xb 36 (v11 k)::plogH f1 lb (lgsOf n (sub k (W.all.take i)))::row wb 34 (w15C kb n ap l.length ac lb0)::F) (fun i=>i ≤ W.all.length) (fun i=>W.all.length - i)
  0 (Nat.zero_le _) fun i hi=>?_
 have hi:i ≤ W.all.length:=hi;by_cases hlt:i < W.all.length
 ·obtain ⟨b,off,rfl,rdA⟩:=hwa1.a.all MV.len (by decide) (by omega);obtain ⟨y,hy⟩:∃ y,l[i]? = some y:=⟨_,List.getElem?_eq_getElem (by omega)⟩;have hym:W.all[i]? = some y.m:=by rw [← hlm,List.getElem?_map,hy];rfl
  have hyg:=hwa1.g y (List.mem_of_getElem? hy);have hmo:=(hK.w i y.m hym).org
  have hoz:y.m.origin - 1 = (orgI y.m:Nat):=by unfold orgI;omega
  have hon:orgI y.m < 11:=by unfold orgI;omega
  have hLI:=hK.li i;have hLl:(sub k (W.all.take i)).length ≤ 1000:=Nat.le_trans (sub_len _ _) (by rw [List.length_take];omega)
  have htk:=fun G=>pltakeA_fn f1 G hta (Le.refl f1) (lb:=lb) hLI (by omega) (lgsOf_NI _ _) (by rw [lgsOf_n];exact hodd) hyg;obtain ⟨hyes,hno⟩:=sub_step2 hK.z hK.w hK.c hym
  have hrdk:∀ {G:List HP},Rd1 f1 (row xb 36 (v11 k)::G) xb (orgI y.m) (.int .u64 (k (orgI y.m))):=fun {G}=>Rd1.ofRow (.here _ _ _) (by rw [nthV_eq];exact zaw k hon);by_cases hk:y.m.number ≤ k (orgI y.m)
  ·obtain ⟨cb,hcb⟩:=hyes hk;rw [hcb] at htk;refine gO ?_;refine qde ?_;refine gZ ?_;refine gO ?_;refine H.Ag (i:=i) rfl rfl rfl rfl (by omega) rfl ?_;refine H.Ae (ls:=y.vals) rfl rfl rfl (rdA _ _ _ _ (Le.refl f1) hy) rfl rfl ?_;refine qeY ?_;refine H.cr (htk _) ?_;refine ga ?_;refine qer ?_;exact qcq
  ·rw [← hno hk];refine gO ?_;refine qde ?_;refine gZ ?_;refine gP ?_;exact qcq
 ·have e:i = W.all.length:=by omega
  subst e;rw [List.take_length];refine gO ?_;refine qdp ?_;subst hf1;exact qcg
theorem wat15_fn (hn8:n = 3 + 2 * (n8.toNat % 5)) {l:List MV} (hwat:WAt f n W kb ap l) {k:Nat→Int} (hK:KOK n W.all k) (hl:W.all.length ≤ 1000) :
  Fn Tryz.prog 28 [.pointer (some ⟨wb,0,none⟩),.agg (v11 k).toArray] f (row wb 34 (w15C kb n ap l.length ac lb0)::F) (RAtP f (row wb 34 (w15C kb n ap l.length ac lb0)::F) n (sub k W.all)):=by
 have hn3:3 ≤ n ∧ n ≤ 11:=by omega
 have hlm:=hwat.m;have hll:l.length = W.all.length:=by rw [← hlm,List.length_map]
 refine Fn.e2 Tryz.func28 Tryz.ntmps28 fun base=>?_;refine gA ?_;refine H.box (ls:=v11 k) rfl rfl rfl rfl fun xb=>?_;refine gF ?_;refine H.Al rfl rfl rfl (lgnew_fn f _ (n:=n) (fewz_odd hn8)) fun v f' A' hr=>?_;obtain ⟨g,lb,hd,rfl,rfl,rfl⟩:=hr;refine gW ?_;refine qer ?_
 refine H.lo (ι:=Nat × Frag) (fun s=>[(7,.int .i64 (s.1:Int)),(5,.pointer (some ⟨lb,0,none⟩)),(3,.pointer (some ⟨xb,0,none⟩)),(0,.pointer (some ⟨wb,0,none⟩))]) (fun s=>un f s.2)
  (fun s=>row xb 36 (v11 k)::logsH (un f s.2) lb (lgsOf n (sub k (W.all.take s.1)))::row wb 34 (w15C kb n ap l.length ac lb0)::F) (fun s=>s.1 ≤ W.all.length ∧ Dj f s.2) (fun s=>W.all.length - s.1)
  (0,g) ⟨Nat.zero_le _,hd⟩ fun s hs=>?_
 clear hd;obtain ⟨i,g⟩:=s;obtain ⟨hi,hd⟩:i ≤ W.all.length ∧ Dj f g:=hs;show H _ _ _ [(7,.int .i64 (i:Int)),_,_,_] (un f g) (_::logsH (un f g) lb (lgsOf n (sub k (W.all.take i)))::_::F) _;have hwa1:=hwat.mono (Le.un f g);by_cases hlt:i < W.all.length
 ·obtain ⟨b,off,rfl,rdA⟩:=hwa1.a.all MV.len (by decide) (by omega);obtain ⟨y,hy⟩:∃ y,l[i]? = some y:=⟨_,List.getElem?_eq_getElem (by omega)⟩;have hym:W.all[i]? = some y.m:=by rw [← hlm,List.getElem?_map,hy];rfl
  have hyg:=hwa1.g y (List.mem_of_getElem? hy);have hmo:=(hK.w i y.m hym).org
  have hoz:y.m.origin - 1 = (orgI y.m:Nat):=by unfold orgI;omega
  have hon:orgI y.m < 11:=by unfold orgI;omega
  have hLI:=hK.li i;have hLl:(sub k (W.all.take i)).length ≤ 1000:=Nat.le_trans (sub_len _ _) (by rw [List.length_take];omega)
  have htk:=fun G=>take_fn (un f g) G (Le.refl _) (lb:=lb) hLI (by omega) hyg;obtain ⟨hyes,hno⟩:=sub_step2 hK.z hK.w hK.c hym
  have hrdk:∀ {G:List HP},Rd1 (un f g) (row xb 36 (v11 k)::G) xb (orgI y.m) (.int .u64 (k (orgI y.m))):=fun {G}=>Rd1.ofRow (.here _ _ _) (by rw [nthV_eq];exact zaw k hon);by_cases hk:y.m.number ≤ k (orgI y.m)
  ·obtain ⟨cb,hcb⟩:=hyes hk;rw [hcb] at htk;refine gO ?_;refine qde ?_;refine gZ ?_;refine gO ?_;refine H.Ag (i:=i) rfl rfl rfl rfl (by omega) rfl ?_;refine H.Ae (ls:=y.vals) rfl rfl rfl (rdA _ _ _ _ (Le.refl _) hy) rfl rfl ?_;refine H.pf (x:=logsH _ lb _) ?_;refine H.cl (htk _) fun v' f' A' hr=>?_;obtain ⟨g5,hd5,rfl,rfl,rfl⟩:=hr;refine gD ?_;refine qer ?_;refine H.Aq (i + 1,un g g5) ⟨by show i + 1 ≤ W.all.length;omega,Dj.un3' hd hd5⟩ (by show W.all.length - (i + 1) < W.all.length - i;omega) ⟨rfl,rfl,rfl,rfl,trivial⟩ (zce _ _ _) ?_;show _::logsH (un (un f g) g5) lb _::_ = _::logsH (un f (un g g5)) lb _::_;rw [zce]
  ·rw [← hno hk];refine gO ?_;refine qde ?_;refine gZ ?_;refine gP ?_;exact H.ag (i + 1,g) ⟨by show i + 1 ≤ W.all.length;omega,hd⟩ (by show W.all.length - (i + 1) < W.all.length - i;omega)
 ·have e:i = W.all.length:=by omega
  subst e;rw [List.take_length];refine gO ?_;refine qdp ?_;exact H.r1 ⟨g,lb,hd,rfl,rfl,rfl⟩
end
theorem cnt_take_le (all:List Msg) (j i:Nat):cnt (all.take j) i ≤ cnt all i:=by
 have:=cnt_app (all.take j) (all.drop j) i;rw [List.take_append_drop] at this
 omega
theorem num_le_cnt {all:List Msg} (hW:WOK n all) {x:Msg} (hx:x ∈ all):x.number ≤ ((cnt all (orgI x):Nat):Int):=by
 obtain ⟨j,hj⟩:=List.getElem?_of_mem hx;have h1:=(hW j x hj).num;have h2:=cnt_take_le all (j + 1) (orgI x)
 rw [zbh hj,cnt_snoc,if_pos rfl] at h2;omega
theorem KOK.full {all:List Msg} (hW:WOK n all) (h3:3 ≤ n) (h11:n ≤ 11) (hv:∀ m ∈ all,0 ≤ m.body.view):KOK n all fun i=>((cnt all i:Nat):Int):=
 ⟨hW, h3, h11, hv, fun i => by show (0 : Int) ≤ ((cnt all i : Nat) : Int); omega, fun x hx _ i hi => by
  obtain ⟨j,hj⟩:=List.getElem?_of_mem hx
  have h1:=((hW j x hj).dep i hi).2
  have h2:=cnt_take_le all j i
  show _ ≤ ((cnt all i:Nat):Int)
  omega⟩
theorem sub_full {all:List Msg} (hW:WOK n all):sub (fun i=>((cnt all i:Nat):Int)) all = all:=by
 unfold sub;rw [List.filter_eq_self];exact fun x hx=>decide_eq_true (num_le_cnt hW hx)
structure WG (n:Nat) (W:W15) (T:Nat):Prop where
 l:W.l = lgsOf n W.w.all
 g:∀ r,(W.l.past r).g ≤ 5 + 2 * (T:Int)
 v:∀ m ∈ W.w.all,0 ≤ m.body.view
theorem take_g (hL:LI l T) (m:Msg) (r:Nat):((l.take m).2.past r).g = (l.past r).g ∨ ((l.take m).2.past r).g = m.body.view:=by
 have hc:(((l.counts m).2).past r).g = (l.past r).g ∨ (((l.counts m).2).past r).g = m.body.view:=by
  rw [zbp hL.rise]
  have up:∀ {p:PM},(p.g = (l.past (orgI m)).g ∨ p.g = m.body.view)→(updF l.past (orgI m) p r).g = (l.past r).g ∨ (updF l.past (orgI m) p r).g = m.body.view:=fun {p} h=>by
   by_cases e:r = orgI m
   ·subst e;rw [zae];exact h
   ·rw [zaf _ _ e];exact .inl rfl
  cases he:l.eff m with
  | none=>exact .inl rfl
  | some e =>
   rcases eff_all he with rfl | rfl | ⟨_,_,_,hok,rfl⟩ | ⟨w,_,hok,rfl⟩ | ⟨hok,_,rfl⟩ | ⟨hok,_,rfl⟩
   ·exact .inl rfl
   ·refine up (?_:_ ∨ _);unfold PM.change;split
    ·exact .inr rfl
    ·exact .inl rfl
   ·exact up (.inr (by unfold PM.enter;rw [if_pos hok]))
   ·exact up (.inr (by unfold PM.enter;rw [if_pos hok]))
   ·exact up (.inl rfl)
   ·exact up (.inl rfl)
 unfold Lgs.take;split
 ·exact .inl rfl
 ·split
  ·exact .inl rfl
  ·exact hc
theorem A15.view_le {W:W15} (h:WI n W T) (hg:∀ r,(W.l.past r).g ≤ 5 + 2 * (T:Int)) (ho:o < n) (x:A15):(x.bod W n o).view ≤ 5 + 2 * ((T:Int) + 1):=by
 have hgo:=hg o;have hg0:=(h.l.wf o (by rw [h.n];exact ho)).g0
 have hlv:lastV W.l.vs ≤ 5 + 2 * (T:Int):=by
  unfold lastV
  cases e:W.l.vs[W.l.vs.length - 1]? with
  | none=>show (0:Int) ≤ _;omega
  | some w =>
   have hw:=List.mem_of_getElem? e;show w.v ≤ _
   by_cases h0:w.v = 0
   ·omega
   ·have hr:primI W.l.n w.v < W.l.n:=primI_lt (by have:=h.l.n3;omega) _;obtain ⟨p,hp,e1⟩:=h.l.begun w hw h0
    have h1:=(h.l.wf _ hr).mem_le hp;have h2:=(h.l.wf _ hr).top
    have h3:=hg (primI W.l.n w.v);omega
 have hf:∀ z:Int,z ≤ 5 + 2 * ((T:Int) + 1)→fix1 z ≤ 5 + 2 * ((T:Int) + 1):=fun z hz=>by unfold fix1;split <;> omega
 have hx:(((x.view.toNat % 6:Nat)):Int) ≤ 5:=by omega
 unfold A15.bod;generalize x.kind.toNat % 6 = j
 match j with
 | 0=>show (if x.raw then _ else _:Int) ≤ _;split <;> omega
 | 1=>show (if x.raw then _ else _:Int) ≤ _;split <;> omega
 | 2=>exact hf _ (by split <;> omega)
 | 3=>exact hf _ (by split <;> omega)
 | 4=>exact hf _ (by split <;> omega)
 | j + 5=>show (0:Int) ≤ _;omega
theorem WG.act {n T:Nat} {W:W15} (hW:WI n W T) (h:WG n W T) (h3:3 ≤ n) (hT:T ≤ 1000) (x:A15):WG n (W.act n x) (T + 1):=by
 have ho:x.who.toNat % n < n:=Nat.mod_lt _ (by omega);have hmono:∀ r,(W.l.past r).g ≤ 5 + 2 * ((T + 1:Nat):Int):=fun r=>by have:=h.g r;omega
 unfold W15.act;split
 ·exact ⟨h.l,hmono,h.v⟩
 ·split
  ·obtain ⟨e1,e2,e3,e4⟩:=(W.next n (x.who.toNat % n) x).signed_parts;have hb:=A15.view_le hW h.g ho x;have hb0:=(A15.bod_ok hW hT ho x).1.1
   have hbe:(W.next n (x.who.toNat % n) x).signed.body = x.bod W n (x.who.toNat % n):=e4;refine ⟨?_,fun r=>?_,fun m hm=>?_⟩
   ·show (W.l.take _).2 = lgsOf n (W.w.all ++ [_]);rw [lgsOf_snoc,← h.l]
   ·rcases take_g hW.l (W.next n (x.who.toNat % n) x).signed r with e | e
    ·show ((W.l.take _).2.past r).g ≤ _;rw [e];exact hmono r
    ·show ((W.l.take _).2.past r).g ≤ _;rw [e,hbe];have e5:((T + 1:Nat):Int) = (T:Int) + 1:=by omega
     rw [e5];exact hb
   ·rcases List.mem_append.1 (show m ∈ W.w.all ++ [_] from hm) with hm | hm
    ·exact h.v m hm
    ·rw [List.mem_singleton.1 hm,hbe];exact hb0
  ·exact ⟨h.l,hmono,h.v⟩
theorem WG.zero (n:Nat):WG n (W15.zero n) 0:=⟨rfl,fun r=>by show (0:Int) ≤ _;omega,fun m hm=>by cases hm⟩
theorem world15_WG {n:Nat} (h3:3 ≤ n) (h11:n ≤ 11) (l:List A15):∀ k,k ≤ 1000→WG n (world15 n (l.take k)) k
 | 0,_=>WG.zero n
 | k + 1, hk => by
  have ih:=world15_WG h3 h11 l k (by omega)
  have iw:=zbs h3 h11 l k (by omega)
  cases h:l[k]? with
  | none =>
   have e:l.take (k + 1) = l.take k:=by rw [List.take_add_one,h];simp
   rw [e]
   exact ⟨ih.l,fun r=>by have:=ih.g r;omega,ih.v⟩
  | some x =>
   rw [zbh h,world15_snoc]
   exact WG.act iw ih h3 (by omega) x
theorem world15_v (h3:3 ≤ n) (h11:n ≤ 11) (l:List A15) (hl:l.length ≤ 1000):∀ m ∈ (world15 n l).w.all,0 ≤ m.body.view:=by
 have h:=world15_WG h3 h11 l l.length hl;rw [List.take_length] at h
 exact h.v
theorem WI.kok {W:W15} (h:WI n W T) (h3:3 ≤ n) (h11:n ≤ 11) (hv:∀ m ∈ W.w.all,0 ≤ m.body.view) (ho:o < n):KOK n W.w.all (W.w.kv o):=
 ⟨h.w.ok,h3,h11,hv,fun i=>((h.w.knw o ho).le i).1,(h.w.knw o ho).closed⟩
section
variable (f:Frag) (F:List HP)
end
theorem rise_idx {vs:List Int} (h:vs.Pairwise (· < ·)) {i m:Nat} {a b:Int} (ha:vs[i]? = some a) (hb:vs[m]? = some b) (him:i < m):a < b:=by
 have h1:=List.getElem?_eq_some_iff.1 ha;have h2:=List.getElem?_eq_some_iff.1 hb
 have:=List.pairwise_iff_getElem.1 h i m h1.1 h2.1 him;rw [h1.2,h2.2] at this
 exact this
theorem cmt_later (hL:LI l T) (hS:SI l) (hn:l.n % 2 = 1) {u:Int} (hv:l.vw v = some w) (hu:l.vw u = some w') (hlt:v < u):cmt l v ≤ w'.all.length ∧ w'.all.take (cmt l v) = w.all.take (cmt l v):=by
 obtain ⟨h1,h2⟩:=vw_v hv;obtain ⟨h3,h4⟩:=vw_v hu;by_cases h0:0 < cmt l v
 ·exact later_all hL hS hn h2 h4 (by omega) (by rw [h1];exact cmt_ok h0)
 ·rw [show cmt l v = 0 by omega];exact ⟨Nat.zero_le _,by rw [List.take_zero,List.take_zero]⟩
section
variable (f:Frag) (F:List HP)
theorem decideLater_fn (htab:TabAt f) {p:Option Addr} {xs:List A15} (hat:ListAt f p 12 A15.vals xs) (hh:∀ x ∈ xs,x.Has f) (hxl:xs.length ≤ 9223372036854775807) :
  Fn Tryz.prog 8 [.int .u8 (n8.toNat:Nat),.slice p xs.length c] f F (Ret (.bool true) f F):=by
 have hfew:=few15_fn f F (c:=c) hat hxl
 cases hf:few15 xs with
 | false =>
  rw [hf] at hfew;refine Fn.e2 Tryz.func8 Tryz.ntmps8 fun base=>?_;exact qaZ
 | true =>
  rw [hf] at hfew;obtain ⟨hl100,hq20⟩:=few15_all hf;refine Fn.e2 Tryz.func8 Tryz.ntmps8 fun base=>?_;refine qdZ ?_;refine gW ?_;obtain ⟨n,hn8⟩:∃ n,n = 3 + 2 * (n8.toNat % 5):=⟨_,rfl⟩;have hn3:3 ≤ n ∧ n ≤ 11:=by omega
  have hodd:n % 2 = 1:=by omega
  have hacts:=fun G=>acts15_fn f G hn8 (c:=c) hat (fun x hx=>⟨hh x hx,hq20 x hx⟩) hl100;have hinv:WI n (world15 n xs) xs.length:=by have:=zbs hn3.1 hn3.2 xs xs.length (by omega);rwa [List.take_length] at this
  have hwl:(world15 n xs).w.all.length ≤ 100:=by have:=zca n xs xs.length;rw [List.take_length] at this;omega
  have hvv:=world15_v hn3.1 hn3.2 xs (by omega);generalize world15 n xs = W15' at *
  refine H.cl (hacts _) fun v f' A' hr=>?_;obtain ⟨g,wb,rfl,hd,rfl,rfl⟩:=hr;have le0:=Le.un f g;generalize un f g = f0 at *
  refine H.world15 fun g1 kb ap ac lb0 ml hd1 hwat=>?_;have le1:=le0.trans (Le.un f0 g1);generalize un f0 g1 = f1 at *
  have hta:=zbm htab le1;clear hacts hfew hd hd1
  have hK:=KOK.full hinv.w.ok hn3.1 hn3.2 hvv;have hsf:=sub_full hinv.w.ok
  have hDS:=DS.world hinv.w.ok hvv hn3.1 hn3.2;have hLI:=lgsOf_LI hn3.1 hn3.2 W15'.w.all hvv
  have hatf:=fun G=>at16_fn f1 G hta hn8 (ac:=ac) (lb0:=lb0) (wb:=wb) hwat hK (by omega);unfold AtP at hatf
  have hfull:(fun i=>if i < n then ((cnt W15'.w.all i:Nat):Int) else W15'.w.kv 0 i) = fun i=>((cnt W15'.w.all i:Nat):Int):=by
   funext i;by_cases hi:i < n
   ·rw [if_pos hi]
   ·rw [if_neg hi];have h1:=(hinv.w.knw 0 (by omega)).le i;have h2:=hinv.w.ok.cnt_zero (i:=i) (by omega)
    omega
  have hown:=fun i (hi:i < n)=>hinv.w.own i hi;have hkrd:=fun G i (hi:i < n)=>hwat.k.rd G hi
  rw [hsf] at hatf;have hln:(lgsOf n W15'.w.all).n = n:=lgsOf_n _ _;generalize lgsOf n W15'.w.all = l at *
  generalize hT0:W15'.w.all.length = T0 at *;clear hK hsf hvv;generalize hkv0:W15'.w.kv 0 = kv0 at *;refine gF ?_;refine H.Ag (i:=0) rfl rfl rfl rfl (by omega) rfl ?_;refine H.Ae (ls:=v11 kv0) rfl rfl rfl (by rw [Nat.zero_add,← hkv0];exact hkrd _ 0 (by omega)) rfl rfl ?_;refine H.Ak (ls:=v11 fun _=>0) rfl rfl rfl fun xb=>?_;refine H.Ah (ls:=v11 fun _=>0) (vs:=v11 kv0) (ls':=v11 kv0) rfl rfl rfl (zaa rfl) rfl rfl (Nat.le_refl 11) (by repeat constructor) ?_;refine gR ?_
  refine H.loop (ι:=Nat) (fun i=>[(8,.int .i64 (i:Int)),(7,.pointer (some ⟨xb,0,none⟩)),(6,.int .i64 (n:Int)),(5,.pointer (some ⟨wb,0,none⟩))]) (fun _=>f1)
   (fun i=>row xb 36 (v11 fun t=>if t < i then ((cnt W15'.w.all t:Nat):Int) else kv0 t)::row wb 34 (w15C kb n ap ml.length ac lb0)::F) (fun i=>i ≤ n) (fun i=>n - i)
   0 (Nat.zero_le _) ⟨rfl,rfl,rfl,rfl,trivial⟩ rfl (by rw [show (fun t=>if t < 0 then ((cnt W15'.w.all t:Nat):Int) else kv0 t) = kv0 from by funext t;rw [if_neg (by omega)]]) fun i hi=>?_
  have hi:i ≤ n:=hi;by_cases hin:i < n
  ·have hup:updF (fun t=>if t < i then ((cnt W15'.w.all t:Nat):Int) else kv0 t) i ((cnt W15'.w.all i:Nat):Int) = fun t=>if t < i + 1 then ((cnt W15'.w.all t:Nat):Int) else kv0 t:=by
    exact qbs
   have hki:=fun G=>hkrd G i hin;have hoi:=hown i hin
   have hset:=v11_upd (fun t=>if t < i then ((cnt W15'.w.all t:Nat):Int) else kv0 t) ((cnt W15'.w.all i:Nat):Int) (k:=i) (by omega);exact qaE
  ·have e:i = n:=by omega
   subst e;rw [hfull];clear hkrd hown hfull;generalize (fun i=>((cnt W15'.w.all i:Nat):Int)) = kf at *;refine gP ?_;refine H.Ae (ls:=v11 kf) rfl rfl rfl (Rd.ofRow (by repeat constructor)) rfl rfl ?_;refine qdS ?_;refine H.cl (hatf _) fun v f' A' hr=>?_;obtain ⟨g2,lb,hd2,rfl,rfl,rfl⟩:=hr;have hup:=Le.un f1 g2;have le2:=le1.trans hup
   clear hatf hd2;generalize un f1 g2 = f2 at *;have hta2:=zbm hta hup;subst hln
   have hcm:=fun e (hle:Le f2 e) G v=>committed_fn e G hle (lb:=lb) hLI (by omega) hodd v;have hlog:=fun e G v=>pllogO_fn e G (fl:=f2) (lb:=lb) hLI (by omega) v
   have hvl:=hLI.vl;have hul:(viewsU l).length = l.vs.length:=by unfold viewsU;rw [List.length_map]
   have hrise:(viewsU l).Pairwise (· < ·):=hLI.rise;have hvm:∀ v,v ∈ viewsU l→∃ w,l.vw v = some w:=fun v hv=>viewsU_mem.1 hv
   have hal:∀ w v,l.vw v = some w→w.all.length ≤ T0:=fun w v hw=>hLI.al w (vw_v hw).2;have hlat:=fun (v u:Int) (w w':Vw) (hv:l.vw v = some w) (hu:l.vw u = some w') (hlt:v < u)=>cmt_later hLI hDS.si hodd hv hu hlt
   have hcl:=fun (v:Int) (w:Vw) (hv:l.vw v = some w)=>cmt_le hv;refine gW ?_
   refine qeY ?_;refine H.Al rfl rfl rfl (plviews_fn f2 _ (fl:=f2) (lb:=lb) hLI (by omega)) fun x f' A' hr=>?_;obtain ⟨p,c,rfl,hff,rfl⟩:=hr;rw [hff];clear hff;generalize viewsU l = vs at *;refine gR ?_;refine qeY ?_
   refine H.lo (ι:=Nat × Frag) (fun s=>[(12,.int .i64 (s.1:Int)),(11,.slice p vs.length c),(9,.pointer (some ⟨lb,0,none⟩)),(6,.int .i64 (l.n:Int))]) (fun s=>s.2)
    (fun _=>plogH f2 lb l::slc p vs.length c 24 1 (vs.flatMap uV)::row wb 34 (w15C kb l.n ap ml.length ac lb0)::row xb 36 (v11 kf)::F) (fun s=>s.1 ≤ vs.length ∧ Le f2 s.2) (fun s=>vs.length - s.1)
    (0,f2) ⟨Nat.zero_le _,Le.refl _⟩ fun s hs=>?_
   obtain ⟨i,e⟩:=s;obtain ⟨hi,hle⟩:i ≤ vs.length ∧ Le f2 e:=hs;show H _ _ _ [(12,.int .i64 (i:Int)),_,_,_] e (plogH f2 lb l::_::_::_::F) _;by_cases hil:i < vs.length
   ·obtain ⟨v,hv⟩:∃ v,vs[i]? = some v:=⟨_,List.getElem?_eq_getElem hil⟩;obtain ⟨w,hw⟩:=hvm v (List.mem_of_getElem? hv);have hcmv:=fun G=>hcm e hle G v;have hgl:=fun G=>hlog e G v
    rw [hw] at hgl;have hjR:=hcl v w hw;have hwa:=hal w v hw
    have hlw:=fun u w' hu hlt=>hlat v u w w' hw hu hlt;clear hw
    generalize cmt l v = j at *;refine qfh fun sv hp=>?_;subst hp;refine gG ?_;refine qeb ?_;refine H.cr (hcmv _) ?_;refine gJ ?_;refine qeb ?_;refine H.cl (hgl _) fun x f' A' hr=>?_;obtain ⟨p2,c2,rfl,hff,rfl⟩:=hr;rw [hff];clear hff hgl hcmv;have hao:allO (some w) = w.all:=rfl;rw [hao]
    clear hao;obtain ⟨R,hR0⟩:∃ R,R = w.all:=⟨_,rfl⟩;rw [← hR0] at hjR hwa hlw ⊢;refine H.Cg (p:=p2) (m:=R.length) (c:=c2) (T:=44) (sz:=40) (xs:=R.flatMap Req.vals) (.here _ _ _) fun hcap _ _=>?_;refine qhm fun g3 hg3 hd3=>?_;have hat2:ListAt (un e g3) p2 40 Req.vals R:=(zbd Req.len hg3).mono (Le.right hd3);have hup3:=hle.trans (Le.un e g3)
    clear hg3 hd3 hle;generalize un e g3 = e2 at *;refine gc ?_
    refine H.lo (ι:=Nat × Frag) (fun s=>[(16,.int .i64 (s.1:Int)),(14,.slice p2 R.length c2),(13,.int .i64 (j:Int)),(12,.int .i64 (i:Int)),(11,.slice (some ⟨sv,0,none⟩) vs.length c),(9,.pointer (some ⟨lb,0,none⟩)),(6,.int .i64 (l.n:Int))]) (fun s=>s.2)
     (fun _=>plogH f2 lb l::slc (some ⟨sv,0,none⟩) vs.length c 24 1 (vs.flatMap uV)::row wb 34 (w15C kb l.n ap ml.length ac lb0)::row xb 36 (v11 kf)::F) (fun s=>i < s.1 ∧ s.1 ≤ vs.length ∧ Le e2 s.2) (fun s=>vs.length - s.1)
     (i + 1,e2) ⟨Nat.lt_succ_self _,hil,Le.refl _⟩ fun s hs=>?_
    obtain ⟨m,e3⟩:=s;obtain ⟨him,hm,hle3⟩:i < m ∧ m ≤ vs.length ∧ Le e2 e3:=hs;show H _ _ _ [(16,.int .i64 (m:Int)),_,_,_,_,_,_] e3 (plogH f2 lb l::_::_::_::F) _;by_cases hml:m < vs.length
    ·obtain ⟨u,hu⟩:∃ u,vs[m]? = some u:=⟨_,List.getElem?_eq_getElem hml⟩;obtain ⟨w',hw'⟩:=hvm u (List.mem_of_getElem? hu);have hgl:=fun G=>hlog e3 G u;rw [hw'] at hgl
     obtain ⟨hj2,htk⟩:=hlw u w' hw' (rise_idx hrise hv hu him);have hwa':=hal w' u hw';clear hw'
     refine gG ?_;refine H.Ag (i:=m) rfl rfl rfl rfl hml rfl ?_;refine H.Ab rfl rfl rfl (rd_uV (by repeat constructor) hu) rfl ?_;refine H.cl (hgl _) fun x f' A' hr=>?_;obtain ⟨p4,c4,rfl,hff,rfl⟩:=hr;rw [hff];clear hff hgl;have hao:allO (some w') = w'.all:=rfl;rw [hao]
     clear hao;obtain ⟨R',hR1⟩:∃ R,R = w'.all:=⟨_,rfl⟩;rw [← hR1] at hj2 htk hwa' ⊢;refine H.Cg (p:=p4) (m:=R'.length) (c:=c4) (T:=44) (sz:=40) (xs:=R'.flatMap Req.vals) (.here _ _ _) fun hcap4 _ _=>?_;refine qhm fun g4 hg4 hd4=>?_;have hat4:ListAt (un e3 g4) p4 40 Req.vals R':=(zbd Req.len hg4).mono (Le.right hd4);have hup4:=hle3.trans (Le.un e3 g4)
     clear hg4 hd4;generalize un e3 g4 = e4 at *
     have hsame:∀ G,Fn Tryz.prog 30 [.slice p2 j c2,.slice p4 j c4] e4 G (Ret (.bool true) e4 G):=fun G=>by
      have h1:=(hat2.mono hup4).take j;have h2:=hat4.take j
      rw [htk] at h2;have h3:=sameR_fn e4 G (ca:=c2) (cb:=c4) h1 h2 (by rw [List.length_take];omega);rw [List.length_take,show min j R.length = j by omega] at h3
      exact h3
     clear hat4 htk hR1;refine gX ?_;refine H.db (S:=[]) rfl ?_;refine HB.qu [0,1,2,3,4,5,6,7,8,9,10] 3 ?_;refine gN ?_;refine HQ.slice (lo:=none) (hi:=some (.tmp 112)) (mx:=none) (lv:=0) (hv:=j) (mv:=c2) rfl rfl rfl ⟨_,_,rfl,rfl⟩ rfl (fun h=>by cases h) (Nat.zero_le _) (by omega) (Nat.le_refl _) rfl ?_;rw [slP0,Nat.sub_zero,Nat.sub_zero];refine gB ?_;refine HQ.slice (lo:=none) (hi:=some (.tmp 115)) (mx:=none) (lv:=0) (hv:=j) (mv:=c4) rfl rfl rfl ⟨_,_,rfl,rfl⟩ rfl (fun h=>by cases h) (Nat.zero_le _) (by omega) (Nat.le_refl _) rfl ?_;rw [slP0,Nat.sub_zero,Nat.sub_zero];refine qdb ?_;refine HB.ev 11 ?_;refine H.cr (hsame _) ?_;refine qcS ?_;refine HB.qu [12,13] 0 ?_;refine qeV ?_;refine gW ?_;exact H.ag (m + 1,e4) ⟨by show i < m + 1;omega,by show m + 1 ≤ vs.length;omega,hup4⟩ (by show vs.length - (m + 1) < vs.length - m;omega)
    ·have e:m = vs.length:=by omega
     subst e;refine gP ?_;exact H.ag (i + 1,e3) ⟨by show i + 1 ≤ vs.length;omega,hup3.trans hle3⟩ (by show vs.length - (i + 1) < vs.length - i;omega)
   ·have ei:i = vs.length:=by omega
    subst ei;refine gP ?_;refine H.Af rfl rfl rfl (zby e _ (zbm hta2 hle)) ?_;refine qfm ?_;refine qgi ?_;refine qdp ?_;refine H.weakL (le2.trans hle) ?_;exact qah
end
end Go.Proofs.YtminmjlfmolfeaaGreatDoor

namespace Go.Proofs.YtminmjlfmolfeaaGreatDoor
open Go Go.ChangeShapes Go.WideShapes Go.RowKit Go.Deep
theorem and_t {a b:Bool} (ha:a = true) (hb:b = true):(a && b) = true:=by rw [ha,hb];rfl
theorem Tryz.own:ownKnob Tryz.prog.godebug = none:=by kernel_rfl
theorem Tryz.laidOut:laidOutB Tryz.prog = true:=by kernel_rfl
abbrev laidL : List (String × DataW Unit) := [("ratchet/sha.table", Rows.laid_ratchet_sha_table)]
theorem door_met (os:Os) (args:Array Value):laidMetH Tryz.prog laidL ((World.doorLaid Tryz.prog 400 os).forCall (fun _ _=>0) ⟨#[],args,[]⟩).memory:=
 laidMetH_of_parts3 (fuel:=8) (laidMet_of_run' 8 (by kernel_rfl) (by kernel_rfl)) (by kernel_rfl) (by kernel_rfl)
theorem tab_eq:(Rows.laid_ratchet_sha_table:DataW Unit) = .agg ((Sha.k.map fun x=>((x.toNat:Nat):Int)).map fun z=>.lit (.int .u32 z)):=by kernel_rfl
theorem tab_of {W:World} (h:laidMetH Tryz.prog laidL W):TabAt (memOf W):=by
 have h2 : laidMetH Tryz.prog [("ratchet/sha.table", .agg ((Sha.k.map fun x => ((x.toNat : Nat) : Int)).map fun z => .lit (.int .u32 z)))] W := by rw [← tab_eq]; exact h
 exact laid_ints h2 (by kernel_rfl) (by kernel_rfl) (t:=293) (e:=245) Tryz.underlying293 Tryz.underlying245 (by kernel_rfl)
end Go.Proofs.YtminmjlfmolfeaaGreatDoor

namespace Go.Proofs.YtminmjlfmolfeaaGreatDoor
open Go
def cntP (p:Nat→Bool):Nat→Nat
 | 0=>0
 | k + 1=>if p k = true then cntP p k + 1 else cntP p k
theorem cntP_filter (p:Nat→Bool):∀ n,cntP p n = ((List.range n).filter p).length
 | 0=>rfl
 | n + 1 => by
  have ih:=cntP_filter p n
  rw [List.range_succ,List.filter_append,List.length_append,← ih]
  show (if p n = true then _ else _) = _
  by_cases h:p n = true
  ·rw [if_pos h,List.filter_cons_of_pos h];rfl
  ·rw [if_neg h,List.filter_cons_of_neg h];rfl
theorem cntP_le (p:Nat→Bool):∀ n,cntP p n ≤ n
 | 0=>Nat.le_refl _
 | n + 1 => by
  have:=cntP_le p n
  show (if p n = true then _ else _) ≤ _
  split <;> omega
def pW (l:Lgs) (v:Int) (j r:Nat):Bool:=match PM.voted (l.past r).all v with
 | none=>false
 | some x=>decide ((j:Int) ≤ x)
def pM (l:Lgs) (v:Int) (j r:Nat):Bool:=match PM.voted (l.past r).all v with
 | none=>false
 | some x=>decide ((j:Int) < x)
variable {l:Lgs} {v:Int}
theorem cmt_votes {w:Vw} (hv:l.vw v = some w):(0 < cmt l v→(l.n - 1) / 2 < cntP (pW l v (cmt l v)) l.n) ∧ (cmt l v < w.all.length→cntP (pM l v (cmt l v)) l.n ≤ (l.n - 1) / 2):=by
 refine ⟨fun h0=>?_,fun hlt=>?_⟩
 ·have h1:=cmt_ok h0;rw [cntP_filter]
  unfold cntV at h1
  have e:((List.range l.n).filter fun r=>decide (((cmt l v:Nat):Int) ≤ vot l r v)) = (List.range l.n).filter (pW l v (cmt l v)):=by
   refine List.filter_congr fun r _=>?_;unfold vot pW
   cases PM.voted (l.past r).all v with
   | none=>exact decide_eq_false (by show ¬ _ ≤ (0:Int);omega)
   | some x=>rfl
  rw [← e];exact h1
 ·refine Nat.le_of_not_lt fun h1=>?_
  have h2:(l.n - 1) / 2 < cntV l v (cmt l v + 1):=by
   unfold cntV;rw [cntP_filter] at h1
   have e:((List.range l.n).filter fun r=>decide (((cmt l v + 1:Nat):Int) ≤ vot l r v)) = (List.range l.n).filter (pM l v (cmt l v)):=by
    refine List.filter_congr fun r _=>?_;unfold vot pM
    cases PM.voted (l.past r).all v with
    | none=>exact decide_eq_false (by show ¬ _ ≤ (0:Int);omega)
    | some x=>exact decide_eq_decide.2 (by show _ ≤ x ↔ _;omega)
   rw [e];exact h1
  have:=cmt_max hv hlt h2;omega
variable {T:Nat}
theorem decB_view (hL:LI l T):∃ w,l.vw (decB l).1 = some w:=by
 rcases bestC_mem (cmt l) (viewsU l) (0,0) with h | ⟨h,_⟩
 ·have e:(decB l).1 = 0:=by unfold decB;rw [h]
  obtain ⟨w,hw,h0⟩:=hL.zero;exact ⟨w,by rw [e,← h0];exact vw_mem hL.rise hw⟩
 ·exact viewsU_mem.1 h
variable {n8:UInt8} {p:Option Addr} {c:Nat} {xs:List A15}
section
variable (f:Frag) (F:List HP)
theorem decideVoters_fn (htab:TabAt f) {w8:UInt8} (hat:ListAt f p 12 A15.vals xs) (hh:∀ x ∈ xs,x.Has f) (hxl:xs.length ≤ 9223372036854775807) :
  Fn Tryz.prog 7 [.int .u8 (n8.toNat:Nat),.slice p xs.length c,.int .u8 (w8.toNat:Nat)] f F (Ret (.bool true) f F):=by
 have hfew:=few15_fn f F (c:=c) hat hxl
 cases hf:few15 xs with
 | false =>
  rw [hf] at hfew;refine Fn.e3 Tryz.func7 Tryz.ntmps7 fun base=>?_;exact qaZ
 | true =>
  rw [hf] at hfew;obtain ⟨hl100,hq20⟩:=few15_all hf;refine Fn.e3 Tryz.func7 Tryz.ntmps7 fun base=>?_;refine qdZ ?_;refine gW ?_;obtain ⟨n,hn8⟩:∃ n,n = 3 + 2 * (n8.toNat % 5):=⟨_,rfl⟩;have hn3:3 ≤ n ∧ n ≤ 11:=by omega
  have hodd:n % 2 = 1:=by omega
  have hw8:=w8.toNat_lt;obtain ⟨o,hoe⟩:∃ o,o = w8.toNat % n:=⟨_,rfl⟩
  have ho:o < n:=by rw [hoe];exact Nat.mod_lt _ (by omega)
  have hremo:((w8.toNat:Nat):Int).tmod (n:Int) = ((o:Nat):Int):=zak (a:=w8.toNat) (b:=n) hoe.symm;have hacts:=fun G=>acts15_fn f G hn8 (c:=c) hat (fun x hx=>⟨hh x hx,hq20 x hx⟩) hl100
  have hinv:WI n (world15 n xs) xs.length:=by have:=zbs hn3.1 hn3.2 xs xs.length (by omega);rwa [List.take_length] at this
  have hwl:(world15 n xs).w.all.length ≤ 100:=by have:=zca n xs xs.length;rw [List.take_length] at this;omega
  generalize world15 n xs = W15' at *;refine H.cl (hacts _) fun v f' A' hr=>?_;obtain ⟨g,wb,rfl,hd,rfl,rfl⟩:=hr;have le0:=Le.un f g;generalize un f g = f0 at *
  refine H.world15 fun g1 kb ap ac lb0 ml hd1 hwat=>?_;have le1:=le0.trans (Le.un f0 g1);generalize un f0 g1 = f1 at *
  have hta:=zbm htab le1;clear hacts hfew hd hd1
  have hK:=hinv.kok hn3.1 hn3.2 hwat.good_v ho;have hkrd:=fun G=>hwat.k.rd G ho
  have hatf:=fun G=>at16_fn f1 G hta hn8 (ac:=ac) (lb0:=lb0) (wb:=wb) hwat hK (by omega);generalize W15'.w.kv o = kv at *
  have hLI:=hK.li W15'.w.all.length;have hln:(lgsOf n (sub kv W15'.w.all)).n = n:=lgsOf_n n _
  rw [List.take_length] at hLI;have hsl:=sub_len kv W15'.w.all;unfold AtP at hatf
  generalize lgsOf n (sub kv W15'.w.all) = l at *;generalize (sub kv W15'.w.all).length = T at *;refine gF ?_;refine qdS ?_;refine qdA ?_;refine HB.qu [0,1,2,3,4,5,6,7,8,9,10] 6 ?_;refine qeU ?_;skip;refine qgT ?_;refine HB.ev 11 ?_;refine H.cl (hatf _) fun v f' A' hr=>?_;obtain ⟨g2,lb,hd2,rfl,rfl,rfl⟩:=hr;have hup:=Le.un f1 g2;have le2:=le1.trans hup
  clear hatf hd2 hkrd;generalize un f1 g2 = f2 at *;have hta2:=zbm hta hup;refine gA ?_
  refine qdS ?_;refine H.on [] hup rfl ?_;refine HB.qu [12,13,14,15,16] 0 ?_;refine qeP ?_;subst hln;have hcm:=fun e (hle:Le f2 e) G v=>committed_fn e G hle (lb:=lb) hLI (by omega) hodd v;have hlog:=fun e G v=>pllogO_fn e G (fl:=f2) (lb:=lb) hLI (by omega) v
  have hvl:=hLI.vl;have hul:(viewsU l).length = l.vs.length:=by unfold viewsU;rw [List.length_map]
  have hvm:∀ v,v ∈ viewsU l→∃ w,l.vw v = some w:=fun v hv=>viewsU_mem.1 hv;have hal:∀ w v,l.vw v = some w→w.all.length ≤ T:=fun w v hw=>hLI.al w (vw_v hw).2
  have hcv:=fun (v:Int) (w:Vw) (hv:l.vw v = some w)=>cmt_votes hv;have hcl:=fun (v:Int) (w:Vw) (hv:l.vw v = some w)=>cmt_le hv
  have hdec:=fun e (hle:Le f2 e) G=>decided_fn e G hle (lb:=lb) hLI (by omega) hodd;have hdv:=fun e (hle:Le f2 e) G=>dview_fn e G hle (lb:=lb) hLI (by omega) hodd
  obtain ⟨wd,hwd⟩:=decB_view hLI;have hdl:decL l = wd.all.take (decB l).2:=by unfold decL;rw [hwd];rfl
  have hdn:=decL_len l;have hdle:(decB l).2 ≤ wd.all.length:=by have:=decB_le l;rw [hwd] at this;exact this
  have hdb:(decB l).2 = (bestC (cmt l) (viewsU l) (0,0)).2:=rfl;have hwdl:=hal wd _ hwd
  refine gW ?_;refine qeY ?_;refine H.Al rfl rfl rfl (plviews_fn f2 _ (fl:=f2) (lb:=lb) hLI (by omega)) fun x f' A' hr=>?_;obtain ⟨p,c,rfl,hff,rfl⟩:=hr;rw [hff];clear hff;generalize viewsU l = vs at *;refine gR ?_;refine qeY ?_
  refine H.lo (ι:=Nat × Frag) (fun s=>[(13,.int .i64 (s.1:Int)),(12,.int .i64 ((bestC (cmt l) (vs.take s.1) (0,0)).2:Nat)),(11,.slice p vs.length c),(9,.pointer (some ⟨lb,0,none⟩)),(8,.int .i64 (l.n:Int))]) (fun s=>s.2)
   (fun _=>plogH f2 lb l::slc p vs.length c 24 1 (vs.flatMap uV)::row wb 34 (w15C kb l.n ap ml.length ac lb0)::F) (fun s=>s.1 ≤ vs.length ∧ Le f2 s.2) (fun s=>vs.length - s.1)
   (0,f2) ⟨Nat.zero_le _,Le.refl _⟩ fun s hs=>?_
  obtain ⟨i,e⟩:=s;obtain ⟨hi,hle⟩:i ≤ vs.length ∧ Le f2 e:=hs;show H _ _ _ [(13,.int .i64 (i:Int)),(12,.int .i64 ((bestC (cmt l) (vs.take i) (0,0)).2:Nat)),_,_,_] e (plogH f2 lb l::_::_::F) _;by_cases hil:i < vs.length
  ·obtain ⟨v,hv⟩:∃ v,vs[i]? = some v:=⟨_,List.getElem?_eq_getElem hil⟩;obtain ⟨w,hw⟩:=hvm v (List.mem_of_getElem? hv);have hcmv:=fun G=>hcm e hle G v;have hgl:=fun G=>hlog e G v
   rw [hw] at hgl;have hjR:=hcl v w hw;have hwa:=hal w v hw
   obtain ⟨hc1,hc2⟩:=hcv v w hw;have hsn:=bestC_snoc (cmt l) v (vs.take i) (0,0);rw [← zbh hv] at hsn
   have hmx:(bestC (cmt l) (vs.take (i + 1)) (0,0)).2 = if (bestC (cmt l) (vs.take i) (0,0)).2 < cmt l v then cmt l v else (bestC (cmt l) (vs.take i) (0,0)).2:=by rw [hsn];split <;> rfl
   clear hw hsn;generalize hj:cmt l v = j at *;generalize bestC (cmt l) (vs.take i) (0,0) = b at *;refine qfh fun sv hp=>?_;subst hp;refine gG ?_;refine qeb ?_;refine H.cr (hcmv _) ?_;refine gJ ?_;refine qeb ?_;refine H.cl (hgl _) fun x f' A' hr=>?_;obtain ⟨p2,c2,rfl,hff,rfl⟩:=hr;rw [hff];clear hff hgl hcmv;have hao:allO (some w) = w.all:=rfl;rw [hao]
   clear hao;obtain ⟨R,hR0⟩:∃ R,R = w.all:=⟨_,rfl⟩;rw [← hR0] at hjR hwa hc2 ⊢;refine qdp ?_;refine ga ?_
   refine H.lo (ι:=Nat) (fun r=>[(19,.int .i64 ((r + 1:Nat):Int)),(18,.int .i64 ((cntP (pM l v j) r:Nat):Int)),(17,.int .i64 ((cntP (pW l v j) r:Nat):Int)),(15,.slice p2 R.length c2),(14,.int .i64 (j:Int)),(13,.int .i64 (i:Int)),(12,.int .i64 (b.2:Nat)),(11,.slice (some ⟨sv,0,none⟩) vs.length c),(9,.pointer (some ⟨lb,0,none⟩)),(8,.int .i64 (l.n:Int))]) (fun _=>e)
    (fun _=>plogH f2 lb l::slc (some ⟨sv,0,none⟩) vs.length c 24 1 (vs.flatMap uV)::row wb 34 (w15C kb l.n ap ml.length ac lb0)::F) (fun r=>r ≤ l.n) (fun r=>l.n - r)
    0 (Nat.zero_le _) fun r hr=>?_
   have hr:r ≤ l.n:=hr;have hcw:=cntP_le (pW l v j) r
   have hcmm:=cntP_le (pM l v j) r;by_cases hrn:r < l.n
   ·have hvo:=fun G=>plvoted_fn e G hle (lb:=lb) (l:=l) (by omega) hrn (r:=((r + 1:Nat):Int)) (v:=v) rfl
    cases hvr:PM.voted (l.past r).all v with
    | none =>
     rw [hvr] at hvo;have hvo:∀ G,Fn Tryz.prog 26 [.pointer (some ⟨lb,0,none⟩),.int .i64 ((r + 1:Nat):Int),.int .u64 v] e (plogH f2 lb l::G) (Ret (.tuple #[.int .i64 0,.bool false]) e (plogH f2 lb l::G)):=hvo;have hs1:cntP (pW l v j) (r + 1) = cntP (pW l v j) r + 0:=by show (if pW l v j r = true then _ else _) = _;rw [show pW l v j r = false from by unfold pW;rw [hvr];skip];rfl
     have hs2:cntP (pM l v j) (r + 1) = cntP (pM l v j) r + 0:=by show (if pM l v j r = true then _ else _) = _;rw [show pM l v j r = false from by unfold pM;rw [hvr];skip];rfl
     generalize cntP (pW l v j) r = nw at *;generalize cntP (pM l v j) r = nm at *;refine gG ?_;refine qeb ?_;refine H.cr (hvo _) ?_;refine ga ?_;exact H.Aq (r + 1) (by show r + 1 ≤ l.n;omega) (by show l.n - (r + 1) < l.n - r;omega) ⟨rfl,(by show _ = some (Value.int .i64 ((cntP (pM l v j) (r + 1):Nat):Int));rw [hs2];rfl),(by show _ = some (Value.int .i64 ((cntP (pW l v j) (r + 1):Nat):Int));rw [hs1];rfl),rfl,rfl,rfl,rfl,rfl,rfl,rfl,trivial⟩ rfl rfl
    | some x =>
     rw [hvr] at hvo;have hvo:∀ G,Fn Tryz.prog 26 [.pointer (some ⟨lb,0,none⟩),.int .i64 ((r + 1:Nat):Int),.int .u64 v] e (plogH f2 lb l::G) (Ret (.tuple #[.int .i64 x,.bool true]) e (plogH f2 lb l::G)):=hvo;by_cases h1:(j:Int) ≤ x
     ·by_cases h2:(j:Int) < x
      ·skip;have hs1:cntP (pW l v j) (r + 1) = cntP (pW l v j) r + 1:=by show (if pW l v j r = true then _ else _) = _;rw [show pW l v j r = true from by unfold pW;rw [hvr];exact decide_eq_true h1];rfl
       have hs2:cntP (pM l v j) (r + 1) = cntP (pM l v j) r + 1:=by show (if pM l v j r = true then _ else _) = _;rw [show pM l v j r = true from by unfold pM;rw [hvr];exact decide_eq_true h2];rfl
       exact qao
      ·skip;have hs1:cntP (pW l v j) (r + 1) = cntP (pW l v j) r + 1:=by show (if pW l v j r = true then _ else _) = _;rw [show pW l v j r = true from by unfold pW;rw [hvr];exact decide_eq_true h1];rfl
       exact qbx
     ·have h2:¬ (j:Int) < x:=by omega
      have hs1:cntP (pW l v j) (r + 1) = cntP (pW l v j) r + 0:=by show (if pW l v j r = true then _ else _) = _;rw [show pW l v j r = false from by unfold pW;rw [hvr];exact decide_eq_false h1];rfl
      exact qbx
   ·have er:r = l.n:=by omega
    subst er;generalize cntP (pW l v j) l.n = nw at *;generalize cntP (pM l v j) l.n = nm at *;by_cases h0:0 < j
    ·have hw0:=hc1 h0;by_cases h1:j < R.length
     ·have hm0:=hc2 h1;exact qap
     ·skip;exact qap
    ·by_cases h1:j < R.length
     ·have hm0:=hc2 h1;exact qap
     ·skip;refine ga ?_;refine H.max2 (z:=(((bestC (cmt l) (vs.take (i + 1)) (0,0)).2:Nat):Int)) rfl rfl rfl (by rw [hmx];split <;> split <;> omega) rfl ?_;refine gD ?_;exact H.ag (i + 1,e) ⟨by show i + 1 ≤ vs.length;omega,hle⟩ (by show vs.length - (i + 1) < vs.length - i;omega)
  ·have ei:i = vs.length:=by omega
   subst ei;rw [List.take_length,← hdb];have hgl:=fun e G=>hlog e G (decB l).1;rw [hwd] at hgl
   clear hlog hcv hcl hcm hvm hal hdb hwd;generalize hm:(decB l).2 = m at *;generalize (decB l).1 = dv at *;generalize decL l = D at *;refine gP ?_;refine H.Al rfl rfl rfl (hdec e hle _) fun x f' A' hr=>?_;obtain ⟨p5,c5,rfl,hff,rfl⟩:=hr;rw [hff];clear hff;refine qhm fun g3 hg3 hd3=>?_;have hat5:ListAt (un e g3) p5 40 Req.vals D:=(zbd Req.len hg3).mono (Le.right hd3);have hle3:=hle.trans (Le.un e g3)
   clear hg3 hd3;generalize un e g3 = e3 at *;refine gJ ?_;refine H.Af rfl rfl rfl (hdv e3 hle3 _) ?_;refine H.Al rfl rfl rfl (hgl e3 _) fun x f' A' hr=>?_;obtain ⟨p6,c6,rfl,hff,rfl⟩:=hr;rw [hff];clear hff;have hao:allO (some wd) = wd.all:=rfl;rw [hao]
   clear hao;generalize wd.all = R at *;refine H.Cg (p:=p6) (m:=R.length) (c:=c6) (T:=44) (sz:=40) (xs:=R.flatMap Req.vals) (.here _ _ _) fun hcap _ _=>?_;refine qhm fun g4 hg4 hd4=>?_;have hat6:ListAt (un e3 g4) p6 40 Req.vals R:=(zbd Req.len hg4).mono (Le.right hd4);have hup4:=Le.un e3 g4
   have hle4:=hle3.trans hup4;clear hg4 hd4
   generalize un e3 g4 = e4 at *
   have hsame:∀ G,Fn Tryz.prog 30 [.slice p5 D.length c5,.slice p6 m c6] e4 G (Ret (.bool true) e4 G):=fun G=>by
    have h2:=hat6.take m;rw [← hdl] at h2
    have h3:=sameR_fn e4 G (ca:=c5) (cb:=c6) (hat5.mono hup4) h2 (by omega);rw [hdn] at h3 ⊢
    exact h3
   clear hat5 hat6;refine gV ?_;refine H.sliceTo (hv:=m) rfl rfl rfl rfl (by omega) rfl ?_;refine H.cr (hsame _) ?_;refine gT ?_;refine H.Af rfl rfl rfl (zby e4 _ (zbm hta2 hle4)) ?_;refine gL ?_;refine qgi ?_;refine qdp ?_;refine H.weakL (le2.trans hle4) ?_;exact qah
end
structure WFr (f e:Frag) (n:Nat) (W:W15) (kb:Nat) (ap:Option Addr) (ac lb:Nat) (l:List MV):Prop where
 le:Le f e
 wat:WAt e n W.w kb ap l
 φ:w15φ f W ⟨kb,lb,ap,ac,l⟩
 back:∃ g1 g2,e = un (un f g1) g2 ∧ row kb 36 (kRow n W.w.kv) g1 ∧ Dj f g1 ∧ slc ap l.length ac 51 121 (l.flatMap MV.vals) g2 ∧ Dj (un f g1) g2
variable {P:Program} {base:World} {m wb n:Nat} {L:Env} {f:Frag} {A:List HP} {K:Kont} {W:W15}
theorem H.world15t
  (h:∀ e kb ap ac lb (l:List MV),WFr f e n W kb ap ac lb l→H P base m L e (row wb 34 (w15C kb n ap l.length ac lb)::logsH f lb W.l::A) K):H P base m L f (wH15 f wb n W::A) K:=by
 refine H.unpack fun i hi=>?_;obtain ⟨kb,lb,ap,ac,l⟩:=i;refine qfN fun g1 hg1 hd1=>?_;refine H.Bu (.there _ (.here _ _)) fun g2 hg2 hd2=>?_;have hle:Le f (un (un f g1) g2):=(Le.un _ _).trans (Le.un _ _);have h1:KAt (un (un f g1) g2) kb n W.w.kv:=(KAt.of hg1 hd1).mono (Le.un _ g2)
 have h2:ListAt (un (un f g1) g2) ap 121 MV.vals l:=(zbd MV.len hg2).mono (Le.right hd2);exact h _ kb ap ac lb l ⟨hle,⟨h1,h2,fun y hy=>(hi.2 y hy).mono hle,hi.1⟩,hi,g1,g2,rfl,hg1,hd1,hg2,hd2⟩
variable {lb:Nat}
theorem H.world15b {e:Frag} {kb:Nat} {ap:Option Addr} {ac:Nat} {l:List MV} (w:WFr f e n W kb ap ac lb l)
  (h:H P base m L f (wH15 f wb n W::A) K):H P base m L e (row wb 34 (w15C kb n ap l.length ac lb)::logsH f lb W.l::A) K:=by
 obtain ⟨g1,g2,rfl,hg1,hd1,hg2,hd2⟩:=w.back;refine H.thaw hg2 hd2 ?_;refine H.thaw hg1 hd1 ?_;refine H.Am (x:=logsH f lb W.l) (.there _ (.there _ (.there _ (.here _ _)))) ?_;refine H.Am (x:=slc ap l.length ac _ 121 _) (.there _ (.there _ (.here _ _))) ?_;refine H.Am (x:=row kb _ _) (.there _ (.there _ (.here _ _))) ?_;refine H.Am (x:=row wb _ _) (.there _ (.there _ (.there _ (.here _ _)))) ?_;exact H.imp (w15_fold ⟨kb,lb,ap,ac,l⟩ w.φ) h
section
variable (f:Frag) (F:List HP)
theorem decideSafe_fn (htab:TabAt f) (hat:ListAt f p 12 A15.vals xs) (hh:∀ x ∈ xs,x.Has f) (hxl:xs.length ≤ 9223372036854775807) :
  Fn Tryz.prog 6 [.int .u8 (n8.toNat:Nat),.slice p xs.length c] f F (Ret (.bool true) f F):=by
 have hfew:=few15_fn f F (c:=c) hat hxl
 cases hf:few15 xs with
 | false =>
  rw [hf] at hfew;refine Fn.e2 Tryz.func6 Tryz.ntmps6 fun base=>?_;refine qdZ ?_;refine gY ?_;refine H.Af rfl rfl rfl (zby f _ htab) ?_;refine gR ?_;exact qah
 | true =>
  rw [hf] at hfew;obtain ⟨hl100,hq20⟩:=few15_all hf;by_cases h80:xs.length ≤ 80
  ·skip;refine Fn.e2 Tryz.func6 Tryz.ntmps6 fun base => ?_;refine qdZ ?_;refine ga ?_;obtain ⟨n, hn8⟩ : ∃ n, n = 3 + 2 * (n8.toNat % 5) := ⟨_, rfl⟩; have hn3 : 3 ≤ n ∧ n ≤ 11 := by omega
   have hodd:n % 2 = 1:=by omega
   have hod:=fun G=>odd15_fn f G n8;rw [← hn8] at hod
   refine H.cr (hod _) ?_;refine H.Al rfl rfl rfl (nworld_fn f _ (fewz_odd hn8)) fun v f' A' hr=>?_;obtain ⟨g0,wb,rfl,hd0,rfl,rfl⟩:=hr;have hle0:=Le.un f g0;generalize un f g0 = f1 at *
   clear hd0 hfew hod;refine gR ?_
   refine H.lo (ι:=Nat × List Req × Option Addr × Nat × Frag) (fun s=>[(7,.int .i64 (s.1:Int)),(6,.slice s.2.2.1 s.2.1.length s.2.2.2.1),(5,.pointer (some ⟨wb,0,none⟩)),(1,.slice p xs.length c)]) (fun s=>s.2.2.2.2)
    (fun s=>wH15 s.2.2.2.2 wb n (world15 n (xs.take s.1))::F)
    (fun s=>s.1 ≤ xs.length ∧ Le f1 s.2.2.2.2 ∧ ListAt s.2.2.2.2 s.2.2.1 40 Req.vals s.2.1 ∧ s.2.1.length ≤ s.2.2.2.1 ∧ s.2.1 <+: decL (lgsOf n (world15 n (xs.take s.1)).w.all) ∧ s.2.1.length ≤ 100) (fun s=>xs.length - s.1)
    (0,[],none,0,f1) ⟨Nat.zero_le _,Le.refl _,(fun i x h=>by simp at h),Nat.le_refl _,List.nil_prefix,Nat.zero_le _⟩ fun s hs=>?_
   obtain ⟨i,R,lp,lc,e⟩:=s;obtain ⟨hi,hle,hlat,hlc,hR,hRl⟩:i ≤ xs.length ∧ Le f1 e ∧ ListAt e lp 40 Req.vals R ∧ R.length ≤ lc ∧ R <+: decL (lgsOf n (world15 n (xs.take i)).w.all) ∧ R.length ≤ 100:=hs;show H _ _ _ [(7,.int .i64 (i:Int)),(6,.slice lp R.length lc),_,_] e (wH15 e wb n (world15 n (xs.take i))::F) _;have hinv:=zbs hn3.1 hn3.2 xs i (by omega);have hwl:=zca n xs i
   have hWG:=world15_WG hn3.1 hn3.2 xs i (by omega);by_cases hil:i < xs.length
   ·obtain ⟨x,hx⟩:∃ x,xs[i]? = some x:=⟨_,List.getElem?_eq_getElem hil⟩;have hnext:world15 n (xs.take (i + 1)) = (world15 n (xs.take i)).act n x:=by rw [zbh hx,world15_snoc]
    have hinv2:=zbs hn3.1 hn3.2 xs (i + 1) (by omega);have hwl2:=zca n xs (i + 1)
    have hWG2:=world15_WG hn3.1 hn3.2 xs (i + 1) (by omega);have hxm:=List.mem_of_getElem? hx
    have hxa:=hh x hxm;have hxq:=hq20 x hxm
    obtain ⟨b,off,cs,T,fr,rfl,hfb,hcs⟩:=hat i x hx;have rd:∀ e A,Le f1 e→Rd e A b (off + i * 12) x.vals:=fun e A h=>Rd.imm (h b _ (hle0 b _ hfb)) hcs
    have hR1:R <+: decL (lgsOf n (world15 n (xs.take (i + 1))).w.all):=by
     refine hR.trans ?_;rw [hnext]
     have hap:∃ t,((world15 n (xs.take i)).act n x).w.all = (world15 n (xs.take i)).w.all ++ t:=by
      unfold W15.act;split
      ·exact ⟨[],(List.append_nil _).symm⟩
      ·split
       ·exact ⟨_,rfl⟩
       ·exact ⟨[],(List.append_nil _).symm⟩
     obtain ⟨t,ht⟩:=hap;rw [hnext] at hinv2 hWG2;have h1:=hinv2.w.ok;have h2:=hWG2.v
     rw [ht] at h1 h2 ⊢;exact dec_app h1 h2 hn3.1 hn3.2 hodd
    have hdo:=fun G=>do_fn e G (Le.refl _) (wb:=wb) hn3 hinv (by omega) (by omega) (hxa.mono (hle0.trans hle)) hxq;refine gG ?_
    refine H.Ag (i:=i) rfl rfl rfl rfl hil rfl ?_;refine H.Ae (ls:=x.vals) rfl rfl rfl (rd e _ hle) rfl rfl ?_;refine H.cl (hdo _) fun v f' A' hr=>?_;obtain ⟨g,M,qp,qc,hd,rfl,rfl,rfl⟩:=hr;have hup:=Le.un e g;have hle1:=hle.trans hup
    have hlat1:=hlat.mono hup;clear hd hdo hR hlat
    rw [← hnext];generalize un e g = e1 at *;generalize hW2:world15 n (xs.take (i + 1)) = W2 at *;refine H.Ak (ls:=msgZ.vals none 0) rfl rfl rfl fun mb=>?_;refine H.Ah (ls:=msgZ.vals none 0) (vs:=M.vals qp qc) (ls':=M.vals qp qc) rfl rfl rfl (zaa rfl) rfl rfl (Nat.le_refl 121) (by repeat constructor) ?_;refine (fun (tail:True→?T)=>?main) ?pf
    case main =>
     by_cases h1:0 < M.origin
     ·by_cases h2 : i % 4 = 3
      ·exact qaL
      ·by_cases h3:i = xs.length - 1
       ·exact qaL
       ·have h3:¬ (i:Int) = (xs.length:Int) - 1:=by omega
        repeat (first | (refine gg ?_) | (refine H.rem (z:=((i % 4:Nat):Int)) rfl rfl rfl (by decide) (by rw [show (4:Int) = ((4:Nat):Int) from rfl];exact zak (a:=i) (b:=4) rfl) rfl ?_))
        refine qdu ?_;exact H.Aq (i + 1,R,lp,lc,e1) ⟨by show i + 1 ≤ xs.length;omega,hle1,hlat1,hlc,by show R <+: decL (lgsOf n (world15 n (xs.take (i + 1))).w.all);rw [hW2];exact hR1,hRl⟩ (by show xs.length - (i + 1) < xs.length - i;omega) ⟨rfl,rfl,rfl,rfl,trivial⟩ rfl (by rw [hW2])
     ·skip;refine gY ?_;refine qdu ?_;refine H.sb [(7,.int .i64 (i:Int)),(6,.slice lp R.length lc),(5,.pointer (some ⟨wb,0,none⟩)),(1,.slice (some ⟨b,off,none⟩) xs.length c)] ?_;exact tail trivial
    case pf =>
     intro _;have hwho:=x.who.toNat_lt;obtain ⟨o,hoe⟩:∃ o,o = x.who.toNat % n:=⟨_,rfl⟩
     have ho:o < n:=by rw [hoe];exact Nat.mod_lt _ (by omega)
     have hremo:((x.who.toNat:Nat):Int).tmod (n:Int) = ((o:Nat):Int):=zak (a:=x.who.toNat) (b:=n) hoe.symm;refine H.world15t fun e2 kb ap ac lb0 ml hwf=>?_
     have hle2:=hle1.trans hwf.le;refine H.dq ?_
     refine gB ?_;refine HQ.Ag (i:=i) rfl rfl rfl rfl hil rfl ?_;refine gQ ?_;refine HQ.Ab rfl rfl rfl (Rd1.of (i:=0) (rd e2 _ hle2) rfl) rfl ?_;refine qeU ?_;refine gK ?_;have hK:=hinv2.w;have hKo:=hinv2.kok hn3.1 hn3.2 hwf.wat.good_v ho
     have hatf:=fun G=>at16_fn e2 G (zbm htab (hle0.trans hle2)) hn8 (ac:=ac) (lb0:=lb0) (wb:=wb) hwf.wat hKo (by omega);have hkr:=fun G=>hwf.wat.k.rd G ho
     have hkn:=hinv2.w.knw o ho;have hpre:=dec_sub hinv2.w.ok hkn hWG2.v hn3.1 hn3.2 hodd
     generalize W2.w.kv o = kv at *;have hLI:=hKo.li W2.w.all.length;have hln:(lgsOf n (sub kv W2.w.all)).n = n:=lgsOf_n n _
     rw [List.take_length] at hLI;have hsl:=sub_len kv W2.w.all;unfold AtP at hatf
     generalize lgsOf n (sub kv W2.w.all) = l at *;generalize (sub kv W2.w.all).length = TT at *;refine gF ?_;refine H.Ag (i:=o) rfl rfl rfl rfl ho rfl ?_;refine H.Ae (ls:=v11 kv) rfl rfl rfl (by rw [Nat.zero_add];exact hkr _) rfl rfl ?_;refine H.cl (hatf _) fun v f' A' hr=>?_;obtain ⟨g2,lb,hd2,rfl,rfl,rfl⟩:=hr;have hup2:=Le.un e2 g2;clear hatf hd2 hkr
     generalize un e2 g2 = e3 at *;have hdec:=fun G=>decided_fn e3 G (Le.refl e3) (lb:=lb) hLI (by omega) (by rw [hln];exact hodd);rw [hln] at hdec
     have hDl:(decL l).length ≤ 100:=by
      rw [decL_len];have h1:=decB_le l
      cases hv:l.vw (decB l).1 with
      | none=>rw [hv] at h1;exact Nat.le_trans h1 (Nat.zero_le _)
      | some w=>rw [hv] at h1;have h2:=hLI.al w (vw_v hv).2;have h1:(decB l).2 ≤ w.all.length:=h1;omega
     generalize decL l = D at *;refine ga ?_;refine qeY ?_;refine H.cl (hdec _) fun x f' A' hr=>?_;obtain ⟨p5,c5,rfl,hff,rfl⟩:=hr;rw [hff];clear hff hdec;refine H.pd (x:=plogH _ lb _) ?_;refine H.weakL hup2 ?_;refine qfq ?_;refine qdS ?_;refine H.world15b hwf ?_;refine H.pf (x:=slc p5 _ _ _ _ _) ?_;refine H.Cg (p:=p5) (m:=D.length) (c:=c5) (T:=44) (sz:=40) (xs:=D.flatMap Req.vals) (.here _ _ _) fun hcap _ _=>?_;refine qhm fun g5 hg5 hd5=>?_;have hat5:ListAt (un e1 g5) p5 40 Req.vals D:=(zbd Req.len hg5).mono (Le.right hd5);have hup5:=Le.un e1 g5
     have hle5:=hle1.trans hup5;have hlat5:=hlat1.mono hup5
     clear hg5 hd5 hwf hup2 hle2 hKo hkn hK;generalize un e1 g5 = e5 at *;refine H.imp (w15_up hup5) ?_;obtain ⟨m,hm⟩:∃ m,m = min D.length R.length:=⟨_,rfl⟩;have htk:=pre_take hpre hR1;rw [← hm] at htk
     have hsame:∀ G,Fn Tryz.prog 30 [.slice p5 m c5,.slice lp m lc] e5 G (Ret (.bool true) e5 G):=fun G=>by
      have h1:=hat5.take m;have h2:=hlat5.take m
      rw [← htk] at h2;have h3:=sameR_fn e5 G (ca:=c5) (cb:=lc) h1 h2 (by rw [List.length_take];omega);rw [List.length_take,show min m D.length = m by omega] at h3
      exact h3
     clear htk;refine gJ ?_;refine H.min2 (z:=((m:Nat):Int)) rfl rfl rfl (by split <;> omega) rfl ?_;refine gJ ?_;refine H.db (S:=[]) rfl ?_;refine HB.qu [0,1,2,3,4,5] 2 ?_;refine gB ?_;refine HQ.slice (lo:=none) (hi:=some (.tmp 97)) (mx:=none) (lv:=0) (hv:=m) (mv:=c5) rfl rfl rfl ⟨_,_,rfl,rfl⟩ rfl (fun h=>by cases h) (Nat.zero_le _) (by omega) (Nat.le_refl _) rfl ?_;rw [slP0,Nat.sub_zero,Nat.sub_zero];refine gB ?_;refine HQ.slice (lo:=none) (hi:=some (.tmp 100)) (mx:=none) (lv:=0) (hv:=m) (mv:=lc) rfl rfl rfl ⟨_,_,rfl,rfl⟩ rfl (fun h=>by cases h) (Nat.zero_le _) (by omega) (Nat.le_refl _) rfl ?_;rw [slP0,Nat.sub_zero,Nat.sub_zero];refine qdb ?_;refine HB.ev 6 ?_;refine H.cr (hsame _) ?_;refine qcS ?_;refine HB.qu [7] 0 ?_;refine qeV ?_;by_cases hlg:R.length < D.length
     ·skip;refine gc ?_;exact H.Aq (i + 1,D,p5,c5,e5) ⟨by show i + 1 ≤ xs.length;omega,hle5,hat5,hcap,by show D <+: decL (lgsOf n (world15 n (xs.take (i + 1))).w.all);rw [hW2];exact hpre,hDl⟩ (by show xs.length - (i + 1) < xs.length - i;omega) ⟨rfl,rfl,rfl,rfl,trivial⟩ rfl (by rw [hW2];rfl)
     ·skip;refine gc ?_;exact H.Aq (i + 1,R,lp,lc,e5) ⟨by show i + 1 ≤ xs.length;omega,hle5,hlat5,hlc,by show R <+: decL (lgsOf n (world15 n (xs.take (i + 1))).w.all);rw [hW2];exact hR1,hRl⟩ (by show xs.length - (i + 1) < xs.length - i;omega) ⟨rfl,rfl,rfl,rfl,trivial⟩ rfl (by rw [hW2];rfl)
   ·have ei:i = xs.length:=by omega
    subst ei;rw [List.take_length] at *;have hvv:=hWG.v;generalize world15 n xs = W15' at *
    refine gP ?_;refine H.world15 fun g1 kb ap ac lb0 ml hd1 hwat=>?_;have hupw:=Le.un e g1;have hle1:=hle.trans hupw
    have hlat1:=hlat.mono hupw;clear hd1 hlat
    generalize un e g1 = e1 at *;have hta:=zbm htab (hle0.trans hle1);have hK:=KOK.full hinv.w.ok hn3.1 hn3.2 hvv
    have hsf:=sub_full hinv.w.ok;have hLI:=lgsOf_LI hn3.1 hn3.2 W15'.w.all hvv
    have hatf:=fun G=>at16_fn e1 G hta hn8 (ac:=ac) (lb0:=lb0) (wb:=wb) hwat hK (by omega);unfold AtP at hatf
    have hfull:(fun i=>if i < n then ((cnt W15'.w.all i:Nat):Int) else 0) = fun i=>((cnt W15'.w.all i:Nat):Int):=by
     funext i;by_cases hi:i < n
     ·rw [if_pos hi]
     ·rw [if_neg hi];have h2:=hinv.w.ok.cnt_zero (i:=i) (by omega);omega
    have hown:=fun i (hi:i < n)=>hinv.w.own i hi;have hkrd:=fun G i (hi:i < n)=>hwat.k.rd G hi
    rw [hsf] at hatf;have hln:(lgsOf n W15'.w.all).n = n:=lgsOf_n _ _;generalize lgsOf n W15'.w.all = l at *
    generalize hT0:W15'.w.all.length = T0 at *;clear hK hsf hvv;skip;refine H.Ak (ls:=v11 fun _=>0) rfl rfl rfl fun xb=>?_;refine gR ?_
    refine H.loop (ι:=Nat) (fun i=>[(15,.int .i64 (i:Int)),(14,.pointer (some ⟨xb,0,none⟩)),(6,.slice lp R.length lc),(5,.pointer (some ⟨wb,0,none⟩))]) (fun _=>e1)
     (fun i=>row xb 36 (v11 fun t=>if t < i then ((cnt W15'.w.all t:Nat):Int) else 0)::row wb 34 (w15C kb n ap ml.length ac lb0)::F) (fun i=>i ≤ n) (fun i=>n - i)
     0 (Nat.zero_le _) ⟨rfl,rfl,rfl,rfl,trivial⟩ rfl (by rw [show (fun t=>if t < 0 then ((cnt W15'.w.all t:Nat):Int) else 0) = fun _=>0 from by funext t;rw [if_neg (by omega)]]) fun i hi=>?_
    have hi:i ≤ n:=hi;by_cases hin:i < n
    ·have hup:updF (fun t=>if t < i then ((cnt W15'.w.all t:Nat):Int) else 0) i ((cnt W15'.w.all i:Nat):Int) = fun t=>if t < i + 1 then ((cnt W15'.w.all t:Nat):Int) else 0:=by
      exact qbs
     have hki:=fun G=>hkrd G i hin;have hoi:=hown i hin
     have hset:=v11_upd (fun t=>if t < i then ((cnt W15'.w.all t:Nat):Int) else 0) ((cnt W15'.w.all i:Nat):Int) (k:=i) (by omega);exact qaE
    ·have e:i = n:=by omega
     subst e;rw [hfull];clear hkrd hown hfull;generalize (fun i=>((cnt W15'.w.all i:Nat):Int)) = kf at *;refine gO ?_;refine H.Ae (ls:=v11 kf) rfl rfl rfl (Rd.ofRow (by repeat constructor)) rfl rfl ?_;refine qdS ?_;refine H.cl (hatf _) fun v f' A' hr=>?_;obtain ⟨g2,lb,hd2,rfl,rfl,rfl⟩:=hr;have hup:=Le.un e1 g2;have hle2:=hle1.trans hup
     have hlat2:=hlat1.mono hup;clear hatf hd2 hlat1
     generalize un e1 g2 = f2 at *;have hta2:=zbm hta hup;have hdec:=fun G=>decided_fn f2 G (Le.refl f2) (lb:=lb) hLI (by omega) (by rw [hln];exact hodd)
     rw [hln] at hdec;generalize decL l = D at *;have hRD:=hR.length_le;have htk:=List.prefix_iff_eq_take.1 hR
     refine ga ?_;refine qeY ?_;refine H.cl (hdec _) fun x f' A' hr=>?_;obtain ⟨p5,c5,rfl,hff,rfl⟩:=hr;rw [hff];clear hff hdec;refine H.Cg (p:=p5) (m:=D.length) (c:=c5) (T:=44) (sz:=40) (xs:=D.flatMap Req.vals) (.here _ _ _) fun hcap _ _=>?_;refine qhm fun g5 hg5 hd5=>?_;have hat5:ListAt (un f2 g5) p5 40 Req.vals D:=(zbd Req.len hg5).mono (Le.right hd5);have hup5:=Le.un f2 g5
     have hle5:=hle2.trans hup5;have hlat5:=hlat2.mono hup5
     clear hg5 hd5;generalize un f2 g5 = e5 at *
     have hsame:∀ G,Fn Tryz.prog 30 [.slice p5 R.length c5,.slice lp R.length lc] e5 G (Ret (.bool true) e5 G):=fun G=>by
      have h1:=hat5.take R.length;rw [← htk] at h1
      exact sameR_fn e5 G (ca:=c5) (cb:=lc) h1 hlat5 (by omega)
     clear htk hR;have hc5:R.length ≤ c5:=Nat.le_trans hRD hcap;refine gc ?_
     refine H.min2 (z:=((R.length:Nat):Int)) rfl rfl rfl (by split <;> omega) rfl ?_;skip;refine H.sliceTo (hv:=R.length) rfl rfl rfl rfl hc5 rfl ?_;refine gJ ?_;refine H.cr (hsame _) ?_;refine gT ?_;refine H.Af rfl rfl rfl (zby e5 _ (zbm hta2 hup5)) ?_;refine gL ?_;refine H.pd (x:=plogH _ lb _) ?_;refine H.pd (x:=row wb _ _) ?_;refine qhh ?_;refine H.weakL (hle0.trans hle5) ?_;exact qah
  ·skip;refine Fn.e2 Tryz.func6 Tryz.ntmps6 fun base=>?_;refine qdZ ?_;refine gc ?_;refine H.Af rfl rfl rfl (zby f _ htab) ?_;refine gR ?_;exact qah
end
theorem cntP_cntV {j:Nat} (h:0 < j):cntP (pW l v j) l.n = cntV l v j:=by
 rw [cntP_filter];unfold cntV;congr 1;refine List.filter_congr fun r _=>?_;unfold vot pW
 cases PM.voted (l.past r).all v with
 | none=>exact (decide_eq_false (by show ¬ _ ≤ (0:Int);omega)).symm
 | some x=>rfl
variable {fl:Frag} {i0:LPt}
section
variable (f:Frag) (F:List HP)
theorem rcommitted_fn (hL:LI l T) (hT:T ≤ 50000) (hfl:Le fl f) (hi:lgφ fl l i0) (v:Int) :
  Fn Tryz.prog 34 [.pointer (some ⟨lb,0,none⟩),.int .u64 v] f (lgB lb l i0 ++ F) (Ret (.int .i64 (cmt l v:Nat)) f (lgB lb l i0 ++ F)):=by
 have hn:=hL.n3;obtain ⟨pbb,poff,hpp,rdp⟩:=hi.past (by omega)
 have hlog:=fun G=>lglog_fn f G hfl (lb:=lb) hL hT hi (kn:=l.known) (pp:=i0.pp) (pc:=i0.pc) (cp:=i0.cp) (cc:=i0.cc) v;obtain ⟨V,vp,vc,pp,pc,cp,cc,qb,cs⟩:=i0
 have hpp:pp = some ⟨pbb,poff,none⟩:=hpp;subst hpp
 have hlog:∀ G,Fn Tryz.prog 66 [.pointer (some ⟨lb,0,none⟩),.int .u64 v] f (row lb 75 (lgC l.n l.known vp V.length vc (some ⟨pbb,poff,none⟩) pc cp cc)::slc vp V.length vc 81 4 (V.flatMap VV.vals)::lst (V.map VV.own)::G) (LogOR f (row lb 75 (lgC l.n l.known vp V.length vc (some ⟨pbb,poff,none⟩) pc cp cc)::slc vp V.length vc 81 4 (V.flatMap VV.vals)::lst (V.map VV.own)::G) (l.vw v)):=hlog;show Fn _ _ _ f (row lb 75 (lgC l.n l.known vp V.length vc (some ⟨pbb,poff,none⟩) pc cp cc)::slc vp V.length vc 81 4 (V.flatMap VV.vals)::lst (V.map VV.own)::fam (fun r=>pstH (qb r) (l.past r)) l.n::slc cp l.n cc 253 1 (chRow l cs)::fam (chFam l cs) l.n::F) (Ret _ f (row lb 75 (lgC l.n l.known vp V.length vc (some ⟨pbb,poff,none⟩) pc cp cc)::slc vp V.length vc 81 4 (V.flatMap VV.vals)::lst (V.map VV.own)::fam (fun r=>pstH (qb r) (l.past r)) l.n::slc cp l.n cc 253 1 (chRow l cs)::fam (chFam l cs) l.n::F))
 refine Fn.e2 Tryz.func34 Tryz.ntmps34 fun base=>?_;refine gJ ?_;refine H.cl (hlog _) fun x f' A' hr=>?_;obtain ⟨p,c,rfl,hff,rfl⟩:=hr;rw [hff];clear hff hlog
 cases hv:l.vw v with
 | none =>
  have e:cmt l v = 0:=cmt_no hv;rw [e]
  show H _ _ _ ((_,.tuple #[.slice p 0 c,.bool false])::_) _ (slc p 0 c _ 40 []::_) _;refine gX ?_;exact qaz
 | some w =>
  have hwl:=hL.al w (vw_v hv).2;rw [cmt_at hv]
  obtain ⟨R,hR0⟩:∃ R,R = w.all:=⟨_,rfl⟩;have hao:allO (some w) = R:=hR0.symm;rw [hao]
  rw [← hR0] at hwl ⊢;clear hao hR0 hv
  have hq:IntKind.i64.wrap (((l.n:Int) - 1).tdiv 2) = (((l.n - 1) / 2:Nat):Int):=by
   rw [show (2:Int) = ((2:Nat):Int) from rfl,show ((l.n:Int) - 1) = (((l.n - 1:Nat)):Int) by omega,tdiv64,wr_i64 (by omega)]
  refine gW ?_
  refine H.lo (ι:=Nat) (fun j=>[(7,.int .i64 (j:Int)),(5,.slice p R.length c),(1,.int .u64 v),(0,.pointer (some ⟨lb,0,none⟩))]) (fun _=>f)
   (fun _=>slc p R.length c 44 40 (R.flatMap Req.vals)::row lb 75 (lgC l.n l.known vp V.length vc (some ⟨pbb,poff,none⟩) pc cp cc)::slc vp V.length vc 81 4 (V.flatMap VV.vals)::lst (V.map VV.own)::fam (fun r=>pstH (qb r) (l.past r)) l.n::slc cp l.n cc 253 1 (chRow l cs)::fam (chFam l cs) l.n::F) (fun j=>j ≤ R.length ∧ cmtF l v R.length = cmtF l v j) (fun j=>j)
   R.length ⟨Nat.le_refl _,rfl⟩ fun j hj=>?_
  obtain ⟨hj,hcm⟩:j ≤ R.length ∧ cmtF l v R.length = cmtF l v j:=hj;rw [hcm];by_cases hj0:0 < j
  ·obtain ⟨j',rfl⟩:∃ j',j = j' + 1:=⟨j - 1,by omega⟩;have hcc:=cntP_cntV (l:=l) (v:=v) (j:=j' + 1) hj0;have hcf:cmtF l v (j' + 1) = if (l.n - 1) / 2 < cntV l v (j' + 1) then j' + 1 else cmtF l v j':=rfl
   rw [← hcc] at hcf;generalize hjj:j' + 1 = j at *;refine gG ?_
   refine H.lo (ι:=Nat) (fun r=>[(9,.int .i64 (r:Int)),(8,.int .i64 ((cntP (pW l v j) r:Nat):Int)),(7,.int .i64 (j:Int)),(5,.slice p R.length c),(1,.int .u64 v),(0,.pointer (some ⟨lb,0,none⟩))]) (fun _=>f)
    (fun _=>slc p R.length c 44 40 (R.flatMap Req.vals)::row lb 75 (lgC l.n l.known vp V.length vc (some ⟨pbb,poff,none⟩) pc cp cc)::slc vp V.length vc 81 4 (V.flatMap VV.vals)::lst (V.map VV.own)::fam (fun r=>pstH (qb r) (l.past r)) l.n::slc cp l.n cc 253 1 (chRow l cs)::fam (chFam l cs) l.n::F) (fun r=>r ≤ l.n) (fun r=>l.n - r)
    0 (Nat.zero_le _) fun r hr=>?_
   have hr:r ≤ l.n:=hr;have hcw:=cntP_le (pW l v j) r
   by_cases hrn:r < l.n
   ·have hil:=hL.il r hrn;have hvo:=fun G=>pst_voted f G (qb r) (l.past r) (by omega) v
    cases hvr:PM.voted (l.past r).all v with
    | none =>
     rw [hvr] at hvo;have hvo:∀ G,Fn Tryz.prog 72 [.pointer (some ⟨qb r,0,none⟩),.int .u64 v] f (pstH (qb r) (l.past r)::G) (Ret (.tuple #[.int .i64 0,.bool false]) f (pstH (qb r) (l.past r)::G)):=hvo;have hs1:cntP (pW l v j) (r + 1) = cntP (pW l v j) r + 0:=by show (if pW l v j r = true then _ else _) = _;rw [show pW l v j r = false from by unfold pW;rw [hvr];skip];rfl
     generalize cntP (pW l v j) r = nw at *;refine gO ?_;refine H.Ag (b:=pbb) (off:=poff) (i:=r) rfl rfl rfl rfl hrn rfl ?_;refine H.Ab rfl rfl rfl (by rw [Nat.mul_one];exact rdp hfl hrn) rfl ?_;refine gJ ?_;refine H.pf (x:=fam (fun r=>pstH (qb r) (l.past r)) _) ?_;refine H.Bn hrn ?_;refine H.cr (hvo _) ?_;refine H.By (g:=fun r=>pstH (qb r) (l.past r)) hrn ?_;refine ga ?_;refine qfb ?_;refine H.pf (x:=slc vp _ vc _ 4 _) ?_;refine qdh ?_;refine H.pf (x:=slc p _ c _ 40 _) ?_;exact H.Aq (r + 1) (by show r + 1 ≤ l.n;omega) (by show l.n - (r + 1) < l.n - r;omega) ⟨rfl,(by show _ = some (Value.int .i64 ((cntP (pW l v j) (r + 1):Nat):Int));rw [hs1];rfl),rfl,rfl,rfl,rfl,trivial⟩ rfl rfl
    | some x =>
     rw [hvr] at hvo;have hvo:∀ G,Fn Tryz.prog 72 [.pointer (some ⟨qb r,0,none⟩),.int .u64 v] f (pstH (qb r) (l.past r)::G) (Ret (.tuple #[.int .i64 x,.bool true]) f (pstH (qb r) (l.past r)::G)):=hvo;by_cases h1:(j:Int) ≤ x
     ·skip;have hs1:cntP (pW l v j) (r + 1) = cntP (pW l v j) r + 1:=by show (if pW l v j r = true then _ else _) = _;rw [show pW l v j r = true from by unfold pW;rw [hvr];exact decide_eq_true h1];rfl
      exact qas
     ·skip;have hs1:cntP (pW l v j) (r + 1) = cntP (pW l v j) r + 0:=by show (if pW l v j r = true then _ else _) = _;rw [show pW l v j r = false from by unfold pW;rw [hvr];exact decide_eq_false h1];rfl
      exact qas
   ·have er:r = l.n:=by omega
    subst er;generalize cntP (pW l v j) l.n = nw at *;by_cases hm:(l.n - 1) / 2 < nw
    ·rw [if_pos hm] at hcf;rw [hcf];repeat (first | (refine gg ?_) | (refine H.quo (z:=(((l.n - 1) / 2:Nat):Int)) rfl rfl rfl (by decide) hq rfl ?_))
     exact qaz
    ·rw [if_neg hm] at hcf;rw [hcf];repeat (first | (refine gg ?_) | (refine H.quo (z:=(((l.n - 1) / 2:Nat):Int)) rfl rfl rfl (by decide) hq rfl ?_))
     exact H.Aq j' ⟨by show j' ≤ R.length;omega,rfl⟩ (by show j' < j;omega) ⟨by show _ = some (Value.int .i64 (j':Int));rw [show (j':Int) = (j:Int) - 1 by omega];rfl,rfl,rfl,rfl,trivial⟩ rfl rfl
  ·have e:j = 0:=by omega
   subst e;refine gL ?_;exact qaz
def RDecP (f:Frag) (A:List HP) (R:List Req) (u:Int):Value→Frag→List HP→Prop:=fun v f' A'=>∃ (p:Option Addr) (c:Nat),v = .tuple #[.slice p R.length c,.int .u64 u] ∧ f' = f ∧ A' = slc p R.length c 44 40 (R.flatMap Req.vals)::A
theorem rdecided_fn (hL:LI l T) (hT:T ≤ 50000) (hfl:Le fl f) (hi:lgφ fl l i0) :
  Fn Tryz.prog 29 [.pointer (some ⟨lb,0,none⟩)] f (lgB lb l i0 ++ F) (RDecP f (lgB lb l i0 ++ F) (decL l) (decB l).1):=by
 have hcm:=fun G v=>rcommitted_fn f G (lb:=lb) hL hT hfl hi v;have hlog:=fun G v=>lglog_fn f G hfl (lb:=lb) hL hT hi (kn:=l.known) (pp:=i0.pp) (pc:=i0.pc) (cp:=i0.cp) (cc:=i0.cc) v
 have hVl:=hi.len;have hVm:=hi.vs
 have hvl:=hL.vl;obtain ⟨V,vp,vc,pp,pc,cp,cc,qb,cs⟩:=i0
 have hVl:V.length = l.vs.length:=hVl;have hVm:V.map VV.w = l.vs:=hVm
 have hdec:decB l = bestC (cmt l) (V.map fun x=>x.w.v) (0,0):=by
  unfold decB viewsU;rw [← hVm,List.map_map];rfl
 have hdl:decL l = (allO (l.vw (decB l).1)).take (decB l).2:=rfl;have hdn:=decL_len l
 have hdle:=decB_le l
 have hao:(allO (l.vw (decB l).1)).length ≤ T:=by
  cases hv:l.vw (decB l).1 with
  | none=>exact Nat.zero_le _
  | some w=>exact hL.al w (vw_v hv).2
 unfold RDecP;rw [hdn];rw [hdec] at hdl hdn hdle hao ⊢;show Fn _ _ _ f (row lb 75 (lgC l.n l.known vp V.length vc pp pc cp cc)::slc vp V.length vc 81 4 (V.flatMap VV.vals)::lst (V.map VV.own)::fam (fun r=>pstH (qb r) (l.past r)) l.n::slc cp l.n cc 253 1 (chRow l cs)::fam (chFam l cs) l.n::F) (fun v f' A'=>∃ (p:Option Addr) (c:Nat),v = .tuple #[.slice p (bestC (cmt l) (V.map fun x=>x.w.v) (0,0)).2 c,.int .u64 (bestC (cmt l) (V.map fun x=>x.w.v) (0,0)).1] ∧ f' = f ∧ A' = slc p (bestC (cmt l) (V.map fun x=>x.w.v) (0,0)).2 c 44 40 ((decL l).flatMap Req.vals)::row lb 75 (lgC l.n l.known vp V.length vc pp pc cp cc)::slc vp V.length vc 81 4 (V.flatMap VV.vals)::lst (V.map VV.own)::fam (fun r=>pstH (qb r) (l.past r)) l.n::slc cp l.n cc 253 1 (chRow l cs)::fam (chFam l cs) l.n::F);have hcm:∀ v,Fn Tryz.prog 34 [.pointer (some ⟨lb,0,none⟩),.int .u64 v] f (row lb 75 (lgC l.n l.known vp V.length vc pp pc cp cc)::slc vp V.length vc 81 4 (V.flatMap VV.vals)::lst (V.map VV.own)::fam (fun r=>pstH (qb r) (l.past r)) l.n::slc cp l.n cc 253 1 (chRow l cs)::fam (chFam l cs) l.n::F) (Ret (.int .i64 (cmt l v:Nat)) f (row lb 75 (lgC l.n l.known vp V.length vc pp pc cp cc)::slc vp V.length vc 81 4 (V.flatMap VV.vals)::lst (V.map VV.own)::fam (fun r=>pstH (qb r) (l.past r)) l.n::slc cp l.n cc 253 1 (chRow l cs)::fam (chFam l cs) l.n::F)):=hcm F;have hlog:∀ v,Fn Tryz.prog 66 [.pointer (some ⟨lb,0,none⟩),.int .u64 v] f (row lb 75 (lgC l.n l.known vp V.length vc pp pc cp cc)::slc vp V.length vc 81 4 (V.flatMap VV.vals)::lst (V.map VV.own)::fam (fun r=>pstH (qb r) (l.past r)) l.n::slc cp l.n cc 253 1 (chRow l cs)::fam (chFam l cs) l.n::F) (LogOR f (row lb 75 (lgC l.n l.known vp V.length vc pp pc cp cc)::slc vp V.length vc 81 4 (V.flatMap VV.vals)::lst (V.map VV.own)::fam (fun r=>pstH (qb r) (l.past r)) l.n::slc cp l.n cc 253 1 (chRow l cs)::fam (chFam l cs) l.n::F) (l.vw v)):=hlog _
 refine Fn.e1 Tryz.func29 Tryz.ntmps29 fun base=>?_;refine gR ?_
 refine H.lo (ι:=Nat) (fun k=>[(6,.int .i64 (k:Int)),(5,.int .u64 (bestC (cmt l) ((V.take k).map fun x=>x.w.v) (0,0)).1),(4,.int .i64 ((bestC (cmt l) ((V.take k).map fun x=>x.w.v) (0,0)).2:Nat)),(0,.pointer (some ⟨lb,0,none⟩))]) (fun _=>f)
  (fun _=>row lb 75 (lgC l.n l.known vp V.length vc pp pc cp cc)::slc vp V.length vc 81 4 (V.flatMap VV.vals)::lst (V.map VV.own)::fam (fun r=>pstH (qb r) (l.past r)) l.n::slc cp l.n cc 253 1 (chRow l cs)::fam (chFam l cs) l.n::F) (fun k=>k ≤ V.length) (fun k=>V.length - k)
  0 (Nat.zero_le _) fun k hk=>?_
 have hk:k ≤ V.length:=hk;by_cases hkl:k < V.length
 ·obtain ⟨x,hx⟩:∃ x,V[k]? = some x:=⟨_,List.getElem?_eq_getElem hkl⟩;have hsn:=bestC_snoc (cmt l) x.w.v ((V.take k).map fun x=>x.w.v) (0,0);have htk:(V.take (k + 1)).map (fun x=>x.w.v) = (V.take k).map (fun x=>x.w.v) ++ [x.w.v]:=by rw [zbh hx,List.map_append];rfl
  rw [← htk] at hsn;clear htk;generalize bestC (cmt l) ((V.take k).map fun x=>x.w.v) (0,0) = b at *;refine qfd fun sb hp=>?_;subst hp;have hrd:∀ {G:List HP} {x0:HP},Rd1 f (x0::slc (some ⟨sb,0,none⟩) V.length vc 81 4 (V.flatMap VV.vals)::G) sb (0 + k * 4 + 0) (.int .u64 x.w.v):=fun {G x0}=>Rd1.of (i:=0) (by rw [Nat.zero_add];exact Rd.slcElem (vals:=VV.vals) (xs:=V) VV.len (by decide) (.there _ (.here _ _ _)) hx) rfl;refine gO ?_
  refine H.Ag (i:=k) rfl rfl rfl rfl hkl rfl ?_;refine gH ?_;refine H.Ab rfl rfl rfl hrd rfl ?_;refine H.cr (hcm _) ?_;by_cases hb:b.2 < cmt l x.w.v
  ·rw [if_pos hb] at hsn;refine gO ?_;refine H.Ag (i:=k) rfl rfl rfl rfl hkl rfl ?_;refine gH ?_;refine H.Ab rfl rfl rfl hrd rfl ?_;refine gD ?_;exact qaW
  ·rw [if_neg hb] at hsn;refine gP ?_;exact qaW
 ·have e:k = V.length:=by omega
  subst e;rw [List.take_length];generalize bestC (cmt l) (V.map fun x=>x.w.v) (0,0) = b at *;have hlg:=hlog b.1;clear hlog hcm
  refine gO ?_;refine H.Al rfl rfl rfl hlg fun x f' A' hr=>?_;obtain ⟨p,c,rfl,hff,rfl⟩:=hr;rw [hff];clear hff hlg;generalize allO (l.vw b.1) = R at *;refine H.Cg (p:=p) (m:=R.length) (c:=c) (T:=44) (sz:=40) (xs:=R.flatMap Req.vals) (.here _ _ _) fun hcap _ hpl=>?_;refine gX ?_;refine H.Ar (out:=[]) rfl rfl rfl rfl (by decide) (by decide) rfl rfl fun eb=>?_;refine H.asSlc (k:=0) (sz:=40) rfl (by decide) ?_;refine gJ ?_;refine H.sliceTo (hv:=b.2) rfl rfl rfl rfl (by omega) rfl ?_;refine H.Aw (xs:=[]) (m:=b.2) rfl rfl rfl rfl rfl (fun p' c'=>.here _ _ _) (Src.slcTake (by repeat constructor) hdle hpl) (by rw [flat_take Req.len];exact Reqs_one _) rfl (by omega) (by omega) fun ap ac=>?_;rw [Nat.zero_add,List.nil_append,flat_take Req.len,← hdl];refine gR ?_;refine H.pd (x:=slc p _ _ _ _ _) ?_;exact H.Bb rfl rfl rfl (fun _ h=>h) ⟨ap,ac,rfl,rfl,rfl⟩
end
section
variable (f:Frag) (F:List HP)
end
section
variable (f:Frag) (F:List HP)
end
section
variable (f:Frag) (F:List HP)
end
section
variable (f:Frag) (F:List HP)
end
end Go.Proofs.YtminmjlfmolfeaaGreatDoor
