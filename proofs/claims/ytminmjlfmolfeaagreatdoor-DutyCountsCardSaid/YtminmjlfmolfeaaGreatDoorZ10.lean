/- Parts of the proof, one behind the other, each under its own heading. No conditions. -/
import Derived.Test.YtminmjlfmolfeaaGreatDoorZ09
import Derived.Test.YtminmjlfmolfeaaGreatDoorRows
import Derived.Test.YtminmjlfmolfeaaGreatDoorCards
import Derived.Test.YtminmjlfmolfeaaGreatDoorTie
set_option linter.unusedSectionVars false
set_option linter.unusedSimpArgs false
set_option linter.unusedVariables false
/- Layer 19: what a replica says next: the rule 'enter'. Condition: the table of the standard stands in the fragment. -/
set_option maxHeartbeats 6400000
set_option maxRecDepth 20000
namespace Go.Proofs.YtminmjlfmolfeaaGreatDoor
open Go
variable {p pp:Option Addr} {c lb o pc T:Nat} {I:HP} {ct:Int→Bool} {Ψ:Int→HP} {xs:List Int} {v wish:Int} {l:Lgs} {fl:Frag}
section
variable (f:Frag) (F:List HP)
theorem backw_fn {m:Nat}:Fn Tryz.prog 128 [.slice p m c] f F (RetE (fun b=>.func (.func 182) #[] #[.pointer (some ⟨b,0,none⟩)]) f (fun b=>row b 90 [.slice p m c]::F)):=by
 refine Fn.e1 Tryz.func128 Tryz.ntmps128 fun base=>?_;refine gA ?_;refine H.box (ls:=[.slice p m c]) rfl rfl rfl rfl fun b=>?_;refine gM ?_;exact H.r1 ⟨b,rfl,rfl,rfl⟩
def backO (I:HP) (ct:Int→Bool) (Ψ:Int→HP) (xs:List Int):HP:=match xs.reverse.find? (fun v=>!ct v) with
 | none=>I
 | some v=>Ψ v
theorem backO_stop {k:Nat} (h:xs[k]? = some v) (hv:ct v = false) (hb:∀ (j:Nat) x,k < j→xs[j]? = some x→ct x = true):backO I ct Ψ xs = Ψ v:=by
 unfold backO;have hk:=(List.getElem?_eq_some_iff.1 h).1
 rw [find_at (j:=xs.length - 1 - k) (x:=v) (by rw [List.getElem?_reverse (by omega),show xs.length - 1 - (xs.length - 1 - k) = k by omega];exact h) (by rw [hv];rfl) fun i y hi hy=>by
  rw [List.getElem?_reverse (by omega)] at hy
  rw [hb _ y (by omega) hy];rfl]
theorem backO_all (hb:∀ (j:Nat) x,xs[j]? = some x→ct x = true):backO I ct Ψ xs = I:=by
 unfold backO
 rw [find_no fun i y hy=>by
  obtain ⟨j,hj⟩:=List.getElem?_of_mem (List.mem_reverse.1 (List.mem_of_getElem? hy))
  rw [hb j y hj];rfl]
theorem backw1_fn {lp b sb:Nat} (hx:xs.length ≤ 100000) (h0:0 < xs.length)
  (hY:∀ (k:Nat) v,xs[k]? = some v→∀ G,YieldFn Tryz.prog lp [.int .i64 (k:Int),.int .u64 v] f (I::G) (fun u g B=>u = .bool (ct v) ∧ g = f ∧ B = (if ct v = true then I else Ψ v)::G)) :
  Fn Tryz.prog 182 ([] ++ [.func (.yield lp) #[] #[]] ++ [.pointer (some ⟨b,0,none⟩)]) f
   (I::row b 90 [.slice (some ⟨sb,0,none⟩) xs.length c]::slc (some ⟨sb,0,none⟩) xs.length c 24 1 (xs.flatMap uV)::F)
   (fun _ g B=>g = f ∧ B = backO I ct Ψ xs::row b 90 [.slice (some ⟨sb,0,none⟩) xs.length c]::slc (some ⟨sb,0,none⟩) xs.length c 24 1 (xs.flatMap uV)::F):=by
 refine Fn.e2 Tryz.func182 Tryz.ntmps182 fun base=>?_;refine gR ?_
 refine H.lo (ι:=Nat) (fun i=>[(3,.int .i64 ((i:Int) - 1)),(1,.pointer (some ⟨b,0,none⟩)),(0,.func (.yield lp) #[] #[])]) (fun _=>f)
  (fun _=>I::row b 90 [.slice (some ⟨sb,0,none⟩) xs.length c]::slc (some ⟨sb,0,none⟩) xs.length c 24 1 (xs.flatMap uV)::F) (fun i=>i ≤ xs.length ∧ ∀ j x,i ≤ j→xs[j]? = some x→ct x = true) (fun i=>i)
  xs.length ⟨Nat.le_refl _,fun j x hj hx=>by have:=(List.getElem?_eq_some_iff.1 hx).1;omega⟩ fun i hi=>?_
 obtain ⟨hi,hb⟩:i ≤ xs.length ∧ ∀ j x,i ≤ j→xs[j]? = some x→ct x = true:=hi;by_cases h0i:0 < i
 ·obtain ⟨k,rfl⟩:∃ k,i = k + 1:=⟨i - 1,by omega⟩;obtain ⟨v,hv⟩:∃ v,xs[k]? = some v:=⟨_,List.getElem?_eq_getElem (by omega)⟩;have hy:=fun G=>hY k v hv G;have hki:(((k + 1:Nat):Int) - 1) = (k:Int):=by omega
  rw [hki]
  iterate 13 ( first
   | ((first | apply H.Ap | apply H.Bb | apply H.Bc | apply H.Bi | apply H.Bn | apply H.Bu);(iterate 3 exact rfl))
   | (apply H.Bj;(iterate 3 exact rfl);exact inferInstance;exact rfl)
   | (apply H.Ab;(iterate 3 exact rfl);apply Rd1.ofRow;(repeat (first | exact .here _ _ _ | apply At.there));(iterate 2 exact rfl))
   | (first | apply H.seq | apply H.Bf | apply H.nil | apply H.Bh)
   | ((first | apply H.cmp | apply H.Ar);(iterate 5 exact rfl))
   | ((first | (apply H.ar;(iterate 4 exact rfl)) | (apply H.Bl;(iterate 2 exact rfl)));(first | (with_reducible apply zbe;omega) | (with_reducible apply zbc;omega) | (with_reducible apply zbd;omega) | (with_reducible apply wr_i64;omega) | (with_reducible apply wr_u64;omega) | (with_reducible apply wr_u8;omega) | (with_reducible apply wr_u16;omega) | rfl);exact rfl)
   | (apply H.pass;(iterate 2 exact rfl))
   | (apply H.pass0;exact rfl)
   | (apply H.pickT;(iterate 4 exact rfl))
   | ((first | apply H.Br | apply H.Cd | apply H.not | apply H.Cj);(iterate 4 exact rfl))
   | ((first | apply H.ptrNil | apply H.Cn);(iterate 5 exact rfl))
   | (apply H.Az;(iterate 4 exact rfl);(repeat (first | exact .here _ _ _ | apply At.there));(repeat (first | exact .here _ _ _ | apply SetV.there)))
   | (apply H.Cm;exact rfl)
   | (apply H.Ck;exact rfl)
   | (first | apply H.skip | apply H.ret | apply H.Bz | apply H.Ca | apply H.exit | apply H.Bm | apply H.Bp | apply H.Bv | apply H.By | apply H.Cc | apply H.Cb)
   | (apply H.in_miss;exact rfl)
   | (apply H.gyes;(iterate 3 exact rfl);(first | assumption | omega))
   | (apply H.gno;(iterate 3 exact rfl);(first | assumption | omega))
   | (apply H.Ci;exact rfl;(first | assumption | omega))
   | (apply H.Cg;exact rfl;(first | assumption | omega))
   | ((first | apply H.gtrue);(iterate 3 exact rfl);assumption)
   | (apply H.gfalse;(iterate 3 exact rfl);assumption)
   | (apply H.cond_t;exact rfl;assumption)
   | (apply H.cond_f;exact rfl;assumption) )
  refine H.regionY ?_;refine H.inOp (by with_reducible (repeat (first | exact zau | exact zan | exact zaf | exact zae | refine zam ?_ | refine zag ?_ | refine zah ?_ | refine zai ?_ | refine zat ?_))) ?_;refine qhi ?_;refine H.inOp (by with_reducible (repeat (first | exact zau | exact zan | exact zaf | exact zae | refine zam ?_ | refine zag ?_ | refine zah ?_ | refine zai ?_ | refine zat ?_))) ?_;refine qhi ?_;refine H.inOp (by with_reducible (repeat (first | exact zau | exact zan | exact zaf | exact zae | refine zam ?_ | refine zag ?_ | refine zah ?_ | refine zai ?_ | refine zat ?_))) ?_;refine gW ?_;refine H.Bq ?_;refine H.inOp (by with_reducible (repeat (first | exact zau | exact zan | exact zaf | exact zae | refine zam ?_ | refine zag ?_ | refine zah ?_ | refine zai ?_ | refine zat ?_))) ?_;refine qhi ?_;refine H.inOp (by with_reducible (repeat (first | exact zau | exact zan | exact zaf | exact zae | refine zam ?_ | refine zag ?_ | refine zah ?_ | refine zai ?_ | refine zat ?_))) ?_;refine H.Ak (i:=k) rfl rfl rfl rfl (by omega) rfl ?_;refine gA ?_;refine H.Bq ?_;refine H.inOp (by with_reducible (repeat (first | exact zau | exact zan | exact zaf | exact zae | refine zam ?_ | refine zag ?_ | refine zah ?_ | refine zai ?_ | refine zat ?_))) ?_;refine H.Ab rfl rfl rfl (rd_uV (by repeat constructor) hv) rfl ?_;refine gA ?_;refine H.Bq ?_;refine H.yield rfl rfl rfl rfl (hy _) fun u f' A' hR=>?_;obtain ⟨rfl,hff,rfl⟩:=hR;rw [hff];clear hff
  cases hct:ct v with
  | true =>
   rw [if_pos rfl];refine H.inOp (by with_reducible (repeat (first | exact zau | exact zan | exact zaf | exact zae | refine zam ?_ | refine zag ?_ | refine zah ?_ | refine zai ?_ | refine zat ?_))) ?_;refine qfB ?_;refine gA ?_;refine H.Bq ?_;refine H.inNil ?_;refine gV ?_;refine H.ag k ⟨by omega,fun j x hj hx=>?_⟩ (by show k < k + 1;omega);by_cases e:j = k
   ·subst e;rw [hv] at hx;cases hx;exact hct
   ·exact hb j x (by omega) hx
  | false =>
   rw [if_neg (by decide)];refine H.inOp (by with_reducible (repeat (first | exact zau | exact zan | exact zaf | exact zae | refine zam ?_ | refine zag ?_ | refine zah ?_ | refine zai ?_ | refine zat ?_))) ?_;refine qgl ?_;refine gA ?_;refine H.Bq ?_;refine H.inNil ?_;refine ge ?_;exact H.ret0 rfl (fun _ h=>h) ⟨rfl,by rw [backO_stop hv hct fun j x hj hx=>hb j x (by omega) hx]⟩
 ·skip;refine gE ?_;exact H.end0 rfl (fun _ h=>h) ⟨rfl,by rw [backO_all fun j x hx=>hb j x (by omega) hx]⟩
def ctE (l:Lgs) (o:Nat) (v:Int):Bool:=decide (¬ v < dyG l o ∧ v ≠ 0) && (!(dyV l o v).isSome && primB l.n o v)
def exE (l:Lgs) (o:Nat) (v:Int):Bool:=!decide (¬ v < dyG l o ∧ v ≠ 0) || (dyV l o v).isSome
def stE (l:Lgs) (o:Nat) (v:Int):Option Code:=if ctE l o v = true then none else if exE l o v = true then some (.exit 0) else some .ret
def anE (l:Lgs) (o:Nat) (v:Int):Bod × Bool:=if ctE l o v = true then sayZ else if exE l o v = true then sayZ else (bodW 5 v 0,true)
def jE (l:Lgs) (o:Nat):Option Int→Option Code
 | none=>none
 | some v=>stE l o v
def aE (l:Lgs) (o:Nat):Option Int→Bod × Bool
 | none=>sayZ
 | some v=>anE l o v
theorem entV_find (l:Lgs) (o:Nat):∀ xs:List Int,entV l.n o (dyG l o) (fun v=>(dyV l o v).isSome) xs = (match xs.find? (fun v=>!ctE l o v) with
  | none=>none
  | some v=>if exE l o v = true then none else some v)
 | []=>rfl
 | v :: r => by
  have ih:=entV_find l o r
  unfold entV
  rw [List.find?_cons]
  by_cases h1:v < dyG l o
  ·have e:ctE l o v = false:=by unfold ctE;rw [decide_eq_false (fun h=>h.1 h1)];rfl
   have e2:exE l o v = true:=by unfold exE;rw [decide_eq_false (fun h=>h.1 h1)];rfl
   rw [if_pos h1,e]
   simp only [Bool.not_false,e2,if_true]
  ·by_cases h2 : v = 0
   ·have e:ctE l o v = false:=by unfold ctE;rw [decide_eq_false (fun h=>h.2 h2)];rfl
    have e2:exE l o v = true:=by unfold exE;rw [decide_eq_false (fun h=>h.2 h2)];rfl
    rw [if_neg h1,if_pos h2,e]
    simp only [Bool.not_false,e2,if_true]
   ·rw [if_neg h1,if_neg h2]
    have hd:decide (¬ v < dyG l o ∧ v ≠ 0) = true:=decide_eq_true ⟨h1,h2⟩
    cases h3:(dyV l o v).isSome with
    | true =>
     have e:ctE l o v = false:=by unfold ctE;rw [hd,h3];rfl
     have e2:exE l o v = true:=by unfold exE;rw [h3,Bool.or_true]
     rw [if_pos rfl,e]
     simp only [Bool.not_false,e2,if_true]
    | false =>
     rw [if_neg (by decide)]
     cases h4:primB l.n o v with
     | true =>
      have e:ctE l o v = true:=by unfold ctE;rw [hd,h3,h4];rfl
      rw [if_pos rfl,e]
      exact ih
     | false =>
      have e:ctE l o v = false:=by unfold ctE;rw [hd,h3,h4];rfl
      have e2:exE l o v = false:=by unfold exE;rw [hd,h3];rfl
      rw [if_neg (by decide),e]
      simp only [Bool.not_false,e2,Bool.false_eq_true,if_false]
theorem denter_fn {xb:Nat} {pl:Nat} (hfl:Le fl f) (hL:LI l T) (hT:T ≤ 254) (ho:o < l.n) :
  Fn Tryz.prog 87 [.pointer (some ⟨xb,0,none⟩)] f (row xb 120 (lkC lb l.n o pp pl pc wish (dyG l o) (dyN l o) ((dyV l o (dyG l o)).getD 0))::plogH fl lb l::F) (NxP f (row xb 120 (lkC lb l.n o pp pl pc wish (dyG l o) (dyN l o) ((dyV l o (dyG l o)).getD 0))::plogH fl lb l::F) (sayE l o)):=by
 have hn:=hL.n3;have hvl:=hL.vl
 have hU0:0 < (viewsU l).length:=by obtain ⟨w,hw,_⟩:=hL.zero;unfold viewsU;rw [List.length_map];exact List.length_pos_of_mem hw
 have hUl:(viewsU l).length ≤ 255:=by unfold viewsU;rw [List.length_map];omega
 have hva:=fun G=>plviews_fn f G (fl:=fl) (lb:=lb) hL hT;have hvo:=fun G v=>plvoted_fn f G hfl (lb:=lb) (l:=l) (by omega) (o:=o) ho (r:=((o + 1:Nat):Int)) (v:=v) rfl
 have hvo:∀ G v,Fn Tryz.prog 26 [.pointer (some ⟨lb,0,none⟩),.int .i64 ((o + 1:Nat):Int),.int .u64 v] f (plogH fl lb l::G) (Ret (.tuple #[.int .i64 ((dyV l o v).getD 0),.bool (dyV l o v).isSome]) f (plogH fl lb l::G)):=hvo
 have hge:∀ w ∈ viewsU l,0 ≤ w:=fun w hw=>by
  obtain ⟨x,hx,rfl⟩:=List.mem_map.1 hw;by_cases e:x.v = 0
  ·omega
  ·obtain ⟨p,hp,e2⟩:=hL.begun x hx e
   have hpl:primI l.n x.v < l.n:=by
    have h1:x.v % (l.n:Int) < l.n:=Int.emod_lt_of_pos x.v (by omega);unfold primI;omega
   have:=((hL.wf _ hpl).low p hp).1;omega
 have hpr:=fun G v hv=>dprim_fn f G (xb:=xb) (lb:=lb) (o:=o) (l:=l) (pp:=pp) (pl:=pl) (pc:=pc) (wish:=wish) (by omega) (v:=v) hv ho
 have hfct:∀ v,(viewsU l).reverse.find? (fun v=>!ctE l o v) = some v→ctE l o v = false:=fun v h=>by
  have:=List.find?_some h
  cases e:ctE l o v with
  | false=>rfl
  | true=>rw [e] at this;cases this
 have hsay:sayE l o = aE l o ((viewsU l).reverse.find? (fun v=>!ctE l o v)):=by
  unfold sayE dyE;rw [entV_find]
  cases h:(viewsU l).reverse.find? (fun v=>!ctE l o v) with
  | none=>rfl
  | some v =>
   show _ = anE l o v;unfold anE;rw [hfct v h,if_neg (by decide)];by_cases h2:exE l o v = true
   ·simp only [h2,if_true]
   ·simp only [h2,if_false,Bool.false_eq_true]
 rw [hsay];clear hsay;have hct:∀ v,ctE l o v = (decide (¬ v < dyG l o ∧ v ≠ 0) && (!(dyV l o v).isSome && primB l.n o v)):=fun v=>rfl;have hst:∀ v,stE l o v = if ctE l o v = true then none else if exE l o v = true then some (.exit 0) else some .ret:=fun v=>rfl
 have han:∀ v,anE l o v = if ctE l o v = true then sayZ else if exE l o v = true then sayZ else (bodW 5 v 0,true):=fun v=>rfl
 have hex:∀ v,exE l o v = (!decide (¬ v < dyG l o ∧ v ≠ 0) || (dyV l o v).isSome):=fun v=>rfl;generalize (dyV l o (dyG l o)).getD 0 = vo at *
 generalize dyN l o = en at *;generalize dyG l o = g at *;obtain ⟨U,hU⟩:∃ U,U = viewsU l:=⟨_,rfl⟩;rw [← hU] at hU0 hUl hge hfct ⊢;obtain ⟨r,hr⟩:∃ r,r = U.reverse.find? (fun v=>!ctE l o v):=⟨_,rfl⟩;rw [← hr] at hfct ⊢;refine Fn.enterM Tryz.func87 rfl Tryz.ntmps87 rfl (L:=[(0,_)]) ⟨rfl,trivial⟩ fun base=>?_;refine gA ?_;refine H.box (ls:=[.pointer (some ⟨xb,0,none⟩)]) rfl rfl rfl rfl fun bb=>?_;refine qde fun ob=>?_;refine H.Ah (ls:=[.bool false]) rfl rfl rfl fun eb=>?_;refine gW ?_;refine qdX ?_;refine H.cl (hva _) fun v f' A' hR=>?_;obtain ⟨np,nc,rfl,hff,rfl⟩:=hR;rw [hff,← hU];clear hff hU hva;refine H.Ax (p:=np) (n0:=U.length) (c:=nc) (T:=24) (sz:=1) (xs:=U.flatMap uV) (.here _ _ _) hU0 fun nb hnb=>?_;subst hnb;refine gH ?_;refine H.callE rfl rfl rfl (backw_fn f _) fun b=>?_;refine gY ?_;refine H.sb [(15,.func (.func 182) #[] #[.pointer (some ⟨b,0,none⟩)]),(3,.pointer (some ⟨eb,0,none⟩)),(2,.pointer (some ⟨ob,0,none⟩)),(1,.pointer (some ⟨bb,0,none⟩))] ?_;refine H.pf (x:=slc (some ⟨nb,0,none⟩) _ nc _ _ _) ?_;refine H.pf (x:=row b _ _) ?_;refine qdX ?_;refine qdr ?_;refine qdW ?_;refine qho ?_;refine qfp ?_;refine H.rangeFuncJE (f':=f) (fs:=[]) (cs:=[.pointer (some ⟨b,0,none⟩)]) rfl rfl fun LJ hLJ=>⟨jE l o r,fun D=>pts D (.deferred (some []))::row ob 47 ((aE l o r).1.vals none 0)::row eb 4 [.bool (aE l o r).2]::row bb 118 [.pointer (some ⟨xb,0,none⟩)]::row xb 120 (lkC lb l.n o pp pl pc wish g en vo)::plogH fl lb l::row b 90 [.slice (some ⟨nb,0,none⟩) U.length nc]::slc (some ⟨nb,0,none⟩) U.length nc 24 1 (U.flatMap uV)::F,fun D lp=>?_,fun D=>?_⟩
 ·obtain ⟨Kx,hKx⟩:∃ Kx:Option Code→Bod × Bool→HP,Kx = fun J a=>stars [LJ D lp J,pts D (.deferred (some [])),row ob 47 (a.1.vals none 0),row eb 4 [.bool a.2],row bb 118 [.pointer (some ⟨xb,0,none⟩)],row xb 120 (lkC lb l.n o pp pl pc wish g en vo),plogH fl lb l]:=⟨_,rfl⟩;refine Fn.wrap (A1:=Kx none sayZ::row b 90 [.slice (some ⟨nb,0,none⟩) U.length nc]::slc (some ⟨nb,0,none⟩) U.length nc 24 1 (U.flatMap uV)::F) (by rw [hKx];exact pack_all [_,_,_,_,_,_,_] _) (backw1_fn f F (lp:=lp) (b:=b) (sb:=nb) (c:=nc) (xs:=U) (by omega) hU0 (I:=Kx none sayZ) (ct:=ctE l o) (Ψ:=fun v=>Kx (stE l o v) (anE l o v)) fun k v hv G=>?_) fun v g B hR=>?_
  ·have hv0:=hge v (List.mem_of_getElem? hv)
   have hif:(if ctE l o v = true then Kx none sayZ else Kx (stE l o v) (anE l o v)) = Kx (stE l o v) (anE l o v):=by
    cases e:ctE l o v with
    | true=>rw [if_pos rfl,hst,han,e,if_pos rfl,if_pos rfl]
    | false=>rw [if_neg (by decide)]
   rw [hif];clear hif;refine YieldFn.wrap (R1:=fun u e B=>u = .bool (ctE l o v) ∧ e = f ∧ B = LJ D lp (stE l o v)::pts D (.deferred (some []))::row ob 47 ((anE l o v).1.vals none 0)::row eb 4 [.bool (anE l o v).2]::row bb 118 [.pointer (some ⟨xb,0,none⟩)]::row xb 120 (lkC lb l.n o pp pl pc wish g en vo)::plogH fl lb l::G) (by rw [hKx];exact open_all _ _) ?_ ?_
   ·rw [hst, han];have hex := hex v;have hct := hct v
    have hvo:=fun G=>hvo G v;have hpr:=fun G=>hpr G v hv0
    clear hKx hst han hfct hge hr;subst hLJ;show YieldFn _ _ _ _ (loopH _ _ _ _ _ _ _ _::_) _;by_cases h1:v < g
    ·rw [decide_eq_false (fun h=>h.1 h1)] at hex hct;rw [hct,hex];refine qhf fun base=>?_;refine qdz ?_;repeat (first | (first | (first | apply H.seqR | apply H.thenR | apply H.blockR) | (apply H.Bw;exact rfl;exact (by with_reducible (repeat (first | exact zau | exact zan | exact zaf | exact zae | refine zam ?_ | refine zag ?_ | refine zah ?_ | refine zai ?_ | refine zat ?_)))) | (apply H.condR_true;exact rfl)) | (first | ((first | apply H.Ap | apply H.Bc);(iterate 3 exact rfl)) | (apply H.Bj;(iterate 3 exact rfl);exact inferInstance;exact rfl) | (apply H.Ab;(iterate 3 exact rfl);apply Rd1.ofRow;(repeat (first | exact .here _ _ _ | apply At.there));(iterate 2 exact rfl)) | (apply H.nil) | ((apply H.cmp);(iterate 5 exact rfl)) | (apply H.pass;(iterate 2 exact rfl)) | (apply H.pickT;(iterate 4 exact rfl)) | (apply H.gyes;(iterate 3 exact rfl);(assumption))))
     exact qax
    ·by_cases h2 : v = 0
     ·rw [decide_eq_false (fun h=>h.2 h2)] at hex hct;rw [hct,hex];refine qhf fun base=>?_;refine qdz ?_;repeat (first | (first | (first | apply H.seqR | apply H.thenR | apply H.blockR) | (apply H.Bw;exact rfl;exact (by with_reducible (repeat (first | exact zau | exact zan | exact zaf | exact zae | refine zam ?_ | refine zag ?_ | refine zah ?_ | refine zai ?_ | refine zat ?_)))) | (apply H.condR_yes;exact rfl;(assumption))) | (first | ((first | apply H.Ap | apply H.Bc);(iterate 3 exact rfl)) | (apply H.Bj;(iterate 3 exact rfl);exact inferInstance;exact rfl) | (apply H.Ab;(iterate 3 exact rfl);apply Rd1.ofRow;(repeat (first | exact .here _ _ _ | apply At.there));(iterate 2 exact rfl)) | (apply H.nil) | ((apply H.cmp);(iterate 5 exact rfl)) | ((apply H.Br);(iterate 4 exact rfl)) | (apply H.gno;(iterate 3 exact rfl);(assumption))))
      exact qax
     ·rw [decide_eq_true (show ¬ v < g ∧ v ≠ 0 from ⟨h1,h2⟩)] at hex hct
      cases hvs:dyV l o v with
      | some z =>
       rw [hvs] at hvo hex hct;rw [hct,hex];refine qhf fun base=>?_;refine qdb ?_;refine H.drawBR (by kernel_rfl) (by decide +kernel) (by with_reducible (repeat (first | exact blind_round | refine blind_seqR ?_ | refine zak ?_))) rfl (by with_reducible (repeat (first | exact zau | exact zan | exact zaf | exact zae | refine zam ?_ | refine zag ?_ | refine zah ?_ | refine zai ?_ | refine zat ?_))) (S:=[_,_]) rfl ?_;refine HB.qu [0,1,2,3,4,5,6,7,8] 6 ?_;refine qdZ ?_;refine qfT ?_;repeat (first | (first | (first | apply H.seqR | apply H.thenR) | (apply H.Bw;exact rfl;exact (by with_reducible (repeat (first | exact zau | exact zan | exact zaf | exact zae | refine zam ?_ | refine zag ?_ | refine zah ?_ | refine zai ?_ | refine zat ?_)))) | (apply H.condR_true;exact rfl)) | (first | ((apply H.Ap);(iterate 3 exact rfl)) | (apply H.nil)))
       exact qax
      | none =>
       rw [hvs] at hvo hex hct
       cases hpv:primB l.n o v with
       | true =>
        rw [hpv] at hpr hct;rw [hct,hex];refine qhf fun base=>?_;refine qdb ?_;refine H.drawBR (by kernel_rfl) (by decide +kernel) (by with_reducible (repeat (first | exact blind_round | refine blind_seqR ?_ | refine zak ?_))) rfl (by with_reducible (repeat (first | exact zau | exact zan | exact zaf | exact zae | refine zam ?_ | refine zag ?_ | refine zah ?_ | refine zai ?_ | refine zat ?_))) (S:=[_,_]) rfl ?_;refine HB.qu [0,1,2,3,4,5,6,7,8] 6 ?_;refine qdZ ?_;refine qdw ?_;refine qfB ?_;repeat (first | (first | (first | apply H.thenR | apply H.skipR) | (apply H.condR_false;exact rfl)) | (first | (apply H.nil) | (apply H.Bp)))
        skip;refine qfe ?_;exact qcr
       | false =>
        rw [hpv] at hpr hct;rw [hct,hex];refine qhf fun base=>?_;refine qdb ?_;refine H.drawBR (by kernel_rfl) (by decide +kernel) (by with_reducible (repeat (first | exact blind_round | refine blind_seqR ?_ | refine zak ?_))) rfl (by with_reducible (repeat (first | exact zau | exact zan | exact zaf | exact zae | refine zam ?_ | refine zag ?_ | refine zah ?_ | refine zai ?_ | refine zat ?_))) (S:=[_,_]) rfl ?_;refine HB.qu [0,1,2,3,4,5,6,7,8] 6 ?_;refine qdZ ?_;refine qdw ?_;refine qgl ?_;repeat (first | (first | (first | apply H.seqR | apply H.thenR) | (apply H.Bw;exact rfl;exact (by with_reducible (repeat (first | exact zau | exact zan | exact zaf | exact zae | refine zam ?_ | refine zag ?_ | refine zah ?_ | refine zai ?_ | refine zat ?_)))) | (apply H.condR_true;exact rfl)) | (first | ((apply H.Ap);(iterate 3 exact rfl)) | (apply H.nil) | ((apply H.Ar);(iterate 5 exact rfl))))
        refine H.Af (ls:=(Bod.zero 0).vals none 0) (vs:=(bodW 5 v 0).vals none 0) (ls':=(bodW 5 v 0).vals none 0) rfl rfl rfl (zaa rfl) rfl rfl (Nat.le_refl 76) (by repeat constructor) ?_;repeat (first | (apply H.thenR) | (first | (apply H.nil) | (apply H.Az;(iterate 4 exact rfl);(repeat (first | exact .here _ _ _ | apply At.there)))))
        repeat (first | apply H.retR | apply H.Bv)
        refine qfe ?_;exact H.endRoundR ⟨rfl,rfl,rfl⟩
   ·rintro u g B ⟨rfl,rfl,rfl⟩;exact ⟨_,⟨rfl,rfl,rfl⟩,by rw [hKx];exact pack_all [_,_,_,_,_,_,_] G⟩
  ·obtain ⟨rfl,rfl⟩:=hR;refine ⟨_,⟨rfl,rfl⟩,?_⟩
   have e:backO (Kx none sayZ) (ctE l o) (fun v=>Kx (stE l o v) (anE l o v)) U = Kx (jE l o r) (aE l o r):=by
    subst hr;unfold backO;cases U.reverse.find? (fun v=>!ctE l o v) <;> rfl
   rw [e,hKx];exact open_all [_,_,_,_,_,_,_] _
 ·cases r with
  | none =>
   show H _ _ _ _ _ (pts D _::row ob _ ((Bod.zero 0).vals none 0)::row eb _ [.bool false]::row bb _ _::row xb _ _::_) (.out .normal _);exact qaw
  | some v =>
   have hcf:=hfct v rfl;have hst:=hst v
   have han:=han v;rw [hcf,if_neg (by decide)] at hst han
   cases hev:exE l o v with
   | true =>
    rw [hev,if_pos rfl] at hst han;show H _ _ _ _ _ (pts D _::row ob _ ((anE l o v).1.vals none 0)::row eb _ [.bool (anE l o v).2]::_) (jumpK _ (stE l o v));have han':aE l o (some v) = sayZ:=han;rw [hst,han,han']
    show H _ _ _ _ _ (pts D _::row ob _ ((Bod.zero 0).vals none 0)::row eb _ [.bool false]::row bb _ _::row xb _ _::_) (.code (.exit 0) _);exact qaw
   | false =>
    rw [hev,if_neg (by decide)] at hst han;show H _ _ _ _ _ (pts D _::row ob _ ((anE l o v).1.vals none 0)::row eb _ [.bool (anE l o v).2]::_) (jumpK _ (stE l o v));have han':aE l o (some v) = (bodW 5 v 0,true):=han;rw [hst,han,han']
    show H _ _ _ _ _ (pts D _::row ob _ ((bodW 5 v 0).vals none 0)::row eb _ [.bool true]::row bb _ _::row xb _ _::_) (.code .ret _);refine gY ?_;refine H.pd (x:=row b _ _) ?_;refine H.pd (x:=row bb _ _) ?_;refine H.pd (x:=slc (some ⟨nb,0,none⟩) _ nc _ _ _) ?_;refine qdX ?_;refine qdr ?_;refine qho ?_;refine qfp ?_;refine H.pf (x:=pts D _) ?_;exact H.retMkCC (ls:=(bodW 5 v 0).vals none 0) (x:=.bool true) rfl rfl rfl rfl rfl rfl (.here _ _) (Rd.ofRow (.here _ _ _)) rfl (Rd1.ofRow (.there _ (.here _ _ _)) rfl) (fun _ s=>(s.drop (.here _ _)).drop (.here _ _)) ⟨nil0,none,0,Dj.nil _,rfl,QAt.nil _ _,(un_nil _).symm,rfl⟩
end
def sayR (l:Lgs) (o:Nat) (pend:List Req) (wish:Int):Nat→Bod × Bool
 | 0=>sayC l o wish
 | 1=>sayN l o
 | 2=>sayE l o
 | 3=>sayP l o pend
 | _=>sayK l o
variable {pend:List Req} {j:Nat}
theorem sayX_pick (hj:j < 5) (hb:∀ i,i < j→(sayR l o pend wish i).2 = false) (h:(sayR l o pend wish j).2 = true):sayX l o pend wish = sayR l o pend wish j:=by
 have no:∀ i,i < j→∀ x,orS (sayR l o pend wish i) x = x:=fun i hi x=>by unfold orS;rw [hb i hi,if_neg (by decide)]
 have yes:∀ x,orS (sayR l o pend wish j) x = sayR l o pend wish j:=fun x=>by unfold orS;rw [if_pos h]
 refine qgY ?_
 match j,hj with
 | 0,_=>exact yes _
 | 1,_=>rw [no 0 (by omega)];exact yes _
 | 2,_=>rw [no 0 (by omega),no 1 (by omega)];exact yes _
 | 3,_=>rw [no 0 (by omega),no 1 (by omega),no 2 (by omega)];exact yes _
 | 4,_=>rw [no 0 (by omega),no 1 (by omega),no 2 (by omega),no 3 (by omega)];exact yes _
theorem sayX_none (hb:∀ i,i < 5→(sayR l o pend wish i).2 = false):sayX l o pend wish = sayZ:=by
 have no:∀ i,i < 5→∀ x,orS (sayR l o pend wish i) x = x:=fun i hi x=>by unfold orS;rw [hb i hi,if_neg (by decide)]
 refine qgY ?_;rw [no 0 (by omega),no 1 (by omega),no 2 (by omega),no 3 (by omega),no 4 (by omega)]
def ruV:List Value:=[.func (.func 85) #[] #[],.func (.func 86) #[] #[],.func (.func 87) #[] #[],.func (.func 88) #[] #[],.func (.func 89) #[] #[]]
section
variable (f:Frag) (F:List HP)
theorem rules_fn:Fn Tryz.prog 48 [] f F (Ret (.agg ruV.toArray) f F):=by
 refine Fn.e0 Tryz.func48 Tryz.ntmps48 fun base=>?_;refine gA ?_;refine H.Ah (ls:=[.nilFunc,.nilFunc,.nilFunc,.nilFunc,.nilFunc]) rfl rfl rfl fun ob=>?_;repeat (first | (refine H.buildA (t:=123) (out:=ruV) rfl rfl rfl (by kernel_rfl) rfl ?_) | (refine gg ?_))
 refine H.Af (ls:=[.nilFunc,.nilFunc,.nilFunc,.nilFunc,.nilFunc]) (vs:=ruV) (ls':=ruV) rfl rfl rfl (zaa rfl) rfl rfl (Nat.le_refl 5) (.here _ _ _) ?_;refine gY ?_;exact H.Aw (ls:=ruV) rfl rfl rfl (Rd.ofRow (.here _ _ _)) rfl (fun _ s=>s.drop (.here _ _)) ⟨rfl,rfl,rfl⟩
theorem dnext_fn (htab:TabAt f) (hfl:Le fl f) (hL:LI l T) (hT:T ≤ 254) (hodd:l.n % 2 = 1) (ho:o < l.n) (hp:ListAt f pp 40 Req.vals pend) (hpl:pend.length ≤ 1000000) :
  Fn Tryz.prog 18 [.pointer (some ⟨lb,0,none⟩),.int .i64 (l.n:Int),.int .i64 ((o + 1:Nat):Int),.slice pp pend.length pc,.int .u64 wish] f (plogH fl lb l::F) (NxP f (plogH fl lb l::F) (sayX l o pend wish)):=by
 have hn:=hL.n3;have hgr:=fun G=>plgreat_fn f G hfl (lb:=lb) (l:=l) (by omega) (o:=o) ho (r:=((o + 1:Nat):Int)) rfl
 have hvo:=fun G=>plvoted_fn f G hfl (lb:=lb) (l:=l) (by omega) (o:=o) ho (r:=((o + 1:Nat):Int)) (v:=dyG l o) rfl;have hgr:∀ G,Fn Tryz.prog 22 [.pointer (some ⟨lb,0,none⟩),.int .i64 ((o + 1:Nat):Int)] f (plogH fl lb l::G) (Ret (.int .u64 (dyG l o)) f (plogH fl lb l::G)):=hgr
 have hvo:∀ G,Fn Tryz.prog 26 [.pointer (some ⟨lb,0,none⟩),.int .i64 ((o + 1:Nat):Int),.int .u64 (dyG l o)] f (plogH fl lb l::G) (Ret (.tuple #[.int .i64 ((dyV l o (dyG l o)).getD 0),.bool (dyN l o)]) f (plogH fl lb l::G)):=hvo
 have hru:∀ (xb j:Nat),j < 5→∃ fid,Fun Tryz.prog fid ∧ ruV[j]? = some (.func (.func fid) #[] #[]) ∧ ∀ G,Fn Tryz.prog fid ([] ++ [.pointer (some ⟨xb,0,none⟩)] ++ []) f (row xb 120 (lkC lb l.n o pp pend.length pc wish (dyG l o) (dyN l o) ((dyV l o (dyG l o)).getD 0))::plogH fl lb l::G) (NxP f (row xb 120 (lkC lb l.n o pp pend.length pc wish (dyG l o) (dyN l o) ((dyV l o (dyG l o)).getD 0))::plogH fl lb l::G) (sayR l o pend wish j)):=fun xb j hj=>by
  match j,hj with
  | 0,_=>exact ⟨85,inferInstance,rfl,fun G=>dchange_fn f _⟩
  | 1,_=>exact ⟨86,inferInstance,rfl,fun G=>dnew_fn f G hfl hL (by omega) ho⟩
  | 2,_=>exact ⟨87,inferInstance,rfl,fun G=>denter_fn f G hfl hL hT ho⟩
  | 3,_=>exact ⟨88,inferInstance,rfl,fun G=>dprep_fn f G htab hL ho hp hpl⟩
  | 4,_=>exact ⟨89,inferInstance,rfl,fun G=>dcommit_fn f G hL (by omega) ho⟩
 have hpick:=fun j hj hb h=>sayX_pick (l:=l) (o:=o) (pend:=pend) (wish:=wish) (j:=j) hj hb h;have hnone:=sayX_none (l:=l) (o:=o) (pend:=pend) (wish:=wish)
 generalize (dyV l o (dyG l o)).getD 0 = vo at *;generalize dyN l o = en at *;generalize dyG l o = g at *;refine Fn.e5 Tryz.func18 Tryz.ntmps18 fun base=>?_;refine gA ?_;refine qde fun ob=>?_;refine gH ?_;refine H.Ag rfl rfl rfl (dfew_fn f _ (by omega) hodd ho) ?_;refine gc ?_;refine qdX ?_;refine H.cr (hgr _) ?_;repeat ((refine H.Ar (t:=120) (out:=lkC lb l.n o pp pend.length pc wish g false 0) rfl rfl rfl (by kernel_rfl) rfl ?_))
 refine H.box (ls:=lkC lb l.n o pp pend.length pc wish g false 0) rfl rfl rfl rfl fun xb=>?_;refine gW ?_;refine qdX ?_;refine H.cr (hvo _) ?_;refine gR ?_;refine H.Ag rfl rfl rfl (rules_fn f _) ?_;refine gY ?_;refine qdX ?_;refine qdr ?_
 refine H.lo (ι:=Nat) (fun j=>[(50,.int .i64 (j:Int)),(49,.agg ruV.toArray),(12,.pointer (some ⟨xb,0,none⟩)),(11,.bool false),(10,.pointer (some ⟨ob,0,none⟩))]) (fun _=>f)
  (fun _=>row xb 120 (lkC lb l.n o pp pend.length pc wish g en vo)::plogH fl lb l::row ob 47 ((Bod.zero 0).vals none 0)::F) (fun j=>j ≤ 5 ∧ ∀ i,i < j→(sayR l o pend wish i).2 = false) (fun j=>5 - j)
  0 ⟨by omega,fun i hi=>by omega⟩ fun j hj=>?_
 obtain ⟨hj,hb⟩:j ≤ 5 ∧ ∀ i,i < j→(sayR l o pend wish i).2 = false:=hj;by_cases hj5:j < 5
 ·obtain ⟨fid,hfun,hfv,hrule⟩:=hru xb j hj5;have hpick:=hpick j hj5 hb;refine gG ?_
  refine H.indexV (i:=j) (xs:=ruV) rfl rfl rfl rfl hj5 rfl hfv rfl ?_;refine gH ?_;refine H.callV (fs:=[]) (cs:=[]) rfl rfl rfl rfl (hrule _) fun v f' A' hR=>?_;obtain ⟨gq,p,c,hd,rfl,hq,rfl,rfl⟩:=hR
  have hsj:∀ t,(sayR l o pend wish j).2 = t→∀ i,i < j + 1→t = false→(sayR l o pend wish i).2 = false:=fun t ht i hi e=>by
   by_cases e2:i = j
   ·rw [e2,ht,e]
   ·exact hb i (by omega)
  generalize sayR l o pend wish j = r at *;obtain ⟨b,t⟩:=r;refine gW ?_;refine qde fun tb=>?_;refine H.Af (ls:=(Bod.zero 0).vals none 0) (vs:=b.vals p c) (ls':=b.vals p c) rfl rfl rfl (zaa rfl) rfl rfl (Nat.le_refl 76) (.here _ _ _) ?_
  cases t with
  | false =>
   refine gV ?_;refine qdv ?_;refine H.weakL (Le.un f gq) ?_;exact H.ag (j + 1) ⟨by show j + 1 ≤ 5;omega,fun i hi=>hsj false rfl i hi rfl⟩ (by show 5 - (j + 1) < 5 - j;omega)
  | true =>
   rw [hpick rfl];refine ge ?_;refine H.Ae (ls:=b.vals p c) rfl rfl rfl (Rd.ofRow (.here _ _ _)) rfl rfl ?_;refine H.Af (ls:=(Bod.zero 0).vals none 0) (vs:=b.vals p c) (ls':=b.vals p c) rfl rfl rfl (zaa rfl) rfl rfl (Nat.le_refl 76) (by repeat constructor) ?_;refine qfh ?_;refine qdv ?_;refine qfp ?_;exact H.retCT (ls:=b.vals p c) rfl rfl rfl rfl (Rd.ofRow (.here _ _ _)) rfl (fun _ s=>s.drop (.here _ _)) ⟨gq,p,c,hd,rfl,hq,rfl,rfl⟩
 ·rw [hnone fun i hi=>hb i (by omega)];repeat (first | (refine H.Ar (t:=47) (out:=(Bod.zero 0).vals none 0) rfl rfl rfl (by kernel_rfl) rfl ?_) | (refine gg ?_))
  refine H.Af (ls:=(Bod.zero 0).vals none 0) (vs:=(Bod.zero 0).vals none 0) (ls':=(Bod.zero 0).vals none 0) rfl rfl rfl (zaa rfl) rfl rfl (Nat.le_refl 76) (by repeat constructor) ?_;refine qfh ?_;refine qfp ?_;exact H.retCT (ls:=(Bod.zero 0).vals none 0) rfl rfl rfl rfl (Rd.ofRow (.here _ _ _)) rfl (fun _ s=>s.drop (.here _ _)) ⟨nil0,none,0,Dj.nil _,rfl,QAt.nil _ _,(un_nil _).symm,rfl⟩
end
structure SaidBy (l:Lgs) (o:Nat) (m:Msg):Prop where
 org:m.origin = ((o + 1:Nat):Int)
 dep:∀ i,i < l.n→m.deps i = l.known i
variable {m:Msg}
theorem SaidBy.orgI (h:SaidBy l o m):orgI m = o:=by
 have:=h.org;show (m.origin - 1).toNat = o
 omega
theorem SaidBy.prim (h:SaidBy l o m) (v:Int):decide (primZ l.n v = m.origin) = primB l.n o v:=by
 have:=h.org;unfold primZ primB
 exact decide_eq_decide.2 (by omega)
theorem lastCh_mem (h:0 < (lastCh l o).2):lastCh l o ∈ l.ch o:=by
 unfold lastCh at h ⊢
 cases e:(l.ch o).getLast? with
 | none=>rw [e] at h;exact absurd h (by decide)
 | some x=>exact List.mem_of_getLast? e
theorem chgQ_mem {l:Lgs} {v:Int}:∀ {r:Nat} {q:Int × Int},q ∈ chgQ l v r→∃ i,i < r ∧ q = (((i + 1:Nat):Int),(lastCh l i).2) ∧ 0 < (lastCh l i).2 ∧ (lastCh l i).1 = v
 | 0,q,h=>by cases h
 | r + 1, q, h => by
  have ih:=@chgQ_mem l v r q
  by_cases hl:(chgQ l v r).length ≤ l.n / 2
  ·by_cases h2:0 < (lastCh l r).2 ∧ (lastCh l r).1 = v
   ·rw [chgQ_yes hl h2.1 h2.2] at h
    rcases List.mem_append.1 h with h | h
    ·obtain ⟨i,h1,h2⟩:=ih h;exact ⟨i,by omega,h2⟩
    ·exact ⟨r,by omega,List.mem_singleton.1 h,h2.1,h2.2⟩
   ·rw [chgQ_no h2] at h
    obtain ⟨i,h1,h2⟩:=ih h;exact ⟨i,by omega,h2⟩
  ·rw [chgQ_stop hl (r + 1) (by omega)] at h
   obtain ⟨i,h1,h2⟩:=ih h;exact ⟨i,by omega,h2⟩
variable {w:Vw} {r:Req}
section
variable {l:Lgs} {T:Nat} {o:Nat} {m:Msg}
theorem cnt_C (hs:SaidBy l o m) (hb:m.body = bodW 3 wish 0) (h1:dyG l o < wish) (h2:wish < 1073741824) :
  (l.counts m).1 = true ∧ (l.counts m).2.vs = l.vs ∧ (l.counts m).2.past = updF l.past o { l.past o with g:=wish }:=by
 have hv:m.body.view = wish:=by rw [hb];rfl
 have hok:(l.past (orgI m)).changeOk m.body.view = true:=by rw [hs.orgI,hv];exact decide_eq_true ⟨h1,h2⟩
 rw [Lgs.counts_3 (by rw [hb];rfl),if_pos hok];refine ⟨rfl,rfl,?_⟩;show updF l.past (orgI m) ((l.past (orgI m)).change m.body.view) = _;unfold PM.change;rw [if_pos hok,hs.orgI,hv]
theorem LI.lastV (hL:LI l T) (ho:o < l.n):PM.voted (l.past o).all (l.past o).lv = some (l.past o).ln:=PM.voted_last (hL.wf o ho)
theorem notVoted_lt (hL:LI l T) (ho:o < l.n) (hg:dyG l o ≤ v) (h:(dyV l o v).isSome = false):(l.past o).lv < v:=by
 have h1:=(hL.wf o ho).top;have h1:(l.past o).lv ≤ dyG l o:=h1
 rcases Int.lt_or_eq_of_le (show (l.past o).lv ≤ v by omega) with h2 | h2
 ·exact h2
 ·exfalso;have h3:=hL.lastV ho;rw [h2] at h3
  unfold dyV at h;rw [h3] at h;cases h
theorem voted_open (hL:LI l T) (ho:o < l.n) (h:dyN l o = true):(l.past o).lv = dyG l o ∧ dyV l o (dyG l o) = some (l.past o).ln:=by
 have h1:=(hL.wf o ho).top;have h1:(l.past o).lv ≤ dyG l o:=h1
 have hlv:(l.past o).lv = dyG l o:=by
  unfold dyN at h
  cases e:dyV l o (dyG l o) with
  | none=>rw [e] at h;cases h
  | some k =>
   have hm:=voted_mem _ _ _ e;have hm:(dyG l o,k) ∈ (l.past o).init ++ [((l.past o).lv,(l.past o).ln)]:=hm
   rcases List.mem_append.1 hm with h2 | h2
   ·have:=(hL.wf o ho).below _ h2;have:dyG l o < (l.past o).lv:=this
    omega
   ·have:=(Prod.ext_iff.1 (List.mem_singleton.1 h2)).1;have:dyG l o = (l.past o).lv:=this
    omega
 refine ⟨hlv,?_⟩
 have:=hL.lastV ho;rw [hlv] at this
 exact this
theorem cnt_N (hL:LI l T) (hK:KI l) (hodd:l.n % 2 = 1) (ho:o < l.n) (hs:SaidBy l o m) (hb:m.body = ⟨4,dyG l o,0,Req.zero,chgQ l (dyG l o) l.n,noTag⟩) (hN:dyN l o = false) (hp:primB l.n o (dyG l o) = true) (hq:l.n / 2 < (chgQ l (dyG l o) l.n).length) :
  (l.counts m).1 = true ∧ (∃ i w k s num, vwAt l.vs (bestQ l.past m.body.view m.body.q (0, 0)).1 = some i ∧ l.vs[i]? = some w ∧ s = w.all.take k ∧ (l.counts m).2.vs = insV ⟨dyG l o, num, s, []⟩ l.vs) ∧
   ∃ k,(l.counts m).2.past = updF l.past o ⟨dyG l o,(l.past o).all,dyG l o,k⟩:=by
 have hn:=hL.n3;have hv:m.body.view = dyG l o:=by rw [hb]
 have hbq:m.body.q = chgQ l (dyG l o) l.n:=by rw [hb]
 have hhalf:=chgQ_half l (dyG l o) l.n;have hg0:=(hL.wf o ho).g0
 have hg0:0 ≤ dyG l o:=hg0;have hgb:dyG l o < 1073741824:=hL.gb o ho
 have hmin:MIn l.n m:=by
  refine ⟨by have:=hs.org;omega,fun p hp=>?_,by rw [hv];exact hg0⟩;rw [hbq] at hp;obtain ⟨i,h1,h2,_⟩:=chgQ_mem hp;rw [h2];exact ⟨by show (1:Int) ≤ ((i + 1:Nat):Int);omega,by show ((i + 1:Nat):Int) ≤ _;omega⟩
 obtain ⟨i,w,hb1,hb2,hb3,_⟩:=hL.best hmin;have h1:¬ m.body.q.length ≠ (l.n - 1) / 2 + 1:=by rw [hbq];omega
 have h2:¬ (m.body.q.all fun q=>decide (q.2 ≤ m.deps (q.1 - 1).toNat) && chB l q m.body.view) = false:=by
  have:(m.body.q.all fun q=>decide (q.2 ≤ m.deps (q.1 - 1).toNat) && chB l q m.body.view) = true:=by
   rw [List.all_eq_true];intro q hq;rw [hbq] at hq;obtain ⟨j,h1,rfl,h3,h4⟩:=chgQ_mem hq;have hm:=lastCh_mem h3;have hi:(((j + 1:Nat):Int) - 1).toNat = j:=by omega
   have hc:=(hK.ch j _ hm).2;rw [Bool.and_eq_true]
   refine ⟨decide_eq_true ?_,?_⟩
   ·show (lastCh l j).2 ≤ m.deps (((j + 1:Nat):Int) - 1).toNat;rw [hi,hs.dep j h1];exact hc
   ·unfold chB;show ((l.ch (((j + 1:Nat):Int) - 1).toNat).any _) = true;rw [hi,List.any_eq_true];refine ⟨lastCh l j,hm,?_⟩;rw [hv,decide_eq_true h4,decide_eq_true rfl];rfl
  rw [this];decide
 have hok:(l.past (orgI m)).enterOk m.body.view (bestQ l.past m.body.view m.body.q (0,0)).2 = true:=by
  rw [hs.orgI];refine decide_eq_true ⟨?_,?_,?_,hb3⟩
  ·rw [hv];exact notVoted_lt hL ho (Int.le_refl _) (by unfold dyN at hN;exact hN)
  ·rw [hv];exact Int.le_refl _
  ·rw [hv];exact hgb
 rw [Lgs.counts_4 (by rw [hb]),hs.prim,hv,if_pos hp];unfold Lgs.begins;rw [if_neg h1,if_neg h2,if_neg (by rw [hok];decide)];refine ⟨rfl,⟨i,w,(bestQ l.past m.body.view m.body.q (0,0)).2.toNat,_,m.number,by rw [← hv];exact hb1,hb2,rfl,?_⟩,(bestQ l.past m.body.view m.body.q (0,0)).2,?_⟩
 ·show insV ⟨m.body.view,m.number,_,[]⟩ l.vs = _;rw [hb1];simp only [hb2,Option.map_some,Option.getD_some,hv]
 ·exact qcp
theorem cnt_E (hL:LI l T) (hK:KI l) (ho:o < l.n) (hs:SaidBy l o m) (hb:m.body = bodW 5 v 0) (hE:dyE l o = some v) :
  dyG l o ≤ v ∧ v ≠ 0 ∧ primB l.n o v = false ∧ (l.counts m).1 = true ∧ (l.counts m).2.vs = l.vs ∧ ∃ k,(l.counts m).2.past = updF l.past o ⟨v,(l.past o).all,v,k⟩:=by
 have hn:=hL.n3;have hv:m.body.view = v:=by rw [hb];rfl
 unfold dyE at hE;rw [entV_find] at hE
 cases hf:(viewsU l).reverse.find? (fun v=>!ctE l o v) with
 | none=>rw [hf] at hE;cases hE
 | some u =>
  rw [hf] at hE;have hE:(if exE l o u = true then none else some u) = some v:=hE;by_cases hx:exE l o u = true
  ·rw [if_pos hx] at hE;cases hE
  ·rw [if_neg hx] at hE;cases hE
   have hm:=List.mem_reverse.1 (List.mem_of_find?_eq_some hf);have hct:=List.find?_some hf
   have hct:ctE l o v = false:=by cases e:ctE l o v with | false=>rfl | true=>rw [e] at hct;cases hct
   have hd:decide (¬ v < dyG l o ∧ v ≠ 0) = true:=by
    cases e:decide (¬ v < dyG l o ∧ v ≠ 0) with
    | true=>rfl
    | false=>exfalso;apply hx;unfold exE;rw [e];rfl
   have hvt:(dyV l o v).isSome = false:=by
    cases e:(dyV l o v).isSome with
    | false=>rfl
    | true=>exfalso;apply hx;unfold exE;rw [e,Bool.or_true]
   have hpr:primB l.n o v = false:=by
    unfold ctE at hct;rw [hd,hvt] at hct;exact hct
   obtain ⟨hge,hne⟩:=of_decide_eq_true hd;obtain ⟨w,hw,hwv⟩:=List.mem_map.1 hm;obtain ⟨i,hat,hi⟩:=vwAt_mem hL.rise hw;rw [hwv] at hat;have hplt:=primI_lt (n:=l.n) (by omega) v;have hnum:=hK.vw w hw
   rw [hwv,← hs.dep _ hplt] at hnum;obtain ⟨p,hp,hp1⟩:=hL.begun w hw (by rw [hwv];exact hne);have hlow:=(hL.wf _ (primI_lt (by omega) w.v)).low p hp;have hlt:=notVoted_lt hL ho (show dyG l o ≤ v by omega) hvt
   have hok:(l.past (orgI m)).enterOk m.body.view (w.s.length:Nat) = true:=by
    rw [hs.orgI,hv];refine decide_eq_true ⟨hlt,by show dyG l o ≤ v;omega,?_,by omega⟩;rw [hp1,hwv] at hlow;exact hlow.2.1
   rw [Lgs.counts_5 (by rw [hb];rfl) (by rw [hv];exact hat) hi,if_neg (by rw [hv];omega)];refine ⟨by omega,hne,hpr,hok,rfl,(w.s.length:Nat),?_⟩;exact qcp
theorem vw_of {i:Nat} (h1:vwAt l.vs v = some i) (h2:l.vs[i]? = some w):l.vw v = some w:=by
 unfold Lgs.vw;rw [h1];exact h2
theorem cnt_P (hL:LI l T) (ho:o < l.n) (hs:SaidBy l o m) (hb:m.body = ⟨1,dyG l o,0,r,[],noTag⟩) (hN:dyN l o = true) (hp:primB l.n o (dyG l o) = true) (hr:dyP l o r = true) :
  (l.counts m).1 = true ∧ (∃ i w,vwAt l.vs (dyG l o) = some i ∧ l.vs[i]? = some w ∧ (l.counts m).2.vs = l.vs.set i { w with p:=w.p ++ [(m.number,r)] }) ∧ (l.counts m).2.past = updF l.past o { l.past o with ln:=(l.past o).ln + 1 }:=by
 have hv:m.body.view = dyG l o:=by rw [hb]
 have hbr:m.body.req = r:=by rw [hb]
 obtain ⟨h1,h2⟩:=voted_open hL ho hN;obtain ⟨i,w,hat,hi,hwv,_⟩:=hL.voted ho h2;have hA:dyA l o = w.all:=by unfold dyA;rw [vw_of hat hi];rfl
 unfold dyP at hr;rw [Bool.and_eq_true,hA] at hr;obtain ⟨hr1,hr2⟩:=hr;have hr2:holdsB w.all r.client r.time = false:=by cases e:holdsB w.all r.client r.time with | false=>rfl | true=>rw [e] at hr2;cases hr2
 have hop:(l.past (orgI m)).isOpen m.body.view = true:=by rw [hs.orgI,hv];exact decide_eq_true ⟨rfl,h1.symm⟩
 rw [Lgs.counts_1 (by rw [hb]) (by rw [hv];exact hat) hi,if_neg ?_]
 ·refine ⟨rfl,⟨i,w,hat,hi,by show l.vs.set i _ = _;rw [hbr]⟩,?_⟩;show updF l.past (orgI m) ((l.past (orgI m)).prepare m.body.view) = _;unfold PM.prepare;rw [if_pos hop,hs.orgI]
 ·rw [hs.prim,hv,hp,hbr,hr1,hr2,← hv,hop];rintro (h | h | h | h) <;> cases h
theorem cnt_K (hL:LI l T) (hK:KI l) (ho:o < l.n) (hs:SaidBy l o m) (hb:m.body = bodW 2 (dyG l o) ((dyV l o (dyG l o)).getD 0 + 1)) (hN:dyN l o = true) (hp:primB l.n o (dyG l o) = false) (hlt:(dyV l o (dyG l o)).getD 0 < ((dyA l o).length:Int)) :
  (l.counts m).1 = true ∧ (l.counts m).2.vs = l.vs ∧ (l.counts m).2.past = updF l.past o { l.past o with ln:=(l.past o).ln + 1 }:=by
 have hn:=hL.n3;have hv:m.body.view = dyG l o:=by rw [hb];rfl
 obtain ⟨h1,h2⟩:=voted_open hL ho hN;obtain ⟨i,w,hat,hi,hwv,_⟩:=hL.voted ho h2;have hA:dyA l o = w.all:=by unfold dyA;rw [vw_of hat hi];rfl
 have hk:m.body.k = (l.past o).ln + 1:=by rw [hb,h2];rfl
 rw [h2,hA] at hlt;have hlt:(l.past o).ln < (w.all.length:Int):=hlt;have hplt:=primI_lt (n:=l.n) (by omega) (dyG l o)
 have hmost:knowsV w (m.deps (primI l.n (dyG l o))) = w.all.length:=by
  have hall:(w.p.filter fun x=>decide (x.1 ≤ m.deps (primI l.n (dyG l o)))) = w.p:=by
   rw [List.filter_eq_self];intro x hx
   have:=hK.pr w (List.mem_of_getElem? hi) x hx;rw [hwv,← hs.dep _ hplt] at this
   exact decide_eq_true this
  unfold knowsV;rw [hall,Vw.all_len]
 have hok:(l.past (orgI m)).commitOk m.body.view m.body.k (knowsV w (m.deps (primI l.n m.body.view)):Nat) = true:=by
  rw [hs.orgI,hv,hmost,hk];exact decide_eq_true ⟨⟨rfl,h1.symm⟩,by omega,by omega,rfl⟩
 rw [Lgs.counts_2 (by rw [hb];rfl) (by rw [hv];exact hat) hi,hs.prim,if_neg (by rw [hv,hp];decide)];refine ⟨hok,rfl,?_⟩;show updF l.past (orgI m) ((l.past (orgI m)).commit m.body.view m.body.k _) = _;unfold PM.commit;rw [if_pos hok,hs.orgI]
end
def dC (l:Lgs) (o:Nat) (wish:Int):Bool:=decide (dyG l o < wish) && decide (wish < 1073741824)
def dD (l:Lgs) (o:Nat) (pend:List Req):Nat:=if primB l.n o (dyG l o) = true then (pend.filter (dyP l o)).length else (dyA l o).length - ((dyV l o (dyG l o)).getD 0).toNat
def dS (X:Nat) (l:Lgs) (o:Nat) (pend:List Req):Nat:=if dyN l o = true then (if (dyE l o).isSome = true then X + 1 else dD l o pend) else X + 2
def dMu (X:Nat) (l:Lgs) (o:Nat) (pend:List Req) (wish:Int):Nat:=(if dC l o wish = true then X + 3 else 0) + dS X l o pend
def Bnd (X:Nat) (l:Lgs):Prop:=∀ w ∈ l.vs,w.all.length ≤ X
def dI (X:Nat) (l:Lgs) (o:Nat) (wish:Int):Prop:=Bnd X l ∨ (dC l o wish = false ∧ dyN l o = true ∧ dyE l o = none)
theorem filt_lt {α:Type} {p p':α→Bool} (h:∀ x,p' x = true→p x = true):∀ {l:List α} {x:α},x ∈ l→p x = true→p' x = false→(l.filter p').length < (l.filter p).length
 | a :: l, x, hx, h1, h2 => by
  have hle:∀ l:List α,(l.filter p').length ≤ (l.filter p).length:=fun l=>by
   rw [← List.countP_eq_length_filter,← List.countP_eq_length_filter]
   exact List.countP_mono_left fun x _=>h x
  rcases List.mem_cons.1 hx with e | hm
  ·subst e
   rw [List.filter_cons_of_pos h1,List.filter_cons_of_neg (by rw [h2];decide)]
   exact Nat.lt_succ_of_le (hle l)
  ·have ih:=filt_lt h hm h1 h2
   by_cases ha:p a = true
   ·rw [List.filter_cons_of_pos ha]
    by_cases hb:p' a = true
    ·rw [List.filter_cons_of_pos hb];exact Nat.succ_lt_succ ih
    ·rw [List.filter_cons_of_neg hb];exact Nat.lt_succ_of_lt ih
   ·rw [List.filter_cons_of_neg ha,List.filter_cons_of_neg fun hb=>ha (h a hb)]
    exact ih
theorem voted_snoc9 (l:List (Int × Int)) (v k u:Int):PM.voted (l ++ [(v,k)]) u = (match PM.voted l u with
  | some x=>some x
  | none=>if u = v then some k else none):=by
 induction l with
 | nil=>show (if u = v then some k else PM.voted [] u) = _;rfl
 | cons a l ih =>
  obtain ⟨w,n⟩:=a;show (if u = w then some n else PM.voted (l ++ [(v,k)]) u) = _;rw [ih]
  show _ = (match (if u = w then some n else PM.voted l u) with
   | some x=>some x
   | none=>if u = v then some k else none)
  by_cases e:u = w
  ·rw [if_pos e,if_pos e]
  ·rw [if_neg e,if_neg e]
section
variable {X:Nat} {l:Lgs} {o:Nat} {pend:List Req} {wish:Int}
theorem dA_le (h:Bnd X l):(dyA l o).length ≤ X:=by
 unfold dyA
 cases e:l.vw (dyG l o) with
 | none=>exact Nat.zero_le _
 | some w=>exact h w (vw_v e).2
theorem dD_le (h:Bnd X l) (hp:pend.length ≤ X):dD l o pend ≤ X:=by
 unfold dD;split
 ·exact Nat.le_trans (List.length_filter_le _ _) hp
 ·have:=dA_le (o:=o) h;omega
theorem dS_le (h:Bnd X l) (hp:pend.length ≤ X):dS X l o pend ≤ X + 2:=by
 have:=dD_le (o:=o) h hp;unfold dS
 split
 ·split <;> omega
 ·omega
theorem dS_le1 (h:Bnd X l) (hp:pend.length ≤ X) (hN:dyN l o = true):dS X l o pend ≤ X + 1:=by
 have:=dD_le (o:=o) h hp;unfold dS
 rw [if_pos hN];split <;> omega
theorem dI.bnd_C (h:dI X l o wish) (hc:dC l o wish = true):Bnd X l:=by
 rcases h with h | ⟨h,_⟩
 ·exact h
 ·rw [hc] at h;cases h
theorem dI.bnd_N (h:dI X l o wish) (hc:dyN l o = false):Bnd X l:=by
 rcases h with h | ⟨_,h,_⟩
 ·exact h
 ·rw [hc] at h;cases h
theorem dI.bnd_E (h:dI X l o wish) (hc:dyE l o = some v):Bnd X l:=by
 rcases h with h | ⟨_,_,h⟩
 ·exact h
 ·rw [hc] at h;cases h
variable {l':Lgs}
theorem mu_C (hI:dI X l o wish) (hp:pend.length ≤ X) (hc:dC l o wish = true) (hvs:l'.vs = l.vs) (hpa:l'.past o = { l.past o with g:=wish }):dI X l' o wish ∧ dMu X l' o pend wish < dMu X l o pend wish:=by
 have hB:=hI.bnd_C hc;have hB':Bnd X l':=by unfold Bnd;rw [hvs];exact hB
 have hg:dyG l' o = wish:=by unfold dyG;rw [hpa]
 have hc':dC l' o wish = false:=by unfold dC;rw [hg,decide_eq_false (by omega)];rfl
 refine ⟨.inl hB',?_⟩
 have:=dS_le (o:=o) hB' hp;unfold dMu
 rw [hc,hc',if_pos rfl,if_neg (by decide)];omega
theorem mu_N (hI:dI X l o wish) (hp:pend.length ≤ X) (hc:dC l o wish = false) (hN:dyN l o = false) {k num:Int} {s:List Req} (hw:w ∈ l.vs) (hs:s = w.all.take j) (hvs:l'.vs = insV ⟨dyG l o,num,s,[]⟩ l.vs) (hpa:l'.past o = ⟨dyG l o,(l.past o).all,dyG l o,k⟩) :
  dI X l' o wish ∧ dMu X l' o pend wish < dMu X l o pend wish:=by
 have hB:=hI.bnd_N hN
 have hB':Bnd X l':=fun x hx=>by
  rw [hvs] at hx;rcases List.mem_cons.1 ((insV_perm _ _).mem_iff.2 hx) with e | h
  ·subst e
   have:=hB w hw;rw [Vw.all_len,hs]
   show (w.all.take j).length + 0 ≤ X;rw [List.length_take];omega
  ·exact hB x h
 have hg:dyG l' o = dyG l o:=by show (l'.past o).g = _;rw [hpa]
 have hc':dC l' o wish = false:=by unfold dC at hc ⊢;rw [hg];exact hc
 have hN':dyN l' o = true:=by
  unfold dyN dyV;rw [hg,hpa];show (PM.voted ((l.past o).all ++ [(dyG l o,k)]) (dyG l o)).isSome = true;rw [voted_snoc9]
  cases PM.voted (l.past o).all (dyG l o) with
  | some x=>rfl
  | none=>simp
 refine ⟨.inl hB',?_⟩
 have:=dS_le1 (o:=o) hB' hp hN';unfold dMu
 rw [hc,hc',if_neg (by decide)];have e:dS X l o pend = X + 2:=by unfold dS;rw [hN,if_neg (by decide)]
 omega
theorem mu_E (hrise:(l.vs.map Vw.v).Pairwise (· < ·)) (hI:dI X l o wish) (hp:pend.length ≤ X) (hc:dC l o wish = false) (hE:dyE l o = some v) (hge:dyG l o ≤ v) (hn:l'.n = l.n) {k:Int} (hvs:l'.vs = l.vs) (hpa:l'.past o = ⟨v,(l.past o).all,v,k⟩) :
  dI X l' o wish ∧ dMu X l' o pend wish < dMu X l o pend wish:=by
 have hB:=hI.bnd_E hE;have hB':Bnd X l':=by unfold Bnd;rw [hvs];exact hB
 have hg:dyG l' o = v:=by show (l'.past o).g = _;rw [hpa]
 have hV':∀ u,dyV l' o u = (match dyV l o u with
   | some x=>some x
   | none=>if u = v then some k else none):=fun u=>by
  show PM.voted (l'.past o).all u = _
  rw [hpa]
  exact voted_snoc9 _ _ _ _
 have hNv:(dyV l' o v).isSome = true:=by
  rw [hV']
  cases dyV l o v with
  | some x=>rfl
  | none=>simp
 have hN':dyN l' o = true:=by unfold dyN;rw [hg];exact hNv
 have hc':dC l' o wish = false:=by
  unfold dC at hc ⊢;rw [hg]
  cases e:decide (wish < 1073741824) with
  | false=>rw [Bool.and_false]
  | true =>
   rw [e,Bool.and_true] at hc
   have:=of_decide_eq_false hc;rw [decide_eq_false (by omega)]
   rfl
 have hE':dyE l' o = none:=by
  unfold dyE at hE ⊢;rw [entV_find] at hE ⊢;have hU:viewsU l' = viewsU l:=by unfold viewsU;rw [hvs]
  rw [hU]
  cases hf:(viewsU l).reverse.find? (fun v=>!ctE l o v) with
  | none=>rw [hf] at hE;cases hE
  | some u =>
   rw [hf] at hE;have hE:(if exE l o u = true then none else some u) = some v:=hE
   have hu:u = v:=by
    by_cases hx:exE l o u = true
    ·rw [if_pos hx] at hE;cases hE
    ·rw [if_neg hx] at hE;cases hE;rfl
   subst hu;obtain ⟨_,l1,l2,he,has⟩:=List.find?_eq_some_iff_append.1 hf;have hpw:(viewsU l).reverse.Pairwise (fun a b=>b < a):=List.pairwise_reverse.2 hrise;rw [he] at hpw ⊢
   have hgt:∀ a ∈ l1,u < a:=fun a ha=>(List.pairwise_append.1 hpw).2.2 a ha u (by simp)
   have hnone:l1.find? (fun v=>!ctE l' o v) = none:=by
    rw [List.find?_eq_none];intro a ha;have h1:=has a ha;have h1:ctE l o a = true:=by simpa using h1
    have h2:=hgt a ha;unfold ctE at h1
    rw [Bool.and_eq_true,Bool.and_eq_true] at h1;obtain ⟨h3,h4,h5⟩:=h1;have h3:=of_decide_eq_true h3
    have h6:(dyV l' o a).isSome = false:=by
     rw [hV']
     cases e:dyV l o a with
     | some x=>rw [e] at h4;cases h4
     | none=>simp;omega
    have h7:ctE l' o a = true:=by
     unfold ctE;rw [hg,hn,h6,h5,decide_eq_true (show ¬ a < u ∧ a ≠ 0 from ⟨by omega,h3.2⟩)];rfl
    rw [h7];decide
   rw [List.find?_append,hnone];have h8:ctE l' o u = false:=by unfold ctE;rw [hNv];simp
   show (match (List.find? (fun v=>!ctE l' o v) (u::l2)) with
    | none=>none
    | some v=>if exE l' o v = true then none else some v) = none
   rw [List.find?_cons,h8];show (if exE l' o u = true then none else some u) = none;rw [if_pos (by unfold exE;rw [hNv,Bool.or_true])]
 refine ⟨.inl hB',?_⟩;have h1:=dD_le (o:=o) hB' hp;have e1:dS X l' o pend = dD l' o pend:=by unfold dS;rw [if_pos hN',if_neg (by rw [hE'];decide)]
 have e2:X + 1 ≤ dS X l o pend:=by
  unfold dS;split
  ·rw [if_pos (by rw [hE];rfl)];exact Nat.le_refl _
  ·exact Nat.le_succ _
 unfold dMu;rw [hc,hc',if_neg (by decide)];omega
theorem dS_quiet (hN:dyN l o = true) (hE:dyE l o = none):dS X l o pend = dD l o pend:=by unfold dS;rw [if_pos hN,if_neg (by rw [hE];decide)]
theorem dD_prim (hp:primB l.n o (dyG l o) = true):dD l o pend = (pend.filter (dyP l o)).length:=by unfold dD;rw [if_pos hp]
theorem dD_not (hp:¬ primB l.n o (dyG l o) = true):dD l o pend = (dyA l o).length - ((dyV l o (dyG l o)).getD 0).toNat:=by unfold dD;rw [if_neg hp]
theorem bump_N (hlv:(l.past o).lv = dyG l o) (hpa:l'.past o = { l.past o with ln:=(l.past o).ln + 1 }):dyG l' o = dyG l o ∧ ∀ u,(dyV l' o u).isSome = (dyV l o u).isSome:=by
 have hg:dyG l' o = dyG l o:=by show (l'.past o).g = _;rw [hpa];rfl
 refine ⟨hg,fun u=>?_⟩;show (PM.voted (l'.past o).all u).isSome = (PM.voted (l.past o).all u).isSome;rw [hpa];show (PM.voted ((l.past o).init ++ [((l.past o).lv,(l.past o).ln + 1)]) u).isSome = (PM.voted ((l.past o).init ++ [((l.past o).lv,(l.past o).ln)]) u).isSome;rw [voted_snoc9,voted_snoc9]
 cases PM.voted (l.past o).init u with
 | some x=>rfl
 | none =>
  by_cases e:u = (l.past o).lv
  ·simp [e]
  ·simp [e]
theorem bump_E (hn:l'.n = l.n) (hU:viewsU l' = viewsU l) (hg:dyG l' o = dyG l o) (hV:∀ u,(dyV l' o u).isSome = (dyV l o u).isSome):dyE l' o = dyE l o:=by
 unfold dyE;rw [hn,hU,hg];congr 1;funext u;exact hV u
theorem mu_P (hL:LI l T) (ho:o < l.n) (hc:dC l o wish = false) (hN:dyN l o = true) (hE:dyE l o = none) (hp:primB l.n o (dyG l o) = true) (hr:r ∈ pend) (hd:dyP l o r = true) {i:Nat} {num:Int} (hat:vwAt l.vs (dyG l o) = some i) (hi:l.vs[i]? = some w)
  (hn:l'.n = l.n) (hvs:l'.vs = l.vs.set i { w with p:=w.p ++ [(num,r)] }) (hpa:l'.past o = { l.past o with ln:=(l.past o).ln + 1 }):dI X l' o wish ∧ dMu X l' o pend wish < dMu X l o pend wish:=by
 obtain ⟨hlv,_⟩:=voted_open hL ho hN;obtain ⟨hg,hV⟩:=bump_N hlv hpa;have hil:=(List.getElem?_eq_some_iff.1 hi).1
 have hU:viewsU l' = viewsU l:=by
  unfold viewsU;rw [hvs,List.map_set];refine List.ext_getElem? fun j=>?_;by_cases e:i = j
  ·subst e;rw [List.getElem?_set_self (by rw [List.length_map];exact hil),List.getElem?_map,hi];rfl
  ·rw [List.getElem?_set_ne e]
 have hc':dC l' o wish = false:=by unfold dC at hc ⊢;rw [hg];exact hc
 have hN':dyN l' o = true:=by unfold dyN at hN ⊢;rw [hg,hV];exact hN
 have hE':dyE l' o = none:=by rw [bump_E hn hU hg hV];exact hE
 have hp':primB l'.n o (dyG l' o) = true:=by rw [hn,hg];exact hp
 have hwv:w.v = dyG l o:=by
  obtain ⟨⟨w1,e1,e2⟩,_⟩:=zav.1 hat;rw [hi] at e1;cases e1;exact e2
 have hat':vwAt l'.vs (dyG l o) = some i:=by
  rw [hvs];refine zav.2 ⟨⟨_,List.getElem?_set_self hil,hwv⟩,fun j x hj hx=>?_⟩;rw [List.getElem?_set_ne (by omega)] at hx;exact (zav.1 hat).2 j x hj hx
 have hA:dyA l o = w.all:=by unfold dyA;rw [vw_of hat hi];rfl
 have hA':dyA l' o = w.all ++ [r]:=by
  unfold dyA;rw [hg,vw_of hat' (by rw [hvs];exact List.getElem?_set_self hil)];show w.s ++ (w.p ++ [(num,r)]).map Prod.snd = (w.s ++ w.p.map Prod.snd) ++ [r];rw [List.map_append,List.append_assoc];rfl
 have hlt:(pend.filter (dyP l' o)).length < (pend.filter (dyP l o)).length:=by
  refine filt_lt (fun x hx=>?_) hr hd ?_
  ·unfold dyP at hx ⊢;rw [hA',Bool.and_eq_true] at hx;rw [hA,Bool.and_eq_true];refine ⟨hx.1,?_⟩;have h2:=hx.2;unfold holdsB at h2 ⊢
   rw [List.any_append] at h2;simp only [Bool.not_or,Bool.and_eq_true] at h2;exact h2.1
  ·unfold dyP;rw [hA']
   have:holdsB (w.all ++ [r]) r.client r.time = true:=by
    unfold holdsB;rw [List.any_append];simp
   rw [this,Bool.not_true,Bool.and_false]
 refine ⟨.inr ⟨hc',hN',hE'⟩,?_⟩;unfold dMu;rw [hc,hc',if_neg (by decide),dS_quiet hN' hE',dS_quiet hN hE,dD_prim hp',dD_prim hp];omega
theorem mu_K (hL:LI l T) (ho:o < l.n) (hI:dI X l o wish) (hc:dC l o wish = false) (hN:dyN l o = true) (hE:dyE l o = none) (hp:primB l.n o (dyG l o) = false) (hlt:(dyV l o (dyG l o)).getD 0 < ((dyA l o).length:Int))
  (hn:l'.n = l.n) (hvs:l'.vs = l.vs) (hpa:l'.past o = { l.past o with ln:=(l.past o).ln + 1 }):dI X l' o wish ∧ dMu X l' o pend wish < dMu X l o pend wish:=by
 obtain ⟨hlv,hvo⟩:=voted_open hL ho hN;obtain ⟨hg,hV⟩:=bump_N hlv hpa;have hU:viewsU l' = viewsU l:=by unfold viewsU;rw [hvs]
 have hc':dC l' o wish = false:=by unfold dC at hc ⊢;rw [hg];exact hc
 have hN':dyN l' o = true:=by unfold dyN at hN ⊢;rw [hg,hV];exact hN
 have hE':dyE l' o = none:=by rw [bump_E hn hU hg hV];exact hE
 have hp':¬ primB l'.n o (dyG l' o) = true:=by rw [hn,hg,hp];decide
 have hA:dyA l' o = dyA l o:=by
  unfold dyA Lgs.vw;rw [hg,hvs]
 have hln:=(hL.wf o ho).last
 have hvo':dyV l' o (dyG l o) = some ((l.past o).ln + 1):=by
  have h1:=PM.voted_last (PM.WF.bump (hL.wf o ho));show PM.voted (l'.past o).all _ = _
  rw [hpa,← hlv];exact h1
 refine ⟨.inr ⟨hc',hN',hE'⟩,?_⟩;rw [hvo] at hlt;have hlt:(l.past o).ln < ((dyA l o).length:Int):=hlt;unfold dMu
 rw [hc,hc',if_neg (by decide),dS_quiet hN' hE',dS_quiet hN hE,dD_not hp',dD_not (by rw [hp];decide),hA,hg,hvo,hvo'];show 0 + ((dyA l o).length - ((l.past o).ln + 1).toNat) < 0 + ((dyA l o).length - ((l.past o).ln).toNat);omega
end
theorem sayE_none (h:(sayE l o).2 = false):dyE l o = none:=by
 unfold sayE at h
 cases e:dyE l o with
 | none=>rfl
 | some v=>rw [e] at h;cases h
theorem say_cases (h:(sayX l o pend wish).2 = true) :
  (dC l o wish = true ∧ (sayX l o pend wish).1 = bodW 3 wish 0) ∨
  (dC l o wish = false ∧ dyN l o = false ∧ primB l.n o (dyG l o) = true ∧ l.n / 2 < (chgQ l (dyG l o) l.n).length ∧ (sayX l o pend wish).1 = ⟨4,dyG l o,0,Req.zero,chgQ l (dyG l o) l.n,noTag⟩) ∨
  (dC l o wish = false ∧ ∃ v,dyE l o = some v ∧ (sayX l o pend wish).1 = bodW 5 v 0) ∨
  (dC l o wish = false ∧ dyE l o = none ∧ dyN l o = true ∧ primB l.n o (dyG l o) = true ∧ ∃ r,r ∈ pend ∧ dyP l o r = true ∧ (sayX l o pend wish).1 = ⟨1,dyG l o,0,r,[],noTag⟩) ∨
  (dC l o wish = false ∧ dyE l o = none ∧ dyN l o = true ∧ primB l.n o (dyG l o) = false ∧ (dyV l o (dyG l o)).getD 0 < ((dyA l o).length:Int) ∧ (sayX l o pend wish).1 = bodW 2 (dyG l o) ((dyV l o (dyG l o)).getD 0 + 1)):=by
 cases h0:(sayR l o pend wish 0).2 with
 | true =>
  have e:=sayX_pick (l:=l) (o:=o) (pend:=pend) (wish:=wish) (j:=0) (by omega) (fun i hi=>by omega) h0;exact .inl ⟨h0,by rw [e];rfl⟩
 | false =>
  have hc:dC l o wish = false:=h0;refine .inr ?_
  cases h1:(sayR l o pend wish 1).2 with
  | true =>
   have e:=sayX_pick (l:=l) (o:=o) (pend:=pend) (wish:=wish) (j:=1) (by omega) (fun i hi=>by rw [show i = 0 by omega];exact h0) h1;have h1':(!dyN l o && (primB l.n o (dyG l o) && decide (((l.n / 2:Nat):Int) < ((chgQ l (dyG l o) l.n).length:Int)))) = true:=h1
   rw [Bool.and_eq_true,Bool.and_eq_true] at h1';obtain ⟨a,b,c⟩:=h1';have c:=of_decide_eq_true c;exact .inl ⟨hc,(Bool.not_eq_true' _).mp a,b,by omega,by rw [e];rfl⟩
  | false =>
   refine .inr ?_
   cases h2:(sayR l o pend wish 2).2 with
   | true =>
    have e:=sayX_pick (l:=l) (o:=o) (pend:=pend) (wish:=wish) (j:=2) (by omega) (fun i hi=>by
     rcases (by omega:i = 0 ∨ i = 1) with rfl | rfl
     ·exact h0
     ·exact h1) h2
    have h2:(sayE l o).2 = true:=h2;have e:sayX l o pend wish = sayE l o:=e
    cases hE:dyE l o with
    | none=>unfold sayE at h2;rw [hE] at h2;cases h2
    | some v=>exact .inl ⟨hc,v,rfl,by rw [e];unfold sayE;rw [hE]⟩
   | false =>
    have hE:=sayE_none (l:=l) (o:=o) h2;refine .inr ?_
    cases h3:(sayR l o pend wish 3).2 with
    | true =>
     have e:=sayX_pick (l:=l) (o:=o) (pend:=pend) (wish:=wish) (j:=3) (by omega) (fun i hi=>by
      rcases (by omega:i = 0 ∨ i = 1 ∨ i = 2) with rfl | rfl | rfl
      ·exact h0
      ·exact h1
      ·exact h2) h3
     have h3:(sayP l o pend).2 = true:=h3;have e:sayX l o pend wish = sayP l o pend:=e
     unfold sayP at h3 e;by_cases hb:(dyN l o && primB l.n o (dyG l o)) = true
     ·rw [if_pos hb] at h3 e;rw [Bool.and_eq_true] at hb
      cases hf:pend.find? (dyP l o) with
      | none=>rw [hf] at h3;cases h3
      | some r =>
       rw [hf] at e;exact .inl ⟨hc,hE,hb.1,hb.2,r,List.mem_of_find?_eq_some hf,List.find?_some hf,by rw [e]⟩
     ·rw [if_neg hb] at h3;cases h3
    | false =>
     refine .inr ?_
     cases h4:(sayR l o pend wish 4).2 with
     | true =>
      have e:=sayX_pick (l:=l) (o:=o) (pend:=pend) (wish:=wish) (j:=4) (by omega) (fun i hi=>by
       rcases (by omega:i = 0 ∨ i = 1 ∨ i = 2 ∨ i = 3) with rfl | rfl | rfl | rfl
       ·exact h0
       ·exact h1
       ·exact h2
       ·exact h3) h4
      have h4':(dyN l o && (!primB l.n o (dyG l o) && decide ((dyV l o (dyG l o)).getD 0 < ((dyA l o).length:Int)))) = true:=h4;rw [Bool.and_eq_true,Bool.and_eq_true] at h4'
      obtain ⟨a,b,c⟩:=h4';exact ⟨hc,hE,a,(Bool.not_eq_true' _).mp b,of_decide_eq_true c,by rw [e];rfl⟩
     | false =>
      have e:=sayX_none (l:=l) (o:=o) (pend:=pend) (wish:=wish) fun i hi=>by
       rcases (by omega:i = 0 ∨ i = 1 ∨ i = 2 ∨ i = 3 ∨ i = 4) with rfl | rfl | rfl | rfl | rfl
       ·exact h0
       ·exact h1
       ·exact h2
       ·exact h3
       ·exact h4
      rw [e] at h;cases h
variable {X:Nat}
theorem say_step {l':Lgs} (hL:LI l T) (hK:KI l) (hodd:l.n % 2 = 1) (ho:o < l.n) (hs:SaidBy l o m) (hp:pend.length ≤ X) (hI:dI X l o wish)
  (hb:m.body = (sayX l o pend wish).1) (ht:(sayX l o pend wish).2 = true) (hn:l'.n = l.n) (hvs:l'.vs = (l.counts m).2.vs) (hpa:l'.past = (l.counts m).2.past) :
  (l.counts m).1 = true ∧ dI X l' o wish ∧ dMu X l' o pend wish < dMu X l o pend wish:=by
 have at_o:∀ {p:PM},(l.counts m).2.past = updF l.past o p→l'.past o = p:=fun h=>by rw [hpa,h,zaj]
 rcases say_cases ht with ⟨hc,e⟩ | ⟨hc,hN,hpr,hq,e⟩ | ⟨hc,v,hE,e⟩ | ⟨hc,hE,hN,hpr,r,hr,hd,e⟩ | ⟨hc,hE,hN,hpr,hlt,e⟩
 ·have hc2:=hc;unfold dC at hc2
  rw [Bool.and_eq_true] at hc2;obtain ⟨a,b,c⟩:=cnt_C hs (hb.trans e) (of_decide_eq_true hc2.1) (of_decide_eq_true hc2.2);exact ⟨a,mu_C hI hp hc (hvs.trans b) (at_o c)⟩
 ·obtain ⟨a,⟨i,w,k,s,num,b1,b2,b3,b4⟩,k2,c⟩:=cnt_N hL hK hodd ho hs (hb.trans e) hN hpr hq;exact ⟨a,mu_N hI hp hc hN (List.mem_of_getElem? b2) b3 (hvs.trans b4) (at_o c)⟩
 ·obtain ⟨a1,a2,a3,a,b,k,c⟩:=cnt_E hL hK ho hs (hb.trans e) hE;exact ⟨a,mu_E hL.rise hI hp hc hE a1 hn (hvs.trans b) (at_o c)⟩
 ·obtain ⟨a,⟨i,w,b1,b2,b3⟩,c⟩:=cnt_P hL ho hs (hb.trans e) hN hpr hd;exact ⟨a,mu_P hL ho hc hN hE hpr hr hd b1 b2 hn (hvs.trans b3) (at_o c)⟩
 ·obtain ⟨a,b,c⟩:=cnt_K hL hK ho hs (hb.trans e) hN hpr hlt;exact ⟨a,mu_K hL ho hI hc hN hE hpr hlt hn (hvs.trans b) (at_o c)⟩
theorem quo_of:∀ {q:List (Int × Int)} {w:Int},(∀ p ∈ q,w < p.1 ∧ p.1 ≤ 11 ∧ 1 ≤ p.2 ∧ p.2 ≤ 65536)→q.Pairwise (fun a b=>a.1 < b.1)→quo w q = true
 | [],_,_,_=>rfl
 | a :: q, w, h, hp => by
  obtain ⟨h1,h2,h3,h4⟩:=h a (by simp)
  obtain ⟨p1,p2⟩:=List.pairwise_cons.1 hp
  unfold quo
  rw [if_neg (by omega)]
  exact quo_of (fun p hpm=>by have:=h p (by simp [hpm]);have:=p1 p hpm;omega) p2
theorem chgQ_rise {l:Lgs} {v:Int}:∀ r,(chgQ l v r).Pairwise (fun a b=>a.1 < b.1)
 | 0=>List.Pairwise.nil
 | r + 1 => by
  have ih:=@chgQ_rise l v r
  by_cases hl:(chgQ l v r).length ≤ l.n / 2
  ·by_cases h2:0 < (lastCh l r).2 ∧ (lastCh l r).1 = v
   ·rw [chgQ_yes hl h2.1 h2.2]
    refine List.pairwise_append.2 ⟨ih,List.pairwise_singleton _ _,fun a ha b hb=>?_⟩
    obtain ⟨i,h1,h3,_⟩:=chgQ_mem ha
    rw [List.mem_singleton.1 hb,h3]
    show ((i + 1:Nat):Int) < ((r + 1:Nat):Int)
    omega
   ·rw [chgQ_no h2];exact ih
  ·rw [chgQ_stop hl (r + 1) (by omega)];exact ih
theorem bodW_may {k:UInt8} {kk:Int} (hv:v < 1073741824) (hk:(k = 3 ∧ kk = 0 ∧ 1 ≤ v) ∨ (k = 5 ∧ kk = 0 ∧ 1 ≤ v) ∨ (k = 2 ∧ 1 ≤ kk ∧ kk ≤ 4611686018427387904)):(bodW k v kk).may = true:=by
 have e:Bod.eqB (bodW k v kk).own (bodW k v kk) = true:=by
  rcases hk with ⟨rfl,rfl,_⟩ | ⟨rfl,rfl,_⟩ | ⟨rfl,_⟩ <;> exact Bod.eqB_refl _
 unfold Bod.may;rw [e];have hv':decide ((bodW k v kk).view < 1073741824) = true:=decide_eq_true hv;rw [hv']
 rcases hk with ⟨rfl,rfl,h⟩ | ⟨rfl,rfl,h⟩ | ⟨rfl,h1,h2⟩
 ·exact decide_eq_true h
 ·exact decide_eq_true h
 ·exact decide_eq_true ⟨h1,h2⟩
theorem say_may (hL:LI l T) (hT:T ≤ 60000) (hK:KI l) (ho:o < l.n) (hs:SaidBy l o m) (hnum:m.number = l.known o + 1) (hd:∀ i,i ≤ 10→m.deps i ≤ 65536)
  (hb:m.body = (sayX l o pend wish).1) (ht:(sayX l o pend wish).2 = true):m.may = true:=by
 have hn:=hL.n3;have horg:=hs.org
 have hko:=hL.kn o;have hg0:=(hL.wf o ho).g0
 have hg0:0 ≤ dyG l o:=hg0;have hgb:dyG l o < 1073741824:=hL.gb o ho
 have hlast:=(hL.wf o ho).last
 have hout:m.outer:=by
  refine ⟨by omega,by omega,by omega,by omega,?_,(maxTo_le _ _ 10).2 hd⟩;rw [show m.origin.toNat - 1 = o by omega,hs.dep o ho,hnum];omega
 have key:m.body.may = true:=by
  rcases say_cases ht with ⟨hc,e⟩ | ⟨hc,hN,hpr,hq,e⟩ | ⟨hc,v,hE,e⟩ | ⟨hc,hE,hN,hpr,r,hr,hd,e⟩ | ⟨hc,hE,hN,hpr,hlt,e⟩
  ·rw [hb,e];unfold dC at hc;rw [Bool.and_eq_true] at hc;have h1:=of_decide_eq_true hc.1;exact bodW_may (of_decide_eq_true hc.2) (.inl ⟨rfl,rfl,by omega⟩)
  ·rw [hb,e];have hlt:=notVoted_lt hL ho (Int.le_refl _) (by unfold dyN at hN;exact hN);have e1:Bod.eqB (⟨4,dyG l o,0,Req.zero,chgQ l (dyG l o) l.n,noTag⟩:Bod).own ⟨4,dyG l o,0,Req.zero,chgQ l (dyG l o) l.n,noTag⟩ = true:=Bod.eqB_refl _
   have e2:decide ((⟨4,dyG l o,0,Req.zero,chgQ l (dyG l o) l.n,noTag⟩:Bod).view < 1073741824) = true:=decide_eq_true hgb;unfold Bod.may
   rw [e1,e2]
   have hquo:quo 0 (chgQ l (dyG l o) l.n) = true:=quo_of (fun p hp=>by
    obtain ⟨i,h1,h2,h3,_⟩:=chgQ_mem hp;have h4:=(hK.ch i _ (lastCh_mem h3)).2;have h5:=hL.kn i
    rw [h2]
    refine ⟨by show (0:Int) < ((i + 1:Nat):Int);omega,by show ((i + 1:Nat):Int) ≤ 11;omega,by show 1 ≤ (lastCh l i).2;omega,by show (lastCh l i).2 ≤ 65536;omega⟩) (chgQ_rise _)
   show (true && true && (decide (1 ≤ dyG l o) && (quo 0 (chgQ l (dyG l o) l.n) && decide (0 < (chgQ l (dyG l o) l.n).length)))) = true;rw [hquo,decide_eq_true (show 1 ≤ dyG l o by omega),decide_eq_true (show 0 < (chgQ l (dyG l o) l.n).length by omega)];rfl
  ·obtain ⟨a1,a2,_,a,_⟩:=cnt_E hL hK ho hs (hb.trans e) hE;rw [hb,e]
   have hvm:v ∈ viewsU l:=by
    unfold dyE at hE;rw [entV_find] at hE
    cases hf:(viewsU l).reverse.find? (fun v=>!ctE l o v) with
    | none=>rw [hf] at hE;cases hE
    | some u =>
     exact qbp
   obtain ⟨w,hw,hwv⟩:=List.mem_map.1 hvm;obtain ⟨p,hp,hp1⟩:=hL.begun w hw (by rw [hwv];exact a2);have hlow:=(hL.wf _ (primI_lt (by omega) w.v)).low p hp;rw [hp1,hwv] at hlow
   exact bodW_may hlow.2.1 (.inr (.inl ⟨rfl,rfl,by omega⟩))
  ·rw [hb,e];unfold dyP at hd;rw [Bool.and_eq_true] at hd;have hau:=hd.1;unfold Req.auth at hau
   rw [Bool.and_eq_true] at hau;have e1:Bod.eqB (⟨1,dyG l o,0,r,[],noTag⟩:Bod).own ⟨1,dyG l o,0,r,[],noTag⟩ = true:=Bod.eqB_refl _;have e2:decide ((⟨1,dyG l o,0,r,[],noTag⟩:Bod).view < 1073741824) = true:=decide_eq_true hgb
   unfold Bod.may;rw [e1,e2];exact hau.1
  ·obtain ⟨h1,h2⟩:=voted_open hL ho hN;rw [hb,e,h2];exact bodW_may hgb (.inr (.inr ⟨rfl,by show 1 ≤ (l.past o).ln + 1;omega,by show (l.past o).ln + 1 ≤ _;omega⟩))
 unfold Msg.may;rw [key,decide_eq_true hout];rfl
structure DI (n T:Nat) (l:Lgs) (k:Nat→Int):Prop where
 L:LI l T
 K:KI l
 N:NI l
 n:l.n = n
 kn:∀ i,i < 11→l.known i = k i
theorem say_view (hL:LI l T) (ho:o < l.n) (ht:(sayX l o pend wish).2 = true):0 ≤ (sayX l o pend wish).1.view ∧ ∀ p ∈ (sayX l o pend wish).1.q,p.1 ≤ (l.n:Int):=by
 have hg0:=(hL.wf o ho).g0;have hg0:0 ≤ dyG l o:=hg0
 rcases say_cases ht with ⟨hc,e⟩ | ⟨hc,hN,hpr,hq,e⟩ | ⟨hc,v,hE,e⟩ | ⟨hc,hE,hN,hpr,r,hr,hd,e⟩ | ⟨hc,hE,hN,hpr,hlt,e⟩
 ·rw [e];unfold dC at hc;rw [Bool.and_eq_true] at hc
  have:=of_decide_eq_true hc.1;exact ⟨by show 0 ≤ wish;omega,fun p hp=>by cases hp⟩
 ·rw [e];refine ⟨hg0,fun p hp=>?_⟩;obtain ⟨i,h1,h2,_⟩:=chgQ_mem hp;rw [h2];show ((i + 1:Nat):Int) ≤ _;omega
 ·rw [e];refine ⟨?_,fun p hp=>by cases hp⟩;show 0 ≤ v
  have hvm:v ∈ viewsU l:=by
   unfold dyE at hE;rw [entV_find] at hE
   cases hf:(viewsU l).reverse.find? (fun v=>!ctE l o v) with
   | none=>rw [hf] at hE;cases hE
   | some u =>
    exact qbp
  obtain ⟨w,hw,hwv⟩:=List.mem_map.1 hvm;have hn:=hL.n3;by_cases h0:w.v = 0
  ·omega
  ·obtain ⟨p,hp,hp1⟩:=hL.begun w hw h0;have hlow:=(hL.wf _ (primI_lt (by omega) w.v)).low p hp;omega
 ·rw [e];exact ⟨hg0,fun p hp=>by cases hp⟩
 ·rw [e];exact ⟨hg0,fun p hp=>by cases hp⟩
variable {n:Nat}
theorem say_takes {k:Nat→Int} (h:DI n T l k) (hT:T ≤ 20000) (hodd:n % 2 = 1) (ho:o < n) (hp:pend.length ≤ X) (hI:dI X l o wish)
  (horg:m.origin = ((o + 1:Nat):Int)) (hnum:m.number = k o + 1) (hdep:∀ i,i < 11→m.deps i = k i) (hb:m.body = (sayX l o pend wish).1) (ht:(sayX l o pend wish).2 = true) :
  m.may = true ∧ ∃ l',l.take m = ((true,0),l') ∧ DI n (T + 1) l' (updF k o (k o + 1)) ∧ dI X l' o wish ∧ dMu X l' o pend wish < dMu X l o pend wish:=by
 obtain ⟨hL,hK,hN,hn,hkn⟩:=h;subst hn;have hn3:=hL.n3;have hs:SaidBy l o m:=⟨horg,fun i hi=>by rw [hdep i (by omega),hkn i (by omega)]⟩
 have hko:=hkn o (by omega);obtain ⟨hview,hq⟩:=say_view hL ho ht
 have hmay:=say_may hL (by omega) hK ho hs (by rw [hnum,hko]) (fun i hi=>by rw [hdep i (by omega),← hkn i (by omega)];have:=hL.kn i;omega) hb ht
 have hqin:qIn l.n m = true:=by
  unfold qIn;rw [List.all_eq_true,hb];exact fun p hpm=>decide_eq_true (hq p hpm)
 have hdin:depsIn m l.known = true:=by
  unfold depsIn;rw [List.all_eq_true];intro i hi;rw [List.mem_range] at hi;exact decide_eq_true (by rw [hdep i hi,hkn i hi];exact Int.le_refl _)
 obtain ⟨hcn,hck⟩:=Lgs.counts_nk l m;have horgI:=hs.orgI
 have htake:l.take m = (((l.counts m).1,0),{ (l.counts m).2 with known:=updF (l.counts m).2.known (orgI m) ((l.counts m).2.known (orgI m) + 1) }):=by
  unfold Lgs.take;rw [if_neg,if_neg]
  ·rintro (e | e)
   ·exact e (by rw [hnum,horgI,hko])
   ·rw [hdin] at e;cases e
  ·rintro (e | e | e)
   ·rw [hmay] at e;cases e
   ·omega
   ·rw [hqin] at e;cases e
 have hst:=say_step (l':={ (l.counts m).2 with known:=updF (l.counts m).2.known (orgI m) ((l.counts m).2.known (orgI m) + 1) }) hL hK hodd ho hs hp hI hb ht hcn rfl rfl;obtain ⟨c1,c2,c3⟩:=hst
 refine ⟨hmay,(l.take m).2,by rw [htake,c1],⟨hL.take (by rw [hb];exact hview),hK.take (fun r=>(hL.kn r).1) m,hN.take m,by rw [htake];exact hcn,fun i hi=>?_⟩,by rw [htake];exact c2,by rw [htake];exact c3⟩;rw [htake];show updF (l.counts m).2.known (orgI m) ((l.counts m).2.known (orgI m) + 1) i = _;rw [hck,horgI];by_cases e:i = o
 ·subst e;rw [zaj,zaj,hkn i hi]
 ·rw [zaw _ _ e,zaw _ _ e,hkn i hi]
def othG (l:Lgs) (o:Nat):Nat→List Int
 | 0=>[]
 | r + 1=>if r = o then othG l o r else othG l o r ++ [dyG l r]
theorem othG_len (l:Lgs) (o:Nat):∀ r,(othG l o r).length + (if o < r then 1 else 0) = r
 | 0=>rfl
 | r + 1 => by
  have ih:=othG_len l o r
  show (if r = o then othG l o r else othG l o r ++ [dyG l r]).length + _ = _
  by_cases e:r = o
  ·rw [if_pos e,if_pos (by omega)];rw [if_neg (by omega)] at ih;omega
  ·rw [if_neg e,List.length_append]
   show _ + 1 + _ = _
   by_cases h:o < r
   ·rw [if_pos h] at ih;rw [if_pos (by omega)];omega
   ·rw [if_neg h] at ih;rw [if_neg (by omega)];omega
def JV (l:Lgs) (o:Nat) (z:Int):Prop:=∃ s:List Int,s.Perm (othG l o l.n) ∧ s.Pairwise (· ≤ ·) ∧ s[l.n / 2 - 1]? = some z
theorem JV.mem {z:Int} (h:JV l o z):z ∈ othG l o l.n:=by
 obtain ⟨s,h1,_,h3⟩:=h;exact h1.mem_iff.1 (List.mem_of_getElem? h3)
theorem othG_mem {l:Lgs} {o:Nat} {z:Int}:∀ {r},z ∈ othG l o r→∃ i,i < r ∧ i ≠ o ∧ z = dyG l i
 | 0,h=>by cases h
 | r + 1, h => by
  have h:z ∈ (if r = o then othG l o r else othG l o r ++ [dyG l r]):=h
  split at h
  ·obtain ⟨i,h1,h2⟩:=othG_mem h;exact ⟨i,by omega,h2⟩
  ·rename_i hne
   rcases List.mem_append.1 h with h | h
   ·obtain ⟨i,h1,h2⟩:=othG_mem h;exact ⟨i,by omega,h2⟩
   ·exact ⟨r,by omega,hne,List.mem_singleton.1 h⟩
theorem dyP_new (h:r.auth = true):dyP (Lgs.new 3) 0 r = true:=by
 show (r.auth && !holdsB [] r.client r.time) = true;rw [h];rfl
theorem sayX_ex1 (h:r.auth = true):sayX (Lgs.new 3) 0 [r] 0 = (⟨1,0,0,r,[],noTag⟩,true):=by
 have hP:sayP (Lgs.new 3) 0 [r] = (⟨1,0,0,r,[],noTag⟩,true):=by
  show (match [r].find? (dyP (Lgs.new 3) 0) with | none=>sayZ | some r=>((⟨1,0,0,r,[],noTag⟩:Bod),true)) = _;rw [List.find?_cons,dyP_new h]
 rw [sayX_pick (j:=3) (by decide) (fun i hi=>by
  match i,hi with
  | 0,_=>rfl
  | 1,_=>rfl
  | 2,_=>rfl) (by show (sayP (Lgs.new 3) 0 [r]).2 = true;rw [hP])]
 exact hP
theorem sayX_ex2 (r:Req):sayX (Lgs.new 3) 1 [r] 0 = sayZ:=sayX_none fun i hi=>by
 match i,hi with
 | 0,_=>rfl
 | 1,_=>rfl
 | 2,_=>rfl
 | 3,_=>rfl
 | 4,_=>rfl
theorem sayX_ex3:sayX (Lgs.new 3) 1 [] 1 = (bodW 3 1 0,true):=sayX_pick (j:=0) (by decide) (fun i hi=>by omega) rfl
section
variable (f:Frag) (F:List HP)
theorem djoin_fn (hfl:Le fl f) (hn:3 ≤ l.n ∧ l.n ≤ 11) (hodd:l.n % 2 = 1) (ho:o < l.n) :
  Fn Tryz.prog 46 [.pointer (some ⟨lb,0,none⟩),.int .i64 (l.n:Int),.int .i64 ((o + 1:Nat):Int)] f (plogH fl lb l::F) (RetP (JV l o) (fun z=>.int .u64 z) f (fun _=>plogH fl lb l::F)):=by
 have hgr:=fun G r (hr:r < l.n)=>plgreat_fn f G hfl (lb:=lb) (l:=l) (by omega) (o:=r) hr (r:=((r + 1:Nat):Int)) rfl;have hgr:∀ G r (hr:r < l.n),Fn Tryz.prog 22 [.pointer (some ⟨lb,0,none⟩),.int .i64 ((r + 1:Nat):Int)] f (plogH fl lb l::G) (Ret (.int .u64 (dyG l r)) f (plogH fl lb l::G)):=hgr
 have hlen:=othG_len l o;refine Fn.e3 Tryz.func46 Tryz.ntmps46 fun base=>?_
 refine gH ?_;refine H.Ag rfl rfl rfl (dfew_fn f _ hn hodd ho) ?_;refine gc ?_;refine H.slc0 24 1 ?_
 refine H.lo (ι:=Nat × Option Addr × Nat) (fun s=>[(8,.int .i64 ((s.1 + 1:Nat):Int)),(7,.slice s.2.1 (othG l o s.1).length s.2.2),(2,.int .i64 ((o + 1:Nat):Int)),(1,.int .i64 (l.n:Int)),(0,.pointer (some ⟨lb,0,none⟩))]) (fun _=>f)
  (fun s=>slc s.2.1 (othG l o s.1).length s.2.2 24 1 ((othG l o s.1).flatMap uV)::plogH fl lb l::F) (fun s=>s.1 ≤ l.n) (fun s=>l.n - s.1)
  (0,none,0) (Nat.zero_le _) fun s hs=>?_
 obtain ⟨r,qp,qc⟩:=s;have hr:r ≤ l.n:=hs;show H _ _ _ [(8,.int .i64 ((r + 1:Nat):Int)),(7,.slice qp (othG l o r).length qc),_,_,_] f (slc qp (othG l o r).length qc _ 1 ((othG l o r).flatMap uV)::_::F) _
 have hql:=hlen r;by_cases hrn:r < l.n
 ·have h1:=fun G=>hgr G r hrn;by_cases hro:r = o
  ·have hno:othG l o (r + 1) = othG l o r:=if_pos hro;have hz:((r + 1:Nat):Int) = ((o + 1:Nat):Int):=by rw [hro]
   refine gT ?_;refine H.Ay (r + 1,qp,qc) (by show r + 1 ≤ l.n;omega) (by show l.n - (r + 1) < l.n - r;omega) ⟨rfl,by show _ = some (Value.slice qp (othG l o (r + 1)).length qc);rw [hno];rfl,rfl,rfl,rfl,trivial⟩ rfl ?_;show _ = slc qp (othG l o (r + 1)).length qc _ 1 ((othG l o (r + 1)).flatMap uV)::_;rw [hno]
  ·have hyes:othG l o (r + 1) = othG l o r ++ [dyG l r]:=if_neg hro;have hz:¬ ((r + 1:Nat):Int) = ((o + 1:Nat):Int):=by omega
   generalize dyG l r = g at h1 hyes;refine gG ?_;refine qdX ?_;refine H.cr (h1 _) ?_;refine H.Au (out:=uV g) rfl rfl rfl rfl (by decide) (by decide) rfl rfl fun eb=>?_;refine H.Av (sz:=1) (p:=qp) (n0:=(othG l o r).length) (c:=qc) (xs:=(othG l o r).flatMap uV) (m:=1) (news:=uV g) rfl rfl rfl rfl rfl (fun p' c'=>(by repeat constructor)) (Src.slice (Rd.ofRow (by repeat constructor)) rfl) (zaa rfl) rfl (by omega) (by omega) fun p2 c2=>?_;refine gV ?_;refine qfY ?_;refine qdX ?_;refine H.pf (x:=slc p2 _ c2 _ _ _) ?_;have hl2:(othG l o (r + 1)).length = (othG l o r).length + 1:=by rw [hyes,List.length_append];rfl
   refine H.Ay (r + 1,p2,c2) (by show r + 1 ≤ l.n;omega) (by show l.n - (r + 1) < l.n - r;omega) ⟨rfl,by show _ = some (Value.slice p2 (othG l o (r + 1)).length c2);rw [hl2];rfl,rfl,rfl,rfl,trivial⟩ rfl ?_;show _ = slc p2 (othG l o (r + 1)).length c2 _ 1 ((othG l o (r + 1)).flatMap uV)::_;rw [hl2,hyes,List.flatMap_append];rfl
 ·have e:r = l.n:=by omega
  subst e;rw [if_pos ho] at hql;have hJ:∀ s:List Int,s.Perm (othG l o l.n)→s.Pairwise (· ≤ ·)→∀ z,s[l.n / 2 - 1]? = some z→JV l o z:=fun s h1 h2 z h3=>⟨s,h1,h2,h3⟩;generalize othG l o l.n = xs at hql hJ ⊢
  refine gE ?_;refine H.Al rfl rfl rfl (sortU_fn f _ (p:=qp) (n:=xs.length) (c:=qc) (xs:=xs) rfl (by omega)) fun v f' A' hR=>?_;obtain ⟨ys,hy1,hy2,rfl,hff,rfl⟩:=hR;rw [hff];have hyl:=hy1.length_eq;obtain ⟨z,hz⟩:∃ z,ys[l.n / 2 - 1]? = some z:=⟨_,List.getElem?_eq_getElem (by omega)⟩
  refine H.Ax (p:=qp) (n0:=xs.length) (c:=qc) (T:=24) (sz:=1) (xs:=ys.flatMap uV) (.here _ _ _) (by omega) fun sb hp=>?_;subst hp;refine gH ?_;refine qeZ ?_;refine gI ?_;refine H.Ak (i:=l.n / 2 - 1) rfl rfl rfl (by omega) (by omega) rfl ?_;refine H.Ab rfl rfl rfl (rd_uV (.here _ _ _) hz) rfl ?_;refine qfh ?_;exact H.r1 ⟨z,hJ ys hy1 hy2 z hz,rfl,rfl,rfl⟩
theorem works19_fn (htab:TabAt f):Fn Tryz.prog 15 [] f F (Ret (.bool true) f F):=by
 have hau0:=(signed_auth r15_asked).1;have hsg:=fun e G=>rsigned_fn e G r15u
 have hau:r15.auth = true:=hau0;clear hau0
 have hr15:r15u.signed = r15:=by unfold r15;rfl
 rw [hr15] at hsg;clear hr15;generalize r15 = r at *;have he:eqC r.vals r.vals = true:=eqC_refl rfl;refine Fn.e0 Tryz.func15 Tryz.ntmps15 fun base=>?_
 refine gH ?_;refine H.Al rfl rfl rfl (plnew_fn f _ (n:=3) (by decide)) fun v f' A' hr=>?_;obtain ⟨g0,lb,hd0,rfl,rfl,rfl⟩:=hr;have hle:=Le.un f g0;generalize un f g0 = f1 at *
 have hLI:LI (Lgs.new 3) 0:=LI.new (by decide) (by decide);repeat (first | (refine H.Ar (t:=44) (out:=r15u.vals) rfl rfl rfl (by kernel_rfl) rfl ?_) | (refine gg ?_))
 refine H.cr (hsg _ _) ?_;refine qf fun rb=>?_;refine H.Af (ls:=Req.zero.vals) (vs:=r.vals) (ls':=r.vals) rfl rfl rfl (zaa rfl) rfl rfl (Nat.le_refl 40) (.here _ _ _) ?_;refine gH ?_;refine qfD ?_;refine qhu fun e1=>?_;refine H.asSlc (k:=1) (sz:=40) rfl (by decide) ?_;refine H.freeze (.here _ _) fun ga hga hda=>?_;have hpa:ListAt (un f1 ga) (some ⟨e1,0,none⟩) 40 Req.vals [r]:=(zbu (vals:=Req.vals) (xs:=[r]) Req.len hga).mono (Le.right hda);have hup1:=Le.un f1 ga
 have hle1:=hle.trans hup1;generalize un f1 ga = f2 at *
 have hN:=fun G=>dnext_fn f2 G (tab_mono htab hle1) (lb:=lb) (o:=0) hup1 hLI (by decide) rfl (show 0 < 3 by decide) (pc:=1) (wish:=0) hpa (show 1 ≤ 1000000 by decide);rw [sayX_ex1 hau] at hN
 clear hau;refine qdX ?_;refine H.cl (hN _) fun v' f' A' hR=>?_;obtain ⟨gb,p,c,hdb,hv',hqb,rfl,rfl⟩:=hR;have hv':v' = .tuple #[.agg ((⟨1,0,0,r,[],noTag⟩:Bod).vals p c).toArray,.bool true]:=hv';subst hv'
 have hup2:=Le.un f2 gb;have hle2:=hle1.trans hup2
 have hup12:=hup1.trans hup2;clear hN hpa hqb hda hga hdb hd0
 generalize un f2 gb = f3 at *;refine gW ?_;refine qde fun b1=>?_;refine H.Af (ls:=(Bod.zero 0).vals none 0) (vs:=(⟨1,0,0,r,[],noTag⟩:Bod).vals p c) (ls':=(⟨1,0,0,r,[],noTag⟩:Bod).vals p c) rfl rfl rfl (zaa rfl) rfl rfl (Nat.le_refl 76) (.here _ _ _) ?_;refine gH ?_;refine qfD ?_;refine qhu fun e2=>?_;refine H.asSlc (k:=1) (sz:=40) rfl (by decide) ?_;refine H.freeze (.here _ _) fun ga hga hda=>?_;have hpa:ListAt (un f3 ga) (some ⟨e2,0,none⟩) 40 Req.vals [r]:=(zbu (vals:=Req.vals) (xs:=[r]) Req.len hga).mono (Le.right hda);have hup3:=hup12.trans (Le.un f3 ga)
 have hle3:=hle2.trans (Le.un f3 ga);generalize un f3 ga = f4 at *
 have hN:=fun G=>dnext_fn f4 G (tab_mono htab hle3) (lb:=lb) (o:=1) hup3 hLI (by decide) rfl (show 1 < 3 by decide) (pc:=1) (wish:=0) hpa (show 1 ≤ 1000000 by decide);rw [sayX_ex2 r] at hN
 refine qdX ?_;refine H.cl (hN _) fun v' f' A' hR=>?_;obtain ⟨gb,p2,c2,hdb,hv',hqb,rfl,rfl⟩:=hR;have hv':v' = .tuple #[.agg ((Bod.zero 0).vals p2 c2).toArray,.bool false]:=hv';subst hv'
 have hup4:=hup3.trans (Le.un f4 gb);have hle4:=hle3.trans (Le.un f4 gb)
 clear hN hpa hqb hda hga hdb;generalize un f4 gb = f5 at *;refine gW ?_;refine qde fun b2=>?_;refine H.Af (ls:=(Bod.zero 0).vals none 0) (vs:=(Bod.zero 0).vals p2 c2) (ls':=(Bod.zero 0).vals p2 c2) rfl rfl rfl (zaa rfl) rfl rfl (Nat.le_refl 76) (.here _ _ _) ?_;refine gH ?_;have hN:=fun G=>dnext_fn f5 G (tab_mono htab hle4) (lb:=lb) (o:=1) hup4 hLI (by decide) rfl (show 1 < 3 by decide) (pp:=none) (pc:=0) (wish:=1) (pend:=[]) (fun i x h=>by simp at h) (by decide);rw [sayX_ex3] at hN
 refine qdX ?_;refine H.cl (hN _) fun v' f' A' hR=>?_;obtain ⟨gb,p3,c3,hdb,hv',hqb,rfl,rfl⟩:=hR;have hv':v' = .tuple #[.agg ((bodW 3 1 0).vals p3 c3).toArray,.bool true]:=hv';subst hv'
 have hup5:=hup4.trans (Le.un f5 gb);have hle5:=hle4.trans (Le.un f5 gb)
 clear hN hqb hdb;generalize un f5 gb = f6 at *;refine gW ?_;refine qde fun b3=>?_;refine H.Af (ls:=(Bod.zero 0).vals none 0) (vs:=(bodW 3 1 0).vals p3 c3) (ls':=(bodW 3 1 0).vals p3 c3) rfl rfl rfl (zaa rfl) rfl rfl (Nat.le_refl 76) (.here _ _ _) ?_;have hk1:(((⟨1,0,0,r,[],noTag⟩:Bod).kind.toNat:Nat):Int) = 1:=rfl;have hk3:(((bodW 3 1 0).kind.toNat:Nat):Int) = 3:=rfl
 have hv3:(bodW 3 1 0).view = 1:=rfl;refine gX ?_
 refine H.Ae (ls:=r.vals) rfl rfl rfl (body_req (x:=(⟨1,0,0,r,[],noTag⟩:Bod)) (by repeat constructor)) rfl rfl ?_;refine qfD ?_;refine H.aggEq (xs:=r.vals) (ys:=r.vals) (D:=4) (b:=true) rfl rfl rfl rfl (by kernel_rfl) (by kernel_rfl) (by kernel_rfl) (by kernel_rfl) (by decide) he rfl ?_;refine gX ?_;refine qdX ?_;refine H.callP rfl rfl rfl (djoin_fn f6 _ (lb:=lb) (o:=0) (l:=Lgs.new 3) hup5 (by decide) rfl (show 0 < 3 by decide)) fun z hz=>?_
 have hz0:z = 0:=by
  obtain ⟨i,_,_,e⟩:=othG_mem hz.mem;exact e
 subst hz0;refine gT ?_;refine H.pd (x:=plogH _ lb _) ?_;refine H.pd (x:=row rb _ _) ?_;refine H.pd (x:=row b1 _ _) ?_;refine H.pd (x:=row b2 _ _) ?_;refine H.pd (x:=row b3 _ _) ?_;refine H.weakL hle5 ?_;exact qap
end
def sub (k:Nat→Int) (all:List Msg):List Msg:=all.filter fun m=>decide (m.number ≤ k (orgI m))
theorem sub_mem {k:Nat→Int} {l:List Msg}:m ∈ sub k l ↔ m ∈ l ∧ m.number ≤ k (orgI m):=by unfold sub;rw [List.mem_filter,decide_eq_true_eq]
theorem sub_yes {k:Nat→Int} {l:List Msg} (h:m.number ≤ k (orgI m)):sub k (l ++ [m]) = sub k l ++ [m]:=by
 unfold sub;rw [List.filter_append];congr 1;simp [h]
theorem sub_no {k:Nat→Int} {l:List Msg} (h:¬ m.number ≤ k (orgI m)):sub k (l ++ [m]) = sub k l:=by
 unfold sub;rw [List.filter_append];simp [h]
theorem sub_len (k:Nat→Int) (l:List Msg):(sub k l).length ≤ l.length:=List.length_filter_le _ _
theorem cnt_sub {k:Nat→Int} (h0:∀ i,0 ≤ k i) (l:List Msg):WOK n l→∀ i,((cnt (sub k l) i:Nat):Int) = minU k l i:=by
 refine snocInd (p:=fun l=>WOK n l→∀ i,((cnt (sub k l) i:Nat):Int) = minU k l i) (fun _ i=>?_) (fun l m ih hW i=>?_) l
 ·rw [minU_nil h0];rfl
 ·have hm:=WOK.at (post:=[]) hW;have hl:WOK n l:=by have:=hW.take l.length;rwa [List.take_left] at this
  have ih:=ih hl i;have hnum:=hm.num
  have hc:=cnt_snoc l m i;by_cases hk:m.number ≤ k (orgI m)
  ·rw [sub_yes hk,cnt_snoc];unfold minU at ih ⊢;rw [hc];by_cases e:i = orgI m
   ·subst e;rw [if_pos rfl];split at ih <;> split <;> omega
   ·rw [if_neg e];exact ih
  ·rw [sub_no hk,ih];unfold minU;rw [hc];by_cases e:i = orgI m
   ·subst e;rw [if_pos rfl];split <;> split <;> omega
   ·rw [if_neg e];rfl
theorem WOK.sub {n:Nat} {k:Nat→Int} (h0:∀ i,0 ≤ k i) (l:List Msg):WOK n l→(∀ x ∈ l,x.number ≤ k (orgI x)→∀ i,i < 11→x.deps i ≤ k i)→WOK n (sub k l):=by
 refine snocInd (p:=fun l=>WOK n l→(∀ x ∈ l,x.number ≤ k (orgI x)→∀ i,i < 11→x.deps i ≤ k i)→WOK n (Go.Proofs.YtminmjlfmolfeaaGreatDoor.sub k l)) (fun h _=>h) (fun l m ih hW hc=>?_) l;have hm:=WOK.at (post:=[]) hW;have hl:WOK n l:=by have:=hW.take l.length;rwa [List.take_left] at this
 have ih:=ih hl fun x hx=>hc x (List.mem_append_left _ hx);by_cases hk:m.number ≤ k (orgI m)
 ·rw [sub_yes hk];refine ih.snoc ⟨hm.org,hm.fits,hm.right,?_,fun i hi=>?_,fun x hx=>hm.mono x (sub_mem.1 hx).1⟩
  ·have h1:=cnt_sub (n:=n) h0 l hl (orgI m);have h2:=hm.num
   unfold minU at h1;split at h1 <;> omega
  ·have h1:=cnt_sub (n:=n) h0 l hl i;have h2:=hm.dep i hi
   have h3:=hc m (by simp) hk i hi;unfold minU at h1
   split at h1 <;> omega
 ·rw [sub_no hk];exact ih
theorem sub_step2 {k:Nat→Int} (h0:∀ i,0 ≤ k i) {all:List Msg} (hW:WOK n all) (hc:∀ x ∈ all,x.number ≤ k (orgI x)→∀ i,i < 11→x.deps i ≤ k i) {i:Nat} (hm:all[i]? = some m) :
  (m.number ≤ k (orgI m)→∃ b,(lgsOf n (sub k (all.take i))).take m = ((b,0),lgsOf n (sub k (all.take (i + 1))))) ∧ (¬ m.number ≤ k (orgI m)→sub k (all.take (i + 1)) = sub k (all.take i)):=by
 rw [zbs hm];refine ⟨fun hk=>?_,fun hk=>sub_no hk⟩;have h1:WOK n (sub k (all.take i ++ [m])):=WOK.sub h0 _ (by rw [← zbs hm];exact hW.take _) fun x hx=>hc x (by rw [← zbs hm] at hx;exact List.mem_of_mem_take hx);rw [sub_yes hk] at h1 ⊢
 have h2:(sub k (all.take i) ++ [m])[(sub k (all.take i)).length]? = some m:=List.getElem?_concat_length;obtain ⟨h3,_⟩:=world_take h1 h2
 have e1:(sub k (all.take i) ++ [m]).take (sub k (all.take i)).length = sub k (all.take i):=List.take_left;have e2:(sub k (all.take i) ++ [m]).take ((sub k (all.take i)).length + 1) = sub k (all.take i) ++ [m]:=by rw [List.take_of_length_le];rw [List.length_append];exact Nat.le_refl _
 rw [e1,e2] at h3;exact ⟨_,h3⟩
structure KOK (n:Nat) (all:List Msg) (k:Nat→Int):Prop where
 w:WOK n all
 n3:3 ≤ n
 n11:n ≤ 11
 v:∀ m ∈ all,0 ≤ m.body.view
 z:∀ i,0 ≤ k i
 c:∀ x ∈ all,x.number ≤ k (orgI x)→∀ i,i < 11→x.deps i ≤ k i
theorem KOK.li {all:List Msg} {k:Nat→Int} (h:KOK n all k) (i:Nat):LI (lgsOf n (sub k (all.take i))) (sub k (all.take i)).length:=lgsOf_LI h.n3 h.n11 _ fun m hm=>h.v m (List.mem_of_mem_take (sub_mem.1 hm).1)
def AtP (f:Frag) (F:List HP) (n:Nat) (all:List Msg):Value→Frag→List HP→Prop:=fun v f' A'=>∃ (g:Frag) (lb:Nat),Dj f g ∧ v = .tuple #[.pointer (some ⟨lb,0,none⟩),.bool true] ∧ f' = un f g ∧ A' = plogH f' lb (lgsOf n all)::F
variable {n8:UInt8}
section
variable (f:Frag) (F:List HP)
theorem at16_fn (htab:TabAt f) (hn8:n = 3 + 2 * (n8.toNat % 5)) {W:W12} {kb:Nat} {ap:Option Addr} {ac lb0:Nat} {l:List MV} (hwat:WAt f n W kb ap l) {k:Nat→Int} (hK:KOK n W.all k) (hl:W.all.length ≤ 1000) {wb:Nat} :
  Fn Tryz.prog 17 [.pointer (some ⟨wb,0,none⟩),.agg (v11 k).toArray] f (row wb 34 (w15C kb n ap l.length ac lb0)::F) (AtP f (row wb 34 (w15C kb n ap l.length ac lb0)::F) n (sub k W.all)):=by
 have hn3:3 ≤ n ∧ n ≤ 11:=by omega
 have hodd:n % 2 = 1:=by omega
 have hlm:=hwat.m;have hll:l.length = W.all.length:=by rw [← hlm,List.length_map]
 refine Fn.e2 Tryz.func17 Tryz.ntmps17 fun base=>?_;refine gA ?_;refine H.box (ls:=v11 k) rfl rfl rfl rfl fun xb=>?_;refine gW ?_;refine H.Al rfl rfl rfl (plnew_fn f _ (n:=n) (fewz_odd hn8)) fun v f' A' hr=>?_;obtain ⟨g,lb,hd,rfl,rfl,rfl⟩:=hr;have hle:=Le.un f g;obtain ⟨f1,hf1⟩:∃ f1,f1 = un f g:=⟨_,rfl⟩
 rw [← hf1] at hle ⊢;have hta:=tab_mono htab hle;have hwa1:=hwat.mono hle
 refine gc ?_;refine qdr ?_
 refine H.lo (ι:=Nat) (fun i=>[(8,.int .i64 (i:Int)),(6,.pointer (some ⟨lb,0,none⟩)),(3,.pointer (some ⟨xb,0,none⟩)),(0,.pointer (some ⟨wb,0,none⟩))]) (fun _=>f1)
  (fun i=>row xb 36 (v11 k)::plogH f1 lb (lgsOf n (sub k (W.all.take i)))::row wb 34 (w15C kb n ap l.length ac lb0)::F) (fun i=>i ≤ W.all.length) (fun i=>W.all.length - i)
  0 (Nat.zero_le _) fun i hi=>?_
 have hi:i ≤ W.all.length:=hi;by_cases hlt:i < W.all.length
 ·obtain ⟨b,off,rfl,rdA⟩:=hwa1.a.all MV.len (by decide) (by omega);obtain ⟨y,hy⟩:∃ y,l[i]? = some y:=⟨_,List.getElem?_eq_getElem (by omega)⟩;have hym:W.all[i]? = some y.m:=by rw [← hlm,List.getElem?_map,hy];rfl
  have hyg:=hwa1.g y (List.mem_of_getElem? hy);have hmo:=(hK.w i y.m hym).org
  have hoz:y.m.origin - 1 = (orgI y.m:Nat):=by unfold orgI;omega
  have hon:orgI y.m < 11:=by unfold orgI;omega
  have hLI:=hK.li i;have hLl:(sub k (W.all.take i)).length ≤ 1000:=Nat.le_trans (sub_len _ _) (by rw [List.length_take];omega)
  have htk:=fun G=>pltakeA_fn f1 G hta (Le.refl f1) (lb:=lb) hLI (by omega) (lgsOf_NI _ _) (by rw [lgsOf_n];exact hodd) hyg;obtain ⟨hyes,hno⟩:=sub_step2 hK.z hK.w hK.c hym
  have hrdk:∀ {G:List HP},Rd1 f1 (row xb 36 (v11 k)::G) xb (orgI y.m) (.int .u64 (k (orgI y.m))):=fun {G}=>Rd1.ofRow (.here _ _ _) (by rw [nthV_eq];exact zba k hon);by_cases hk:y.m.number ≤ k (orgI y.m)
  ·obtain ⟨cb,hcb⟩:=hyes hk;rw [hcb] at htk;refine gJ ?_;refine qdV ?_;refine gU ?_;refine gJ ?_;refine H.Ak (i:=i) rfl rfl rfl rfl (by omega) rfl ?_;refine H.Ae (ls:=y.vals) rfl rfl rfl (rdA _ _ _ _ (Le.refl f1) hy) rfl rfl ?_;refine qdX ?_;refine H.cr (htk _) ?_;refine gc ?_;refine qdr ?_;exact qcx
  ·rw [← hno hk];refine gJ ?_;refine qdV ?_;refine gU ?_;refine gT ?_;exact qcx
 ·have e:i = W.all.length:=by omega
  subst e;rw [List.take_length];refine gJ ?_;refine qdv ?_;subst hf1;exact qck
end
theorem WI.kok {W:W15} (h:WI n W T) (h3:3 ≤ n) (h11:n ≤ 11) (hv:∀ m ∈ W.w.all,0 ≤ m.body.view) (ho:o < n):KOK n W.w.all (W.w.kv o):=
 ⟨h.w.ok,h3,h11,hv,fun i=>((h.w.knw o ho).le i).1,(h.w.knw o ho).closed⟩
section
variable (f:Frag) (F:List HP)
end
section
variable (f:Frag) (F:List HP)
end
section
variable (f:Frag) (F:List HP)
end
def opV (r:Req):List Value:=[.int .u8 (r.kind.toNat:Nat),.string r.key,.string r.val,.string r.old,.string r.to,.int .u64 r.amount]
theorem opV_len (r:Req):(opV r).length = 6:=rfl
def AnyB (f:Frag) (A:List HP):Value→Frag→List HP→Prop:=RetP (fun _:Bool=>True) (fun b=>.bool b) f (fun _=>A)
variable {R:List Req}
section
variable (f:Frag) (F:List HP)
theorem few09_fn (hl:R.length ≤ 9223372036854775807) :
  Fn Tryz.prog 44 [.slice p R.length c] f (slc p R.length c 41 6 (R.flatMap opV)::F) (AnyB f (slc p R.length c 41 6 (R.flatMap opV)::F)):=by
 by_cases h150:R.length ≤ 150
 ·refine Fn.e1 Tryz.func44 Tryz.ntmps44 fun base=>?_;refine gE ?_;refine H.lo (ι:=Nat) (fun i=>[(3,.int .i64 (i:Int)),(0,.slice p R.length c)]) (fun _=>f) (fun _=>slc p R.length c 41 6 (R.flatMap opV)::F) (fun i=>i ≤ R.length) (fun i=>R.length - i) 0 (Nat.zero_le _) fun i hi=>?_;have hi:i ≤ R.length:=hi;by_cases hlt:i < R.length
  ·obtain ⟨y,hy⟩:∃ y,R[i]? = some y:=⟨_,List.getElem?_eq_getElem hlt⟩;refine H.Ax (p:=p) (n0:=R.length) (c:=c) (T:=41) (sz:=6) (xs:=R.flatMap opV) (.here _ _ _) (by omega) fun sb hps=>?_;subst hps;have rdy:∀ {G:List HP},Rd f (slc (some ⟨sb,0,none⟩) R.length c 41 6 (R.flatMap opV)::G) sb (0 + i * 6) (opV y):=fun {G}=>by rw [Nat.zero_add];exact Rd.slcElem opV_len (by decide) (.here _ _ _) hy
   refine gG ?_;refine H.dq ?_;refine qfc ?_;refine HQ.Ab rfl rfl rfl (Rd1.of (i:=1) rdy rfl) rfl ?_;refine HQ.Bn rfl rfl rfl ?_;refine qfc ?_;refine HQ.Ab rfl rfl rfl (Rd1.of (i:=2) rdy rfl) rfl ?_;refine HQ.Bn rfl rfl rfl ?_;refine HQ.ar rfl rfl rfl rfl rfl rfl ?_;refine qfc ?_;refine HQ.Ab rfl rfl rfl (Rd1.of (i:=3) rdy rfl) rfl ?_;refine HQ.Bn rfl rfl rfl ?_;refine HQ.ar rfl rfl rfl rfl rfl rfl ?_;refine qfc ?_;refine HQ.Ab rfl rfl rfl (Rd1.of (i:=4) rdy rfl) rfl ?_;refine HQ.Bn rfl rfl rfl ?_;refine HQ.ar rfl rfl rfl rfl rfl rfl ?_;refine gU ?_;refine gA ?_;refine H.cond_dec rfl (fun hc=>?_) (fun hc=>?_)
   ·refine gY ?_;exact H.r1 ⟨false,trivial,rfl,rfl,rfl⟩
   ·refine gV ?_;exact H.ag (i + 1) (by show i + 1 ≤ R.length;omega) (by show R.length - (i + 1) < R.length - i;omega)
  ·skip;refine gE ?_;exact H.r1 ⟨true,trivial,rfl,rfl,rfl⟩
 ·refine Fn.e1 Tryz.func44 Tryz.ntmps44 fun base=>?_;refine gG ?_;exact H.r1 ⟨false,trivial,rfl,rfl,rfl⟩
theorem few10_fn (hp:ListAt f p 40 Req.vals R) (hl:R.length ≤ 1099511627776) :
  Fn Tryz.prog 14 [.slice p R.length c] f F (AnyB f F):=by
 refine Fn.e1 Tryz.func14 Tryz.ntmps14 fun base=>?_;refine gY ?_;refine H.slc0 41 6 ?_
 refine H.lo (ι:=Nat × Option Addr × Nat) (fun s=>[(4,.int .i64 (s.1:Int)),(3,.slice s.2.1 (R.take s.1).length s.2.2),(0,.slice p R.length c)]) (fun _=>f) (fun s=>slc s.2.1 (R.take s.1).length s.2.2 41 6 ((R.take s.1).flatMap opV)::F) (fun s=>s.1 ≤ R.length) (fun s=>R.length - s.1)
  (0,none,0) (Nat.zero_le _) fun s hs=>?_
 obtain ⟨i,qp,qc⟩:=s;have hi:i ≤ R.length:=hs;show H _ _ _ [(4,.int .i64 (i:Int)),(3,.slice qp (R.take i).length qc),_] f (slc qp (R.take i).length qc _ 6 ((R.take i).flatMap opV)::F) _
 have hti:(R.take i).length = i:=by rw [List.length_take];omega
 by_cases hlt:i < R.length
 ·obtain ⟨x,hx⟩:∃ x,R[i]? = some x:=⟨_,List.getElem?_eq_getElem hlt⟩;obtain ⟨b,off,cs,Tt,fr,rfl,hfb,hcs⟩:=hp i x hx;have rd:∀ A,Rd f A b (off + i * 40) x.vals:=fun A=>Rd.imm hfb hcs
  have rdo:∀ A,Rd f A b (off + i * 40 + 2) (opV x):=fun A=>by
   have h1:=rd A;have e:x.vals = [.int .i64 x.client,.int .u64 x.time] ++ opV x ++ b32 x.tag:=rfl
   exact qbK
  have hsn:R.take (i + 1) = R.take i ++ [x]:=zbs hx;have hl1:(R.take (i + 1)).length = (R.take i).length + 1:=by rw [hsn,List.length_append];rfl
  refine gG ?_;refine qey ?_;refine H.Ae (ls:=opV x) rfl rfl rfl (rdo _) rfl rfl ?_;refine H.Au (out:=opV x) rfl rfl rfl rfl (by decide) (by decide) rfl rfl fun eb=>?_;refine H.Av (sz:=6) (p:=qp) (n0:=(R.take i).length) (c:=qc) (xs:=(R.take i).flatMap opV) (m:=1) (news:=opV x) rfl rfl rfl rfl rfl (fun p' c'=>(by repeat constructor)) (Src.slice (Rd.ofRow (by repeat constructor)) rfl) (zaa rfl) rfl (by omega) (by omega) fun p2 c2=>?_;refine gV ?_;refine qfY ?_;refine H.Ay (i + 1,p2,c2) (by show i + 1 ≤ R.length;omega) (by show R.length - (i + 1) < R.length - i;omega) ⟨rfl,by show _ = some (Value.slice p2 (R.take (i + 1)).length c2);rw [hl1];rfl,rfl,trivial⟩ rfl ?_;show _ = slc p2 (R.take (i + 1)).length c2 _ 6 ((R.take (i + 1)).flatMap opV)::_;rw [hl1,hsn,List.flatMap_append];rfl
 ·have e:i = R.length:=by omega
  rw [e];refine gE ?_;refine H.callP rfl rfl rfl (few09_fn f _ (by rw [List.length_take];omega)) fun b _=>?_;refine qfh ?_;exact H.r1 ⟨b,trivial,rfl,rfl,rfl⟩
end
theorem say_ok (hL:LI l T) (hT:T ≤ 60000) (ho:o < l.n) (hpk:∀ r ∈ pend,r.Ok) (ht:(sayX l o pend wish).2 = true) (hv:(sayX l o pend wish).1.view < 1073741824):(sayX l o pend wish).1.Ok:=by
 have hv0:=(say_view hL ho ht).1;have hz:Req.zero.Ok:=by unfold Req.Ok;decide
 have hlast:=(hL.wf o ho).last;refine ⟨⟨hv0,by omega⟩,?_⟩
 rcases say_cases ht with ⟨hc,e⟩ | ⟨hc,hN,hpr,hq,e⟩ | ⟨hc,v,hE,e⟩ | ⟨hc,hE,hN,hpr,r,hr,hd,e⟩ | ⟨hc,hE,hN,hpr,hlt,e⟩
 ·exact qbW
 ·exact qbW
 ·exact qbW
 ·rw [e];exact ⟨⟨Int.le_refl 0,by show (0:Int) ≤ _;decide⟩,hpk r hr⟩
 ·rw [e];obtain ⟨_,h2⟩:=voted_open hL ho hN;rw [h2];exact ⟨⟨by show 0 ≤ (l.past o).ln + 1;omega,by show (l.past o).ln + 1 ≤ _;omega⟩,hz⟩
theorem KOK.di {all:List Msg} {k:Nat→Int} (h:KOK n all k) (hk:∀ i,k i ≤ (cnt all i:Nat)):DI n (sub k all).length (lgsOf n (sub k all)) k:=by
 have hv:∀ m ∈ sub k all,0 ≤ m.body.view:=fun m hm=>h.v m (sub_mem.1 hm).1;have hW:=WOK.sub h.z all h.w h.c
 refine ⟨lgsOf_LI h.n3 h.n11 _ hv,lgsOf_KI h.n3 h.n11 _ hv,lgsOf_NI _ _,lgsOf_n _ _,fun i _=>?_⟩;have h1:=lgsOf_known hW (sub k all).length (Nat.le_refl _);rw [List.take_length] at h1
 rw [h1];show ((cnt (sub k all) i:Nat):Int) = k i;rw [cnt_sub h.z all h.w i];unfold minU
 have:=hk i;split <;> omega
theorem orS_q {a b:Bod × Bool} (h1:a.1.q.length ≤ 12) (h2:b.1.q.length ≤ 12):(orS a b).1.q.length ≤ 12:=by unfold orS;split <;> assumption
theorem sayX_q (l:Lgs) (o:Nat) (pend:List Req) (wish:Int) (hn:l.n ≤ 11):(sayX l o pend wish).1.q.length ≤ 12:=by
 refine orS_q (Nat.zero_le _) (orS_q ?_ (orS_q ?_ (orS_q ?_ (orS_q (Nat.zero_le _) (Nat.zero_le _)))))
 ·have:=chgQ_half l (dyG l o) l.n;show (chgQ l (dyG l o) l.n).length ≤ 12
  omega
 ·unfold sayE;split <;> exact Nat.zero_le _
 ·unfold sayP;split
  ·split <;> exact Nat.zero_le _
  ·exact Nat.zero_le _
section
variable (f:Frag) (F:List HP)
end
theorem DI.mono {n T T':Nat} {l:Lgs} {k:Nat→Int} (h:DI n T l k) (hle:T ≤ T'):DI n T' l k:=⟨h.L.mono hle,h.K,h.N,h.n,h.kn⟩
section
variable (f:Frag) (F:List HP)
theorem dutyCounts_fn (htab:TabAt f) {w8:UInt8} {xs:List A15} (hat:ListAt f p 12 A15.vals xs) (hh:∀ x ∈ xs,x.Has f) (hxl:xs.length ≤ 9223372036854775807)
  {sp:Option Addr} {sc:Nat} (hpe:ListAt f sp 40 Req.vals pend) (hpel:pend.length ≤ 1099511627776) (hpk:∀ r ∈ pend,r.Ok) :
  Fn Tryz.prog 3 [.int .u8 (n8.toNat:Nat),.slice p xs.length c,.int .u8 (w8.toNat:Nat),.slice sp pend.length sc,.int .u64 wish] f F (Ret (.bool true) f F):=by
 have hfew:=few15_fn f F (c:=c) hat hxl
 cases hf:few15 xs with
 | false =>
  rw [hf] at hfew;exact qbq
 | true =>
  rw [hf] at hfew;obtain ⟨hl100,hq20⟩:=few15_all hf;by_cases h80:xs.length ≤ 80
  ·skip;refine Fn.e5 Tryz.func3 Tryz.ntmps3 fun base=>?_;refine gH ?_;refine H.Ag rfl rfl rfl hfew ?_;refine H.not (b:=_) (c:=_) rfl rfl rfl rfl ?_;refine gO ?_;refine H.callP rfl rfl rfl (few10_fn f _ hpe hpel) fun bb _=>?_
   cases bb with
   | false =>
    refine qgl ?_;refine gS ?_;refine H.Ag rfl rfl rfl (works19_fn f _ htab) ?_;refine gY ?_;exact qap
   | true =>
    refine qfB ?_;by_cases h20:pend.length ≤ 20
    ·obtain ⟨n,hn8⟩:∃ n,n = 3 + 2 * (n8.toNat % 5):=⟨_,rfl⟩;have hn3:3 ≤ n ∧ n ≤ 11:=by omega
     have hodd:n % 2 = 1:=by omega
     have hw8:=w8.toNat_lt;obtain ⟨o,hoe⟩:∃ o,o = w8.toNat % n:=⟨_,rfl⟩
     have ho:o < n:=by rw [hoe];exact Nat.mod_lt _ (by omega)
     have hacts:=fun G=>acts15_fn f G hn8 (c:=c) hat (fun x hx=>⟨hh x hx,hq20 x hx⟩) hl100;have hinv:WI n (world15 n xs) xs.length:=by have:=world15_inv hn3.1 hn3.2 xs xs.length (by omega);rwa [List.take_length] at this
     have hwl:(world15 n xs).w.all.length ≤ 80:=by have:=world15_len n xs xs.length;rw [List.take_length] at this;omega
     generalize world15 n xs = W15' at *;refine gO ?_;refine H.cl (hacts _) fun v f' A' hr=>?_;obtain ⟨g,wb,rfl,hd,rfl,rfl⟩:=hr;have le0:=Le.un f g;generalize un f g = f0 at *
     refine H.world15 fun g1 kb ap ac lb0 ml hd1 hwat=>?_;have le1:=le0.trans (Le.un f0 g1);generalize un f0 g1 = f1 at *
     have hta:=tab_mono htab le1;clear hacts hfew hd hd1
     have hK:=hinv.kok hn3.1 hn3.2 hwat.good_v ho;have hDI:=hK.di fun i=>((hinv.w.knw o ho).le i).2
     have hkrd:=fun G=>hwat.k.rd G ho;have hatf:=fun G=>at16_fn f1 G hta hn8 (ac:=ac) (lb0:=lb0) (wb:=wb) hwat hK (by omega)
     generalize W15'.w.kv o = kv at *;have hsl:=sub_len kv W15'.w.all;unfold AtP at hatf
     generalize lgsOf n (sub kv W15'.w.all) = l0 at *;generalize (sub kv W15'.w.all).length = T at *;have e1:(1:Int) + (o:Int) = ((o + 1:Nat):Int):=by omega
     have hremo:((w8.toNat:Nat):Int).tmod (n:Int) = ((o:Nat):Int):=zas (a:=w8.toNat) (b:=n) hoe.symm;clear hoe
     refine gR ?_;refine H.rem (z:=((o:Nat):Int)) rfl rfl rfl (by omega) (by first | exact hremo | (rw [wr_i64 (by omega)];exact hremo)) rfl ?_;refine gR ?_;try rw [e1]
     refine H.Ak (i:=o) rfl rfl rfl (by omega) ho rfl ?_;refine H.Ae (ls:=v11 kv) rfl rfl rfl (by rw [Nat.zero_add];exact hkrd _) rfl rfl ?_;skip;refine H.Ah (ls:=v11 fun _=>0) rfl rfl rfl fun xb=>?_;refine H.Af (ls:=v11 fun _=>0) (vs:=v11 kv) (ls':=v11 kv) rfl rfl rfl (zaa rfl) rfl rfl (Nat.le_refl 11) (by repeat constructor) ?_;refine gH ?_;refine H.Ae (ls:=v11 kv) rfl rfl rfl (Rd.ofRow (by repeat constructor)) rfl rfl ?_;refine qeu ?_;refine H.cl (hatf _) fun v f' A' hr=>?_;obtain ⟨g2,lb,hd2,rfl,rfl,rfl⟩:=hr;have hup:=Le.un f1 g2;have le2:=le1.trans hup
     clear hatf hd2 hkrd;generalize un f1 g2 = f2 at *;have hta2:=tab_mono hta hup;have hBnd:Bnd 80 l0:=fun w hw=>by have:=hDI.L.al w hw;omega
     have hmu0:dMu 80 l0 o pend wish ≤ 165:=by
      have:=dS_le (o:=o) hBnd (pend:=pend) (by omega);unfold dMu
      split <;> omega
     refine gc ?_;refine qeu ?_;refine qdr ?_;refine qdX ?_
     refine H.lo (ι:=Nat × Lgs × (Nat→Int) × Frag) (fun s=>[(16,.int .i64 (s.1:Int)),(14,.pointer (some ⟨lb,0,none⟩)),(13,.pointer (some ⟨xb,0,none⟩)),(12,.int .i64 ((o + 1:Nat):Int)),(11,.pointer (some ⟨wb,0,none⟩)),(10,.bool false),(4,.int .u64 wish),(3,.slice sp pend.length sc)]) (fun s=>s.2.2.2)
      (fun s=>plogH s.2.2.2 lb s.2.1::row xb 36 (v11 s.2.2.1)::row wb 34 (w15C kb n ap ml.length ac lb0)::F) (fun s=>s.1 + dMu 80 s.2.1 o pend wish ≤ 165 ∧ DI n (80 + s.1) s.2.1 s.2.2.1 ∧ dI 80 s.2.1 o wish ∧ Le f2 s.2.2.2) (fun s=>200 - s.1)
      (0,l0,kv,f2) ⟨by show 0 + dMu 80 l0 o pend wish ≤ 165;omega,hDI.mono (by omega),.inl hBnd,Le.refl _⟩ fun s hs=>?_
     obtain ⟨s,l,k,e⟩:=s;obtain ⟨hmu,hD,hI,hle⟩:s + dMu 80 l o pend wish ≤ 165 ∧ DI n (80 + s) l k ∧ dI 80 l o wish ∧ Le f2 e:=hs;show H _ _ _ [(16,.int .i64 (s:Int)),_,_,_,_,_,_,_] e (plogH e lb l::row xb _ (v11 k)::row wb _ _::F) _;have hs200:s < 200:=by omega
     have htae:=tab_mono hta2 hle;have hpee:=hpe.mono (le2.trans hle)
     have hko:0 ≤ k o ∧ k o ≤ 1000:=by have:=hD.L.kn o;rw [hD.kn o (by omega)] at this;omega
     have hnx:=fun G=>dnext_fn e G htae (lb:=lb) (o:=o) (Le.refl e) hD.L (by omega) (by rw [hD.n];exact hodd) (by rw [hD.n];exact ho) (pc:=sc) (wish:=wish) hpee (by omega);rw [hD.n] at hnx
     refine gJ ?_;refine H.cl (hnx _) fun v' f' A' hR=>?_;obtain ⟨g4,p4,c4,hd4,rfl,hq4,rfl,rfl⟩:=hR;have hup4:=Le.un e g4;clear hd4 hnx
     generalize un e g4 = e4 at *;have hta4:=tab_mono htae hup4;have le4:=(le2.trans hle).trans hup4
     have hqlen:=sayX_q l o pend wish (by rw [hD.n];omega)
     cases hsay:sayX l o pend wish with
     | mk b t =>
     rw [hsay] at hq4 hqlen;have hq4:QAt e4 p4 b.q:=hq4;have hqlen:b.q.length ≤ 12:=hqlen
     show H _ _ _ _ _ _ _;refine gW ?_;refine qde fun tb=>?_;refine H.Af (ls:=(Bod.zero 0).vals none 0) (vs:=b.vals p4 c4) (ls':=b.vals p4 c4) rfl rfl rfl (zaa rfl) rfl rfl (Nat.le_refl 76) (by repeat constructor) ?_
     cases t with
     | false =>
      refine gM ?_;refine H.Ag rfl rfl rfl (works19_fn e4 _ hta4) ?_;refine gY ?_;refine qgm ?_;refine H.pd (x:=plogH _ lb _) ?_;refine qhp ?_;refine H.pd (x:=row wb _ _) ?_;refine H.weakL le4 ?_;exact qap
     | true =>
      obtain ⟨m,hm⟩:∃ m:Msg,m = ⟨((o + 1:Nat):Int),k o + 1,k,b,noTag⟩:=⟨_,rfl⟩;have hst:=say_takes (m:=m) (X:=80) (pend:=pend) (wish:=wish) hD (by omega) hodd ho (by omega) hI (by rw [hm]) (by rw [hm]) (fun i _=>by rw [hm]) (by rw [hm,hsay]) (by rw [hsay]);have hmay:=hst.1
      have hbv:b.view < 1073741824:=by
       have:=(Bod.may_spec (Msg.may_body hmay)).2.1;rw [hm] at this
       exact this
      have hbok:b.Ok:=by
       have:=say_ok (pend:=pend) (wish:=wish) hD.L (by omega) (by rw [hD.n];exact ho) hpk (by rw [hsay]) (by rw [hsay];exact hbv);rw [hsay] at this
       exact this
      have hgood:(⟨m,p4,c4⟩:MV).Good e4:=by rw [hm];exact ⟨hq4,by show b.q.length ≤ _;omega,hbok⟩
      have hmsg:=good_signed hgood
      have hmf:∀ G,Fn Tryz.prog 19 [.agg (m.vals p4 c4).toArray] e4 G (Ret (.bool true) e4 G):=fun G=>by
       have:=rmay_fn (m:=m) (qc:=c4) e4 G hgood.1 (by have h2:m.body.q.length ≤ 1000000:=hgood.2.1;omega);rw [show (decide m.outer && m.body.may) = true from hmay] at this
       exact this
      have hsg:=fun G=>rtagged_fn e4 G (m:=m) (q:=p4) (qc:=c4) hgood.1 (by have h2:m.body.q.length ≤ 1000000:=hgood.2.1;omega);have hsig:∃ tg,m.signed = { m with tag:=tg }:=⟨_,by unfold Msg.signed;rw [if_pos hmay]⟩
      generalize m.signed = ms at *;obtain ⟨tg,hms⟩:=hsig;obtain ⟨_,l',htk,hD',hI',hmu'⟩:=say_takes (m:=ms) (X:=80) (pend:=pend) (wish:=wish) hD (by omega) hodd ho (by omega) hI (by rw [hms,hm]) (by rw [hms,hm]) (fun i _=>by rw [hms,hm]) (by rw [hms,hm,hsay]) (by rw [hsay]);have htake:=fun G=>pltakeA_fn e4 G hta4 (lb:=lb) hup4 hD.L (by omega) hD.N (by rw [hD.n];exact hodd) hmsg;have htk':l.take (⟨ms,p4,c4⟩:MV).m = ((true,0),l'):=htk
      rw [htk'] at htake;clear hst hsay;refine gc ?_;refine qfZ ?_;refine qgr ?_;refine HB.qu [0,1,2,3,4,5,6,7,8] 2 ?_;refine gU ?_;refine HQ.Ao (i:=o) rfl rfl rfl (by omega) (by omega) rfl ?_;refine HQ.Ab rfl rfl rfl (by rw [Nat.zero_add,Nat.mul_one];exact Rd1.ofRow (.there _ (.here _ _ _)) (by rw [nthV_eq];exact zba k (i:=o) (by omega))) rfl ?_;refine gU ?_;refine HQ.Ae (ls:=v11 k) rfl rfl rfl (Rd.ofRow (.there _ (.here _ _ _))) rfl rfl ?_;refine HQ.Ae (ls:=b.vals p4 c4) rfl rfl rfl (Rd.ofRow (.here _ _ _)) rfl rfl ?_;refine HQ.Ar (t:=51) (out:=(⟨((o + 1:Nat):Int),k o + 1,k,b,noTag⟩:Msg).vals p4 c4) rfl rfl rfl (by kernel_rfl) rfl ?_;rw [← hm];refine qgR ?_;refine H.Ah (ls:=msgZ.vals none 0) rfl rfl rfl fun mb=>?_;refine gA ?_;refine qfZ ?_;refine qdR ?_;refine HB.ev 10 ?_;refine H.Af (ls:=msgZ.vals none 0) (vs:=m.vals p4 c4) (ls':=m.vals p4 c4) rfl rfl rfl (zaa rfl) rfl rfl (Nat.le_refl 121) (by repeat constructor) ?_;refine gA ?_;refine qfZ ?_;refine qdR ?_;refine HB.dn ?_;refine gA ?_;refine H.Ae (ls:=m.vals p4 c4) rfl rfl rfl (Rd.ofRow (by repeat constructor)) rfl rfl ?_;refine H.cr (hmf _) ?_;refine gc ?_;refine H.Ae (ls:=m.vals p4 c4) rfl rfl rfl (Rd.ofRow (by repeat constructor)) rfl rfl ?_;refine H.cr (hsg _) ?_;refine qdX ?_;refine H.cr (htake _) ?_;refine gc ?_;refine H.Ao (i:=o) rfl rfl rfl (by omega) (by omega) rfl ?_;refine H.Ab rfl rfl rfl (by rw [Nat.zero_add,Nat.mul_one];exact Rd1.ofRow (by repeat constructor) (by rw [nthV_eq];exact zba k (i:=o) (by omega))) rfl ?_;refine gI ?_;refine H.Ao (i:=o) rfl rfl rfl (by omega) (by omega) rfl ?_;refine H.Az (ls':=v11 (updF k o (k o + 1))) rfl rfl rfl rfl (by repeat constructor) (by rw [Nat.zero_add,Nat.mul_one];exact v11_upd k (k o + 1) (by omega)) ?_;refine gV ?_;refine qdC ?_;refine qgm ?_;refine qeu ?_;refine qdr ?_;refine qdX ?_;exact H.ag (s + 1,l',updF k o (k o + 1),e4) ⟨by show s + 1 + dMu 80 l' o pend wish ≤ 165;omega,hD',hI',hle.trans hup4⟩ (by show 200 - (s + 1) < 200 - s;omega)
    ·skip;refine gO ?_;refine H.Ag rfl rfl rfl (works19_fn f _ htab) ?_;refine gY ?_;exact qap
  ·skip;exact qbq
end
end Go.Proofs.YtminmjlfmolfeaaGreatDoor

namespace Go.Proofs.YtminmjlfmolfeaaGreatDoor
open Go Go.ChangeShapes Go.WideShapes Go.RowKit Go.Deep
def FitL (P:Program):List TypeId→List Value→Prop
 | t::ts,v::vs=>(∀ e p l c,P.underlying t = some (.slice e)→v = .slice p l c→l * P.bytesOf e ≤ 140737488351232) ∧ FitL P ts vs
 | [],_=>True
 | _::_,[]=>True
theorem fit_of {H':Type} {enc:TypeId × Value→H'} {P:Program} {W:World} {b:Nat} {sp:Nat→Bool} {hd:Bool} {us:List TypeId} {gs:List (DataW H')}:∀ {ts:List TypeId} {vs:List Value} {ds:List (DataW H')} {ps:List MemPlace},
  DataW.TrodAll enc P W b sp hd ts vs ds ps→(DataW.weightsEach P (ts ++ us) (ds ++ gs)).all (· ≤ reachBytes) = true→FitL P ts vs
 | [],_,_,_,_,_=>trivial
 | _::_,[],_,_,_,_=>trivial
 | t :: ts, v :: vs, d :: ds, _, h, hw => by
  obtain ⟨p,q,⟨n,h1⟩,h2,rfl⟩:=h
  have hw:(d.weights P t ++ DataW.weightsEach P (ts ++ us) (ds ++ gs)).all (· ≤ reachBytes) = true:=by simpa only [List.cons_append,DataW.weightsEach] using hw
  rw [List.all_append,Bool.and_eq_true] at hw
  refine ⟨fun e p l c ht hv=>?_,fit_of h2 hw.2⟩
  subst hv
  rcases DataW.trod_slice ht h1 with ⟨hc,_⟩ | ⟨a,len,cap,elems,rest,n,_,hc,hx,_,_,_,hl,_⟩
  ·simp [Value.cells] at hc
   obtain ⟨_,rfl,_⟩:=hc
   rw [Nat.zero_mul]
   exact Nat.zero_le _
  ·simp [Value.cells] at hc
   obtain ⟨_,rfl,_⟩:=hc
   simp only [Prod.mk.injEq] at hx
   obtain ⟨rfl,_⟩:=hx
   have h3:=hw.1
   simp only [DataW.weights,ht,List.all_cons,Bool.and_eq_true,decide_eq_true_eq,List.length_map] at h3
   have h4:(elems.length + rest.length) * P.bytesOf e ≤ 140737488351232:=h3.1
   have h5:l * P.bytesOf e ≤ (elems.length + rest.length) * P.bytesOf e:=Nat.mul_le_mul_right _ (by omega)
   omega
theorem lawRowW {H':Type} {enc:TypeId × Value→H'} {a:Assume} {C:Checked} {os:Os} {fid:FuncId} {fn:Func} {s:ChangeSpec} {conds:List PathCond} {apart fresh handsOn again:Bool} {tb:TypeId} {laid:List (String × DataW Unit)}
  (own:ownKnob C.prog.godebug = none) (started:os.Started) (noInit:C.prog.inits.idxOf? fid = none) (hfn:C.prog.funcs[fid]? = some fn)
  (witness : ∃ (w : World) (tape : Tape) (i : Input), w.os = os ∧ (w.forCall tape i).Shaped C.prog ∧ i.vars = [] ∧ Input.okWide C.prog (w.forCall tape i) .any w.heap.size fid i ∧
   ((s.pre enc C.prog fn conds apart (w.forCall tape i).memory i.args ∧ laidMetH C.prog laid (w.forCall tape i).memory) ∧ sizedMet enc C.prog fn (OpenSpec.ofChange s) apart (w.forCall tape i).memory i.args) ∧ a.holds C.prog (lone (Frame.enter C.prog fid i.args .normal) [] (w.forCall tape i)))
  (htb:C.prog.underlying tb = some .bool) (hres:fn.resultTypes = #[tb]) (hv:s.vars = []) (hl:laidOutB C.prog = true)
  (hts:fn.params.toList.all (fun t=>C.prog.readableRec t && Nat.blt t C.prog.types.size) = true)
  (hs:∀ ds:List (DataW H'),ds.length = fn.params.toList.length→s.fn H' ds = { results:=[.lit (.bool true)],args:=ds })
  (law:∀ (W:World) (args:List Value),ArgsOk C.prog W fn.params.toList args→FitL C.prog fn.params.toList args→laidMetH C.prog laid W→Fn C.prog fid args (memOf W) [] (Ret (.bool true) (memOf W) [])) :
  ReturnsInHanded a C os fid .any (fun w args=>(s.pre enc C.prog fn conds apart w args ∧ laidMetH C.prog laid w) ∧ sizedMet enc C.prog fn (OpenSpec.ofChange s) apart w args) (s.post enc C.prog fn apart fresh handsOn again):=by
 refine returnsInHanded_of_change_and (X:=fun w _=>laidMetH C.prog laid w) (fun _ _ _ hh h=>h.of_heap hh) own started noInit hfn witness ?_;intro W base args ds gs before hval hW _ hZ hL _;have hW':=hW;obtain ⟨p,q,hA,hV,rfl,_,_⟩:=hW
 rw [hv] at hV;obtain ⟨rfl,rfl⟩:=trodVars_none hV;rw [List.append_nil] at hW'
 have hts':∀ t ∈ fn.params.toList,C.prog.readableRec t = true ∧ t < C.prog.types.size:=fun t ht=>by
  have:=List.all_eq_true.1 hts t ht;simp only [Bool.and_eq_true] at this
  exact ⟨this.1,by have:=this.2;simpa [Nat.blt_eq] using this⟩
 have hlen:=trodAll_len hA;have e:=hs ds hlen
 have hc:=law W args.toList (argsOk_of hA fun j t v h1 h2=>⟨base,hval j t v (by simpa using h1) (by simpa using h2)⟩) (fit_of hA hZ) hL W W (sat_start W);refine hc.mono ?_
 rintro x w' ⟨v,f',A',rfl,⟨rfl,rfl,rfl⟩,hsat⟩;refine ⟨_,rfl,post_own hW' hv hA hl hts' ?_ (by rw [List.append_nil,e]) (by rw [List.append_nil,e]) hsat.below ?_⟩
 ·intro b sp hd;rw [List.append_nil,e,hres];exact trodAll_mk1 (shut_bool htb true)
 ·exact ok_one hres rfl (okWide_bool_mk htb true)
theorem and_t {a b:Bool} (ha:a = true) (hb:b = true):(a && b) = true:=by rw [ha,hb];rfl
theorem Tryz.own:ownKnob Tryz.prog.godebug = none:=by kernel_rfl
theorem Tryz.laidOut:laidOutB Tryz.prog = true:=by kernel_rfl
abbrev laidL : List (String × DataW Unit) := [("ratchet/sha.table", Rows.laid_ratchet_sha_table)]
theorem door_met (os:Os) (args:Array Value):laidMetH Tryz.prog laidL ((World.doorLaid Tryz.prog 400 os).forCall (fun _ _=>0) ⟨#[],args,[]⟩).memory:=
 laidMetH_of_parts3 (fuel:=8) (laidMet_of_run' 8 (by kernel_rfl) (by kernel_rfl)) (by kernel_rfl) (by kernel_rfl)
theorem tab_eq:(Rows.laid_ratchet_sha_table:DataW Unit) = .agg ((Sha.k.map fun x=>((x.toNat:Nat):Int)).map fun z=>.lit (.int .u32 z)):=by kernel_rfl
theorem tab_of {W:World} (h:laidMetH Tryz.prog laidL W):TabAt (memOf W):=by
 have h2 : laidMetH Tryz.prog [("ratchet/sha.table", .agg ((Sha.k.map fun x => ((x.toNat : Nat) : Int)).map fun z => .lit (.int .u32 z)))] W := by rw [← tab_eq]; exact h
 exact laid_ints h2 (by kernel_rfl) (by kernel_rfl) (t:=293) (e:=245) Tryz.underlying293 Tryz.underlying245 (by kernel_rfl)
end Go.Proofs.YtminmjlfmolfeaaGreatDoor
