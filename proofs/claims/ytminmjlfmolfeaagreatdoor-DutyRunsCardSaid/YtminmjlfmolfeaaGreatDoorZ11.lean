/- Parts of the proof, one behind the other, each under its own heading. No conditions. -/
import Derived.Test.YtminmjlfmolfeaaGreatDoorZ10
import Derived.Test.YtminmjlfmolfeaaGreatDoorRows
import Derived.Test.YtminmjlfmolfeaaGreatDoorCards
import Derived.Test.YtminmjlfmolfeaaGreatDoorTie
set_option linter.unusedSectionVars false
set_option linter.unusedSimpArgs false
set_option linter.unusedVariables false
/- Layer 15, plain: the logs that take a world's messages in another order. No program in sight; no conditions. -/
set_option maxHeartbeats 6400000
set_option maxRecDepth 20000
namespace Go.Proofs.YtminmjlfmolfeaaGreatDoor
open Go
theorem stF_lgsOf (n:Nat):∀ (l:List Msg) (L:Lgs),stF L l = l.foldl (fun L m=>(L.take m).2) L
 | [],_=>rfl
 | m::l,L=>stF_lgsOf n l _
variable {n:Nat}
theorem world_rdy {all:List Msg} (hW:WOK n all) (hv:∀ m ∈ all,0 ≤ m.body.view) {i:Nat} {m:Msg} (hm:all[i]? = some m):Rdy (lgsOf n (all.take i)) m:=by
 have hi:=(List.getElem?_eq_some_iff.1 hm).1;have h:=hW i m hm
 have hf:=h.fits;unfold fitsB at hf
 simp only [Bool.and_eq_true] at hf;obtain ⟨h1,h2,h3,_⟩:=hf;have hk:=lgsOf_known hW i (by omega);refine ⟨h1,by rw [lgsOf_n];exact of_decide_eq_true h2,by rw [lgsOf_n];exact h3,hv m (List.mem_of_getElem? hm),?_,fun k hk2=>?_⟩
 ·rw [hk,h.num];show ((cnt _ (orgI m) + 1:Nat):Int) = ((cnt _ (orgI m):Nat):Int) + 1;omega
 ·rw [hk];exact (h.dep k hk2).2
theorem world_run {n:Nat} {all:List Msg} (hW:WOK n all) (hv:∀ m ∈ all,0 ≤ m.body.view):∀ i,i ≤ all.length→RunF (Lgs.new n) (all.take i)
 | 0,_=>by rw [List.take_zero];exact trivial
 | i + 1, hi => by
  obtain ⟨m,hm⟩:∃ m,all[i]? = some m:=⟨_,List.getElem?_eq_getElem (by omega)⟩
  rw [zbk hm]
  refine RunF.app.2 ⟨world_run hW hv i (by omega),?_,trivial⟩
  rw [stF_lgsOf n]
  exact world_rdy hW hv hm
theorem DS.world {all:List Msg} (hW:WOK n all) (hv:∀ m ∈ all,0 ≤ m.body.view) (h3:3 ≤ n) (h11:n ≤ 11):DS (lgsOf n all):=by
 have hr:=world_run hW hv all.length (Nat.le_refl _);rw [List.take_length] at hr
 have:=DS.run (DS.new h3 h11) hr;rwa [stF_lgsOf n] at this
theorem cnt_take_le (all:List Msg) (j i:Nat):cnt (all.take j) i ≤ cnt all i:=by
 have:=cnt_app (all.take j) (all.drop j) i;rw [List.take_append_drop] at this
 omega
theorem num_le_cnt {all:List Msg} (hW:WOK n all) {x:Msg} (hx:x ∈ all):x.number ≤ ((cnt all (orgI x):Nat):Int):=by
 obtain ⟨j,hj⟩:=List.getElem?_of_mem hx;have h1:=(hW j x hj).num;have h2:=cnt_take_le all (j + 1) (orgI x)
 rw [zbk hj,cnt_snoc,if_pos rfl] at h2;omega
theorem KOK.full {all:List Msg} (hW:WOK n all) (h3:3 ≤ n) (h11:n ≤ 11) (hv:∀ m ∈ all,0 ≤ m.body.view):KOK n all fun i=>((cnt all i:Nat):Int):=
 ⟨hW, h3, h11, hv, fun i => by show (0 : Int) ≤ ((cnt all i : Nat) : Int); omega, fun x hx _ i hi => by
  obtain ⟨j,hj⟩:=List.getElem?_of_mem hx
  have h1:=((hW j x hj).dep i hi).2
  have h2:=cnt_take_le all j i
  show _ ≤ ((cnt all i:Nat):Int)
  omega⟩
theorem sub_full {all:List Msg} (hW:WOK n all):sub (fun i=>((cnt all i:Nat):Int)) all = all:=by
 unfold sub;rw [List.filter_eq_self];exact fun x hx=>decide_eq_true (num_le_cnt hW hx)
theorem PVI.run:∀ {a:List Msg} {L:Lgs},(∃ T,LI L T)→PVI L→RunF L a→PVI (stF L a)
 | [],_,_,h,_=>h
 | m :: a, L, ⟨T, hL⟩, h, hr => by
  have h1:PVI (L.take m).2:=by rw [hr.1.take];exact PVI.counts hL h hr.1.min
  exact PVI.run (a:=a) (L:=(L.take m).2) ⟨T + 1,hL.take hr.1.v⟩ h1 hr.2
theorem PVI.world {all:List Msg} (hW:WOK n all) (hv:∀ m ∈ all,0 ≤ m.body.view) (h3:3 ≤ n) (h11:n ≤ 11):PVI (lgsOf n all):=by
 have hr:=world_run hW hv all.length (Nat.le_refl _);rw [List.take_length] at hr
 have:=PVI.run ⟨0,LI.new h3 h11⟩ (PVI.new n) hr;rwa [stF_lgsOf n] at this
structure WG (n:Nat) (W:W15) (T:Nat):Prop where
 l:W.l = lgsOf n W.w.all
 g:∀ r,(W.l.past r).g ≤ 5 + 2 * (T:Int)
 v:∀ m ∈ W.w.all,0 ≤ m.body.view
variable {l:Lgs} {T:Nat}
theorem take_g (hL:LI l T) (m:Msg) (r:Nat):((l.take m).2.past r).g = (l.past r).g ∨ ((l.take m).2.past r).g = m.body.view:=by
 have hc:(((l.counts m).2).past r).g = (l.past r).g ∨ (((l.counts m).2).past r).g = m.body.view:=by
  rw [counts_eff hL.rise]
  have up:∀ {p:PM},(p.g = (l.past (orgI m)).g ∨ p.g = m.body.view)→(updF l.past (orgI m) p r).g = (l.past r).g ∨ (updF l.past (orgI m) p r).g = m.body.view:=fun {p} h=>by
   by_cases e:r = orgI m
   ·subst e;rw [zae];exact h
   ·rw [zaq _ _ e];exact .inl rfl
  cases he:l.eff m with
  | none=>exact .inl rfl
  | some e =>
   rcases eff_all he with rfl | rfl | ⟨_,_,_,hok,rfl⟩ | ⟨w,_,hok,rfl⟩ | ⟨hok,_,rfl⟩ | ⟨hok,_,rfl⟩
   ·exact .inl rfl
   ·refine up (?_:_ ∨ _);unfold PM.change;split
    ·exact .inr rfl
    ·exact .inl rfl
   ·exact up (.inr (by unfold PM.enter;rw [if_pos hok]))
   ·exact up (.inr (by unfold PM.enter;rw [if_pos hok]))
   ·exact up (.inl rfl)
   ·exact up (.inl rfl)
 unfold Lgs.take;split
 ·exact .inl rfl
 ·split
  ·exact .inl rfl
  ·exact hc
theorem A15.view_le {W:W15} (h:WI n W T) (hg:∀ r,(W.l.past r).g ≤ 5 + 2 * (T:Int)) {o:Nat} (ho:o < n) (x:A15):(x.bod W n o).view ≤ 5 + 2 * ((T:Int) + 1):=by
 have hgo:=hg o;have hg0:=(h.l.wf o (by rw [h.n];exact ho)).g0
 have hlv:lastV W.l.vs ≤ 5 + 2 * (T:Int):=by
  unfold lastV
  cases e:W.l.vs[W.l.vs.length - 1]? with
  | none=>show (0:Int) ≤ _;omega
  | some w =>
   have hw:=List.mem_of_getElem? e;show w.v ≤ _
   by_cases h0:w.v = 0
   ·omega
   ·have hr:primI W.l.n w.v < W.l.n:=primI_lt (by have:=h.l.n3;omega) _;obtain ⟨p,hp,e1⟩:=h.l.begun w hw h0
    have h1:=(h.l.wf _ hr).mem_le hp;have h2:=(h.l.wf _ hr).top
    have h3:=hg (primI W.l.n w.v);omega
 have hf:∀ z:Int,z ≤ 5 + 2 * ((T:Int) + 1)→fix1 z ≤ 5 + 2 * ((T:Int) + 1):=fun z hz=>by unfold fix1;split <;> omega
 have hx:(((x.view.toNat % 6:Nat)):Int) ≤ 5:=by omega
 unfold A15.bod;generalize x.kind.toNat % 6 = j
 match j with
 | 0=>show (if x.raw then _ else _:Int) ≤ _;split <;> omega
 | 1=>show (if x.raw then _ else _:Int) ≤ _;split <;> omega
 | 2=>exact hf _ (by split <;> omega)
 | 3=>exact hf _ (by split <;> omega)
 | 4=>exact hf _ (by split <;> omega)
 | j + 5=>show (0:Int) ≤ _;omega
theorem WG.act {n T:Nat} {W:W15} (hW:WI n W T) (h:WG n W T) (h3:3 ≤ n) (hT:T ≤ 1000) (x:A15):WG n (W.act n x) (T + 1):=by
 have ho:x.who.toNat % n < n:=Nat.mod_lt _ (by omega);have hmono:∀ r,(W.l.past r).g ≤ 5 + 2 * ((T + 1:Nat):Int):=fun r=>by have:=h.g r;omega
 unfold W15.act;split
 ·exact ⟨h.l,hmono,h.v⟩
 ·split
  ·obtain ⟨e1,e2,e3,e4⟩:=(W.next n (x.who.toNat % n) x).signed_parts;have hb:=A15.view_le hW h.g ho x;have hb0:=(A15.bod_ok hW hT ho x).1.1
   have hbe:(W.next n (x.who.toNat % n) x).signed.body = x.bod W n (x.who.toNat % n):=e4;refine ⟨?_,fun r=>?_,fun m hm=>?_⟩
   ·show (W.l.take _).2 = lgsOf n (W.w.all ++ [_]);rw [lgsOf_snoc,← h.l]
   ·rcases take_g hW.l (W.next n (x.who.toNat % n) x).signed r with e | e
    ·show ((W.l.take _).2.past r).g ≤ _;rw [e];exact hmono r
    ·show ((W.l.take _).2.past r).g ≤ _;rw [e,hbe];have e5:((T + 1:Nat):Int) = (T:Int) + 1:=by omega
     rw [e5];exact hb
   ·rcases List.mem_append.1 (show m ∈ W.w.all ++ [_] from hm) with hm | hm
    ·exact h.v m hm
    ·rw [List.mem_singleton.1 hm,hbe];exact hb0
  ·exact ⟨h.l,hmono,h.v⟩
theorem WG.zero (n:Nat):WG n (W15.zero n) 0:=⟨rfl,fun r=>by show (0:Int) ≤ _;omega,fun m hm=>by cases hm⟩
theorem world15_WG {n:Nat} (h3:3 ≤ n) (h11:n ≤ 11) (l:List A15):∀ k,k ≤ 1000→WG n (world15 n (l.take k)) k
 | 0,_=>WG.zero n
 | k + 1, hk => by
  have ih:=world15_WG h3 h11 l k (by omega)
  have iw:=world15_inv h3 h11 l k (by omega)
  cases h:l[k]? with
  | none =>
   have e:l.take (k + 1) = l.take k:=by rw [List.take_add_one,h];simp
   rw [e]
   exact ⟨ih.l,fun r=>by have:=ih.g r;omega,ih.v⟩
  | some x =>
   rw [zbk h,world15_snoc]
   exact WG.act iw ih h3 (by omega) x
theorem world15_g (h3:3 ≤ n) (h11:n ≤ 11) (l:List A15) (hl:l.length ≤ 1000):∀ r,dyG (lgsOf n (world15 n l).w.all) r ≤ 5 + 2 * (l.length:Int):=fun r=>by
 have h:=world15_WG h3 h11 l l.length hl
 rw [List.take_length] at h
 have h2:=h.g r
 rw [h.l] at h2
 exact h2
theorem world15_v (h3:3 ≤ n) (h11:n ≤ 11) (l:List A15) (hl:l.length ≤ 1000):∀ m ∈ (world15 n l).w.all,0 ≤ m.body.view:=by
 have h:=world15_WG h3 h11 l l.length hl;rw [List.take_length] at h
 exact h.v
def r7u:Req:={ Req.zero with client:=7,time:=3,kind:=2,key:=⟨#[113]⟩,val:=⟨#[49]⟩ }
theorem r7_asked:r7u.asked:=by decide +kernel
def r7:Req:=r7u.signed
theorem r7_auth:r7.auth = true:=(signed_auth r7_asked).1
theorem r7_name:r7.client = 7 ∧ r7.time = 3:=by
 unfold r7 Req.signed;exact qcw
theorem r7_ok:r7.Ok:=signed_ok (by unfold Req.Ok;decide)
def mxG (l:Lgs):Nat→Int
 | 0=>0
 | k + 1=>if mxG l k < dyG l k then dyG l k else mxG l k
theorem mxG_ge (l:Lgs):∀ k r,r < k→dyG l r ≤ mxG l k
 | 0,r,h=>by omega
 | k + 1, r, h => by
  have ih:=mxG_ge l k r
  unfold mxG
  by_cases e:r = k
  ·subst e;split <;> omega
  ·have:=ih (by omega);split <;> omega
theorem mxG_le {l:Lgs} {B:Int} (h0:0 ≤ B) (h:∀ r,dyG l r ≤ B):∀ k,0 ≤ mxG l k ∧ mxG l k ≤ B
 | 0=>⟨Int.le_refl _,h0⟩
 | k + 1 => by
  have ih:=mxG_le h0 h k
  have:=h k
  unfold mxG
  split <;> omega
theorem RI.new {W:Int} {q:Req} (hL:LI l T) (hD:DS l) (hP:PVI l) (h0:0 < W) (hg:∀ r,r < l.n→dyG l r < W):RI W q l:=by
 refine ⟨hD,hP,fun r hr=>Int.le_of_lt (hg r hr),fun r hr e=>?_,fun w hw=>?_⟩
 ·have:=hg r hr;omega
 ·exfalso;obtain ⟨h1,h2⟩:=vw_v hw;have hr:primI l.n w.v < l.n:=primI_lt (by have:=hL.n3;omega) _;obtain ⟨p,hp,e1⟩:=hL.begun w h2 (by omega)
  have h3:=(hL.wf _ hr).mem_le hp;have h4:=(hL.wf _ hr).top
  have h5:=hg _ hr;have h5:(l.past (primI l.n w.v)).g < W:=h5
  omega
structure DR (n:Nat) (W:Int) (q:Req) (l:Lgs) (k:Nat→Int) (T said:Nat):Prop where
 r:RI W q l
 d:DI n T l k
 t:T + mT l W q ≤ 105
 s:said = 0→∃ o,o < n ∧ dyG l o < W
 m:said + mT l W q ≤ 45
section
variable (f:Frag) (F:List HP)
theorem dutyRuns_fn (htab:TabAt f) {n8 m8:UInt8} {p:Option Addr} {c:Nat} {xs:List A15} (hat:ListAt f p 12 A15.vals xs) (hh:∀ x ∈ xs,x.Has f) (hxl:xs.length ≤ 9223372036854775807) :
  Fn Tryz.prog 4 [.int .u8 (n8.toNat:Nat),.slice p xs.length c,.int .u8 (m8.toNat:Nat)] f F (Ret (.bool true) f F):=by
 have hfew:=few15_fn f F (c:=c) hat hxl
 cases hf:few15 xs with
 | false =>
  rw [hf] at hfew;refine Fn.e3 Tryz.func4 Tryz.ntmps4 fun base=>?_;refine qge ?_;refine gg ?_;refine H.Ag rfl rfl rfl (works19_fn f _ htab) ?_;refine gZ ?_;exact qap
 | true =>
  rw [hf] at hfew;obtain ⟨hl100,hq20⟩:=few15_all hf;by_cases h60:xs.length ≤ 60
  ·skip;refine Fn.e3 Tryz.func4 Tryz.ntmps4 fun base => ?_;refine qge ?_;refine gQ ?_;obtain ⟨N8, hN8⟩ : ∃ N8 : UInt8, N8.toNat = n8.toNat % 3 := ⟨n8 % 3, UInt8.toNat_mod n8 3⟩;obtain ⟨n, hn8⟩ : ∃ n, n = 3 + 2 * (N8.toNat % 5) := ⟨_, rfl⟩; have hn3 : 3 ≤ n ∧ n ≤ 11 := by omega
   have hodd:n % 2 = 1:=by omega
   have hm8:=m8.toNat_lt;have hacts:=fun G=>acts15_fn f G hn8 (c:=c) hat (fun x hx=>⟨hh x hx,hq20 x hx⟩) hl100
   have hinv:WI n (world15 n xs) xs.length:=by have:=world15_inv hn3.1 hn3.2 xs xs.length (by omega);rwa [List.take_length] at this
   have hwl:(world15 n xs).w.all.length ≤ 60:=by have:=world15_len n xs xs.length;rw [List.take_length] at this;omega
   have hgl:=world15_g hn3.1 hn3.2 xs (by omega);have hvv:=world15_v hn3.1 hn3.2 xs (by omega)
   generalize world15 n xs = W15' at *;refine H.rem (z:=((N8.toNat:Nat):Int)) rfl rfl rfl (by decide) (by rw [hN8];exact zat (a:=n8.toNat) (b:=3) rfl) rfl ?_;refine gL ?_;refine H.cl (hacts _) fun v f' A' hr=>?_;obtain ⟨g,wb,rfl,hd,rfl,rfl⟩:=hr;have le0:=Le.un f g;generalize un f g = f0 at *
   refine H.world15 fun g1 kb ap ac lb0 ml hd1 hwat=>?_;have le1:=le0.trans (Le.un f0 g1);generalize un f0 g1 = f1 at *
   have hta:=tab_mono htab le1;clear hacts hfew hd hd1
   have hK:=KOK.full hinv.w.ok hn3.1 hn3.2 hvv;have hDI:=hK.di fun i=>Int.le_refl _
   have hsf:=sub_full hinv.w.ok;have hDS:=DS.world hinv.w.ok hvv hn3.1 hn3.2
   have hPV:=PVI.world hinv.w.ok hvv hn3.1 hn3.2;have hatf:=fun G=>at16_fn f1 G hta hn8 (ac:=ac) (lb0:=lb0) (wb:=wb) hwat hK (by omega)
   unfold AtP at hatf
   have hfull:(fun i=>if i < n then ((cnt W15'.w.all i:Nat):Int) else W15'.w.kv 0 i) = fun i=>((cnt W15'.w.all i:Nat):Int):=by
    funext i;by_cases hi:i < n
    ·rw [if_pos hi]
    ·rw [if_neg hi];have h1:=(hinv.w.knw 0 (by omega)).le i;have h2:=hinv.w.ok.cnt_zero (i:=i) (by omega)
     omega
   have hown:=fun i (hi:i < n)=>hinv.w.own i hi;have hkrd:=fun G i (hi:i < n)=>hwat.k.rd G hi
   rw [hsf] at hatf hDI;generalize lgsOf n W15'.w.all = l0 at *;generalize hT0:W15'.w.all.length = T0 at *;clear hK hsf hvv;have hln:l0.n = n:=hDI.n;have hgl0:=fun r=>Int.le_trans (hgl r) (show (5:Int) + 2 * (xs.length:Int) ≤ 125 by omega)
   have hmx:=mxG_le (by decide) hgl0 n;have hmg:=mxG_ge l0 n
   clear hgl hgl0;generalize hkv0:W15'.w.kv 0 = kv0 at *;refine gH ?_;refine H.Ak (i:=0) rfl rfl rfl rfl (by omega) rfl ?_;refine H.Ae (ls:=v11 kv0) rfl rfl rfl (by rw [Nat.zero_add,← hkv0];exact hkrd _ 0 (by omega)) rfl rfl ?_;refine H.Ah (ls:=v11 fun _=>0) rfl rfl rfl fun xb=>?_;refine H.Af (ls:=v11 fun _=>0) (vs:=v11 kv0) (ls':=v11 kv0) rfl rfl rfl (zaa rfl) rfl rfl (Nat.le_refl 11) (by repeat constructor) ?_;refine gZ ?_
   refine H.loop (ι:=Nat) (fun i=>[(11,.int .i64 (i:Int)),(10,.int .u64 0),(9,.pointer (some ⟨xb,0,none⟩)),(8,.int .i64 (n:Int)),(7,.pointer (some ⟨wb,0,none⟩)),(2,.int .u8 (m8.toNat:Nat))]) (fun _=>f1)
    (fun i=>row xb 36 (v11 fun t=>if t < i then ((cnt W15'.w.all t:Nat):Int) else kv0 t)::row wb 34 (w15C kb n ap ml.length ac lb0)::F) (fun i=>i ≤ n) (fun i=>n - i)
    0 (Nat.zero_le _) ⟨rfl,rfl,rfl,rfl,rfl,rfl,trivial⟩ rfl (by rw [show (fun t=>if t < 0 then ((cnt W15'.w.all t:Nat):Int) else kv0 t) = kv0 from by funext t;rw [if_neg (by omega)]]) fun i hi=>?_
   have hi:i ≤ n:=hi;by_cases hin:i < n
   ·have hup:updF (fun t=>if t < i then ((cnt W15'.w.all t:Nat):Int) else kv0 t) i ((cnt W15'.w.all i:Nat):Int) = fun t=>if t < i + 1 then ((cnt W15'.w.all t:Nat):Int) else kv0 t:=by
     funext t;by_cases e:t = i
     ·subst e;rw [zae,if_pos (by omega)]
     ·rw [zaq _ _ e];by_cases e2:t < i
      ·rw [if_pos e2,if_pos (by omega)]
      ·rw [if_neg e2,if_neg (by omega)]
    have hki:=fun G=>hkrd G i hin;have hoi:=hown i hin
    have hset:=v11_upd (fun t=>if t < i then ((cnt W15'.w.all t:Nat):Int) else kv0 t) ((cnt W15'.w.all i:Nat):Int) (k:=i) (by omega);rw [hup] at hset
    refine gM ?_;refine H.Ak (i:=i) rfl rfl rfl rfl (by omega) rfl ?_;refine H.Am (i:=i) rfl rfl rfl rfl (by omega) rfl ?_;refine H.Ab rfl rfl rfl (by rw [Nat.zero_add,Nat.mul_one];exact Rd1.of (i:=i) (hki _) (by rw [zay _ (by omega),hoi])) rfl ?_;refine H.Am (i:=i) rfl rfl rfl rfl (by omega) rfl ?_;refine H.Az rfl rfl rfl rfl (by repeat constructor) (by rw [Nat.zero_add,Nat.mul_one];exact hset) ?_;refine gX ?_;exact H.ag (i + 1) (by show i + 1 ≤ n;omega) (by show n - (i + 1) < n - i;omega)
   ·have e:i = n:=by omega
    subst e;rw [hfull];clear hkrd hown hfull;generalize (fun i=>((cnt W15'.w.all i:Nat):Int)) = kf at *;refine gF ?_;refine H.Ae (ls:=v11 kf) rfl rfl rfl (Rd.ofRow (by repeat constructor)) rfl rfl ?_;refine qew ?_;refine H.cl (hatf _) fun v f' A' hr=>?_;obtain ⟨g2,lb,hd2,rfl,rfl,rfl⟩:=hr;have hup:=Le.un f1 g2;have le2:=le1.trans hup
    clear hatf hd2;generalize un f1 g2 = f2 at *;have hta2:=tab_mono hta hup;subst hln
    refine gV ?_;refine qdO ?_
    refine H.lo (ι:=Nat) (fun k=>[(14,.int .i64 ((k + 1:Nat):Int)),(12,.pointer (some ⟨lb,0,none⟩)),(10,.int .u64 (mxG l0 k)),(9,.pointer (some ⟨xb,0,none⟩)),(8,.int .i64 (l0.n:Int)),(2,.int .u8 (m8.toNat:Nat))]) (fun _=>f2)
     (fun _=>plogH f2 lb l0::row wb 34 (w15C kb l0.n ap ml.length ac lb0)::row xb 36 (v11 kf)::F) (fun k=>k ≤ l0.n) (fun k=>l0.n - k)
     0 (Nat.zero_le _) fun k hk=>?_
    have hk:k ≤ l0.n:=hk;by_cases hkn:k < l0.n
    ·have hgr:=fun G=>plgreat_fn f2 G (Le.refl f2) (lb:=lb) (l:=l0) (by omega) (o:=k) hkn (r:=((k + 1:Nat):Int)) rfl;have hgr:∀ G,Fn Tryz.prog 22 [.pointer (some ⟨lb,0,none⟩),.int .i64 ((k + 1:Nat):Int)] f2 (plogH f2 lb l0::G) (Ret (.int .u64 (dyG l0 k)) f2 (plogH f2 lb l0::G)):=hgr
     refine gI ?_;refine H.cr (hgr _) ?_;refine H.max2 (z:=mxG l0 (k + 1)) rfl rfl rfl rfl rfl ?_;refine gX ?_;exact H.ag (k + 1) (by show k + 1 ≤ l0.n;omega) (by show l0.n - (k + 1) < l0.n - k;omega)
    ·have e:k = l0.n:=by omega
     subst e;obtain ⟨W,hWe⟩:∃ W,W = mxG l0 l0.n + (1 + ((m8.toNat % 3:Nat):Int)):=⟨_,rfl⟩;have hW0:0 < W:=by omega
     have hWm:W < 1073741824:=by omega
     have hRI:RI W r7 l0:=RI.new hDI.L hDS hPV hW0 fun r hr=>by have:=hmg r hr;omega
     have hDR:DR l0.n W r7 l0 kf T0 0:=⟨hRI,hDI,by have:=hRI.mT_le hDI.L;omega,fun _=>⟨0,by omega,by have:=hmg 0 (by omega);omega⟩,by have:=hRI.mT_le hDI.L;omega⟩;have hsg:=fun e G=>rsigned_fn e G r7u
     have hr7:r7u.signed = r7:=by unfold r7;rfl
     rw [hr7] at hsg;have hqa:=r7_auth;have hqn:=r7_name
     have hqo:=r7_ok;clear hRI hr7
     generalize r7 = q at *;generalize mxG l0 l0.n = mx at *;refine gF ?_;refine H.rem (z:=((m8.toNat % 3:Nat):Int)) rfl rfl rfl (by decide) (zat (a:=m8.toNat) (b:=3) rfl) rfl ?_;refine gS ?_;rw [← hWe];skip;refine H.cr (hsg _ _) ?_;refine qep fun qb=>?_;refine H.Af (ls:=Req.zero.vals) (vs:=q.vals) (ls':=q.vals) rfl rfl rfl (zaa rfl) rfl rfl (Nat.le_refl 40) (by repeat constructor) ?_;clear hsg;refine gZ ?_;refine qhv ?_
     refine H.lo (ι:=Nat × Nat × Lgs × (Nat→Int) × Frag) (fun s=>[(17,.int .i64 (s.1:Int)),(16,.int .i64 (s.2.1:Int)),(15,.pointer (some ⟨qb,0,none⟩)),(12,.pointer (some ⟨lb,0,none⟩)),(10,.int .u64 W),(9,.pointer (some ⟨xb,0,none⟩)),(8,.int .i64 (l0.n:Int))]) (fun s=>s.2.2.2.2)
      (fun s=>plogH s.2.2.2.2 lb s.2.2.1::row xb 36 (v11 s.2.2.2.1)::row qb 44 q.vals::row wb 34 (w15C kb l0.n ap ml.length ac lb0)::F)
      (fun s=>(∃ T,DR l0.n W q s.2.2.1 s.2.2.2.1 T s.2.1) ∧ s.1 + mT s.2.2.1 W q ≤ 45 ∧ Le f2 s.2.2.2.2) (fun s=>400 - s.1)
      (0,0,l0,kf,f2) ⟨⟨T0,hDR⟩,by have:=hDR.m;show 0 + mT l0 W q ≤ 45;omega,Le.refl _⟩ fun s hs=>?_
     clear hDR hDI hDS hPV hmg;obtain ⟨rd,said,l,k,e⟩:=s;obtain ⟨⟨T,hR⟩,hrm,hle⟩:(∃ T,DR l0.n W q l k T said) ∧ rd + mT l W q ≤ 45 ∧ Le f2 e:=hs;show H _ _ _ [(17,.int .i64 (rd:Int)),(16,.int .i64 (said:Int)),_,_,_,_,_] e (plogH e lb l::row xb _ (v11 k)::row qb _ q.vals::row wb _ _::F) _;refine gI ?_
     refine H.lo (ι:=Nat × Bool × Nat × Lgs × (Nat→Int) × Frag) (fun s=>[(19,.int .i64 ((s.1 + 1:Nat):Int)),(18,.bool s.2.1),(17,.int .i64 (rd:Int)),(16,.int .i64 (s.2.2.1:Int)),(15,.pointer (some ⟨qb,0,none⟩)),(12,.pointer (some ⟨lb,0,none⟩)),(10,.int .u64 W),(9,.pointer (some ⟨xb,0,none⟩)),(8,.int .i64 (l0.n:Int))]) (fun s=>s.2.2.2.2.2)
      (fun s=>plogH s.2.2.2.2.2 lb s.2.2.2.1::row xb 36 (v11 s.2.2.2.2.1)::row qb 44 q.vals::row wb 34 (w15C kb l0.n ap ml.length ac lb0)::F)
      (fun s=>s.1 ≤ l0.n ∧ (∃ T,DR l0.n W q s.2.2.2.1 s.2.2.2.2.1 T s.2.2.1) ∧ (if s.2.1 = true then rd + mT s.2.2.2.1 W q ≤ 45 ∧ ∀ o,o < s.1→(sayX s.2.2.2.1 o [q] W).2 = false else rd + 1 + mT s.2.2.2.1 W q ≤ 45) ∧ Le f2 s.2.2.2.2.2) (fun s=>l0.n - s.1)
      (0,true,said,l,k,e) ⟨Nat.zero_le _,⟨T,hR⟩,⟨hrm,fun o h=>by omega⟩,hle⟩ fun s hs=>?_
     clear hR hle hrm;obtain ⟨i,quiet,said,l,k,e⟩:=s;obtain ⟨hi,⟨T,hR⟩,hqt,hle⟩:i ≤ l0.n ∧ (∃ T,DR l0.n W q l k T said) ∧ (if quiet = true then rd + mT l W q ≤ 45 ∧ ∀ o,o < i→(sayX l o [q] W).2 = false else rd + 1 + mT l W q ≤ 45) ∧ Le f2 e:=hs;show H _ _ _ [(19,.int .i64 ((i + 1:Nat):Int)),(18,.bool quiet),_,(16,.int .i64 (said:Int)),_,_,_,_,_] e (plogH e lb l::row xb _ (v11 k)::row qb _ q.vals::row wb _ _::F) _;have hD:=hR.d;have hdn:=hD.n
     have hTT:=hR.t;have hsm:=hR.m
     have htae:=tab_mono hta2 hle;by_cases hin:i < l0.n
     ·have hki:0 ≤ k i ∧ k i ≤ 1000:=by have:=hD.L.kn i;rw [hD.kn i (by omega)] at this;omega
      refine gI ?_;refine H.Ae (ls:=q.vals) rfl rfl rfl (Rd.ofRow (by repeat constructor)) rfl rfl ?_;refine H.Ar (out:=q.vals) rfl rfl rfl rfl (by decide) (by decide) rfl rfl fun eb=>?_;refine qhe fun ga hga hda=>?_;have hpa:ListAt (un e ga) (some ⟨eb,0,none⟩) 40 Req.vals [q]:=(zbs (vals:=Req.vals) (xs:=[q]) Req.len hga).mono (Le.right hda);have hup3:=Le.un e ga
      clear hga hda;generalize un e ga = e3 at *;have hnx:=fun G=>dnext_fn e3 G (tab_mono htae hup3) (lb:=lb) (o:=i) hup3 hD.L (by omega) (by rw [hdn];exact hodd) (by rw [hdn];exact hin) (pc:=1) (wish:=W) hpa (show 1 ≤ 1000000 by decide);rw [hdn] at hnx
      refine gL ?_;refine qdO ?_;refine H.cl (hnx _) fun v' f' A' hR'=>?_;obtain ⟨g4,p4,c4,hd4,rfl,hq4,rfl,rfl⟩:=hR';have hup4:=hup3.trans (Le.un e3 g4);clear hd4 hnx hpa hup3
      generalize un e3 g4 = e4 at *;have hta4:=tab_mono htae hup4;have le4:=hle.trans hup4
      have hqlen:=sayX_q l i [q] W (by rw [hdn];omega)
      cases hsay:sayX l i [q] W with
      | mk b t =>
      rw [hsay] at hq4 hqlen;have hq4:QAt e4 p4 b.q:=hq4;have hqlen:b.q.length ≤ 12:=hqlen
      show H _ _ _ _ _ _ _;refine gV ?_;refine qdf fun tb=>?_;refine H.Af (ls:=(Bod.zero 0).vals none 0) (vs:=b.vals p4 c4) (ls':=b.vals p4 c4) rfl rfl rfl (zaa rfl) rfl rfl (Nat.le_refl 76) (by repeat constructor) ?_
      cases t with
      | false =>
       refine gJ ?_;refine qgp ?_;refine H.weakL hup4 ?_;refine qew ?_;refine qhv ?_
       exact H.Ax (i + 1,quiet,said,l,k,e) ⟨by show i + 1 ≤ l0.n;omega,⟨T,hR⟩,(by
        cases quiet with
        | false=>exact hqt
        | true =>
         refine ⟨hqt.1,fun o ho=>?_⟩;by_cases eo:o = i
         ·subst eo;rw [hsay]
         ·exact hqt.2 o (by omega)),hle⟩ (by show l0.n - (i + 1) < l0.n - i;omega) ⟨rfl,rfl,rfl,rfl,rfl,rfl,rfl,rfl,rfl,trivial⟩ rfl rfl
      | true =>
       obtain ⟨m,hm⟩:∃ m:Msg,m = ⟨((i + 1:Nat):Int),k i + 1,k,b,noTag⟩:=⟨_,rfl⟩;have hst:=RI.say (m:=m) hR.r hD (by omega) hodd hin hW0 hWm (by rw [hm]) (by rw [hm]) (fun i _=>by rw [hm]) (by rw [hm,hsay]) (by rw [hsay]);have hmay:=hst.1
       have hbv:b.view < 1073741824:=by
        have:=(Bod.may_spec (Msg.may_body hmay)).2.1;rw [hm] at this
        exact this
       have hbok:b.Ok:=by
        have:=say_ok (pend:=[q]) (wish:=W) (o:=i) hD.L (by omega) (by rw [hdn];exact hin) (fun r hr=>by rw [List.mem_singleton.1 hr];exact hqo) (by rw [hsay]) (by rw [hsay];exact hbv);rw [hsay] at this
        exact this
       have hgood:(⟨m,p4,c4⟩:MV).Good e4:=by rw [hm];exact ⟨hq4,by show b.q.length ≤ _;omega,hbok⟩
       have hmsg:=good_signed hgood;have hsg:=fun G=>rtagged_fn e4 G (m:=m) (q:=p4) (qc:=c4) hgood.1 (by have h2:m.body.q.length ≤ 1000000:=hgood.2.1;omega)
       have hsig:∃ tg,m.signed = { m with tag:=tg }:=⟨_,by unfold Msg.signed;rw [if_pos hmay]⟩;generalize m.signed = ms at *
       obtain ⟨tg,hms⟩:=hsig;obtain ⟨_,l',htk,hD',hR',hmu'⟩:=RI.say (m:=ms) hR.r hD (by omega) hodd hin hW0 hWm (by rw [hms,hm]) (by rw [hms,hm]) (fun i _=>by rw [hms,hm]) (by rw [hms,hm,hsay]) (by rw [hsay]);have htake:=fun G=>pltakeA_fn e4 G hta4 (lb:=lb) hup4 hD.L (by omega) hD.N (by rw [hdn];exact hodd) hmsg;have htk':l.take (⟨ms,p4,c4⟩:MV).m = ((true,0),l'):=htk
       rw [htk'] at htake
       have hrd2:rd + 1 + mT l' W q ≤ 45:=by
        cases quiet with
        | false=>have hqt:rd + 1 + mT l W q ≤ 45:=hqt;omega
        | true=>have:=hqt.1;omega
       clear hst hsay;refine gQ ?_;refine qfY ?_;refine qgr ?_;refine HB.qu [0,1,2,3,4,5,6,7,8] 2 ?_;refine gW ?_;refine HQ.Am (i:=i) rfl rfl rfl (by omega) (by omega) rfl ?_;refine HQ.Ab rfl rfl rfl (by rw [Nat.zero_add,Nat.mul_one];exact Rd1.ofRow (.there _ (.here _ _ _)) (by rw [nthV_eq];exact zay k (i:=i) (by omega))) rfl ?_;refine gW ?_;refine HQ.Ae (ls:=v11 k) rfl rfl rfl (Rd.ofRow (.there _ (.here _ _ _))) rfl rfl ?_;refine HQ.Ae (ls:=b.vals p4 c4) rfl rfl rfl (Rd.ofRow (.here _ _ _)) rfl rfl ?_;refine HQ.Au (t:=51) (out:=(⟨((i + 1:Nat):Int),k i + 1,k,b,noTag⟩:Msg).vals p4 c4) rfl rfl rfl (by kernel_rfl) rfl ?_;rw [← hm];refine qgP ?_;refine H.Ah (ls:=msgZ.vals none 0) rfl rfl rfl fun mb=>?_;refine gA ?_;refine qfY ?_;refine qdT ?_;refine HB.ev 10 ?_;refine H.Af (ls:=msgZ.vals none 0) (vs:=m.vals p4 c4) (ls':=m.vals p4 c4) rfl rfl rfl (zaa rfl) rfl rfl (Nat.le_refl 121) (by repeat constructor) ?_;refine gA ?_;refine qfY ?_;refine qdT ?_;refine HB.dn ?_;refine gL ?_;refine H.Ae (ls:=m.vals p4 c4) rfl rfl rfl (Rd.ofRow (by repeat constructor)) rfl rfl ?_;refine H.cr (hsg _) ?_;refine qdO ?_;refine H.cr (htake _) ?_;refine gQ ?_;refine H.Am (i:=i) rfl rfl rfl (by omega) (by omega) rfl ?_;refine H.Ab rfl rfl rfl (by rw [Nat.zero_add,Nat.mul_one];exact Rd1.ofRow (by repeat constructor) (by rw [nthV_eq];exact zay k (i:=i) (by omega))) rfl ?_;refine gK ?_;refine H.Am (i:=i) rfl rfl rfl (by omega) (by omega) rfl ?_;refine H.Az (ls':=v11 (updF k i (k i + 1))) rfl rfl rfl rfl (by repeat constructor) (by rw [Nat.zero_add,Nat.mul_one];exact v11_upd k (k i + 1) (by omega)) ?_;refine gX ?_;refine qdD ?_;refine qgp ?_;refine qew ?_;refine qhv ?_;exact H.ag (i + 1,false,said + 1,l',updF k i (k i + 1),e4) ⟨by show i + 1 ≤ l0.n;omega,⟨T + 1,⟨hR',hD',by show T + 1 + mT l' W q ≤ 105;omega,fun h=>by have h:said + 1 = 0:=h;omega,by show said + 1 + mT l' W q ≤ 45;omega⟩⟩,hrd2,le4⟩ (by show l0.n - (i + 1) < l0.n - i;omega)
     ·have ei:i = l0.n:=by omega
      subst ei
      cases quiet with
      | false =>
       have hqt:rd + 1 + mT l W q ≤ 45:=hqt;refine gQ ?_
       exact H.ag (rd + 1,said,l,k,e) ⟨⟨T,hR⟩,hqt,hle⟩ (by show 400 - (rd + 1) < 400 - rd;omega)
      | true =>
       obtain ⟨w,hw,hh,hall⟩:=hR.r.quiet hD.L hW0 hWm hqa (by rw [hdn];exact hqt.2);rw [hdn] at hall;rw [hqn.1,hqn.2] at hh
       have hsd:said ≠ 0:=fun h0=>by
        obtain ⟨o,ho,hlt⟩:=hR.s h0
        have:=(hall o ho).1;omega
       have hlog:=fun G=>pllogO_fn e G (fl:=e) (lb:=lb) hD.L (by omega) W;have hho:=fun G=>plholdsO_fn e G (fl:=e) (lb:=lb) hD.L (v:=W) (c:=7) (t:=3)
       rw [hw] at hho hlog;have hho:∀ G,Fn Tryz.prog 25 [.pointer (some ⟨lb,0,none⟩),.int .u64 W,.int .i64 7,.int .u64 3] e (plogH e lb l::G) (Ret (.bool (holdsB w.all 7 3)) e (plogH e lb l::G)):=hho;rw [hh] at hho
       have hwl:=hD.L.al w (vw_v hw).2;clear hqt hh hw
       refine gY ?_;refine H.cl (hlog _) fun x f' A' hr=>?_;obtain ⟨lp,lc,rfl,rfl,rfl⟩:=hr;show H _ _ _ ((_,.tuple #[.slice lp w.all.length lc,.bool true])::_) _ (slc lp w.all.length lc _ 40 (w.all.flatMap Req.vals)::_) _;refine gV ?_;refine qdO ?_;refine H.cr (hho _) ?_;refine gQ ?_;refine qdO ?_
       refine H.lo (ι:=Nat) (fun j=>[(27,.int .i64 ((j + 1:Nat):Int)),(25,.slice lp w.all.length lc),(12,.pointer (some ⟨lb,0,none⟩)),(10,.int .u64 W),(8,.int .i64 (l0.n:Int))]) (fun _=>f')
        (fun _=>plogH f' lb l::slc lp w.all.length lc 44 40 (w.all.flatMap Req.vals)::row xb 36 (v11 k)::row qb 44 q.vals::row wb 34 (w15C kb l0.n ap ml.length ac lb0)::F) (fun j=>j ≤ l0.n) (fun j=>l0.n - j)
        0 (Nat.zero_le _) fun j hj=>?_
       have hj:j ≤ l0.n:=hj;by_cases hjn:j < l0.n
       ·obtain ⟨hg,hv⟩:=hall j hjn;have hgr:=fun G=>plgreat_fn f' G (Le.refl f') (lb:=lb) (l:=l) (by omega) (o:=j) (by omega) (r:=((j + 1:Nat):Int)) rfl;have hgr:∀ G,Fn Tryz.prog 22 [.pointer (some ⟨lb,0,none⟩),.int .i64 ((j + 1:Nat):Int)] f' (plogH f' lb l::G) (Ret (.int .u64 (dyG l j)) f' (plogH f' lb l::G)):=hgr
        have hvo:=fun G=>plvoted_fn f' G (Le.refl f') (lb:=lb) (l:=l) (by omega) (o:=j) (by omega) (r:=((j + 1:Nat):Int)) (v:=W) rfl;have hvo:∀ G,Fn Tryz.prog 26 [.pointer (some ⟨lb,0,none⟩),.int .i64 ((j + 1:Nat):Int),.int .u64 W] f' (plogH f' lb l::G) (Ret (.tuple #[.int .i64 ((dyV l j W).getD 0),.bool (dyV l j W).isSome]) f' (plogH f' lb l::G)):=hvo
        rw [hg] at hgr;rw [hv] at hvo;have hvo:∀ G,Fn Tryz.prog 26 [.pointer (some ⟨lb,0,none⟩),.int .i64 ((j + 1:Nat):Int),.int .u64 W] f' (plogH f' lb l::G) (Ret (.tuple #[.int .i64 (w.all.length:Nat),.bool true]) f' (plogH f' lb l::G)):=hvo;clear hg hv
        refine gI ?_;refine H.cr (hvo _) ?_;refine gQ ?_;refine H.cr (hgr _) ?_;refine gQ ?_;exact H.ag (j + 1) (by show j + 1 ≤ l0.n;omega) (by show l0.n - (j + 1) < l0.n - j;omega)
       ·have ej:j = l0.n:=by omega
        subst ej;refine gF ?_;refine H.Ag rfl rfl rfl (works19_fn f' _ htae) ?_;refine gZ ?_;refine H.pd (x:=plogH _ lb _) ?_;refine H.pd (x:=slc lp _ _ _ _ _) ?_;refine qhq ?_;refine H.pd (x:=row qb _ _) ?_;refine H.pd (x:=row wb _ _) ?_;refine H.weakL (le2.trans hle) ?_;exact qap
  ·skip;refine Fn.e3 Tryz.func4 Tryz.ntmps4 fun base=>?_;refine qge ?_;refine gQ ?_;refine H.Ag rfl rfl rfl (works19_fn f _ htab) ?_;refine gZ ?_;exact qap
end
end Go.Proofs.YtminmjlfmolfeaaGreatDoor

namespace Go.Proofs.YtminmjlfmolfeaaGreatDoor
open Go Go.ChangeShapes Go.WideShapes Go.RowKit Go.Deep
theorem and_t {a b:Bool} (ha:a = true) (hb:b = true):(a && b) = true:=by rw [ha,hb];rfl
theorem Tryz.own:ownKnob Tryz.prog.godebug = none:=by kernel_rfl
theorem Tryz.laidOut:laidOutB Tryz.prog = true:=by kernel_rfl
abbrev laidL : List (String × DataW Unit) := [("ratchet/sha.table", Rows.laid_ratchet_sha_table)]
theorem door_met (os:Os) (args:Array Value):laidMetH Tryz.prog laidL ((World.doorLaid Tryz.prog 400 os).forCall (fun _ _=>0) ⟨#[],args,[]⟩).memory:=
 laidMetH_of_parts3 (fuel:=8) (laidMet_of_run' 8 (by kernel_rfl) (by kernel_rfl)) (by kernel_rfl) (by kernel_rfl)
theorem tab_eq:(Rows.laid_ratchet_sha_table:DataW Unit) = .agg ((Sha.k.map fun x=>((x.toNat:Nat):Int)).map fun z=>.lit (.int .u32 z)):=by kernel_rfl
theorem tab_of {W:World} (h:laidMetH Tryz.prog laidL W):TabAt (memOf W):=by
 have h2 : laidMetH Tryz.prog [("ratchet/sha.table", .agg ((Sha.k.map fun x => ((x.toNat : Nat) : Int)).map fun z => .lit (.int .u32 z)))] W := by rw [← tab_eq]; exact h
 exact laid_ints h2 (by kernel_rfl) (by kernel_rfl) (t:=293) (e:=245) Tryz.underlying293 Tryz.underlying245 (by kernel_rfl)
end Go.Proofs.YtminmjlfmolfeaaGreatDoor
