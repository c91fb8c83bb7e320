/- Parts of the proof, one behind the other, each under its own heading. No conditions. -/
import Derived.Test.YtminmjlfmolfeaaGreatDoorZ05
import Derived.Sort.AssemblyPlain
import Derived.Lib.Tables
set_option linter.unusedSectionVars false
set_option linter.unusedSimpArgs false
set_option linter.unusedVariables false
/- Layer 15: the document's logs: what they own; views, their logs, who is primary. No condition. -/
set_option maxHeartbeats 6400000
set_option maxRecDepth 20000
namespace Go.Proofs.YtminmjlfmolfeaaGreatDoor
open Go
structure VV where
 w:Vw
 sp:Option Addr
 sc:Nat
 pp:Option Addr
 pc:Nat
def VV.vals (x:VV):List Value:=[.int .u64 x.w.v,.int .u64 x.w.num,.slice x.sp x.w.s.length x.sc,.slice x.pp x.w.p.length x.pc]
theorem VV.len (x:VV):x.vals.length = 4:=rfl
theorem Req.len (r:Req):r.vals.length = 40:=rfl
def prepV (y:Int × Req):List Value:=.int .u64 y.1::y.2.vals
theorem prepV_len (y:Int × Req):(prepV y).length = 41:=rfl
def VV.own (x:VV):HP:=slc x.pp x.w.p.length x.pc 258 41 (x.w.p.flatMap prepV)
theorem Reqs_one (l:List Req):∀ v ∈ l.flatMap Req.vals,one v = true:=by
 intro v hv;obtain ⟨r,_,hr⟩:=List.mem_flatMap.1 hv;exact zaa (l:=r.vals) rfl v hr
def chV (c:Int × Int):List Value:=[.int .u64 c.1,.int .u64 c.2]
theorem chV_len (c:Int × Int):(chV c).length = 2:=rfl
def lgC (n:Nat) (kn:Nat→Int) (vp:Option Addr) (vl vc:Nat) (pp:Option Addr) (pc:Nat) (cp:Option Addr) (cc:Nat):List Value:=[.int .i64 (n:Int)] ++ v11 kn ++ [.slice vp vl vc,.slice pp n pc,.slice cp n cc]
variable {f:Frag} {A A':List HP} {b n vl vc pc cc:Nat} {T:TypeId} {vp pp cp:Option Addr}
theorem lgC_kn {kn:Nat→Int}
  (h:At A (row b T (lgC n kn vp vl vc pp pc cp cc)) A' (row b T (lgC n kn vp vl vc pp pc cp cc))):Rd f A b (0 + 1) (v11 kn):=
 (Rd.ofRow (f:=f) h).sub rfl
def addrV (b:Nat):List Value:=[.pointer (some ⟨b,0,none⟩)]
structure LPt where
 V:List VV
 vp:Option Addr
 vc:Nat
 pp:Option Addr
 pc:Nat
 cp:Option Addr
 cc:Nat
 pb:Nat→Nat
 cs:Nat→Option Addr × Nat
structure lgφ (f:Frag) (l:Lgs) (i:LPt):Prop where
 vs:i.V.map VV.w = l.vs
 s:∀ x ∈ i.V,ListAt f x.sp 40 Req.vals x.w.s
 p:ListAt f i.pp 1 addrV ((List.range l.n).map i.pb)
def chRow (l:Lgs) (cs:Nat→Option Addr × Nat):List Value:=rngV l.n fun r=>.slice (cs r).1 (l.ch r).length (cs r).2
def chFam (l:Lgs) (cs:Nat→Option Addr × Nat) (r:Nat):HP:=slc (cs r).1 (l.ch r).length (cs r).2 255 2 ((l.ch r).flatMap chV)
def lgB (lb:Nat) (l:Lgs) (i:LPt):List HP:=[row lb 75 (lgC l.n l.known i.vp i.V.length i.vc i.pp i.pc i.cp i.cc),slc i.vp i.V.length i.vc 81 4 (i.V.flatMap VV.vals),lst (i.V.map VV.own),
 fam (fun r=>pstH (i.pb r) (l.past r)) l.n,slc i.cp l.n i.cc 253 1 (chRow l i.cs),fam (chFam l i.cs) l.n]
def logsH (f:Frag) (lb:Nat) (l:Lgs):HP:=pack (lgφ f l) (lgB lb l)
theorem lgφ.mono {f g:Frag} (h:Le f g) {l:Lgs} {i:LPt} (hl:lgφ f l i):lgφ g l i:=⟨hl.vs,fun x hx=>(hl.s x hx).mono h,hl.p.mono h⟩
variable {lb:Nat} {l:Lgs}
theorem logsH_mono {g:Frag} (h:Le f g):∀ x,logsH f lb l x→logsH g lb l x:=fun _ ⟨i,hi,hx⟩=>⟨i,hi.mono h,hx⟩
variable {F:List HP}
theorem zai (i:LPt) (h:lgφ f l i):∀ x,stars (lgB lb l i ++ F) x→stars (logsH f lb l::F) x:=fun x hx =>
 pack_fold (φ:=lgφ f l) (B:=lgB lb l) i h x hx
theorem lgφ.len {i:LPt} (h:lgφ f l i):i.V.length = l.vs.length:=by rw [← h.vs,List.length_map]
variable {j:Nat}
theorem lgφ.at {i:LPt} (h:lgφ f l i) {x:VV} (hx:i.V[j]? = some x):l.vs[j]? = some x.w:=by rw [← h.vs,List.getElem?_map,hx];rfl
variable {w:Vw}
theorem lgφ.of {i:LPt} (h:lgφ f l i) (hw:l.vs[j]? = some w):∃ x,i.V[j]? = some x ∧ x.w = w:=by
 rw [← h.vs,List.getElem?_map] at hw
 cases e:i.V[j]? with
 | none=>rw [e] at hw;cases hw
 | some x=>rw [e] at hw;cases hw;exact ⟨x,rfl,rfl⟩
theorem lgφ.past {i:LPt} (h:lgφ f l i) (hn:0 < l.n):∃ b off,i.pp = some ⟨b,off,none⟩ ∧ ∀ {e:Frag} {A:List HP} {r:Nat},Le f e→r < l.n→Rd1 e A b (off + r) (.pointer (some ⟨i.pb r,0,none⟩)):=by
 exact qaQ
variable {p:Option Addr} {c:Nat}
section
variable (f:Frag) (F:List HP)
theorem prim_fn (hn:1 ≤ n ∧ n ≤ 11) {v:Int} (hv:0 ≤ v):Fn Tryz.prog 146 [.int .i64 (n:Int),.int .u64 v] f F (Ret (.int .i64 (primZ n v)) f F):=by
 have h1:v % (n:Int) < n:=Int.emod_lt_of_pos v (by omega);have h2:0 ≤ v % (n:Int):=Int.emod_nonneg v (by omega)
 have e:v.tmod (n:Int) = ((primI n v:Nat):Int):=by
  unfold primI;rw [Int.tmod_eq_emod_of_nonneg hv];omega
 have hl:primI n v < 11:=by unfold primI;omega
 refine Fn.e2 Tryz.func146 Tryz.ntmps146 fun base=>?_;refine gD ?_;exact qcF
theorem lgview_fn {kn:Nat→Int} {V:List VV} (hl:V.length ≤ 100000) (v:Int) :
  Fn Tryz.prog 108 [.pointer (some ⟨lb,0,none⟩),.int .u64 v] f (row lb 75 (lgC n kn vp V.length vc pp pc cp cc)::slc vp V.length vc 81 4 (V.flatMap VV.vals)::F)
   (Ret (.int .i64 (vwZ (V.map VV.w) v)) f (row lb 75 (lgC n kn vp V.length vc pp pc cp cc)::slc vp V.length vc 81 4 (V.flatMap VV.vals)::F)):=by
 refine Fn.e2 Tryz.func108 Tryz.ntmps108 fun base=>?_;refine gR ?_
 refine H.lo (ι:=Nat) (fun i=>[(5,.int .i64 (i:Int)),(0,.pointer (some ⟨lb,0,none⟩)),(1,.int .u64 v)]) (fun _=>f)
  (fun _=>row lb 75 (lgC n kn vp V.length vc pp pc cp cc)::slc vp V.length vc 81 4 (V.flatMap VV.vals)::F)
  (fun i=>i ≤ V.length ∧ ∀ j x,j < i→V[j]? = some x→x.w.v ≠ v) (fun i=>V.length - i) 0 ⟨Nat.zero_le _,fun j x hj=>by omega⟩ fun i hi=>?_
 obtain ⟨hi,hb⟩:i ≤ V.length ∧ ∀ j x,j < i→V[j]? = some x→x.w.v ≠ v:=hi;by_cases hlt:i < V.length
 ·obtain ⟨x,hx⟩:∃ x,V[i]? = some x:=⟨_,List.getElem?_eq_getElem hlt⟩;refine H.Av (p:=vp) (n0:=V.length) (c:=vc) (.there _ (.here _ _ _)) (by omega) fun sb hp=>?_;subst hp;refine gO ?_;refine qfJ ?_;refine H.Ab rfl rfl rfl (Rd1.of (i:=0) (by rw [Nat.zero_add];exact Rd.slcElem VV.len (by decide) (.there _ (.here _ _ _)) hx) rfl) rfl ?_;refine gG ?_;by_cases hv:x.w.v = v
  ·skip;refine gG ?_;refine H.Ad rfl rfl (fun _ h=>h) ⟨?_,rfl,rfl⟩
   have e:vwAt (V.map VV.w) v = some i:=zaq.2 ⟨⟨x.w,by rw [List.getElem?_map,hx];rfl,hv⟩,fun j w hj hw=>by
    rw [List.getElem?_map] at hw
    cases hj2:V[j]? with
    | none=>rw [hj2] at hw;cases hw
    | some y=>rw [hj2] at hw;cases hw;exact hb j y hj hj2⟩
   unfold vwZ;rw [e]
  ·skip;refine gP ?_;refine H.ag (i + 1) ⟨by show i + 1 ≤ V.length;omega,fun j y hj hy=>?_⟩ (by show V.length - (i + 1) < V.length - i;omega);by_cases e:j = i
   ·subst e;rw [hx] at hy;cases hy;exact hv
   ·exact hb j y (by omega) hy
 ·skip;refine gO ?_;refine H.Ad rfl rfl (fun _ h=>h) ⟨?_,rfl,rfl⟩
  have e:vwAt (V.map VV.w) v = none:=vwAt_none.2 fun w hw=>by
   obtain ⟨x,hx,rfl⟩:=List.mem_map.1 hw;obtain ⟨j,hj⟩:=List.getElem?_of_mem hx;have hjl:=(List.getElem?_eq_some_iff.1 hj).1;exact hb j x (by omega) hj
  unfold vwZ;rw [e]
theorem holds_fn {R:List Req} (cl t:Int) (hl:R.length ≤ 100000):Fn Tryz.prog 151 [.slice p R.length c,.int .i64 cl,.int .u64 t] f (slc p R.length c 44 40 (R.flatMap Req.vals)::F)
  (Ret (.bool (holdsB R cl t)) f (slc p R.length c 44 40 (R.flatMap Req.vals)::F)):=by
 refine Fn.e3 Tryz.func151 Tryz.ntmps151 fun base=>?_;refine gR ?_
 refine H.lo (ι:=Nat) (fun i=>[(7,.int .i64 (i:Int)),(0,.slice p R.length c),(1,.int .i64 cl),(2,.int .u64 t)]) (fun _=>f)
  (fun _=>slc p R.length c 44 40 (R.flatMap Req.vals)::F)
  (fun i=>i ≤ R.length ∧ ∀ j x,j < i→R[j]? = some x→¬ (x.client = cl ∧ x.time = t)) (fun i=>R.length - i) 0 ⟨Nat.zero_le _,fun j x hj=>by omega⟩ fun i hi=>?_
 obtain ⟨hi,hb⟩:i ≤ R.length ∧ ∀ j x,j < i→R[j]? = some x→¬ (x.client = cl ∧ x.time = t):=hi;by_cases hlt:i < R.length
 ·obtain ⟨x,hx⟩:∃ x,R[i]? = some x:=⟨_,List.getElem?_eq_getElem hlt⟩;refine H.Av (p:=p) (n0:=R.length) (c:=c) (.here _ _ _) (by omega) fun sb hp=>?_;subst hp;have rd:Rd f (slc (some ⟨sb,0,none⟩) R.length c 44 40 (R.flatMap Req.vals)::F) sb (0 + i * 40) x.vals:=by rw [Nat.zero_add];exact Rd.slcElem Req.len (by decide) (.here _ _ _) hx
  by_cases h1:x.client = cl
  ·by_cases h2:x.time = t
   ·skip;refine qeA ?_;refine H.Ad rfl rfl (fun _ h=>h) ⟨?_,rfl,rfl⟩;have e:holdsB R cl t = true:=List.any_eq_true.2 ⟨x,List.mem_of_getElem? hx,by rw [decide_eq_true h1,decide_eq_true h2];rfl⟩;rw [e]
   ·skip;refine qeA ?_;refine H.ag (i + 1) ⟨by show i + 1 ≤ R.length;omega,fun j y hj hy=>?_⟩ (by show R.length - (i + 1) < R.length - i;omega);exact qcm
  ·skip;refine gG ?_;refine qfJ ?_;refine H.Ab rfl rfl rfl (Rd1.of (i:=0) rd rfl) rfl ?_;refine ga ?_;refine H.ag (i + 1) ⟨by show i + 1 ≤ R.length;omega,fun j y hj hy=>?_⟩ (by show R.length - (i + 1) < R.length - i;omega);exact qcu
 ·skip;refine gP ?_;refine H.Ad rfl rfl (fun _ h=>h) ⟨?_,rfl,rfl⟩
  have e:holdsB R cl t = false:=List.any_eq_false.2 fun x hx h=>by
   obtain ⟨j,hj⟩:=List.getElem?_of_mem hx;have hjl:=(List.getElem?_eq_some_iff.1 hj).1;simp only [Bool.and_eq_true,decide_eq_true_eq] at h
   exact hb j x (by omega) hj h
  rw [e]
theorem all_fn {fs:Frag} (hfs:Le fs f) {x:VV} (hs:ListAt fs x.sp 40 Req.vals x.w.s) (hl:x.w.s.length + x.w.p.length ≤ 100000) :
  Fn Tryz.prog 109 [.agg x.vals.toArray] f (x.own::F) (RetE (fun i:Option Addr × Nat=>.slice i.1 x.w.all.length i.2) f (fun i=>slc i.1 x.w.all.length i.2 44 40 (x.w.all.flatMap Req.vals)::x.own::F)):=by
 refine Fn.e1 Tryz.func109 Tryz.ntmps109 fun base=>?_;refine qdd fun wb=>?_;refine gJ ?_;refine H.Ar (out:=[]) rfl rfl rfl rfl (by decide) (by decide) rfl rfl fun eb=>?_;refine H.asSlc (k:=0) (sz:=40) rfl (by decide) ?_;refine qdS ?_;refine gH ?_;refine H.Aw (xs:=[]) (m:=x.w.s.length) (news:=x.w.s.flatMap Req.vals) rfl rfl rfl rfl rfl (fun p' c'=>(by repeat constructor)) ((hs.mono hfs).src Req.len (by decide)) (Reqs_one _) rfl (by omega) (by omega) fun ap ac=>?_;rw [Nat.zero_add,List.nil_append];refine gR ?_;have hll:=x.w.all_len
 have hall:∀ k,k ≤ x.w.p.length→(x.w.s ++ (x.w.p.take k).map Prod.snd).length = x.w.s.length + k:=fun k hk=>by
  rw [List.length_append,List.length_map,List.length_take];omega
 refine H.pf (x:=VV.own x) ?_;refine H.pf (x:=slc ap _ ac _ _ _) ?_;refine qdS ?_
 refine H.loop (ι:=Nat × Option Addr × Nat) (fun s=>[(4,.int .i64 (s.1:Int)),(3,.slice s.2.1 (x.w.s.length + s.1) s.2.2),(1,.pointer (some ⟨wb,0,none⟩))]) (fun _=>f)
  (fun s=>row wb 81 x.vals::slc s.2.1 (x.w.s.length + s.1) s.2.2 44 40 ((x.w.s ++ (x.w.p.take s.1).map Prod.snd).flatMap Req.vals)::x.own::F)
  (fun s=>s.1 ≤ x.w.p.length) (fun s=>x.w.p.length - s.1) (0,ap,ac) (Nat.zero_le _) ⟨rfl,rfl,rfl,trivial⟩ rfl (by simp) fun s hs=>?_
 obtain ⟨i,qp,qc⟩:=s;have hi:i ≤ x.w.p.length:=hs;show H _ _ _ [(4,.int .i64 (i:Int)),(3,.slice qp (x.w.s.length + i) qc),_] f (_::slc qp (x.w.s.length + i) qc _ 40 ((x.w.s ++ (x.w.p.take i).map Prod.snd).flatMap Req.vals)::x.own::F) _
 by_cases hlt:i < x.w.p.length
 ·obtain ⟨y,hy⟩:∃ y,x.w.p[i]? = some y:=⟨_,List.getElem?_eq_getElem hlt⟩
  have e1:(x.w.s ++ (x.w.p.take (i + 1)).map Prod.snd).flatMap Req.vals = (x.w.s ++ (x.w.p.take i).map Prod.snd).flatMap Req.vals ++ y.2.vals:=by
   rw [List.take_add_one,hy,List.map_append,← List.append_assoc,List.flatMap_append];simp
  refine H.Av (p:=x.pp) (n0:=x.w.p.length) (c:=x.pc) (T:=258) (sz:=41) (xs:=x.w.p.flatMap prepV) (.there _ (.there _ (.here _ _ _))) (by omega) fun sb hp=>?_;refine gO ?_;rw [hp];refine qfJ ?_;refine H.Ae (ls:=y.2.vals) rfl rfl rfl (Rd.sub (pre:=[.int .u64 y.1]) (l:=y.2.vals) (post:=[]) (by rw [List.append_nil,Nat.zero_add];exact Rd.slcElem (vals:=prepV) (xs:=x.w.p) prepV_len (by decide) (by rw [← hp];exact .there _ (.there _ (.here _ _ _))) hy) rfl) rfl rfl ?_;refine H.Ar (out:=y.2.vals) rfl rfl rfl rfl (by decide) (by decide) rfl rfl fun eb2=>?_;refine H.Aw (p:=qp) (n0:=x.w.s.length + i) (c:=qc) (m:=1) (news:=y.2.vals) rfl rfl rfl rfl rfl (fun p' c'=>(by repeat constructor)) (Src.slice (Rd.ofRow (by repeat constructor)) rfl) (zaa rfl) rfl (by omega) (by omega) fun p2 c2=>?_;refine gD ?_;refine H.pd (x:=row eb2 _ _) ?_;refine H.pf (x:=VV.own x) ?_;refine H.pf (x:=slc p2 _ c2 _ _ _) ?_;refine qdS ?_;refine H.Aq (i + 1,p2,c2) (by show i + 1 ≤ x.w.p.length;omega) (by show x.w.p.length - (i + 1) < x.w.p.length - i;omega) ⟨rfl,rfl,rfl,trivial⟩ rfl ?_;show _::slc p2 (x.w.s.length + i + 1) c2 _ 40 _::_ = _::slc p2 (x.w.s.length + (i + 1)) c2 _ 40 _::_;rw [e1,Nat.add_assoc]
 ·have e:i = x.w.p.length:=by omega
  subst e;refine gO ?_;refine H.pd (x:=row wb _ _) ?_;have e1:x.w.s ++ (x.w.p.take x.w.p.length).map Prod.snd = x.w.all:=by rw [List.take_length];rfl
  rw [e1,← hll];exact H.r1 ⟨(qp,qc),rfl,rfl,rfl⟩
end
open Go.Sort (swp ltInt insInner insOuter insertionSort)
def uV (z:Int):List Value:=[.int .u64 z]
theorem uV_len (z:Int):(uV z).length = 1:=rfl
def arr (d:Array Int):List Value:=d.toList.flatMap uV
theorem zbj (d:Array Int) (i j:Nat):(swp d i j).size = d.size:=by unfold swp;simp
variable {d:Array Int}
theorem arr_get {i:Nat} (h:i < d.size):d.toList[i]? = some d[i]!:=by
 rw [Array.getElem?_toList,getElem!_pos d i h];simp [h]
theorem arr_map (d:Array Int):arr d = d.toList.map fun z=>.int .u64 z:=by
 unfold arr
 induction d.toList with
 | nil=>rfl
 | cons x r ih=>rw [List.flatMap_cons,ih];rfl
theorem zar {i:Nat} (h:i < d.size) (z:Int):SetV (arr d) (i * 1) (.int .u64 z) (arr (d.setIfInBounds i z)):=by
 have e:arr (d.setIfInBounds i z) = (arr d).set i (.int .u64 z):=by rw [arr_map,arr_map,Array.toList_setIfInBounds,List.map_set]
 rw [e,Nat.mul_one];exact SetV.mk _ (by rw [arr_map,List.length_map];simpa using h)
theorem Rd.arr (h:At A (slc (some ⟨b,0,none⟩) n c 24 1 (arr d)) A' (slc (some ⟨b,0,none⟩) n c 24 1 (arr d))) {i:Nat} (hi:i < d.size):Rd1 f A b (i * 1) (.int .u64 d[i]!):=
 Rd1.of (i:=0) (Rd.slcElem (vals:=uV) (xs:=d.toList) uV_len (by decide) h (arr_get hi)) rfl
variable {a:Nat} {d0:Array Int}
section
variable (f:Frag) (F:List HP)
theorem nan_fn (x:Int):Fn Tryz.prog 233 [.int .u64 x] f F (Ret (.bool false) f F):=by
 refine Fn.e1 Tryz.func233 Tryz.ntmps233 fun base=>?_;exact qbD
theorem zcf (x y:Int):Fn Tryz.prog 179 [.int .u64 x,.int .u64 y] f F (Ret (.bool (ltInt x y)) f F):=by
 refine Fn.e2 Tryz.func179 Tryz.ntmps179 fun base=>?_;refine gJ ?_;refine H.Af rfl rfl rfl (nan_fn f _ x) ?_;refine ga ?_;exact qah
theorem insSort_fn (hd0:d0.size = n) (hn:n ≤ 1000000) (hb:b ≤ n) (ha:a ≤ n) :
  Fn Tryz.prog 173 [.slice p n c,.int .i64 (a:Int),.int .i64 (b:Int)] f (slc p n c 24 1 (arr d0)::F) (Ret (.tuple #[]) f (slc p n c 24 1 (arr (insertionSort ltInt d0 a b))::F)):=by
 refine Fn.e3 Tryz.func173 Tryz.ntmps173 fun base=>?_;refine gD ?_
 refine H.lo (ι:=Nat × Array Int) (fun s=>[(6,.int .i64 (s.1:Int)),(0,.slice p n c),(1,.int .i64 (a:Int)),(2,.int .i64 (b:Int))]) (fun _=>f) (fun s=>slc p n c 24 1 (arr s.2)::F)
  (fun s=>s.1 ≤ n + 1 ∧ s.2.size = n ∧ insOuter ltInt a b s.1 s.2 = insertionSort ltInt d0 a b) (fun s=>b - s.1) (a + 1,d0) ⟨by show a + 1 ≤ n + 1;omega,hd0,rfl⟩ fun s hs=>?_
 obtain ⟨i,d1⟩:=s;obtain ⟨hi,hd1,hR⟩:i ≤ n + 1 ∧ d1.size = n ∧ insOuter ltInt a b i d1 = insertionSort ltInt d0 a b:=hs;show H _ _ _ [(6,.int .i64 (i:Int)),_,_,_] f (slc p n c _ 1 (arr d1)::F) _;rw [insOuter] at hR;by_cases hlt:i < b
 ·rw [if_pos hlt] at hR;refine gG ?_
  refine H.lo (ι:=Nat × Array Int) (fun s=>[(7,.int .i64 (s.1:Int)),(6,.int .i64 (i:Int)),(0,.slice p n c),(1,.int .i64 (a:Int)),(2,.int .i64 (b:Int))]) (fun _=>f) (fun s=>slc p n c 24 1 (arr s.2)::F)
   (fun s=>s.1 ≤ i ∧ s.2.size = n ∧ insInner ltInt a s.1 s.2 = insInner ltInt a i d1) (fun s=>s.1) (i,d1) ⟨Nat.le_refl i,hd1,rfl⟩ fun s hs=>?_
  obtain ⟨k,d⟩:=s;obtain ⟨hk,hd,hr⟩:k ≤ i ∧ d.size = n ∧ insInner ltInt a k d = insInner ltInt a i d1:=hs;show H _ _ _ [(7,.int .i64 (k:Int)),_,_,_,_] f (slc p n c _ 1 (arr d)::F) _;refine qdX fun sb hp=>?_;subst hp;by_cases hka:a < k
  ·obtain ⟨j,rfl⟩:∃ j,k = j + 1:=⟨k - 1,by omega⟩;rw [insInner] at hr;have hja:decide (j + 1 > a) = true:=decide_eq_true hka;rw [hja,Bool.true_and] at hr
   refine qfn ?_;refine HB.qu [0,1,2,3,4,5,6,7,8,9,10,11,12] 2 ?_;refine gN ?_;refine HQ.Aj (i:=j + 1) rfl rfl rfl rfl (by omega) rfl ?_;refine qcU ?_;refine gK ?_;refine qeq ?_;refine qcU ?_;refine qdb ?_;refine HB.ev 13 ?_;refine H.Af rfl rfl rfl (zcf f _ d[j + 1]! d[j]!) ?_;refine qcS ?_;refine HB.qu [14] 0 ?_;refine qeP ?_
   cases hlj:ltInt d[j + 1]! d[j]! with
   | false =>
    rw [hlj,if_neg (by decide)] at hr;rw [← hr] at hR;refine gW ?_;exact qbl
   | true =>
    rw [hlj,if_pos rfl] at hr;refine gX ?_;refine H.drawN (by kernel_rfl) (by decide +kernel) (by repeat (first | exact zac | refine zab ?_ | refine zah ?_ | refine zaj ?_)) ?_;refine qhi ?_;refine qeu ?_;refine qeq ?_;refine qfG ?_;refine qgr ?_;refine qcU ?_;refine qdo ?_;refine HB.qu [14] 3 ?_;refine qgr ?_;refine qgL ?_;refine qdn ?_;refine HB.qu [16] 1 ?_;refine qeq ?_;refine qgA ?_;refine qd ?_;show H _ _ _ _ f (slc (some ⟨sb,0,none⟩) n c _ 1 (arr (swp d (j + 1) (j)))::_) _;exact qca
  ·have hr2:insInner ltInt a k d = d:=by
    cases k with
    | zero=>rfl
    | succ j=>rw [insInner,if_neg (by rw [decide_eq_false (by omega),Bool.false_and];decide)]
   rw [hr2] at hr;rw [← hr] at hR;refine qfn ?_;refine HB.qu [0,1,2,3,4,5,6,7,8,9,10,11,12] 2 ?_;refine gN ?_;refine qdb ?_;refine HB.ev 13 ?_;refine qeT ?_;refine HB.qu [14] 0 ?_;refine qeV ?_;refine gW ?_;exact qbl
 ·rw [if_neg hlt] at hR;rw [← hR];refine gP ?_;exact qaP
end
open Go.Sort (swp ltInt insInner insOuter insertionSort siftDown heapBuild heapPop heapSort reverseLoop reverseRange scanUp scanDown partLoop partEqLoop scanSorted shiftDown shiftUp partialIns partialInsertionSort)
variable {hi:Nat}
section
variable (f:Frag) (F:List HP)
theorem siftDown_step {first root:Nat} (h:2 * root + 1 < hi):∃ ch,(ch = 2 * root + 1 ∨ ch = 2 * root + 2) ∧ ch < hi ∧ ((2 * root + 2 < hi ∧ ltInt d[first + (2 * root + 1)]! d[first + (2 * root + 1) + 1]! = true) ↔ ch = 2 * root + 2) ∧
  siftDown ltInt hi first root d = if ltInt d[first + root]! d[first + ch]! = true then siftDown ltInt hi first ch (swp d (first + root) (first + ch)) else d:=by
 rw [siftDown,dif_neg (by omega)];by_cases h2:2 * root + 2 < hi ∧ ltInt d[first + (2 * root + 1)]! d[first + (2 * root + 1) + 1]! = true
 ·rw [if_pos (by rw [Bool.and_eq_true];exact ⟨decide_eq_true h2.1,h2.2⟩)];refine ⟨2 * root + 2,.inr rfl,h2.1,⟨fun _=>rfl,fun _=>h2⟩,?_⟩
  cases ltInt d[first + root]! d[first + (2 * root + 2)]! with
  | false=>rfl
  | true=>rw [dif_pos h2.1];rfl
 ·rw [if_neg (fun e=>h2 (by rw [Bool.and_eq_true] at e;exact ⟨of_decide_eq_true e.1,e.2⟩))];refine ⟨2 * root + 1,.inl rfl,h,⟨fun e=>absurd e h2,fun e=>by omega⟩,?_⟩
  cases ltInt d[first + root]! d[first + (2 * root + 1)]! with
  | false=>rfl
  | true=>rfl
theorem siftDown_fn {lo first:Nat} (hd0:d0.size = n) (hn:n ≤ 1000000) (hb:first + hi ≤ n) (hlo:lo ≤ n) :
  Fn Tryz.prog 230 [.slice p n c,.int .i64 (lo:Int),.int .i64 (hi:Int),.int .i64 (first:Int)] f (slc p n c 24 1 (arr d0)::F) (Ret (.tuple #[]) f (slc p n c 24 1 (arr (siftDown ltInt hi first lo d0))::F)):=by
 refine Fn.e4 Tryz.func230 Tryz.ntmps230 fun base=>?_;refine gR ?_
 refine H.lo (ι:=Nat × Array Int) (fun s=>[(8,.int .i64 (s.1:Int)),(0,.slice p n c),(2,.int .i64 (hi:Int)),(3,.int .i64 (first:Int))]) (fun _=>f) (fun s=>slc p n c 24 1 (arr s.2)::F)
  (fun s=>s.1 ≤ n ∧ s.2.size = n ∧ siftDown ltInt hi first s.1 s.2 = siftDown ltInt hi first lo d0) (fun s=>hi - s.1) (lo,d0) ⟨hlo,hd0,rfl⟩ fun s hs=>?_
 obtain ⟨root,d⟩:=s;obtain ⟨hi0,hd,hR⟩:root ≤ n ∧ d.size = n ∧ siftDown ltInt hi first root d = siftDown ltInt hi first lo d0:=hs;show H _ _ _ [(8,.int .i64 (root:Int)),_,_,_] f (slc p n c _ 1 (arr d)::F) _;by_cases hge:hi ≤ 2 * root + 1
 ·rw [siftDown,dif_pos hge] at hR;rw [← hR];refine gc ?_;exact qaP
 ·obtain ⟨ch,hch,hchi,hiff,he⟩:=siftDown_step (first:=first) (d:=d) (hi:=hi) (root:=root) (by omega);rw [he] at hR;clear he;refine qdX fun sb hp=>?_;subst hp;repeat (first | ((first | apply H.Au | apply H.Bd);(iterate 3 exact rfl)) | (first | apply H.seq | apply H.Bf | apply H.nil | apply H.Bj) | ((apply H.cmp);(iterate 5 exact rfl)) | ((apply H.ar;(iterate 4 exact rfl));(with_reducible apply wr_i64;omega);exact rfl) | (first | apply H.skip | apply H.Bl) | (apply H.Ci;exact rfl;(omega)))
  refine H.Bh (d:=9) (u:=.int .i64 ((2 * root + 1:Nat):Int)) rfl (by first | rfl | (congr 1)) ?_;refine H.cut (ι:=Bool) (fun b=>[(36,.bool b),(9,.int .i64 ((2 * root + 1:Nat):Int)),(8,.int .i64 (root:Int)),(0,.slice (some ⟨sb,0,none⟩) n c),(2,.int .i64 (hi:Int)),(3,.int .i64 (first:Int))]) (fun _=>f) (fun _=>slc (some ⟨sb,0,none⟩) n c 24 1 (arr d)::F) (fun b=>b = true ↔ ch = 2 * root + 2) _ (fun b hb2=>?_) ?_;rotate_left
  ·by_cases h2:2 * root + 2 < hi
   ·skip;refine qdA ?_;refine HB.qu [0,1,2,3,4,5,6,7,8,9,10,11,12,13,14,15,16,17] 2 ?_;refine gZ ?_;refine HQ.Aj (i:=first + (2 * root + 1)) rfl rfl rfl (by omega) (by omega) rfl ?_;refine qcU ?_;refine gK ?_;refine HQ.Aj (i:=first + (2 * root + 1) + 1) rfl rfl rfl (by omega) (by omega) rfl ?_;refine qcU ?_;refine qdb ?_;refine HB.ev 18 ?_;refine H.Af rfl rfl rfl (zcf f _ d[first + (2 * root + 1)]! d[first + (2 * root + 1) + 1]!) ?_;refine qcS ?_;refine HB.qu [19] 0 ?_;refine qeP ?_;skip;exact H.Ba (ltInt d[first + (2 * root + 1)]! d[first + (2 * root + 1) + 1]!) ⟨fun e=>hiff.1 ⟨h2,e⟩,fun e=>(hiff.2 e).2⟩ ⟨rfl,rfl,rfl,rfl,rfl,rfl,trivial⟩ rfl rfl
   ·skip;refine qdA ?_;refine HB.qu [0,1,2,3,4,5,6,7,8,9,10,11,12,13,14,15,16,17] 2 ?_;refine gZ ?_;refine qdb ?_;refine HB.ev 18 ?_;refine qeT ?_;refine HB.qu [19] 0 ?_;refine qeV ?_;skip;exact H.Ba false ⟨fun e=>(by cases e),fun e=>absurd (hiff.2 e).1 h2⟩ ⟨rfl,rfl,rfl,rfl,rfl,rfl,trivial⟩ rfl rfl
  show H _ _ _ [(36,.bool b),(9,.int .i64 ((2 * root + 1:Nat):Int)),(8,.int .i64 (root:Int)),(0,.slice (some ⟨sb,0,none⟩) n c),(2,.int .i64 (hi:Int)),(3,.int .i64 (first:Int))] f (slc (some ⟨sb,0,none⟩) n c _ 1 (arr d)::F) _;refine H.cut (ι:=Unit) (fun _=>[(9,.int .i64 (ch:Int)),(8,.int .i64 (root:Int)),(0,.slice (some ⟨sb,0,none⟩) n c),(2,.int .i64 (hi:Int)),(3,.int .i64 (first:Int))]) (fun _=>f) (fun _=>slc (some ⟨sb,0,none⟩) n c 24 1 (arr d)::F) (fun _=>True) _ (fun _ _=>?_) ?_;rotate_left
  ·cases b with
   | true =>
    have hce:=hb2.1 rfl;refine gU ?_
    exact H.Ba () trivial ⟨by rw [hce];rfl,rfl,rfl,rfl,rfl,trivial⟩ rfl rfl
   | false =>
    have hce:ch = 2 * root + 1:=by
     rcases hch with e | e
     ·exact e
     ·exact absurd (hb2.2 e) (by decide)
    refine gW ?_;exact H.Ba () trivial ⟨by rw [hce];rfl,rfl,rfl,rfl,rfl,trivial⟩ rfl rfl
  show H _ _ _ [(9,.int .i64 (ch:Int)),(8,.int .i64 (root:Int)),(0,.slice (some ⟨sb,0,none⟩) n c),(2,.int .i64 (hi:Int)),(3,.int .i64 (first:Int))] f (slc (some ⟨sb,0,none⟩) n c _ 1 (arr d)::F) _;refine qfn ?_;refine HB.qu [0,1,2,3,4,5,6,7,8,9,10,11] 2 ?_;refine gK ?_;refine HQ.Aj (i:=first + root) rfl rfl rfl (by omega) (by omega) rfl ?_;refine qcU ?_;refine gK ?_;refine HQ.Aj (i:=first + ch) rfl rfl rfl (by omega) (by omega) rfl ?_;refine qcU ?_;refine qfa ?_;refine H.Af rfl rfl rfl (zcf f _ d[first + root]! d[first + ch]!) ?_;refine qcS ?_;refine HB.qu [13] 0 ?_;refine qeV ?_
  cases hl2:ltInt d[first + root]! d[first + ch]! with
  | false =>
   rw [hl2,if_neg (by decide)] at hR;rw [← hR];refine gX ?_;exact H.ret0 rfl (fun _ h=>h) ⟨rfl,rfl,rfl⟩
  | true =>
   rw [hl2,if_pos rfl] at hR;refine gW ?_;refine H.drawN (by kernel_rfl) (by decide +kernel) (by repeat (first | exact zac | refine zab ?_ | refine zah ?_ | refine zaj ?_)) ?_;refine qhc ?_;refine HN.move (i:=5) (by kernel_rfl) rfl rfl rfl rfl ?_;refine HN.move (i:=6) (by kernel_rfl) rfl rfl rfl rfl ?_;refine HN.ar (i:=7) (z:=((first + ch:Nat):Int)) (by kernel_rfl) rfl rfl rfl rfl rfl (by rw [wr_i64 (by omega)];omega) rfl ?_;refine HN.phase [0,1,2,3,8,9,10,11,12,13,14,15,16,17,18,19] (S:=[slc (some ⟨sb,0,none⟩) n c 24 1 (arr d)]) rfl ?_;refine HB.qu [0,1,2,3,8,9,10,11,12,13,14,15,16,17,18,19] 4 ?_;refine gK ?_;refine HQ.Aj (i:=first + ch) rfl rfl rfl (by omega) (by omega) rfl ?_;refine qcU ?_;refine gK ?_;refine HQ.Aj (i:=first + root) rfl rfl rfl (by omega) (by omega) rfl ?_;refine qcU ?_;refine qdo ?_;refine HB.qu [20] 3 ?_;refine HQ.Aj (i:=first + root) rfl rfl rfl (by omega) (by omega) rfl ?_;refine qdb ?_;refine HB.ev 21 ?_;refine qdn ?_;refine HB.qu [22] 1 ?_;refine HQ.Aj (i:=first + ch) rfl rfl rfl (by omega) (by omega) rfl ?_;refine qdb ?_;refine HB.ev 23 ?_;refine qd ?_;show H _ _ _ _ f (slc (some ⟨sb,0,none⟩) n c _ 1 (arr (swp d (first + root) (first + ch)))::_) _;refine gR ?_;exact H.ag (ch,swp d (first + root) (first + ch)) ⟨by show ch ≤ n;omega,by rw [zbj];exact hd,hR⟩ (by show hi - ch < hi - root;omega)
end
open Go.Sort (swp ltInt insInner insOuter insertionSort siftDown heapBuild heapPop heapSort reverseLoop reverseRange scanUp scanDown partLoop partEqLoop scanSorted shiftDown shiftUp partialIns partialInsertionSort)
theorem quo2 {h:Nat} (hh:h ≤ 1000000):IntKind.wrap .i64 (((h:Int) - 1).tdiv 2) = (((h - 1) / 2 + 1:Nat):Int) - 1:=by
 rcases Nat.eq_zero_or_pos h with e | e
 ·subst e;rfl
 ·rw [show (h:Int) - 1 = ((h - 1:Nat):Int) by omega,show (2:Int) = ((2:Nat):Int) from rfl,tdiv64,wr_i64 (by omega)];omega
theorem siftDown_size (hi first:Nat):∀ (root:Nat) (d:Array Int),(siftDown ltInt hi first root d).size = d.size:=by
 have:∀ (m root:Nat) (d:Array Int),hi - root ≤ m→(siftDown ltInt hi first root d).size = d.size:=by
  intro m
  induction m with
  | zero=>intro root d h;rw [siftDown,dif_pos (by omega)]
  | succ m ih =>
   intro root d h;by_cases hge:hi ≤ 2 * root + 1
   ·rw [siftDown,dif_pos hge]
   ·obtain ⟨ch,hch,hchi,_,he⟩:=siftDown_step (first:=first) (d:=d) (hi:=hi) (root:=root) (by omega);rw [he];split
    ·rw [ih _ _ (by omega),zbj]
    ·rfl
 exact fun root d=>this _ root d (Nat.le_refl _)
theorem heapBuild_size (hi first:Nat):∀ (k:Nat) (d:Array Int),(heapBuild ltInt hi first k d).size = d.size
 | 0,d=>rfl
 | k + 1,d=>by rw [heapBuild,heapBuild_size hi first k,siftDown_size]
section
variable (f:Frag) (F:List HP)
theorem heapSort_fn (hd0:d0.size = n) (hn:n ≤ 1000000) (hab:a < b) (hb:b ≤ n) :
  Fn Tryz.prog 174 [.slice p n c,.int .i64 (a:Int),.int .i64 (b:Int)] f (slc p n c 24 1 (arr d0)::F) (Ret (.tuple #[]) f (slc p n c 24 1 (arr (heapSort ltInt d0 a b))::F)):=by
 obtain ⟨h,hh⟩:∃ h,h = b - a:=⟨_,rfl⟩;have hz:(b:Int) - (a:Int) = (h:Int):=by omega
 have hR0:heapSort ltInt d0 a b = heapPop ltInt a h (heapBuild ltInt h a ((h - 1) / 2 + 1) d0):=by unfold heapSort;rw [← hh]
 have hq:=quo2 (h:=h) (by omega);rw [hR0]
 have hsz:∀ (k:Nat) (d:Array Int),(siftDown ltInt h a k d).size = d.size:=fun k d=>siftDown_size h a k d;refine Fn.e3 Tryz.func174 Tryz.ntmps174 fun base=>?_
 repeat (first | (refine H.ar (op:=.sub) (p:=(b:Int)) (p2:=(a:Int)) (z:=(h:Int)) rfl rfl rfl rfl (by rw [hz,wr_i64 (by omega)]) rfl ?_) | (refine H.quo (p:=(h:Int) - 1) (z:=(((h - 1) / 2 + 1:Nat):Int) - 1) rfl rfl rfl (by decide) hq rfl ?_) | ((first | apply H.Au | apply H.Bd);(iterate 3 exact rfl)) | (first | apply H.seq | apply H.Bf | apply H.nil | apply H.Bj) | ((apply H.ar;(iterate 4 exact rfl));(with_reducible apply wr_i64;omega);exact rfl) | (apply H.Bl))
 refine H.cutB (ι:=Unit) (fun _=>[(6,.int .i64 (a:Int)),(7,.int .i64 0),(8,.int .i64 (h:Int)),(0,.slice p n c)]) (fun _=>f) (fun _=>slc p n c 24 1 (arr (heapBuild ltInt h a ((h - 1) / 2 + 1) d0))::F) (fun _=>True) _ (fun _ _=>?_) ?_;rotate_left
 ·refine H.lo (ι:=Nat × Array Int) (fun s=>[(9,.int .i64 ((s.1:Int) - 1)),(6,.int .i64 (a:Int)),(7,.int .i64 0),(8,.int .i64 (h:Int)),(0,.slice p n c)]) (fun _=>f) (fun s=>slc p n c 24 1 (arr s.2)::F)
   (fun s=>s.1 ≤ n ∧ s.2.size = n ∧ heapBuild ltInt h a s.1 s.2 = heapBuild ltInt h a ((h - 1) / 2 + 1) d0) (fun s=>s.1) ((h - 1) / 2 + 1,d0) ⟨by show (h - 1) / 2 + 1 ≤ n;omega,hd0,rfl⟩ fun s hs=>?_
  obtain ⟨k,d⟩:=s;obtain ⟨hk,hd,hr⟩:k ≤ n ∧ d.size = n ∧ heapBuild ltInt h a k d = heapBuild ltInt h a ((h - 1) / 2 + 1) d0:=hs;show H _ _ _ [(9,.int .i64 ((k:Int) - 1)),_,_,_,_] f (slc p n c _ 1 (arr d)::F) _
  cases k with
  | zero =>
   rw [← hr];refine gL ?_;exact H.Ba () trivial ⟨rfl,rfl,rfl,rfl,trivial⟩ rfl rfl
  | succ j =>
   refine H.Bh (d:=9) (u:=.int .i64 (j:Int)) rfl (by first | rfl | (congr 1;omega)) ?_;refine gU ?_;refine H.Al rfl rfl rfl (siftDown_fn f F (p:=p) (c:=c) (lo:=j) (hi:=h) (first:=a) hd hn (by omega) (by omega)) fun v f' A' hR=>?_;obtain ⟨rfl,hff,rfl⟩:=hR;rw [hff];refine gD ?_;exact H.ag (j,siftDown ltInt h a j d) ⟨by show j ≤ n;omega,by show (siftDown ltInt h a j d).size = n;rw [hsz];exact hd,hr⟩ (by show j < j + 1;omega)
 have hd1:(heapBuild ltInt h a ((h - 1) / 2 + 1) d0).size = n:=by rw [heapBuild_size];exact hd0
 generalize heapBuild ltInt h a ((h - 1) / 2 + 1) d0 = d1 at *;show H _ _ _ [(6,.int .i64 (a:Int)),(7,.int .i64 0),(8,.int .i64 (h:Int)),(0,.slice p n c)] f (slc p n c _ 1 (arr d1)::F) _;refine gD ?_
 refine H.lo (ι:=Nat × Array Int) (fun s=>[(10,.int .i64 ((s.1:Int) - 1)),(6,.int .i64 (a:Int)),(7,.int .i64 0),(8,.int .i64 (h:Int)),(0,.slice p n c)]) (fun _=>f) (fun s=>slc p n c 24 1 (arr s.2)::F)
  (fun s=>s.1 ≤ h ∧ s.2.size = n ∧ heapPop ltInt a s.1 s.2 = heapPop ltInt a h d1) (fun s=>s.1) (h,d1) ⟨Nat.le_refl h,hd1,rfl⟩ fun s hs=>?_
 obtain ⟨k,d⟩:=s;obtain ⟨hk,hd,hr⟩:k ≤ h ∧ d.size = n ∧ heapPop ltInt a k d = heapPop ltInt a h d1:=hs;show H _ _ _ [(10,.int .i64 ((k:Int) - 1)),_,_,_,_] f (slc p n c _ 1 (arr d)::F) _
 cases k with
 | zero =>
  rw [← hr];refine gL ?_;exact qaP
 | succ j =>
  refine H.Bh (d:=10) (u:=.int .i64 (j:Int)) rfl (by first | rfl | (congr 1;omega)) ?_;refine qdX fun sb hp=>?_;subst hp;refine gU ?_;refine H.drawN (by kernel_rfl) (by decide +kernel) (by repeat (first | exact zac | refine zab ?_ | refine zah ?_ | refine zaj ?_)) ?_;refine qdc ?_;refine qhc ?_;refine HN.ar (i:=5) (z:=((a + j:Nat):Int)) (by kernel_rfl) rfl rfl rfl rfl rfl (by rw [wr_i64 (by omega)];omega) rfl ?_;refine qek ?_;refine HQ.Aj (i:=a + j) rfl rfl rfl (by omega) (by omega) rfl ?_;refine qfG ?_;refine qdK ?_;refine qcU ?_;refine qdo ?_;refine HB.qu [16] 3 ?_;refine qdK ?_;refine qgA ?_;refine qdn ?_;refine HB.qu [18] 1 ?_;refine HQ.Aj (i:=a + j) rfl rfl rfl (by omega) (by omega) rfl ?_;refine qdb ?_;refine HB.ev 19 ?_;refine qd ?_;show H _ _ _ _ f (slc (some ⟨sb,0,none⟩) n c _ 1 (arr (swp d (a) (a + j)))::_) _;refine gJ ?_;refine H.Al rfl rfl rfl (siftDown_fn f F (p:=some ⟨sb,0,none⟩) (c:=c) (lo:=0) (hi:=j) (first:=a) (d0:=swp d a (a + j)) (by rw [zbj];exact hd) hn (by omega) (by omega)) fun v f' A' hR=>?_;obtain ⟨rfl,hff,rfl⟩:=hR;rw [hff];refine gD ?_;exact H.ag (j,siftDown ltInt j a 0 (swp d a (a + j))) ⟨by show j ≤ h;omega,by show (siftDown ltInt j a 0 (swp d a (a + j))).size = n;rw [siftDown_size,zbj];exact hd,hr⟩ (by show j < j + 1;omega)
theorem reverse_fn (hd0:d0.size = n) (hn:n ≤ 1000000) (hab:a < b) (hb:b ≤ n) :
  Fn Tryz.prog 177 [.slice p n c,.int .i64 (a:Int),.int .i64 (b:Int)] f (slc p n c 24 1 (arr d0)::F) (Ret (.tuple #[]) f (slc p n c 24 1 (arr (reverseRange d0 a b))::F)):=by
 obtain ⟨b1,rfl⟩:∃ b1,b = b1 + 1:=⟨b - 1,by omega⟩;refine Fn.e3 Tryz.func177 Tryz.ntmps177 fun base=>?_;refine gD ?_
 refine H.lo (ι:=Nat × Nat × Array Int) (fun s=>[(6,.int .i64 (s.1:Int)),(7,.int .i64 (s.2.1:Int)),(0,.slice p n c)]) (fun _=>f) (fun s=>slc p n c 24 1 (arr s.2.2)::F)
  (fun s=>s.1 ≤ n ∧ s.2.1 < n ∧ s.2.2.size = n ∧ reverseLoop s.1 s.2.1 s.2.2 = reverseRange d0 a (b1 + 1)) (fun s=>s.2.1 - s.1) (a,b1,d0) ⟨by show a ≤ n;omega,by show b1 < n;omega,hd0,rfl⟩ fun s hs=>?_
 obtain ⟨i,j,d⟩:=s;obtain ⟨hi,hj,hd,hr⟩:i ≤ n ∧ j < n ∧ d.size = n ∧ reverseLoop i j d = reverseRange d0 a (b1 + 1):=hs;show H _ _ _ [(6,.int .i64 (i:Int)),(7,.int .i64 (j:Int)),_] f (slc p n c _ 1 (arr d)::F) _;rw [reverseLoop] at hr;by_cases hlt:i < j
 ·rw [if_pos hlt] at hr;refine qdX fun sb hp=>?_;subst hp;refine gG ?_;refine H.drawN (by kernel_rfl) (by decide +kernel) (by repeat (first | exact zac | refine zab ?_ | refine zah ?_ | refine zaj ?_)) ?_;refine qds ?_;refine qeq ?_;refine qfG ?_;refine HQ.Aj (i:=i) rfl rfl rfl (by omega) (by omega) rfl ?_;refine qcU ?_;refine qdo ?_;refine HB.qu [12] 3 ?_;refine HQ.Aj (i:=i) rfl rfl rfl (by omega) (by omega) rfl ?_;refine qga ?_;refine qeq ?_;refine qgL ?_;refine qd ?_;show H _ _ _ _ f (slc (some ⟨sb,0,none⟩) n c _ 1 (arr (swp d (i) (j)))::_) _;obtain ⟨j1,rfl⟩:∃ j1,j = j1 + 1:=⟨j - 1,by omega⟩;refine gD ?_;exact H.ag (i + 1,j1,swp d i (j1 + 1)) ⟨by show i + 1 ≤ n;omega,by show j1 < n;omega,by show (swp d i (j1 + 1)).size = n;rw [zbj];exact hd,hr⟩ (by show j1 - (i + 1) < j1 + 1 - i;omega)
 ·rw [if_neg hlt] at hr;rw [← hr];refine gP ?_;exact qaP
end
open Go.Sort (swp ltInt insInner insOuter insertionSort siftDown heapBuild heapPop heapSort reverseLoop reverseRange scanUp scanDown partLoop partEqLoop scanSorted shiftDown shiftUp partialIns partialInsertionSort)
open Go.Sort (bitsLen PermIn swp_permIn permIn_trans permIn_refl)
theorem tab8:∀ i:Fin 256,Lib.len8tab[i.val]? = some (UInt8.ofNat (bitsLen i.val)) ∧ i.val < 2 ^ bitsLen i.val ∧ (8 ≤ i.val→2 ^ bitsLen i.val ≤ 2 * i.val) ∧ bitsLen i.val ≤ 8:=by decide +kernel
theorem and_le (x:Int) {m:Nat} (hm:m ≤ 511):0 ≤ IntKind.wrap .u64 ((BitVec.ofInt IntKind.u64.bits x &&& BitVec.ofInt IntKind.u64.bits (m:Int)).toNat:Nat) ∧ IntKind.wrap .u64 ((BitVec.ofInt IntKind.u64.bits x &&& BitVec.ofInt IntKind.u64.bits (m:Int)).toNat:Nat) ≤ (m:Int):=by
 have h1:(BitVec.ofInt IntKind.u64.bits x &&& BitVec.ofInt IntKind.u64.bits (m:Int)).toNat ≤ m:=by
  rw [BitVec.toNat_and];refine Nat.le_trans Nat.and_le_right ?_;rw [BitVec.ofInt_natCast,BitVec.toNat_ofNat];exact Nat.mod_le _ _
 rw [wr_u64 (by omega)];omega
variable {x:Nat}
section
variable (f:Frag) (F:List HP)
theorem len64_fn (hx:x < 256):Fn Tryz.prog 163 [.int .u64 (x:Int)] f F (Ret (.int .i64 (bitsLen x:Nat)) f F):=by
 have ht:=tab8 ⟨x,hx⟩
 have hb:(UInt8.ofNat (bitsLen x)).toNat = bitsLen x:=by
  have:=ht.2.2.2;have:bitsLen x ≤ 8:=this
  exact qcl
 have hb8:bitsLen x ≤ 8:=ht.2.2.2;refine Fn.e1 Tryz.func163 Tryz.ntmps163 fun base=>?_
 refine gP ?_;refine H.indexS (s:=Lib.len8tab) (i:=x) rfl (by kernel_rfl) rfl rfl ht.1 rfl ?_;rw [hb];refine gD ?_;refine H.Ad rfl rfl (fun _ h=>h) ⟨?_,rfl,rfl⟩;first | rfl | (congr 1;omega)
theorem len_fn (hx:x < 256):Fn Tryz.prog 111 [.int .u64 (x:Int)] f F (Ret (.int .i64 (bitsLen x:Nat)) f F):=by
 have h:=fun G=>len64_fn f G hx;refine Fn.e1 Tryz.func111 Tryz.ntmps111 fun base=>?_
 refine gW ?_;refine H.cr (h _) ?_;refine gR ?_;exact qah
theorem npow_fn (hx:x < 256):Fn Tryz.prog 220 [.int .i64 (x:Int)] f F (Ret (.int .u64 ((2 ^ bitsLen x:Nat):Int)) f F):=by
 have h:=fun G=>len_fn f G hx;have hb8:bitsLen x ≤ 8:=(tab8 ⟨x,hx⟩).2.2.2
 have hp:2 ^ bitsLen x ≤ 2 ^ 8:=Nat.pow_le_pow_right (by decide) hb8
 have e:IntKind.wrap .u64 ((1:Int) * 2 ^ (min ((bitsLen x:Nat):Int).toNat IntKind.u64.bits)) = ((2 ^ bitsLen x:Nat):Int):=by
  have e1:min ((bitsLen x:Nat):Int).toNat IntKind.u64.bits = bitsLen x:=by
   rw [Int.toNat_natCast];exact Nat.min_eq_left (by show _ ≤ 64;omega)
  have e2:((2 ^ bitsLen x:Nat):Int) = (2:Int) ^ bitsLen x:=by rw [Int.natCast_pow];rfl
  rw [e1,Int.one_mul,← e2];generalize 2 ^ bitsLen x = m at hp ⊢;exact wr_u64 (by omega)
 refine Fn.e1 Tryz.func220 Tryz.ntmps220 fun base=>?_;refine gD ?_;refine H.cr (h _) ?_;skip;refine H.Bo (op:=.shl) rfl rfl rfl rfl (by omega) e rfl ?_;refine gR ?_;exact qah
def NextP (f:Frag) (F:List HP) (rb:Nat):Value→Frag→List HP→Prop:=fun v f' A'=>∃ z:Int,v = .int .u64 z ∧ f' = f ∧ A' = row rb 297 [.int .u64 z]::F
theorem next_fn {rb:Nat} {z:Int}:Fn Tryz.prog 221 [.pointer (some ⟨rb,0,none⟩)] f (row rb 297 [.int .u64 z]::F) (NextP f F rb):=by
 refine Fn.e1 Tryz.func221 Tryz.ntmps221 fun base=>?_;refine gJ ?_;refine qdG ?_;refine gA ?_;refine qdG ?_;refine gA ?_;refine qdG ?_;refine gM ?_;exact H.r1 ⟨_,rfl,rfl,rfl⟩
def BrkP (f:Frag) (F:List HP) (p:Option Addr) (n c a b:Nat) (d0:Array Int):Value→Frag→List HP→Prop:=fun v f' A'=>∃ d:Array Int,PermIn a b d0 d ∧ v = .tuple #[] ∧ f' = f ∧ A' = slc p n c 24 1 (arr d)::F
theorem break_fn (hd0:d0.size = n) (hn:n ≤ 255) (h8:a + 8 ≤ b) (hb:b ≤ n) :
  Fn Tryz.prog 175 [.slice p n c,.int .i64 (a:Int),.int .i64 (b:Int)] f (slc p n c 24 1 (arr d0)::F) (BrkP f F p n c a b d0):=by
 obtain ⟨l,hl⟩:∃ l,l = b - a:=⟨_,rfl⟩;have hz:(b:Int) - (a:Int) = (l:Int):=by omega
 have h1:=tab8 ⟨l,by omega⟩;have hm1:l < 2 ^ bitsLen l:=h1.2.1
 have hm2:2 ^ bitsLen l ≤ 2 * l:=h1.2.2.1 (by show 8 ≤ l;omega);have hnp:=fun G=>npow_fn f G (x:=l) (by omega)
 have hq:IntKind.wrap .i64 ((l:Int).tdiv 4) = ((l / 4:Nat):Int):=by rw [show (4:Int) = ((4:Nat):Int) from rfl,tdiv64,wr_i64 (by omega)]
 generalize 2 ^ bitsLen l = m at *;have hu:IntKind.wrap .u64 ((m:Int) - 1) = ((m - 1:Nat):Int):=by rw [wr_u64 (by omega)];omega
 refine Fn.e3 Tryz.func175 Tryz.ntmps175 fun base=>?_;refine qeH ?_;refine H.Ak (ls:=[.int .u64 0]) rfl rfl rfl fun rb=>?_;refine H.Ay rfl rfl rfl rfl (.here _ _ _) (.here _ _ _) ?_;refine gJ ?_;refine H.cr (hnp _) ?_;refine qfi ?_;refine H.Bh (d:=9) (u:=.int .i64 ((a + l / 4 * 2 - 1:Nat):Int)) rfl (by first | rfl | (congr 1;omega)) ?_;refine H.pf (x:=slc p n c _ _ _) ?_
 refine H.lo (ι:=Nat × Int × Array Int) (fun s=>[(9,.int .i64 (s.1:Int)),(8,.int .u64 (m:Int)),(7,.pointer (some ⟨rb,0,none⟩)),(6,.int .i64 (l:Int)),(0,.slice p n c),(1,.int .i64 (a:Int))]) (fun _=>f) (fun s=>slc p n c 24 1 (arr s.2.2)::row rb 297 [.int .u64 s.2.1]::F)
  (fun s=>a ≤ s.1 ∧ PermIn a b d0 s.2.2) (fun s=>n - s.1) (a + l / 4 * 2 - 1,(l:Int),d0) ⟨by show a ≤ a + l / 4 * 2 - 1;omega,permIn_refl _ _ _⟩ fun s hs=>?_
 obtain ⟨x,z,d⟩:=s;obtain ⟨hx,hP⟩:a ≤ x ∧ PermIn a b d0 d:=hs;have hd:d.size = n:=hP.1.trans hd0;show H _ _ _ [(9,.int .i64 (x:Int)),_,_,_,_,_] f (slc p n c _ 1 (arr d)::row rb _ [.int .u64 z]::F) _
 by_cases hx2:x ≤ a + l / 4 * 2 + 1
 ·skip;refine qfi ?_;refine H.pf (x:=row rb _ _) ?_;refine H.Al rfl rfl rfl (next_fn f _) fun v f' A' hR=>?_;obtain ⟨z2,rfl,hff,rfl⟩:=hR;rw [hff];have hand:=and_le z2 (m:=m - 1) (by omega);repeat (first | (refine H.ar (op:=.sub) (p:=(m:Int)) (p2:=1) (z:=((m - 1:Nat):Int)) rfl rfl rfl rfl hu rfl ?_) | (refine gg ?_))
  refine H.Bg (op:=.and) rfl rfl rfl rfl rfl rfl ?_;generalize IntKind.wrap .u64 ((BitVec.ofInt IntKind.u64.bits z2 &&& BitVec.ofInt IntKind.u64.bits ((m - 1:Nat):Int)).toNat:Nat) = o at *;obtain ⟨k,rfl⟩:∃ k:Nat,o = (k:Int):=⟨o.toNat,by omega⟩;refine H.pf (x:=slc p n c _ _ _) ?_;refine qdX fun sb hp=>?_;subst hp;by_cases hkl:l ≤ k
  ·obtain ⟨o,ho⟩:∃ o,k = l + o:=⟨k - l,by omega⟩;subst ho;have hol:((l + o:Nat):Int) - (l:Int) = (o:Int):=by omega
   repeat (first | (refine H.ar (op:=.sub) (p:=((l + o:Nat):Int)) (p2:=(l:Int)) (z:=(o:Int)) rfl rfl rfl rfl (by rw [hol,wr_i64 (by omega)]) rfl ?_) | (refine gg ?_))
   refine H.drawN (by kernel_rfl) (by decide +kernel) (by repeat (first | exact zac | refine zab ?_ | refine zah ?_ | refine zaj ?_)) ?_;refine qdc ?_;refine qhc ?_;refine HN.ar (i:=5) (z:=((a + o:Nat):Int)) (by kernel_rfl) rfl rfl rfl rfl rfl (by rw [wr_i64 (by omega)];omega) rfl ?_;refine qek ?_;refine HQ.Aj (i:=a + o) rfl rfl rfl (by omega) (by omega) rfl ?_;refine qeG ?_;refine HQ.Aj (i:=a + o) rfl rfl rfl (by omega) (by omega) rfl ?_;refine qdb ?_;refine HB.ev 19 ?_;refine qd ?_;show H _ _ _ _ f (slc (some ⟨sb,0,none⟩) n c _ 1 (arr (swp d (x) (a + o)))::_) _;refine gD ?_;exact H.ag (x + 1,z2,swp d x (a + o)) ⟨by show a ≤ x + 1;omega,permIn_trans _ _ _ _ _ hP (swp_permIn _ _ _ _ _ hx (by omega) (by omega) (by omega) (by omega))⟩ (by show n - (x + 1) < n - x;omega)
  ·refine gP ?_;refine H.drawN (by kernel_rfl) (by decide +kernel) (by repeat (first | exact zac | refine zab ?_ | refine zah ?_ | refine zaj ?_)) ?_;refine qdc ?_;refine qhc ?_;refine HN.ar (i:=5) (z:=((a + k:Nat):Int)) (by kernel_rfl) rfl rfl rfl rfl rfl (by rw [wr_i64 (by omega)];omega) rfl ?_;refine qek ?_;refine HQ.Aj (i:=a + k) rfl rfl rfl (by omega) (by omega) rfl ?_;refine qeG ?_;refine HQ.Aj (i:=a + k) rfl rfl rfl (by omega) (by omega) rfl ?_;refine qdb ?_;refine HB.ev 19 ?_;refine qd ?_;show H _ _ _ _ f (slc (some ⟨sb,0,none⟩) n c _ 1 (arr (swp d (x) (a + k)))::_) _;refine gD ?_;exact H.ag (x + 1,z2,swp d x (a + k)) ⟨by show a ≤ x + 1;omega,permIn_trans _ _ _ _ _ hP (swp_permIn _ _ _ _ _ hx (by omega) (by omega) (by omega) (by omega))⟩ (by show n - (x + 1) < n - x;omega)
 ·skip;refine qfi ?_;refine H.pd (x:=row rb _ _) ?_;exact H.end0 rfl (fun _ h=>h) ⟨d,hP,rfl,rfl,rfl⟩
end
open Go.Sort (bitsLen PermIn SortedIn swp insInner insOuter insertionSort insertionSort_holds SWO)
def iV (z:Int):List Value:=[.int .i64 z]
theorem iV_len (z:Int):(iV z).length = 1:=rfl
def gtI (x y:Int):Bool:=decide (y < x)
def arrI (d:Array Int):List Value:=d.toList.flatMap iV
theorem arrI_map (d:Array Int):arrI d = d.toList.map fun z=>.int .i64 z:=by
 unfold arrI
 induction d.toList with
 | nil=>rfl
 | cons x r ih=>rw [List.flatMap_cons,ih];rfl
theorem arrI_setV {i:Nat} (h:i < d.size) (z:Int):SetV (arrI d) (i * 1) (.int .i64 z) (arrI (d.setIfInBounds i z)):=by
 rw [Nat.mul_one,arrI_map,arrI_map,Array.toList_setIfInBounds,List.map_set];exact SetV.mk _ (by rw [List.length_map];simpa using h)
theorem Rd.arrI (h:At A (slc (some ⟨b,0,none⟩) n c 3 1 (arrI d)) A' (slc (some ⟨b,0,none⟩) n c 3 1 (arrI d))) {i:Nat} (hi:i < d.size):Rd1 f A b (i * 1) (.int .i64 d[i]!):=
 Rd1.of (i:=0) (Rd.slcElem (vals:=iV) (xs:=d.toList) iV_len (by decide) h (arr_get hi)) rfl
def cmpI (x y:Int):Int:=if y < x then -1 else if x < y then 1 else 0
variable {xs:List Int}
section
variable (f:Frag) (F:List HP)
theorem nanI_fn (x:Int):Fn Tryz.prog 112 [.int .i64 x] f F (Ret (.bool false) f F):=by
 refine Fn.e1 Tryz.func112 Tryz.ntmps112 fun base=>?_;exact qbD
theorem compareI_fn (x y:Int):Fn Tryz.prog 71 [.int .i64 y,.int .i64 x] f F (Ret (.int .i64 (cmpI x y)) f F):=by
 refine Fn.e2 Tryz.func71 Tryz.ntmps71 fun base=>?_;refine gJ ?_;refine H.Af rfl rfl rfl (nanI_fn f _ y) ?_;refine gJ ?_;refine H.Af rfl rfl rfl (nanI_fn f _ x) ?_;by_cases h1:y < x
 ·have e:cmpI x y = -1:=by unfold cmpI;rw [if_pos h1]
  rw [e];refine gc ?_;exact qah
 ·by_cases h2:x < y
  ·have e:cmpI x y = 1:=by unfold cmpI;rw [if_neg h1,if_pos h2]
   rw [e];refine gc ?_;exact qah
  ·have e:cmpI x y = 0:=by unfold cmpI;rw [if_neg h1,if_neg h2]
   rw [e];refine gc ?_;exact qah
theorem cmpC_fn (x y:Int):Fn Tryz.prog 70 [.int .i64 x,.int .i64 y] f F (Ret (.int .i64 (cmpI x y)) f F):=by
 refine Fn.e2 Tryz.func70 Tryz.ntmps70 fun base=>?_;refine gJ ?_;refine H.Af rfl rfl rfl (compareI_fn f _ x y) ?_;refine gR ?_;exact qah
theorem cmpI_lt (x y:Int):decide (cmpI x y < 0) = gtI x y:=by
 unfold cmpI gtI;by_cases h:y < x
 ·rw [if_pos h,decide_eq_true h];rfl
 ·rw [if_neg h,decide_eq_false h];split <;> rfl
def cmpV:Value:=.func (.func 70) #[] #[]
theorem insSortC_fn (hd0:d0.size = n) (hn:n ≤ 1000000) (hb:b ≤ n) (ha:a ≤ n) :
  Fn Tryz.prog 154 [.slice p n c,.int .i64 (a:Int),.int .i64 (b:Int),cmpV] f (slc p n c 3 1 (arrI d0)::F) (Ret (.tuple #[]) f (slc p n c 3 1 (arrI (insertionSort gtI d0 a b))::F)):=by
 refine Fn.e4 Tryz.func154 Tryz.ntmps154 fun base=>?_;refine gD ?_
 refine H.lo (ι:=Nat × Array Int) (fun s=>[(8,.int .i64 (s.1:Int)),(0,.slice p n c),(1,.int .i64 (a:Int)),(2,.int .i64 (b:Int)),(3,cmpV)]) (fun _=>f) (fun s=>slc p n c 3 1 (arrI s.2)::F)
  (fun s=>s.1 ≤ n + 1 ∧ s.2.size = n ∧ insOuter gtI a b s.1 s.2 = insertionSort gtI d0 a b) (fun s=>b - s.1) (a + 1,d0) ⟨by show a + 1 ≤ n + 1;omega,hd0,rfl⟩ fun s hs=>?_
 obtain ⟨i,d1⟩:=s;obtain ⟨hi,hd1,hR⟩:i ≤ n + 1 ∧ d1.size = n ∧ insOuter gtI a b i d1 = insertionSort gtI d0 a b:=hs;show H _ _ _ [(8,.int .i64 (i:Int)),_,_,_,_] f (slc p n c _ 1 (arrI d1)::F) _;rw [insOuter] at hR;by_cases hlt:i < b
 ·rw [if_pos hlt] at hR;refine gG ?_
  refine H.lo (ι:=Nat × Array Int) (fun s=>[(9,.int .i64 (s.1:Int)),(8,.int .i64 (i:Int)),(0,.slice p n c),(1,.int .i64 (a:Int)),(2,.int .i64 (b:Int)),(3,cmpV)]) (fun _=>f) (fun s=>slc p n c 3 1 (arrI s.2)::F)
   (fun s=>s.1 ≤ i ∧ s.2.size = n ∧ insInner gtI a s.1 s.2 = insInner gtI a i d1) (fun s=>s.1) (i,d1) ⟨Nat.le_refl i,hd1,rfl⟩ fun s hs=>?_
  obtain ⟨k,d⟩:=s;obtain ⟨hk,hd,hr⟩:k ≤ i ∧ d.size = n ∧ insInner gtI a k d = insInner gtI a i d1:=hs;show H _ _ _ [(9,.int .i64 (k:Int)),_,_,_,_,_] f (slc p n c _ 1 (arrI d)::F) _;refine H.Av (p:=p) (n0:=n) (c:=c) (T:=3) (sz:=1) (xs:=arrI d) (.here _ _ _) (by omega) fun sb hp=>?_;subst hp;by_cases hka:a < k
  ·obtain ⟨j,rfl⟩:∃ j,k = j + 1:=⟨k - 1,by omega⟩;rw [insInner] at hr;have hja:decide (j + 1 > a) = true:=decide_eq_true hka;rw [hja,Bool.true_and] at hr
   refine qfn ?_;refine HB.qu [0,1,2,3,4,5,6,7,8,9,10,11,12,13] 3 ?_;refine gN ?_;refine HQ.Aj (i:=j + 1) rfl rfl rfl rfl (by omega) rfl ?_;refine qgs ?_;refine gK ?_;refine qeq ?_;refine qgs ?_;refine qdb ?_;refine HB.ev 14 ?_;refine H.callVR (fs:=[]) (cs:=[]) rfl rfl rfl rfl (cmpC_fn f _ d[j + 1]! d[j]!) ?_;refine qcS ?_;have hc:=cmpI_lt d[j + 1]! d[j]!
   cases hlj:gtI d[j + 1]! d[j]! with
   | false =>
    rw [hlj] at hc;rw [hlj,if_neg (by decide)] at hr;rw [← hr] at hR;have hc:=of_decide_eq_false hc;generalize cmpI d[j + 1]! d[j]! = cz at hc ⊢
    refine HB.qu [15,16] 0 ?_;refine gN ?_;refine qdk ?_;refine gP ?_;exact qbl
   | true =>
    rw [hlj] at hc;rw [hlj,if_pos rfl] at hr;have hc:=of_decide_eq_true hc;generalize cmpI d[j + 1]! d[j]! = cz at hc ⊢
    refine HB.qu [15,16] 0 ?_;refine gN ?_;refine qdk ?_;refine gG ?_;refine H.drawN (by kernel_rfl) (by decide +kernel) (by with_reducible (repeat (first | exact zac | refine zab ?_ | refine zah ?_ | refine zaj ?_))) ?_;refine qhi ?_;refine HN.phase [0,1,5,6,7,8,9,10,11,12,13] (S:=[slc (some ⟨sb,0,none⟩) n c 3 1 (arrI d)]) rfl ?_;refine HB.qu [0,1,5,6,7,8,9,10,11,12,13] 4 ?_;refine gK ?_;refine qeq ?_;refine qgs ?_;refine gB ?_;refine qgr ?_;refine qgs ?_;refine qdo ?_;refine HB.qu [14] 3 ?_;refine qgr ?_;refine qgL ?_;refine H.Bc rfl rfl rfl rfl (.here _ _ _) (arrI_setV (by omega) _) ?_;refine qcS ?_;refine HB.qu [16] 1 ?_;refine qeq ?_;refine qgA ?_;refine H.Bc rfl rfl rfl rfl (.here _ _ _) (arrI_setV (by rw [Array.size_setIfInBounds];omega) _) ?_;refine qdD ?_;show H _ _ _ _ f (slc (some ⟨sb,0,none⟩) n c _ 1 (arrI (swp d (j + 1) (j)))::_) _;exact qca
  ·have hr2:insInner gtI a k d = d:=by
    cases k with
    | zero=>rfl
    | succ j=>rw [insInner,if_neg (by rw [decide_eq_false (by omega),Bool.false_and];decide)]
   rw [hr2] at hr;rw [← hr] at hR;refine qfn ?_;refine HB.qu [0,1,2,3,4,5,6,7,8,9,10,11,12,13] 3 ?_;refine gN ?_;refine qdb ?_;refine HB.ev 14 ?_;refine qeT ?_;refine HB.qu [15,16] 0 ?_;refine qeP ?_;refine gW ?_;exact qbl
 ·rw [if_neg hlt] at hR;rw [← hR];refine gP ?_;exact qaP
theorem swo_gtI:SWO gtI:=⟨fun x=>decide_eq_false (Int.lt_irrefl x),fun x y z h1 h2=>by
  have h1:=of_decide_eq_true h1
  have h2:=of_decide_eq_true h2
  exact decide_eq_true (by omega),fun x y z h1 h2=>by
  have h1:=of_decide_eq_false h1
  have h2:=of_decide_eq_false h2
  exact decide_eq_false (by omega)⟩
theorem insC_ok (hx:xs.length = n):(insertionSort gtI xs.toArray 0 n).toList.Perm xs ∧ (insertionSort gtI xs.toArray 0 n).toList.Pairwise (fun a b=>b ≤ a):=by
 have e:xs.toArray.size = n:=by simpa using hx
 obtain ⟨h1,h2⟩:=insertionSort_holds (lt:=gtI) swo_gtI xs.toArray 0 n (Nat.zero_le _) (by omega);generalize insertionSort gtI xs.toArray 0 n = d at h1 h2;have hdn:d.size = n:=h1.1.trans e;refine ⟨?_,?_⟩
 ·have h3:=h1.2.2;have e1:d.extract 0 n = d:=by rw [← hdn];exact Array.extract_size
  have e2:xs.toArray.extract 0 n = xs.toArray:=by rw [← e];exact Array.extract_size
  rw [e1,e2] at h3;exact h3
 ·rw [List.pairwise_iff_getElem];intro i j hi hj hij;have hi':i < d.size:=by simpa using hi
  have hj':j < d.size:=by simpa using hj
  have h3:=h2 i j (Nat.zero_le _) hij (by omega);rw [getElem!_pos d i hi',getElem!_pos d j hj'] at h3
  have h3:=of_decide_eq_false h3;simp only [Array.getElem_toList]
  omega
theorem pdqC_fn {lim:Int} (hd0:d0.size = n) (hn:n ≤ 12) :
  Fn Tryz.prog 110 [.slice p n c,.int .i64 0,.int .i64 (n:Int),.int .i64 lim,cmpV] f (slc p n c 3 1 (arrI d0)::F) (Ret (.tuple #[]) f (slc p n c 3 1 (arrI (insertionSort gtI d0 0 n))::F)):=by
 have hi:=insSortC_fn f F (p:=p) (n:=n) (c:=c) (a:=0) (b:=n) hd0 (by omega) (Nat.le_refl _) (Nat.zero_le _);refine Fn.e5 Tryz.func110 Tryz.ntmps110 fun base=>?_
 refine gR ?_;refine H.lo (ι:=Unit) (fun _=>[(0,.slice p n c),(1,.int .i64 0),(2,.int .i64 (n:Int)),(3,.int .i64 lim),(4,cmpV)]) (fun _=>f) (fun _=>slc p n c 3 1 (arrI d0)::F) (fun _=>True) (fun _=>0) () trivial fun s _=>?_;refine gc ?_;refine H.Af rfl rfl rfl hi ?_;refine gR ?_;exact H.ret0 rfl (fun _ h=>h) ⟨rfl,rfl,rfl⟩
theorem sortD_fn (hx:xs.length = n) (hn:n ≤ 12) :
  Fn Tryz.prog 69 [.slice p n c,cmpV] f (slc p n c 3 1 (xs.flatMap iV)::F)
   (fun v f' A'=>∃ ys:List Int,ys.Perm xs ∧ ys.Pairwise (fun a b=>b ≤ a) ∧ v = .tuple #[] ∧ f' = f ∧ A' = slc p n c 3 1 (ys.flatMap iV)::F):=by
 have hl:=fun G=>len_fn f G (x:=n) (by omega);have hs:=pdqC_fn f F (p:=p) (n:=n) (c:=c) (lim:=(bitsLen n:Nat)) (d0:=xs.toArray) (by simpa using hx) hn
 obtain ⟨h1,h2⟩:=insC_ok hx;show Fn _ _ _ f (slc p n c 3 1 (arrI xs.toArray)::F) _;refine Fn.e2 Tryz.func69 Tryz.ntmps69 fun base=>?_;refine gD ?_;refine H.cr (hl _) ?_;refine gJ ?_;refine H.Af rfl rfl rfl hs ?_;refine gA ?_;exact H.end0 rfl (fun _ h=>h) ⟨_,h1,h2,rfl,rfl,rfl⟩
end
def viewsV (l:List (Int × Int)):List Value:=l.map fun p=>.int .u64 p.1
abbrev keyU (k:Int):Value:=.int .u64 k
instance:KeyT Tryz.prog 24 keyU:=keyT_int ⟨Tryz.underlying24⟩
def pastL (b eb ec mb:Nat) (s:PM):List HP:=[row b 188 [.int .u64 s.g,.slice (some ⟨eb,0,none⟩) (s.init.length + 1) ec,.map (some mb)],
 slc (some ⟨eb,0,none⟩) (s.init.length + 1) ec 24 1 (viewsV s.all),mp mb keyU (PM.kv s.all)]
def pastH (b:Nat) (s:PM):HP:=fun h=>∃ i:Nat × Nat × Nat,stars (pastL b i.1 i.2.1 i.2.2 s) h
variable {s:PM}
theorem zbc {eb ec mb:Nat}:∀ x,stars (row b 188 [.int .u64 s.g,.slice (some ⟨eb,0,none⟩) (s.init.length + 1) ec,.map (some mb)] ::
 slc (some ⟨eb,0,none⟩) (s.init.length + 1) ec 24 1 (viewsV s.all)::mp mb keyU (PM.kv s.all)::F) x→stars (pastH b s::F) x:=
 fold_stars (B:=[_,_,_]) fun x hx=>⟨(eb,ec,mb),hx⟩
variable {fid:FuncId} {args:List Value} {R:Value→Frag→List HP→Prop}
theorem pastH_open
  (k : ∀ eb ec mb, Fn Tryz.prog fid args f (row b 188 [.int .u64 s.g, .slice (some ⟨eb, 0, none⟩) (s.init.length + 1) ec, .map (some mb)] ::
   slc (some ⟨eb,0,none⟩) (s.init.length + 1) ec 24 1 (viewsV s.all)::mp mb keyU (PM.kv s.all)::F) R):Fn Tryz.prog fid args f (pastH b s::F) R:=
 Fn.unfold (fun _ h=>h) fun ⟨eb,ec,mb⟩=>k eb ec mb
theorem viewsV_last (s:PM):(viewsV s.all)[s.init.length]? = some (.int .u64 s.lv):=by
 simp [viewsV,PM.all]
section
variable (f:Frag) (F:List HP) (b:Nat) (s:PM)
theorem last_fn (hn:s.init.length ≤ 1000000):Fn Tryz.prog 211 [.pointer (some ⟨b,0,none⟩)] f (pastH b s::F) (Ret (.int .u64 s.lv) f (pastH b s::F)):=by
 refine pastH_open fun eb ec mb=>?_;refine Fn.e1 Tryz.func211 Tryz.ntmps211 fun base=>?_;refine gJ ?_;refine qhl ?_;refine HQ.index1 rfl rfl rfl rfl (by omega) rfl ?_;refine HQ.Ab rfl rfl rfl (.of (Rd.ofSlc (by repeat constructor) (by omega)) (viewsV_last s)) rfl ?_;refine gK ?_;refine gR ?_;exact H.Ad rfl rfl zbc ⟨rfl,rfl,rfl⟩
theorem new_fn:Fn Tryz.prog 83 [] f F (fun v f' A'=>∃ b,v = .pointer (some ⟨b,0,none⟩) ∧ f' = f ∧ A' = pastH b PM.new::F):=by
 refine Fn.e0 Tryz.func83 Tryz.ntmps83 fun base=>?_;refine gJ ?_;refine qdF fun eb=>?_;refine H.makeMap keyU rfl rfl fun mb=>?_;refine H.mapInsert rfl rfl rfl rfl (by repeat constructor) rfl ?_;refine gG ?_;refine H.box rfl rfl rfl rfl fun b=>?_;refine gR ?_;refine H.Ad rfl rfl (A':=pastH b PM.new::F) ?_ ⟨b,rfl,rfl,rfl⟩;intro x hx;refine zbc (eb:=eb) (ec:=1) (mb:=mb) x ?_;refine keep_stars (fun y hy=>?_) x hx;have h1:=stars_two hy;obtain ⟨m1,m2,d,e,a,r⟩:=h1
 exact qbz
theorem open_fn (hn:s.init.length ≤ 1000000) (v:Int):Fn Tryz.prog 212 [.pointer (some ⟨b,0,none⟩),.int .u64 v] f (pastH b s::F) (Ret (.bool (s.isOpen v)) f (pastH b s::F)):=by
 refine pastH_open fun eb ec mb=>?_;by_cases hv:v = s.g
 ·refine Fn.e2 Tryz.func212 Tryz.ntmps212 fun base=>?_;refine gT ?_;refine H.imp zbc ?_;refine H.Al rfl rfl rfl (last_fn f F b s hn) fun _ _ _ hR=>?_;obtain ⟨rfl,rfl,rfl⟩:=hR;refine gL ?_;exact qbW
 ·refine Fn.e2 Tryz.func212 Tryz.ntmps212 fun base=>?_;refine gY ?_;exact H.Ad rfl rfl zbc ⟨by simp [PM.isOpen,hv],rfl,rfl⟩
theorem change_fn (v:Int):Fn Tryz.prog 133 [.pointer (some ⟨b,0,none⟩),.int .u64 v] f (pastH b s::F) (Ret (.bool (s.changeOk v)) f (pastH b (s.change v)::F)):=by
 refine pastH_open fun eb ec mb=>?_;by_cases h1:v ≤ s.g
 ·refine Fn.e2 Tryz.func133 Tryz.ntmps133 fun base=>?_;refine gY ?_;exact qcb
 ·by_cases h2:1073741824 ≤ v
  ·refine Fn.e2 Tryz.func133 Tryz.ntmps133 fun base=>?_;refine ga ?_;exact qcb
  ·refine Fn.e2 Tryz.func133 Tryz.ntmps133 fun base=>?_;refine ga ?_;have e:s.changeOk v = true:=by simp [PM.changeOk];omega
   refine H.Ad rfl rfl (A':=pastH b (s.change v)::F) ?_ ⟨by rw [e],rfl,rfl⟩;rw [show s.change v = { s with g:=v } by simp [PM.change,e]];exact zbc (s:={ s with g:=v })
theorem voted_fn (v:Int):Fn Tryz.prog 63 [.pointer (some ⟨b,0,none⟩),.int .u64 v] f (pastH b s::F) (Ret (.tuple #[.int .i64 ((PM.voted s.all v).getD 0),.bool (PM.voted s.all v).isSome]) f (pastH b s::F)):=by
 refine pastH_open fun eb ec mb=>?_
 have hg:(getKV (PM.kv s.all) v).getD (.int .i64 0) = .int .i64 ((PM.voted s.all v).getD 0):=by
  rw [PM.getKV_kv];cases PM.voted s.all v <;> rfl
 have hi:(getKV (PM.kv s.all) v).isSome = (PM.voted s.all v).isSome:=by
  rw [PM.getKV_kv];cases PM.voted s.all v <;> rfl
 refine Fn.e2 Tryz.func63 Tryz.ntmps63 fun base=>?_;refine gU ?_;refine H.lookup2 rfl rfl rfl (by repeat constructor) rfl hg hi rfl ?_;refine gW ?_;exact H.Bb rfl rfl rfl zbc ⟨rfl,rfl,rfl⟩
end
variable {sz:Nat} {B:Int}
section
variable (f:Frag) (F:List HP) (b:Nat) (s:PM)
theorem Fn.slc_len {P:Program} {f:Frag} {n0:Nat} {xs:List Value} (h:At A (slc p n0 c T sz xs) A' (slc p n0 c T sz xs))
  (k:xs.length = n0 * sz→Fn P fid args f A R):Fn P fid args f A R:=fun base w s=>k (s.slc_at h).1 base w s
theorem one_views (l:List (Int × Int)):∀ v ∈ viewsV l,one v = true:=by
 intro v hv;obtain ⟨p,_,rfl⟩:=List.mem_map.1 hv;rfl
theorem clone_fn (p:Option Addr) (n c:Nat) (xs:List Value) (h1:∀ v ∈ xs,one v = true) (hn:n ≤ 1000000) (A:List HP) (hp:p.isNone = false) (hA:At A (slc p n c 24 1 xs) A (slc p n c 24 1 xs)) :
  Fn Tryz.prog 246 [.slice p n c] f A (fun v f' A'=>∃ p' c',v = .slice p' n c' ∧ f' = f ∧ A' = slc p' n c' 24 1 xs::A):=by
 refine Fn.slc_len hA fun hl=>?_
 cases p with
 | none=>cases hp
 | some a =>
 refine Fn.e1 Tryz.func246 Tryz.ntmps246 fun base=>?_;refine qfl fun eb=>?_;repeat (((apply H.Au);(iterate 3 exact rfl)))
 refine H.imp (A':=slc (some ⟨eb,0,none⟩) 0 0 24 1 []::A) ?_ ?_
 ·rintro x ⟨m1,m2,d,e,a,r⟩;exact qbz
 refine H.Aw rfl rfl rfl rfl rfl (fun p' c'=>.here _ _ _) (Src.slcS (.there _ hA) hl) h1 rfl (by omega) (by omega) fun p' c'=>?_;refine gR ?_;refine H.Ad rfl rfl (A':=slc p' n c' 24 1 xs::A) ?_ ⟨p',c',by rw [Nat.zero_add],rfl,rfl⟩;simp only [List.nil_append,Nat.zero_add];exact fun _ h=>h
theorem entered_fn (hn:s.init.length ≤ 100000):Fn Tryz.prog 210 [.pointer (some ⟨b,0,none⟩)] f (pastH b s::F)
  (fun v f' A'=>∃ p' c',v = .slice p' (s.init.length + 1) c' ∧ f' = f ∧ A' = slc p' (s.init.length + 1) c' 24 1 (viewsV s.all)::pastH b s::F):=by
 refine pastH_open fun eb ec mb=>?_;refine Fn.e1 Tryz.func210 Tryz.ntmps210 fun base=>?_;refine gU ?_;refine H.Al rfl rfl rfl (clone_fn f _ _ _ _ (one_views s.all) (by omega) _ rfl (by repeat constructor)) fun v f' A' hR=>?_;obtain ⟨p',c',rfl,rfl,rfl⟩:=hR;refine gR ?_;exact H.Ad rfl rfl (keep_stars zbc) ⟨p',c',rfl,rfl,rfl⟩
theorem prepare_fn (hw:PM.WF s B) (hB:B ≤ 9000000000000000000) (hn:s.init.length ≤ 1000000) (v:Int):Fn Tryz.prog 139 [.pointer (some ⟨b,0,none⟩),.int .u64 v] f (pastH b s::F) (Ret (.bool (s.isOpen v)) f (pastH b (s.prepare v)::F)):=by
 cases ho:s.isOpen v with
 | false =>
  refine Fn.e2 Tryz.func139 Tryz.ntmps139 fun base=>?_;refine qgB fun _ _ _ hR=>?_;exact qbY
 | true =>
  have hv:v = s.lv:=by simp [PM.isOpen] at ho;exact ho.2
  have hl:=hw.last;have hgk:(getKV (PM.kv s.all) v).getD (.int .i64 0) = .int .i64 s.ln:=by rw [PM.getKV_kv,hv,PM.voted_last hw];rfl
  have hput:putKV (PM.kv s.all) v (.int .i64 (s.ln + 1)) = PM.kv ({ s with ln:=s.ln + 1 }:PM).all:=by rw [hv];exact hw.kv_bump
  refine Fn.e2 Tryz.func139 Tryz.ntmps139 fun base=>?_;refine qgB fun _ _ _ hR=>?_;obtain ⟨rfl,rfl,rfl⟩:=hR;rw [ho];refine ga ?_;refine H.unfold (fun _ h=>h) fun ⟨eb,ec,mb⟩=>?_;refine qgq ?_;refine gT ?_;refine qgW ?_;rw [hput];refine gR ?_;refine H.Ad rfl rfl (A':=pastH b (s.prepare v)::F) ?_ ⟨rfl,rfl,rfl⟩;have hf:=zbc (b:=b) (eb:=eb) (ec:=ec) (mb:=mb) (s:={ s with ln:=s.ln + 1 }) (F:=F);rw [show s.prepare v = { s with ln:=s.ln + 1 } by simp [PM.prepare,ho]]
  exact qcv
theorem commit_fn (hw:PM.WF s B) (hB:B ≤ 9000000000000000000) (hn:s.init.length ≤ 1000000) (v k most:Int) (hk:0 ≤ k ∧ k ≤ 18446744073709551615) (hm:-9223372036854775808 ≤ most ∧ most ≤ 9223372036854775807) :
  Fn Tryz.prog 140 [.pointer (some ⟨b,0,none⟩),.int .u64 v,.int .u64 k,.int .i64 most] f (pastH b s::F) (Ret (.bool (s.commitOk v k most)) f (pastH b (s.commit v k most)::F)):=by
 have hl:=hw.last
 cases ho:s.isOpen v with
 | false =>
  have e:s.commitOk v k most = false:=by simp [PM.isOpen] at ho;simp [PM.commitOk];omega
  exact qbj
 | true =>
  have hv:v = s.lv:=by simp [PM.isOpen] at ho;exact ho.2
  have hvg:v = s.g:=by simp [PM.isOpen] at ho;exact ho.1
  have hgk:(getKV (PM.kv s.all) v).getD (.int .i64 0) = .int .i64 s.ln:=by rw [PM.getKV_kv,hv,PM.voted_last hw];rfl
  have hput:putKV (PM.kv s.all) v (.int .i64 (s.ln + 1)) = PM.kv ({ s with ln:=s.ln + 1 }:PM).all:=by rw [hv];exact hw.kv_bump
  by_cases h1:most < 0
  ·have e:s.commitOk v k most = false:=by simp [PM.commitOk];omega
   clear hvg hv;refine Fn.e4 Tryz.func140 Tryz.ntmps140 fun base=>?_;refine qgB fun _ _ _ hR=>?_;obtain ⟨rfl,rfl,rfl⟩:=hR;rw [ho];refine gV ?_;exact H.Ad rfl rfl (fun _ h=>h) ⟨by rw [e],rfl,by simp [PM.commit,e]⟩
  ·by_cases h2 : most < k
   ·have e:s.commitOk v k most = false:=by simp [PM.commitOk];omega
    clear hvg hv;exact qbj
   ·have e:s.commitOk v k most = decide (k = s.ln + 1):=by rw [Bool.eq_iff_iff];simp [PM.commitOk];omega
    clear hvg hv;refine Fn.e4 Tryz.func140 Tryz.ntmps140 fun base=>?_;refine qgB fun _ _ _ hR=>?_;obtain ⟨rfl,rfl,rfl⟩:=hR;rw [ho];refine ga ?_;refine H.unfold (fun _ h=>h) fun ⟨eb,ec,mb⟩=>?_;refine qgq ?_;refine gT ?_;refine H.Bp rfl rfl rfl (by repeat constructor) rfl hgk rfl ?_;refine gc ?_;by_cases h3:k = s.ln + 1
    ·refine gO ?_;refine qgW ?_;rw [hput];refine gR ?_;refine H.Ad rfl rfl (A':=pastH b (s.commit v k most)::F) ?_ ⟨by rw [e];simp [h3],rfl,rfl⟩;have hf:=zbc (b:=b) (eb:=eb) (ec:=ec) (mb:=mb) (s:={ s with ln:=s.ln + 1 }) (F:=F);rw [show s.commit v k most = { s with ln:=s.ln + 1 } by unfold PM.commit;rw [if_pos (by rw [e];simp [h3])]]
     exact qcv
    ·refine gG ?_;exact H.Ad rfl rfl zbc ⟨by rw [e];simp [h3],rfl,by simp [PM.commit,e,h3]⟩
theorem enter_fn (hw:PM.WF s B) (hn:s.init.length ≤ 100000) (v k:Int) :
  Fn Tryz.prog 137 [.pointer (some ⟨b,0,none⟩),.int .u64 v,.int .i64 k] f (pastH b s::F) (Ret (.bool (s.enterOk v k)) f (pastH b (s.enter v k)::F)):=by
 have hl:=hw.last
 cases ho:s.enterOk v k with
 | false =>
  have hno:v ≤ s.lv ∨ v < s.g ∨ 1073741824 ≤ v ∨ k < 0:=by simp [PM.enterOk] at ho;omega
  have e2:s.enter v k = s:=by simp [PM.enter,ho]
  rw [e2];by_cases h1:v ≤ s.lv
  ·clear hno;refine Fn.e3 Tryz.func137 Tryz.ntmps137 fun base=>?_;refine gX ?_;refine H.Al rfl rfl rfl (last_fn f F b s (by omega)) fun _ _ _ hR=>?_;obtain ⟨rfl,rfl,rfl⟩:=hR;refine gV ?_;exact qah
  ·by_cases h2 : v < s.g
   ·exact qaM
   ·by_cases h3:1073741824 ≤ v
    ·exact qaM
    ·have h4:k < 0:=by omega
     clear hno;refine Fn.e3 Tryz.func137 Tryz.ntmps137 fun base=>?_;refine gX ?_;refine H.Al rfl rfl rfl (last_fn f F b s (by omega)) fun _ _ _ hR=>?_;obtain ⟨rfl,rfl,rfl⟩:=hR;refine ga ?_;refine H.unfold (fun _ h=>h) fun ⟨eb,ec,mb⟩=>?_;refine qgq ?_;refine ga ?_;exact H.Ad rfl rfl zbc ⟨rfl,rfl,rfl⟩
 | true =>
  obtain ⟨h1,h2,h3,h4⟩:s.lv < v ∧ s.g ≤ v ∧ v < 1073741824 ∧ 0 ≤ k:=by simpa [PM.enterOk] using ho
  have e2:s.enter v k = ⟨v,s.all,v,k⟩:=by simp [PM.enter,ho]
  rw [e2];have hput:=hw.kv_enter2 (long:=k) h1 ((getKV (PM.kv s.all) v).getD (.int .i64 0));refine Fn.e3 Tryz.func137 Tryz.ntmps137 fun base=>?_
  refine gX ?_;refine H.Al rfl rfl rfl (last_fn f F b s (by omega)) fun _ _ _ hR=>?_;obtain ⟨rfl,rfl,rfl⟩:=hR;refine ga ?_;refine H.unfold (fun _ h=>h) fun ⟨eb,ec,mb⟩=>?_;refine qgq ?_;refine ga ?_;refine qdF fun tb=>?_;refine qeD fun p' c'=>?_;refine H.Av (by repeat constructor) (by omega) fun eb' hp=>?_;subst hp;refine gM ?_;refine H.mapEntry rfl rfl rfl (fun st=>(by repeat constructor)) rfl rfl fun st=>?_;refine gX ?_;refine H.entryStore rfl rfl rfl rfl (by repeat constructor) ?_;rw [hput];refine qfm ?_;have hf:=zbc (b:=b) (eb:=eb') (ec:=c') (mb:=mb) (s:=⟨v,s.all,v,k⟩) (F:=F);have hvw:viewsV (⟨v,s.all,v,k⟩:PM).all = viewsV s.all ++ [.int .u64 v]:=by simp [viewsV,PM.all]
  exact qbL
end
section
variable (f:Frag) (F:List HP)
theorem changed_fn {kn:Nat→Int} {cs:Nat→Option Addr × Nat} {q:Int × Int} (hq:1 ≤ q.1 ∧ q.1 ≤ (l.n:Int)) (hn:l.n ≤ 11) (hc:∀ r,(l.ch r).length ≤ 100000) (v:Int) :
  Fn Tryz.prog 216 [.pointer (some ⟨lb,0,none⟩),.agg (pairV q).toArray,.int .u64 v] f
   (row lb 75 (lgC l.n kn vp vl vc pp pc cp cc)::slc cp l.n cc 253 1 (chRow l cs)::fam (chFam l cs) l.n::F)
   (Ret (.bool (chB l q v)) f (row lb 75 (lgC l.n kn vp vl vc pp pc cp cc)::slc cp l.n cc 253 1 (chRow l cs)::fam (chFam l cs) l.n::F)):=by
 obtain ⟨r,hre⟩:∃ r,r = (q.1 - 1).toNat:=⟨_,rfl⟩;have hr:r < l.n:=by omega
 have hrz:q.1 - 1 = (r:Nat):=by omega
 have hcr:=hc r;refine Fn.e3 Tryz.func216 Tryz.ntmps216 fun base=>?_
 refine gA ?_;refine H.box (ls:=pairV q) rfl rfl rfl rfl fun qb=>?_;refine gJ ?_;refine H.Av (p:=cp) (n0:=l.n) (c:=cc) (.there _ (.there _ (.here _ _ _))) (by omega) fun cb hp=>?_;subst hp;refine H.dq ?_;refine qfB ?_;refine gK ?_;refine H.pf (x:=fam _ _) ?_;refine H.Bn hr ?_;refine H.pf (x:=fam _ _) ?_;refine H.pf (x:=chFam l cs r) ?_;refine H.pf (x:=row qb _ _) ?_;refine gR ?_
 refine H.lo (ι:=Nat) (fun i=>[(8,.int .i64 (i:Int)),(7,.slice (cs r).1 (l.ch r).length (cs r).2),(2,.int .u64 v),(4,.pointer (some ⟨qb,0,none⟩))]) (fun _=>f)
  (fun _=>row qb 133 (pairV q)::chFam l cs r::fam (updF (chFam l cs) r emp) l.n::row lb 75 (lgC l.n kn vp vl vc pp pc (some ⟨cb,0,none⟩) cc)::slc (some ⟨cb,0,none⟩) l.n cc 253 1 (chRow l cs)::F)
  (fun i=>i ≤ (l.ch r).length ∧ ∀ j x,j < i→(l.ch r)[j]? = some x→¬ (x.1 = v ∧ x.2 = q.2)) (fun i=>(l.ch r).length - i) 0 ⟨Nat.zero_le _,fun j x hj=>by omega⟩ fun i hi=>?_
 obtain ⟨hi,hb⟩:i ≤ (l.ch r).length ∧ ∀ j x,j < i→(l.ch r)[j]? = some x→¬ (x.1 = v ∧ x.2 = q.2):=hi;by_cases hlt:i < (l.ch r).length
 ·obtain ⟨x,hx⟩:∃ x,(l.ch r)[i]? = some x:=⟨_,List.getElem?_eq_getElem hlt⟩;refine qgS fun sb hp=>?_
  have rd:∀ {G:List HP},Rd f (row qb 133 (pairV q)::chFam l cs r::G) sb (0 + i * 2) (chV x):=fun {G}=>by
   rw [Nat.zero_add];exact Rd.slcElem (vals:=chV) (xs:=l.ch r) (n:=(l.ch r).length) (c:=(cs r).2) (T:=255) chV_len (by decide) (by rw [← hp];exact .there _ (.here _ _ _)) hx
  refine gG ?_;refine H.dq ?_;rw [hp];refine qgE ?_;refine gQ ?_;refine HQ.Ab rfl rfl rfl (Rd1.of (i:=0) rd rfl) rfl ?_;refine gN ?_;by_cases h1:x.1 = v
  ·skip;refine gN ?_;refine HQ.Ag (i:=i) rfl rfl rfl rfl hlt rfl ?_;refine gQ ?_;refine HQ.Ab rfl rfl rfl (Rd1.of (i:=1) rd rfl) rfl ?_;refine gZ ?_;by_cases h2:x.2 = q.2
   ·skip;skip;refine gG ?_
    have e:chB l q v = true:=by
     unfold chB;rw [← hre];exact List.any_eq_true.2 ⟨x,List.mem_of_getElem? hx,by rw [decide_eq_true h1,decide_eq_true h2];rfl⟩
    exact qbN
   ·skip;skip;refine gP ?_;refine H.Aq (i + 1) ⟨by show i + 1 ≤ (l.ch r).length;omega,fun j y hj hy=>?_⟩ (by show (l.ch r).length - (i + 1) < (l.ch r).length - i;omega) ⟨rfl,by rw [← hp];rfl,rfl,rfl,trivial⟩ rfl rfl;exact qcm
  ·skip;refine gZ ?_;refine gW ?_;refine H.Aq (i + 1) ⟨by show i + 1 ≤ (l.ch r).length;omega,fun j y hj hy=>?_⟩ (by show (l.ch r).length - (i + 1) < (l.ch r).length - i;omega) ⟨rfl,by rw [← hp];rfl,rfl,rfl,trivial⟩ rfl rfl;exact qcu
 ·skip;refine gP ?_
  have e:chB l q v = false:=by
   unfold chB;rw [← hre];refine List.any_eq_false.2 fun x hx h=>?_;obtain ⟨j,hj⟩:=List.getElem?_of_mem hx;have hjl:=(List.getElem?_eq_some_iff.1 hj).1;simp only [Bool.and_eq_true,decide_eq_true_eq] at h
   exact hb j x (by omega) hj h
  exact qbN
end
def LgP (f:Frag) (F:List HP) (lb:Nat) (r:Bool × Lgs):Value→Frag→List HP→Prop:=fun v f' A'=>∃ g,Dj f g ∧ v = .bool r.1 ∧ f' = un f g ∧ A' = logsH f' lb r.2::F
variable {α:Type}
theorem flatV_flat (g:α→List Value) (l:List α):flatV g l = l.flatMap g:=by unfold flatV;rw [List.flatMap_def]
variable {r:Bool × Lgs}
theorem LgP.no (h:r = (false,l)):LgP f F lb r (.bool false) f (logsH f lb l::F):=by
 exact qcw
theorem ins_step {V:List α} {k:Nat} {y z:α} (h:V[k]? = some z):(V.take (k + 1) ++ y::V.drop (k + 1)).set (k + 1) z = V.take k ++ z::V.drop k:=by
 have hk:=(List.getElem?_eq_some_iff.1 h).1;have h2:=(List.getElem?_eq_some_iff.1 h).2
 have hl:(V.take (k + 1)).length = k + 1:=by rw [List.length_take];omega
 rw [List.set_append_right _ _ (by omega),hl,Nat.sub_self,List.take_add_one,h,List.drop_eq_getElem_cons hk,h2];simp
theorem ins_last {V:List α} {k:Nat} {y z:α} (hk:k ≤ V.length):(V.take k ++ y::V.drop k).set k z = V.take k ++ z::V.drop k:=by
 have hl:(V.take k).length = k:=by rw [List.length_take];omega
 rw [List.set_append_right _ _ (by omega),hl,Nat.sub_self];rfl
theorem ins_get {V:List α} {k:Nat} {y:α} (hj:j < k) (hk:k ≤ V.length):(V.take k ++ y::V.drop k)[j]? = V[j]?:=by
 rw [List.getElem?_append_left (by rw [List.length_take];omega),List.getElem?_take_of_lt hj]
theorem ins_len {V:List α} {k:Nat} {y:α} (hk:k ≤ V.length):(V.take k ++ y::V.drop k).length = V.length + 1:=by
 rw [List.length_append,List.length_take,List.length_cons,List.length_drop];omega
theorem ListAt.takeL {vals:α→List Value} {l:List α} (h:ListAt f p sz vals l) (k:Nat):ListAt f p sz vals (l.take k):=fun i x hx=>h i x (by
 rw [List.getElem?_take] at hx
 split at hx
 ·exact hx
 ·cases hx)
theorem zbt (bv:Int) (x:Int × Int) (r:List (Int × Int)) (a:Int × Int):bestOf bv (x::r) a = bestOf bv r (if x.1 < bv ∧ (a.1 < x.1 ∨ (x.1 = a.1 ∧ a.2 < x.2)) then x else a):=rfl
theorem bestQ_cons (past:Nat→PM) (bv:Int) (q:Int × Int) (r:List (Int × Int)) (a:Int × Int):bestQ past bv (q::r) a = bestQ past bv r (bestOf bv (past (q.1 - 1).toNat).all a):=rfl
theorem slc_emp (T:TypeId) (sz:Nat):slc none 0 0 T sz [] = emp:=by
 funext h;refine propext ⟨fun ⟨_,_,h3⟩=>?_,fun e=>⟨by simp,by omega,.inl ⟨rfl,rfl,e⟩⟩⟩;rcases h3 with ⟨_,_,e⟩ | ⟨b,sp,e,_⟩
 ·exact e
 ·cases e
theorem pst_updF (pb:Nat→Nat) (P:Nat→PM) (r0:Nat) (s:PM):updF (fun r=>pstH (pb r) (P r)) r0 (pstH (pb r0) s) = fun r=>pstH (pb r) (updF P r0 s r):=by
 funext r;unfold updF;split
 ·rename_i h;subst h;rfl
 ·rfl
variable {fl:Frag}
section
variable (f:Frag) (F:List HP)
theorem begins_fn (hfl:Le fl f) {T:Nat} (hL:LI l T) (hT:T ≤ 50000) {x:MV} (hx:x.Good f) (hm:MIn l.n x.m) :
  Fn Tryz.prog 148 [.pointer (some ⟨lb,0,none⟩),.agg x.vals.toArray] f (logsH fl lb l::F) (LgP f F lb (l.begins x.m)):=by
 refine Fn.unpack fun i0 hi=>?_;obtain ⟨V,vp,vc,pp,pc,cp,cc,pb,cs⟩:=i0;have hiF:=hi.mono hfl;have hn:=hL.n3
 have hqat:ListAt f x.qp 2 pairV x.m.body.q:=hx.1;have hql:x.m.body.q.length ≤ 1000000:=by have:=hx.2.1;omega
 refine qdQ ?_;refine Fn.e2 Tryz.func148 Tryz.ntmps148 fun base=>?_;refine qdd fun mb=>?_;refine gF ?_;refine H.Ae (ls:=x.m.body.vals x.qp x.qc) rfl rfl rfl (msg_body (.here _ _ _)) rfl rfl ?_;refine qdg fun bb=>?_;refine qfX ?_;refine qhl ?_;refine HQ.quo (z:=(((l.n - 1) / 2:Nat):Int)) rfl rfl rfl (by decide) (by rw [show (2:Int) = ((2:Nat):Int) from rfl,show ((l.n:Int) - 1) = (((l.n - 1:Nat)):Int) by omega,tdiv64,wr_i64 (by omega)]) rfl ?_;refine gZ ?_;refine gA ?_;by_cases hq:x.m.body.q.length = (l.n - 1) / 2 + 1
 ·refine H.Ci rfl (by omega) ?_;refine gR ?_
  refine H.lo (ι:=Nat) (fun i=>[(6,.int .i64 (i:Int)),(0,.pointer (some ⟨lb,0,none⟩)),(3,.pointer (some ⟨mb,0,none⟩)),(5,.pointer (some ⟨bb,0,none⟩))]) (fun _=>f)
   (fun _=>row bb 47 (x.m.body.vals x.qp x.qc)::row mb 51 x.vals::row lb 75 (lgC l.n l.known vp V.length vc pp pc cp cc)::slc vp V.length vc 81 4 (V.flatMap VV.vals)::lst (V.map VV.own)::fam (fun r=>pstH (pb r) (l.past r)) l.n::slc cp l.n cc 253 1 (chRow l cs)::fam (chFam l cs) l.n::F)
   (fun i=>i ≤ x.m.body.q.length ∧ ∀ j p,j < i→x.m.body.q[j]? = some p→p.2 ≤ x.m.deps (p.1 - 1).toNat ∧ chB l p x.m.body.view = true) (fun i=>x.m.body.q.length - i) 0 ⟨Nat.zero_le _,fun j p hj=>by omega⟩ fun i hi1=>?_
  obtain ⟨hi1,hb⟩:i ≤ x.m.body.q.length ∧ ∀ j p,j < i→x.m.body.q[j]? = some p→p.2 ≤ x.m.deps (p.1 - 1).toNat ∧ chB l p x.m.body.view = true:=hi1;show H _ _ _ [(6,.int .i64 (i:Int)),_,_,_] f (row bb 47 (x.m.body.vals x.qp x.qc)::row mb 51 x.vals::row lb 75 (lgC l.n l.known vp V.length vc pp pc cp cc)::slc vp V.length vc 81 4 (V.flatMap VV.vals)::lst (V.map VV.own)::fam (fun r=>pstH (pb r) (l.past r)) l.n::slc cp l.n cc 253 1 (chRow l cs)::fam (chFam l cs) l.n::F) _;by_cases hlt:i < x.m.body.q.length
  ·obtain ⟨p,hp⟩:∃ p,x.m.body.q[i]? = some p:=⟨_,List.getElem?_eq_getElem hlt⟩;have hpm:=List.mem_of_getElem? hp;have hpq:=hm.q p hpm
   obtain ⟨r,hre⟩:∃ r,r = (p.1 - 1).toNat:=⟨_,rfl⟩;have hr:r < l.n:=by omega
   have hr11:r < 11:=by omega
   have hrz:p.1 - 1 = (r:Nat):=by omega
   obtain ⟨qb,qoff,qcs,qT,qfr,hqp,hqfb,hqcs⟩:=hqat i p hp;have rd:∀ A,Rd f A qb (qoff + i * 2) (pairV p):=fun A=>Rd.imm hqfb hqcs;have hch:=fun G=>changed_fn f G (lb:=lb) (l:=l) (kn:=l.known) (vp:=vp) (vl:=V.length) (vc:=vc) (pp:=pp) (pc:=pc) (cp:=cp) (cc:=cc) (cs:=cs) hpq hn.2 (fun r=>Nat.le_trans (hL.cl r) (by omega)) x.m.body.view
   refine gO ?_;refine qgD ?_;refine HB.qu [0,1,2,3,4,5,6,7,8,9,10,11,12,13,14,15,16,17,18,19,20,21,22,23,24,25] 3 ?_;refine gS ?_;refine qff ?_;refine gQ ?_;refine HQ.Ab rfl rfl rfl (Rd1.of (i:=1) (rd _) rfl) rfl ?_;refine gS ?_;refine qff ?_;refine qhn ?_;refine qfx ?_;refine gN ?_;by_cases h1:p.2 ≤ x.m.deps r
   ·skip;refine gZ ?_;refine qff ?_;refine HQ.Ae (ls:=pairV p) rfl rfl rfl (rd _) rfl rfl ?_;refine qeM ?_;refine HB.ev 26 ?_;refine qfv ?_;refine H.pf (x:=slc cp _ cc _ _ _) ?_;refine qdh ?_;skip;refine H.cr (hch _) ?_
    cases hcb:chB l p x.m.body.view with
    | true =>
     refine gA ?_;refine qfW ?_;refine qdI ?_;refine HB.qu [27,28] 0 ?_;refine qeV ?_;refine gW ?_;exact qbh
    | false =>
     refine gA ?_;refine qfW ?_;refine qdI ?_;refine HB.qu [27,28] 0 ?_;refine qeV ?_;refine gX ?_;refine qep ?_;refine qdH ?_;refine H.Ad rfl rfl (fun _ h=>h) (LgP.no ?_);unfold Lgs.begins;rw [if_neg (fun h=>h hq),if_pos (List.all_eq_false.2 ⟨p,hpm,by rw [hcb,Bool.and_false];decide⟩)]
   ·skip;refine gN ?_;refine qdb ?_;refine HB.ev 26 ?_;refine qeT ?_;refine HB.qu [27,28] 0 ?_;refine qeP ?_;refine gX ?_;refine qep ?_;refine qdH ?_;refine H.Ad rfl rfl (fun _ h=>h) (LgP.no ?_);unfold Lgs.begins;rw [if_neg (fun h=>h hq),if_pos (List.all_eq_false.2 ⟨p,hpm,by rw [← hre,decide_eq_false h1,Bool.false_and];decide⟩)]
  ·have hall:(x.m.body.q.all fun q=>decide (q.2 ≤ x.m.deps (q.1 - 1).toNat) && chB l q x.m.body.view) = true:=List.all_eq_true.2 fun p hp=>by
    exact qbG
   clear hb;refine gO ?_
   refine H.lo (ι:=Nat × Int × Int) (fun s=>[(9,.int .i64 (s.1:Int)),(7,.int .u64 s.2.1),(8,.int .i64 s.2.2),(0,.pointer (some ⟨lb,0,none⟩)),(3,.pointer (some ⟨mb,0,none⟩)),(5,.pointer (some ⟨bb,0,none⟩))]) (fun _=>f) (fun _=>row bb 47 (x.m.body.vals x.qp x.qc)::row mb 51 x.vals::row lb 75 (lgC l.n l.known vp V.length vc pp pc cp cc)::slc vp V.length vc 81 4 (V.flatMap VV.vals)::lst (V.map VV.own)::fam (fun r=>pstH (pb r) (l.past r)) l.n::slc cp l.n cc 253 1 (chRow l cs)::fam (chFam l cs) l.n::F)
    (fun s=>s.1 ≤ x.m.body.q.length ∧ bestQ l.past x.m.body.view (x.m.body.q.drop s.1) s.2 = bestQ l.past x.m.body.view x.m.body.q (0,0)) (fun s=>x.m.body.q.length - s.1) (0,0,0) ⟨Nat.zero_le _,rfl⟩ fun s hs=>?_
   obtain ⟨i,u,long⟩:=s;obtain ⟨hi1,hbq⟩:i ≤ x.m.body.q.length ∧ bestQ l.past x.m.body.view (x.m.body.q.drop i) (u,long) = bestQ l.past x.m.body.view x.m.body.q (0,0):=hs;show H _ _ _ [(9,.int .i64 (i:Int)),(7,.int .u64 u),(8,.int .i64 long),_,_,_] f (row bb 47 (x.m.body.vals x.qp x.qc)::row mb 51 x.vals::row lb 75 (lgC l.n l.known vp V.length vc pp pc cp cc)::slc vp V.length vc 81 4 (V.flatMap VV.vals)::lst (V.map VV.own)::fam (fun r=>pstH (pb r) (l.past r)) l.n::slc cp l.n cc 253 1 (chRow l cs)::fam (chFam l cs) l.n::F) _;obtain ⟨pbb,poff,hpp0,rdp0⟩:=hiF.past (by show 0 < l.n;omega);have hpp:pp = some ⟨pbb,poff,none⟩:=hpp0;have rdp:∀ {A:List HP} {r:Nat},r < l.n→Rd1 f A pbb (poff + r) (.pointer (some ⟨pb r,0,none⟩)):=fun {A r} hr=>rdp0 (Le.refl f) hr
   clear hpp0 rdp0;by_cases hlt2:i < x.m.body.q.length
   ·obtain ⟨p,hp⟩:∃ p,x.m.body.q[i]? = some p:=⟨_,List.getElem?_eq_getElem hlt2⟩;have hpm:=List.mem_of_getElem? hp;have hpq:=hm.q p hpm
    obtain ⟨r,hre⟩:∃ r,r = (p.1 - 1).toNat:=⟨_,rfl⟩;have hr:r < l.n:=by omega
    have hrz:p.1 - 1 = (r:Nat):=by omega
    obtain ⟨qb,qoff,qcs,qT,qfr,hqp,hqfb,hqcs⟩:=hqat i p hp;have rd:∀ A,Rd f A qb (qoff + i * 2) (pairV p):=fun A=>Rd.imm hqfb hqcs;rw [show x.m.body.q.drop i = p::x.m.body.q.drop (i + 1) by rw [List.drop_eq_getElem_cons hlt2,(List.getElem?_eq_some_iff.1 hp).2]] at hbq
    rw [bestQ_cons] at hbq;rw [← hre] at hbq;have hwf:=hL.wf r hr;have hil:=hL.il r hr
    have halen:=all_len (l.past r);refine gO ?_
    refine qhl ?_;refine HQ.Ag (b:=qb) (off:=qoff) (i:=i) rfl (by rw [← hqp];rfl) rfl rfl hlt2 rfl ?_;refine qhn ?_;refine gK ?_;refine qgd ?_;refine qet ?_;refine H.Bn hr ?_;refine pstH_openH fun eb ec=>?_;refine qec ?_;refine gR ?_
    refine H.lo (ι:=Nat × Int × Int) (fun s=>[(11,.int .i64 (s.1:Int)),(7,.int .u64 s.2.1),(8,.int .i64 s.2.2),(10,.pointer (some ⟨pb r,0,none⟩)),(9,.int .i64 (i:Int)),(0,.pointer (some ⟨lb,0,none⟩)),(3,.pointer (some ⟨mb,0,none⟩)),(5,.pointer (some ⟨bb,0,none⟩))]) (fun _=>f)
     (fun _=>row bb 47 (x.m.body.vals x.qp x.qc)::row (pb r) 202 [.int .u64 (l.past r).g,.slice (some ⟨eb,0,none⟩) ((l.past r).init.length + 1) ec]::slc (some ⟨eb,0,none⟩) ((l.past r).init.length + 1) ec 204 2 (flatV voteV (l.past r).all)::fam (updF (fun r=>pstH (pb r) (l.past r)) r emp) l.n::row mb 51 x.vals::row lb 75 (lgC l.n l.known vp V.length vc pp pc cp cc)::slc vp V.length vc 81 4 (V.flatMap VV.vals)::lst (V.map VV.own)::slc cp l.n cc 253 1 (chRow l cs)::fam (chFam l cs) l.n::F)
     (fun s=>s.1 ≤ (l.past r).all.length ∧ bestOf x.m.body.view ((l.past r).all.drop s.1) s.2 = bestOf x.m.body.view (l.past r).all (u,long)) (fun s=>(l.past r).all.length - s.1) (0,u,long) ⟨Nat.zero_le _,rfl⟩ fun s hs=>?_
    obtain ⟨k,u2,long2⟩:=s;obtain ⟨hk1,hbo⟩:k ≤ (l.past r).all.length ∧ bestOf x.m.body.view ((l.past r).all.drop k) (u2,long2) = bestOf x.m.body.view (l.past r).all (u,long):=hs;show H _ _ _ [(11,.int .i64 (k:Int)),(7,.int .u64 u2),(8,.int .i64 long2),_,_,_,_,_] f (_::_::_::_::_::_::_::_::_::_::F) _;by_cases hk:k < (l.past r).all.length
    ·obtain ⟨w,hw⟩:∃ w,(l.past r).all[k]? = some w:=⟨_,List.getElem?_eq_getElem hk⟩;rw [show (l.past r).all.drop k = w::(l.past r).all.drop (k + 1) by rw [List.drop_eq_getElem_cons hk,(List.getElem?_eq_some_iff.1 hw).2]] at hbo;rw [zbt] at hbo;refine gO ?_;refine H.Ag (i:=k) rfl rfl rfl rfl (by omega) rfl ?_;refine H.Ae (ls:=voteV w) rfl rfl rfl (by rw [Nat.zero_add];exact Rd.slcElem (vals:=voteV) (xs:=(l.past r).all) voteV_len (by decide) (by rw [← flatV_flat];exact .there _ (.there _ (.here _ _ _))) hw) rfl rfl ?_;refine H.Ak (ls:=voteV (0,0)) rfl rfl rfl fun wb=>?_;refine H.Ah (ls:=voteV (0,0)) (vs:=voteV w) (ls':=voteV w) rfl rfl rfl (zaa rfl) rfl rfl (Nat.le_refl 2) (.here _ _ _) ?_;by_cases h1:w.1 < x.m.body.view
     ·by_cases h2 : u2 < w.1
      ·rw [if_pos ⟨h1,.inl h2⟩] at hbo;refine gY ?_;exact qbB
      ·by_cases h3:w.1 = u2
       ·by_cases h4:long2 < w.2
        ·rw [if_pos ⟨h1,.inr ⟨h3,h4⟩⟩] at hbo;refine gV ?_;exact qbB
        ·rw [if_neg (by rintro ⟨_,h | ⟨_,h⟩⟩;exact h2 h;exact h4 h)] at hbo;refine gV ?_;exact qaS
       ·rw [if_neg (by rintro ⟨_,h | ⟨h,_⟩⟩;exact h2 h;exact h3 h)] at hbo;refine gY ?_;exact qaS
     ·rw [if_neg (fun h=>h1 h.1)] at hbo;refine gY ?_;exact qaS
    ·have e:k = (l.past r).all.length:=by omega
     subst e;rw [List.drop_length] at hbo;have hbo:(u2,long2) = bestOf x.m.body.view (l.past r).all (u,long):=hbo;rw [← hbo] at hbq
     refine gV ?_;refine H.pf (x:=fam (updF _ _ _) _) ?_;refine H.pf (x:=slc (some ⟨eb,0,none⟩) _ ec _ _ _) ?_;refine H.pf (x:=row (pb r) _ _) ?_;refine H.imp (zax (b:=pb r) (eb:=eb) (ec:=ec) (s:=l.past r)) ?_;refine H.By (g:=fun r=>pstH (pb r) (l.past r)) hr ?_;refine qfW ?_;exact H.ag (i + 1,u2,long2) ⟨by show i + 1 ≤ x.m.body.q.length;omega,hbq⟩ (by show x.m.body.q.length - (i + 1) < x.m.body.q.length - i;omega)
   ·have e:i = x.m.body.q.length:=by omega
    subst e;rw [List.drop_length] at hbq;have hbq:(u,long) = bestQ l.past x.m.body.view x.m.body.q (0,0):=hbq;have hbest:=hL.best hm
    rw [← hbq] at hbest;obtain ⟨vi,w,hv1,hv2,hlo,hhi⟩:∃ i w,vwAt l.vs u = some i ∧ l.vs[i]? = some w ∧ 0 ≤ long ∧ long ≤ (w.all.length:Int):=hbest;obtain ⟨X,hX,rfl⟩:=hiF.of hv2;have hX:V[vi]? = some X:=hX;have hXm:=List.mem_of_getElem? hX
    have hvi:=(List.getElem?_eq_some_iff.1 hX).1;have hvs:V.map VV.w = l.vs:=hi.vs
    have hVl:V.length = l.vs.length:=hi.len;have hvl:=hL.vl
    have hXs:ListAt fl X.sp 40 Req.vals X.w.s:=hi.s X hXm;have hXl:=hL.al X.w (by rw [← hvs];exact List.mem_map_of_mem hXm)
    have hXa:=X.w.all_len;have hview:=fun G=>lgview_fn f G (lb:=lb) (n:=l.n) (kn:=l.known) (V:=V) (vp:=vp) (vc:=vc) (pp:=pp) (pc:=pc) (cp:=cp) (cc:=cc) (by omega) u
    rw [show vwZ (V.map VV.w) u = (vi:Int) by unfold vwZ;rw [hvs,hv1]] at hview;obtain ⟨ln,hln⟩:∃ ln:Nat,long = (ln:Int):=⟨long.toNat,by omega⟩;subst hln;obtain ⟨r0,hr0e⟩:∃ r0,r0 = orgI x.m:=⟨_,rfl⟩;have hor:=hm.o;have hr0:r0 < l.n:=by rw [hr0e];unfold orgI;omega
    have hr0z:x.m.origin - 1 = (r0:Nat):=by rw [hr0e];unfold orgI;omega
    have hwf:=hL.wf r0 hr0;have hil:=hL.il r0 hr0
    refine qen ?_;refine gO ?_;refine H.Av (p:=vp) (n0:=V.length) (c:=vc) (.there _ (.here _ _ _)) (by omega) fun vb hvb=>?_;subst hvb;refine qgD ?_;refine HB.qu [0,1,2,3,4,5,10] 6 ?_;refine qeM ?_;refine HB.ev 6 ?_;refine H.cr (hview _) ?_;refine qcS ?_;refine HB.qu [7,8] 3 ?_;skip;refine HQ.Ag (i:=vi) rfl rfl rfl rfl hvi rfl ?_;refine HQ.Ae (ls:=X.vals) rfl rfl rfl (by rw [Nat.zero_add];exact Rd.slcElem VV.len (by decide) (.there _ (.here _ _ _)) hX) rfl rfl ?_;refine qge ?_;refine qfb ?_;refine H.Ch (x:=X.own) (i:=vi) (by rw [List.getElem?_map,hX];rfl) ?_;refine H.callE rfl rfl rfl (all_fn f _ hfl hXs (by omega)) fun ap=>?_;obtain ⟨qp,qc⟩:=ap;refine gA ?_;refine H.Cg (p:=qp) (c:=qc) (.here _ _ _) fun hcap _ _=>?_;refine H.pf (x:=lst ((V.map VV.own).set vi emp)) ?_;refine H.pf (x:=X.own) ?_;refine H.Ck (xs:=V.map VV.own) (i:=vi) (by rw [List.getElem?_map,hX];rfl) ?_;refine qhd ?_;refine qdI ?_;refine HB.qu [11,12] 0 ?_;refine HQ.slice (lo:=none) (hi:=some (.tmp 138)) (mx:=none) (lv:=0) (hv:=ln) (mv:=qc) rfl rfl rfl ⟨_,_,rfl,rfl⟩ rfl (fun h=>by cases h) (Nat.zero_le _) (by omega) (Nat.le_refl _) rfl ?_;rw [slP0,Nat.sub_zero,Nat.sub_zero];refine qg ?_;refine gA ?_;refine qec ?_;refine qdx ?_;refine qdh ?_;refine H.db (S:=[_,_,_]) rfl ?_;refine HB.qu [0,1,2,3,4,5,6,7,8,9,10,11] 2 ?_;refine gS ?_;refine HQ.Ag (b:=pbb) (off:=poff) (i:=r0) rfl (by rw [← hpp];rfl) rfl hr0z hr0 rfl ?_;refine HQ.Ab rfl rfl rfl (by rw [Nat.mul_one];exact rdp hr0) rfl ?_;refine qeM ?_;refine HB.ev 12 ?_;refine qet ?_;refine H.Bn hr0 ?_;have hent:=fun G=>pst_enter f G (pb r0) (l.past r0) hwf (by omega) x.m.body.view (ln:Int);refine H.cr (hent _) ?_
    cases hek:(l.past r0).enterOk x.m.body.view ln with
    | false =>
     rw [show (l.past r0).enter x.m.body.view ln = l.past r0 by unfold PM.enter;rw [hek];rfl];refine H.By (g:=fun r=>pstH (pb r) (l.past r)) hr0 ?_;refine qgN ?_;refine gX ?_;refine H.pd (x:=slc qp _ qc _ _ _) ?_;refine qfv ?_;refine qdJ ?_;refine qhd ?_;refine qep ?_;refine H.imp (zai ⟨V,some ⟨vb,0,none⟩,vc,pp,pc,cp,cc,pb,cs⟩ hiF) ?_;refine H.Ad rfl rfl (fun _ h=>h) (LgP.no ?_);unfold Lgs.begins;rw [if_neg (fun h=>h hq),if_neg (by rw [hall];decide),← hbq,← hr0e,hek,if_pos rfl]
    | true =>
     refine H.famPut (g:=fun r=>pstH (pb r) (l.past r)) hr0 ?_;rw [pst_updF];refine qgN ?_;obtain ⟨NV,hNV⟩:∃ NV:VV,NV = ⟨⟨x.m.body.view,x.m.number,X.w.all.take ln,[]⟩,qp,qc,none,0⟩:=⟨_,rfl⟩;have htl:(X.w.all.take ln).length = ln:=by rw [List.length_take];omega
     have hNVv:NV.vals = [.int .u64 x.m.body.view,.int .u64 x.m.number,.slice qp ln qc,.slice none 0 0]:=by
      rw [hNV];show [_,_,Value.slice qp (X.w.all.take ln).length qc,_] = _;rw [htl];rfl
     refine gU ?_;refine H.Ak (ls:=[.int .u64 0,.int .u64 0,.slice none 0 0,.slice none 0 0]) rfl rfl rfl fun wb=>?_;refine H.Ah (ls:=[.int .u64 0,.int .u64 0,.slice none 0 0,.slice none 0 0]) (vs:=[.int .u64 x.m.body.view,.int .u64 x.m.number,.slice qp ln qc,.slice none 0 0]) (ls':=[.int .u64 x.m.body.view,.int .u64 x.m.number,.slice qp ln qc,.slice none 0 0]) rfl rfl rfl (zaa rfl) rfl rfl (Nat.le_refl 4) (.here _ _ _) ?_;rw [← hNVv];refine gA ?_;refine H.Bu (x:=slc qp _ qc _ _ _) (by repeat constructor) fun g hg hd=>?_;have hSat:ListAt (un f g) qp 40 Req.vals (X.w.all.take ln):=((zbd Req.len hg).mono (Le.right hd)).takeL ln
     have hbeg:l.begins x.m = (true,{ l with past:=updF l.past r0 ((l.past r0).enter x.m.body.view ln),vs:=insV NV.w l.vs }):=by
      unfold Lgs.begins;rw [if_neg (fun h=>h hq),if_neg (by rw [hall];decide),← hbq,← hr0e];show (if (l.past r0).enterOk x.m.body.view ln = false then (false,l) else _) = _;rw [if_neg (by rw [hek];decide)];show (true,({ l with past:=_,vs:=insV ⟨_,_,(match vwAt l.vs u with | none=>[] | some i=>(l.vs[i]?.map Vw.all).getD []).take ((ln:Int)).toNat,[]⟩ l.vs }:Lgs)) = _;rw [hv1];show (true,({ l with past:=_,vs:=insV ⟨_,_,((l.vs[vi]?.map Vw.all).getD []).take ((ln:Int)).toNat,[]⟩ l.vs }:Lgs)) = _;rw [hv2,Int.toNat_natCast,hNV];rfl
     have hbeg1:(l.begins x.m).1 = true:=by rw [hbeg]
     have hNVo:VV.own NV = emp:=by
      rw [hNV];exact slc_emp _ _
     have hle2:=Le.un f g;have hiG:=hiF.mono hle2
     refine qdh ?_;refine qdS ?_;refine qfI ?_;refine HQ.Ae (ls:=NV.vals) rfl rfl rfl (Rd.ofRow (.here _ _ _)) rfl rfl ?_;refine qdb ?_;refine HB.ev 6 ?_;refine H.Ar (out:=NV.vals) rfl rfl rfl rfl (by decide) (by decide) rfl rfl fun eb=>?_;refine gA ?_;refine qdh ?_;refine qdS ?_;refine qdI ?_;refine HB.ev 7 ?_;refine H.Aw (sz:=4) (p:=some ⟨vb,0,none⟩) (n0:=V.length) (c:=vc) (xs:=V.flatMap VV.vals) (m:=1) (news:=NV.vals) rfl rfl rfl rfl rfl (fun p' c'=>(by repeat constructor)) (Src.slice (Rd.ofRow (by repeat constructor)) rfl) (zaa rfl) rfl (by omega) (by omega) fun p2 c2=>?_;refine gA ?_;refine qdE ?_;refine H.Ay (ls:=lgC l.n l.known (some ⟨vb,0,none⟩) V.length vc pp pc cp cc) (ls':=lgC l.n l.known p2 (V.length + 1) c2 pp pc cp cc) rfl rfl rfl rfl (.there _ (.here _ _ _)) (by repeat (first | exact .here _ _ _ | apply SetV.there)) ?_;refine qdD ?_;refine qgM ?_;refine qfv ?_;refine qdJ ?_;refine H.pf (x:=slc p2 _ c2 _ _ _) ?_;refine qdh ?_;refine qec ?_;refine qdS ?_
     have hfin:∀ K,K ≤ V.length→K = insK x.m.body.view l.vs→∀ z,stars (row lb 75 (lgC l.n l.known p2 (V.length + 1) c2 pp pc cp cc)::slc p2 (V.length + 1) c2 81 4 ((V.take K ++ NV::V.drop K).flatMap VV.vals)::lst (V.map VV.own)::fam (fun r=>pstH (pb r) (updF l.past r0 ((l.past r0).enter x.m.body.view ln) r)) l.n::slc cp l.n cc 253 1 (chRow l cs)::fam (chFam l cs) l.n::F) z→stars (logsH (un f g) lb (l.begins x.m).2::F) z:=fun K hK hKi z hz=>by
      have hlst:lst ((V.take K ++ NV::V.drop K).map VV.own) = lst (V.map VV.own):=by
       show stars ((V.take K ++ NV::V.drop K).map VV.own) = stars (V.map VV.own)
       have hp:(NV.own::V.map VV.own).Perm ((V.take K ++ NV::V.drop K).map VV.own):=by
        conv=>lhs;rw [← List.take_append_drop K V]
        exact (List.perm_middle.symm).map VV.own
       rw [← lst_perm hp,hNVo];exact zch _
      have hmap:(V.take K ++ NV::V.drop K).map VV.w = insV NV.w l.vs:=by
       have e:insK NV.w.v l.vs = K:=by rw [hNV];exact hKi.symm
       unfold insV;rw [e,← hvs,List.map_append,List.map_cons,List.map_take,List.map_drop]
      rw [hbeg];refine zai (l:={ l with past:=updF l.past r0 ((l.past r0).enter x.m.body.view ln),vs:=insV NV.w l.vs }) ⟨V.take K ++ NV::V.drop K,p2,c2,pp,pc,cp,cc,pb,cs⟩ ⟨hmap,fun y hy=>?_,hiG.p⟩ z ?_
      ·rcases List.mem_append.1 hy with h | h
       ·exact hiG.s y (List.mem_of_mem_take h)
       ·rcases List.mem_cons.1 h with h | h
        ·rw [h,hNV];exact hSat
        ·exact hiG.s y (List.mem_of_mem_drop h)
      ·show stars (row lb _ (lgC l.n l.known p2 (V.take K ++ NV::V.drop K).length c2 pp pc cp cc)::slc p2 (V.take K ++ NV::V.drop K).length c2 _ 4 _::lst ((V.take K ++ NV::V.drop K).map VV.own)::_) z;rw [ins_len hK,hlst];exact hz
     refine H.loop (ι:=Nat × VV) (fun s=>[(14,.int .i64 (s.1:Int)),(15,.pointer (some ⟨wb,0,none⟩)),(0,.pointer (some ⟨lb,0,none⟩)),(5,.pointer (some ⟨bb,0,none⟩))]) (fun _=>un f g)
      (fun s=>row wb 81 NV.vals::row bb 47 (x.m.body.vals x.qp x.qc)::row lb 75 (lgC l.n l.known p2 (V.length + 1) c2 pp pc cp cc)::slc p2 (V.length + 1) c2 81 4 ((V.take s.1 ++ s.2::V.drop s.1).flatMap VV.vals)::lst (V.map VV.own)::fam (fun r=>pstH (pb r) (updF l.past r0 ((l.past r0).enter x.m.body.view ln) r)) l.n::slc cp l.n cc 253 1 (chRow l cs)::fam (chFam l cs) l.n::F)
      (fun s=>s.1 ≤ V.length ∧ insKF x.m.body.view l.vs s.1 = insK x.m.body.view l.vs) (fun s=>s.1) (V.length,NV) ⟨Nat.le_refl _,by show insKF _ _ V.length = _;rw [hVl];rfl⟩ ⟨rfl,rfl,rfl,rfl,trivial⟩ rfl (by simp) fun s hs=>?_
     obtain ⟨k,y⟩:=s;obtain ⟨hk,hins⟩:k ≤ V.length ∧ insKF x.m.body.view l.vs k = insK x.m.body.view l.vs:=hs;show H _ _ _ [(14,.int .i64 (k:Int)),_,_,_] (un f g) (_::_::_::slc p2 (V.length + 1) c2 _ 4 ((V.take k ++ y::V.drop k).flatMap VV.vals)::_::_::_::_::F) _;have hil2:=ins_len (V:=V) (y:=y) hk;refine H.Av (p:=p2) (n0:=V.length + 1) (c:=c2) (.there _ (.there _ (.there _ (.here _ _ _)))) (by omega) fun vb2 hvb2=>?_
     subst hvb2;by_cases h0:k = 0
     ·have hins2:k = insK x.m.body.view l.vs:=by
       rw [h0] at hins;rw [h0];exact hins
      refine gA ?_;refine H.dq ?_;refine gZ ?_;refine gW ?_;exact qar
     ·obtain ⟨j,hj⟩:∃ j,k = j + 1:=⟨k - 1,by omega⟩;obtain ⟨z,hz⟩:∃ z,V[j]? = some z:=⟨_,List.getElem?_eq_getElem (by omega)⟩;have hzg:(V.take k ++ y::V.drop k)[j]? = some z:=by rw [ins_get (by omega) hk];exact hz
      have hvz:l.vs[j]? = some z.w:=hiF.at hz
      have hstep:insKF x.m.body.view l.vs k = if x.m.body.view < z.w.v then insKF x.m.body.view l.vs j else k:=by
       rw [hj];show (match l.vs[j]? with | none=>j + 1 | some x_1=>if x.m.body.view < x_1.v then insKF x.m.body.view l.vs j else j + 1) = _;rw [hvz]
      rw [hstep] at hins;clear hstep;refine gA ?_;refine H.dq ?_;refine gZ ?_;refine HQ.Ag (i:=j) rfl rfl rfl (by omega) (by omega) rfl ?_;refine gQ ?_;refine HQ.Ab rfl rfl rfl (Rd1.of (i:=0) (by rw [Nat.zero_add];exact Rd.slcElem VV.len (by decide) (.there _ (.there _ (.there _ (.here _ _ _)))) hzg) rfl) rfl ?_;refine gZ ?_;by_cases hlv:x.m.body.view < z.w.v
      ·rw [if_pos hlv] at hins;refine gG ?_;refine H.pf (x:=slc (some ⟨vb2,0,none⟩) _ c2 _ _ _) ?_;refine qdh ?_;refine qgF ?_;refine HQ.Ag (i:=j) rfl rfl rfl (by omega) (by omega) rfl ?_;refine HQ.Ae (ls:=z.vals) rfl rfl rfl (by rw [Nat.zero_add];exact Rd.slcElem VV.len (by decide) (.there _ (.here _ _ _)) hzg) rfl rfl ?_;refine HQ.Aj (i:=k) rfl rfl rfl rfl (by omega) rfl ?_;refine qdo ?_;refine HB.ev 14 ?_;refine H.storeE (vals:=VV.vals) (xs:=V.take k ++ y::V.drop k) (i:=k) (z:=z) VV.len (by decide) (zaa rfl) rfl rfl rfl (by omega) (.there _ (.here _ _ _)) ?_;subst hj;rw [ins_step hz];refine qdD ?_;refine gD ?_;refine H.pf (x:=slc (some ⟨vb2,0,none⟩) _ c2 _ _ _) ?_;refine qdh ?_;refine qec ?_;refine qdS ?_;refine H.Bh (d:=14) (u:=.int .i64 (j:Int)) rfl (by first | rfl | (congr 1;done) | (congr 1;omega)) ?_;exact H.ag (j,z) ⟨by show j ≤ V.length;omega,hins⟩ (by show j < j + 1;omega)
      ·rw [if_neg hlv] at hins;have hins2:=hins;refine gP ?_
       exact qar
 ·refine H.Cn rfl (by omega) ?_;refine gR ?_;refine qep ?_;refine qdH ?_;refine H.Ad rfl rfl (fun _ h=>h) (LgP.no ?_);unfold Lgs.begins;rw [if_pos hq]
end
section
variable (f:Frag) (F:List HP)
theorem rauth_fn (r:Req):Fn Tryz.prog 150 [.agg r.vals.toArray] f F (Ret (.bool r.auth) f F):=by
 have has:=fun G=>rasked_fn f G r;have hsd:=fun G=>rsigned_fn f G r
 unfold Req.auth;unfold Req.signed at hsd;by_cases ha:r.asked
 ·rw [if_pos ha] at hsd;rw [decide_eq_true ha,Bool.true_and];rw [decide_eq_true ha] at has;have heq:eqC (b32 r.sig) (b32 r.tag) = eq32 r.tag r.sig:=eqC_comm _ _;generalize eq32 r.tag r.sig = e at heq ⊢
  generalize r.sig = t at hsd heq;refine Fn.e1 Tryz.func150 Tryz.ntmps150 fun base=>?_;refine qdy fun qb=>?_;refine qgt ?_;refine HB.qu [0] 10 ?_;refine qfP ?_;refine HB.qu [2,3,6,7] 5 ?_;refine gB ?_;refine HQ.Ae (ls:=r.vals) rfl rfl rfl (Rd.ofRow (.here _ _ _)) rfl rfl ?_;refine gQ ?_;refine HQ.Ae (ls:=b32 r.tag) rfl rfl rfl (req_tag (.here _ _ _)) rfl rfl ?_;refine qdb ?_;refine HB.ev 4 ?_;refine H.cr (hsd _) ?_;refine qcS ?_;refine HB.qu [5,8,9,10] 0 ?_;refine HQ.fieldN (xs:=({ r with tag:=t }:Req).vals) (ls:=b32 t) rfl rfl rfl inferInstance rfl inferInstance rfl rfl ?_;refine HQ.aggEq (xs:=b32 t) (ys:=b32 r.tag) (D:=4) rfl rfl rfl rfl (by kernel_rfl) (by kernel_rfl) (by kernel_rfl) (by kernel_rfl) (by decide) heq rfl ?_;exact qbv
 ·rw [decide_eq_false ha,Bool.false_and];rw [decide_eq_false ha] at has;refine Fn.e1 Tryz.func150 Tryz.ntmps150 fun base=>?_;refine qdy fun qb=>?_;refine qgt ?_;refine HB.qu [0] 10 ?_;refine qfP ?_;refine HB.qu [2,3,6,7] 5 ?_;refine gI ?_;refine qdb ?_;refine HB.ev 4 ?_;refine qeT ?_;refine HB.qu [5,8,9,10] 0 ?_;exact qbv
end
theorem LgP.yes {b:Bool} (h:r = (b,l)):LgP f F lb r (.bool b) f (logsH f lb l::F):=by
 exact qcw
variable {m:Msg}
theorem Lgs.counts_3 (h:m.body.kind = 3):l.counts m = if (l.past (orgI m)).changeOk m.body.view = true then (true,{ l with past:=updF l.past (orgI m) ((l.past (orgI m)).change m.body.view),ch:=updF l.ch (orgI m) (l.ch (orgI m) ++ [(m.body.view,m.number)]) }) else (false,l):=by
 unfold Lgs.counts;rw [if_pos h]
theorem Lgs.counts_4 (h:m.body.kind = 4):l.counts m = if decide (primZ l.n m.body.view = m.origin) = true then l.begins m else (false,l):=by
 unfold Lgs.counts;rw [if_neg (by rw [h];decide),if_pos h]
theorem Lgs.counts_5n (h:m.body.kind = 5) (hat:vwAt l.vs m.body.view = none):l.counts m = (false,l):=by
 unfold Lgs.counts;rw [if_neg (by rw [h];decide),if_neg (by rw [h];decide),if_pos h];simp only [hat]
theorem Lgs.counts_5 {i:Nat} (h:m.body.kind = 5) (hat:vwAt l.vs m.body.view = some i) (hw:l.vs[i]? = some w):l.counts m = if m.deps (primI l.n m.body.view) < w.num then (false,l) else ((l.past (orgI m)).enterOk m.body.view (w.s.length:Nat),l.doPast (orgI m) ((l.past (orgI m)).enter m.body.view (w.s.length:Nat))):=by
 unfold Lgs.counts;rw [if_neg (by rw [h];decide),if_neg (by rw [h];decide),if_pos h];simp only [hat,hw]
theorem Lgs.counts_1n (h:m.body.kind = 1) (hat:vwAt l.vs m.body.view = none):l.counts m = (false,l):=by
 unfold Lgs.counts;rw [if_neg (by rw [h];decide),if_neg (by rw [h];decide),if_neg (by rw [h];decide),if_pos h];simp only [hat]
theorem Lgs.counts_1 {i:Nat} (h:m.body.kind = 1) (hat:vwAt l.vs m.body.view = some i) (hw:l.vs[i]? = some w):l.counts m = if decide (primZ l.n m.body.view = m.origin) = false ∨ m.body.req.auth = false ∨ holdsB w.all m.body.req.client m.body.req.time = true ∨ (l.past (orgI m)).isOpen m.body.view = false then (false,l) else
  (true,{ l with past:=updF l.past (orgI m) ((l.past (orgI m)).prepare m.body.view),vs:=l.vs.set i { w with p:=w.p ++ [(m.number,m.body.req)] } }):=by
 unfold Lgs.counts;rw [if_neg (by rw [h];decide),if_neg (by rw [h];decide),if_neg (by rw [h];decide),if_pos h];simp only [hat,hw]
theorem body_req {bb:Nat} {x:Bod} {q:Option Addr} {qc:Nat} (h:At A (row bb T (x.vals q qc)) A' (row bb T (x.vals q qc))):Rd f A bb (0 + 3) x.req.vals:=by
 have h1:=Rd.ofRow (f:=f) h;have e:x.vals q qc = [.int .u8 (x.kind.toNat:Nat),.int .u64 x.view,.int .u64 x.k] ++ x.req.vals ++ ([.slice q x.q.length qc] ++ b32 x.dig):=by unfold Bod.vals;simp only [List.append_assoc]
 exact qbK
theorem flat_setV {vals:α→List Value} (hv:∀ x,(vals x).length = sz) {xs:List α} {i:Nat} {x z:α} {v:Value} (hx:xs[i]? = some x) (hz:SetV (vals x) j v (vals z)):SetV (xs.flatMap vals) (i * sz + j) v ((xs.set i z).flatMap vals):=by
 have hi:=(List.getElem?_eq_some_iff.1 hx).1;have h2:(xs.set i z)[i]? = some z:=by rw [List.getElem?_set_self hi]
 have e1:(xs.set i z).take i = xs.take i:=by rw [List.take_set_of_le (Nat.le_refl _)]
 have e2:(xs.set i z).drop (i + 1) = xs.drop (i + 1):=by rw [List.drop_set_of_lt (by omega)]
 have hl:((xs.take i).flatMap vals).length = i * sz:=by rw [zbn hv,List.length_take,Nat.min_eq_left (by omega)]
 rw [flat_split xs hx,flat_split (xs.set i z) h2,e1,e2,← hl];exact hz.mid' _ _
theorem Lgs.counts_2n (h:m.body.kind = 2) (hat:vwAt l.vs m.body.view = none):l.counts m = (false,l):=by
 unfold Lgs.counts;rw [if_neg (by rw [h];decide),if_neg (by rw [h];decide),if_neg (by rw [h];decide),if_neg (by rw [h];decide),if_pos h];simp only [hat]
theorem Lgs.counts_2 {i:Nat} (h:m.body.kind = 2) (hat:vwAt l.vs m.body.view = some i) (hw:l.vs[i]? = some w):l.counts m = if decide (primZ l.n m.body.view = m.origin) = true then (false,l) else ((l.past (orgI m)).commitOk m.body.view m.body.k (knowsV w (m.deps (primI l.n m.body.view)):Nat),l.doPast (orgI m) ((l.past (orgI m)).commit m.body.view m.body.k (knowsV w (m.deps (primI l.n m.body.view)):Nat))):=by
 unfold Lgs.counts;rw [if_neg (by rw [h];decide),if_neg (by rw [h];decide),if_neg (by rw [h];decide),if_neg (by rw [h];decide),if_pos h];simp only [hat,hw]
theorem Lgs.counts_x (h3:¬ m.body.kind = 3) (h4:¬ m.body.kind = 4) (h5:¬ m.body.kind = 5) (h1:¬ m.body.kind = 1) (h2:¬ m.body.kind = 2):l.counts m = (decide (m.body.kind = 6),l):=by
 unfold Lgs.counts;rw [if_neg h3,if_neg h4,if_neg h5,if_neg h1,if_neg h2]
theorem chFam_upd (l:Lgs) (cs:Nat→Option Addr × Nat) (r:Nat) (p:Option Addr) (c:Nat) (y:Int × Int) (past:Nat→PM):updF (chFam l cs) r (slc p ((l.ch r).length + 1) c 255 2 ((l.ch r).flatMap chV ++ chV y)) = chFam { l with past:=past,ch:=updF l.ch r (l.ch r ++ [y]) } (updF cs r (p,c)):=by
 funext j;unfold chFam;exact qaU
theorem chRow_upd (l:Lgs) (cs:Nat→Option Addr × Nat) (r:Nat) (p:Option Addr) (c:Nat) (y:Int × Int) (past:Nat→PM):rngV l.n (updF (fun r=>Value.slice (cs r).1 (l.ch r).length (cs r).2) r (.slice p ((l.ch r).length + 1) c)) = chRow { l with past:=past,ch:=updF l.ch r (l.ch r ++ [y]) } (updF cs r (p,c)):=by
 unfold chRow;refine rngV_congr fun j _=>?_;by_cases h:j = r
 ·subst h;rw [zae];show _ = Value.slice (updF cs j (p,c) j).1 (updF l.ch j _ j).length (updF cs j (p,c) j).2;rw [zae,zae,List.length_append];rfl
 ·rw [zaf _ _ h];show _ = Value.slice (updF cs r (p,c) j).1 (updF l.ch r _ j).length (updF cs r (p,c) j).2;rw [zaf _ _ h,zaf _ _ h]
section
variable (f:Frag) (F:List HP)
theorem counts_fn (hfl:Le fl f) {T:Nat} (hL:LI l T) (hT:T ≤ 50000) {x:MV} (hx:x.Good f) (hm:MIn l.n x.m) :
  Fn Tryz.prog 107 [.pointer (some ⟨lb,0,none⟩),.agg x.vals.toArray] f (logsH fl lb l::F) (LgP f F lb (l.counts x.m)):=by
 refine Fn.unpack fun i0 hi=>?_;obtain ⟨V,vp,vc,pp,pc,cp,cc,pb,cs⟩:=i0;have hiF:=hi.mono hfl;have hn:=hL.n3
 obtain ⟨pbb,poff,hpp0,rdp0⟩:=hiF.past (by show 0 < l.n;omega);have hpp:pp = some ⟨pbb,poff,none⟩:=hpp0;have rdp:∀ {A:List HP} {r:Nat},r < l.n→Rd1 f A pbb (poff + r) (.pointer (some ⟨pb r,0,none⟩)):=fun {A r} hr=>rdp0 (Le.refl f) hr
 clear hpp0 rdp0;obtain ⟨r,hre⟩:∃ r,r = orgI x.m:=⟨_,rfl⟩;have hor:=hm.o;have hr:r < l.n:=by rw [hre];unfold orgI;omega
 have hrz:x.m.origin - 1 = (r:Nat):=by rw [hre];unfold orgI;omega
 have hwf:=hL.wf r hr;have hil:=hL.il r hr
 have hvs:V.map VV.w = l.vs:=hi.vs;have hVl:V.length = l.vs.length:=hi.len
 have hvl:=hL.vl;have hv0:=hm.v
 have hprim:=fun G=>prim_fn f G (n:=l.n) (by omega) hv0;have hview:=fun G=>lgview_fn f G (lb:=lb) (n:=l.n) (kn:=l.known) (V:=V) (vp:=vp) (vc:=vc) (pp:=pp) (pc:=pc) (cp:=cp) (cc:=cc) (by omega) x.m.body.view
 rw [hvs] at hview;refine qdQ ?_;refine Fn.e2 Tryz.func107 Tryz.ntmps107 fun base=>?_;refine qdd fun mb=>?_;refine gJ ?_;refine qhl ?_;refine qgd ?_;refine gF ?_;refine H.Ae (ls:=x.m.body.vals x.qp x.qc) rfl rfl rfl (msg_body (.here _ _ _)) rfl rfl ?_;refine qdg fun bb=>?_;refine qfX ?_;refine H.db (S:=[_,_,_]) rfl ?_;refine HB.qu [0,1,2,3,4,5,7,8] 3 ?_;refine qeM ?_;refine HB.ev 6 ?_;refine H.cr (hprim _) ?_;refine qcS ?_;refine HB.qu [9,10] 0 ?_;refine gN ?_;refine qdk ?_;refine gF ?_;refine qen ?_;refine H.cr (hview _) ?_;refine qdx ?_;refine qec ?_;refine gO ?_;clear hprim hview;have hku:=x.m.body.kind.toNat_lt;by_cases k3:x.m.body.kind.toNat = 3
 ·have k3':x.m.body.kind = 3:=UInt8.toNat_inj.1 k3;rw [Lgs.counts_3 k3',← hre]
  have hch:=fun G=>pst_change f G (pb r) (l.past r) x.m.body.view;refine gO ?_
  refine qet ?_;refine H.Bn hr ?_;refine H.cr (hch _) ?_
  cases hck:(l.past r).changeOk x.m.body.view with
  | false =>
   rw [show (l.past r).change x.m.body.view = l.past r by unfold PM.change;rw [hck];rfl];refine H.By (g:=fun r=>pstH (pb r) (l.past r)) hr ?_;refine gX ?_;refine qep ?_;refine qcR ?_;refine qdH ?_;refine H.Ad rfl rfl (fun _ h=>h) (LgP.no ?_);rw [if_neg (by decide)]
  | true =>
   refine qgV ?_;rw [pst_updF];refine gW ?_;refine H.Av (p:=cp) (n0:=l.n) (c:=cc) (T:=253) (sz:=1) (xs:=chRow l cs) (by repeat constructor) (by omega) fun cb hcb=>?_;subst hcb;refine qeg ?_;refine qec ?_;refine H.dc [0,1,2,3,4,5,6,7,8,9,10,11,12,13,14,15,16,17,18,19,20,21,22] (S:=[_,_,_,_]) rfl ?_;refine HB.qu [0,1,2,3,4,5,6,7,8,9,10,11,12,13,14,15,16,17,18,19,20] 4 ?_;refine gS ?_;refine qfk ?_;refine HB.ev 21 ?_;refine H.Ar (out:=chV (x.m.body.view,x.m.number)) rfl rfl rfl rfl (by decide) (by decide) rfl rfl fun eb=>?_;refine gA ?_;refine qeg ?_;refine qec ?_;refine qdI ?_;refine HB.ev 22 ?_;refine H.pf (x:=row eb _ _) ?_;refine qfv ?_;refine H.Bn hr ?_;have hcl:=hL.cl r;refine qeK fun p2 c2=>?_
   refine H.famPut (g:=chFam l cs) hr ?_;rw [chFam_upd l cs r p2 c2 (x.m.body.view,x.m.number) (updF l.past r ((l.past r).change x.m.body.view))];refine gA ?_;refine qgC ?_;refine qeg ?_;refine qec ?_;refine qdI ?_;refine qgn ?_;refine HB.qu [23] 1 ?_;refine HQ.Ag (i:=r) rfl rfl rfl hrz hr rfl ?_;refine qdb ?_;refine HB.ev 24 ?_;refine H.Bc rfl rfl rfl rfl (by repeat constructor) (by rw [Nat.zero_add,Nat.mul_one];exact rngV_set _ _ hr) ?_;rw [chRow_upd l cs r p2 c2 (x.m.body.view,x.m.number) (updF l.past r ((l.past r).change x.m.body.view))];refine qdD ?_;refine gR ?_;refine qep ?_;refine H.pf (x:=fam (chFam _ (updF cs r (p2,c2))) _) ?_;refine H.pf (x:=slc (some ⟨cb,0,none⟩) _ cc _ _ _) ?_;refine qet ?_;refine qfb ?_;refine qen ?_;refine H.imp (zai (l:={ l with past:=updF l.past r ((l.past r).change x.m.body.view),ch:=updF l.ch r (l.ch r ++ [(x.m.body.view,x.m.number)]) }) ⟨V,vp,vc,pp,pc,some ⟨cb,0,none⟩,cc,pb,updF cs r (p2,c2)⟩ ⟨hiF.vs,hiF.s,hiF.p⟩) ?_;refine H.Ad rfl rfl (fun _ h=>h) (LgP.yes ?_);rw [if_pos rfl]
 ·by_cases k4 : x.m.body.kind.toNat = 4
  ·have k4':x.m.body.kind = 4:=UInt8.toNat_inj.1 k4;rw [Lgs.counts_4 k4']
   by_cases hp:primZ l.n x.m.body.view = x.m.origin
   ·rw [decide_eq_true hp,if_pos rfl];refine gc ?_;refine qgQ ?_;refine qcR ?_;refine qdH ?_;refine H.Al rfl rfl rfl (begins_fn f _ (Le.refl f) hL hT hx hm) fun v f' A' hr=>?_;obtain ⟨g,hd,rfl,rfl,rfl⟩:=hr;refine gL ?_;refine qep ?_;exact H.r1 ⟨g,hd,rfl,rfl,rfl⟩
   ·rw [decide_eq_false hp,if_neg (by decide)];refine gV ?_;exact qa
  ·have hpz:primZ l.n x.m.body.view = 1 + ((primI l.n x.m.body.view:Nat):Int):=rfl
   have hp11:primI l.n x.m.body.view < 11:=by
    have h1:x.m.body.view % (l.n:Int) < l.n:=Int.emod_lt_of_pos _ (by omega);have h2:0 ≤ x.m.body.view % (l.n:Int):=Int.emod_nonneg _ (by omega)
    unfold primI;omega
   have hprim:∀ G,Fn Tryz.prog 146 [.int .i64 (l.n:Int),.int .u64 x.m.body.view] f G (Ret (.int .i64 (1 + ((primI l.n x.m.body.view:Nat):Int))) f G):=fun G=>prim_fn f G (n:=l.n) (by omega) hv0;obtain ⟨pI,hpI⟩:∃ pI,pI = primI l.n x.m.body.view:=⟨_,rfl⟩
   rw [← hpI] at hprim hp11 hpz;by_cases k5:x.m.body.kind.toNat = 5
   ·have k5':x.m.body.kind = 5:=UInt8.toNat_inj.1 k5
    cases hat:vwAt l.vs x.m.body.view with
    | none =>
     rw [Lgs.counts_5n k5' hat];rw [show vwZ l.vs x.m.body.view = -1 by unfold vwZ;rw [hat]];refine qfD ?_;refine HB.qu [0,1,2,3,4,5,6,7,8,9,10,11,12,13,14,15,16,19] 6 ?_;refine gN ?_;refine qgA ?_;refine qeT ?_;refine HB.qu [18,20,21,22,23] 0 ?_;refine gI ?_;exact qbJ
    | some i =>
     obtain ⟨⟨w,hw,hwv⟩,_⟩:=zaq.1 hat;obtain ⟨X,hX,rfl⟩:=hiF.of hw;have hX:V[i]? = some X:=hX;have hilt:=(List.getElem?_eq_some_iff.1 hX).1
     have hXl:=hL.al X.w (List.mem_of_getElem? hw);have hXa:=X.w.all_len
     refine qei fun vb hvb=>?_;have hVd:∀ {A A':List HP},At A (slc vp V.length vc 81 4 (V.flatMap VV.vals)) A' (slc vp V.length vc 81 4 (V.flatMap VV.vals))→Rd f A vb (i * 4) X.vals:=fun {A A'} h=>Rd.slcElem (n:=V.length) (c:=vc) (T:=81) (xs:=V) VV.len (by decide) (by rw [← hvb];exact h) hX;rw [Lgs.counts_5 k5' hat hw,← hpI,← hre]
     rw [show vwZ l.vs x.m.body.view = (i:Int) by unfold vwZ;rw [hat]];refine qfD ?_;refine HB.qu [0,1,2,3,4,5,6,7,8,9,10,11,12,13,14,15,16,19] 6 ?_;refine gZ ?_;refine qef ?_;refine HQ.Ab rfl rfl rfl (Rd1.of (i:=1) (by rw [Nat.zero_add];exact hVd (.there _ (.there _ (.there _ (.here _ _ _))))) rfl) rfl ?_;refine qeM ?_;refine HB.ev 17 ?_;refine H.cr (hprim _) ?_;refine qcS ?_;refine HB.qu [18,20,21,22,23] 0 ?_;refine gK ?_;refine HQ.Ao (i:=pI) rfl rfl rfl (by omega) hp11 rfl ?_;refine HQ.Ab rfl rfl rfl (by rw [Nat.mul_one];exact Rd1.of (zbi (m:=x.m) (q:=x.qp) (qc:=x.qc) (.there _ (.here _ _ _))) (zaw x.m.deps hp11)) rfl ?_;refine gZ ?_;refine qdk ?_;by_cases hd:x.m.deps pI < X.w.num
     ·rw [if_pos hd];refine gG ?_;exact qa
     ·rw [if_neg hd];refine gP ?_;have hent:=fun G=>pst_enter f G (pb r) (l.past r) hwf (by omega) x.m.body.view ((X.w.s.length:Nat):Int);refine H.db (S:=[_,_,_,_]) rfl ?_
      refine HB.qu [0,1,2,3,4,5,6,7,8,9,10,11] 2 ?_;refine gS ?_;refine qef ?_;refine HQ.Ab rfl rfl rfl (Rd1.of (i:=2) (by rw [Nat.zero_add];exact hVd (.there _ (.there _ (.there _ (.here _ _ _))))) rfl) rfl ?_;refine gB ?_;refine qfa ?_;refine qet ?_;refine H.Bn hr ?_;refine H.cr (hent _) ?_;refine qgV ?_;rw [pst_updF];refine gA ?_;refine qgc ?_;refine HB.qu [13] 0 ?_;refine qg ?_;exact qaC
   ·by_cases k1 : x.m.body.kind.toNat = 1
    ·have k1':x.m.body.kind = 1:=UInt8.toNat_inj.1 k1
     cases hat:vwAt l.vs x.m.body.view with
     | none =>
      rw [Lgs.counts_1n k1' hat];rw [show vwZ l.vs x.m.body.view = -1 by unfold vwZ;rw [hat]]
      cases hpd:decide (primZ l.n x.m.body.view = x.m.origin) with
      | true =>
       refine qfD ?_;refine HB.qu [0,1,2,3,4,5,6,7,8] 27 ?_;refine gZ ?_;refine qge ?_;refine gC ?_;exact qaf
      | false =>
       exact qaN
     | some i =>
      obtain ⟨⟨w,hw,hwv⟩,_⟩:=zaq.1 hat;obtain ⟨X,hX,rfl⟩:=hiF.of hw;have hX:V[i]? = some X:=hX;have hilt:=(List.getElem?_eq_some_iff.1 hX).1
      have hXl:=hL.al X.w (List.mem_of_getElem? hw);have hXa:=X.w.all_len
      refine qei fun vb hvb=>?_;have hVd:∀ {A A':List HP},At A (slc vp V.length vc 81 4 (V.flatMap VV.vals)) A' (slc vp V.length vc 81 4 (V.flatMap VV.vals))→Rd f A vb (i * 4) X.vals:=fun {A A'} h=>Rd.slcElem (n:=V.length) (c:=vc) (T:=81) (xs:=V) VV.len (by decide) (by rw [← hvb];exact h) hX;rw [Lgs.counts_1 k1' hat hw,← hre]
      rw [show vwZ l.vs x.m.body.view = (i:Int) by unfold vwZ;rw [hat]];by_cases hp:primZ l.n x.m.body.view = x.m.origin
      ·have hpd:decide (primZ l.n x.m.body.view = x.m.origin) = true:=decide_eq_true hp;rw [hpd]
       have hau:=fun G=>rauth_fn f G x.m.body.req;refine qfD ?_
       refine HB.qu [0,1,2,3,4,5,6,7,8] 27 ?_;refine gZ ?_;refine HQ.Ae (ls:=x.m.body.req.vals) rfl rfl rfl (body_req (.here _ _ _)) rfl rfl ?_;refine qge ?_;refine H.cr (hau _) ?_
       cases hauv:x.m.body.req.auth with
       | false =>
        rw [if_pos (.inr (.inl rfl))];refine gA ?_;exact qaf
       | true =>
        refine qcS ?_;refine HB.qu [10,11,12,13,14,15,16,17,18,19,21,22,23,24,25,26] 10 ?_;refine gZ ?_;refine HQ.Ag (b:=vb) (off:=0) (i:=i) rfl (by rw [← hvb];rfl) rfl rfl hilt rfl ?_;refine HQ.Ae (ls:=X.vals) rfl rfl rfl (by rw [Nat.zero_add];exact hVd (.there _ (.there _ (.there _ (.here _ _ _))))) rfl rfl ?_;refine qeM ?_;refine HB.ev 20 ?_;refine qfb ?_;refine H.Ch (x:=X.own) (i:=i) (by rw [List.getElem?_map,hX];rfl) ?_;refine H.callE rfl rfl rfl (all_fn f _ hfl (hi.s X (List.mem_of_getElem? hX)) (by omega)) fun ap=>?_;obtain ⟨qp,qc⟩:=ap;have hhol:=fun G=>holds_fn f G (p:=qp) (c:=qc) (R:=X.w.all) x.m.body.req.client x.m.body.req.time (by omega);refine gA ?_
        refine H.pf (x:=lst ((V.map VV.own).set i emp)) ?_;refine H.pf (x:=X.own) ?_;refine H.Ck (xs:=V.map VV.own) (i:=i) (by rw [List.getElem?_map,hX];rfl) ?_;refine qgc ?_;refine HB.ev 27 ?_;refine H.pf (x:=slc qp _ qc _ _ _) ?_;refine H.cr (hhol _) ?_
        cases hhv:holdsB X.w.all x.m.body.req.client x.m.body.req.time with
        | true =>
         rw [if_pos (.inr (.inr (.inl rfl)))];refine gA ?_;refine qdp ?_;refine qgc ?_;refine HB.qu [28,29,30,31,32] 3 ?_;refine gI ?_;refine qdb ?_;refine HB.ev 33 ?_;refine qeT ?_;refine HB.qu [34,35] 0 ?_;refine gI ?_;exact qbJ
        | false =>
         have hpre:=fun G=>pst_prepare f G (pb r) (l.past r) hwf (by omega) (by omega) x.m.body.view;refine gA ?_
         refine qdp ?_;refine qgc ?_;refine HB.qu [28,29,30,31,32] 3 ?_;refine gZ ?_;refine qdb ?_;refine HB.ev 33 ?_;refine qet ?_;refine H.Bn hr ?_;refine H.cr (hpre _) ?_
         cases hop:(l.past r).isOpen x.m.body.view with
         | false =>
          rw [if_pos (.inr (.inr (.inr rfl)))];rw [show (l.past r).prepare x.m.body.view = l.past r by unfold PM.prepare;rw [hop];rfl];refine H.By (g:=fun r=>pstH (pb r) (l.past r)) hr ?_;refine gA ?_;refine qgc ?_;refine HB.qu [34,35] 0 ?_;refine gQ ?_;exact qbJ
         | true =>
          rw [if_neg (by rintro (h | h | h | h) <;> cases h)];refine qgV ?_;rw [pst_updF];refine gA ?_;refine qgc ?_;refine HB.qu [34,35] 0 ?_;refine qeV ?_;refine gW ?_;obtain ⟨X2,hX2⟩:∃ X2:Option Addr→Nat→VV,X2 = fun p c=>⟨{ X.w with p:=X.w.p ++ [(x.m.number,x.m.body.req)] },X.sp,X.sc,p,c⟩:=⟨_,rfl⟩;refine H.dc [0,1,2,3,4,5,6,7,8,9,10,11,12,13,14,15,16,17,18,19] (S:=[_,_,_,_]) rfl ?_;refine HB.qu [0,1,2,3,4,5,6,7,8,9,10,11,12,13,14,15,16,17] 5 ?_;refine gS ?_;refine qef ?_;refine HQ.Ab rfl rfl rfl (Rd1.of (i:=3) (by rw [Nat.zero_add];exact hVd (.there _ (.there _ (.there _ (.here _ _ _))))) rfl) rfl ?_;refine gS ?_;refine HQ.Ae (ls:=x.m.body.req.vals) rfl rfl rfl (body_req (.here _ _ _)) rfl rfl ?_;refine HQ.Az (t:=258) (out:=prepV (x.m.number,x.m.body.req)) rfl rfl rfl (by kernel_rfl) rfl ?_;refine qdb ?_;refine HB.ev 18 ?_;refine H.Ar (out:=prepV (x.m.number,x.m.body.req)) rfl rfl rfl rfl (by decide) (by decide) rfl rfl fun eb=>?_;refine gA ?_;refine qgc ?_;refine HB.ev 19 ?_;refine H.pf (x:=row eb _ _) ?_;refine qfb ?_;refine H.Ch (x:=X.own) (i:=i) (by rw [List.getElem?_map,hX];rfl) ?_;refine H.Aw (sz:=41) (p:=X.pp) (n0:=X.w.p.length) (c:=X.pc) (xs:=X.w.p.flatMap prepV) (m:=1) (news:=prepV (x.m.number,x.m.body.req)) rfl rfl rfl rfl rfl (fun p' c'=>.here _ _ _) (Src.slice (Rd.ofRow (.there _ (.there _ (.here _ _ _)))) rfl) (zaa rfl) rfl (by omega) (by omega) fun p2 c2=>?_
          rw [show slc p2 (X.w.p.length + 1) c2 258 41 (X.w.p.flatMap prepV ++ prepV (x.m.number,x.m.body.req)) = (X2 p2 c2).own by
           rw [hX2];show _ = slc p2 (X.w.p ++ [(x.m.number,x.m.body.req)]).length c2 _ 41 ((X.w.p ++ [(x.m.number,x.m.body.req)]).flatMap prepV);rw [List.length_append,List.flatMap_append]
           simp]
          refine H.lstPut (x0:=X.own) (xs:=V.map VV.own) (i:=i) (by rw [List.getElem?_map,hX];rfl) ?_;rw [← List.map_set];refine gA ?_;refine qgC ?_;refine qgc ?_;refine qgn ?_;refine HB.qu [20,21] 1 ?_;refine qef ?_;refine qdb ?_;refine HB.ev 22 ?_
          have hsv:SetV X.vals 3 (.slice p2 (X.w.p.length + 1) c2) (X2 p2 c2).vals:=by
           rw [hX2];show SetV _ 3 _ [_,_,_,Value.slice p2 (X.w.p ++ [(x.m.number,x.m.body.req)]).length c2];rw [List.length_append];exact .there _ (.there _ (.there _ (.here _ _ _)))
          refine H.Bc (xs':=(V.set i (X2 p2 c2)).flatMap VV.vals) rfl rfl rfl rfl (by rw [← hvb];exact (by repeat constructor)) (by rw [Nat.zero_add];exact flat_setV VV.len hX hsv) ?_;refine qdD ?_;refine gR ?_;refine qep ?_;refine qfv ?_;refine H.pf (x:=slc cp _ cc _ _ _) ?_;refine qet ?_;refine H.pf (x:=lst ((V.set i (X2 p2 c2)).map VV.own)) ?_;refine qen ?_;have hX2w:(X2 p2 c2).w = { X.w with p:=X.w.p ++ [(x.m.number,x.m.body.req)] }:=by rw [hX2]
          refine H.imp (A':=logsH f lb { l with past:=updF l.past r ((l.past r).prepare x.m.body.view),vs:=l.vs.set i { X.w with p:=X.w.p ++ [(x.m.number,x.m.body.req)] } }::F) (fun z hz=>zai (l:={ l with past:=updF l.past r ((l.past r).prepare x.m.body.view),vs:=l.vs.set i { X.w with p:=X.w.p ++ [(x.m.number,x.m.body.req)] } }) ⟨V.set i (X2 p2 c2),vp,vc,pp,pc,cp,cc,pb,cs⟩ ⟨?_,fun y hy=>?_,hiF.p⟩ z ?_) ?_
          ·show (V.set i (X2 p2 c2)).map VV.w = l.vs.set i _;rw [List.map_set,hX2w,hvs]
          ·rcases List.mem_or_eq_of_mem_set hy with h | h
           ·exact hiF.s y h
           ·rw [h,hX2];exact hiF.s X (List.mem_of_getElem? hX)
          ·show stars (row lb _ (lgC l.n l.known vp (V.set i (X2 p2 c2)).length vc pp pc cp cc)::slc vp (V.set i (X2 p2 c2)).length vc _ 4 _::_) z;rw [List.length_set];exact hz
          ·exact H.Ad rfl rfl (fun _ h=>h) (LgP.yes rfl)
      ·have hpd:decide (primZ l.n x.m.body.view = x.m.origin) = false:=decide_eq_false hp;rw [hpd,if_pos (.inl rfl)]
       exact qaN
    ·by_cases k2 : x.m.body.kind.toNat = 2
     ·have k2':x.m.body.kind = 2:=UInt8.toNat_inj.1 k2
      cases hat:vwAt l.vs x.m.body.view with
      | none =>
       rw [Lgs.counts_2n k2' hat];rw [show vwZ l.vs x.m.body.view = -1 by unfold vwZ;rw [hat]];by_cases hp:primZ l.n x.m.body.view = x.m.origin
       ·skip;refine gV ?_;exact qa
       ·skip;refine gV ?_;exact qa
      | some i =>
       obtain ⟨⟨w,hw,hwv⟩,_⟩:=zaq.1 hat;obtain ⟨X,hX,rfl⟩:=hiF.of hw;have hX:V[i]? = some X:=hX;have hilt:=(List.getElem?_eq_some_iff.1 hX).1
       have hXl:=hL.al X.w (List.mem_of_getElem? hw);have hXa:=X.w.all_len
       refine qei fun vb hvb=>?_;have hVd:∀ {A A':List HP},At A (slc vp V.length vc 81 4 (V.flatMap VV.vals)) A' (slc vp V.length vc 81 4 (V.flatMap VV.vals))→Rd f A vb (i * 4) X.vals:=fun {A A'} h=>Rd.slcElem (n:=V.length) (c:=vc) (T:=81) (xs:=V) VV.len (by decide) (by rw [← hvb];exact h) hX;rw [Lgs.counts_2 k2' hat hw,← hpI,← hre]
       rw [show vwZ l.vs x.m.body.view = (i:Int) by unfold vwZ;rw [hat]];by_cases hp:primZ l.n x.m.body.view = x.m.origin
       ·rw [if_pos (decide_eq_true hp)];refine gV ?_;exact qa
       ·rw [if_neg (by rw [decide_eq_false hp];decide)];refine ga ?_;refine H.Ag (b:=vb) (off:=0) (i:=i) rfl (by rw [← hvb];rfl) rfl rfl hilt rfl ?_;refine gH ?_;refine H.pf (x:=slc vp _ vc _ _ _) ?_;refine H.Ab rfl rfl rfl (Rd1.of (i:=2) (by rw [Nat.zero_add];exact hVd (.here _ _ _)) rfl) rfl ?_;refine gR ?_;refine qfW ?_
        refine H.lo (ι:=Nat × Nat) (fun s=>[(10,.int .i64 (s.1:Int)),(9,.int .i64 ((X.w.s.length + s.2:Nat):Int)),(8,.int .i64 (i:Int)),(5,.pointer (some ⟨pb r,0,none⟩)),(0,.pointer (some ⟨lb,0,none⟩)),(3,.pointer (some ⟨mb,0,none⟩)),(6,.pointer (some ⟨bb,0,none⟩))]) (fun _=>f) (fun _=>row bb 47 (x.m.body.vals x.qp x.qc)::row mb 51 x.vals::row lb 75 (lgC l.n l.known vp V.length vc pp pc cp cc)::slc vp V.length vc 81 4 (V.flatMap VV.vals)::lst (V.map VV.own)::fam (fun r=>pstH (pb r) (l.past r)) l.n::slc cp l.n cc 253 1 (chRow l cs)::fam (chFam l cs) l.n::F)
         (fun s=>s.1 ≤ X.w.p.length ∧ s.2 = ((X.w.p.take s.1).filter fun y=>decide (y.1 ≤ x.m.deps pI)).length) (fun s=>X.w.p.length - s.1) (0,0) ⟨Nat.zero_le _,rfl⟩ fun s hs=>?_
        obtain ⟨j,k⟩:=s;obtain ⟨hj,hk⟩:j ≤ X.w.p.length ∧ k = ((X.w.p.take j).filter fun y=>decide (y.1 ≤ x.m.deps pI)).length:=hs
        have hkl:k ≤ X.w.p.length:=by
         rw [hk];exact qcM
        show H _ _ _ [(10,.int .i64 (j:Int)),(9,.int .i64 ((X.w.s.length + k:Nat):Int)),_,_,_,_,_] f (row bb 47 (x.m.body.vals x.qp x.qc)::row mb 51 x.vals::row lb 75 (lgC l.n l.known vp V.length vc pp pc cp cc)::slc vp V.length vc 81 4 (V.flatMap VV.vals)::lst (V.map VV.own)::fam (fun r=>pstH (pb r) (l.past r)) l.n::slc cp l.n cc 253 1 (chRow l cs)::fam (chFam l cs) l.n::F) _;by_cases hjl:j < X.w.p.length
        ·obtain ⟨y,hy⟩:∃ y,X.w.p[j]? = some y:=⟨_,List.getElem?_eq_getElem hjl⟩;have hfil:=filt_take (p:=fun y:Int × Req=>decide (y.1 ≤ x.m.deps pI)) hy;refine qeO ?_
         refine gG ?_;refine qfb ?_;refine H.Ch (x:=X.own) (i:=i) (by rw [List.getElem?_map,hX];rfl) ?_;refine H.Av (p:=X.pp) (n0:=X.w.p.length) (c:=X.pc) (T:=258) (sz:=41) (xs:=X.w.p.flatMap prepV) (.here _ _ _) (by omega) fun xb hxb=>?_;have rdP:∀ {A:List HP},Rd f (X.own::A) xb (j * 41) (prepV y):=fun {A}=>Rd.slcElem (vals:=prepV) (xs:=X.w.p) (n:=X.w.p.length) (c:=X.pc) (T:=258) prepV_len (by decide) (by rw [← hxb];exact .here _ _ _) hy;refine qdj ?_
         refine H.pf (x:=X.own) ?_;refine H.db (S:=[_,_,_,_,_]) rfl ?_;refine HB.qu [0,1,2,3,4,5,6,7,8,9,10,11,12,13,14,15,16,17,20] 5 ?_;refine gS ?_;refine qef ?_;refine HQ.Ab rfl rfl rfl (Rd1.of (i:=3) (by rw [Nat.zero_add];exact hVd (.there _ (.there _ (.there _ (.there _ (.here _ _ _)))))) rfl) rfl ?_;refine gB ?_;refine HQ.Ag (b:=xb) (off:=0) (i:=j) rfl (by rw [← hxb];rfl) rfl rfl hjl rfl ?_;refine gQ ?_;refine HQ.Ab rfl rfl rfl (Rd1.of (i:=0) (by rw [Nat.zero_add];exact rdP) rfl) rfl ?_;refine qeM ?_;refine HB.ev 18 ?_;refine H.cr (hprim _) ?_;refine qcS ?_;refine HB.qu [19,21,22,23] 0 ?_;refine gK ?_;refine HQ.Ao (i:=pI) rfl rfl rfl (by omega) hp11 rfl ?_;refine HQ.Ab rfl rfl rfl (by rw [Nat.mul_one];exact Rd1.of (zbi (m:=x.m) (q:=x.qp) (qc:=x.qc) (.there _ (.there _ (.here _ _ _)))) (zaw x.m.deps hp11)) rfl ?_;refine gN ?_;refine qdk ?_;refine H.pf (x:=lst ((V.map VV.own).set i emp)) ?_;refine H.pf (x:=X.own) ?_;refine H.Ck (xs:=V.map VV.own) (i:=i) (by rw [List.getElem?_map,hX];rfl) ?_;refine qfW ?_;by_cases hle:y.1 ≤ x.m.deps pI
         ·rw [decide_eq_true hle,if_pos rfl] at hfil;refine gc ?_;exact H.ag (j + 1,k + 1) ⟨by show j + 1 ≤ X.w.p.length;omega,by rw [hfil,List.length_append,← hk];rfl⟩ (by show X.w.p.length - (j + 1) < X.w.p.length - j;omega)
         ·rw [decide_eq_false hle,if_neg (by decide),List.append_nil] at hfil;refine gP ?_;exact H.ag (j + 1,k) ⟨by show j + 1 ≤ X.w.p.length;omega,by rw [hfil,← hk]⟩ (by show X.w.p.length - (j + 1) < X.w.p.length - j;omega)
        ·have e:j = X.w.p.length:=by omega
         subst e;rw [List.take_length] at hk;have hkk:knowsV X.w (x.m.deps pI) = X.w.s.length + k:=by unfold knowsV;rw [hk]
         rw [hkk];have hkr:0 ≤ x.m.body.k ∧ x.m.body.k ≤ 18446744073709551615:=hx.2.2.2.1;have hcom:=fun G=>pst_commit f G (pb r) (l.past r) hwf (by omega) (by omega) x.m.body.view x.m.body.k ((X.w.s.length + k:Nat):Int) hkr (by omega)
         refine qeO ?_;refine gO ?_;refine qet ?_;refine H.Bn hr ?_;refine H.cr (hcom _) ?_;refine qgV ?_;rw [pst_updF];exact qaC
     ·have hk:l.counts x.m = (decide (x.m.body.kind = 6),l):=Lgs.counts_x (fun h=>k3 (by rw [h];rfl)) (fun h=>k4 (by rw [h];rfl)) (fun h=>k5 (by rw [h];rfl)) (fun h=>k1 (by rw [h];rfl)) (fun h=>k2 (by rw [h];rfl));rw [hk]
      by_cases k6:x.m.body.kind.toNat = 6
      ·have k6':x.m.body.kind = 6:=UInt8.toNat_inj.1 k6;rw [decide_eq_true k6']
       refine gO ?_;refine qep ?_;refine qcR ?_;refine qdH ?_;refine H.Bh (d:=4) (u:=.bool true) rfl (by rw [decide_eq_true (by omega:((x.m.body.kind.toNat:Nat):Int) = 6)]) ?_;exact H.Ad rfl rfl (fun _ h=>h) (LgP.yes rfl)
      ·have e6:decide (x.m.body.kind = 6) = false:=decide_eq_false (fun h=>k6 (by rw [h];rfl));rw [e6]
       refine gO ?_;refine qep ?_;refine qcR ?_;refine qdH ?_;refine H.Bh (d:=4) (u:=.bool false) rfl (by rw [decide_eq_false (by omega:¬ ((x.m.body.kind.toNat:Nat):Int) = 6)]) ?_;exact H.Ad rfl rfl (fun _ h=>h) (LgP.yes rfl)
end
end Go.Proofs.YtminmjlfmolfeaaGreatDoor
