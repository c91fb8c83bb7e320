/- Parts of the proof. No conditions. -/
import Derived.Test.YtdpgpmbebbaoiaaGreatDoorZ05
import Derived.DeepKeys3
import Derived.Laws.IdiomRangeMap
import Derived.Laws.MakeOwn
set_option linter.unusedSectionVars false
set_option linter.unusedSimpArgs false
set_option linter.unusedVariables false
set_option maxHeartbeats 1600000
set_option maxRecDepth 20000
namespace Go.Proofs.YtdpgpmbebbaoiaaGreatDoor
open Go Go.Proofs.Tryz
/-! ### Keys that are structs or arrays -/
variable {kt:TypeId}
section keys
variable {P:Program}
theorem offs_le {n : Nat} : ∀ (fs : List Field) (o : Nat), shp.offs P fs o n = true → o ≤ n ∧ ∀ f ∈ fs, f.name ≠ "_" ∧ f.offset + P.cellsOf f.type ≤ n
 | [], o, h => by
  have e:o=n:=Nat.eq_of_beq_eq_true h
  exact⟨by omega,fun f hf=>by cases hf⟩
 | f :: fs, o, h => by
  simp only[shp.offs,Bool.and_eq_true,bne_iff_ne,ne_eq]at h
  obtain⟨⟨hn,he⟩,hr⟩:=h
  have he':f.offset=o:=Nat.eq_of_beq_eq_true he
  subst he'
  obtain⟨h1,h2⟩:=offs_le fs _ hr
  refine⟨by omega,fun g hg=>?_⟩
  rcases List.mem_cons.1 hg with rfl|hg
  ·exact⟨hn,h1⟩
  ·exact h2 g hg
theorem run_checkKey_shp(em:Bool)(w:World):∀(d D:Nat) (t:TypeId) (xs:List Value),shp P D t xs=true→D≤d→(Instr.checkKey em d t (mkV P t xs)).run P w= .ok () w
 | 0, D, t, xs, h, hd => by
  have:D=0:=jB
  subst this
  simp[shp]at h
 | d + 1, D, t, xs, h, hd => by
  by_cases h1:∃n e',P.underlying t=some (.array n e')
  ·obtain⟨n,e,hu⟩:=h1
   obtain⟨⟨i,hi⟩,l1,D1,rfl,s1⟩:=shp_len hu h
   have hm:mkV P t xs= .agg xs.toArray:=by simp[mkV,hu]
   rw[hm,Instr.checkKey]
   simp only[Sem.run_bind,run_underlying hu,Result.andThen_ok]
   simp only[Std.Legacy.Range.forIn_eq_forIn_range',Std.Legacy.Range.size,Nat.sub_zero,Nat.add_one_sub_one,Nat.div_one]
   have each:∀j∈List.range' 0 n,j<n:=fun j hj=>by simp[List.mem_range'_1]at hj;omega
   generalize List.range' 0 n=is at each
   induction is with
   |nil=>simp
   | cons j is ih =>
    have hj:=each j jI
    have hle:j*P.cellsOf e+P.cellsOf e≤xs.length:=by
     rw[l1]
     have:=Nat.mul_le_mul_right (P.cellsOf e) (show j+1≤n from hj);rwa [Nat.add_mul,Nat.one_mul]at this
    have p1:=zca w (s1 j hj) hle
    have p2:=run_checkKey_shp em w d D1 e _ (s1 j hj) jB
    simp only[List.forIn_cons,Sem.run_bind,run_sizeOf w hi,Result.andThen_ok,p1,p2,Sem.run_pure]
    exact ih (fun y hy=>each y (by simp[hy]))
  ·by_cases h2 : ∃ fs, P.underlying t = some (.struct fs)
   ·obtain⟨fs,hu⟩:=h2
    obtain⟨n1,l1,o1,D1,rfl,s1⟩:=shp_str hu h
    have hm:mkV P t xs= .agg xs.toArray:=by simp[mkV,hu]
    rw[hm,Instr.checkKey]
    simp only[Sem.run_bind,run_underlying hu,Result.andThen_ok]
    rw[←Array.forIn_toList]
    have each:=(offs_le fs.toList 0 o1).2
    generalize fs.toList=L at each s1
    induction L with
    |nil=>simp
    | cons f L ih =>
     obtain⟨hn,hle⟩:=each f jI
     have p1:=zca w (s1 f jI) hle
     have p2:=run_checkKey_shp em w d D1 f.type _ (s1 f jI) jB
     simp only[List.forIn_cons,Sem.run_bind,hn,ne_eq,not_false_eq_true,if_true,Result.andThen_ok,p1,p2,Sem.run_pure]
     exact ih (fun y hy=>each y (by simp[hy])) (fun y hy=>s1 y (by simp[hy]))
   ·obtain⟨hpk,v,rfl,hmk,_⟩:=shp_plain h (fun n e hu=>h1 ⟨n,e,hu⟩) (fun fs hu=>h2 ⟨fs,hu⟩)
    rw[hmk]
    unfold Program.plainKey at hpk
    cases hu:P.underlying t with
    |none=>simp[hu]at hpk
    |some k=>cases k<;>simp[hu]at hpk<;>simp[Instr.checkKey,run_underlying hu]
def plnC:List Value→Bool
 | []=>true
 |v::r=>(match v with| .bool _| .int _ _| .string _=>true|_=>false)&&plnC r
theorem plnC_mem:∀ {l:List Value},plnC l=true→∀m,(l.zip l).all (fun(x,y)=>Instr.sameBits (m+1) x y)=true
 | [],_,m=>rfl
 | v :: r, h, m => by
  simp only[plnC,Bool.and_eq_true]at h
  simp only[List.zip_cons_cons,List.all_cons,plnC_mem h.2 m,Bool.and_true]
  cases v<;>simp at h<;>simp[Instr.sameBits]
  rw[beq_toListBytes];simp
theorem keyT_agg{κ:Type}[DecidableEq κ]{cellsK:κ→List Value}{D:Nat}(hwide:(match P.underlying kt with|some (.array _ _)|some (.struct _)=>true|_=>false)=true)
  (hs:∀k,shp P D kt (cellsK k)=true) (hD:D≤10000) (he:∀a b,eqC (cellsK a) (cellsK b)=decide (a=b)) (hp:∀k,plnC (cellsK k)=true):KeyT P kt (fun k:κ=>Value.agg (cellsK k).toArray) where
 chk:=fun k e w=>by
  have hm:mkV P kt (cellsK k)= .agg (cellsK k).toArray:=by unfold mkV;split at hwide<;>simp_all
  rw[←hm]
  exact run_checkKey_shp e w 10000 D kt _ (hs k) hD
 same:=fun k=>by
  show Instr.sameBits (9999+1) _ _=true
  simp only[Instr.sameBits,beq_self_eq_true,Bool.true_and]
  exact plnC_mem (hp k) 9998
 fnd:=fun k es ks w h=>by
  rw[run_findKey_eq w hwide]
  have hm:∀k,mkV P kt (cellsK k)= .agg (cellsK k).toArray:=fun k=>by unfold mkV;split at hwide<;>simp_all
  have heq:∀a b:κ,(Op.equal kt (.agg (cellsK a).toArray) (.agg (cellsK b).toArray)).run P w= .ok (decide (a=b)) w:=fun a b=>by
   have h3:=zbf 10000 kt w D D _ _ (hs a) (hs b) hD
   rw[hm,hm,he]at h3
   exact h3
  have key:∀(es:List MapEntry) (ks:List κ) (j:Nat),es.map (·.key)=ks.map (fun k:κ=>Value.agg (cellsK k).toArray)→
    (Instr.findAsking kt (.agg (cellsK k).toArray) es j).run P w= .ok ((ks.findIdx? (k= ·)).bind fun i=>(es[i]?).map fun e=>(j+i,e.val)) w:=by
   intro es
   induction es with
   |nil=>intro ks j h;cases ks<;>simp at h;simp[Instr.findAsking]
   | cons e r ih =>
    intro ks j h
    cases ks with
    |nil=>simp at h
    | cons k' ks =>
     simp only[List.map_cons,List.cons.injEq]at h;simp only[Instr.findAsking,h.1,Sem.run_bind,heq,Result.andThen_ok,List.findIdx?_cons];by_cases c:k=k'
     ·simp[c]
     ·simp only[c,decide_false,Bool.false_eq_true,if_false,ih ks (j+1) h.2]
      cases ks.findIdx? (k= ·)with
      |none=>simp
      |some i=>simp[Nat.add_assoc,Nat.add_comm 1]
  have:=key es ks 0 h
  simpa only[Nat.zero_add]using this
end keys
/-! ### A map with its entries told; a loop over it -/
variable {clock st:Nat} {h:Frag} {A A' F:List HP} {x y:Operand} {w:World} {K:Kont} {fid:FuncId} {args:List Value} {R:Value→Frag→List HP→Prop} {t et xt e:TypeId} {z v kv:Value}
section loops
variable {P:Program} {base:World} {n:Nat} {L:Env} {f:Frag} {A:List HP} {q:Post}
variable {l rest:List Oper} {d:Nat} {ty:TypeId} {pos:String} {af:Array Edge} {gd:Option (Nat × Bool)}
variable {κ:Type} [DecidableEq κ] {enc:κ→Value}
structure MapOk(es:List (κ×Value×Nat))(clock:Nat):Prop where
 keys:(es.map (·.1)).Nodup
 stamps:(es.map (·.2.2)).Nodup
 below:∀e∈es,e.2.2<clock
def mpS(b:Nat)(enc:κ→Value)(es:List (κ×Value×Nat))(clock:Nat):HP:=fun h=>MapOk es clock∧h=sing b (.map (es.map (entOf enc)).toArray clock)
theorem mpS_mp{b:Nat}{es:List (κ×Value×Nat)}(hh:mpS b enc es clock h):mp b enc (es.map kvOf) h:=
 ⟨es,clock,rfl,hh.1.keys,hh.1.stamps,hh.1.below,hh.2⟩
theorem mp_mpS{b:Nat}{m:List (κ×Value)}(hh:mp b enc m h):∃(es:List (κ×Value×Nat)) (clock:Nat),es.map kvOf=m∧mpS b enc es clock h:=by
 obtain⟨es,clock,a1,a2,a3,a4,a5⟩:=hh;exact⟨es,clock,a1,⟨a2,a3,a4⟩,a5⟩
theorem At.swap{x y:HP}(h:At A x A' y)(z:HP):∃B,At A x B z:=by
 induction h with
 |here t x y=>exact⟨_,.here t x z⟩
 |there u h ih=>obtain⟨B,hB⟩:=ih;exact⟨_,.there u hB⟩
theorem At.self{x y:HP}(h:At A x A' y):At A' y A' y:=by
 induction h with
 |here t x y=>exact .here t y y
 |there u h ih=>exact .there u ih
theorem Sat.mpS_at{b:Nat}{es:List (κ×Value×Nat)}{y:HP}(s:Sat base w f A)(h:At A (mpS b enc es clock) A' y):MapOk es clock∧w.heap[b]?=some (.map (es.map (entOf enc)).toArray clock):=by
 obtain⟨R,h1,_⟩:=h.split;obtain⟨x,hm,_,hw⟩:=s.mem;rw[h1]at hm;obtain⟨m1,m2,_,rfl,⟨a1,rfl⟩,_⟩:=hm;exact⟨a1,hw b _ ji⟩
theorem Sat.mpS_mp{w:World}{A':List HP}{b:Nat}{es:List (κ×Value×Nat)}{clock:Nat}{y:HP}(s:Sat base w f A)(h:At A (mpS b enc es clock) A' y):∃B,Sat base w f B∧At B (mp b enc (es.map kvOf)) B (mp b enc (es.map kvOf)):=by
 obtain⟨B,hB⟩:=h.swap (mp b enc (es.map kvOf));refine⟨B,s.imp fun x hx=>?_,hB.self⟩;obtain⟨R,h1,h2⟩:=hB.split;rw[h1]at hx;rw[h2];obtain⟨m1,m2,dd,e,a,r⟩:=hx;exact⟨m1,m2,dd,e,Proofs.YtdpgpmbebbaoiaaGreatDoor.mpS_mp a,r⟩
theorem E2{b:Nat}{m:List (κ×Value)}(k:∀(es:List (κ×Value×Nat)) (clock:Nat),es.map kvOf=m→H P base n L f (mpS b enc es clock::A) K):H P base n L f (mp b enc m::A) K:=
 EO (ι:={i:List (κ×Value×Nat)×Nat // i.1.map kvOf=m}) (B:=fun i=>[mpS b enc i.1.1 i.1.2]) (fun h hh=>by
  obtain⟨es,clock,a1,a2⟩:=mp_mpS hh
  refine⟨⟨(es,clock),a1⟩,?_⟩
  simp only[stars,star_emp]
  exact a2) fun i=>k i.1.1 i.1.2 i.2
theorem mpS_fold{b:Nat}{es:List (κ×Value×Nat)}:∀x,stars (mpS b enc es clock::F) x→stars (mp b enc (es.map kvOf)::F) x:=fun x hx=>by
 obtain⟨m1,m2,dd,e,a,r⟩:=hx
 exact⟨m1,m2,dd,e,mpS_mp a,r⟩
theorem DZ{b:Nat}{m:List (κ×Value)}(k:∀(es:List (κ×Value×Nat)) (clock:Nat),es.map kvOf=m→Fn P fid args f (mpS b enc es clock::A) R):Fn P fid args f (mp b enc m::A) R:=
 EN (ι:={i:List (κ×Value×Nat)×Nat // i.1.map kvOf=m}) (B:=fun i=>[mpS b enc i.1.1 i.1.2]) (fun h hh=>by
  obtain⟨es,clock,a1,a2⟩:=mp_mpS hh
  refine⟨⟨(es,clock),a1⟩,?_⟩
  simp only[stars,star_emp]
  exact a2) fun i=>k i.1.1 i.1.2 i.2
theorem Er{b:Nat}{es:List (κ×Value×Nat)}{k:κ}{i:Bool}[hu:Und P t (.map kt et)][hk:KeyT P kt enc][hz:Zer P et z](hw:want? l L gd=true)
  (hx:ev? L x=some (.map (some b))) (hy:ev? L y=some kv) (hA:At A (mpS b enc es clock) A' (mpS b enc es clock)) (hkv:kv=enc k) (hv:(getKV (es.map kvOf) k).getD z=v) (hi:(getKV (es.map kvOf) k).isSome=i) (hd:Nat.ble (d+1) n=true)
  (kk:H P base n ((d,.tuple #[v,.bool i])::L) f A (.ops l rest q)):H P base n L f A (.ops l (⟨some d,.lookup t x y true,ty,pos,af,gd⟩::rest) q):=
 AK hw hd (fun a w hfr s=>by
  subst hv;subst hkv;subst hi
  obtain⟨B,s',hB⟩:=s.mpS_mp hA
  have h:=zbo (c:=true) (k:=k) hu hk hz s' hB
  simp only[execOp,hfr.eval hx,hfr.eval hy,Sem.run_bind,h,Result.andThen_ok,Sem.run_pure]
  rfl) kk
theorem Sat.mpAt_mp{b:Nat}{m:List (κ×Value)}{k:κ}{y:HP}(s:Sat base w f A)(h:At A (mpAt b enc m k st) A' y):∃B,Sat base w f B∧At B (mp b enc m) B (mp b enc m):=by
 obtain⟨B,hB⟩:=h.swap (mp b enc m);refine⟨B,s.imp fun x hx=>?_,hB.self⟩;obtain⟨R,h1,h2⟩:=hB.split;rw[h1]at hx;rw[h2];obtain⟨m1,m2,dd,e,⟨es,clock,a1,a2,a3,a4,_,a6⟩,r⟩:=hx;exact⟨m1,m2,dd,e,⟨es,clock,a1,a2,a3,a4,a6⟩,r⟩
theorem FE{b:Nat}{m:List (κ×Value)}{k0 k:κ}[hu:Und P t (.map kt et)][hk:KeyT P kt enc][hz:Zer P et z](hw:want? l L gd=true)
  (hx:ev? L x=some (.map (some b))) (hy:ev? L y=some kv) (hA:At A (mpAt b enc m k0 st) A' (mpAt b enc m k0 st)) (hkv:kv=enc k) (hv:(getKV m k).getD z=v) (hd:Nat.ble (d+1) n=true)
  (kk:H P base n ((d,v)::L) f A (.ops l rest q)):H P base n L f A (.ops l (⟨some d,.lookup t x y false,ty,pos,af,gd⟩::rest) q):=
 AK hw hd (fun a w hfr s=>by
  subst hv;subst hkv
  obtain⟨B,s',hB⟩:=s.mpAt_mp hA
  have h:=zbo (c:=false) (k:=k) hu hk hz s' hB
  simp only[execOp,hfr.eval hx,hfr.eval hy,Sem.run_bind,h,Result.andThen_ok,Sem.run_pure]
  rfl) kk
def itr(r b:Nat)(es:List (κ×Value×Nat))(clock:Nat)(seen:List κ):HP:=fun h=>
 ∃sA:Array Nat,(∀e∈es,sA.contains e.2.2=true↔e.1∈seen)∧(∀k r,seen=k::r→∃e∈es,e.1=k∧sA.back? =some e.2.2)∧h=sing r (.mapIter (some b) clock sA clock)
theorem H.range{b:Nat}{es:List (κ×Value×Nat)}[hu:Und P t (.map kt et)](hw:want? l L gd=true)
  (hx:ev? L x=some (.map (some b))) (hA:At A (mpS b enc es clock) A' (mpS b enc es clock)) (hd:Nat.ble (d+1) n=true)
  (kk:∀r,H P base n ((d,.pointer (some ⟨r,0,none⟩))::L) f (itr r b es clock []::A) (.ops l rest q)):H P base n L f A (.ops l (⟨some d,.range t x,ty,pos,af,gd⟩::rest) q):=
 C0 (fun r:Nat=>.pointer (some ⟨r,0,none⟩)) (fun _=>f) (fun r=>itr r b es clock []::A) (fun _=>True) hw hd (fun a w hfr s=>by
  obtain⟨ho,hb⟩:=s.mpS_at hA
  refine⟨w.heap.size,w.alloc (.mapIter (some b) clock #[] clock),trivial,?_,?_⟩
  ·have h:=run_range_map w t kt et b _ clock hu.eq hb
   simp only[execOp,hfr.eval hx,Sem.run_bind,h,Result.andThen_ok,Sem.run_pure]
  ·have s1:Sat base (w.alloc (.mapIter (some b) clock #[] clock)) f (pts w.heap.size (.mapIter (some b) clock #[] clock)::A):=s.alloc rfl rfl rfl rfl
   refine s1.imp fun h hh=>?_
   obtain⟨m1,m2,dd,e,a1,a2⟩:=hh
   exact⟨m1,m2,dd,e,⟨#[],(fun e _=>by simp),(fun k r hk=>by cases hk),a1⟩,a2⟩) (fun r _=>kk r)
theorem Sat.itr_at{r b:Nat}{es:List (κ×Value×Nat)}{seen:List κ}{y:HP}(s:Sat base w f A)(h:At A (itr r b es clock seen) A' y):∃sA:Array Nat,(∀e∈es,sA.contains e.2.2=true↔e.1∈seen)∧(∀k r,seen=k::r→∃e∈es,e.1=k∧sA.back? =some e.2.2)∧w.heap[r]?=some (.mapIter (some b) clock sA clock):=by
 obtain⟨R,h1,_⟩:=h.split;obtain⟨x,hm,_,hw⟩:=s.mem;rw[h1]at hm;obtain⟨m1,m2,_,rfl,⟨sA,a1,a2,rfl⟩,_⟩:=hm;exact⟨sA,a1,a2,hw r _ ji⟩
theorem run_next_itr{r b:Nat}{es:List (κ×Value×Nat)}{sA:Array Nat}(ho:MapOk es clock)(hb:w.heap[b]?=some (.map (es.map (entOf enc)).toArray clock))(hr:w.heap[r]?=some (.mapIter (some b) clock sA clock)):((∀e∈es,sA.contains e.2.2=true)∧(Instr.next (.pointer (some ⟨r,0,none⟩)) false ty).run P w= .ok (.tuple #[.bool false]) w)∨
  ∃e∈es,sA.contains e.2.2=false∧∃w1:World,w1.heap=w.heap∧w1.os=w.os∧w1.output=w.output∧w1.tape=w.tape∧
   (Instr.next (.pointer (some ⟨r,0,none⟩)) false ty).run P w= .ok (.tuple #[.bool true,enc e.1,e.2.1]) {w1 with heap:=w1.heap.setIfInBounds r (.mapIter (some b) clock (sA.push e.2.2) clock)}:=by
 have hold:∀x∈(es.map (entOf enc)).toArray.toList,x.born<clock:=fun x hx=>by
  simp only[List.mem_map]at hx;obtain⟨e,he,rfl⟩:=hx;exact ho.below e he
 simp only[Instr.next,getObj,Sem.run_bind,Sem.run,hr,hb,Result.andThen,next_test_false sA (es.map (entOf enc)).toArray clock clock hold (Nat.le_refl _),Bool.false_eq_true,if_false];have hmem:∀x∈(Array.filter (fun e=>!sA.contains e.born) (es.map (entOf enc)).toArray).toList,x.born<clock:=fun x hx=>hold x (by simp at hx⊢;exact hx.1)
 have hin:∀x∈(Array.filter (fun e=>!sA.contains e.born) (es.map (entOf enc)).toArray),∃e∈es,x=entOf enc e∧sA.contains e.2.2=false:=fun x hx=>by
  have h:=Array.mem_filter.1 hx;obtain⟨e,he,rfl⟩:=List.mem_map.1 (List.mem_toArray.1 h.1)
  exact⟨e,he,rfl,by simpa [entOf]using h.2⟩
 have hall:(Array.filter (fun e=>!sA.contains e.born) (es.map (entOf enc)).toArray)= #[]→∀e∈es,sA.contains e.2.2=true:=fun h2 e he=>by
  rw[Array.filter_eq_empty_iff]at h2;have h3:=h2 (entOf enc e) (List.mem_toArray.2 (List.mem_map.2 ⟨e,he,rfl⟩))
  cases hc:sA.contains e.2.2 with
  |true=>rfl
  |false=>exact absurd (by show(!sA.contains e.2.2)=true;rw[hc];rfl) h3
 generalize Array.filter (fun e=>!sA.contains e.born) (es.map (entOf enc)).toArray=L at hmem hin hall⊢;have e1:L.filter (fun x=>decide (x.born<clock))=L:=Array.filter_eq_self.2 (fun x hx=>by simpa using hmem x kR)
 have e2:L.filter (fun x=>decide (x.born≥clock))= #[]:=by
  rw[Array.filter_eq_empty_iff];intro x hx
  have:=hmem x kR;simp
  omega
 simp only[e1,e2,Array.append_empty];by_cases h0:L.size=0
 ·left;have:L= #[]:=Array.eq_empty_of_size_eq_zero h0;refine⟨hall this,?_⟩
  subst this;simp[choose,Sem.run,Question.forced]
 ·right;have hne:L.isEmpty=false:=by simp[Array.isEmpty,h0]
  simp only[hne,Bool.false_eq_true,if_false,Array.empty_append,Array.size_map]
  have hch:∃(j:Nat) (w1:World),j<L.size∧w1.heap=w.heap∧w1.os=w.os∧w1.output=w.output∧w1.tape=w.tape∧(choose (Question.mapNext L.size)).run P w= .ok j w1:=by
   by_cases hf:L.size≤1
   ·exact⟨0,w,by omega,rfl,rfl,rfl,rfl,by simp[choose,Sem.run,Question.forced,hf]⟩
   ·exact⟨_,w.drew,Nat.mod_lt _ jB,rfl,rfl,rfl,rfl,by
     simp only[choose,Sem.run,Question.forced,decide_eq_true_eq,hf,if_false,Question.cut]
     rfl⟩
  obtain⟨j,w1,hj,q1,q2,q3,q4,hrun⟩:=hch;obtain⟨e,he,hx,hc⟩:=hin L[j] (Array.getElem_mem hj);refine⟨e,he,hc,w1,q1,q2,q3,q4,?_⟩
  have hset:∀o':Obj,(setObj r o').run P w1= .ok () {w1 with heap:=w1.heap.setIfInBounds r o'}:=fun o'=>by
   simp only[setObj,Sem.run,q1,hr]
  simp only[hrun,Array.getElem?_map,Array.getElem?_eq_getElem hj,Option.map_some,Sem.run_bind,hset,Result.andThen,hx];rfl
theorem map_inj{α β:Type}(g:α→β):∀ {l:List α},(l.map g).Nodup→∀ {x y:α},x∈l→y∈l→g x=g y→x=y
 | [],_,x,_,hx,_,_=>by cases hx
 | z :: l, h, x, y, hx, hy, e => by
  have h':=List.nodup_cons.1 h
  rcases List.mem_cons.1 hx with h1|h1
  ·rcases List.mem_cons.1 hy with h2|h2
   ·rw[h1,h2]
   ·exact absurd (List.mem_map.2 ⟨y,h2,by rw[←e,h1]⟩) h'.1
  ·rcases List.mem_cons.1 hy with h2|h2
   ·exact absurd (List.mem_map.2 ⟨x,h1,by rw[e,h2]⟩) h'.1
   ·exact map_inj g h'.2 h1 h2 e
theorem H.next{r b:Nat}{es:List (κ×Value×Nat)}{seen:List κ}{A1 A2:List HP}{A':κ→List HP}(hw:want? l L gd=true)
  (hx:ev? L x=some (.pointer (some ⟨r,0,none⟩))) (hm:At A (mpS b enc es clock) A1 (mpS b enc es clock)) (hi:At A (itr r b es clock seen) A2 (itr r b es clock seen)) (hA:∀k,At A (itr r b es clock seen) (A' k) (itr r b es clock (k::seen))) (hd:Nat.ble (d+1) n=true)
  (kend:(∀e∈es,e.1∈seen)→H P base n ((d,.tuple #[.bool false])::L) f A (.ops l rest q))
  (kk:∀e∈es,e.1∉seen→H P base n ((d,.tuple #[.bool true,enc e.1,e.2.1])::L) f (A' e.1) (.ops l rest q)):H P base n L f A (.ops l (⟨some d,.next x false,ty,pos,af,gd⟩::rest) q):=
 C0 (ι:=Option (κ×Value×Nat)) (fun i=>match i with|none=>.tuple #[.bool false]|some e=>.tuple #[.bool true,enc e.1,e.2.1]) (fun _=>f) (fun i=>match i with|none=>A|some e=>A' e.1)
  (fun i=>match i with|none=>∀e∈es,e.1∈seen|some e=>e∈es∧e.1∉seen) hw hd (fun a w hfr s=>by
  obtain⟨ho,hb⟩:=s.mpS_at hm
  obtain⟨sA,a1,a2,hr⟩:=s.itr_at hi
  rcases run_next_itr (P:=P) (ty:=ty) ho hb hr with⟨b1,b2⟩|⟨e,he,hc,w1,q1,q2,q3,q4,b2⟩
  ·refine⟨none,w,fun e he=>(a1 e he).1 (b1 e he),?_,s⟩
   simp only[execOp,hfr.eval hx,Sem.run_bind,b2,Result.andThen_ok,Sem.run_pure]
  ·refine⟨some e,{w1 with heap:=w1.heap.setIfInBounds r (.mapIter (some b) clock (sA.push e.2.2) clock)},⟨he,fun hin=>by rw[(a1 e he).2 hin]at hc;cases hc⟩,?_,?_⟩
   ·simp only[execOp,hfr.eval hx,Sem.run_bind,b2,Result.andThen_ok,Sem.run_pure]
   ·refine s.turnRow (hA e.1) (fun m hm=>by obtain⟨_,_,_,rfl⟩:=hm;exact⟨_,rfl⟩) q2 q4 q3 kK ⟨sA.push e.2.2,fun e' he'=>?_,fun k rs hk=>?_,rfl⟩
    ·rw[contains_push,Bool.or_eq_true,a1 e' he',beq_iff_eq,List.mem_cons]
     constructor
     ·rintro(h|h)
      ·exact .inr h
      ·exact .inl jd
     ·rintro(h|h)
      ·exact .inr jk
      ·exact .inl h
    ·cases hk
     exact⟨e,he,rfl,by simp⟩) (fun i hi=>match i,hi with|none,hi=>kend hi|some e,hi=>kk e hi.1 hi.2)
theorem H.entry{x:Operand}{r b:Nat}{es:List (κ×Value×Nat)}{clock:Nat}{seen:List κ}{e:κ×Value×Nat}{A1 A2:List HP}(hw:want? l L gd=true)
  (hx:ev? L x=some (.pointer (some ⟨r,0,none⟩))) (hm:At A (mpS b enc es clock) A1 (mpS b enc es clock)) (hi:At A (itr r b es clock (e.1::seen)) A2 (itr r b es clock (e.1::seen))) (he:e∈es) (hd:Nat.ble (d+1) n=true)
  (kk:H P base n ((d,.tuple #[enc e.1,e.2.1])::L) f A (.ops l rest q)):H P base n L f A (.ops l (⟨some d,.entry x,ty,pos,af,gd⟩::rest) q):=
 AK hw hd (fun a w hfr s=>by
  obtain⟨ho,hb⟩:=s.mpS_at hm
  obtain⟨sA,a1,a2,hr⟩:=s.itr_at hi
  obtain⟨e',he',hk,hbk⟩:=a2 _ _ rfl
  have hee:=map_inj (fun e:κ×Value×Nat=>e.1) ho.keys he' he hk
  subst hee
  have hf:(es.map (entOf enc)).toArray.find? (fun x=>x.born == e'.2.2)=some (entOf enc e'):=by
   rw[←Array.find?_toList]
   exact find_born (entOf enc e') (es.map (entOf enc)) (by rw[List.map_map];exact ho.stamps) (List.mem_map.2 ⟨e',he',rfl⟩)
  have h:(Instr.entry (.pointer (some ⟨r,0,none⟩))).run P w= .ok (.tuple #[enc e'.1,e'.2.1]) w:=by
   simp only[Instr.entry,getObj,Sem.run_bind,Sem.run,hr,hb,Result.andThen,hbk,bne_self_eq_false,Bool.false_eq_true,if_false,hf]
   rfl
  simp only[execOp,hfr.eval hx,Sem.run_bind,h,Result.andThen_ok,Sem.run_pure]) kk
theorem E5{p:Prop}{_:Decidable p}(hw:want? l L gd=true)(hx:ev? L x=some (.bool (decide p)))(hp:p)(hd:Nat.ble (d+1) n=true)
  (k:H P base n ((d,.bool false)::L) f A (.ops l rest q)):H P base n L f A (.ops l (⟨some d,.unOp .not xt x,ty,pos,af,gd⟩::rest) q):=
 H.not hw hx (by rw[decide_eq_true hp];rfl) hd k
theorem E6{p:Prop}{_:Decidable p}(hw:want? l L gd=true)(hx:ev? L x=some (.bool (decide p)))(hp:¬p)(hd:Nat.ble (d+1) n=true)
  (k:H P base n ((d,.bool true)::L) f A (.ops l rest q)):H P base n L f A (.ops l (⟨some d,.unOp .not xt x,ty,pos,af,gd⟩::rest) q):=
 H.not hw hx (by rw[decide_eq_false hp];rfl) hd k
theorem CW{m i:Nat}{xs:List Value}{ik:IntKind}{z:Int}{de:TypeDesc}[hu:Und P t (.array m e)][he:Und P e de][hs:Siz P e 1](hw:want? l L gd=true)
  (hx:ev? L x=some (.agg xs.toArray)) (hy:ev? L y=some (.int ik z)) (hq:z=(i:Nat)) (hi:i<m) (ha:aggD de=false) (hv:xs[i]?=some v) (hd:Nat.ble (d+1) n=true)
  (k:H P base n ((d,v)::L) f A (.ops l rest q)):H P base n L f A (.ops l (⟨some d,.index t x y,ty,pos,af,gd⟩::rest) q):=
 AK hw hd (fun a w hf _=>by
  subst hq
  have h1:=hu.run w
  have h2:=hs.run w
  have h3:=run_isAgg he w
  have hi2:(0:Int)≤(i:Int)∧(i:Int)<(m:Int):=⟨by omega,by omega⟩
  simp only[execOp,hf.eval hx,hf.eval hy,Instr.index,asIntOf,Sem.run_bind,Sem.run_pure,Result.andThen_ok,h1,hi2,if_true,h2,part,h3,ha,Bool.false_eq_true,if_false,and_self]
  simp[hv,Sem.run_pure]) k
end loops
theorem and31:∀n:Fin 32,0<n.val→bitsI .and .u64 (18446744073709551616-(n.val:Int)) 31=some (((32-n.val:Nat):Nat):Int):=by decide+kernel
theorem neg64:∀n:Fin 32,0<n.val→IntKind.u64.wrap (-(n.val:Int))=18446744073709551616-(n.val:Int):=by decide+kernel
variable {sz:Nat}
theorem slP_ne{b o lv mv:Nat}(h:mv≠lv):slP (some ⟨b,o,none⟩) lv mv sz=some ⟨b,o+lv*sz,none⟩:=by
 unfold slP;rw[if_neg h];show some ((⟨b,o,none⟩:Addr).add (lv*sz))=_;rw[zas]
def accW(bs:List UInt8)(i:Nat):Nat→UInt32
 |0=>0
 |k+1=>accW bs i k <<< (UInt32.ofNat 8) ||| (bs.getD (4*i+k) 0).toUInt32
theorem shl8_or(a b:UInt32):(a ||| b) <<< (UInt32.ofNat 8)=a <<< (UInt32.ofNat 8) ||| b <<< (UInt32.ofNat 8):=by
 apply UInt32.toBitVec_inj.1;simp only[UInt32.toBitVec_shiftLeft,UInt32.toBitVec_or];exact BitVec.shiftLeft_or_distrib _ _ _
theorem shl8_shl(a:UInt32)(n:Nat)(h:n+8<32):a <<< (UInt32.ofNat n) <<< (UInt32.ofNat 8)=a <<< (UInt32.ofNat (n+8)):=by
 apply UInt32.toBitVec_inj.1;simp only[UInt32.toBitVec_shiftLeft]
 have e:∀k,k<32→((UInt32.ofNat k).toBitVec % 32).toNat=k:=fun k hk=>by
  simp[UInt32.toBitVec_ofNat',BitVec.toNat_umod,BitVec.toNat_ofNat];omega
 show a.toBitVec <<< ((UInt32.ofNat n).toBitVec % 32).toNat <<< ((UInt32.ofNat 8).toBitVec % 32).toNat=a.toBitVec <<< ((UInt32.ofNat (n+8)).toBitVec % 32).toNat;rw[e n jB,e 8 jE,e (n+8) h];exact(BitVec.shiftLeft_add _ _ _).symm
theorem accW_word(bs:List UInt8)(i:Nat):accW bs i 4=Sha.word bs i:=by
 unfold Sha.word;simp only[accW,Nat.add_zero];have z:(0:UInt32) <<< (UInt32.ofNat 8)=0:=jE
 have z2:∀x:UInt32,0 ||| x=x:=fun x=>by apply UInt32.toBitVec_inj.1;simp
 rw[z,z2];generalize(bs.getD (4*i) 0).toUInt32=x0;generalize(bs.getD (4*i+1) 0).toUInt32=x1;generalize(bs.getD (4*i+2) 0).toUInt32=x2;have e3:x0 <<< (UInt32.ofNat 8) <<< (UInt32.ofNat 8) <<< (UInt32.ofNat 8)=x0 <<< (UInt32.ofNat 24):=by rw[shl8_shl x0 8 jE];exact shl8_shl x0 16 jE
 have e2:x1 <<< (UInt32.ofNat 8) <<< (UInt32.ofNat 8)=x1 <<< (UInt32.ofNat 16):=shl8_shl x1 8 jE;rw[shl8_or,shl8_or,shl8_or,e3,e2]
variable {n:Nat}
section
variable (f:Frag) (F:List HP)
theorem rotL_fn{x:UInt32}(h0:0<n)(hn:n<32):Fn prog 405 [w32 x,.int .i64 (-(n:Int))] f F (Ret (w32 (Sha.rot x n)) f F):=by
 have e1:IntKind.u64.wrap (-(n:Int))=18446744073709551616-(n:Int):=neg64 ⟨n,hn⟩ h0;have e2:bitsI .and .u64 (18446744073709551616-(n:Int)) 31=some ((32-n:Nat):Int):=and31 ⟨n,hn⟩ h0
 have e3:IntKind.u64.wrap (32-((32-n:Nat):Int))=(n:Int):=by rw[wr_u64 jB];omega
 have e4:x <<< (UInt32.ofNat (32-n)) ||| x >>> (UInt32.ofNat n)=Sha.rot x n:=by
  unfold Sha.rot;apply UInt32.toBitVec_inj.1;simp only[UInt32.toBitVec_or];exact BitVec.or_comm _ _
 refine A9 func405 ntmps405 fun base=>?_;repeat(first|(apply BL;(iterate 2 exact rfl);exact e1;exact rfl)|(apply (gU)))
 refine H.bits rfl rfl rfl e2 rfl rfl ?_;repeat(first|(apply BC;(iterate 4 exact rfl);exact e3;exact rfl)|(apply (gU))|(apply H.shift;(iterate 3 exact rfl);(first|with_reducible exact u32_shl x (32-n) jB|with_reducible exact u32_shr x n hn);omega;(iterate 2 exact rfl))|(refine H.bits (op:=.or) rfl rfl rfl (u32_or _ _) rfl rfl ?_))
 exact AE rfl rfl iD ⟨by rw[←e4];rfl,rfl,rfl⟩
theorem sturn_fn{x:UInt32}(h0:0<n)(hn:n<32):Fn prog 392 [w32 x,.int .i64 (n:Nat)] f F (Ret (w32 (Sha.rot x n)) f F):=by
 have e1:IntKind.i64.wrap (0-(n:Int))= -(n:Int):=by rw[wr_i64 jB];omega
 refine A9 func392 ntmps392 fun base=>?_;repeat(first|(apply (gU))|(apply H.neg;(iterate 2 exact rfl);exact e1;exact rfl))
 refine A8 rfl rfl rfl (rotL_fn f _ h0 hn) ?_;apply (gK);exact qad
end
variable {S:List UInt32} {bs:List UInt8}
section
variable (f:Frag) (F:List HP)
def wPart(S:List UInt32)(i:Nat)(v:UInt32):List Value:=(wRow S i).set i (w32 v)
theorem wRow_len(hS:S.length=64){i:Nat}(h:i≤64):(wRow S i).length=64:=by
 unfold wRow;rw[List.length_append,List.length_take,List.length_map,List.length_drop,z64_len,hS];omega
theorem wPart_zero(hS:S.length=64){i:Nat}(h:i<64):wPart S i 0=wRow S i:=by
 have h1:(wRow S i)[i]?=some (w32 0):=by
  unfold wRow;exact fill_get2 (Nat.le_refl _) (by rw[List.length_map,hS,z64_len]) (by unfold z64;rw[List.getElem?_replicate,if_pos h])
 unfold wPart;obtain⟨hl,he⟩:=List.getElem?_eq_some_iff.1 h1;rw[←he,List.set_getElem_self]
theorem wPart_set(hS:S.length=64){i:Nat}(h:i<64)(v u:UInt32):SetV (wPart S i v) i (w32 u) (wPart S i u):=by
 have:=SetV.mk (l:=wPart S i v) (i:=i) (w32 u) (by unfold wPart;rw[List.length_set,wRow_len hS jB];exact h);unfold wPart at this⊢
 rwa [List.set_set]at this
theorem wPart_get(hS:S.length=64){i:Nat}(h:i<64)(v:UInt32):(wPart S i v)[i]?=some (w32 v):=by
 unfold wPart;rw[List.getElem?_set_self (by rw[wRow_len hS jB];exact h)]
theorem wPart_full(hS:S.length=64){i:Nat}(h:i<64):wPart S i (S.getD i 0)=wRow S (i+1):=by
 unfold wPart;exact(SetV.eq (wRow_set hS h)).1.symm
theorem swords_fn{nb:Nat}(hb:bs.length=64):Fn prog 391 [.pointer (some ⟨nb,0,none⟩)] f (row nb 511 (bytesV bs)::F) (Ret (.agg ((Sha.sched bs).map w32).toArray) f (row nb 511 (bytesV bs)::F)):=by
 have hlo:∀i,i<16→(Sha.sched bs).getD i 0=accW bs i 4:=fun i h=>by rw[accW_word];exact Sha.sched_lo bs h
 have hhi:∀j,j<48→(Sha.sched bs).getD (j+16) 0=(Sha.sched bs).getD j 0+Sha.s0 ((Sha.sched bs).getD (j+1) 0)+(Sha.sched bs).getD (j+9) 0+Sha.s1 ((Sha.sched bs).getD (j+14) 0):=fun j h=>Sha.sched_hi bs h;have hS:=Sha.sched_len bs
 generalize Sha.sched bs=S at hlo hhi hS⊢;refine AB func391 ntmps391 fun base=>?_;apply (gA);refine AJ (ls:=wRow S 0) rfl rfl rfl fun wb=>?_;apply (gA);refine C4 (lo:=none) (mx:=none) (lv:=0) (hv:=16) (mv:=64) rfl rfl rfl ⟨_,_,rfl,rfl⟩ rfl (fun h=>by cases h) jE jE jE rfl ?_;apply (gK)
 refine AF (ι:=Nat) (fun i=>[(11,.int .i64 (i:Int)),(10,.int .i64 ((16:Nat):Int)),(0,.pointer (some ⟨nb,0,none⟩)),(2,.pointer (some ⟨wb,0,none⟩))]) (fun _=>f)
  (fun i=>row wb 532 (wRow S i)::row nb 511 (bytesV bs)::F) (fun i=>i≤16) (fun i=>16-i) 0 (Nat.zero_le _) fun i hi=>?_
 have hi:i≤16:=hi;by_cases hlt:i<16
 ·have e1:IntKind.i64.wrap (4*(i:Int))=((4*i:Nat):Int):=by rw[wr_i64 jB];omega
  have e2:IntKind.i64.wrap (((4*i:Nat):Int)+4)=((4*i+4:Nat):Int):=by rw[wr_i64 jB];omega
  repeat(first|(apply BC;(iterate 4 exact rfl);exact e1;exact rfl)|(apply BC;(iterate 4 exact rfl);exact e2;exact rfl)|(apply (gU)))
  refine C4 (mx:=none) (lv:=4*i) (hv:=4*i+4) (mv:=64) rfl rfl ⟨_,_,rfl,rfl⟩ ⟨_,_,rfl,rfl⟩ rfl (fun h=>by cases h) jB jB jE rfl ?_;rw[slP_ne jB,show 4*i+4-4*i=4 by omega];apply (gK)
  refine H.loop (ι:=Nat) (fun k=>[(23,.int .i64 (k:Int)),(22,.int .i64 ((4:Nat):Int)),(21,.slice (some ⟨nb,0+4*i*1,none⟩) 4 (64-4*i)),(3,.int .i64 (i:Int)),(11,.int .i64 (i:Int)),(10,.int .i64 ((16:Nat):Int)),(0,.pointer (some ⟨nb,0,none⟩)),(2,.pointer (some ⟨wb,0,none⟩))]) (fun _=>f)
   (fun k=>row wb 532 (wPart S i (accW bs i k))::row nb 511 (bytesV bs)::F) (fun k=>k≤4) (fun k=>4-k) 0 (Nat.zero_le _) ⟨rfl,rfl,rfl,rfl,rfl,rfl,rfl,rfl,trivial⟩ rfl (by rw[show accW bs i 0=0 from rfl,wPart_zero hS jB]) fun k hk=>?_
  have hk:k≤4:=hk;by_cases hk4:k<4
  ·have rdc:∀A A',At A (row nb 511 (bytesV bs)) A' (row nb 511 (bytesV bs))→Rd1 f A nb (0+4*i*1+k*1) (.int .u8 ((bs.getD (4*i+k) 0).toNat:Nat)):=fun A A' h=>by
    rw[show 0+4*i*1+k*1=0+(4*i+k) by omega];exact Rd1.of (Rd.ofRow h) (bytesV_get jB)
   have hset:=wPart_set hS (i:=i) jB (accW bs i k) (accW bs i (k+1));have hget:=wPart_get hS (i:=i) jB (accW bs i k)
   have hacc:accW bs i (k+1)=accW bs i k <<< (UInt32.ofNat 8) ||| (bs.getD (4*i+k) 0).toUInt32:=rfl;rw[hacc]at hset
   show H _ _ _ ((23,.int .i64 (k:Int))::_) _ (row wb _ (wPart S i (accW bs i k))::_) _;obtain⟨v,hv⟩:∃v,accW bs i k=v:=⟨_,rfl⟩;rw[hv]at hset hget hacc⊢;apply (gN);refine B7 (i:=k) rfl rfl rfl rfl hk4 rfl ?_;refine AL rfl rfl rfl (rdc _ _ jA) rfl ?_;apply (gG);refine CI (i:=i) rfl rfl rfl rfl jB rfl ?_;refine AL rfl rfl rfl (.of (Rd.ofRow jA) (by rw[Nat.mul_one];exact hget)) rfl ?_;refine H.shift (op:=.shl) rfl rfl rfl (u32_shl8 _) jE rfl rfl ?_;repeat(first|(refine BL rfl rfl (u32_ofByte _) rfl ?_)|(apply (gU)))
   refine H.bits (op:=.or) rfl rfl rfl (u32_or _ _) rfl rfl ?_;refine CI (i:=i) rfl rfl rfl rfl jB rfl ?_;refine AZ (v:=w32 _) (ls':=wPart S i (v <<< (UInt32.ofNat 8) ||| (bs.getD (4*i+k) 0).toUInt32)) rfl rfl rfl rfl jA jg ?_;apply (gD);exact AX (k+1) (by show k+1≤4;omega) (by show 4-(k+1)<4-k;omega) ⟨rfl,rfl,rfl,rfl,rfl,rfl,rfl,rfl,trivial⟩ rfl (by show _=row wb _ (wPart S i (accW bs i (k+1)))::_;rw[hacc])
  ·have hk44:k=4:=jB
   subst hk44;apply (gT);exact AX (i+1) (by show i+1≤16;omega) (by show 16-(i+1)<16-i;omega) ⟨rfl,rfl,rfl,rfl,trivial⟩ rfl (by rw[←hlo i hlt,wPart_full hS jB])
 ·have hi16:i=16:=jB
  subst hi16;apply (gE)
  refine AF (ι:=Nat) (fun j=>[(6,.int .i64 ((j+16:Nat):Int)),(2,.pointer (some ⟨wb,0,none⟩))]) (fun _=>f)
   (fun j=>row wb 532 (wRow S (j+16))::row nb 511 (bytesV bs)::F) (fun j=>j≤48) (fun j=>48-j) 0 (Nat.zero_le _) fun j hj=>?_
  have hj:j≤48:=hj;by_cases hlt:j<48
  ·have hw:=hhi j hlt;have hset:=wRow_set hS (n:=j+16) jB
   rw[hw]at hset;have hg:∀k,k<j+16→(wRow S (j+16))[k*1]?=some (w32 (S.getD k 0)):=fun k hk=>by rw[Nat.mul_one];exact wRow_get hS hk jB
   apply (gN);refine BB ?_;repeat(first|(apply BO (i:=j+1);(iterate 3 exact rfl);omega;omega;exact rfl)|(apply BO (i:=j+14);(iterate 3 exact rfl);omega;omega;exact rfl)|(apply B6;(iterate 3 exact rfl);exact .of (Rd.ofRow jA) (hg _ jB);exact rfl)|(apply (gV)))
   apply (gA);refine H.dc [0,1,2,3,4,5,6,7,8,9,10,11,12,13,14,15,16,17,18,19,20,21,22,23,24,25,26,27,28] (S:=[_]) rfl ?_;apply A6 [0,1,2,3,4,5,7,10,11,14,15,16,17,19,21,24,25] 13;repeat(first|(apply BO (i:=j);(iterate 3 exact rfl);omega;omega;exact rfl)|(apply BO (i:=j+9);(iterate 3 exact rfl);omega;omega;exact rfl)|(apply B6;(iterate 3 exact rfl);exact .of (Rd.ofRow jA) (hg _ jB);exact rfl)|(apply (gV))|(apply HQ.shift;(iterate 3 exact rfl);(first|with_reducible exact u32_shr3 _|with_reducible exact u32_shr10 _);decide;(iterate 2 exact rfl)))
   apply (qfK);refine A8 rfl rfl rfl (sturn_fn f _ (n:=7) jE jE) ?_;apply (qdE);apply A7 8;refine A8 rfl rfl rfl (sturn_fn f _ (n:=18) jE jE) ?_;apply (qdE);apply A6 [9,12,13,18] 7;apply (qiH);apply A7 20;refine A8 rfl rfl rfl (sturn_fn f _ (n:=17) jE jE) ?_;apply (qdE);apply A7 22;refine A8 rfl rfl rfl (sturn_fn f _ (n:=19) jE jE) ?_;apply (qdE);apply A6 [23,26,27,28] 1;repeat(first|(apply (gV))|(apply HQ.bits;(iterate 3 exact rfl);(with_reducible exact u32_xor _ _);(iterate 2 exact rfl))|(apply BO (i:=j+16);(iterate 3 exact rfl);exact rfl;omega;exact rfl))
   apply (qdG);apply (qeJ);apply A7 29;refine AZ (v:=w32 _) (ls':=wRow S (j+16+1)) rfl rfl rfl rfl jA jg ?_;apply (qeX);apply (gD);exact AX (j+1) (by show j+1≤48;omega) (by show 48-(j+1)<48-j;omega) ⟨by show some _=some (Value.int .i64 ((j+1+16:Nat):Int));rw[show j+1+16=j+16+1 by omega],rfl,trivial⟩ rfl (by show _=row wb _ (wRow S (j+1+16))::_;rw[show j+1+16=j+16+1 by omega];rfl)
  ·have hj48:j=48:=jB
   subst hj48
   have hfull:wRow S (48+16)=S.map w32:=by
    unfold wRow;rw[show 48+16=(S.map w32).length by rw[List.length_map,hS],List.take_length,List.length_map,hS];show S.map w32++z64.drop 64=_;rw[List.drop_eq_nil_of_le (by rw[z64_len];exact Nat.le_refl _),List.append_nil]
   show H _ _ _ _ _ (row wb _ (wRow S (48+16))::_) _;rw[hfull];have hl:(S.map w32).length=64:=by rw[List.length_map,hS]
   apply (gE);refine AD (ls:=S.map w32) rfl rfl rfl (Rd.ofRow jA) hl rfl ?_;refine AC (ls:=S.map w32) (vs:=S.map w32) (ls':=S.map w32) rfl rfl rfl (fun v hv=>by obtain⟨x,_,rfl⟩:=List.mem_map.1 hv;rfl) hl (by unfold splice;rw[List.take_zero,List.nil_append,Nat.zero_add,List.drop_length,List.append_nil]) jB jA ?_;apply (gK);exact BS rfl rfl rfl (Rd.ofRow jA) hl (fun _ s=>s.drop (.here _ _)) ⟨rfl,rfl,rfl⟩
end
def TabAt(f:Frag):Prop:=IntsAt f 0 .u32 (Sha.k.map fun x=>((x.toNat:Nat):Int))
variable {f:Frag}
theorem tab_rd(h:TabAt f){i:Nat}(hi:i<64):Rd1 f A 0 (0+i*1) (w32 (Sha.k.getD i 0)):=by
 have e:(Sha.k.map fun x=>((x.toNat:Nat):Int))[i]?=some (((Sha.k.getD i 0).toNat:Nat):Int):=by
  have hl:i<Sha.k.length:=hi;rw[List.getElem?_map,List.getElem?_eq_getElem hl,List.getD_eq_getElem?_getD,List.getElem?_eq_getElem hl]
  rfl
 rw[show 0+i*1=i by omega];exact h.rd e
theorem S8.comm(v s:Sha.S8){i:Nat}(h:i<8):(v.add s).get i=s.get i+v.get i:=by
 rw[Sha.S8.add_get v s h];apply UInt32.toBitVec_inj.1;simp only[UInt32.toBitVec_add];exact BitVec.add_comm _ _
def addRow2(v s:Sha.S8)(n:Nat):List Value:=(v.add s).vals.take n++s.vals.drop n
theorem addRow2_set(v s:Sha.S8){i:Nat}(h:i<8):SetV (addRow2 v s i) i (w32 (s.get i+v.get i)) (addRow2 v s (i+1)):=by
 rw[←S8.comm v s h];exact fill_set (Sha.S8.get_vals _ h) rfl
theorem addRow2_get(v s:Sha.S8){i:Nat}(h:i<8):(addRow2 v s i)[i]?=some (w32 (s.get i)):=fill_get2 (Nat.le_refl _) rfl (Sha.S8.get_vals s h)
variable {s:Sha.S8}
section
variable (f:Frag) (F:List HP)
theorem sblock_fn(htab:TabAt f)(hb:bs.length=64):Fn prog 364 [.agg s.vals.toArray,.agg (bytesV bs).toArray] f F (Ret (.agg (Sha.block s bs).vals.toArray) f F):=by
 have hbl:(bytesV bs).length=64:=by rw[zab,hb]
 have hwords:=fun nb G=>swords_fn f G (nb:=nb) hb;have hS:=Sha.sched_len bs
 unfold Sha.block;generalize Sha.sched bs=S at hwords hS⊢;have hgS:∀k,k<64→(S.map w32)[k]?=some (w32 (S.getD k 0)):=fun k hk=>map_get w32 jB 0;refine A9 func364 ntmps364 fun base=>?_
 apply (gA);refine H.box (ls:=s.vals) rfl rfl rfl rfl fun sb=>?_;refine H.box (ls:=bytesV bs) rfl rfl rfl rfl fun nb=>?_;refine AJ (ls:=List.replicate 8 (.int .u32 0)) rfl rfl rfl fun ob=>?_;apply (gA);refine BB ?_;repeat(first|(apply (gV))|(apply EV;(iterate 3 exact rfl);decide;exact rfl))
 apply (gA);apply (qdM);refine A8 rfl rfl rfl (hwords nb _) ?_;apply (gK)
 refine AF (ι:=Nat) (fun i=>[(36,.int .i64 (i:Int)),(35,.agg (S.map w32).toArray),(5,w32 (Sha.rounds S s i).a),(6,w32 (Sha.rounds S s i).b),(7,w32 (Sha.rounds S s i).c),(8,w32 (Sha.rounds S s i).d),(9,w32 (Sha.rounds S s i).e),(10,w32 (Sha.rounds S s i).f),(11,w32 (Sha.rounds S s i).g),(12,w32 (Sha.rounds S s i).h),(2,.pointer (some ⟨sb,0,none⟩)),(4,.pointer (some ⟨ob,0,none⟩))]) (fun _=>f)
  (fun _=>row nb 511 (bytesV bs)::row ob 509 (List.replicate 8 (.int .u32 0))::row sb 509 s.vals::F) (fun i=>i≤64) (fun i=>64-i) 0 (Nat.zero_le _) fun i hi=>?_
 have hi:i≤64:=hi;by_cases hlt:i<64
 ·have hr:Sha.rounds S s (i+1)=Sha.round (Sha.k.getD i 0) (S.getD i 0) (Sha.rounds S s i):=rfl;have hgs:=hgS i hlt
  have hgk:=fun A=>tab_rd htab (A:=A) hlt;generalize Sha.k.getD i 0=kk at hr hgk
  generalize S.getD i 0=ww at hr hgs;generalize S.map w32=SL at hgs hwords⊢;show H _ _ _ [_,_,(5,w32 (Sha.rounds S s i).a),(6,w32 (Sha.rounds S s i).b),(7,w32 (Sha.rounds S s i).c),(8,w32 (Sha.rounds S s i).d),(9,w32 (Sha.rounds S s i).e),(10,w32 (Sha.rounds S s i).f),(11,w32 (Sha.rounds S s i).g),(12,w32 (Sha.rounds S s i).h),_,_] _ _ _;generalize Sha.rounds S s i=v at hr⊢;repeat(first|(apply (gU))|(apply CW (i:=i);(iterate 4 exact rfl);exact hlt;exact rfl;exact hgs;exact rfl))
  refine H.db (S:=[]) rfl ?_;apply A6 [0,1,3,6,10,11,12,13,14,15,16,17,19,20,21,23] 10;repeat(first|(apply BO (i:=i);(iterate 3 exact rfl);exact rfl;exact hlt;exact rfl)|(apply B6;(iterate 3 exact rfl);exact hgk _;exact rfl)|(apply (gV))|(apply HQ.bits;(iterate 3 exact rfl);(first|with_reducible exact u32_xor _ _|with_reducible exact u32_and _ _);(iterate 2 exact rfl))|(apply F4;(iterate 2 exact rfl);exact u32_not _;(iterate 2 exact rfl)))
  apply (qdG);apply A7 2;refine A8 rfl rfl rfl (sturn_fn f _ (n:=6) jE jE) ?_;apply (qdE);apply A7 4;refine A8 rfl rfl rfl (sturn_fn f _ (n:=11) jE jE) ?_;apply (qdE);apply A6 [5] 7;repeat((apply HQ.bits;(iterate 3 exact rfl);(with_reducible exact u32_xor _ _);(iterate 2 exact rfl)))
  apply (qdG);apply A7 7;refine A8 rfl rfl rfl (sturn_fn f _ (n:=25) jE jE) ?_;apply (qdE);apply A6 [8,9,18,22,24,25] 0;apply (qiH);refine AN ?_;apply (gG);refine A8 rfl rfl rfl (sturn_fn f _ (n:=2) jE jE) ?_;apply (gG);refine A8 rfl rfl rfl (sturn_fn f _ (n:=13) jE jE) ?_;apply (qif);apply (gG);refine A8 rfl rfl rfl (sturn_fn f _ (n:=22) jE jE) ?_;apply (qif);apply (qiR);apply (qiR);apply (qif);apply (qiR);apply (qif);apply (gD);exact AX (i+1) (by show i+1≤64;omega) (by show 64-(i+1)<64-i;omega) ⟨rfl,rfl,by rw[hr];rfl,by rw[hr];rfl,by rw[hr];rfl,by rw[hr];rfl,by rw[hr];rfl,by rw[hr];rfl,by rw[hr];rfl,by rw[hr];rfl,rfl,rfl,trivial⟩ rfl rfl
 ·have hi64:i=64:=jB
  subst hi64;show H _ _ _ [_,_,(5,w32 (Sha.rounds S s 64).a),(6,w32 (Sha.rounds S s 64).b),(7,w32 (Sha.rounds S s 64).c),(8,w32 (Sha.rounds S s 64).d),(9,w32 (Sha.rounds S s 64).e),(10,w32 (Sha.rounds S s 64).f),(11,w32 (Sha.rounds S s 64).g),(12,w32 (Sha.rounds S s 64).h),_,_] _ _ _;generalize Sha.rounds S s 64=v;apply (gE);refine DE (out:=v.vals) rfl rfl rfl rfl rfl ?_;apply (gK);apply (qiO);apply (qfO)
  refine AF (ι:=Nat) (fun i=>[(107,.int .i64 (i:Int)),(106,.agg v.vals.toArray),(2,.pointer (some ⟨sb,0,none⟩)),(4,.pointer (some ⟨ob,0,none⟩))]) (fun _=>f)
   (fun i=>row sb 509 (addRow2 v s i)::row ob 509 (List.replicate 8 (.int .u32 0))::F) (fun i=>i≤8) (fun i=>8-i) 0 (Nat.zero_le _) fun i hi=>?_
  have hi:i≤8:=hi;by_cases hlt:i<8
  ·have hset:=addRow2_set v s hlt;have hg:=addRow2_get v s hlt
   have hg2:=Sha.S8.get_vals v hlt;show H _ _ _ _ _ (row sb _ (addRow2 v s i)::_) _
   repeat(first|(apply (gU))|(apply CW (i:=i);(iterate 4 exact rfl);exact hlt;exact rfl;exact hg2;exact rfl))
   apply (qjZ);refine AL rfl rfl rfl (.of (Rd.ofRow jA) (by rw[Nat.mul_one];exact hg)) rfl ?_;apply (gD);apply (qjZ);refine AZ (v:=w32 _) (ls':=addRow2 v s (i+1)) rfl rfl rfl rfl jA jg ?_;apply (gD);exact qbn
  ·have hi8:i=8:=jB
   subst hi8;apply (gE);refine AD (ls:=(v.add s).vals) rfl rfl rfl (Rd.ofRow jA) rfl rfl ?_;refine AC (ls:=List.replicate 8 (.int .u32 0)) (vs:=(v.add s).vals) (ls':=(v.add s).vals) rfl rfl rfl (zaa rfl) rfl rfl (Nat.le_refl 8) jA ?_;apply (gK);apply (qkw);exact qav
end
def b32(t:Nat→UInt8):List Value:=[.int .u8 (t 0).toNat,.int .u8 (t 1).toNat,.int .u8 (t 2).toNat,.int .u8 (t 3).toNat,.int .u8 (t 4).toNat,.int .u8 (t 5).toNat,.int .u8 (t 6).toNat,.int .u8 (t 7).toNat,.int .u8 (t 8).toNat,.int .u8 (t 9).toNat,.int .u8 (t 10).toNat,.int .u8 (t 11).toNat,.int .u8 (t 12).toNat,.int .u8 (t 13).toNat,.int .u8 (t 14).toNat,.int .u8 (t 15).toNat,.int .u8 (t 16).toNat,.int .u8 (t 17).toNat,.int .u8 (t 18).toNat,.int .u8 (t 19).toNat,.int .u8 (t 20).toNat,.int .u8 (t 21).toNat,.int .u8 (t 22).toNat,.int .u8 (t 23).toNat,.int .u8 (t 24).toNat,.int .u8 (t 25).toNat,.int .u8 (t 26).toNat,.int .u8 (t 27).toNat,.int .u8 (t 28).toNat,.int .u8 (t 29).toNat,.int .u8 (t 30).toNat,.int .u8 (t 31).toNat]
def v11(d:Nat→Int):List Value:=[.int .u64 (d 0),.int .u64 (d 1),.int .u64 (d 2),.int .u64 (d 3),.int .u64 (d 4),.int .u64 (d 5),.int .u64 (d 6),.int .u64 (d 7),.int .u64 (d 8),.int .u64 (d 9),.int .u64 (d 10)]
structure Req where
 client:Int
 time:Int
 kind:UInt8
 key:ByteArray
 val:ByteArray
 old:ByteArray
 to:ByteArray
 amount:Int
 tag:Nat→UInt8
def Req.vals(r:Req):List Value:=[.int .i64 r.client,.int .u64 r.time,.int .u8 (r.kind.toNat:Nat),.string r.key,.string r.val,.string r.old,.string r.to,.int .u64 r.amount]++b32 r.tag
def Req.zero:Req:=⟨0,0,0,.empty,.empty,.empty,.empty,0,fun _=>0⟩
structure Bod where
 kind:UInt8
 view:Int
 k:Int
 req:Req
 q:List (Int×Int)
 dig:Nat→UInt8
def Bod.vals(x:Bod)(p:Option Addr)(c:Nat):List Value:=[.int .u8 (x.kind.toNat:Nat),.int .u64 x.view,.int .u64 x.k]++x.req.vals++[.slice p x.q.length c]++b32 x.dig
structure Msg where
 origin:Int
 number:Int
 deps:Nat→Int
 body:Bod
 tag:Nat→UInt8
def Msg.vals(m:Msg)(p:Option Addr)(c:Nat):List Value:=[.int .i64 m.origin,.int .u64 m.number]++v11 m.deps++m.body.vals p c++b32 m.tag
def pairV(p:Int×Int):List Value:=[.int .i64 p.1,.int .u64 p.2]
def QAt(f:Frag)(p:Option Addr)(q:List (Int×Int)):Prop:=∀i x,q[i]?=some x→∃b off cs T fr,p=some ⟨b,off,none⟩∧f b=some (.cells cs T fr)∧∀j,j<(pairV x).length→cs[off+i*2+j]?=(pairV x)[j]?
theorem QAt.nil(f:Frag)(p:Option Addr):QAt f p []:=fun i x h=>by simp at h
variable {p:Option Addr} {c:Nat} {l:List UInt8}
section
variable (f:Frag) (A:List HP) (x:Bod) (q:Option Addr) (qc:Nat)
theorem view1_fn(hs:Src prog f A (.slice p l.length c) 1 l.length (bytesV l))(hn:p=none→l=[])(hl:l.length≤10000000000):Fn prog 278 [.slice p l.length c,.agg (x.vals q qc).toArray] f A (BytesR (l++be 8 x.view) f A):=by
 refine A9 func278 ntmps278 fun base=>?_;refine (qeT) fun xb=>?_;apply (gO);refine AG rfl rfl rfl (zbj f _ hs.cons hn hl) fun p1 c1=>?_;apply (gK);refine B4 (.there _ (.here _ _)) ?_;exact AU ⟨p1,c1,rfl,rfl,rfl⟩
theorem view3_fn:Fn prog 280 [.agg (x.vals q qc).toArray] f A (Ret (.bool (decide (1≤x.view))) f A):=by
 refine AB func280 ntmps280 fun base=>?_;refine (qeT) fun xb=>?_;apply (gT);exact qaI
theorem k_fn:Fn prog 224 [.agg (x.vals q qc).toArray] f A (Ret (.bool (decide (1≤x.k∧x.k≤4611686018427387904))) f A):=by
 by_cases h1:1≤x.k
 ·exact qbk
 ·exact qbk
def Req.asked(r:Req):Prop:=1≤r.client∧r.client≤8∧1≤r.time∧r.time≤4611686018427387904∧(r.key.size≤32∧r.to.size≤32)∧(r.val.size≤128∧r.old.size≤128)
instance (r:Req):Decidable r.asked:=by unfold Req.asked;infer_instance
theorem asked_fn(r:Req):Fn prog 221 [.agg r.vals.toArray] f A (Ret (.bool (decide r.asked)) f A):=by
 by_cases h1:1≤r.client
 ·by_cases h2:r.client≤8
  ·by_cases h3:1≤r.time
   ·by_cases h4:r.time≤4611686018427387904
    ·by_cases h5:r.key.size≤32∧r.to.size≤32
     ·by_cases h6:r.val.size≤128∧r.old.size≤128
      ·refine (qht) fun base=>?_;refine (qeQ) fun xb=>?_;apply (qfE);exact AE rfl rfl iD ⟨by rw[decide_eq_true (show r.asked from⟨h1,h2,h3,h4,h5,h6⟩),decide_eq_true (by split<;>omega)],rfl,rfl⟩
      ·refine (qht) fun base=>?_;refine (qeQ) fun xb=>?_;apply (qfE);exact AE rfl rfl iD ⟨by rw[decide_eq_false (show¬r.asked from fun h=>h6 h.2.2.2.2.2),decide_eq_false (by split<;>omega)],rfl,rfl⟩
     ·refine (qht) fun base=>?_;refine (qeQ) fun xb=>?_;apply (qji);apply (qhT);exact AE rfl rfl iD ⟨by rw[decide_eq_false (fun h=>h5 h.2.2.2.2.1)],rfl,rfl⟩
    ·refine (qht) fun base=>?_;refine (qeQ) fun xb=>?_;apply (qhT);exact AE rfl rfl iD ⟨by rw[decide_eq_false (fun h=>h4 h.2.2.2.1)],rfl,rfl⟩
   ·refine (qht) fun base=>?_;refine (qeQ) fun xb=>?_;apply (qhT);exact AE rfl rfl iD ⟨by rw[decide_eq_false (fun h=>h3 h.2.2.1)],rfl,rfl⟩
  ·refine (qht) fun base=>?_;refine (qeQ) fun xb=>?_;apply (qhT);exact AE rfl rfl iD ⟨by rw[decide_eq_false (fun h=>h2 h.2.1)],rfl,rfl⟩
 ·refine (qht) fun base=>?_;refine (qeQ) fun xb=>?_;apply (qhT);exact AE rfl rfl iD ⟨by rw[decide_eq_false (fun h=>h1 h.1)],rfl,rfl⟩
def quo:Int→List (Int×Int)→Bool
 |_,[]=>true
 |was,p::r=>if p.1≤was∨11<p.1∨p.2<1∨65536<p.2 then false else quo p.1 r
theorem quorum_fn{l:List (Int×Int)}(hq:QAt f p l)(hl:l.length≤1000000000000):Fn prog 229 [.slice p l.length c] f A (Ret (.bool (quo 0 l&&decide (0<l.length))) f A):=by
 refine AB func229 ntmps229 fun base=>?_;apply (gK);refine AF (ι:=Nat×Int) (fun i=>[(8,.int .i64 (i.1:Int)),(7,.int .i64 (l.length:Nat)),(3,.int .i64 i.2),(0,.slice p l.length c),(6,.slice p l.length c)]) (fun _=>f) (fun _=>A) (fun i=>i.1≤l.length∧quo 0 l=quo i.2 (l.drop i.1)) (fun i=>l.length-i.1) (0,0) ⟨Nat.zero_le _,rfl⟩ fun i hi=>?_;obtain⟨i,w⟩:=i;obtain⟨hi,hw⟩:i≤l.length∧quo 0 l=quo w (l.drop i):=hi;show H _ _ _ [(8,.int .i64 (i:Int)),_,(3,.int .i64 w),_,_] _ _ _;rw[hw];apply (gJ);by_cases hlt:i<l.length
 ·have hx:l[i]?=some l[i]:=List.getElem?_eq_getElem hlt;have hd:l.drop i=l[i]::l.drop (i+1):=List.drop_eq_getElem_cons hlt
  generalize l[i]=x at hx hd;obtain⟨b,off,cs,T,fr,rfl,hfb,hcs⟩:=hq i x hx;have rd:∀A,Rd f A b (off+i*2) (pairV x):=fun A=>Rd.imm hfb hcs;clear hcs hfb
  have hquo:quo w (l.drop i)=if x.1≤w∨11<x.1∨x.2<1∨65536<x.2 then false else quo x.1 (l.drop (i+1)):=by rw[hd];rfl
  apply (qhD);refine AD (ls:=pairV x) rfl rfl rfl (rd _) rfl rfl ?_;refine AJ rfl rfl rfl fun xb=>?_;refine AC (ls:=[.int .i64 0,.int .u64 0]) (vs:=pairV x) (ls':=pairV x) rfl rfl rfl (zaa rfl) rfl rfl (Nat.le_refl 2) jA ?_;rw[hquo];by_cases h1:x.1≤w
  ·rw[if_pos (.inl h1)];exact qcf
  ·by_cases h2 : 11 < x.1
   ·rw[if_pos (.inr (.inl h2))];exact qcf
   ·by_cases h3 : x.2 < 1
    ·rw[if_pos (.inr (.inr (.inl h3)))];exact qcf
    ·by_cases h4:65536<x.2
     ·rw[if_pos (.inr (.inr (.inr h4)))];exact qcf
     ·have hno:¬(x.1≤w∨11<x.1∨x.2<1∨65536<x.2):=jB
      rw[if_neg hno];rw[if_neg hno]at hquo;apply (qhT);exact AI (i+1,x.1) ⟨by show i+1≤l.length;omega,by first|rfl|exact hw.trans hquo⟩ kF
 ·have:i=l.length:=jB
  subst this;rw[List.drop_length];apply (gN);exact AE rfl rfl iD ⟨by simp[quo],rfl,rfl⟩
end
def Req.head(r:Req):List UInt8:=[UInt8.ofNat (r.client % 256).toNat,r.kind]
def Req.bytes(r:Req):List UInt8:=r.head++be 8 r.time++be 8 r.amount++textB r.key++textB r.val++textB r.old++textB r.to
def Req.texts(r:Req):List ByteArray:=[r.key,r.val,r.old,r.to]
theorem u8_wrap(z:Int):IntKind.u8.wrap z=((UInt8.ofNat (z % 256).toNat).toNat:Int):=by
 have h:IntKind.u8.wrap z=z % 256:=by simp[IntKind.wrap,IntKind.signed,IntKind.bits]
 rw[h];have h1:0≤z % 256:=Int.emod_nonneg _ jE;have h2:z % 256<256:=Int.emod_lt_of_pos _ jE
 generalize z % 256=y at h1 h2;exact qcY
section
variable (f:Frag) (A:List HP)
theorem request_fn(r:Req)(ha:r.asked)(hl:l.length≤1000000000):Fn prog 217 [.slice p l.length c,.agg r.vals.toArray] f (slc p l.length c 5 1 (bytesV l)::A) (BytesR (l++r.bytes) f A):=by
 refine A9 func217 ntmps217 fun base=>?_;refine (qeQ) fun xb=>?_;apply (gL);rw[u8_wrap];refine (qhd) fun tb=>?_;refine AQ (m:=2) rfl rfl rfl rfl rfl (fun p' c'=>jA) (Src.slice (Rd.ofRow jA) rfl) (zaa rfl) rfl jB jB fun p2 c2=>?_;apply (gG);apply (qet);have e0:(l++r.head).length=l.length+2:=by rw[List.length_append];rfl
 have e1:bytesV (l++r.head)=bytesV l++bytesV r.head:=zak _ _;rw[show(2:Nat)=2 from rfl]
 generalize hl1:l++r.head=l1 at e0 e1;show H _ _ _ _ _ (row _ _ _::slc p2 (l.length+2) c2 _ _ (bytesV l++bytesV r.head)::A) _;rw[←e0,←e1];refine EL (qt 3 0++qt 3 4++[(3,true),(7,true)]++qt 1 8) jD jJ jK (S:=[_]) rfl ?_;apply (gF);refine EK ?_;refine (qio) fun b2 hp=>?_;subst hp;refine (qiw) fun p3 c3=>?_;apply (qit);refine AO aP0 jR fun b3 hp=>?_;subst hp;apply (qee);refine H.back (A:=[_]) rfl ?_;refine EK ?_;refine AG rfl rfl rfl (zbj (l:=l1++be 8 r.time) f _ (Src.slcS aP1 jH) (fun h=>by cases h) jV) fun p4 c4=>?_;apply (qit);apply (qee);refine H.back (A:=[_]) rfl ?_;apply (gQ);apply (gO);refine (qhd) fun sb=>?_;apply (gK)
 have hsz:∀(i:Nat) (s:ByteArray),r.texts[i]?=some s→s.size≤128:=by
  obtain⟨_,_,_,_,⟨k1,k2⟩,k3,k4⟩:=ha;intro i s hs
  have:=List.mem_of_getElem? hs;simp only[Req.texts,List.mem_cons,List.not_mem_nil,or_false]at this
  rcases this with rfl|rfl|rfl|rfl<;>omega
 generalize hl2:l1++be 8 r.time++be 8 r.amount=l2;have e2:l2.length=l1.length+16:=by rw[←hl2,List.length_append,List.length_append,be_len,be_len]
 refine H.loop (ι:=Nat×Option Addr×Nat) (fun i=>[(38,.int .i64 (i.1:Int)),(37,.int .i64 4),(36,.slice (some ⟨sb,0,none⟩) 4 4),(0,.slice i.2.1 (l2++(r.texts.take i.1).flatMap textB).length i.2.2)]) (fun _=>f)
  (fun i=>row sb 9 [.string r.key,.string r.val,.string r.old,.string r.to]::row xb 34 r.vals::slc i.2.1 (l2++(r.texts.take i.1).flatMap textB).length i.2.2 5 1 (bytesV (l2++(r.texts.take i.1).flatMap textB))::A)
  (fun i=>i.1≤4∧(l2++(r.texts.take i.1).flatMap textB).length≤l2.length+200*i.1) (fun i=>4-i.1) (0,p4,c4) ?_ ?_ rfl ?_ fun i hi=>?_
 ·exact⟨Nat.zero_le _,by simp⟩
 ·refine⟨rfl,rfl,rfl,?_,trivial⟩;show some (Value.slice p4 l2.length c4)=some (Value.slice p4 (l2++[]).length c4);rw[List.append_nil]
 ·show _=_::_::slc p4 (l2++[]).length c4 _ 1 (bytesV (l2++[]))::A;rw[List.append_nil];rfl
 ·obtain⟨i,p',c'⟩:=i;obtain⟨hi,hlen⟩:i≤4∧(l2++(r.texts.take i).flatMap textB).length≤l2.length+200*i:=hi;show H _ _ _ [(38,.int .i64 (i:Int)),_,_,(0,.slice p' (l2++(r.texts.take i).flatMap textB).length c')] _ (_::_::slc p' (l2++(r.texts.take i).flatMap textB).length c' _ 1 (bytesV (l2++(r.texts.take i).flatMap textB))::A) _;generalize hacc:l2++(r.texts.take i).flatMap textB=acc at hlen;have hpos:l2.length≤acc.length:=by rw[←hacc,List.length_append];omega
  apply (gJ);by_cases hlt:i<4
  ·obtain⟨s,hs⟩:∃s,r.texts[i]?=some s:=⟨r.texts[i]'hlt,List.getElem?_eq_getElem hlt⟩
   have hv:([.string r.key,.string r.val,.string r.old,.string r.to]:List Value)[i]?=some (.string s):=by
    have:([.string r.key,.string r.val,.string r.old,.string r.to]:List Value)=r.texts.map Value.string:=rfl;rw[this,List.getElem?_map,hs];rfl
   have hs128:=hsz i s hs
   have e3:l2++(r.texts.take (i+1)).flatMap textB=acc++textB s:=by
    rw[List.take_add_one,hs,←hacc];simp
   refine AO at2 jB fun b' hp=>?_;subst hp;apply (gN);refine CD rfl rfl rfl rfl hlt rfl ?_;refine AL rfl rfl rfl (.of (Rd.ofRow jA) hv) rfl ?_;apply (gG);refine AG rfl rfl rfl (text_fn (l:=acc) f _ (Src.slcS at2 jH) (fun h=>by cases h) jB jB) fun p5 c5=>?_;apply (gS);refine B4 (.there _ (.there _ (.there _ (.here _ _)))) ?_;apply (qfc);apply (qfc);have hts:(textB s).length≤200:=by unfold textB;rw[List.length_append,be_len,data_len];omega
   refine AX (i+1,p5,c5) ⟨by show i+1≤4;omega,?_⟩ (by show 4-(i+1)<4-i;omega) ⟨rfl,rfl,rfl,?_,trivial⟩ rfl ?_
   ·show(l2++(r.texts.take (i+1)).flatMap textB).length≤l2.length+200*(i+1);rw[e3,List.length_append];omega
   ·show some _=some (Value.slice p5 (l2++(r.texts.take (i+1)).flatMap textB).length c5);rw[e3]
   ·show _=_::_::slc p5 (l2++(r.texts.take (i+1)).flatMap textB).length c5 _ 1 (bytesV (l2++(r.texts.take (i+1)).flatMap textB))::A;rw[e3]
  ·have:i=4:=jB
   subst this;apply (gE);apply (qjr);have e4:acc=l++r.bytes:=by rw[←hacc,←hl2,←hl1];simp[Req.bytes,Req.texts]
   subst e4;exact qbi
end
section
variable (f:Frag) (A:List HP)
end
def baOf(l:List UInt8):ByteArray:=⟨l.toArray⟩
variable {P:Program} {base:World} {L:Env} {cb:Nat}
theorem D6{sp:Bool}
  (k:∀p c,BAt f p l→l.length≤c→H P base n L f (row cb 273 [.slice p l.length c,.bool sp]::F) K):H P base n L f (cutH f cb l sp::F) K:=.mk fun a w hf s=>by
 obtain⟨m,hm,hd,hw⟩:=s.mem
 obtain⟨m1,m2,d,rfl,⟨⟨p,c⟩,hh⟩,r⟩:=hm
 obtain⟨n1,n2,dd,rfl,⟨⟨hb,hc⟩,rfl⟩,n3,n4,d3,rfl,h4,h5⟩:=hh
 refine(k p c hb hc).out a w hf ⟨s.os,s.tape,s.output,s.size,s.imm,_,?_,hd,hw⟩
 have e5:n4=nil0:=h5
 subst e5
 rw[nil_un,un_nil]
 rw[nil_un,un_nil]at d
 exact⟨n3,m2,d,rfl,h4,r⟩
def Cs.hash(s:Cs):Nat→UInt8:=fun i=>(s.raw 32).getD i 0
def b32L(t:Nat→UInt8):List UInt8:=[t 0,t 1,t 2,t 3,t 4,t 5,t 6,t 7,t 8,t 9,t 10,t 11,t 12,t 13,t 14,t 15,t 16,t 17,t 18,t 19,t 20,t 21,t 22,t 23,t 24,t 25,t 26,t 27,t 28,t 29,t 30,t 31]
theorem b32_bytes(t:Nat→UInt8):b32 t=bytesV (b32L t):=rfl
variable {α:Type}
theorem list32{l:List α}(h:l.length=32)(z:α):l=[l.getD 0 z,l.getD 1 z,l.getD 2 z,l.getD 3 z,l.getD 4 z,l.getD 5 z,l.getD 6 z,l.getD 7 z,l.getD 8 z,l.getD 9 z,l.getD 10 z,l.getD 11 z,l.getD 12 z,l.getD 13 z,l.getD 14 z,l.getD 15 z,l.getD 16 z,l.getD 17 z,l.getD 18 z,l.getD 19 z,l.getD 20 z,l.getD 21 z,l.getD 22 z,l.getD 23 z,l.getD 24 z,l.getD 25 z,l.getD 26 z,l.getD 27 z,l.getD 28 z,l.getD 29 z,l.getD 30 z,l.getD 31 z]:=by
 match l,h with
 | [_,_,_,_,_,_,_,_,_,_,_,_,_,_,_,_,_,_,_,_,_,_,_,_,_,_,_,_,_,_,_,_],_=>rfl
theorem b32L_get(h:l.length=32):b32L (fun i=>l.getD i 0)=l:=(list32 h 0).symm
section
variable (f:Frag) (F:List HP) (cb:Nat) (s:Cs)
theorem text_cs{most:Nat}(hl:s.l.length≤1000000000000)(hm:most≤100000):Fn prog 277 [.pointer (some ⟨cb,0,none⟩),.int .i64 (most:Nat)] f (cutC f cb s::F) (Ret (.string (baOf (s.text most))) f (cutC f cb (s.textS most)::F)):=by
 have hn:=s.num2_lt;have hh:=half_cs f F cb s hl
 unfold cutC at hh⊢;refine cutH_open fun p c hb hc=>?_
 have fin:¬s.tok most=true→∀x,stars (row cb 273 [.slice p s.l.length c,.bool true]::F) x→stars (cutH f cb (s.textS most).l (s.textS most).bad::F) x:=fun ht=>by
  unfold Cs.textS;rw[if_neg ht];exact zax hb hc
 by_cases h2:s.ok 2=true
 ·obtain⟨hb0,hl2⟩:=(Cs.ok_iff _ _).1 h2;have hs:s.skip 2=⟨s.l.drop 2,false⟩:=by unfold Cs.skip;rw[if_pos h2]
  rw[hs]at hh;generalize hk:s.num 2=k at hn hh;by_cases h3:k≤most
  ·by_cases h4 : k ≤ (s.l.drop 2).length
   ·have ht:s.tok most=true:=by
     exact qdg
    have e1:s.text most=(s.l.drop 2).take k:=by unfold Cs.text;rw[if_pos ht,hk]
    have e2:s.textS most=⟨(s.l.drop 2).drop k,false⟩:=by unfold Cs.textS;rw[if_pos ht,hk,List.drop_drop]
    rw[e1,e2];have hlen:((s.l.drop 2).take k).length=k:=by rw[List.length_take];omega
    refine A9 func277 ntmps277 fun base=>?_;refine (qjl) fun p2 c2 hb2 hc2=>?_;apply (gS);refine H.imp (zax hb2 hc2) ?_;have hty:=take_yes f F cb h4 kI;refine DG rfl rfl rfl hty fun i hb3=>?_
    obtain⟨p3,c3⟩:=i;have hb3:BAt f p3 ((s.l.drop 2).take k):=hb3;apply (gO)
    refine D6 fun p4 c4 hb4 hc4=>?_;apply (gT);have hsrc:∀A,Src prog f A (.slice p3 ((s.l.drop 2).take k).length c3) 1 ((s.l.drop 2).take k).length (bytesV ((s.l.drop 2).take k)):=fun A=>hb3.src;have hnil:p3=none→(s.l.drop 2).take k=[]:=fun hp=>by rcases hb3 with h|⟨b,off,cs,T,fr,h,_⟩;exact h;rw[hp]at h;cases h
    refine H.know (d:=41) (u:=.slice p3 ((s.l.drop 2).take k).length c3) rfl (by rw[hlen]) ?_;refine D9 rfl rfl (hsrc _) hnil rfl ?_;apply (gK);exact AE rfl rfl (zax hb4 hc4) ⟨rfl,rfl,rfl⟩
   ·have ht:¬s.tok most=true:=by
     exact qdg
    have e1:s.text most=[]:=by unfold Cs.text;rw[if_neg ht]
    rw[e1];refine A9 func277 ntmps277 fun base=>?_;refine (qjl) fun p2 c2 hb2 hc2=>?_;apply (gS);refine H.imp (zax hb2 hc2) ?_;refine A8 rfl rfl rfl (take_no f F cb (.inr (.inr (by show((s.l.drop 2).length:Int)<_;omega)))) ?_;apply (gO);refine D6 fun p4 c4 hb4 hc4=>?_;apply (gS);exact AE rfl rfl (fin ht) ⟨rfl,rfl,rfl⟩
  ·have ht:¬s.tok most=true:=by
    simp[Cs.tok,h2,hk,h3]
   have e1:s.text most=[]:=by unfold Cs.text;rw[if_neg ht]
   rw[e1];exact qaL
 ·have ht:¬s.tok most=true:=by simp[Cs.tok,h2]
  have e1:s.text most=[]:=by unfold Cs.text;rw[if_neg ht]
  have hs:s.skip 2=⟨s.l,true⟩:=by unfold Cs.skip;rw[if_neg h2]
  rw[hs]at hh;rw[e1];generalize hk:s.num 2=k at hn hh;exact qaL
theorem hash_cs(hl:s.l.length≤1000000000):Fn prog 150 [.pointer (some ⟨cb,0,none⟩)] f (cutC f cb s::F) (Ret (.agg (b32 s.hash).toArray) f (cutC f cb (s.skip 32)::F)):=by
 refine AB func150 ntmps150 fun base=>?_;apply (gA);refine AJ rfl rfl rfl fun hb=>?_;apply (gA);refine H.db (S:=[]) rfl ?_;apply A6 [0,1] 2;apply (qeC);apply (qgK);apply A7 2;apply (qee);refine AG rfl rfl rfl (raw_cs f _ cb s 32 jB) fun p1 c1=>?_;apply (qdE);apply A7 3;by_cases h:s.ok 32=true
 ·have hr:(s.raw 32).length=32:=by
   unfold Cs.raw;rw[if_pos h,List.length_take]
   have:=((Cs.ok_iff _ _).1 h).2;omega
  have hs:Src prog f _ (.slice p1 (s.raw 32).length c1) 1 (s.raw 32).length (bytesV (s.raw 32)):=Src.slcS (.here (cutC f cb (s.skip 32)::row hb 32 (zeros [.int .u8 0] 32)::F) _ (slc p1 (s.raw 32).length c1 5 1 (bytesV (s.raw 32)))) jH;refine H.copy rfl rfl rfl rfl hs.len (k0:=(s.raw 32).length) (by rw[hr];rfl) hs.cells (ls':=bytesV (s.raw 32)) ?_ ?_ (zao _) jA ?_
  ·unfold splice;rw[zab,hr];exact List.append_nil _
  ·rw[zab,hr];exact Nat.le_refl _
  apply (qeX);apply (gA);have e:bytesV (s.raw 32)=b32 s.hash:=by rw[b32_bytes];unfold Cs.hash;rw[b32L_get hr]
  rw[e];refine AD (ls:=b32 s.hash) rfl rfl rfl (Rd.ofRow jA) rfl rfl ?_;refine AC (ls:=b32 s.hash) (vs:=b32 s.hash) (ls':=b32 s.hash) rfl rfl rfl (zaa rfl) rfl rfl (Nat.le_refl 32) jA ?_;exact qdz
 ·have hr:s.raw 32=[]:=by unfold Cs.raw;rw[if_neg h]
  have hh:b32 s.hash=zeros [.int .u8 0] 32:=by unfold Cs.hash;rw[hr];rfl
  rw[hr,hh];refine H.copy (m:=0) (k0:=0) (cs:=[]) (ls':=zeros [.int .u8 0] 32) rfl rfl rfl rfl (fun w=>rfl) rfl (fun base w sa=>?_) rfl jE (fun v hv=>by cases hv) jA ?_
  ·cases p1 with
   |none=>exact run_firstCells_none w 1 0 0 c1
   |some a=>exact run_firstCells_some w 1 0 a 0 c1 [] jI jI
  apply (qeX);apply (gA);refine AD (ls:=zeros [.int .u8 0] 32) rfl rfl rfl (Rd.ofRow jA) rfl rfl ?_;refine AC (ls:=zeros [.int .u8 0] 32) (vs:=zeros [.int .u8 0] 32) (ls':=zeros [.int .u8 0] 32) rfl rfl rfl (zaa rfl) rfl rfl (Nat.le_refl 32) jA ?_;exact qdz
end
def Cs.byte(s:Cs):UInt8:=UInt8.ofNat (s.num 1)
theorem Cs.byte_nat(s:Cs):((s.byte.toNat:Nat):Int)=(s.num 1:Nat):=by
 have:=s.num1_lt;unfold Cs.byte;rw[UInt8.toNat_ofNat'];omega
def Cs.req(mk mv:Nat)(s:Cs):Req:=
 let c1:=s.skip 1
 let c2:=c1.skip 1
 let c3:=c2.skip 8
 let c4:=c3.skip 8
 let c5:=c4.textS mk
 let c6:=c5.textS mv
 let c7:=c6.textS mv
 let c8:=c7.textS mk
 ⟨(s.num 1:Nat),(c2.num 8:Nat),c1.byte,baOf (c4.text mk),baOf (c5.text mv),baOf (c6.text mv),baOf (c7.text mk),(c3.num 8:Nat),c8.hash⟩
def Cs.reqS(mk mv:Nat)(s:Cs):Cs:=((((((((s.skip 1).skip 1).skip 8).skip 8).textS mk).textS mv).textS mv).textS mk).skip 32
def Cs.pairs:Nat→Cs→List (Int×Int)→List (Int×Int)×Cs
 |0,s,acc=>(acc,s)
 |n+1,s,acc=>if s.bad then(acc,s)else Cs.pairs n ((s.skip 1).skip 8) (acc++[(((s.num 1:Nat):Int),(((s.skip 1).num 8:Nat):Int))])
def noTag:Nat→UInt8:=fun _=>0
def Bod.zero(kind:UInt8):Bod:=⟨kind,0,0,Req.zero,[],noTag⟩
def b8(n:Int):UInt8:=UInt8.ofNat (n % 256).toNat
def pairB(p:Int×Int):List UInt8:=b8 p.1::be 8 p.2
def Bod.putK(x:Bod):Nat→List UInt8
 |1=>be 8 x.view++x.req.bytes++b32L x.req.tag
 |2=>be 8 x.view++be 8 x.k
 |3=>be 8 x.view
 |4=>be 8 x.view++[b8 x.q.length]++x.q.flatMap pairB
 |5=>be 8 x.view
 |6=>be 8 x.k++b32L x.dig
 |_=>[]
def Bod.put(x:Bod):List UInt8:=x.putK x.kind.toNat
def Cs.bodyK(mk mv:Nat)(kind:UInt8)(s:Cs):Nat→Bod×Cs
 |1=>({Bod.zero kind with view:=(s.num 8:Nat),req:=(s.skip 8).req mk mv},(s.skip 8).reqS mk mv)
 |2=>({Bod.zero kind with view:=(s.num 8:Nat),k:=((s.skip 8).num 8:Nat)},(s.skip 8).skip 8)
 |3=>({Bod.zero kind with view:=(s.num 8:Nat)},s.skip 8)
 | 4 => let r := Cs.pairs ((s.skip 8).num 1) ((s.skip 8).skip 1) []
  ({Bod.zero kind with view:=(s.num 8:Nat),q:=r.1},r.2)
 |5=>({Bod.zero kind with view:=(s.num 8:Nat)},s.skip 8)
 |6=>({Bod.zero kind with k:=(s.num 8:Nat),dig:=(s.skip 8).hash},(s.skip 8).skip 32)
 |_=>(Bod.zero kind,s)
def Bod.ownK(x:Bod):Nat→Bod
 |1=>{Bod.zero x.kind with view:=x.view,req:=x.req}
 |2=>{Bod.zero x.kind with view:=x.view,k:=x.k}
 |3=>{Bod.zero x.kind with view:=x.view}
 |4=>{Bod.zero x.kind with view:=x.view,q:=x.q}
 |5=>{Bod.zero x.kind with view:=x.view}
 |6=>{Bod.zero x.kind with k:=x.k,dig:=x.dig}
 |_=>Bod.zero x.kind
def Bod.own(x:Bod):Bod:=x.ownK x.kind.toNat
def Bod.mayK(x:Bod):Nat→Bool
 |1=>decide x.req.asked
 |2=>decide (1≤x.k∧x.k≤4611686018427387904)
 |3=>decide (1≤x.view)
 |4=>decide (1≤x.view)&&(quo 0 x.q&&decide (0<x.q.length))
 |5=>decide (1≤x.view)
 |6=>decide (1≤x.k∧x.k≤4611686018427387904)
 |_=>false
variable {l':List Value}
theorem SetV.app{l:List Value}{i:Nat}(h:SetV l i v l')(post:List Value):SetV (l++post) i v (l'++post):=by
 induction h with
 |here x v t=>exact .here _ _ _
 |there x h ih=>exact .there _ ih
theorem SetV.mid{l:List Value}{i:Nat}(h:SetV l i v l')(pre post:List Value):SetV (pre++l++post) (pre.length+i) v (pre++l'++post):=by
 rw[List.append_assoc,List.append_assoc]
 induction pre with
 |nil=>rw[List.length_nil,Nat.zero_add];exact h.app post
 | cons p pre ih =>
  exact qcG
theorem splice_mid(pre l post:List Value)(i:Nat)(vs:List Value)(h:i+vs.length≤l.length):splice (pre++l++post) (pre.length+i) vs=pre++splice l i vs++post:=by
 unfold splice
 have e1:(pre++l++post).take (pre.length+i)=pre++l.take i:=by
  rw[List.append_assoc,List.take_length_add_append,List.take_append_of_le_length jB]
 have e2:(pre++l++post).drop (pre.length+i+vs.length)=l.drop (i+vs.length)++post:=by
  rw[Nat.add_assoc,List.append_assoc,List.drop_length_add_append,List.drop_append_of_le_length h]
 rw[e1,e2];simp only[List.append_assoc]
def bodAt(xb:Nat)(T:TypeId)(pre post:List Value)(x:Bod)(qp:Option Addr)(qc:Nat):HP:=row xb T (pre++x.vals qp qc++post)
theorem Bod.vals_len(x:Bod)(qp:Option Addr)(qc:Nat):(x.vals qp qc).length=76:=rfl
section
variable (f:Frag) (F:List HP) (cb:Nat) (s:Cs) (xb:Nat) (T:TypeId) (pre post:List Value)
theorem getReq_cs(hl:s.l.length≤1000000000):Fn prog 219 [.pointer (some ⟨cb,0,none⟩)] f (cutC f cb s::F) (Ret (.agg (s.req 32 128).vals.toArray) f (cutC f cb (s.reqS 32 128)::F)):=by
 unfold Cs.req Cs.reqS;dsimp only;have a1:=s.skip_len 1;have n1:=s.num1_lt
 refine AB func219 ntmps219 fun base=>?_;refine H.seq (BD ?_);refine (qfh) fun rb=>?_;apply (gG);apply (qee);refine A8 rfl rfl rfl (byte_cs f _ cb s jB) ?_;apply (gD);generalize hs1:s.skip 1=s1 at a1⊢;have a2:=s1.skip_len 1;refine A8 rfl rfl rfl (byte_cs f _ cb s1 jB) ?_
 rw[←Cs.byte_nat s1];generalize hs2:s1.skip 1=s2 at a2⊢;have a3:=s2.skip_len 8;apply (gL)
 refine A8 rfl rfl rfl (word_cs f _ cb s2 jB) ?_;generalize hs3:s2.skip 8=s3 at a3⊢;have a4:=s3.skip_len 8;apply (gG)
 refine A8 rfl rfl rfl (word_cs f _ cb s3 jB) ?_;generalize hs4:s3.skip 8=s4 at a4⊢;have a5:=s4.textS_len 32;apply (gL)
 refine A8 rfl rfl rfl (text_cs f _ cb s4 (most:=32) jB jE) ?_;generalize hs5:s4.textS 32=s5 at a5⊢;have a6:=s5.textS_len 128;apply (gG)
 refine A8 rfl rfl rfl (text_cs f _ cb s5 (most:=128) jB jE) ?_;generalize hs6:s5.textS 128=s6 at a6⊢;have a7:=s6.textS_len 128;apply (gL)
 refine A8 rfl rfl rfl (text_cs f _ cb s6 (most:=128) jB jE) ?_;generalize hs7:s6.textS 128=s7 at a7⊢;have a8:=s7.textS_len 32;apply (gG)
 refine A8 rfl rfl rfl (text_cs f _ cb s7 (most:=32) jB jE) ?_;generalize hs8:s7.textS 32=s8 at a8⊢;apply (gL);refine A8 rfl rfl rfl (hash_cs f _ cb s8 jB) ?_;apply (gL);generalize hr:(⟨(s.num 1:Nat),(s2.num 8:Nat),s1.byte,baOf (s4.text 32),baOf (s5.text 128),baOf (s6.text 128),baOf (s7.text 32),(s3.num 8:Nat),s8.hash⟩:Req)=r;refine AC (vs:=b32 s8.hash) (ls':=r.vals) rfl rfl rfl (zaa rfl) rfl ?_ ?_ jA ?_
 ·subst hr;rfl
 ·exact(show 8+32≤40 by decide)
 apply (gA);refine AD (ls:=r.vals) rfl rfl rfl (Rd.ofRow jA) rfl rfl ?_;refine AC (ls:=r.vals) (vs:=r.vals) (ls':=r.vals) rfl rfl rfl (zaa rfl) rfl rfl (Nat.le_refl 40) jA ?_;apply (gK);exact qbl
theorem get_view(hl:s.l.length≤1000000000)(x:Bod)(qp:Option Addr)(qc:Nat):Fn prog 279 [.pointer (some ⟨cb,0,none⟩),.pointer (some ⟨xb,pre.length,none⟩)] f (cutC f cb s::bodAt xb T pre post x qp qc::F)
   (Ret (.tuple #[]) f (cutC f cb (s.skip 8)::bodAt xb T pre post {x with view:=(s.num 8:Nat)} qp qc::F)):=by
 refine A9 func279 ntmps279 fun base=>?_;repeat(first|((apply B3);(iterate 3 exact rfl))|(apply BD))
 refine A8 rfl rfl rfl (word_cs f _ cb s jB) ?_;repeat(first|((apply B8);(iterate 3 exact rfl))|(apply BH;(iterate 3 exact rfl);exact inferInstance;exact rfl)|(apply AZ;(iterate 4 exact rfl);(repeat(first|exact .here _ _ _|apply At.there))))
 ·exact qaR
 apply (gA);exact qan
theorem get_commit(hl:s.l.length≤1000000000)(x:Bod)(qp:Option Addr)(qc:Nat):Fn prog 223 [.pointer (some ⟨cb,0,none⟩),.pointer (some ⟨xb,pre.length,none⟩)] f (cutC f cb s::bodAt xb T pre post x qp qc::F)
   (Ret (.tuple #[]) f (cutC f cb ((s.skip 8).skip 8)::bodAt xb T pre post {x with view:=(s.num 8:Nat),k:=((s.skip 8).num 8:Nat)} qp qc::F)):=by
 have a1:=s.skip_len 8;refine A9 func223 ntmps223 fun base=>?_
 apply (qgQ);refine A8 rfl rfl rfl (word_cs f _ cb (s.skip 8) jB) ?_;repeat(first|((apply B8);(iterate 3 exact rfl))|(apply BH;(iterate 3 exact rfl);exact inferInstance;exact rfl)|(apply AZ;(iterate 4 exact rfl);(repeat(first|exact .here _ _ _|apply At.there))))
 ·exact qaR
 repeat(first|((apply B8);(iterate 3 exact rfl))|(apply BH;(iterate 3 exact rfl);exact inferInstance;exact rfl)|(apply AZ;(iterate 4 exact rfl);(repeat(first|exact .here _ _ _|apply At.there))))
 ·exact SetV.mid (l:=({x with view:=(s.num 8:Nat)}:Bod).vals qp qc) (l':=({x with view:=(s.num 8:Nat),k:=((s.skip 8).num 8:Nat)}:Bod).vals qp qc) (i:=2) jG pre post
 apply (gA);exact qan
theorem get_check(hl:s.l.length≤1000000000)(x:Bod)(qp:Option Addr)(qc:Nat):Fn prog 231 [.pointer (some ⟨cb,0,none⟩),.pointer (some ⟨xb,pre.length,none⟩)] f (cutC f cb s::bodAt xb T pre post x qp qc::F)
   (Ret (.tuple #[]) f (cutC f cb ((s.skip 8).skip 32)::bodAt xb T pre post {x with k:=(s.num 8:Nat),dig:=(s.skip 8).hash} qp qc::F)):=by
 have a1:=s.skip_len 8;refine A9 func231 ntmps231 fun base=>?_
 apply (qgQ);refine A8 rfl rfl rfl (hash_cs f _ cb (s.skip 8) jB) ?_;repeat(first|((apply B8);(iterate 3 exact rfl))|(apply BH;(iterate 3 exact rfl);exact inferInstance;exact rfl)|(apply AZ;(iterate 4 exact rfl);(repeat(first|exact .here _ _ _|apply At.there))))
 ·exact SetV.mid (l:=x.vals qp qc) (l':=({x with k:=(s.num 8:Nat)}:Bod).vals qp qc) (i:=2) jG pre post
 apply (gO);refine AC (vs:=b32 (s.skip 8).hash) (ls':=pre++({x with k:=(s.num 8:Nat),dig:=(s.skip 8).hash}:Bod).vals qp qc++post) rfl rfl rfl (zaa rfl) rfl ?_ ?_ aP1 ?_
 ·exact splice_mid pre (({x with k:=(s.num 8:Nat)}:Bod).vals qp qc) post 44 _ (Nat.le_refl 76)
 ·rw[List.length_append,List.length_append,Bod.vals_len];show pre.length+44+32≤_;omega
 apply (gA);exact qan
theorem get_prepare(hl:s.l.length≤1000000000)(x:Bod)(qp:Option Addr)(qc:Nat):Fn prog 218 [.pointer (some ⟨cb,0,none⟩),.pointer (some ⟨xb,pre.length,none⟩)] f (cutC f cb s::bodAt xb T pre post x qp qc::F)
   (Ret (.tuple #[]) f (cutC f cb ((s.skip 8).reqS 32 128)::bodAt xb T pre post {x with view:=(s.num 8:Nat),req:=(s.skip 8).req 32 128} qp qc::F)):=by
 have a1:=s.skip_len 8;refine A9 func218 ntmps218 fun base=>?_
 apply (qgQ);refine A8 rfl rfl rfl (getReq_cs f _ cb (s.skip 8) jB) ?_;generalize(s.skip 8).req 32 128=r;repeat(first|((apply B8);(iterate 3 exact rfl))|(apply BH;(iterate 3 exact rfl);exact inferInstance;exact rfl)|(apply AZ;(iterate 4 exact rfl);(repeat(first|exact .here _ _ _|apply At.there))))
 ·exact qaR
 apply (gO);refine AC (vs:=r.vals) (ls':=pre++({x with view:=(s.num 8:Nat),req:=r}:Bod).vals qp qc++post) rfl rfl rfl (zaa rfl) rfl ?_ ?_ aP1 ?_
 ·exact splice_mid pre (({x with view:=(s.num 8:Nat)}:Bod).vals qp qc) post 3 _ (show 3+40≤76 by decide)
 ·rw[List.length_append,List.length_append,Bod.vals_len];show pre.length+3+40≤_;omega
 apply (gA);exact qan
end
theorem BAt.first{k0:Nat}(h:BAt f p l)(hk:k0≤l.length):∀base w,Sat base w f A→(Builtin.firstCells 1 k0 (.slice p l.length c)).run P w= .ok (bytesV (l.take k0)).toArray w:=fun base w s=>by
 rcases h with rfl|⟨b,off,cs,T,fr,rfl,hb,hc⟩
 ·have h0:k0=0:=Nat.le_zero.1 hk
  subst h0
  exact(BAt.src (P:=P) (A:=A) (c:=c) (p:=p) (l:=[]) (.inl rfl)).cells base w s
 ·have hrd:Rd f A b off (bytesV l):=Rd.imm hb (fun i hi=>hc i (by rwa [zab]at hi))
  have:=firstCells_part (P:=P) (m:=l.length) (c:=c) (k0:=k0) hrd (by rw[zab];exact hk) base w s
  rwa [show(bytesV l).take k0=bytesV (l.take k0)from List.map_take.symm]at this
def spliceB(part:List UInt8)(n:Nat)(c:List UInt8):List UInt8:=part.take n++c++part.drop (n+c.length)
theorem blocks_app(s:Sha.S8)(b c:List UInt8):∀q,64*q≤b.length→Sha.blocks s (b++c) q=Sha.blocks s b q
 |0,_=>rfl
 | q + 1, h => by
  have ih:=blocks_app s b c q jB
  show Sha.block (Sha.blocks s (b++c) q) (((b++c).drop (64*q)).take 64)=Sha.block (Sha.blocks s b q) ((b.drop (64*q)).take 64)
  rw[ih,List.drop_append_of_le_length jB,List.take_append_of_le_length kI]
structure HSt(b:List UInt8)(s:Sha.S8)(part:List UInt8)(n:Nat):Prop where
 q:∃q,b.length=64*q+n∧s=Sha.blocks Sha.start b q∧part.take n=b.drop (64*q)
 lt:n<64
 len:part.length=64
variable {part:List UInt8}
theorem spliceB_len{c:List UInt8}(h:part.length=64)(hn:n+c.length≤64):(spliceB part n c).length=64:=by
 unfold spliceB;rw[List.length_append,List.length_append,List.length_take,List.length_drop,h];omega
theorem spliceB_take{c:List UInt8}(h:part.length=64)(hn:n+c.length≤64):(spliceB part n c).take (n+c.length)=part.take n++c:=by
 unfold spliceB;rw[List.take_append_of_le_length jq,List.take_of_length_le jq]
variable {b:List UInt8}
theorem HSt.more{c:List UInt8}(h:HSt b s part n)(hn:n+c.length<64):HSt (b++c) s (spliceB part n c) (n+c.length):=by
 obtain⟨⟨q,h1,h2,h3⟩,h4,h5⟩:=h;refine⟨⟨q,by rw[List.length_append];omega,by rw[h2,blocks_app _ b c q jB],?_⟩,hn,spliceB_len h5 jB⟩;rw[spliceB_take h5 jB,h3,List.drop_append_of_le_length jB]
theorem HSt.full{c:List UInt8}(h:HSt b s part n)(hn:n+c.length=64):HSt (b++c) (Sha.block s (spliceB part n c)) (spliceB part n c) 0:=by
 obtain⟨⟨q,h1,h2,h3⟩,h4,h5⟩:=h;have hl:=spliceB_len (c:=c) (n:=n) h5 jB;have ht:=spliceB_take (c:=c) (n:=n) h5 jB
 rw[hn,List.take_of_length_le jB]at ht;have hd:(b++c).drop (64*q)=spliceB part n c:=by rw[ht,h3,List.drop_append_of_le_length jB]
 refine⟨⟨q+1,by rw[List.length_append];omega,?_,?_⟩,by decide,hl⟩
 ·show _=Sha.block (Sha.blocks Sha.start (b++c) q) (((b++c).drop (64*q)).take 64);rw[hd,List.take_of_length_le jB,blocks_app _ b c q jB,←h2]
 ·rw[List.take_zero,List.drop_eq_nil_of_le jR]
def hRow(s:Sha.S8)(part:List UInt8)(n all:Nat):List Value:=s.vals++bytesV part++[.int .i64 (n:Nat),.int .u64 (all:Nat)]
theorem hRow_len(s:Sha.S8)(part:List UInt8)(n all:Nat)(h:part.length=64):(hRow s part n all).length=74:=by
 unfold hRow;rw[List.length_append,List.length_append,zab,h];rfl
theorem hRow_n(s:Sha.S8)(part:List UInt8)(n all:Nat)(h:part.length=64):(hRow s part n all)[72]?=some (.int .i64 (n:Nat)):=by
 exact qbR
theorem hRow_all(s:Sha.S8)(part:List UInt8)(n all:Nat)(h:part.length=64):(hRow s part n all)[73]?=some (.int .u64 (all:Nat)):=by
 exact qbR
theorem hRow_setn(s:Sha.S8)(part:List UInt8)(n m all:Nat)(h:part.length=64):SetV (hRow s part n all) 72 (.int .i64 (m:Nat)) (hRow s part m all):=by
 have hl:(s.vals++bytesV part).length=72:=by rw[List.length_append,zab,h];rfl
 have:=SetV.mid (SetV.here (.int .i64 (n:Nat)) (.int .i64 (m:Nat)) [.int .u64 (all:Nat)]) (s.vals++bytesV part) [];exact qdo
theorem hRow_setall(s:Sha.S8)(part:List UInt8)(n all al2:Nat)(h:part.length=64):SetV (hRow s part n all) 73 (.int .u64 (al2:Nat)) (hRow s part n al2):=by
 have hl:(s.vals++bytesV part).length=72:=by rw[List.length_append,zab,h];rfl
 have:=SetV.mid (SetV.there (.int .i64 (n:Nat)) (SetV.here (.int .u64 (all:Nat)) (.int .u64 (al2:Nat)) [])) (s.vals++bytesV part) [];exact qdo
theorem hRow_part(s:Sha.S8)(part c:List UInt8)(n all:Nat)(h:part.length=64)(hn:n+c.length≤64):splice (hRow s part n all) (8+n) (bytesV c)=hRow s (spliceB part n c) n all:=by
 unfold hRow
 have:=splice_mid s.vals (bytesV part) [.int .i64 (n:Nat),.int .u64 (all:Nat)] n (bytesV c) (by rw[zab,zab,h];exact hn);rw[show s.vals.length=8 from rfl]at this
 rw[this];congr 2;unfold splice spliceB;rw[zak,zak,zab];unfold bytesV;rw[List.map_take,List.map_drop]
theorem hRow_s(s s2:Sha.S8)(part:List UInt8)(n all:Nat):splice (hRow s part n all) 0 s2.vals=hRow s2 part n all:=by
 unfold hRow splice;rw[List.take_zero,List.nil_append,List.append_assoc,List.append_assoc];rfl
variable {hb all:Nat} {T:TypeId}
theorem hRow_rdp(h:At A (row hb T (hRow s part n all)) A' (row hb T (hRow s part n all))):Rd f A hb (0+8) (bytesV part):=by
 have h1:=Rd.ofRow (f:=f) h;exact h1.sub rfl
theorem hRow_rds(h:At A (row hb T (hRow s part n all)) A' (row hb T (hRow s part n all))):Rd f A hb (0+0) s.vals:=by
 have h1:=Rd.ofRow (f:=f) h;unfold hRow at h1
 rw[List.append_assoc]at h1;exact Rd.sub (pre:=[]) h1 rfl
def hashH(hb:Nat)(b:List UInt8):HP:=pack (fun i:Sha.S8×List UInt8×Nat=>HSt b i.1 i.2.1 i.2.2) (fun i=>[row hb 513 (hRow i.1 i.2.1 i.2.2 b.length)])
theorem hashH_fold(h:HSt b s part n):∀x,stars (row hb 513 (hRow s part n b.length)::F) x→stars (hashH hb b::F) x:=
 zap (ι:=Sha.S8×List UInt8×Nat) (B:=fun i=>[row hb 513 (hRow i.1 i.2.1 i.2.2 b.length)]) (s,part,n) h
variable {cap:Nat}
section
variable (f:Frag) (F:List HP)
theorem sstart_fn:Fn prog 363 [] f F (Ret (.agg Sha.start.vals.toArray) f F):=by
 refine BX func363 ntmps363 fun base=>?_;apply (gA);refine AJ (ls:=List.replicate 8 (.int .u32 0)) rfl rfl rfl fun kb=>?_;apply (gA);refine DE (out:=Sha.start.vals) rfl rfl rfl rfl rfl ?_;refine AC (ls:=List.replicate 8 (.int .u32 0)) (vs:=Sha.start.vals) (ls':=Sha.start.vals) rfl rfl rfl (zaa rfl) rfl rfl (Nat.le_refl 8) jA ?_;apply (gK);exact qav
theorem HSt.new:HSt [] Sha.start (List.replicate 64 0) 0:=⟨⟨0,rfl,rfl,rfl⟩,by decide,by rw[List.length_replicate]⟩
theorem snew_fn:Fn prog 317 [] f F (RetE (fun hb=>.pointer (some ⟨hb,0,none⟩)) f (fun hb=>hashH hb []::F)):=by
 refine BX func317 ntmps317 fun base=>?_;apply (gG);refine A8 rfl rfl rfl (sstart_fn f _) ?_;refine AT (out:=hRow Sha.start (List.replicate 64 0) 0 0) rfl rfl rfl jD rfl ?_;refine H.box (ls:=hRow Sha.start (List.replicate 64 0) 0 0) rfl rfl rfl rfl fun hb=>?_;apply (gK);refine H.imp (hashH_fold (b:=[]) HSt.new) ?_;exact AU ⟨hb,rfl,rfl,rfl⟩
theorem swrite_fn(htab:TabAt f){c:List UInt8}(hc:BAt f p c)(hcap:c.length≤cap)(hl:b.length+c.length≤1000000000000):Fn prog 318 [.pointer (some ⟨hb,0,none⟩),.slice p c.length cap] f (hashH hb b::F) (Ret (.tuple #[]) f (hashH hb (b++c)::F)):=by
 refine (qfu) fun i0 hi0=>?_;obtain⟨s0,part0,n0⟩:=i0;have hi0:HSt b s0 part0 n0:=hi0;have hlen0:=hi0.len
 have e1:IntKind.u64.wrap ((b.length:Int)+((c.length:Nat):Int))=(((b++c).length:Nat):Int):=by rw[wr_u64 jB,List.length_append];omega
 have e2:IntKind.u64.wrap ((c.length:Nat):Int)=((c.length:Nat):Int):=wr_u64 jB;refine A9 func318 ntmps318 fun base=>?_
 show H _ _ _ _ _ (row hb _ (hRow s0 part0 n0 b.length)::F) _;repeat(first|(refine AL rfl rfl rfl (.at0 (Rd.ofRow jA) (hRow_all s0 part0 n0 b.length hlen0)) rfl ?_)|(apply BC;(iterate 4 exact rfl);exact e1;exact rfl)|(refine AZ (v:=.int .u64 (((b++c).length:Nat):Int)) (ls':=hRow s0 part0 n0 (b++c).length) rfl rfl rfl rfl jA (hRow_setall s0 part0 n0 b.length (b++c).length hlen0) ?_)|(apply (gU)))
 have hst0:HSt (b++c.take 0) s0 part0 n0:=by rw[List.take_zero,List.append_nil];exact hi0
 clear hi0 hlen0 e1 e2
 refine AF (ι:=Nat×Sha.S8×List UInt8×Nat×Option Addr×Nat) (fun i=>[(0,.pointer (some ⟨hb,0,none⟩)),(1,.slice i.2.2.2.2.1 (c.length-i.1) i.2.2.2.2.2)]) (fun _=>f)
  (fun i=>row hb 513 (hRow i.2.1 i.2.2.1 i.2.2.2.1 (b++c).length)::F) (fun i=>i.1≤c.length∧HSt (b++c.take i.1) i.2.1 i.2.2.1 i.2.2.2.1∧BAt f i.2.2.2.2.1 (c.drop i.1)∧c.length-i.1≤i.2.2.2.2.2) (fun i=>c.length-i.1)
  (0,s0,part0,n0,p,cap) ⟨Nat.zero_le _,hst0,by rw[List.drop_zero];exact hc,by omega⟩ fun i hi=>?_
 obtain⟨m,s,part,n,q,qc⟩:=i;obtain⟨hm,hst,hq,hqc⟩:m≤c.length∧HSt (b++c.take m) s part n∧BAt f q (c.drop m)∧c.length-m≤qc:=hi;have hlen:=hst.len;have hn:=hst.lt
 show H _ _ _ [_,(1,.slice q (c.length-m) qc)] _ (row hb _ (hRow s part n (b++c).length)::F) _;by_cases hlt:m<c.length
 ·obtain⟨k,hk⟩:∃k,Nat.min (c.length-m) (64-n)=k:=⟨_,rfl⟩;have hk1:k≤c.length-m∧k≤64-n∧(k=c.length-m∨k=64-n):=by rw[←hk,show Nat.min (c.length-m) (64-n)=min (c.length-m) (64-n)from rfl];omega
  have hdl:(c.drop m).length=c.length-m:=List.length_drop;have htl:((c.drop m).take k).length=k:=by rw[List.length_take,hdl];omega
  have htk:c.take m++(c.drop m).take k=c.take (m+k):=by rw[←List.take_add]
  have e3:IntKind.i64.wrap ((n:Int)+(k:Int))=((n+k:Nat):Int):=by rw[wr_i64 jB];omega
  apply (gN);refine H.dc [0,1,2,3,4,5,6,7,8] (S:=[_]) rfl ?_;apply A6 [0,1,2,3,4,5,6,7,8] 2;repeat(first|(refine B6 rfl rfl rfl (.at0 (Rd.ofRow jA) (hRow_n s part n (b++c).length hlen)) rfl ?_)|(apply (gV)))
  refine EB (lo:=some (.tmp 26)) (mx:=none) (hi:=none) (lv:=n) (hv:=64) (mv:=64) rfl rfl ⟨_,_,rfl,rfl⟩ rfl rfl (fun h=>by cases h) jB jB jE rfl ?_;rw[slP_ne jB];apply (qgK);apply (qeJ);apply (qkF)
  refine H.copy (k0:=k) (m:=c.length-m) (cs:=bytesV ((c.drop m).take k)) (ls:=hRow s part n (b++c).length) (ls':=hRow s (spliceB part n ((c.drop m).take k)) n (b++c).length) rfl rfl rfl rfl
   (by have:=(BAt.src (P:=prog) (A:=[]) (c:=qc) hq).len;rwa [hdl]at this) hk (by have:=fun A=>BAt.first (P:=prog) (A:=A) (c:=qc) hq (k0:=k) jB;rw[hdl]at this;exact this _)
   (by rw[show 0+8+n*1=8+n by omega];exact hRow_part s part _ n _ hlen jB) (by rw[zab,htl,hRow_len _ _ _ _ hlen];omega) (zao _) jA ?_
  apply (qdE);apply A6 [10] 0;apply (qdP);have hlen2:(spliceB part n ((c.drop m).take k)).length=64:=spliceB_len hlen jB;apply (gG)
  refine H.slice (lo:=some (.tmp 31)) (hi:=none) (mx:=none) (lv:=k) (hv:=c.length-m) (mv:=qc) rfl rfl ⟨_,_,rfl,rfl⟩ rfl rfl (fun h=>by cases h) jB hqc (Nat.le_refl _) rfl ?_;repeat(first|(refine AL rfl rfl rfl (.at0 (Rd.ofRow jA) (hRow_n s _ n (b++c).length hlen2)) rfl ?_)|(apply BC;(iterate 4 exact rfl);exact e3;exact rfl)|(refine AZ (v:=.int .i64 ((n+k:Nat):Int)) (ls':=hRow s (spliceB part n ((c.drop m).take k)) (n+k) (b++c).length) rfl rfl rfl rfl jA (hRow_setn s _ n (n+k) _ hlen2) ?_)|(refine AL rfl rfl rfl (.at0 (Rd.ofRow jA) (hRow_n s _ (n+k) (b++c).length hlen2)) rfl ?_)|(apply (gU)))
  have hbat:BAt f (slP q k qc 1) (c.drop (m+k)):=by
   have:=hq.drop (n:=k) (c:=qc) jB jB;rwa [List.drop_drop]at this
  have hsl:c.length-m-k=c.length-(m+k):=jB
  rw[hsl];by_cases hfull:n+k=64
  ·have hst2:HSt (b++c.take (m+k)) (Sha.block s (spliceB part n ((c.drop m).take k))) (spliceB part n ((c.drop m).take k)) 0:=by
    have:=hst.full (c:=(c.drop m).take k) jB;rwa [List.append_assoc,htk]at this
   generalize spliceB part n ((c.drop m).take k)=part2 at hlen2 hst2⊢;apply (gN);refine DW jD jJ jK ?_;refine HN.move (i:=1) jD rfl rfl rfl rfl ?_;refine DX [0,2,3,4,5,6,7,8,9,10,11,12] (S:=[_]) rfl ?_;apply A6 [0,2,3,4,5,6,7,8,9] 7;repeat(first|(refine AH (ls:=s.vals) rfl rfl rfl (hRow_rds jA) rfl rfl ?_)|(refine AH (ls:=bytesV part2) rfl rfl rfl (hRow_rdp jA) (by rw[zab];exact hlen2) rfl ?_)|(apply (gV)))
   apply (qdG);apply (qke);refine A8 rfl rfl rfl (sblock_fn f _ htab hlen2) ?_;apply (qdE);apply A6 [11,12] 4;apply (qdX);apply (qeJ);apply A7 13;generalize Sha.block s part2=s2 at hst2⊢;refine AC (ls:=hRow s part2 (n+k) (b++c).length) (vs:=s2.vals) (ls':=hRow s2 part2 (n+k) (b++c).length) rfl rfl rfl (zaa rfl) rfl (hRow_s _ _ _ _ _) (by rw[hRow_len _ _ _ _ hlen2];show 8≤74;decide) jA ?_;apply (qdE);apply A6 [14,15] 1;apply (qdX);apply A7 16;refine AZ (v:=.int .i64 ((0:Nat):Int)) (ls':=hRow s2 part2 0 (b++c).length) rfl rfl rfl rfl jA (hRow_setn s2 part2 (n+k) 0 _ hlen2) ?_;apply (qhU);exact AI (m+k,s2,part2,0,slP q k qc 1,qc-k) ⟨by show m+k≤c.length;omega,hst2,hbat,by show c.length-(m+k)≤qc-k;omega⟩ kG
  ·have hst2:HSt (b++c.take (m+k)) s (spliceB part n ((c.drop m).take k)) (n+k):=by
    have:=hst.more (c:=(c.drop m).take k) jB;rw[List.append_assoc,htk,htl]at this
    exact this
   generalize spliceB part n ((c.drop m).take k)=part2 at hlen2 hst2⊢;apply (gN);exact AI (m+k,s,part2,n+k,slP q k qc 1,qc-k) ⟨by show m+k≤c.length;omega,hst2,hbat,by show c.length-(m+k)≤qc-k;omega⟩ kG
 ·have hmc:m=c.length:=jB
  rw[hmc,List.take_length]at hst;clear hq hqc hc;subst hmc;apply (gN);refine H.imp (hashH_fold hst) ?_;exact qan
end
variable {xb qc:Nat}
theorem bodAt_rd{pre post:List Value}{x:Bod}{qp:Option Addr}(h:At A (bodAt xb T pre post x qp qc) A' (bodAt xb T pre post x qp qc)):Rd f A xb pre.length (x.vals qp qc):=by
 have h1:=Rd.ofRow (f:=f) h;have h2:=h1.sub (pre:=pre) (l:=x.vals qp qc) (post:=post) rfl
 rwa [Nat.zero_add]at h2
section
variable (f:Frag) (F:List HP) (cb:Nat) (s:Cs) (xb:Nat) (T:TypeId) (pre post:List Value)
def qs(qp:Option Addr)(qc:Nat)(q:List (Int×Int)):HP:=slc qp q.length qc 327 2 (q.flatMap pairV)
theorem pairsV_one:∀(q:List (Int×Int)),∀v∈q.flatMap pairV,one v=true:=by
 intro q v hv;simp only[List.mem_flatMap]at hv;obtain⟨p,_,hp⟩:=hv;simp only[pairV,List.mem_cons,List.not_mem_nil,or_false]at hp;rcases hp with rfl|rfl<;>rfl
theorem get_newview(hl:s.l.length≤1000000000)(x:Bod)(hx:x.q=[]):Fn prog 227 [.pointer (some ⟨cb,0,none⟩),.pointer (some ⟨xb,pre.length,none⟩)] f (cutC f cb s::bodAt xb T pre post x none 0::F)
   (RetE (fun _ : Option Addr × Nat => .tuple #[]) f (fun i => cutC f cb (Cs.pairs ((s.skip 8).num 1) ((s.skip 8).skip 1) []).2 ::
    bodAt xb T pre post {x with view:=(s.num 8:Nat),q:=(Cs.pairs ((s.skip 8).num 1) ((s.skip 8).skip 1) []).1} i.1 i.2::qs i.1 i.2 (Cs.pairs ((s.skip 8).num 1) ((s.skip 8).skip 1) []).1::F)):=by
 have a1:=s.skip_len 8;have a2:=(s.skip 8).skip_len 1
 have n1:=(s.skip 8).num1_lt;refine A9 func227 ntmps227 fun base=>?_
 repeat(first|((apply B3);(iterate 3 exact rfl))|(first|apply H.seq|apply BD))
 refine A8 rfl rfl rfl (word_cs f _ cb s jB) ?_;repeat(first|((apply B8);(iterate 3 exact rfl))|(apply BH;(iterate 3 exact rfl);exact inferInstance;exact rfl)|(apply AZ;(iterate 4 exact rfl);(repeat(first|exact .here _ _ _|apply At.there))))
 ·exact SetV.mid (l:=x.vals none 0) (l':=({x with view:=(s.num 8:Nat),q:=[]}:Bod).vals none 0) (i:=1) (by rw[show x.vals none 0=({x with q:=[]}:Bod).vals none 0 by rw[←hx]];exact jG) pre post
 apply (gG);refine A8 rfl rfl rfl (byte_cs f _ cb (s.skip 8) jB) ?_;apply (gK);generalize hs0:(s.skip 8).skip 1=s0 at a2⊢;generalize hN:(s.skip 8).num 1=N at n1⊢;refine AY 327 2 ?_;apply (qee);apply (qfc)
 refine AF (ι:=Nat×Cs×List (Int×Int)×Option Addr×Nat) (fun i=>[(4,.int .u8 (i.1:Int)),(0,.pointer (some ⟨cb,0,none⟩)),(1,.pointer (some ⟨xb,pre.length,none⟩))]) (fun _=>f)
  (fun i=>bodAt xb T pre post {x with view:=(s.num 8:Nat),q:=i.2.2.1} i.2.2.2.1 i.2.2.2.2::cutC f cb i.2.1::qs i.2.2.2.1 i.2.2.2.2 i.2.2.1::F)
  (fun i=>i.1<256∧i.2.2.1.length+i.1≤255∧i.2.1.l.length≤s.l.length∧Cs.pairs N s0 []=Cs.pairs i.1 i.2.1 i.2.2.1) (fun i=>i.1) (N,s0,[],none,0) ⟨n1,by show 0+N≤255;omega,by show s0.l.length≤_;omega,rfl⟩ fun i hi=>?_
 obtain⟨n,s',acc,qp,qc⟩:=i;obtain⟨hn,hacc,hlen,hp⟩:n<256∧acc.length+n≤255∧s'.l.length≤s.l.length∧Cs.pairs N s0 []=Cs.pairs n s' acc:=hi;rw[hp];show H _ _ _ [(4,.int .u8 (n:Int)),(0,.pointer (some ⟨cb,0,none⟩)),(1,.pointer (some ⟨xb,pre.length,none⟩))] _ (bodAt xb T pre post {x with view:=(s.num 8:Nat),q:=acc} qp qc::cutC f cb s'::qs qp qc acc::F) _
 cases n with
 | zero =>
  have h0:¬(0<((0:Nat):Int)):=jB
  have hp0:Cs.pairs 0 s' acc=(acc,s'):=rfl;rw[hp0]
  apply (gS);apply (qee);exact qdr
 | succ n =>
  have h0:0<((n+1:Nat):Int):=jB
  apply (qee);apply (gJ);refine A8 rfl rfl rfl (ok_cs f _ cb s') ?_
  cases hbad:s'.bad with
  | true =>
   have hp0:Cs.pairs (n+1) s' acc=(acc,s'):=by simp[Cs.pairs,hbad]
   rw[hp0];apply (gS);exact qdr
  | false =>
   have hp0:Cs.pairs (n+1) s' acc=Cs.pairs n ((s'.skip 1).skip 8) (acc++[(((s'.num 1:Nat):Int),(((s'.skip 1).num 8:Nat):Int))]):=by simp[Cs.pairs,hbad]
   rw[hp0];have b1:=s'.skip_len 1;have b2:=(s'.skip 1).skip_len 8
   have m1:=s'.num1_lt;apply (gS)
   apply (qee);refine H.dc [0,1,2,3,4,5,6,7,8,9,10,11,12] (S:=[_]) rfl ?_;apply A6 [0,1,2,3,4,5,8] 9;apply (gF);refine B6 rfl rfl rfl (.of (bodAt_rd jA) (i:=43) rfl) rfl ?_;apply (gB);apply (qfK);apply (qee);refine A8 rfl rfl rfl (byte_cs f _ cb s' jB) ?_;apply (qfi);apply A6 [7] 7;apply (qfq);apply (qkF);apply (qee);refine A8 rfl rfl rfl (word_cs f _ cb (s'.skip 1) jB) ?_;apply (qfi);apply A6 [10] 5;apply (qfq);generalize hpr:((((s'.num 1:Nat):Int),(((s'.skip 1).num 8:Nat):Int)):Int×Int)=pr;apply A7 11;refine AS (out:=pairV pr) rfl rfl rfl rfl jE jE (by subst hpr;rfl) rfl fun tb=>?_;apply (qfi);apply A7 12;refine AQ (m:=1) (news:=pairV pr) rfl rfl rfl rfl rfl (fun p' c'=>jA) (Src.slice (Rd.ofRow jA) rfl) (zaa rfl) rfl (show acc.length+1≤_ by omega) (show(acc.length+1)*_≤_ by omega) fun p' c'=>?_;apply (qdE);apply (qeJ);apply A6 [13,14] 1;apply (qdX);apply A7 15;repeat((apply AZ;(iterate 4 exact rfl);(repeat(exact .here _ _ _))))
   have e:Value.slice p' (acc.length+1) c'= .slice p' (acc++[pr]).length c':=by rw[List.length_append];rfl
   ·rw[e];exact SetV.mid (l:=({x with view:=(s.num 8:Nat),q:=acc}:Bod).vals qp qc) (l':=({x with view:=(s.num 8:Nat),q:=acc++[pr]}:Bod).vals p' c') (i:=43) jG pre post
   apply (qeX);refine B4 (.there _ (.here _ _)) ?_;apply (gD);refine H.know (d:=4) (u:=.int .u8 (n:Int)) rfl (congrArg (Value.int .u8) jB) ?_
   have e2:qs p' c' (acc++[pr])=slc p' (acc.length+1) c' 327 2 (acc.flatMap pairV++pairV pr):=by
    unfold qs;rw[List.length_append,List.flatMap_append];simp
   refine AX (n,(s'.skip 1).skip 8,acc++[pr],p',c') ⟨by show n<256;omega,by show(acc++[pr]).length+n≤255;rw[List.length_append];simp only[List.length_cons,List.length_nil];omega,by show((s'.skip 1).skip 8).l.length≤_;omega,?_⟩ (Nat.lt_succ_self n) ⟨rfl,rfl,rfl,trivial⟩ rfl ?_
   ·exact rfl
   ·show _=bodAt xb T pre post {x with view:=(s.num 8:Nat),q:=acc++[pr]} p' c'::cutC f cb ((s'.skip 1).skip 8)::qs p' c' (acc++[pr])::F;rw[e2];rfl
end
theorem u8_b8(z:Int):IntKind.u8.wrap z=((b8 z).toNat:Int):=u8_wrap z
variable {q:Option Addr}
theorem row_req{x:Bod}(h:At A (row xb T (x.vals q qc)) A' (row xb T (x.vals q qc))):Rd f A xb (0+3) x.req.vals:=by
 have h1:=Rd.ofRow (f:=f) h;have e:x.vals q qc=[.int .u8 (x.kind.toNat:Nat),.int .u64 x.view,.int .u64 x.k]++x.req.vals++([.slice q x.q.length qc]++b32 x.dig):=rfl
 exact qbL
theorem row_rtag{x:Bod}(h:At A (row xb T (x.vals q qc)) A' (row xb T (x.vals q qc))):Rd f A xb (0+3+8) (bytesV (b32L x.req.tag)):=by
 have h1:=Rd.ofRow (f:=f) h;have e:x.vals q qc=([.int .u8 (x.kind.toNat:Nat),.int .u64 x.view,.int .u64 x.k]++[.int .i64 x.req.client,.int .u64 x.req.time,.int .u8 (x.req.kind.toNat:Nat),.string x.req.key,.string x.req.val,.string x.req.old,.string x.req.to,.int .u64 x.req.amount])++bytesV (b32L x.req.tag)++([.slice q x.q.length qc]++b32 x.dig):=rfl
 exact qbL
theorem row_dig{x:Bod}(h:At A (row xb T (x.vals q qc)) A' (row xb T (x.vals q qc))):Rd f A xb (0+44) (bytesV (b32L x.dig)):=by
 have h1:=Rd.ofRow (f:=f) h;have e:x.vals q qc=([.int .u8 (x.kind.toNat:Nat),.int .u64 x.view,.int .u64 x.k]++x.req.vals++[.slice q x.q.length qc])++bytesV (b32L x.dig)++[]:=(List.append_nil _).symm
 exact qbL
theorem Req.bytes_len(r:Req):r.bytes.length=26+r.key.size+r.val.size+r.old.size+r.to.size:=by
 unfold Req.bytes textB;simp only[List.length_append,be_len,data_len];show 2+8+8+_+_+_+_=_;omega
section
variable (f:Frag) (A:List HP) (x:Bod) (q:Option Addr) (qc:Nat)
theorem may_prepare:Fn prog 220 [.agg (x.vals q qc).toArray] f A (Ret (.bool (decide x.req.asked)) f A):=by
 refine AB func220 ntmps220 fun base=>?_;refine (qeT) fun xb=>?_;apply (gO);refine AD (ls:=x.req.vals) rfl rfl rfl (row_req jA) rfl rfl ?_;refine A8 rfl rfl rfl (asked_fn f _ x.req) ?_;apply (gK);exact qaI
theorem may_newview(hq:QAt f q x.q)(hl:x.q.length≤1000000000000):Fn prog 228 [.agg (x.vals q qc).toArray] f A (Ret (.bool (decide (1≤x.view)&&(quo 0 x.q&&decide (0<x.q.length)))) f A):=by
 by_cases hv:1≤x.view
 ·refine AB func228 ntmps228 fun base=>?_;refine (qeT) fun xb=>?_;apply (gS);refine A8 rfl rfl rfl (quorum_fn f _ hq hl) ?_;apply (gJ);apply (qet);exact AE rfl rfl iD ⟨by rw[decide_eq_true hv,Bool.true_and],rfl,rfl⟩
 ·refine AB func228 ntmps228 fun base=>?_;refine (qeT) fun xb=>?_;apply (qhT);exact AE rfl rfl iD ⟨by rw[decide_eq_false hv,Bool.false_and],rfl,rfl⟩
theorem put_commit(hs:Src prog f A (.slice p l.length c) 1 l.length (bytesV l))(hn:p=none→l=[])(hl:l.length≤100000000):Fn prog 222 [.slice p l.length c,.agg (x.vals q qc).toArray] f A (BytesR (l++(be 8 x.view++be 8 x.k)) f A):=by
 refine A9 func222 ntmps222 fun base=>?_;refine (qeT) fun xb=>?_;apply (qkq);apply A6 [0,1,2,4,5] 3;apply (qdX);apply A7 3;refine (qiI) fun p1 c1=>?_;apply (qfi);apply A7 6;have h1:(l++be 8 x.view).length=l.length+8:=by rw[List.length_append,be_len]
 generalize hl1:l++be 8 x.view=l1 at h1;refine (qio) fun b3 hp=>?_;subst hp;refine (qiw) fun p4 c4=>?_;apply (qit);apply (qee);apply (qdO);apply A6 [7] 0;apply (qgJ);apply (qet);exact AE rfl rfl iD ⟨p4,c4,by rw[←List.append_assoc,hl1],rfl,by rw[←List.append_assoc,hl1];rfl⟩
theorem put_prepare(hs:Src prog f A (.slice p l.length c) 1 l.length (bytesV l))(hn:p=none→l=[])(ha:x.req.asked)(hl:l.length≤100000000):Fn prog 216 [.slice p l.length c,.agg (x.vals q qc).toArray] f A (BytesR (l++(be 8 x.view++x.req.bytes++b32L x.req.tag)) f A):=by
 have hb:x.req.bytes.length≤1000:=by
  obtain⟨_,_,_,_,⟨k1,k2⟩,k3,k4⟩:=ha;rw[Req.bytes_len];omega
 refine A9 func216 ntmps216 fun base=>?_;refine (qeT) fun xb=>?_;apply (qkq);apply A6 [0,1,2,4,5,7,8,9] 4;apply (gF);refine AH (ls:=x.req.vals) rfl rfl rfl (row_req jA) rfl rfl ?_;apply (gF);apply (qeC);apply (qdG);apply A7 3;refine (qiI) fun p1 c1=>?_;apply (qfi);apply A7 6;have h1:(l++be 8 x.view).length=l.length+8:=by rw[List.length_append,be_len]
 generalize hl1:l++be 8 x.view=l1 at h1;apply (qee);refine AG rfl rfl rfl (request_fn f _ x.req ha jB) fun p2 c2=>?_;have h2:(l1++x.req.bytes).length=l1.length+x.req.bytes.length:=List.length_append;generalize hl2:l1++x.req.bytes=l2 at h2
 apply (qfi);apply (qke);refine AQ (m:=32) rfl rfl rfl rfl rfl (fun p' c'=>jA) (Src.slice (row_rtag jA) rfl) (zao _) rfl jB jB fun p3 c3=>?_;apply (qdE);apply A6 [11] 0;apply (qgJ);apply (qet);have e3:(l++(be 8 x.view++x.req.bytes++b32L x.req.tag))=l2++b32L x.req.tag:=by rw[←hl2,←hl1];simp only[List.append_assoc]
 exact qcc
theorem put_check(hs:Src prog f A (.slice p l.length c) 1 l.length (bytesV l))(hn:p=none→l=[])(hl:l.length≤100000000):Fn prog 230 [.slice p l.length c,.agg (x.vals q qc).toArray] f A (BytesR (l++(be 8 x.k++b32L x.dig)) f A):=by
 refine A9 func230 ntmps230 fun base=>?_;refine (qeT) fun xb=>?_;apply (qkq);apply A6 [0,1,2,4,5] 3;apply (gF);apply (qeC);apply (qdG);apply A7 3;refine (qiI) fun p1 c1=>?_;apply (qfi);apply A7 6;have h1:(l++be 8 x.k).length=l.length+8:=by rw[List.length_append,be_len]
 generalize hl1:l++be 8 x.k=l1 at h1;refine AQ (m:=32) rfl rfl rfl rfl rfl (fun p' c'=>jA) (Src.slice (row_dig jA) rfl) (zao _) rfl jB jB fun p3 c3=>?_;apply (qdE);apply A6 [7] 0;apply (qgJ);apply (qet);have e3:(l++(be 8 x.k++b32L x.dig))=l1++b32L x.dig:=by rw[←hl1];simp only[List.append_assoc]
 exact qcc
theorem put_view(hs:Src prog f A (.slice p l.length c) 1 l.length (bytesV l))(hn:p=none→l=[])(hl:l.length≤100000000):Fn prog 278 [.slice p l.length c,.agg (x.vals q qc).toArray] f A (BytesR (l++be 8 x.view) f A):=view1_fn f A x q qc hs hn jB
theorem put_newview(hs:Src prog f A (.slice p l.length c) 1 l.length (bytesV l))(hn:p=none→l=[])(hq:QAt f q x.q)(hql:x.q.length≤1000)(hl:l.length≤100000000):Fn prog 226 [.slice p l.length c,.agg (x.vals q qc).toArray] f A (BytesR (l++(be 8 x.view++[b8 x.q.length]++x.q.flatMap pairB)) f A):=by
 have h1:(l++be 8 x.view).length=l.length+8:=by rw[List.length_append,be_len]
 refine A9 func226 ntmps226 fun base=>?_;refine (qeT) fun xb=>?_;apply (gG);refine H.cut (ι:=Option Addr×Nat) (fun i=>[(0,.slice i.1 ((l++be 8 x.view).length+1) i.2),(3,.pointer (some ⟨xb,0,none⟩))]) (fun _=>f) (fun i=>row xb 39 (x.vals q qc)::slc i.1 ((l++be 8 x.view).length+1) i.2 5 1 (bytesV (l++be 8 x.view)++bytesV [b8 x.q.length])::A) (fun _=>True) _ (fun i _=>?_) ?_
 ·obtain⟨p1,c1⟩:=i;generalize hl0:l++be 8 x.view++[b8 x.q.length]=l0;have e0:l0.length=(l++be 8 x.view).length+1:=by rw[←hl0,List.length_append];rfl
  have e1:bytesV l0=bytesV (l++be 8 x.view)++bytesV [b8 x.q.length]:=by rw[←hl0,zak]
  show H _ _ _ [(0,.slice p1 ((l++be 8 x.view).length+1) c1),_] _ (row _ _ _::slc p1 ((l++be 8 x.view).length+1) c1 _ _ (bytesV (l++be 8 x.view)++bytesV [b8 x.q.length])::A) _;rw[←e0,←e1];apply (gT)
  refine H.loop (ι:=Nat×Option Addr×Nat) (fun i=>[(20,.int .i64 (i.1:Int)),(19,.int .i64 (x.q.length:Nat)),(18,.slice q x.q.length qc),(0,.slice i.2.1 (l0++(x.q.take i.1).flatMap pairB).length i.2.2),(3,.pointer (some ⟨xb,0,none⟩))]) (fun _=>f)
   (fun i=>row xb 39 (x.vals q qc)::slc i.2.1 (l0++(x.q.take i.1).flatMap pairB).length i.2.2 5 1 (bytesV (l0++(x.q.take i.1).flatMap pairB))::A)
   (fun i=>i.1≤x.q.length∧(l0++(x.q.take i.1).flatMap pairB).length=l0.length+9*i.1) (fun i=>x.q.length-i.1) (0,p1,c1) ⟨Nat.zero_le _,by simp⟩ ⟨rfl,rfl,rfl,?_,rfl,trivial⟩ rfl ?_ fun i hi=>?_
  ·show some (Value.slice p1 l0.length c1)=some (Value.slice p1 (l0++[]).length c1);rw[List.append_nil]
  ·show _=_::slc p1 (l0++[]).length c1 _ 1 (bytesV (l0++[]))::A;rw[List.append_nil]
  ·obtain⟨i,p',c'⟩:=i;obtain⟨hi,hlen⟩:i≤x.q.length∧(l0++(x.q.take i).flatMap pairB).length=l0.length+9*i:=hi;show H _ _ _ [(20,.int .i64 (i:Int)),_,_,(0,.slice p' (l0++(x.q.take i).flatMap pairB).length c'),_] _ (_::slc p' (l0++(x.q.take i).flatMap pairB).length c' _ 1 (bytesV (l0++(x.q.take i).flatMap pairB))::A) _;generalize hacc:l0++(x.q.take i).flatMap pairB=acc at hlen;by_cases hlt:i<x.q.length
   ·have hx:x.q[i]?=some x.q[i]:=List.getElem?_eq_getElem hlt;generalize x.q[i]=pr at hx
    have e3:l0++(x.q.take (i+1)).flatMap pairB=acc++[b8 pr.1]++be 8 pr.2:=by
     rw[List.take_add_one,hx,←hacc];simp[pairB]
    obtain⟨b,off,cs,T,fr,rfl,hfb,hcs⟩:=hq i pr hx;have rd:∀A,Rd f A b (off+i*2) (pairV pr):=fun A=>Rd.imm hfb hcs;clear hcs hfb
    apply (qhD);refine AD (ls:=pairV pr) rfl rfl rfl (rd _) rfl rfl ?_;refine AJ rfl rfl rfl fun pb=>?_;refine AC (ls:=[.int .i64 0,.int .u64 0]) (vs:=pairV pr) (ls':=pairV pr) rfl rfl rfl (zaa rfl) rfl rfl (Nat.le_refl 2) jA ?_;apply (qkJ);apply A6 [0,1,2,3,6,7] 4;apply (gM);rw[u8_b8];apply (qdG);apply A7 4;refine AS (out:=bytesV [b8 pr.1]) rfl rfl rfl rfl jE jE rfl rfl fun tb=>?_;apply (qfi);apply A7 5;refine (qhS) fun p3 c3=>?_;apply (gA);refine B4 (.there _ (.here _ _)) ?_;apply (qdO);apply A7 8;have f0:(acc++[b8 pr.1]).length=acc.length+1:=by rw[List.length_append];rfl
    have f1:bytesV (acc++[b8 pr.1])=bytesV acc++bytesV [b8 pr.1]:=zak _ _;generalize acc++[b8 pr.1]=l4 at f0 f1 e3
    show H _ _ _ _ _ (row _ _ _::row _ _ _::slc p3 (acc.length+1) c3 _ _ (bytesV acc++bytesV [b8 pr.1])::A) _;rw[←f0,←f1];refine AO at2 jB fun b3 hp=>?_;subst hp;refine AG rfl rfl rfl (zbj (l:=l4) f _ (Src.slcS at2 jH) (fun h=>by cases h) jB) fun p4 c4=>?_;apply (gA);refine B4 (.there _ (.there _ (.there _ (.here _ _)))) ?_;apply (qee);apply (qdO);apply A6 [9] 0;apply (qdP);apply (gD);apply (qet);apply (qee);refine AX (i+1,p4,c4) ⟨by show i+1≤x.q.length;omega,?_⟩ (by show x.q.length-(i+1)<x.q.length-i;omega) ⟨rfl,rfl,rfl,?_,rfl,trivial⟩ rfl ?_
    ·show(l0++(x.q.take (i+1)).flatMap pairB).length=l0.length+9*(i+1);rw[e3,List.length_append,be_len];omega
    ·show some _=some (Value.slice p4 (l0++(x.q.take (i+1)).flatMap pairB).length c4);rw[e3]
    ·show _=_::slc p4 (l0++(x.q.take (i+1)).flatMap pairB).length c4 _ 1 (bytesV (l0++(x.q.take (i+1)).flatMap pairB))::A;rw[e3]
   ·have:i=x.q.length:=jB
    subst this;rw[List.take_length]at hacc;apply (gN);apply (qet);have e9:l++(be 8 x.view++[b8 x.q.length]++x.q.flatMap pairB)=acc:=by rw[←hacc,←hl0];simp only[List.append_assoc]
    exact AE rfl rfl iD ⟨p',c',by rw[e9],rfl,by rw[e9]⟩
 ·apply (qea);apply A6 [0,1,2,4,5,6,7] 4;apply (gM);rw[u8_b8];apply (qdG);refine B9 (i:=3) (j:=8) jD rfl rfl ?_ ?_
  ·refine (qiI) fun p1 c1=>?_;apply (qfi);apply A7 8;refine AS (out:=bytesV [b8 x.q.length]) rfl rfl rfl rfl jE jE rfl rfl fun tb=>?_;apply (qfi);apply (qkF);refine (qhS) fun p3 c3=>?_;apply (gA);refine B4 (.there _ (.here _ _)) ?_;exact qbG
  ·refine AS (out:=bytesV [b8 x.q.length]) rfl rfl rfl rfl jE jE rfl rfl fun tb=>?_;apply (qfi);apply A7 3;refine AG rfl rfl rfl (zbj f _ hs.cons.cons hn jB) fun p1 c1=>?_;apply (qfi);apply (qkF);refine AQ (m:=1) rfl rfl rfl rfl rfl (fun p' c'=>jA) (Src.slice (Rd.ofRow at2) rfl) (zao _) rfl jB jB fun p3 c3=>?_;apply (qit);exact qbG
end
theorem eqC_pair(p r:Int×Int):eqC (pairV p) (pairV r)=decide (p=r):=by
 obtain⟨a,b⟩:=p;obtain⟨c,d⟩:=r;simp only[pairV,eqC,eqv,Bool.and_true,Prod.mk.injEq];by_cases h1:a=c<;>by_cases h2:b=d<;>simp[h1,h2]
def Bod.eqB(a b:Bod):Bool:=decide ((a.kind.toNat:Int)=b.kind.toNat)&&decide (a.view=b.view)&&decide (a.k=b.k)&&eqC a.req.vals b.req.vals&&decide (a.q=b.q)&&eqC (b32 a.dig) (b32 b.dig)
def Bod.may(x:Bod):Bool:=Bod.eqB x.own x&&decide (x.view<1073741824)&&x.mayK x.kind.toNat
variable {r:Option Addr} {d:Nat}
section
variable (f:Frag) (F:List HP)
theorem take_eq_succ{l m:List α}{i:Nat}{x y:α}(h:l.take i=m.take i)(hx:l[i]?=some x)(hy:m[i]?=some y)(e:x=y):l.take (i+1)=m.take (i+1):=by
 rw[List.take_add_one,List.take_add_one,h,hx,hy,e]
theorem equalPairs_fn{l m:List (Int×Int)}(hp:QAt f p l)(hr:QAt f r m)(hl:l.length≤1000000000):Fn prog 333 [.slice p l.length c,.slice r m.length d] f F (Ret (.bool (decide (l=m))) f F):=by
 by_cases hlen:(l.length:Int)=m.length
 ·have hlen':l.length=m.length:=jB
  refine A9 func333 ntmps333 fun base=>?_;apply (gN);rw[decide_eq_false jB];refine AF (ι:=Nat) (fun i=>[(13,.int .i64 (i:Int)),(12,.int .i64 (l.length:Nat)),(0,.slice p l.length c),(1,.slice r m.length d)]) (fun _=>f) (fun _=>F) (fun i=>i≤l.length∧l.take i=m.take i) (fun i=>l.length-i) 0 ⟨Nat.zero_le _,rfl⟩ fun i hi=>?_;obtain⟨hi,htk⟩:i≤l.length∧l.take i=m.take i:=hi;by_cases hlt:i<l.length
  ·have hx:l[i]?=some l[i]:=List.getElem?_eq_getElem hlt;have hy:m[i]?=some (m[i]' jB):=List.getElem?_eq_getElem jB
   generalize l[i]=x at hx;generalize m[i]' jB=y at hy;obtain⟨b,off,cs,T,fr,rfl,hfb,hcs⟩:=hp i x hx;obtain⟨b2,off2,cs2,T2,fr2,rfl,hfb2,hcs2⟩:=hr i y hy;have rd:∀A,Rd f A b (off+i*2) (pairV x):=fun A=>Rd.imm hfb hcs;have rd2:∀A,Rd f A b2 (off2+i*2) (pairV y):=fun A=>Rd.imm hfb2 hcs2
   apply (gN);refine BB ?_;apply (gB);refine Cn rfl rfl rfl rfl hlt rfl ?_;refine AH (ls:=pairV x) rfl rfl rfl (rd _) rfl rfl ?_;apply (gB);refine Cn rfl rfl rfl rfl jB rfl ?_;refine AH (ls:=pairV y) rfl rfl rfl (rd2 _) rfl rfl ?_;refine DL (D:=4) (b:=!decide (x=y)) rfl rfl rfl rfl jD jD jD jD jE (by rw[eqC_pair]) rfl ?_;by_cases hxy:x=y
   ·rw[decide_eq_true hxy];apply (gQ);apply (gT);exact AI (i+1) ⟨by show i+1≤l.length;omega,take_eq_succ htk hx hy hxy⟩ kF
   ·rw[decide_eq_false hxy];apply (gQ);apply (gR);refine AE rfl rfl iD ⟨?_,rfl,rfl⟩;rw[decide_eq_false];rintro rfl;rw[hx]at hy;exact hxy (Option.some.inj hy)
  ·have:i=l.length:=jB
   subst this;apply (gN);refine AE rfl rfl iD ⟨?_,rfl,rfl⟩;rw[decide_eq_true];rwa [List.take_length,hlen',List.take_length]at htk
 ·refine A9 func333 ntmps333 fun base=>?_;apply (gN);refine AE rfl rfl iD ⟨?_,rfl,rfl⟩;rw[decide_eq_false];rintro rfl;exact hlen rfl
theorem same_fn{a b:Bod}(hp:QAt f p a.q)(hr:QAt f r b.q)(hl:a.q.length≤1000000000):Fn prog 281 [.agg (a.vals p c).toArray,.agg (b.vals r d).toArray] f F (Ret (.bool (Bod.eqB a b)) f F):=by
 by_cases h1:(a.kind.toNat:Int)=b.kind.toNat
 ·by_cases h2:a.view=b.view
  ·by_cases h3:a.k=b.k
   ·by_cases h4:eqC a.req.vals b.req.vals=true
    ·by_cases h5:a.q=b.q
     ·try simp only[Bool.not_eq_true]at *
      refine A9 func281 ntmps281 fun base=>?_;repeat(first|(apply (gU))|(refine H.box (ls:=a.vals p c) rfl rfl rfl rfl fun ab=>?_)|(refine H.box (ls:=b.vals r d) rfl rfl rfl rfl fun bb=>?_)|(refine AD (ls:=a.req.vals) rfl rfl rfl (row_req jA) rfl rfl ?_)|(refine AD (ls:=b.req.vals) rfl rfl rfl (row_req jA) rfl rfl ?_)|(refine Cr (xs:=a.req.vals) (ys:=b.req.vals) (D:=4) rfl rfl rfl rfl jD jD jD jD jE rfl rfl ?_)|(refine A8 rfl rfl rfl (equalPairs_fn f _ hp hr hl) ?_)|(refine AD (ls:=bytesV (b32L a.dig)) rfl rfl rfl (row_dig jA) rfl rfl ?_)|(refine AD (ls:=bytesV (b32L b.dig)) rfl rfl rfl (row_dig jA) rfl rfl ?_)|(refine Cr (xs:=bytesV (b32L a.dig)) (ys:=bytesV (b32L b.dig)) (b:=eqC (b32 a.dig) (b32 b.dig)) (D:=4) rfl rfl rfl rfl jD jD jD jD jE rfl rfl ?_))
      exact qaX
     ·try simp only[Bool.not_eq_true]at *
      refine A9 func281 ntmps281 fun base=>?_;repeat(first|(apply (gU))|(refine H.box (ls:=a.vals p c) rfl rfl rfl rfl fun ab=>?_)|(refine H.box (ls:=b.vals r d) rfl rfl rfl rfl fun bb=>?_)|(refine AD (ls:=a.req.vals) rfl rfl rfl (row_req jA) rfl rfl ?_)|(refine AD (ls:=b.req.vals) rfl rfl rfl (row_req jA) rfl rfl ?_)|(refine Cr (xs:=a.req.vals) (ys:=b.req.vals) (D:=4) rfl rfl rfl rfl jD jD jD jD jE rfl rfl ?_)|(refine A8 rfl rfl rfl (equalPairs_fn f _ hp hr hl) ?_))
      exact qaX
    ·try simp only[Bool.not_eq_true]at *
     refine A9 func281 ntmps281 fun base=>?_;repeat(first|(apply (gU))|(refine H.box (ls:=a.vals p c) rfl rfl rfl rfl fun ab=>?_)|(refine H.box (ls:=b.vals r d) rfl rfl rfl rfl fun bb=>?_)|(refine AD (ls:=a.req.vals) rfl rfl rfl (row_req jA) rfl rfl ?_)|(refine AD (ls:=b.req.vals) rfl rfl rfl (row_req jA) rfl rfl ?_)|(refine Cr (xs:=a.req.vals) (ys:=b.req.vals) (D:=4) rfl rfl rfl rfl jD jD jD jD jE rfl rfl ?_))
     exact qaX
   ·exact qay
  ·exact qay
 ·exact qay
end
def fnV(f:FuncId):Value:=.func (.func f) #[] #[]
def codecCells(a b c:FuncId):List Value:=[fnV a,fnV b,fnV c]
def codecV(a b c:FuncId):Value:=.agg (codecCells a b c).toArray
def encU8:Int→Value:=fun k=>Value.int .u8 k
instance keyU8:KeyT prog 5 encU8:=keyT_int ⟨underlying5⟩
def codecsM:List (Int×Value):=[
 (1,codecV 216 218 220),
 (2,codecV 222 223 224),
 (3,codecV 278 279 280),
 (5,codecV 278 279 280),
 (4,codecV 226 227 228),
 (6,codecV 230 231 224)]
theorem Fn.monoA{R':Value→Frag→List HP→Prop}(h:Fn P fid args f A R)
  (hr:∀v f' A',R v f' A'→∃A'',R' v f' A''∧∀x,stars A' x→stars A'' x):Fn P fid args f A R':=
 fun base w s=>(h base w s).mono fun _ _ ⟨v,f',A',e,r,s'⟩=>by
  obtain⟨A'',r',hx⟩:=hr _ _ _ r
  exact⟨v,f',A'',e,r',s'.imp hx⟩
theorem stars_nil_slc{x:Frag}(h:stars A x):stars (slc none 0 0 T sz []::A) x:=
 ⟨nil0,x,(Dj.nil x).symm,(nil_un x).symm,slc_nil none T sz,h⟩
def MayC(fid:FuncId)(kind:Nat):Prop:=∀(f:Frag) (A:List HP) (x:Bod) (q:Option Addr) (qc:Nat),QAt f q x.q→x.q.length≤1000000000→Fn prog fid [.agg (x.vals q qc).toArray] f A (Ret (.bool (x.mayK kind)) f A)
def PutC(fid:FuncId)(kind:Nat):Prop:=∀(f:Frag) (A:List HP) (x:Bod) (q:Option Addr) (qc:Nat) (p:Option Addr) (c:Nat) (l:List UInt8),Src prog f A (.slice p l.length c) 1 l.length (bytesV l)→(p=none→l=[])→QAt f q x.q→x.mayK kind=true→x.q.length≤11→l.length≤100000000→
 Fn prog fid [.slice p l.length c,.agg (x.vals q qc).toArray] f A (BytesR (l++x.putK kind) f A)
def GetR(f:Frag)(F:List HP)(cb:Nat)(xb:Nat)(T:TypeId)(pre post:List Value)(r:Bod×Cs):Value→Frag→List HP→Prop:=
 RetE (fun _:Option Addr×Nat=>.tuple #[]) f (fun i=>cutC f cb r.2::bodAt xb T pre post r.1 i.1 i.2::qs i.1 i.2 r.1.q::F)
def GetC(fid:FuncId)(kind:Nat):Prop:=∀(f:Frag) (F:List HP) (cb:Nat) (s:Cs) (xb:Nat) (T:TypeId) (pre post:List Value) (k8:UInt8),s.l.length≤1000000000→
 Fn prog fid [.pointer (some ⟨cb,0,none⟩),.pointer (some ⟨xb,pre.length,none⟩)] f (cutC f cb s::bodAt xb T pre post (Bod.zero k8) none 0::F) (GetR f F cb xb T pre post (s.bodyK 32 128 k8 kind))
theorem getC_of{kind:Nat}(h:∀(f:Frag) (F:List HP) (cb:Nat) (s:Cs) (xb:Nat) (T:TypeId) (pre post:List Value) (k8:UInt8),s.l.length≤1000000000→
  (s.bodyK 32 128 k8 kind).1.q = [] ∧ Fn prog fid [.pointer (some ⟨cb, 0, none⟩), .pointer (some ⟨xb, pre.length, none⟩)] f (cutC f cb s :: bodAt xb T pre post (Bod.zero k8) none 0 :: F)
   (Ret (.tuple #[]) f (cutC f cb (s.bodyK 32 128 k8 kind).2::bodAt xb T pre post (s.bodyK 32 128 k8 kind).1 none 0::F))):GetC fid kind:=fun f F cb s xb T pre post k8 hl=>by
 obtain⟨hq,hf⟩:=h f F cb s xb T pre post k8 hl
 refine hf.monoA fun v f' A' hr=>?_
 obtain⟨rfl,rfl,rfl⟩:=hr
 refine⟨_,⟨(none,0),rfl,rfl,rfl⟩,?_⟩
 refine keep_stars (keep_stars ?_)
 intro x hx
 rw[hq]
 exact stars_nil_slc hx
theorem may1:MayC 220 1:=fun f A x q qc _ _=>may_prepare f A x q qc
theorem may2:MayC 224 2:=fun f A x q qc _ _=>k_fn f A x q qc
theorem may6:MayC 224 6:=fun f A x q qc _ _=>k_fn f A x q qc
theorem may3:MayC 280 3:=fun f A x q qc _ _=>view3_fn f A x q qc
theorem may5:MayC 280 5:=fun f A x q qc _ _=>view3_fn f A x q qc
theorem may4:MayC 228 4:=fun f A x q qc hq hl=>may_newview f A x q qc hq jB
theorem put1:PutC 216 1:=fun f A x q qc p c l hs hn _ hm _ hl=>put_prepare f A x q qc hs hn (of_decide_eq_true hm) hl
theorem put2:PutC 222 2:=fun f A x q qc p c l hs hn _ _ _ hl=>put_commit f A x q qc hs hn hl
theorem put3:PutC 278 3:=fun f A x q qc p c l hs hn _ _ _ hl=>put_view f A x q qc hs hn hl
theorem put5:PutC 278 5:=fun f A x q qc p c l hs hn _ _ _ hl=>put_view f A x q qc hs hn hl
theorem put6:PutC 230 6:=fun f A x q qc p c l hs hn _ _ _ hl=>put_check f A x q qc hs hn hl
theorem put4:PutC 226 4:=fun f A x q qc p c l hs hn hq _ hql hl=>put_newview f A x q qc hs hn hq jB hl
theorem get1:GetC 218 1:=getC_of fun f F cb s xb T pre post k8 hl=>⟨rfl,get_prepare f F cb s xb T pre post hl (Bod.zero k8) none 0⟩
theorem get2:GetC 223 2:=getC_of fun f F cb s xb T pre post k8 hl=>⟨rfl,get_commit f F cb s xb T pre post hl (Bod.zero k8) none 0⟩
theorem get3:GetC 279 3:=getC_of fun f F cb s xb T pre post k8 hl=>⟨rfl,get_view f F cb s xb T pre post hl (Bod.zero k8) none 0⟩
theorem get5:GetC 279 5:=getC_of fun f F cb s xb T pre post k8 hl=>⟨rfl,get_view f F cb s xb T pre post hl (Bod.zero k8) none 0⟩
theorem get6:GetC 231 6:=getC_of fun f F cb s xb T pre post k8 hl=>⟨rfl,get_check f F cb s xb T pre post hl (Bod.zero k8) none 0⟩
theorem get4:GetC 227 4:=fun f F cb s xb T pre post k8 hl=>get_newview f F cb s xb T pre post hl (Bod.zero k8) rfl
section
variable (f:Frag) (F:List HP)
theorem view_fn:Fn prog 225 [] f F (Ret (codecV 278 279 280) f F):=by
 refine BX func225 ntmps225 fun base=>?_;apply (gA);refine (qgU) fun vb=>?_;apply (gJ);refine AC (ls:=[.nilFunc,.nilFunc,.nilFunc]) (vs:=codecCells _ _ _) (ls':=codecCells _ _ _) rfl rfl rfl (zaa rfl) rfl rfl (Nat.le_refl 3) jA ?_;apply (gK);exact qav
theorem codecs_fn:Fn prog 156 [] f F (RetE (fun b=>.map (some b)) f (fun b=>mp b encU8 codecsM::F)):=by
 refine BX func156 ntmps156 fun base=>?_;apply (gG);refine H.makeMap encU8 rfl rfl fun mb=>?_;repeat(first|(apply (gU))|(refine Dx (enc:=encU8) rfl rfl rfl rfl aP0 rfl ?_)|(refine A8 rfl rfl rfl (view_fn f _) ?_))
 exact AU ⟨mb,rfl,rfl,rfl⟩
end
variable {g:Frag}
theorem BAt.mono(h:Le f g)(hb:BAt f p l):BAt g p l:=by
 rcases hb with rfl|⟨b,off,cs,T,fr,h1,h2,h3⟩
 ·exact .inl rfl
 ·exact .inr ⟨b,off,cs,T,fr,h1,h _ _ h2,h3⟩
theorem QAt.mono(h:Le f g){l:List (Int×Int)}(hb:QAt f p l):QAt g p l:=fun i x hx=>by
 obtain⟨b,off,cs,T,fr,h1,h2,h3⟩:=hb i x hx
 exact⟨b,off,cs,T,fr,h1,h _ _ h2,h3⟩
theorem flat_pair_get:∀(q:List (Int×Int)) (i:Nat) (x:Int×Int),q[i]?=some x→∀j,j<(pairV x).length→(q.flatMap pairV)[i*2+j]?=(pairV x)[j]?
 | [],i,x,h,j,hj=>by simp at h
 | y :: q, 0, x, h, j, hj => by
  simp at h;subst h
  rw[List.flatMap_cons,Nat.zero_mul,Nat.zero_add,List.getElem?_append_left hj]
 | y :: q, i + 1, x, h, j, hj => by
  rw[List.flatMap_cons,List.getElem?_append_right (by show(2:Nat)≤_;omega)]
  rw[show(i+1)*2+j-(pairV y).length=i*2+j by show(i+1)*2+j-2=_;omega]
  exact flat_pair_get q i x jc j hj
theorem qs_qat{q:List (Int×Int)}(h:qs p c q g)(hd:Dj f g):QAt (un f g) p q:=fun i x hx=>by
 obtain⟨_,_,h3⟩:=h
 have hi:i<q.length:=by
  rcases Nat.lt_or_ge i q.length with h|h
  ·exact h
  ·simp[List.getElem?_eq_none h]at hx
 rcases h3 with⟨h0,_,_⟩|⟨b,sp,rfl,h4,h5,rfl⟩
 ·omega
 ·refine⟨b,0,(q.flatMap pairV++sp).toArray,327,(0,0),rfl,?_,fun j hj=>?_⟩
  ·show(f b).or (sing b _ b)=_
   have:f b=none:=by
    rcases hd b with h|h
    ·exact h
    ·simp[sing]at h
   rw[this]
   simp[sing]
  ·rw[Nat.zero_add]
   simp only[List.getElem?_toArray]
   have h6:=flat_pair_get q i x hx j hj
   rw[List.getElem?_append_left ?_,h6]
   rcases Nat.lt_or_ge (i*2+j) (q.flatMap pairV).length with h|h
   ·exact h
   ·rw[List.getElem?_eq_none h]at h6
    rw[List.getElem?_eq_getElem hj]at h6
    cases h6
def Bod.back(x:Bod)(kind:Nat):Bod:=((⟨x.putK kind,false⟩:Cs).bodyK 32 128 x.kind kind).1
def Bod.mayP(x:Bod)(kind:Nat):Bool:=decide (x.view<1073741824)&&(x.mayK kind&&(decide (x.q.length≤11)&&Bod.eqB x (x.back kind)))
section
variable (f:Frag) (F:List HP)
theorem flat_pairB_len:∀q:List (Int×Int),(q.flatMap pairB).length=9*q.length
 | []=>rfl
 | p :: q => by
  rw[List.flatMap_cons,List.length_append,flat_pairB_len q]
  show(be 8 p.2).length+1+9*q.length=9*(q.length+1)
  rw[be_len];omega
theorem putK_len(x:Bod)(kind:Nat)(hm:x.mayK kind=true)(hq:x.q.length≤11):0<(x.putK kind).length∧(x.putK kind).length≤2000:=by
 match kind,hm with
 | 1, hm =>
  obtain⟨_,_,_,_,⟨k1,k2⟩,k3,k4⟩:=of_decide_eq_true hm;show 0<(be 8 x.view++x.req.bytes++b32L x.req.tag).length∧(be 8 x.view++x.req.bytes++b32L x.req.tag).length≤2000;rw[List.length_append,List.length_append,be_len,Req.bytes_len];show 0<8+_+32∧8+_+32≤2000;omega
 |2,_=>simp[Bod.putK,be_len]
 |3,_=>simp[Bod.putK,be_len]
 | 4, _ =>
  show 0<(be 8 x.view++[b8 x.q.length]++x.q.flatMap pairB).length∧(be 8 x.view++[b8 x.q.length]++x.q.flatMap pairB).length≤2000;rw[List.length_append,List.length_append,be_len,flat_pairB_len];show 0<8+1+_∧8+1+_≤2000;omega
 |5,_=>simp[Bod.putK,be_len]
 |6,_=>simp[Bod.putK,be_len,b32L]
theorem body_fn{x:Bod}(kind:Nat)(hk:x.kind.toNat=kind)(f1 f2 f3:FuncId)[Fun prog f1][Fun prog f2][Fun prog f3](hput:PutC f1 kind)(hget:GetC f2 kind)(hmay:MayC f3 kind)
  (hcod:getKV codecsM (kind:Int)=some (codecV f1 f2 f3)) (hq:QAt f q x.q) (hl:x.q.length≤1000000000) :
  Fn prog 234 [.agg (x.vals q qc).toArray] f F (Ret (.bool (x.mayP kind)) f F):=by
 refine AB func234 ntmps234 fun base=>?_;refine (qeT) fun xb=>?_;apply (gG);have hz:∀z,(getKV codecsM (kind:Int)).getD z=codecV f1 f2 f3:=fun z=>by rw[hcod];rfl
 have hi:(getKV codecsM (kind:Int)).isSome=true:=by rw[hcod];rfl
 have hkv:Value.int .u8 (x.kind.toNat:Nat)=encU8 (kind:Int):=by rw[hk];rfl
 refine H.cut (ι:=Nat) (fun i=>[(1,.pointer (some ⟨xb,0,none⟩)),(3,.pointer (some ⟨i,0,none⟩)),(4,.bool true)]) (fun _=>f) (fun i=>row i 293 (codecCells f1 f2 f3)::row xb 39 (x.vals q qc)::F) (fun _=>True) _ (fun i _=>?_) ?_
 ·by_cases h1 : x.view < 1073741824
  ·by_cases h2 : x.mayK kind = true
   ·have hm:∀A,Fn prog f3 [.agg (x.vals q qc).toArray] f A (Ret (.bool true) f A):=fun A=>by have:=hmay f A x q qc hq hl;rwa [h2]at this
    by_cases h3:x.q.length≤11
    ·repeat(first|(apply (gU))|(refine AD (ls:=x.vals q qc) rfl rfl rfl (Rd.ofRow jA) rfl rfl ?_)|(refine BM (fs:=[]) (cs:=[]) (vs:=[.agg (x.vals q qc).toArray]) rfl rfl rfl rfl (hm _) ?_))
     refine AJ (ls:=(Bod.zero 0).vals none 0) rfl rfl rfl fun yb=>?_;refine AC (ls:=(Bod.zero 0).vals none 0) (vs:=(Bod.zero x.kind).vals none 0) (ls':=(Bod.zero x.kind).vals none 0) rfl rfl rfl (zaa rfl) rfl rfl (Nat.le_refl 76) jA ?_;apply (qiC);apply (qex);apply A6 [0,1,2,3,4] 3;apply (gF);refine AH (ls:=x.vals q qc) rfl rfl rfl (Rd.ofRow jA) rfl rfl ?_;apply (qhC);refine E7 (fs:=[]) (cs:=[]) (vs:=[.slice none 0 0,.agg (x.vals q qc).toArray]) rfl rfl rfl rfl (hput f _ x q qc none 0 [] Src.nil (fun _=>rfl) hq h2 h3 jE) fun p1 c1=>?_;have hb:=putK_len x kind h2 h3;rw[List.nil_append]
     generalize hbs:x.putK kind=bs at hb⊢;have hbk:x.back kind=((⟨bs,false⟩:Cs).bodyK 32 128 x.kind kind).1:=by rw[←hbs];rfl
     apply (qiC);apply (qdO);apply A7 6;refine AO at2 hb.1 fun b1 hp=>?_;subst hp;refine AV rfl rfl rfl (octNew_fn f _ (Src.slcS at2 jH) (fun h=>by cases h) jB) fun v f' A' hr=>?_;obtain⟨g1,cb,p2,c2,rfl,hg1,hd1,rfl,rfl⟩:=hr;apply (qiC);refine H.on [] (Le.un _ _) rfl ?_;apply A7 7;have e:row yb 39 ((Bod.zero x.kind).vals none 0)=bodAt yb 39 [] [] (Bod.zero x.kind) none 0:=by unfold bodAt;rw[List.append_nil];rfl
     apply (qju);refine CE (.there _ (.there _ (.there _ (.here _ _)))) ?_;rw[e];refine EW (fs:=[]) (cs:=[]) (vs:=[.pointer (some ⟨cb,0,none⟩),.pointer (some ⟨yb,0,none⟩)]) rfl rfl rfl rfl (hget (un f g1) _ cb ⟨bs,false⟩ yb 39 [] [] x.kind (by show bs.length≤_;omega)) fun i2=>?_;rw[←hbk];generalize((⟨bs,false⟩:Cs).bodyK 32 128 x.kind kind).2=s2;apply (gA);apply (qju);apply (qju);apply (qhG);refine H.freeze (.there _ (.there _ (.there _ (.there _ (.here _ _))))) fun g2 hg2 hd2=>?_;have hq2:QAt (un (un f g1) g2) q x.q:=(hq.mono (Le.un f g1)).mono (Le.un _ g2);have hy2:QAt (un (un f g1) g2) i2.1 (x.back kind).q:=qs_qat hg2 hd2
     apply (gA);refine AD (ls:=x.vals q qc) rfl rfl rfl (Rd.ofRow jA) rfl rfl ?_;refine AD (ls:=(x.back kind).vals i2.1 i2.2) rfl rfl rfl (bodAt_rd (pre:=[]) (post:=[]) jA) rfl rfl ?_;refine A8 rfl rfl rfl (same_fn _ _ hq2 hy2 hl) ?_;apply (gK);refine H.thaw hg2 hd2 ?_;apply (qet);refine H.thaw hg1 hd1 ?_;repeat refine B4 (.here _ _) ?_
     refine AE rfl rfl iD ⟨?_,rfl,rfl⟩;simp[Bod.mayP,h1,h2,h3]
    ·exact qaM
   ·have hm:∀A,Fn prog f3 [.agg (x.vals q qc).toArray] f A (Ret (.bool false) f A):=fun A=>by have:=hmay f A x q qc hq hl;rwa [Bool.eq_false_iff.2 h2]at this
    exact qaM
  ·have hm:∀A,Fn prog f3 [.agg (x.vals q qc).toArray] f A (Ret (.bool (x.mayK kind)) f A):=fun A=>hmay f A x q qc hq hl;apply (qhT)
   apply (qet);refine AE rfl rfl iD ⟨?_,rfl,rfl⟩;simp[Bod.mayP, *]
 ·apply (qea);apply A6 [1,2] 8;apply (qdX);refine B9 (i:=0) (j:=7) jD rfl rfl ?_ ?_
  ·refine (qir) fun mb=>?_;apply (qfY);apply A6 [3,4,5,6] 3;apply (qjC);apply A7 7;refine (qgU) fun vb=>?_;apply (qiC);apply (qdO);exact qbt
  ·refine (qgU) fun vb=>?_;apply (qfi);apply A7 0;refine (qir) fun mb=>?_;apply (qfY);apply A6 [3,4,5,6] 2;apply (qjC);exact qbt
end
theorem zbq(d:Nat→Int){i:Nat}(h:i<11):(v11 d)[i]?=some (.int .u64 (d i)):=by
 match i,h with
 |0,_=>rfl
 |1,_=>rfl
 |2,_=>rfl
 |3,_=>rfl
 |4,_=>rfl
 |5,_=>rfl
 |6,_=>rfl
 |7,_=>rfl
 |8,_=>rfl
 |9,_=>rfl
 |10,_=>rfl
def maxTo(d:Nat→Int):Nat→Int
 |0=>d 0
 |i+1=>if maxTo d i<d (i+1)then d (i+1)else maxTo d i
theorem maxTo_le(d:Nat→Int)(B:Int):∀n,maxTo d n≤B↔∀i,i≤n→d i≤B
 |0=>⟨fun h i hi=>by rw[show i=0 by omega];exact h,fun h=>h 0 (Nat.le_refl _)⟩
 | n + 1 => by
  have ih:=maxTo_le d B n
  unfold maxTo
  constructor
  ·intro h i hi
   by_cases e:i=n+1
   ·subst e;split at h<;>omega
   ·exact ih.1 (by split at h<;>omega) i jB
  ·intro h
   have h1:=ih.2 fun i hi=>h i jB
   have h2:=h (n+1) (Nat.le_refl _)
   split<;>omega
variable {m:Msg} {mb:Nat}
theorem msg_deps(h:At A (row mb T (m.vals q qc)) A' (row mb T (m.vals q qc))):Rd f A mb (0+2) (v11 m.deps):=by
 have h1:=Rd.ofRow (f:=f) h;have e:m.vals q qc=[.int .i64 m.origin,.int .u64 m.number]++v11 m.deps++(m.body.vals q qc++b32 m.tag):=by unfold Msg.vals;simp only[List.append_assoc]
 exact qbL
theorem msg_body(h:At A (row mb T (m.vals q qc)) A' (row mb T (m.vals q qc))):Rd f A mb (0+13) (m.body.vals q qc):=by
 have h1:=Rd.ofRow (f:=f) h;have e:m.vals q qc=([.int .i64 m.origin,.int .u64 m.number]++v11 m.deps)++m.body.vals q qc++b32 m.tag:=rfl
 exact qbL
section
variable (f:Frag) (F:List HP)
theorem max_fn{b off:Nat}{d:Nat→Int}(hr:Rd f F b off (v11 d)):Fn prog 233 [.slice (some ⟨b,off,none⟩) 11 11] f F (Ret (.int .u64 (maxTo d 10)) f F):=by
 refine AB func233 ntmps233 fun base=>?_;apply (gE);refine CD (i:=0) rfl rfl rfl rfl jE rfl ?_;refine AL rfl rfl rfl (.of hr (i:=0) rfl) rfl ?_;apply (gK);refine AF (ι:=Nat) (fun i=>[(4,.int .i64 ((i+1:Nat):Int)),(3,.int .u64 (maxTo d i)),(0,.slice (some ⟨b,off,none⟩) 11 11)]) (fun _=>f) (fun _=>F) (fun i=>i≤10) (fun i=>10-i) 0 (Nat.zero_le _) fun i hi=>?_;have hi:i≤10:=hi;by_cases hlt:i<10
 ·apply (gN);refine CD (i:=i+1) rfl rfl rfl rfl jB rfl ?_;refine AL rfl rfl rfl (.of hr (zbq d jB)) rfl ?_;refine H.max2 (z:=maxTo d (i+1)) rfl rfl rfl rfl rfl ?_;apply (gD);exact qcO
 ·have:i=10:=jB
  subst this;apply (gE);exact qad
theorem body_none{x:Bod}(hcod:getKV codecsM (x.kind.toNat:Int)=none):Fn prog 234 [.agg (x.vals q qc).toArray] f F (Ret (.bool false) f F):=by
 refine AB func234 ntmps234 fun base=>?_;refine (qeT) fun xb=>?_;apply (gG);have hz:(getKV codecsM (x.kind.toNat:Int)).getD (.agg ([.nilFunc,.nilFunc,.nilFunc]:List Value).toArray)= .agg ([.nilFunc,.nilFunc,.nilFunc]:List Value).toArray:=by rw[hcod];rfl
 have hi:(getKV codecsM (x.kind.toNat:Int)).isSome=false:=by rw[hcod];rfl
 refine H.cut (ι:=Nat) (fun i=>[(1,.pointer (some ⟨xb,0,none⟩)),(3,.pointer (some ⟨i,0,none⟩)),(4,.bool false)]) (fun _=>f) (fun i=>row i 293 [.nilFunc,.nilFunc,.nilFunc]::row xb 39 (x.vals q qc)::F) (fun _=>True) _ (fun i _=>?_) ?_
 ·apply (gS);repeat refine B4 (.here _ _) ?_
  exact qad
 ·apply (qea);apply A6 [1,2] 8;apply (qdX);refine B9 (i:=0) (j:=7) jD rfl rfl ?_ ?_
  ·refine (qir) fun mb=>?_;apply (qfY);apply A6 [3,4,5,6] 3;apply (qjs);apply A7 7;refine (qgU) fun vb=>?_;apply (qiC);apply (qdO);exact qbm
  ·refine (qgU) fun vb=>?_;apply (qfi);apply A7 0;refine (qir) fun mb=>?_;apply (qfY);apply A6 [3,4,5,6] 2;apply (qjs);exact qbm
def Bod.mayB(x:Bod):Bool:=decide (1≤x.kind.toNat∧x.kind.toNat≤6)&&x.mayP x.kind.toNat
theorem bodyP_fn{x:Bod}(hq:QAt f q x.q)(hl:x.q.length≤1000000000):Fn prog 234 [.agg (x.vals q qc).toArray] f F (Ret (.bool x.mayB) f F):=by
 unfold Bod.mayB;generalize hk:x.kind.toNat=kind
 match kind,hk with
 |1,hk=>exact body_fn f F 1 hk _ _ _ put1 get1 may1 jZ hq hl
 |2,hk=>exact body_fn f F 2 hk _ _ _ put2 get2 may2 jZ hq hl
 |3,hk=>exact body_fn f F 3 hk _ _ _ put3 get3 may3 jZ hq hl
 |4,hk=>exact body_fn f F 4 hk _ _ _ put4 get4 may4 jZ hq hl
 |5,hk=>exact body_fn f F 5 hk _ _ _ put5 get5 may5 jZ hq hl
 |6,hk=>exact body_fn f F 6 hk _ _ _ put6 get6 may6 jZ hq hl
 | 0, hk =>
  rw[decide_eq_false jB,Bool.false_and];exact body_none f F (by rw[hk];rfl)
 | k + 7, hk =>
  rw[decide_eq_false jB,Bool.false_and];refine body_none f F ?_;rw[hk];refine(getKV_none codecsM _).2 ?_;simp only[codecsM,List.map_cons,List.map_nil,List.mem_cons,List.not_mem_nil,or_false];omega
def Msg.outer(m:Msg):Prop:=1≤m.origin∧m.origin≤11∧1≤m.number∧m.number≤65536∧m.deps (m.origin.toNat-1)=m.number-1∧maxTo m.deps 10≤65536
instance (m:Msg):Decidable m.outer:=by unfold Msg.outer;infer_instance
theorem may_fn(hq:QAt f q m.body.q)(hl:m.body.q.length≤1000000000):Fn prog 163 [.agg (m.vals q qc).toArray] f F (Ret (.bool (decide m.outer&&m.body.mayB)) f F):=by
 by_cases h1:1≤m.origin
 ·by_cases h2 : m.origin ≤ 11
  ·by_cases h3:1≤m.number
   ·by_cases h4:m.number≤65536
    ·by_cases h5:m.deps (m.origin.toNat-1)=m.number-1
     ·by_cases h6:maxTo m.deps 10≤65536
      ·try simp only[Bool.not_eq_true]at *
       refine AB func163 ntmps163 fun base=>?_;refine (qhF) fun mb=>?_;apply (qeM);repeat(first|(apply (gU))|(refine C4 (lo:=none) (hi:=none) (mx:=none) (lv:=0) (hv:=11) (mv:=11) rfl rfl rfl rfl rfl (fun h=>by cases h) jE jE jE rfl ?_)|(refine A8 rfl rfl rfl (max_fn f _ (off:=0+2) (d:=m.deps) (msg_deps jA)) ?_)|(refine AD (ls:=m.body.vals q qc) rfl rfl rfl (msg_body jA) rfl rfl ?_)|(refine A8 rfl rfl rfl (bodyP_fn f _ hq hl) ?_))
       exact qbp
      ·try simp only[Bool.not_eq_true]at *
       refine AB func163 ntmps163 fun base=>?_;refine (qhF) fun mb=>?_;apply (qeM);repeat(first|(apply (gU))|(refine C4 (lo:=none) (hi:=none) (mx:=none) (lv:=0) (hv:=11) (mv:=11) rfl rfl rfl rfl rfl (fun h=>by cases h) jE jE jE rfl ?_)|(refine A8 rfl rfl rfl (max_fn f _ (off:=0+2) (d:=m.deps) (msg_deps jA)) ?_))
       exact qbp
     ·try simp only[Bool.not_eq_true]at *
      refine AB func163 ntmps163 fun base=>?_;refine (qhF) fun mb=>?_;apply (qeM);apply (gN);exact qbp
    ·exact qao
   ·exact qao
  ·exact qao
 ·exact qao
end
def depsB(d:Nat→Int):Nat→List UInt8
 |0=>[]
 |i+1=>depsB d i++be 8 (d i)
theorem depsB_len(d:Nat→Int):∀n,(depsB d n).length=8*n
 |0=>rfl
 |n+1=>by simp only[depsB,List.length_append,be_len,depsB_len d n];omega
def Msg.tagged(m:Msg):List UInt8:=[b8 m.origin]++depsB m.deps 11++[m.body.kind]++m.body.put
def Msg.may(m:Msg):Bool:=decide m.outer&&m.body.may
def Msg.bytes(m:Msg):List UInt8:=if m.may=true then m.tagged else []
variable {ls:List Value}
theorem CB{b k:Nat}(hl:ls.length=k*sz)(hk:k≤9223372036854775807)
  (h:H P base n L f (slc (some ⟨b,0,none⟩) k k T sz ls::A) K):H P base n L f (row b T ls::A) K:=
 H.imp (A':=slc (some ⟨b,0,none⟩) k k T sz ls::A) (fun x ⟨m1,m2,d,e,a,r⟩=>⟨m1,m2,d,e,row_slc hl hk a,r⟩) h
theorem b8_small{z:Int}(h:0≤z∧z<256):((b8 z).toNat:Int)=z:=by
 unfold b8;exact qcY
theorem quo_len:∀(q:List (Int×Int)) (w:Int),w≤11→quo w q=true→(q.length:Int)≤11-w
 | [],w,hw,_=>by simp;omega
 | p :: r, w, hw, h => by
  unfold quo at h
  split at h
  ·cases h
  ·have ih:=quo_len r p.1 jB h
   rw[List.length_cons];omega
theorem Bod.may_spec{x:Bod}(h:x.may=true):Bod.eqB x.own x=true∧x.view<1073741824∧x.mayK x.kind.toNat=true:=by
 unfold Bod.may at h;simp only[Bool.and_eq_true,decide_eq_true_eq]at h;exact⟨h.1.1,h.1.2,h.2⟩
theorem Bod.eqB_q{a b:Bod}(h:Bod.eqB a b=true):a.q=b.q:=by
 unfold Bod.eqB at h;simp only[Bool.and_eq_true,decide_eq_true_eq]at h;exact h.1.2
theorem Bod.may_q{x:Bod}(h:x.may=true):x.q.length≤11:=by
 obtain⟨h1,h2,h3⟩:=Bod.may_spec h;have h4:=Bod.eqB_q h1;unfold Bod.own at h4
 generalize hk:x.kind.toNat=k at h3 h4
 match k,h3,h4 with
 |0,h3,_=>exact absurd h3 jW
 |1,_,h4=>have h4:[]=x.q:=h4;rw[←h4];exact Nat.zero_le _
 |2,_,h4=>have h4:[]=x.q:=h4;rw[←h4];exact Nat.zero_le _
 |3,_,h4=>have h4:[]=x.q:=h4;rw[←h4];exact Nat.zero_le _
 |5,_,h4=>have h4:[]=x.q:=h4;rw[←h4];exact Nat.zero_le _
 |6,_,h4=>have h4:[]=x.q:=h4;rw[←h4];exact Nat.zero_le _
 |k+7,h3,_=>exact absurd h3 jW
 | 4, h3, _ =>
  simp only[Bod.mayK,Bool.and_eq_true,decide_eq_true_eq]at h3
  have:=quo_len x.q 0 jB h3.2.1;omega
theorem Msg.may_body(h:m.may=true):m.body.may=true:=by
 unfold Msg.may at h;simp only[Bool.and_eq_true]at h;exact h.2
section
variable (f:Frag) (F:List HP)
end
theorem b32_get(t:Nat→UInt8){i:Nat}(h:i<32):(b32 t)[i]?=some (.int .u8 ((t i).toNat:Nat)):=by
 match i,h with
 |0,_=>rfl
 |1,_=>rfl
 |2,_=>rfl
 |3,_=>rfl
 |4,_=>rfl
 |5,_=>rfl
 |6,_=>rfl
 |7,_=>rfl
 |8,_=>rfl
 |9,_=>rfl
 |10,_=>rfl
 |11,_=>rfl
 |12,_=>rfl
 |13,_=>rfl
 |14,_=>rfl
 |15,_=>rfl
 |16,_=>rfl
 |17,_=>rfl
 |18,_=>rfl
 |19,_=>rfl
 |20,_=>rfl
 |21,_=>rfl
 |22,_=>rfl
 |23,_=>rfl
 |24,_=>rfl
 |25,_=>rfl
 |26,_=>rfl
 |27,_=>rfl
 |28,_=>rfl
 |29,_=>rfl
 |30,_=>rfl
 |31,_=>rfl
 |n+32,h=>exact absurd h jB
theorem tmod64(n m:Nat):((n:Int)).tmod (m:Int)=((n % m:Nat):Int):=rfl
theorem tdiv64(n m:Nat):((n:Int)).tdiv (m:Int)=((n / m:Nat):Int):=rfl
namespace Sha
theorem pad_not{i:Nat}(h:i<padZ n):(n+1+i) % 64≠56:=by
 unfold padZ at h;omega
theorem pad_is(n:Nat):(n+1+padZ n) % 64=56:=by
 unfold padZ;omega
end Sha
section
variable (f:Frag) (F:List HP)
def zb(n:Nat):List Value:=List.replicate n (.int .u8 0)
end
theorem Fn.frozen{F':List HP}{x:HP}(h:∀g,x g→Dj f g→Fn P fid args (un f g) F (Ret v (un f g) F')):Fn P fid args f (x::F) (Ret v f (x::F')):=fun base w s=>by
 obtain⟨g,hx,hd,s'⟩:=s.freeze (.here F x)
 refine(h g hx hd base w s').mono ?_
 rintro e w' ⟨u,f',A',rfl,⟨rfl,rfl,rfl⟩,s2⟩
 exact⟨_,f,_,rfl,⟨rfl,rfl,rfl⟩,s2.thaw hx hd⟩
theorem row_bat{b:Nat}(h:row b T (bytesV l) g)(hd:Dj f g):BAt (un f g) (some ⟨b,0,none⟩) l:=by
 have hg:g=sing b (.cells (bytesV l).toArray T (0,0)):=h;refine .inr ⟨b,0,(bytesV l).toArray,T,(0,0),rfl,?_,fun i hi=>by simp⟩
 exact qbU
theorem fill_splice{a z:List Value}{i k:Nat}(hz:z.length=a.length)(h:i+k≤a.length):splice (a.take i++z.drop i) i ((a.drop i).take k)=a.take (i+k)++z.drop (i+k):=by
 have hl:(a.take i).length=i:=by rw[List.length_take];omega
 have hk:((a.drop i).take k).length=k:=by rw[List.length_take,List.length_drop];omega
 have d1:(a.take i++z.drop i).drop (i+k)=z.drop (i+k):=by
  rw[List.drop_append,hl,@List.drop_eq_nil_of_le _ (a.take i) (i+k) (by rw[hl];omega),List.nil_append,List.drop_drop];congr 1;omega
 have t1:(a.take i++z.drop i).take i=a.take i:=by rw[List.take_append_of_le_length jB,List.take_of_length_le jB]
 unfold splice;rw[hk,t1,d1,List.take_add]
theorem padZ_lt(n:Nat):Sha.padZ n<64:=by unfold Sha.padZ;omega
theorem zbl{vs:List Value}(h:vs.length=ls.length):splice ls 0 vs=vs:=by
 unfold splice;rw[List.take_zero,List.nil_append,Nat.zero_add,h,List.drop_length,List.append_nil]
theorem hRow_one(s:Sha.S8)(part:List UInt8)(n all:Nat):∀v∈hRow s part n all,one v=true:=fun v hv=>by
 unfold hRow at hv
 rw[List.mem_append,List.mem_append]at hv
 rcases hv with(hv|hv)|hv
 ·exact zaa (l:=s.vals) rfl v hv
 ·exact zao part v hv
 ·exact zaa (l:=[.int .i64 (n:Nat),.int .u64 (all:Nat)]) rfl v hv
def endB(b:List UInt8)(j:Nat):List UInt8:=b++[0x80]++List.replicate j 0
theorem endB_len(b:List UInt8)(j:Nat):(endB b j).length=b.length+1+j:=by
 unfold endB;rw[List.length_append,List.length_append,List.length_replicate];rfl
theorem endB_succ(b:List UInt8)(j:Nat):endB b j++[0]=endB b (j+1):=by
 unfold endB;rw[List.append_assoc,List.replicate_succ']
theorem HSt.n_eq(h:HSt b s part n):n=b.length % 64:=by
 obtain⟨⟨q,h1,_,_⟩,h4,_⟩:=h;omega
theorem HSt.s_eq(h:HSt b s part n):s=Sha.blocks Sha.start b (b.length / 64):=by
 obtain⟨⟨q,h1,h2,_⟩,h4,_⟩:=h;rw[h2];congr 1;omega
def four(x:UInt32):List UInt8:=[(x >>> (UInt32.ofNat 24)).toUInt8,(x >>> (UInt32.ofNat 16)).toUInt8,(x >>> (UInt32.ofNat 8)).toUInt8,x.toUInt8]
theorem shr0(x:UInt32):x >>> (UInt32.ofNat 0)=x:=by
 apply UInt32.toBitVec_inj.1;simp
theorem four_out(s:Sha.S8){i:Nat}(h:i<8):four (s.get i)=((b32L s.out).drop (4*i)).take 4:=by
 match i,h with
 |0,_=>show _=[s.out 0,s.out 1,s.out 2,s.out 3];unfold four Sha.S8.out;rw[show(24-8*(3 % 4))=0 from rfl,shr0]
 |1,_=>show _=[s.out 4,s.out 5,s.out 6,s.out 7];unfold four Sha.S8.out;rw[show(24-8*(7 % 4))=0 from rfl,shr0]
 |2,_=>show _=[s.out 8,s.out 9,s.out 10,s.out 11];unfold four Sha.S8.out;rw[show(24-8*(11 % 4))=0 from rfl,shr0]
 |3,_=>show _=[s.out 12,s.out 13,s.out 14,s.out 15];unfold four Sha.S8.out;rw[show(24-8*(15 % 4))=0 from rfl,shr0]
 |4,_=>show _=[s.out 16,s.out 17,s.out 18,s.out 19];unfold four Sha.S8.out;rw[show(24-8*(19 % 4))=0 from rfl,shr0]
 |5,_=>show _=[s.out 20,s.out 21,s.out 22,s.out 23];unfold four Sha.S8.out;rw[show(24-8*(23 % 4))=0 from rfl,shr0]
 |6,_=>show _=[s.out 24,s.out 25,s.out 26,s.out 27];unfold four Sha.S8.out;rw[show(24-8*(27 % 4))=0 from rfl,shr0]
 |7,_=>show _=[s.out 28,s.out 29,s.out 30,s.out 31];unfold four Sha.S8.out;rw[show(24-8*(31 % 4))=0 from rfl,shr0]
def outRow(t:Nat→UInt8)(i:Nat):List Value:=(bytesV (b32L t)).take i++(List.replicate 32 (.int .u8 0)).drop i
theorem outRow_splice(s:Sha.S8){i:Nat}(h:i<8):splice (outRow s.out (4*i)) (4*i) (bytesV (four (s.get i)))=outRow s.out (4*(i+1)):=by
 rw[four_out s h];unfold outRow;have e:bytesV (((b32L s.out).drop (4*i)).take 4)=((bytesV (b32L s.out)).drop (4*i)).take 4:=by unfold bytesV;rw[List.map_take,List.map_drop]
 rw[e,fill_splice (by rw[List.length_replicate];rfl) (by show 4*i+4≤32;omega),show 4*(i+1)=4*i+4 by omega]
section
variable (f:Frag) (F:List HP)
theorem swriteO_fn(htab:TabAt f){c:List UInt8}(hcap:c.length≤cap)(hl:b.length+c.length≤1000000000000):Fn prog 318 [.pointer (some ⟨hb,0,none⟩),.slice (some ⟨cb,0,none⟩) c.length cap] f (row cb T (bytesV c)::hashH hb b::F) (Ret (.tuple #[]) f (row cb T (bytesV c)::hashH hb (b++c)::F)):=
 Fn.frozen fun g hg hd=>swrite_fn (un f g) F (IntsAt.mono (Le.un f g) htab) (row_bat hg hd) hcap hl
theorem hsum_fn(htab:TabAt f)(hl:b.length≤1000000000):Fn prog 319 [.pointer (some ⟨hb,0,none⟩)] f (hashH hb b::F) (Ret (.agg (b32 (Sha.sum b)).toArray) f (hashH hb b::F)):=by
 have e1:IntKind.u64.wrap (((b.length:Nat):Int)*8)=((b.length*8:Nat):Int):=by rw[wr_u64 jB];omega
 have hpad:=padZ_lt b.length;refine AB func319 ntmps319 fun base=>?_
 apply (gA);refine AJ (ls:=outRow (Sha.sum b) 0) rfl rfl rfl fun ob=>?_;apply (gA);refine AW rfl rfl rfl (snew_fn f _) fun eb=>?_;apply (gP);refine AM fun i0 hi0=>?_;obtain⟨s1,part1,n1⟩:=i0;have hi0:HSt [] s1 part1 n1:=hi0;apply A3 (hashH hb b)
 refine AM fun i1 hi1=>?_;obtain⟨s0,part0,n0⟩:=i1;have hi1:HSt b s0 part0 n0:=hi1;show H _ _ _ _ _ (row hb _ (hRow s0 part0 n0 b.length)::_) _
 refine AD (ls:=hRow s0 part0 n0 b.length) rfl rfl rfl (Rd.ofRow jA) (hRow_len _ _ _ _ hi1.len) rfl ?_;refine H.imp (hashH_fold hi1) ?_;apply (qed);apply (qel);show H _ _ _ _ _ (row eb _ (hRow s1 part1 n1 0)::_) _;apply (gG);refine AC (ls:=hRow s1 part1 n1 0) (vs:=hRow s0 part0 n0 b.length) (ls':=hRow s0 part0 n0 b.length) rfl rfl rfl (hRow_one _ _ _ _) (hRow_len _ _ _ _ hi1.len) (zbl (by rw[hRow_len _ _ _ _ hi1.len,hRow_len _ _ _ _ hi0.len])) (by rw[hRow_len _ _ _ _ hi1.len,hRow_len _ _ _ _ hi0.len];decide) jA ?_;repeat(first|(refine AL rfl rfl rfl (.at0 (Rd.ofRow jA) (hRow_all s0 part0 n0 b.length hi1.len)) rfl ?_)|(apply BC;(iterate 4 exact rfl);exact e1;exact rfl)|(apply (gU)))
 apply (qel);refine H.imp (hashH_fold hi1) ?_;refine AS (out:=bytesV [0x80]) rfl rfl rfl rfl jE jE rfl rfl fun cb=>?_;refine A8 rfl rfl rfl (swriteO_fn f _ htab (c:=[0x80]) (Nat.le_refl 1) (by show b.length+1≤_;omega)) ?_;apply (qet);clear hi0 hi1;apply (gK)
 refine H.loop (ι:=Nat) (fun j=>[(3,.pointer (some ⟨eb,0,none⟩)),(2,.pointer (some ⟨ob,0,none⟩)),(4,.int .u64 ((b.length*8:Nat):Int))]) (fun _=>f)
  (fun j=>hashH eb (endB b j)::row ob 32 (outRow (Sha.sum b) 0)::hashH hb b::F) (fun j=>j≤Sha.padZ b.length) (fun j=>Sha.padZ b.length-j) 0 (Nat.zero_le _) ⟨rfl,rfl,rfl,trivial⟩ rfl (by rw[show endB b 0=b++[0x80]from List.append_nil _]) fun j hj=>?_
 have hj:j≤Sha.padZ b.length:=hj;refine AM fun i1 hi1=>?_
 obtain⟨s0,part0,n0⟩:=i1;have hi1:HSt (endB b j) s0 part0 n0:=hi1;have hn:=hi1.n_eq
 rw[endB_len]at hn;show H _ _ _ _ _ (row eb _ (hRow s0 part0 n0 (endB b j).length)::_) _;by_cases hlt:j<Sha.padZ b.length
 ·have hne:n0≠56:=by rw[hn];exact Sha.pad_not hlt
  apply (qhE);refine AS (out:=bytesV [0]) rfl rfl rfl rfl jE jE rfl rfl fun cb=>?_;refine A8 rfl rfl rfl (swriteO_fn f _ htab (c:=[0]) (Nat.le_refl 1) (by rw[endB_len];show b.length+1+j+1≤_;omega)) ?_;apply (qet);apply (gK);exact AX (j+1) (by show j+1≤_;omega) (by show Sha.padZ b.length-(j+1)<Sha.padZ b.length-j;omega) ⟨rfl,rfl,rfl,trivial⟩ rfl (by rw[endB_succ];rfl)
 ·have hjp:j=Sha.padZ b.length:=jB
  have hne:n0=56:=by rw[hn,hjp];exact Sha.pad_is _
  apply (qhE);rw[hjp];clear hi1 hn hne hlt hj hjp;have hel:=endB_len b (Sha.padZ b.length)
  refine H.loop (ι:=Nat) (fun i=>[(5,.int .i64 (7-(i:Int))),(3,.pointer (some ⟨eb,0,none⟩)),(2,.pointer (some ⟨ob,0,none⟩)),(4,.int .u64 ((b.length*8:Nat):Int))]) (fun _=>f)
   (fun i=>hashH eb (endB b (Sha.padZ b.length)++beTop 8 ((b.length*8:Nat):Int) i)::row ob 32 (outRow (Sha.sum b) 0)::hashH hb b::F) (fun i=>i≤8) (fun i=>8-i) 0 (Nat.zero_le _) ⟨rfl,rfl,rfl,rfl,trivial⟩ rfl (by rw[show beTop 8 ((b.length*8:Nat):Int) 0=[]from rfl,List.append_nil];rfl) fun i hi=>?_
  have hi:i≤8:=hi;show H _ _ _ ((5,.int .i64 (7-(i:Int)))::_) _ _ _
  generalize hbits:((b.length*8:Nat):Int)=nb at *;by_cases hlt:i<8
  ·have e2:IntKind.i64.wrap (8*(7-(i:Int)))=8*(7-(i:Int)):=wr_i64 jB;have hexp:min (8*(7-(i:Int))).toNat IntKind.u64.bits=8*(8-1-i):=by simp only[IntKind.bits];omega
   have hsh:nb.fdiv (2 ^ (min (8*(7-(i:Int))).toNat IntKind.u64.bits))=nb.fdiv (2 ^ (8*(8-1-i))):=by rw[hexp]
   repeat(first|(apply BC;(iterate 4 exact rfl);exact e2;exact rfl)|(apply (gU)))
   refine H.shift rfl rfl rfl rfl jB hsh rfl ?_;refine BL rfl rfl (byteAt_wrap nb (8-1-i)) rfl ?_;refine AS (out:=bytesV [byteAt nb (8-1-i)]) rfl rfl rfl rfl jE jE rfl rfl fun cb=>?_;refine A8 rfl rfl rfl (swriteO_fn f _ htab (c:=[byteAt nb (8-1-i)]) (Nat.le_refl 1) (by rw[List.length_append,hel,beTop_len];show _+1≤_;omega)) ?_;apply (qet);apply (gD);refine H.know (d:=5) (u:=.int .i64 (7-((i+1:Nat):Int))) rfl (congrArg (Value.int .i64) jB) ?_;exact AX (i+1) kN js ⟨rfl,rfl,rfl,rfl,trivial⟩ rfl (by show _=hashH eb (endB b (Sha.padZ b.length)++(beTop 8 nb i++[byteAt nb (8-1-i)]))::_;rw[List.append_assoc])
  ·have hi8:i=8:=jB
   subst hi8;apply (gT);refine AM fun i1 hi1=>?_;obtain⟨s0,part0,n0⟩:=i1;have hi1:HSt (endB b (Sha.padZ b.length)++beTop 8 nb 8) s0 part0 n0:=hi1;have hpd:endB b (Sha.padZ b.length)++beTop 8 nb 8=Sha.padded b:=by rw[←hbits];rfl
   have hs:=hi1.s_eq;rw[hpd]at hs
   have hsum:Sha.sum b=s0.out:=by rw[hs];rfl
   rw[hsum];show H _ _ _ _ _ (row eb _ (hRow s0 part0 n0 _)::_) _;repeat(first|(refine AD (ls:=s0.vals) rfl rfl rfl (hRow_rds jA) rfl rfl ?_)|(apply (gU)))
   clear hs hsum hpd hi1;apply (qeZ)
   refine AF (ι:=Nat) (fun i=>[(48,.int .i64 (i:Int)),(47,.agg s0.vals.toArray),(2,.pointer (some ⟨ob,0,none⟩))]) (fun _=>f)
    (fun i=>row ob 32 (outRow s0.out (4*i))::hashH hb b::F) (fun i=>i≤8) (fun i=>8-i) 0 (Nat.zero_le _) fun i hi=>?_
   have hi:i≤8:=hi;by_cases hlt:i<8
   ·have hg2:=Sha.S8.get_vals s0 hlt;have hset:=outRow_splice s0 hlt
    have e4:IntKind.i64.wrap (4*(i:Int))=((4*i:Nat):Int):=by rw[wr_i64 jB];omega
    show H _ _ _ _ _ (row ob _ (outRow s0.out (4*i))::_) _;generalize s0.get i=x at hg2 hset;repeat(first|(apply BC;(iterate 4 exact rfl);exact e4;exact rfl)|(apply (gU))|(apply CW (i:=i);(iterate 4 exact rfl);exact hlt;exact rfl;exact hg2;exact rfl))
    refine C4 (lo:=some (.tmp 53)) (mx:=none) (hi:=none) (lv:=4*i) (hv:=32) (mv:=32) rfl rfl ⟨_,_,rfl,rfl⟩ rfl rfl (fun h=>by cases h) jB jB jE rfl ?_;rw[slP_ne jB];apply (gG);refine H.shift (op:=.shr) rfl rfl rfl (u32_shr x 24 jE) jE rfl rfl ?_;refine BL rfl rfl (u8_ofU32 _) rfl ?_;apply (gG);refine H.shift (op:=.shr) rfl rfl rfl (u32_shr x 16 jE) jE rfl rfl ?_;refine BL rfl rfl (u8_ofU32 _) rfl ?_;apply (gG);refine H.shift (op:=.shr) rfl rfl rfl (u32_shr x 8 jE) jE rfl rfl ?_;refine BL rfl rfl (u8_ofU32 _) rfl ?_;repeat(first|(refine BL rfl rfl (u8_ofU32 x) rfl ?_)|(apply (gU)))
    refine AS (out:=bytesV (four x)) rfl rfl rfl rfl jE jE rfl rfl fun cb=>?_
    refine H.copy (k0:=4) (m:=4) (cs:=bytesV (four x)) (ls:=outRow s0.out (4*i)) (ls':=outRow s0.out (4*(i+1))) rfl rfl rfl rfl
     (Src.slice (P:=prog) (f:=f) (A:=[row cb 5 (bytesV (four x))]) (sz:=1) (m:=4) (Rd.ofRow jA) rfl).len (Nat.min_eq_left jB) (Src.slice (m:=4) (Rd.ofRow jA) rfl).copy
     (by rw[show 0+4*i*1=4*i by omega];exact hset) (by show 0+4*i*1+4≤_;unfold outRow;rw[List.length_append,List.length_take,List.length_drop,List.length_replicate];show _≤min _ 32+_;omega) (zao _) jA ?_
    apply (gD);apply A4 (row cb _ _);exact qbn
   ·have hi8:i=8:=jB
    subst hi8;apply (gE);refine AD (ls:=b32 s0.out) rfl rfl rfl (Rd.ofRow jA) rfl rfl ?_;refine AC (ls:=b32 s0.out) (vs:=b32 s0.out) (ls':=b32 s0.out) rfl rfl rfl (zaa rfl) rfl rfl (Nat.le_refl 32) jA ?_;apply (gK);exact qav
end
theorem u8_bv(x:UInt8):BitVec.ofInt 8 (x.toNat:Int)=x.toBitVec:=by
 simp[BitVec.ofInt_natCast]
theorem u8_wrapN(x:UInt8):IntKind.u8.wrap ((x.toNat:Nat):Int)=(x.toNat:Int):=by
 have:=x.toNat_lt;rw[wr_u8 jB]
theorem u8_xor(x y:UInt8):bitsI .xor .u8 (x.toNat:Int) (y.toNat:Int)=some (((x ^^^ y).toNat:Nat):Int):=by
 have e:(BitVec.ofInt 8 (x.toNat:Int) ^^^ BitVec.ofInt 8 (y.toNat:Int)).toNat=(x ^^^ y).toNat:=by rw[u8_bv,u8_bv];rfl
 show some (IntKind.u8.wrap ((BitVec.ofInt 8 (x.toNat:Int) ^^^ BitVec.ofInt 8 (y.toNat:Int)).toNat:Int))=_;rw[e,u8_wrapN]
variable {key:List UInt8}
namespace Sha
def full(key:List UInt8):List UInt8:=key++List.replicate (64-key.length) 0
def turn(key:List UInt8)(t:UInt8):List UInt8:=(full key).map (· ^^^ t)
def hmac(key b:List UInt8):Nat→UInt8:=sum (turn key 0x5c++b32L (sum (turn key 0x36++b)))
def word32(word:List UInt8)(i:Int):List UInt8:=b32L (sum (word++be 8 i))
def replicaW:List UInt8:=[114,97,116,99,104,101,116,32,114,101,112,108,105,99,97]
def numbered(i n:Int)(b:List UInt8):Nat→UInt8:=hmac (word32 replicaW i) (be 8 n++b)
theorem full_len(h:key.length≤64):(full key).length=64:=by
 unfold full;rw[List.length_append,List.length_replicate];omega
theorem turn_len(h:key.length≤64)(t:UInt8):(turn key t).length=64:=by
 unfold turn;rw[List.length_map,full_len h]
end Sha
section
variable (f:Frag) (F:List HP)
def Msg.signed(m:Msg):Msg:=if m.may=true then {m with tag:=Sha.numbered m.origin m.number m.tagged}else m
end
section rules
variable {P:Program} {base:World} {n:Nat} {L:Env} {f:Frag} {A:List HP} {q:Post}
variable {l rest:List Oper} {d:Nat} {ty:TypeId} {pos:String} {af:Array Edge} {gd:Option (Nat × Bool)}
theorem Eh{kl kc:IntKind}{u v:Int}{m bytes:Nat}{zs:List Value}[hu:Und P t (.slice e)][hsz:Siz P e sz][hb:Byt P e bytes][hz:Zer P e z](hw:want? l L gd=true)
  (hx:ev? L x=some (.int kl u)) (hy:ev? L y=some (.int kc v)) (hum:u=(m:Nat)) (hvm:v=(m:Nat)) (hzs:cellsL z=zs) (h0:zs.length=sz) (h1:0<sz) (hm:bytes*m≤281474976710656) (h63:m≤9223372036854775807) (hd:Nat.ble (d+1) n=true)
  (k:∀b,H P base n ((d,.slice (some ⟨b,0,none⟩) m m)::L) f (row b e (zeros zs m)::A) (.ops l rest q)):H P base n L f A (.ops l (⟨some d,.makeSlice t x y,ty,pos,af,gd⟩::rest) q):=
 C0 (fun b=>.slice (some ⟨b,0,none⟩) m m) (fun _=>f) (fun b=>row b e (zeros zs m)::A) (fun _=>True) hw hd (fun a w hfr s=>by
  subst hzs;subst h0;subst hum;subst hvm
  obtain⟨i,hi,hi1,hi2,hi3⟩:=info_of hsz hb hz
  have h4:z.cells=(cellsL z).toArray:=by rw[←cellsL_eq]
  have e1:=zeros_array (cellsL z) m h1
  refine⟨w.heap.size,w.alloc (.cells (zeros (cellsL z) m).toArray e (0,0)),trivial,?_,s.alloc rfl rfl rfl rfl⟩
  have hbm:((bytes*m:Nat):Int)≤281474976710656:=jB
  rw[Int.natCast_mul]at hbm
  have hr:=run_make (P:=P) w t e i z hu.eq hi hi3 kl kc (m:Int) (m:Int) jB (Int.le_refl _) (by rw[hi2];exact hbm) jB
  rw[Int.toNat_natCast,hi1,h4]at hr
  unfold madeCells at hr
  rw[e1]at hr
  show Sem.run P (Instr.makeSlice t (a.eval x) (a.eval y) >>= fun v=>pure (Next.value v)) w=_
  simp only[hfr.eval hx,hfr.eval hy,Sem.run_bind,hr,Result.andThen_ok,Sem.run_pure]) (fun b _=>k b)
end rules
theorem strRow_bat{b:Nat}{s:ByteArray}(h:strRow b s c T g)(hd:Dj f g):BAt (un f g) (some ⟨b,0,none⟩) s.data.toList:=by
 have hg:g=sing b (.cells (bytesRow s c) T ((bytesRow s c).size,(bytesRow s c).size+1)):=h;refine .inr ⟨b,0,bytesRow s c,T,((bytesRow s c).size,(bytesRow s c).size+1),rfl,?_,fun i hi=>?_⟩
 ·exact qbU
 ·rw[Nat.zero_add];exact bytesRow_get s c (by rw[data_len]at hi;exact hi)
theorem zeros_one(z:Value):∀n:Nat,zeros [z] n=List.replicate n z
 |0=>rfl
 |n+1=>by rw[List.replicate_succ,←zeros_one z n];rfl
def parts2(a b:List UInt8):Nat→List UInt8
 |0=>[]
 |1=>a
 |_=>a++b
def pt2(pb:Nat)(p:Option Addr)(m c:Nat)(q:Option Addr)(k d:Nat):HP:=row pb 46 [.slice p m c,.slice q k d]
variable {a:List UInt8} {pb:Nat}
section
variable (f:Frag) (F:List HP)
theorem tdig_fn(htab:TabAt f)(ha:BAt f p a)(hb:BAt f q b)(hc:a.length≤c)(hd:b.length≤d)(hl:a.length+b.length≤100000000):Fn prog 263 [.slice (some ⟨pb,0,none⟩) 2 2] f (pt2 pb p a.length c q b.length d::F) (Ret (.agg (b32 (Sha.sum (a++b))).toArray) f (pt2 pb p a.length c q b.length d::F)):=by
 unfold pt2;refine AB func263 ntmps263 fun base=>?_;apply (gA);refine (qfv) fun ob=>?_;apply (gA);refine AW rfl rfl rfl (snew_fn f _) fun hb'=>?_;apply (gK)
 refine AF (ι:=Nat) (fun i=>[(9,.int .i64 (i:Int)),(8,.int .i64 ((2:Nat):Int)),(7,.slice (some ⟨pb,0,none⟩) 2 2),(3,.pointer (some ⟨hb',0,none⟩)),(2,.pointer (some ⟨ob,0,none⟩))]) (fun _=>f)
  (fun i=>hashH hb' (parts2 a b i)::row ob 32 (zb 32)::row pb 46 [.slice p a.length c,.slice q b.length d]::F) (fun i=>i≤2) (fun i=>2-i) 0 (Nat.zero_le _) fun i hi=>?_
 have hi:i≤2:=hi
 match i,hi with
 | 0, _ =>
  apply (qik);apply (gG);refine A8 rfl rfl rfl (swrite_fn f _ htab (b:=[]) ha hc (by show 0+a.length≤_;omega)) ?_;apply (gD);exact AI 1 jE jE
 | 1, _ =>
  apply (qig);apply (gG);refine A8 rfl rfl rfl (swrite_fn f _ htab (b:=a) hb hd jB) ?_;apply (gD);exact AI 2 jE jE
 | 2, _ =>
  have e2:a++b=parts2 a b 2:=rfl;have hpl:(parts2 a b 2).length≤1000000000:=by show(a++b).length≤_;rw[List.length_append];omega
  rw[e2];show H _ _ _ _ _ (hashH hb' (parts2 a b 2)::_) _;generalize parts2 a b 2=ab at hpl⊢;apply (gE);refine A8 rfl rfl rfl (hsum_fn f _ htab (b:=ab) hpl) ?_;refine AC (ls:=zb 32) (vs:=b32 (Sha.sum ab)) (ls':=b32 (Sha.sum ab)) rfl rfl rfl (zaa rfl) rfl rfl (Nat.le_refl 32) jA ?_;exact qdu
theorem turned_fn{t:UInt8}(hk:BAt f p key)(hl:key.length≤64):Fn prog 275 [.slice p key.length c,.int .u8 (t.toNat:Nat)] f F (BytesR (Sha.turn key t) f F):=by
 have hfirst:=fun A=>BAt.first (P:=prog) (A:=A) (c:=c) hk (Nat.le_refl _);rw[List.take_length]at hfirst
 have hlen:=(BAt.src (P:=prog) (A:=[]) (c:=c) hk).len
 have hspl:splice (zb 64) 0 (bytesV key)=bytesV (Sha.full key):=by
  unfold splice Sha.full zb;rw[List.take_zero,List.nil_append,zak,zab,Nat.zero_add,List.drop_replicate];congr 1;unfold bytesV;rw[List.map_replicate];rfl
 have hfl:=Sha.full_len hl;have htl:=Sha.turn_len hl t
 have hget:∀i,i<64→(Sha.turn key t).getD i 0=(Sha.full key).getD i 0 ^^^ t:=fun i hi=>by
  unfold Sha.turn;rw[List.getD_eq_getElem?_getD,List.getElem?_map,List.getElem?_eq_getElem (by rw[hfl];exact hi),List.getD_eq_getElem?_getD,List.getElem?_eq_getElem (by rw[hfl];exact hi)];rfl
 refine A9 func275 ntmps275 fun base=>?_;apply (gN);refine Eh (m:=64) (zs:=[.int .u8 0]) rfl rfl rfl rfl rfl rfl rfl jE jE jE rfl fun rb=>?_;rw[show zeros [Value.int .u8 0] 64=zb 64 from zeros_one _ _];apply (gG);refine H.copy (k0:=key.length) (m:=key.length) (cs:=bytesV key) (ls:=zb 64) (ls':=bytesV (Sha.full key)) rfl rfl rfl rfl hlen (Nat.min_eq_left hl) (hfirst _) hspl (by rw[zab,show(zb 64).length=64 from List.length_replicate];omega) (zao _) jA ?_;refine CB (k:=64) (sz:=1) (by rw[zab,hfl]) jE ?_;generalize Sha.full key=K at hfl hget hspl⊢;generalize Sha.turn key t=T at htl hget⊢;apply (gK)
 refine AF (ι:=Nat) (fun i=>[(19,.int .i64 (i:Int)),(6,.slice (some ⟨rb,0,none⟩) 64 64),(1,.int .u8 (t.toNat:Nat))]) (fun _=>f)
  (fun i=>slc (some ⟨rb,0,none⟩) 64 64 5 1 ((bytesV T).take i++(bytesV K).drop i)::F) (fun i=>i≤64) (fun i=>64-i) 0 (Nat.zero_le _) fun i hi=>?_
 have hi:i≤64:=hi;have hTK:(bytesV T).length=(bytesV K).length:=by rw[zab,zab,hfl,htl]
 by_cases hli:i<64
 ·have hset:SetV ((bytesV T).take i++(bytesV K).drop i) i (.int .u8 ((K.getD i 0 ^^^ t).toNat:Nat)) ((bytesV T).take (i+1)++(bytesV K).drop (i+1)):=by
   rw[←hget i hli];exact fill_set (bytesV_get jB) hTK
  have hg:((bytesV T).take i++(bytesV K).drop i)[i]?=some (.int .u8 ((K.getD i 0).toNat:Nat)):=fill_get2 (Nat.le_refl _) hTK (bytesV_get jB);show H _ _ _ _ _ (slc _ _ _ _ _ ((bytesV T).take i++(bytesV K).drop i)::_) _
  apply (gN);refine CD (i:=i) rfl rfl rfl rfl jB rfl ?_;refine AL rfl rfl rfl (.of (Rd.ofSlc aP0 jB) hg) rfl ?_;apply (gG);refine H.bits (op:=.xor) rfl rfl rfl (u8_xor _ _) rfl rfl ?_;refine CD (i:=i) rfl rfl rfl rfl jB rfl ?_;refine Cz (xs':=(bytesV T).take (i+1)++(bytesV K).drop (i+1)) rfl rfl rfl rfl aP0 (by rw[Nat.zero_add];exact hset) ?_;apply (gD);exact AI (i+1) (by show i+1≤64;omega) (by show 64-(i+1)<64-i;omega)
 ·have hi64:i=64:=jB
  subst hi64
  have hfull:(bytesV T).take 64++(bytesV K).drop 64=bytesV T:=by
   rw[List.take_of_length_le (by rw[zab,htl];exact Nat.le_refl _),List.drop_eq_nil_of_le (by rw[zab,hfl];exact Nat.le_refl _),List.append_nil]
  rw[hfull];apply (gE);refine AE rfl rfl (A':=slc (some ⟨rb,0,none⟩) T.length 64 5 1 (bytesV T)::F) ?_ ⟨_,64,by rw[htl],rfl,rfl⟩;rw[htl];exact fun _ h=>h
end
section rules
variable {P:Program} {base:World} {n:Nat} {L:Env} {f:Frag} {A:List HP} {q:Post}
variable {l rest:List Oper} {d:Nat} {ty:TypeId} {pos:String} {af:Array Edge} {gd:Option (Nat × Bool)}
theorem FF{s:TypeId}{bs:ByteArray}[hs:Und P s .string][ht:Und P t (.slice e)][he:Und P e (.int .u8)](hw:want? l L gd=true)(hx:ev? L x=some (.string bs))(hd:Nat.ble (d+1) n=true)
  (k:∀b c,bs.size≤c→H P base n ((d,.slice (some ⟨b,0,none⟩) bs.size c)::L) f (strRow b bs c e::A) (.ops l rest q)):H P base n L f A (.ops l (⟨some d,.convert s t x,ty,pos,af,gd⟩::rest) q):=
 C0 (ι:=Nat×Nat) (fun i=>.slice (some ⟨i.1,0,none⟩) bs.size i.2) (fun _=>f) (fun i=>strRow i.1 bs i.2 e::A) (fun i=>bs.size≤i.2) hw hd (fun a w hfr s'=>by
  have h1:=run_bytes_of_string (P:=P) w s t e bs hs.eq ht.eq he.eq
  have h2:(execOp a.eval ⟨some d,.convert s t x,ty,pos,af,gd⟩).run P w= .ok (.value (.slice (some ⟨w.heap.size,0,none⟩) bs.size (grownCap w bs.size 0 e))) (w.drew.alloc (.cells (bytesRow bs (grownCap w bs.size 0 e)) e ((bytesRow bs (grownCap w bs.size 0 e)).size,(bytesRow bs (grownCap w bs.size 0 e)).size+1))):=by
   simp only[execOp,hfr.eval hx,Sem.run_bind,h1,Result.andThen_ok,Sem.run_pure]
  exact⟨(w.heap.size,grownCap w bs.size 0 e),_,grownCap_ge w bs.size 0 e,h2,Sat.alloc (w:=w) s' rfl rfl rfl rfl⟩) (fun i hi=>k i.1 i.2 hi)
end rules
section
variable (f:Frag) (F:List HP)
theorem tdig_sb(htab:TabAt f)(hb:BAt f q b)(hc:a.length≤c)(hd:b.length≤d)(hl:a.length+b.length≤100000000):Fn prog 263 [.slice (some ⟨pb,0,none⟩) 2 2] f (slc p a.length c 5 1 (bytesV a)::pt2 pb p a.length c q b.length d::F) (Ret (.agg (b32 (Sha.sum (a++b))).toArray) f (slc p a.length c 5 1 (bytesV a)::pt2 pb p a.length c q b.length d::F)):=
 Fn.frozen fun g hg hj=>tdig_fn (un f g) F (IntsAt.mono (Le.un f g) htab) (slc_bat _ hg hj) (BAt.mono (Le.un f g) hb) hc hd hl
theorem tdig_sr(htab:TabAt f){ib:Nat}(hc:a.length≤c)(hd:b.length≤d)(hl:a.length+b.length≤100000000):Fn prog 263 [.slice (some ⟨pb,0,none⟩) 2 2] f (slc p a.length c 5 1 (bytesV a)::row ib T (bytesV b)::pt2 pb p a.length c (some ⟨ib,0,none⟩) b.length d::F)
   (Ret (.agg (b32 (Sha.sum (a++b))).toArray) f (slc p a.length c 5 1 (bytesV a)::row ib T (bytesV b)::pt2 pb p a.length c (some ⟨ib,0,none⟩) b.length d::F)):=
 Fn.frozen fun g hg hj=>Fn.frozen fun g2 hg2 hj2=>tdig_fn (un (un f g) g2) F (IntsAt.mono (Le.un _ g2) (IntsAt.mono (Le.un f g) htab)) (BAt.mono (Le.un _ g2) (slc_bat _ hg hj)) (row_bat hg2 hj2) hc hd hl
theorem tdig_ts(htab:TabAt f){sb:Nat}{a:ByteArray}(hc:a.size≤c)(hd:b.length≤d)(hl:a.size+b.length≤100000000):Fn prog 263 [.slice (some ⟨pb,0,none⟩) 2 2] f (strRow sb a c T::slc p b.length d 5 1 (bytesV b)::pt2 pb (some ⟨sb,0,none⟩) a.size c p b.length d::F)
   (Ret (.agg (b32 (Sha.sum (a.data.toList++b))).toArray) f (strRow sb a c T::slc p b.length d 5 1 (bytesV b)::pt2 pb (some ⟨sb,0,none⟩) a.size c p b.length d::F)):=
 Fn.frozen fun g hg hj=>Fn.frozen fun g2 hg2 hj2=>by
  have h:=tdig_fn (un (un f g) g2) F (pb:=pb) (c:=c) (IntsAt.mono (Le.un _ g2) (IntsAt.mono (Le.un f g) htab)) (BAt.mono (Le.un _ g2) (strRow_bat hg hj)) (slc_bat _ hg2 hj2) (by rw[data_len];exact hc) hd (by rw[data_len];exact hl)
  rwa [data_len]at h
theorem thmac_fn(htab:TabAt f)(hk:BAt f p key)(hb:BAt f r b)(hd:b.length≤d)(hl:key.length≤64)(hl2:b.length≤10000000):Fn prog 215 [.slice p key.length c,.slice r b.length d] f F (Ret (.agg (b32 (Sha.hmac key b)).toArray) f F):=by
 refine A9 func215 ntmps215 fun base=>?_;apply (gA);refine (qfv) fun ob=>?_;apply (gG);refine AG rfl rfl rfl (turned_fn (t:=0x36) f _ hk hl) fun p1 c1=>?_;have h1:=Sha.turn_len hl 0x36;generalize hT:Sha.turn key 0x36=T at h1
 refine (qjT) fun hc1 _ _=>?_;apply (gG);refine AS (out:=[.slice p1 T.length c1,.slice r b.length d]) rfl rfl rfl rfl jE jE rfl rfl fun pb=>?_;apply (qeO);refine A8 rfl rfl rfl (tdig_sb f _ htab (a:=T) (b:=b) hb hc1 hd jB) ?_;apply (qgM);apply A4 (pt2 _ _ _ _ _ _ _);refine (qfv) fun ib=>?_;refine AC (ls:=zb 32) (vs:=b32 (Sha.sum (T++b))) (ls':=b32 (Sha.sum (T++b))) rfl rfl rfl (zaa rfl) rfl rfl (Nat.le_refl 32) jA ?_;generalize hin:Sha.sum (T++b)=inn;apply (qkJ);apply A6 [0,2] 4;apply (gB);apply (qeC);apply (qhL);refine AG rfl rfl rfl (turned_fn (t:=0x5c) f _ hk hl) fun p3 c3=>?_;have h2:=Sha.turn_len hl 0x5c;generalize hT2:Sha.turn key 0x5c=T2 at h2
 refine (qjT) fun hc3 _ _=>?_;apply (gA);apply (qfy);apply (qdO);apply A7 3;refine AS (out:=[.slice p3 T2.length c3,.slice (some ⟨ib,0,none⟩) 32 32]) rfl rfl rfl rfl jE jE rfl rfl fun pb2=>?_;apply (gA);apply (qfy);apply (qdO);apply A7 4;apply (qeO);have hfin:Sha.hmac key b=Sha.sum (T2++b32L inn):=by unfold Sha.hmac;rw[hT,hT2,hin]
 rw[hfin];refine A8 rfl rfl rfl (tdig_sr f _ htab (a:=T2) (b:=b32L inn) (d:=32) hc3 (Nat.le_refl 32) (by show T2.length+32≤_;omega)) ?_;generalize T2++b32L inn=l4;apply (gA);apply (qfy);apply (qdO);apply A7 5;refine AC (ls:=zb 32) (vs:=b32 (Sha.sum l4)) (ls':=b32 (Sha.sum l4)) rfl rfl rfl (zaa rfl) rfl rfl (Nat.le_refl 32) jA ?_;apply (qhU);apply (qgM);apply A4 (row ib _ _);apply A4 (pt2 _ _ _ _ _ _ _);exact qav
theorem tkey_fn(htab:TabAt f){w:ByteArray}{i most:Int}(h1:1≤i)(h2:i≤most)(h3:most≤1000)(hw:w.size≤1000):Fn prog 202 [.string w,.int .i64 i,.int .i64 most] f F (BytesR (Sha.word32 w.data.toList i) f F):=by
 refine AP func202 ntmps202 fun base=>?_;apply (gS);refine FF rfl rfl rfl fun sb sc hsc=>?_;apply (gD);refine AG rfl rfl rfl (zbj (l:=[]) (n:=i) f _ Src.nil (fun _=>rfl) jE) fun p1 c1=>?_;rw[List.nil_append];have h8:=be_len 8 i;unfold Sha.word32
 generalize be 8 i=l1 at h8⊢;refine (qjT) fun hc1 _ _=>?_;refine AS (out:=[.slice (some ⟨sb,0,none⟩) w.size sc,.slice p1 l1.length c1]) rfl rfl rfl rfl jE jE rfl rfl fun pb=>?_;apply (qeO);apply A3 (strRow _ _ _ _);refine A8 rfl rfl rfl (tdig_ts f _ htab (a:=w) (b:=l1) hsc hc1 jB) ?_;apply A4 (strRow _ _ _ _);apply (qgM);apply A4 (pt2 _ _ _ _ _ _ _);generalize w.data.toList++l1=l2;refine (qfv) fun db=>?_;refine AC (ls:=zb 32) (vs:=b32 (Sha.sum l2)) (ls':=b32 (Sha.sum l2)) rfl rfl rfl (zaa rfl) rfl rfl (Nat.le_refl 32) jA ?_;generalize Sha.sum l2=d;apply (gA);refine C4 (lo:=none) (hi:=none) (mx:=none) (lv:=0) (hv:=32) (mv:=32) rfl rfl rfl rfl rfl (fun h=>by cases h) jE jE jE rfl ?_;refine AG rfl rfl rfl (zce f _ (l:=b32L d) (Src.slice (m:=32) (Rd.ofRow aP0) rfl) (fun h=>by cases h) (by show 32≤_;decide)) fun p4 c4=>?_;apply (gK);apply A4 (row db _ _);exact AU ⟨p4,c4,rfl,rfl,rfl⟩
theorem treplica_fn(htab:TabAt f){i:Int}(h1:1≤i)(h2:i≤11):Fn prog 141 [.int .i64 i] f F (BytesR (Sha.word32 Sha.replicaW i) f F):=by
 refine AB func141 ntmps141 fun base=>?_;apply (gG);refine AG rfl rfl rfl (tkey_fn (w:=⟨#[114,97,116,99,104,101,116,32,114,101,112,108,105,99,97]⟩) f _ htab h1 h2 jE jE) fun p1 c1=>?_;exact qbD
end
end Go.Proofs.YtdpgpmbebbaoiaaGreatDoor
