/- Parts of the proof. No conditions. -/
import Derived.Test.YtkaknokcbhiigaaGreatDoorZ02
import Derived.LaidMore
import Derived.OpenShut
import Derived.Handed
import Derived.MakeChecks
import Derived.Stop.Joined
import Derived.SevenTiedAt
import Derived.DeepKeys3
import Derived.Laws.IdiomRangeMap
set_option linter.unusedSectionVars false
set_option linter.unusedSimpArgs false
set_option linter.unusedVariables false
set_option maxHeartbeats 1600000
set_option maxRecDepth 20000
namespace Go.Proofs.YtkaknokcbhiigaaGreatDoor
open Go Go.Proofs.Tryz Go.ChangeShapes Go.WideShapes Go.RowKit Go.Deep
def IntsAt(f:Frag)(g:Nat)(k:IntKind)(zs:List Int):Prop:=∃(cs:Array Value) (T:TypeId) (fr:Nat×Nat),f g=some (.cells cs T fr)∧∀(i:Nat) (z:Int),zs[i]?=some z→cs[i]?=some (.int k z)
variable {f:Frag} {g:Nat} {zs:List Int}
theorem IntsAt.mono{f':Frag}{k:IntKind}(hle:Le f f')(h:IntsAt f g k zs):IntsAt f' g k zs:=by
 obtain⟨cs,T,fr,h1,h2⟩:=h;exact⟨cs,T,fr,hle g _ h1,h2⟩
theorem IntsAt.rd{A:List HP}{k:IntKind}(h:IntsAt f g k zs){i:Nat}{z:Int}(hz:zs[i]?=some z):Rd1 f A g i (.int k z):=by
 obtain⟨cs,T,fr,h1,h2⟩:=h;exact Rd1.imm h1 (h2 i z hz)
variable {P:Program}
theorem laid_ints{W:World}{name:String}{t e:TypeId}{k:IntKind}(h:laidMetH P [(name,.agg (zs.map fun z=>.lit (.int k z)))] W)
  (hg:P.globalNamed name=some g) (ht:(P.globals[g]?).map (·.type)=some t) (hu:P.underlying t=some (.array zs.length e)) (he:P.underlying e=some (.int k)) (h1:P.cellsOf e=1):IntsAt (memOf W) g k zs:=by
 rw[MakeChecks.laidMetH_plain _ _ _ rfl]at h;obtain⟨ps,⟨g0,t0,cs0,f0,p0,q0,hg0,ht0,hv0,hd0,_,_⟩,_,_⟩:=h;obtain rfl:=Option.some.inj (hg.symm.trans hg0);obtain rfl:=Option.some.inj (ht.symm.trans ht0);obtain⟨xs,m1,rfl,hx1,hlen,hn,hel⟩:=DataW.trod_array hu hd0;simp only[Prod.mk.injEq,DataW.agg.injEq]at hx1
 have hh:∃T fr,W.heap[g]?=some (.cells cs0 T fr):=by
  simp only[World.var?,hg,Option.bind_some]at hv0;split at hv0
  ·rename_i cs T fr hw
   cases hv0
   exact⟨T,fr,hw⟩
  ·cases hv0
 obtain⟨T,fr,hw⟩:=hh;refine⟨cs0,T,fr,hw,fun i z hz=>?_⟩;have hi:i<zs.length:=(List.getElem?_eq_some_iff.1 hz).1;have h2:=hel i hi
 have h3:(xs.map (·.1))[i]?=some (.lit (.int k z)):=by rw[←hx1.1,List.getElem?_map,hz];rfl
 rw[List.getElem?_map]at h3
 cases hxi:xs[i]? with
 |none=>rw[hxi]at h3;cases h3
 | some x =>
  rw[hxi]at h2 h3;simp only[Option.map_some,Option.some.injEq]at h3;obtain⟨n,e1,e2,_⟩:=DataW.trod_int he h2;rw[h1,Nat.mul_one]at e1
  have hn:n=z:=by
   rw[e2]at h3;simpa using h3
  subst hn
  have h4:(cs0.toList.drop i)[0]?=some (.int k n):=by
   have:((cs0.toList.drop i).take 1)[0]?=some (.int k n):=by rw[e1];rfl
   rwa [List.getElem?_take_of_lt jC]at this
  rw[List.getElem?_drop,Nat.add_zero]at h4;simpa using h4
variable {fn:Func}
theorem params_plain(h:(fn.params.toList.all fun t=>!P.wantsStandIn t)=true):∀(j:Nat) t,fn.params[j]?=some t→P.wantsStandIn t=false:=fun j t ht=>by
 have:=List.all_eq_true.1 h t (Array.mem_toList_iff.2 (Array.mem_of_getElem? ht))
 simpa using this
theorem lawRowL{H':Type}{enc:TypeId×Value→H'}{a:Assume}{C:Checked}{os:Os}{fid:FuncId}{s:ChangeSpec}{conds:List PathCond}{apart fresh handsOn again:Bool}{tb:TypeId}{laid:List (String×DataW Unit)}
  (own:ownKnob C.prog.godebug=none) (started:os.Started) (noInit:C.prog.inits.idxOf? fid=none) (hfn:C.prog.funcs[fid]?=some fn)
  (witness : ∃ (w : World) (tape : Tape) (i : Input), w.os = os ∧ (w.forCall tape i).Shaped C.prog ∧ i.vars = [] ∧ Input.okWide C.prog (w.forCall tape i) .any w.heap.size fid i ∧
   ((s.pre enc C.prog fn conds apart (w.forCall tape i).memory i.args∧laidMetH C.prog laid (w.forCall tape i).memory)∧sizedMet enc C.prog fn (OpenSpec.ofChange s) apart (w.forCall tape i).memory i.args)∧a.holds C.prog (lone (Frame.enter C.prog fid i.args .normal) [] (w.forCall tape i)))
  (htb:C.prog.underlying tb=some .bool) (hres:fn.resultTypes= #[tb]) (hv:s.vars=[]) (hl:laidOutB C.prog=true)
  (hts:fn.params.toList.all (fun t=>C.prog.readableRec t&&Nat.blt t C.prog.types.size)=true)
  (hs:∀ds:List (DataW H'),ds.length=fn.params.toList.length→s.fn H' ds= {results:=[.lit (.bool true)],args:=ds})
  (law:∀(W:World) (args:List Value),ArgsOk C.prog W fn.params.toList args→laidMetH C.prog laid W→Fn C.prog fid args (memOf W) [] (Ret (.bool true) (memOf W) [])) :
  ReturnsInHanded a C os fid .any (fun w args=>(s.pre enc C.prog fn conds apart w args∧laidMetH C.prog laid w)∧sizedMet enc C.prog fn (OpenSpec.ofChange s) apart w args) (s.post enc C.prog fn apart fresh handsOn again):=by
 refine returnsInHanded_of_change_and (X:=fun w _=>laidMetH C.prog laid w) (fun _ _ _ hh h=>h.of_heap hh) own started noInit hfn witness ?_;intro W base args ds gs before hval hW _ _ hL _;have hW':=hW;obtain⟨p,q,hA,hV,rfl,_,_⟩:=hW
 rw[hv]at hV;obtain⟨rfl,rfl⟩:=trodVars_none hV;rw[List.append_nil]at hW'
 have hts':∀t∈fn.params.toList,C.prog.readableRec t=true∧t<C.prog.types.size:=fun t ht=>by
  have:=List.all_eq_true.1 hts t ht;simp only[Bool.and_eq_true]at this
  exact⟨this.1,by have:=this.2;simpa [Nat.blt_eq]using this⟩
 have hlen:=trodAll_len hA;have e:=hs ds hlen
 have hc:=law W args.toList (argsOk_of hA fun j t v h1 h2=>⟨base,hval j t v (by simpa using h1) (by simpa using h2)⟩) hL W W (sat_start W);refine hc.mono ?_
 rintro x w' ⟨v,f',A',rfl,⟨rfl,rfl,rfl⟩,hsat⟩;refine⟨_,rfl,post_own hW' hv hA hl hts' ?_ (by rw[List.append_nil,e]) (by rw[List.append_nil,e]) hsat.below ?_⟩
 ·intro b sp hd;rw[List.append_nil,e,hres];exact trodAll_mk1 (shut_bool htb true)
 ·exact ok_one hres rfl (okWide_bool_mk htb true)
end Go.Proofs.YtkaknokcbhiigaaGreatDoor

namespace Go.Proofs.YtkaknokcbhiigaaGreatDoor
open Go Go.Proofs.Tryz
/-! ### Keys that are structs or arrays -/
variable {kt:TypeId}
section keys
variable {P:Program}
theorem offs_le {n : Nat} : ∀ (fs : List Field) (o : Nat), shp.offs P fs o n = true → o ≤ n ∧ ∀ f ∈ fs, f.name ≠ "_" ∧ f.offset + P.cellsOf f.type ≤ n
 | [], o, h => by
  have e:o=n:=Nat.eq_of_beq_eq_true h
  exact⟨by omega,fun f hf=>by cases hf⟩
 | f :: fs, o, h => by
  simp only[shp.offs,Bool.and_eq_true,bne_iff_ne,ne_eq]at h
  obtain⟨⟨hn,he⟩,hr⟩:=h
  have he':f.offset=o:=Nat.eq_of_beq_eq_true he
  subst he'
  obtain⟨h1,h2⟩:=offs_le fs _ hr
  refine⟨by omega,fun g hg=>?_⟩
  rcases List.mem_cons.1 hg with rfl|hg
  ·exact⟨hn,h1⟩
  ·exact h2 g hg
theorem run_checkKey_shp(em:Bool)(w:World):∀(d D:Nat) (t:TypeId) (xs:List Value),shp P D t xs=true→D≤d→(Instr.checkKey em d t (mkV P t xs)).run P w= .ok () w
 | 0, D, t, xs, h, hd => by
  have:D=0:=jA
  subst this
  simp[shp]at h
 | d + 1, D, t, xs, h, hd => by
  by_cases h1:∃n e',P.underlying t=some (.array n e')
  ·obtain⟨n,e,hu⟩:=h1
   obtain⟨⟨i,hi⟩,l1,D1,rfl,s1⟩:=shp_len hu h
   have hm:mkV P t xs= .agg xs.toArray:=by simp[mkV,hu]
   rw[hm,Instr.checkKey]
   simp only[Sem.run_bind,run_underlying hu,Result.andThen_ok]
   simp only[Std.Legacy.Range.forIn_eq_forIn_range',Std.Legacy.Range.size,Nat.sub_zero,Nat.add_one_sub_one,Nat.div_one]
   have each:∀j∈List.range' 0 n,j<n:=fun j hj=>by simp[List.mem_range'_1]at hj;omega
   generalize List.range' 0 n=is at each
   induction is with
   |nil=>simp
   | cons j is ih =>
    have hj:=each j jK
    have hle:j*P.cellsOf e+P.cellsOf e≤xs.length:=by
     rw[l1]
     have:=Nat.mul_le_mul_right (P.cellsOf e) (show j+1≤n from hj);rwa [Nat.add_mul,Nat.one_mul]at this
    have p1:=zch w (s1 j hj) hle
    have p2:=run_checkKey_shp em w d D1 e _ (s1 j hj) jA
    simp only[List.forIn_cons,Sem.run_bind,run_sizeOf w hi,Result.andThen_ok,p1,p2,Sem.run_pure]
    exact ih (fun y hy=>each y (by simp[hy]))
  ·by_cases h2 : ∃ fs, P.underlying t = some (.struct fs)
   ·obtain⟨fs,hu⟩:=h2
    obtain⟨n1,l1,o1,D1,rfl,s1⟩:=shp_str hu h
    have hm:mkV P t xs= .agg xs.toArray:=by simp[mkV,hu]
    rw[hm,Instr.checkKey]
    simp only[Sem.run_bind,run_underlying hu,Result.andThen_ok]
    rw[←Array.forIn_toList]
    have each:=(offs_le fs.toList 0 o1).2
    generalize fs.toList=L at each s1
    induction L with
    |nil=>simp
    | cons f L ih =>
     obtain⟨hn,hle⟩:=each f jK
     have p1:=zch w (s1 f jK) hle
     have p2:=run_checkKey_shp em w d D1 f.type _ (s1 f jK) jA
     simp only[List.forIn_cons,Sem.run_bind,hn,ne_eq,not_false_eq_true,if_true,Result.andThen_ok,p1,p2,Sem.run_pure]
     exact ih (fun y hy=>each y (by simp[hy])) (fun y hy=>s1 y (by simp[hy]))
   ·obtain⟨hpk,v,rfl,hmk,_⟩:=shp_plain h (fun n e hu=>h1 ⟨n,e,hu⟩) (fun fs hu=>h2 ⟨fs,hu⟩)
    rw[hmk]
    unfold Program.plainKey at hpk
    cases hu:P.underlying t with
    |none=>simp[hu]at hpk
    |some k=>cases k<;>simp[hu]at hpk<;>simp[Instr.checkKey,run_underlying hu]
def plnC:List Value→Bool
 | []=>true
 |v::r=>(match v with| .bool _| .int _ _| .string _=>true|_=>false)&&plnC r
theorem plnC_mem:∀ {l:List Value},plnC l=true→∀m,(l.zip l).all (fun(x,y)=>Instr.sameBits (m+1) x y)=true
 | [],_,m=>rfl
 | v :: r, h, m => by
  simp only[plnC,Bool.and_eq_true]at h
  simp only[List.zip_cons_cons,List.all_cons,plnC_mem h.2 m,Bool.and_true]
  cases v<;>simp at h<;>simp[Instr.sameBits]
  rw[beq_toListBytes];simp
theorem keyT_agg{κ:Type}[DecidableEq κ]{cellsK:κ→List Value}{D:Nat}(hwide:(match P.underlying kt with|some (.array _ _)|some (.struct _)=>true|_=>false)=true)
  (hs:∀k,shp P D kt (cellsK k)=true) (hD:D≤10000) (he:∀a b,eqC (cellsK a) (cellsK b)=decide (a=b)) (hp:∀k,plnC (cellsK k)=true):KeyT P kt (fun k:κ=>Value.agg (cellsK k).toArray) where
 chk:=fun k e w=>by
  have hm:mkV P kt (cellsK k)= .agg (cellsK k).toArray:=by unfold mkV;split at hwide<;>simp_all
  rw[←hm]
  exact run_checkKey_shp e w 10000 D kt _ (hs k) hD
 same:=fun k=>by
  show Instr.sameBits (9999+1) _ _=true
  simp only[Instr.sameBits,beq_self_eq_true,Bool.true_and]
  exact plnC_mem (hp k) 9998
 fnd:=fun k es ks w h=>by
  rw[run_findKey_eq w hwide]
  have hm:∀k,mkV P kt (cellsK k)= .agg (cellsK k).toArray:=fun k=>by unfold mkV;split at hwide<;>simp_all
  have heq:∀a b:κ,(Op.equal kt (.agg (cellsK a).toArray) (.agg (cellsK b).toArray)).run P w= .ok (decide (a=b)) w:=fun a b=>by
   have h3:=zbn 10000 kt w D D _ _ (hs a) (hs b) hD
   rw[hm,hm,he]at h3
   exact h3
  have key:∀(es:List MapEntry) (ks:List κ) (j:Nat),es.map (·.key)=ks.map (fun k:κ=>Value.agg (cellsK k).toArray)→
    (Instr.findAsking kt (.agg (cellsK k).toArray) es j).run P w= .ok ((ks.findIdx? (k= ·)).bind fun i=>(es[i]?).map fun e=>(j+i,e.val)) w:=by
   intro es
   induction es with
   |nil=>intro ks j h;cases ks<;>simp at h;simp[Instr.findAsking]
   | cons e r ih =>
    intro ks j h
    cases ks with
    |nil=>simp at h
    | cons k' ks =>
     simp only[List.map_cons,List.cons.injEq]at h;simp only[Instr.findAsking,h.1,Sem.run_bind,heq,Result.andThen_ok,List.findIdx?_cons];by_cases c:k=k'
     ·simp[c]
     ·simp only[c,decide_false,Bool.false_eq_true,if_false,ih ks (j+1) h.2]
      cases ks.findIdx? (k= ·)with
      |none=>simp
      |some i=>simp[Nat.add_assoc,Nat.add_comm 1]
  have:=key es ks 0 h
  simpa only[Nat.zero_add]using this
end keys
/-! ### A map with its entries told; a loop over it -/
variable {b clock:Nat} {h:Frag} {w:World} {A' F:List HP} {y:HP} {fid:FuncId} {args:List Value} {R:Value→Frag→List HP→Prop} {t:TypeId} {v:Value}
section loops
variable {P:Program} {base:World} {n:Nat} {L:Env} {f:Frag} {A:List HP} {q:Post}
variable {l rest:List Oper} {d:Nat} {ty:TypeId} {pos:String} {af:Array Edge} {gd:Option (Nat × Bool)}
variable {κ:Type} [DecidableEq κ] {enc:κ→Value}
structure MapOk(es:List (κ×Value×Nat))(clock:Nat):Prop where
 keys:(es.map (·.1)).Nodup
 stamps:(es.map (·.2.2)).Nodup
 below:∀e∈es,e.2.2<clock
def mpS(b:Nat)(enc:κ→Value)(es:List (κ×Value×Nat))(clock:Nat):HP:=fun h=>MapOk es clock∧h=sing b (.map (es.map (entOf enc)).toArray clock)
theorem mpS_mp{es:List (κ×Value×Nat)}(hh:mpS b enc es clock h):mp b enc (es.map kvOf) h:=
 ⟨es,clock,rfl,hh.1.keys,hh.1.stamps,hh.1.below,hh.2⟩
theorem mp_mpS{m:List (κ×Value)}(hh:mp b enc m h):∃(es:List (κ×Value×Nat)) (clock:Nat),es.map kvOf=m∧mpS b enc es clock h:=by
 obtain⟨es,clock,a1,a2,a3,a4,a5⟩:=hh;exact⟨es,clock,a1,⟨a2,a3,a4⟩,a5⟩
theorem Sat.mpS_at{es:List (κ×Value×Nat)}(s:Sat base w f A)(h:At A (mpS b enc es clock) A' y):MapOk es clock∧w.heap[b]?=some (.map (es.map (entOf enc)).toArray clock):=by
 obtain⟨R,h1,_⟩:=h.split;obtain⟨x,hm,_,hw⟩:=s.mem;rw[h1]at hm;obtain⟨m1,m2,_,rfl,⟨a1,rfl⟩,_⟩:=hm;exact⟨a1,hw b _ jr⟩
theorem mpS_fold{es:List (κ×Value×Nat)}:∀x,stars (mpS b enc es clock::F) x→stars (mp b enc (es.map kvOf)::F) x:=fun x hx=>by
 obtain⟨m1,m2,dd,e,a,r⟩:=hx
 exact⟨m1,m2,dd,e,mpS_mp a,r⟩
theorem Fn.openMap{m:List (κ×Value)}(k:∀(es:List (κ×Value×Nat)) (clock:Nat),es.map kvOf=m→Fn P fid args f (mpS b enc es clock::A) R):Fn P fid args f (mp b enc m::A) R:=
 Fn.unfold (ι:={i:List (κ×Value×Nat)×Nat // i.1.map kvOf=m}) (B:=fun i=>[mpS b enc i.1.1 i.1.2]) (fun h hh=>by
  obtain⟨es,clock,a1,a2⟩:=mp_mpS hh
  refine⟨⟨(es,clock),a1⟩,?_⟩
  simp only[stars,star_emp]
  exact a2) fun i=>k i.1.1 i.1.2 i.2
def itr(r b:Nat)(es:List (κ×Value×Nat))(clock:Nat)(seen:List κ):HP:=fun h=>
 ∃sA:Array Nat,(∀e∈es,sA.contains e.2.2=true↔e.1∈seen)∧(∀k r,seen=k::r→∃e∈es,e.1=k∧sA.back? =some e.2.2)∧h=sing r (.mapIter (some b) clock sA clock)
theorem H.range{et:TypeId}{x:Operand}{es:List (κ×Value×Nat)}[hu:Und P t (.map kt et)](hw:want? l L gd=true)
  (hx:ev? L x=some (.map (some b))) (hA:At A (mpS b enc es clock) A' (mpS b enc es clock)) (hd:Nat.ble (d+1) n=true)
  (kk:∀r,H P base n ((d,.pointer (some ⟨r,0,none⟩))::L) f (itr r b es clock []::A) (.ops l rest q)):H P base n L f A (.ops l (⟨some d,.range t x,ty,pos,af,gd⟩::rest) q):=
 H.opE (fun r:Nat=>.pointer (some ⟨r,0,none⟩)) (fun _=>f) (fun r=>itr r b es clock []::A) (fun _=>True) hw hd (fun a w hfr s=>by
  obtain⟨ho,hb⟩:=s.mpS_at hA
  refine⟨w.heap.size,w.alloc (.mapIter (some b) clock #[] clock),trivial,?_,?_⟩
  ·have h:=run_range_map w t kt et b _ clock hu.eq hb
   simp only[execOp,hfr.eval hx,Sem.run_bind,h,Result.andThen_ok,Sem.run_pure]
  ·have s1:Sat base (w.alloc (.mapIter (some b) clock #[] clock)) f (pts w.heap.size (.mapIter (some b) clock #[] clock)::A):=s.alloc rfl rfl rfl rfl
   refine s1.imp fun h hh=>?_
   obtain⟨m1,m2,dd,e,a1,a2⟩:=hh
   exact⟨m1,m2,dd,e,⟨#[],(fun e _=>by simp),(fun k r hk=>by cases hk),a1⟩,a2⟩) (fun r _=>kk r)
theorem Sat.itr_at{r:Nat}{es:List (κ×Value×Nat)}{seen:List κ}(s:Sat base w f A)(h:At A (itr r b es clock seen) A' y):∃sA:Array Nat,(∀e∈es,sA.contains e.2.2=true↔e.1∈seen)∧(∀k r,seen=k::r→∃e∈es,e.1=k∧sA.back? =some e.2.2)∧w.heap[r]?=some (.mapIter (some b) clock sA clock):=by
 obtain⟨R,h1,_⟩:=h.split;obtain⟨x,hm,_,hw⟩:=s.mem;rw[h1]at hm;obtain⟨m1,m2,_,rfl,⟨sA,a1,a2,rfl⟩,_⟩:=hm;exact⟨sA,a1,a2,hw r _ jr⟩
theorem run_next_itr{r:Nat}{es:List (κ×Value×Nat)}{sA:Array Nat}(ho:MapOk es clock)(hb:w.heap[b]?=some (.map (es.map (entOf enc)).toArray clock))(hr:w.heap[r]?=some (.mapIter (some b) clock sA clock)):((∀e∈es,sA.contains e.2.2=true)∧(Instr.next (.pointer (some ⟨r,0,none⟩)) false ty).run P w= .ok (.tuple #[.bool false]) w)∨
  ∃e∈es,sA.contains e.2.2=false∧∃w1:World,w1.heap=w.heap∧w1.os=w.os∧w1.output=w.output∧w1.tape=w.tape∧
   (Instr.next (.pointer (some ⟨r,0,none⟩)) false ty).run P w= .ok (.tuple #[.bool true,enc e.1,e.2.1]) {w1 with heap:=w1.heap.setIfInBounds r (.mapIter (some b) clock (sA.push e.2.2) clock)}:=by
 have hold:∀x∈(es.map (entOf enc)).toArray.toList,x.born<clock:=fun x hx=>by
  simp only[List.mem_map]at hx;obtain⟨e,he,rfl⟩:=hx;exact ho.below e he
 simp only[Instr.next,getObj,Sem.run_bind,Sem.run,hr,hb,Result.andThen,next_test_false sA (es.map (entOf enc)).toArray clock clock hold (Nat.le_refl _),Bool.false_eq_true,if_false];have hmem:∀x∈(Array.filter (fun e=>!sA.contains e.born) (es.map (entOf enc)).toArray).toList,x.born<clock:=fun x hx=>hold x (by simp at hx⊢;exact hx.1)
 have hin:∀x∈(Array.filter (fun e=>!sA.contains e.born) (es.map (entOf enc)).toArray),∃e∈es,x=entOf enc e∧sA.contains e.2.2=false:=fun x hx=>by
  have h:=Array.mem_filter.1 hx;obtain⟨e,he,rfl⟩:=List.mem_map.1 (List.mem_toArray.1 h.1)
  exact⟨e,he,rfl,by simpa [entOf]using h.2⟩
 have hall:(Array.filter (fun e=>!sA.contains e.born) (es.map (entOf enc)).toArray)= #[]→∀e∈es,sA.contains e.2.2=true:=fun h2 e he=>by
  rw[Array.filter_eq_empty_iff]at h2;have h3:=h2 (entOf enc e) (List.mem_toArray.2 (List.mem_map.2 ⟨e,he,rfl⟩))
  cases hc:sA.contains e.2.2 with
  |true=>rfl
  |false=>exact absurd (by show(!sA.contains e.2.2)=true;rw[hc];rfl) h3
 generalize Array.filter (fun e=>!sA.contains e.born) (es.map (entOf enc)).toArray=L at hmem hin hall⊢;have e1:L.filter (fun x=>decide (x.born<clock))=L:=Array.filter_eq_self.2 (fun x hx=>by simpa using hmem x js)
 have e2:L.filter (fun x=>decide (x.born≥clock))= #[]:=by
  rw[Array.filter_eq_empty_iff];intro x hx
  have:=hmem x js;simp
  omega
 simp only[e1,e2,Array.append_empty];by_cases h0:L.size=0
 ·left;have:L= #[]:=Array.eq_empty_of_size_eq_zero h0;refine⟨hall this,?_⟩
  subst this;simp[choose,Sem.run,Question.forced]
 ·right;have hne:L.isEmpty=false:=by simp[Array.isEmpty,h0]
  simp only[hne,Bool.false_eq_true,if_false,Array.empty_append,Array.size_map]
  have hch:∃(j:Nat) (w1:World),j<L.size∧w1.heap=w.heap∧w1.os=w.os∧w1.output=w.output∧w1.tape=w.tape∧(choose (Question.mapNext L.size)).run P w= .ok j w1:=by
   by_cases hf:L.size≤1
   ·exact⟨0,w,by omega,rfl,rfl,rfl,rfl,by simp[choose,Sem.run,Question.forced,hf]⟩
   ·exact⟨_,w.drew,Nat.mod_lt _ jA,rfl,rfl,rfl,rfl,by
     simp only[choose,Sem.run,Question.forced,decide_eq_true_eq,hf,if_false,Question.cut]
     rfl⟩
  obtain⟨j,w1,hj,q1,q2,q3,q4,hrun⟩:=hch;obtain⟨e,he,hx,hc⟩:=hin L[j] (Array.getElem_mem hj);refine⟨e,he,hc,w1,q1,q2,q3,q4,?_⟩
  have hset:∀o':Obj,(setObj r o').run P w1= .ok () {w1 with heap:=w1.heap.setIfInBounds r o'}:=fun o'=>by
   simp only[setObj,Sem.run,q1,hr]
  simp only[hrun,Array.getElem?_map,Array.getElem?_eq_getElem hj,Option.map_some,Sem.run_bind,hset,Result.andThen,hx];rfl
theorem map_inj{α β:Type}(g:α→β):∀ {l:List α},(l.map g).Nodup→∀ {x y:α},x∈l→y∈l→g x=g y→x=y
 | [],_,x,_,hx,_,_=>by cases hx
 | z :: l, h, x, y, hx, hy, e => by
  have h':=List.nodup_cons.1 h
  rcases List.mem_cons.1 hx with h1|h1
  ·rcases List.mem_cons.1 hy with h2|h2
   ·rw[h1,h2]
   ·exact absurd (List.mem_map.2 ⟨y,h2,by rw[←e,h1]⟩) h'.1
  ·rcases List.mem_cons.1 hy with h2|h2
   ·exact absurd (List.mem_map.2 ⟨x,h1,by rw[e,h2]⟩) h'.1
   ·exact map_inj g h'.2 h1 h2 e
theorem H.next{x:Operand}{r:Nat}{es:List (κ×Value×Nat)}{seen:List κ}{A1 A2:List HP}{A':κ→List HP}(hw:want? l L gd=true)
  (hx:ev? L x=some (.pointer (some ⟨r,0,none⟩))) (hm:At A (mpS b enc es clock) A1 (mpS b enc es clock)) (hi:At A (itr r b es clock seen) A2 (itr r b es clock seen)) (hA:∀k,At A (itr r b es clock seen) (A' k) (itr r b es clock (k::seen))) (hd:Nat.ble (d+1) n=true)
  (kend:(∀e∈es,e.1∈seen)→H P base n ((d,.tuple #[.bool false])::L) f A (.ops l rest q))
  (kk:∀e∈es,e.1∉seen→H P base n ((d,.tuple #[.bool true,enc e.1,e.2.1])::L) f (A' e.1) (.ops l rest q)):H P base n L f A (.ops l (⟨some d,.next x false,ty,pos,af,gd⟩::rest) q):=
 H.opE (ι:=Option (κ×Value×Nat)) (fun i=>match i with|none=>.tuple #[.bool false]|some e=>.tuple #[.bool true,enc e.1,e.2.1]) (fun _=>f) (fun i=>match i with|none=>A|some e=>A' e.1)
  (fun i=>match i with|none=>∀e∈es,e.1∈seen|some e=>e∈es∧e.1∉seen) hw hd (fun a w hfr s=>by
  obtain⟨ho,hb⟩:=s.mpS_at hm
  obtain⟨sA,a1,a2,hr⟩:=s.itr_at hi
  rcases run_next_itr (P:=P) (ty:=ty) ho hb hr with⟨b1,b2⟩|⟨e,he,hc,w1,q1,q2,q3,q4,b2⟩
  ·refine⟨none,w,fun e he=>(a1 e he).1 (b1 e he),?_,s⟩
   simp only[execOp,hfr.eval hx,Sem.run_bind,b2,Result.andThen_ok,Sem.run_pure]
  ·refine⟨some e,{w1 with heap:=w1.heap.setIfInBounds r (.mapIter (some b) clock (sA.push e.2.2) clock)},⟨he,fun hin=>by rw[(a1 e he).2 hin]at hc;cases hc⟩,?_,?_⟩
   ·simp only[execOp,hfr.eval hx,Sem.run_bind,b2,Result.andThen_ok,Sem.run_pure]
   ·refine s.turnRow (hA e.1) (fun m hm=>by obtain⟨_,_,_,rfl⟩:=hm;exact⟨_,rfl⟩) q2 q4 q3 (by show w1.heap.setIfInBounds _ _=_;rw[q1]) ⟨sA.push e.2.2,fun e' he'=>?_,fun k rs hk=>?_,rfl⟩
    ·rw[contains_push,Bool.or_eq_true,a1 e' he',beq_iff_eq,List.mem_cons]
     constructor
     ·rintro(h|h)
      ·exact .inr h
      ·exact .inl (by rw[map_inj (fun e:κ×Value×Nat=>e.2.2) ho.stamps he' he h])
     ·rintro(h|h)
      ·exact .inr (by rw[map_inj (fun e:κ×Value×Nat=>e.1) ho.keys he' he h])
      ·exact .inl h
    ·cases hk
     exact⟨e,he,rfl,by simp⟩) (fun i hi=>match i,hi with|none,hi=>kend hi|some e,hi=>kk e hi.1 hi.2)
theorem H.entry{x:Operand}{r b:Nat}{es:List (κ×Value×Nat)}{clock:Nat}{seen:List κ}{e:κ×Value×Nat}{A1 A2:List HP}(hw:want? l L gd=true)
  (hx:ev? L x=some (.pointer (some ⟨r,0,none⟩))) (hm:At A (mpS b enc es clock) A1 (mpS b enc es clock)) (hi:At A (itr r b es clock (e.1::seen)) A2 (itr r b es clock (e.1::seen))) (he:e∈es) (hd:Nat.ble (d+1) n=true)
  (kk:H P base n ((d,.tuple #[enc e.1,e.2.1])::L) f A (.ops l rest q)):H P base n L f A (.ops l (⟨some d,.entry x,ty,pos,af,gd⟩::rest) q):=
 H.opV hw hd (fun a w hfr s=>by
  obtain⟨ho,hb⟩:=s.mpS_at hm
  obtain⟨sA,a1,a2,hr⟩:=s.itr_at hi
  obtain⟨e',he',hk,hbk⟩:=a2 _ _ rfl
  have hee:=map_inj (fun e:κ×Value×Nat=>e.1) ho.keys he' he hk
  subst hee
  have hf:(es.map (entOf enc)).toArray.find? (fun x=>x.born == e'.2.2)=some (entOf enc e'):=by
   rw[←Array.find?_toList]
   exact find_born (entOf enc e') (es.map (entOf enc)) (by rw[List.map_map];exact ho.stamps) (List.mem_map.2 ⟨e',he',rfl⟩)
  have h:(Instr.entry (.pointer (some ⟨r,0,none⟩))).run P w= .ok (.tuple #[enc e'.1,e'.2.1]) w:=by
   simp only[Instr.entry,getObj,Sem.run_bind,Sem.run,hr,hb,Result.andThen,hbk,bne_self_eq_false,Bool.false_eq_true,if_false,hf]
   rfl
  simp only[execOp,hfr.eval hx,Sem.run_bind,h,Result.andThen_ok,Sem.run_pure]) kk
theorem H.indexV{e:TypeId}{m i:Nat}{x y:Operand}{xs:List Value}{ik:IntKind}{z:Int}{de:TypeDesc}[hu:Und P t (.array m e)][he:Und P e de][hs:Siz P e 1](hw:want? l L gd=true)
  (hx:ev? L x=some (.agg xs.toArray)) (hy:ev? L y=some (.int ik z)) (hq:z=(i:Nat)) (hi:i<m) (ha:aggD de=false) (hv:xs[i]?=some v) (hd:Nat.ble (d+1) n=true)
  (k:H P base n ((d,v)::L) f A (.ops l rest q)):H P base n L f A (.ops l (⟨some d,.index t x y,ty,pos,af,gd⟩::rest) q):=
 H.opV hw hd (fun a w hf _=>by
  subst hq
  have h1:=hu.run w
  have h2:=hs.run w
  have h3:=run_isAgg he w
  have hi2:(0:Int)≤(i:Int)∧(i:Int)<(m:Int):=⟨by omega,by omega⟩
  simp only[execOp,hf.eval hx,hf.eval hy,Instr.index,asIntOf,Sem.run_bind,Sem.run_pure,Result.andThen_ok,h1,hi2,if_true,h2,part,h3,ha,Bool.false_eq_true,if_false,and_self]
  simp[hv,Sem.run_pure]) k
theorem H.cutB{c:Code}{id:Nat}{ι:Type}(St:ι→Env)(Sf:ι→Frag)(SA:ι→List HP)(Φ:ι→Prop)(y:Code)
  (rest:∀i,Φ i→H P base n (St i) (Sf i) (SA i) (.code y q))
  (h:H P base n L f A (.code c (.block id (.loop (fun a w=>∃j,Φ j∧Fr n a (St j)∧Sat base w (Sf j) (SA j)) q)))):H P base n L f A (.code c (.block id (.seq y q))):=.mk fun a w hf s=>
 wp_mono (h.out a w hf s) fun e a w he=>by
  have key:Exit.then (fun a w=>∃j,Φ j∧Fr n a (St j)∧Sat base w (Sf j) (SA j)) (q.den P) .normal a w→Exit.then (y.wp P (q.den P)) (q.den P) .normal a w:=fun⟨j,hj,hf,s⟩=>(rest j hj).out a w hf s
  cases e with
  |normal=>exact key he
  | exit id' =>
   show Exit.inBlock id (Exit.then (y.wp P (q.den P)) (q.den P)) (.exit id') a w
   have he:Exit.inBlock id (Exit.then (fun a w=>∃j,Φ j∧Fr n a (St j)∧Sat base w (Sf j) (SA j)) (q.den P)) (.exit id') a w:=he
   unfold Exit.inBlock at he⊢
   simp only at he⊢
   split
   ·rename_i hid
    rw[if_pos hid]at he
    exact key he
   ·rename_i hid
    rw[if_neg hid]at he
    exact he
  |goto l=>exact he
  |ret=>exact he
  |panic ch=>exact he
  |outgrown=>exact he
end loops
theorem and31:∀n:Fin 32,0<n.val→bitsI .and .u64 (18446744073709551616-(n.val:Int)) 31=some (((32-n.val:Nat):Nat):Int):=by decide+kernel
theorem neg64:∀n:Fin 32,0<n.val→IntKind.u64.wrap (-(n.val:Int))=18446744073709551616-(n.val:Int):=by decide+kernel
variable {sz:Nat}
theorem slP_ne{o lv mv:Nat}(h:mv≠lv):slP (some ⟨b,o,none⟩) lv mv sz=some ⟨b,o+lv*sz,none⟩:=by
 unfold slP;rw[if_neg h];show some ((⟨b,o,none⟩:Addr).add (lv*sz))=_;rw[zba]
def accW(bs:List UInt8)(i:Nat):Nat→UInt32
 |0=>0
 |k+1=>accW bs i k <<< (UInt32.ofNat 8) ||| (bs.getD (4*i+k) 0).toUInt32
theorem shl8_or(a b:UInt32):(a ||| b) <<< (UInt32.ofNat 8)=a <<< (UInt32.ofNat 8) ||| b <<< (UInt32.ofNat 8):=by
 apply UInt32.toBitVec_inj.1;simp only[UInt32.toBitVec_shiftLeft,UInt32.toBitVec_or];exact BitVec.shiftLeft_or_distrib _ _ _
theorem shl8_shl(a:UInt32)(n:Nat)(h:n+8<32):a <<< (UInt32.ofNat n) <<< (UInt32.ofNat 8)=a <<< (UInt32.ofNat (n+8)):=by
 apply UInt32.toBitVec_inj.1;simp only[UInt32.toBitVec_shiftLeft]
 have e:∀k,k<32→((UInt32.ofNat k).toBitVec % 32).toNat=k:=fun k hk=>by
  simp[UInt32.toBitVec_ofNat',BitVec.toNat_umod,BitVec.toNat_ofNat];omega
 show a.toBitVec <<< ((UInt32.ofNat n).toBitVec % 32).toNat <<< ((UInt32.ofNat 8).toBitVec % 32).toNat=a.toBitVec <<< ((UInt32.ofNat (n+8)).toBitVec % 32).toNat;rw[e n jA,e 8 jC,e (n+8) h];exact(BitVec.shiftLeft_add _ _ _).symm
theorem accW_word(bs:List UInt8)(i:Nat):accW bs i 4=Sha.word bs i:=by
 unfold Sha.word;simp only[accW,Nat.add_zero];have z:(0:UInt32) <<< (UInt32.ofNat 8)=0:=jC
 have z2:∀x:UInt32,0 ||| x=x:=fun x=>by apply UInt32.toBitVec_inj.1;simp
 rw[z,z2];generalize(bs.getD (4*i) 0).toUInt32=x0;generalize(bs.getD (4*i+1) 0).toUInt32=x1;generalize(bs.getD (4*i+2) 0).toUInt32=x2;have e3:x0 <<< (UInt32.ofNat 8) <<< (UInt32.ofNat 8) <<< (UInt32.ofNat 8)=x0 <<< (UInt32.ofNat 24):=by rw[shl8_shl x0 8 jC];exact shl8_shl x0 16 jC
 have e2:x1 <<< (UInt32.ofNat 8) <<< (UInt32.ofNat 8)=x1 <<< (UInt32.ofNat 16):=shl8_shl x1 8 jC;rw[shl8_or,shl8_or,shl8_or,e3,e2]
variable {n:Nat}
section
variable (f:Frag) (F:List HP)
theorem rotL_fn{x:UInt32}(h0:0<n)(hn:n<32):Fn prog 238 [w32 x,.int .i64 (-(n:Int))] f F (Ret (w32 (Sha.rot x n)) f F):=by
 have e1:IntKind.u64.wrap (-(n:Int))=18446744073709551616-(n:Int):=neg64 ⟨n,hn⟩ h0;have e2:bitsI .and .u64 (18446744073709551616-(n:Int)) 31=some ((32-n:Nat):Int):=and31 ⟨n,hn⟩ h0
 have e3:IntKind.u64.wrap (32-((32-n:Nat):Int))=(n:Int):=by rw[wr_u64 jA];omega
 have e4:x <<< (UInt32.ofNat (32-n)) ||| x >>> (UInt32.ofNat n)=Sha.rot x n:=by
  unfold Sha.rot;apply UInt32.toBitVec_inj.1;simp only[UInt32.toBitVec_or];exact BitVec.or_comm _ _
 refine Fn.e2 func238 ntmps238 fun base=>?_;repeat(first|(apply H.Bk;(iterate 2 exact rfl);exact e1;exact rfl)|(refine gh ?_))
 refine H.Bf rfl rfl rfl e2 rfl rfl ?_;repeat(first|(apply H.ar;(iterate 4 exact rfl);exact e3;exact rfl)|(refine gh ?_)|(apply H.Bo;(iterate 3 exact rfl);(first|with_reducible exact u32_shl x (32-n) jA|with_reducible exact u32_shr x n hn);omega;(iterate 2 exact rfl))|(refine H.Bf (op:=.or) rfl rfl rfl (u32_or _ _) rfl rfl ?_))
 exact H.Ae rfl rfl iD ⟨by rw[←e4];rfl,rfl,rfl⟩
theorem sturn_fn{x:UInt32}(h0:0<n)(hn:n<32):Fn prog 237 [w32 x,.int .i64 (n:Nat)] f F (Ret (w32 (Sha.rot x n)) f F):=by
 have e1:IntKind.i64.wrap (0-(n:Int))= -(n:Int):=by rw[wr_i64 jA];omega
 refine Fn.e2 func237 ntmps237 fun base=>?_;repeat(first|(refine gh ?_)|(apply H.neg;(iterate 2 exact rfl);exact e1;exact rfl))
 refine H.Af rfl rfl rfl (rotL_fn f _ h0 hn) ?_;refine gT ?_;exact qaj
end
variable {S:List UInt32} {bs:List UInt8}
section
variable (f:Frag) (F:List HP)
def wPart(S:List UInt32)(i:Nat)(v:UInt32):List Value:=(wRow S i).set i (w32 v)
theorem wRow_len(hS:S.length=64){i:Nat}(h:i≤64):(wRow S i).length=64:=by
 unfold wRow;rw[lnA,List.length_take,List.length_map,List.length_drop,z64_len,hS];omega
theorem wPart_zero(hS:S.length=64){i:Nat}(h:i<64):wPart S i 0=wRow S i:=by
 have h1:(wRow S i)[i]?=some (w32 0):=by
  unfold wRow;exact fill_get2 (Nat.le_refl _) (by rw[List.length_map,hS,z64_len]) (by unfold z64;rw[List.getElem?_replicate,if_pos h])
 unfold wPart;obtain⟨hl,he⟩:=List.getElem?_eq_some_iff.1 h1;rw[←he,List.set_getElem_self]
theorem wPart_set(hS:S.length=64){i:Nat}(h:i<64)(v u:UInt32):SetV (wPart S i v) i (w32 u) (wPart S i u):=by
 have:=SetV.mk (l:=wPart S i v) (i:=i) (w32 u) (by unfold wPart;rw[List.length_set,wRow_len hS jA];exact h);unfold wPart at this⊢
 rwa [List.set_set]at this
theorem wPart_get(hS:S.length=64){i:Nat}(h:i<64)(v:UInt32):(wPart S i v)[i]?=some (w32 v):=by
 unfold wPart;rw[List.getElem?_set_self (by rw[wRow_len hS jA];exact h)]
theorem wPart_full(hS:S.length=64){i:Nat}(h:i<64):wPart S i (S.getD i 0)=wRow S (i+1):=by
 unfold wPart;exact(SetV.eq (wRow_set hS h)).1.symm
theorem swords_fn{nb:Nat}(hb:bs.length=64):Fn prog 236 [.pointer (some ⟨nb,0,none⟩)] f (row nb 186 (bytesV bs)::F) (Ret (.agg ((Sha.sched bs).map w32).toArray) f (row nb 186 (bytesV bs)::F)):=by
 have hlo:∀i,i<16→(Sha.sched bs).getD i 0=accW bs i 4:=fun i h=>by rw[accW_word];exact Sha.sched_lo bs h
 have hhi:∀j,j<48→(Sha.sched bs).getD (j+16) 0=(Sha.sched bs).getD j 0+Sha.s0 ((Sha.sched bs).getD (j+1) 0)+(Sha.sched bs).getD (j+9) 0+Sha.s1 ((Sha.sched bs).getD (j+14) 0):=fun j h=>Sha.sched_hi bs h;have hS:=Sha.sched_len bs
 generalize Sha.sched bs=S at hlo hhi hS⊢;refine Fn.e1 func236 ntmps236 fun base=>?_;refine gA ?_;refine H.Aj (ls:=wRow S 0) rfl rfl rfl fun wb=>?_;refine gA ?_;refine H.Bt (lo:=none) (mx:=none) (lv:=0) (hv:=16) (mv:=64) rfl rfl rfl ⟨_,_,rfl,rfl⟩ rfl (fun h=>by cases h) jC jC jC rfl ?_;refine gT ?_
 refine H.lo (ι:=Nat) (fun i=>[(11,.int .i64 (i:Int)),(10,.int .i64 ((16:Nat):Int)),(0,.pointer (some ⟨nb,0,none⟩)),(2,.pointer (some ⟨wb,0,none⟩))]) (fun _=>f)
  (fun i=>row wb 235 (wRow S i)::row nb 186 (bytesV bs)::F) (fun i=>i≤16) (fun i=>16-i) 0 (Nat.zero_le _) fun i hi=>?_
 have hi:i≤16:=hi;by_cases hlt:i<16
 ·have e1:IntKind.i64.wrap (4*(i:Int))=((4*i:Nat):Int):=by rw[wr_i64 jA];omega
  have e2:IntKind.i64.wrap (((4*i:Nat):Int)+4)=((4*i+4:Nat):Int):=by rw[wr_i64 jA];omega
  repeat(first|(apply H.ar;(iterate 4 exact rfl);exact e1;exact rfl)|(apply H.ar;(iterate 4 exact rfl);exact e2;exact rfl)|(refine gh ?_))
  refine H.Bt (mx:=none) (lv:=4*i) (hv:=4*i+4) (mv:=64) rfl rfl ⟨_,_,rfl,rfl⟩ ⟨_,_,rfl,rfl⟩ rfl (fun h=>by cases h) jA jA jC rfl ?_;rw[slP_ne jA,show 4*i+4-4*i=4 by omega];refine gT ?_
  refine H.loop (ι:=Nat) (fun k=>[(23,.int .i64 (k:Int)),(22,.int .i64 ((4:Nat):Int)),(21,.slice (some ⟨nb,0+4*i*1,none⟩) 4 (64-4*i)),(3,.int .i64 (i:Int)),(11,.int .i64 (i:Int)),(10,.int .i64 ((16:Nat):Int)),(0,.pointer (some ⟨nb,0,none⟩)),(2,.pointer (some ⟨wb,0,none⟩))]) (fun _=>f)
   (fun k=>row wb 235 (wPart S i (accW bs i k))::row nb 186 (bytesV bs)::F) (fun k=>k≤4) (fun k=>4-k) 0 (Nat.zero_le _) ⟨rfl,rfl,rfl,rfl,rfl,rfl,rfl,rfl,trivial⟩ rfl (by rw[show accW bs i 0=0 from rfl,wPart_zero hS jA]) fun k hk=>?_
  have hk:k≤4:=hk;by_cases hk4:k<4
  ·have rdc:∀A A',At A (row nb 186 (bytesV bs)) A' (row nb 186 (bytesV bs))→Rd1 f A nb (0+4*i*1+k*1) (.int .u8 ((bs.getD (4*i+k) 0).toNat:Nat)):=fun A A' h=>by
    rw[show 0+4*i*1+k*1=0+(4*i+k) by omega];exact Rd1.of (Rd.ofRow h) (zcf jA)
   have hset:=wPart_set hS (i:=i) jA (accW bs i k) (accW bs i (k+1));have hget:=wPart_get hS (i:=i) jA (accW bs i k)
   have hacc:accW bs i (k+1)=accW bs i k <<< (UInt32.ofNat 8) ||| (bs.getD (4*i+k) 0).toUInt32:=rfl;rw[hacc]at hset
   show H _ _ _ ((23,.int .i64 (k:Int))::_) _ (row wb _ (wPart S i (accW bs i k))::_) _;obtain⟨v,hv⟩:∃v,accW bs i k=v:=⟨_,rfl⟩;rw[hv]at hset hget hacc⊢;refine gG ?_;refine H.Ak (i:=k) rfl rfl rfl rfl hk4 rfl ?_;skip;refine H.Ab rfl rfl rfl (rdc _ _ jB) rfl ?_;refine gI ?_;refine H.Al (i:=i) rfl rfl rfl rfl jA rfl ?_;refine H.Ab rfl rfl rfl (.of (Rd.ofRow jB) (by rw[Nat.mul_one];exact hget)) rfl ?_;refine H.Bo (op:=.shl) rfl rfl rfl (u32_shl8 _) jC rfl rfl ?_;repeat(first|(refine H.Bk rfl rfl (u32_ofByte _) rfl ?_)|(refine gh ?_))
   refine H.Bf (op:=.or) rfl rfl rfl (u32_or _ _) rfl rfl ?_;refine H.Al (i:=i) rfl rfl rfl rfl jA rfl ?_;refine H.Ba (v:=w32 _) (ls':=wPart S i (v <<< (UInt32.ofNat 8) ||| (bs.getD (4*i+k) 0).toUInt32)) rfl rfl rfl rfl jB jQ ?_;refine gW ?_;exact H.Ar (k+1) (by show k+1≤4;omega) (by show 4-(k+1)<4-k;omega) ⟨rfl,rfl,rfl,rfl,rfl,rfl,rfl,rfl,trivial⟩ rfl (by show _=row wb _ (wPart S i (accW bs i (k+1)))::_;rw[hacc])
  ·have hk44:k=4:=jA
   subst hk44;refine gN ?_;exact H.Ar (i+1) (by show i+1≤16;omega) (by show 16-(i+1)<16-i;omega) ⟨rfl,rfl,rfl,rfl,trivial⟩ rfl (by rw[←hlo i hlt,wPart_full hS jA])
 ·have hi16:i=16:=jA
  subst hi16;refine gY ?_
  refine H.lo (ι:=Nat) (fun j=>[(6,.int .i64 ((j+16:Nat):Int)),(2,.pointer (some ⟨wb,0,none⟩))]) (fun _=>f)
   (fun j=>row wb 235 (wRow S (j+16))::row nb 186 (bytesV bs)::F) (fun j=>j≤48) (fun j=>48-j) 0 (Nat.zero_le _) fun j hj=>?_
  have hj:j≤48:=hj;by_cases hlt:j<48
  ·have hw:=hhi j hlt;have hset:=wRow_set hS (n:=j+16) jA
   rw[hw]at hset;have hg:∀k,k<j+16→(wRow S (j+16))[k*1]?=some (w32 (S.getD k 0)):=fun k hk=>by rw[Nat.mul_one];exact wRow_get hS hk jA
   refine qks ?_;repeat(first|(apply HQ.Al (i:=j+1);(iterate 3 exact rfl);omega;omega;exact rfl)|(apply HQ.Al (i:=j+14);(iterate 3 exact rfl);omega;omega;exact rfl)|(apply HQ.Ab;(iterate 3 exact rfl);exact .of (Rd.ofRow jB) (hg _ jA);exact rfl)|(refine gi ?_))
   refine gA ?_;refine H.dc [0,1,2,3,4,5,6,7,8,9,10,11,12,13,14,15,16,17,18,19,20,21,22,23,24,25,26,27,28] (S:=[_]) rfl ?_;refine HB.qu [0,1,2,3,4,5,7,10,11,14,15,16,17,19,21,24,25] 13 ?_;repeat(first|(apply HQ.Al (i:=j);(iterate 3 exact rfl);omega;omega;exact rfl)|(apply HQ.Al (i:=j+9);(iterate 3 exact rfl);omega;omega;exact rfl)|(apply HQ.Ab;(iterate 3 exact rfl);exact .of (Rd.ofRow jB) (hg _ jA);exact rfl)|(refine gi ?_)|(apply HQ.Bo;(iterate 3 exact rfl);(first|with_reducible exact u32_shr3 _|with_reducible exact u32_shr10 _);decide;(iterate 2 exact rfl)))
   refine qjw ?_;refine H.Af rfl rfl rfl (sturn_fn f _ (n:=7) jC jC) ?_;refine qeg ?_;refine HB.ev 8 ?_;refine H.Af rfl rfl rfl (sturn_fn f _ (n:=18) jC jC) ?_;refine qeg ?_;refine HB.qu [9,12,13,18] 7 ?_;refine qfi ?_;refine qeo ?_;refine HB.ev 20 ?_;refine H.Af rfl rfl rfl (sturn_fn f _ (n:=17) jC jC) ?_;refine qeg ?_;refine HB.ev 22 ?_;refine H.Af rfl rfl rfl (sturn_fn f _ (n:=19) jC jC) ?_;refine qeg ?_;refine HB.qu [23,26,27,28] 1 ?_;repeat(first|(refine gi ?_)|(apply HQ.Bf;(iterate 3 exact rfl);(with_reducible exact zbt _ _);(iterate 2 exact rfl))|(apply HQ.Al (i:=j+16);(iterate 3 exact rfl);exact rfl;omega;exact rfl))
   refine qeA ?_;refine HB.ev 29 ?_;refine qhP ?_;exact H.Ar (j+1) (by show j+1≤48;omega) (by show 48-(j+1)<48-j;omega) ⟨by show some _=some (Value.int .i64 ((j+1+16:Nat):Int));rw[show j+1+16=j+16+1 by omega],rfl,trivial⟩ rfl jZ
  ·have hj48:j=48:=jA
   subst hj48
   have hfull:wRow S (48+16)=S.map w32:=by
    unfold wRow;rw[show 48+16=(S.map w32).length by rw[List.length_map,hS],List.take_length,List.length_map,hS];show S.map w32++z64.drop 64=_;rw[List.drop_eq_nil_of_le (by rw[z64_len];exact Nat.le_refl _),List.append_nil]
   show H _ _ _ _ _ (row wb _ (wRow S (48+16))::_) _;rw[hfull];have hl:(S.map w32).length=64:=by rw[List.length_map,hS]
   refine gY ?_;refine H.Ad (ls:=S.map w32) rfl rfl rfl (Rd.ofRow jB) hl rfl ?_;refine H.Ag (ls:=S.map w32) (vs:=S.map w32) (ls':=S.map w32) rfl rfl rfl (fun v hv=>by obtain⟨x,_,rfl⟩:=List.mem_map.1 hv;rfl) hl (by unfold splice;rw[List.take_zero,List.nil_append,Nat.zero_add,List.drop_length,List.append_nil]) jA jB ?_;refine gT ?_;exact H.Ax rfl rfl rfl (Rd.ofRow jB) hl (fun _ s=>s.drop (.here _ _)) ⟨rfl,rfl,rfl⟩
end
def TabAt(f:Frag):Prop:=IntsAt f 0 .u32 (Sha.k.map fun x=>((x.toNat:Nat):Int))
variable {f:Frag} {A:List HP}
theorem tab_rd(h:TabAt f){i:Nat}(hi:i<64):Rd1 f A 0 (0+i*1) (w32 (Sha.k.getD i 0)):=by
 have e:(Sha.k.map fun x=>((x.toNat:Nat):Int))[i]?=some (((Sha.k.getD i 0).toNat:Nat):Int):=by
  have hl:i<Sha.k.length:=hi;rw[List.getElem?_map,lgE hl,List.getD_eq_getElem?_getD,lgE hl]
  rfl
 rw[show 0+i*1=i by omega];exact h.rd e
theorem S8.comm(v s:Sha.S8){i:Nat}(h:i<8):(v.add s).get i=s.get i+v.get i:=by
 rw[Sha.S8.add_get v s h];apply UInt32.toBitVec_inj.1;simp only[UInt32.toBitVec_add];exact BitVec.add_comm _ _
def addRow2(v s:Sha.S8)(n:Nat):List Value:=(v.add s).vals.take n++s.vals.drop n
theorem addRow2_set(v s:Sha.S8){i:Nat}(h:i<8):SetV (addRow2 v s i) i (w32 (s.get i+v.get i)) (addRow2 v s (i+1)):=by
 rw[←S8.comm v s h];exact fill_set (Sha.S8.get_vals _ h) rfl
theorem addRow2_get(v s:Sha.S8){i:Nat}(h:i<8):(addRow2 v s i)[i]?=some (w32 (s.get i)):=fill_get2 (Nat.le_refl _) rfl (Sha.S8.get_vals s h)
variable {s:Sha.S8}
section
variable (f:Frag) (F:List HP)
theorem sblock_fn(htab:TabAt f)(hb:bs.length=64):Fn prog 235 [.agg s.vals.toArray,.agg (bytesV bs).toArray] f F (Ret (.agg (Sha.block s bs).vals.toArray) f F):=by
 have hbl:(bytesV bs).length=64:=by rw[zac,hb]
 have hwords:=fun nb G=>swords_fn f G (nb:=nb) hb;have hS:=Sha.sched_len bs
 unfold Sha.block;generalize Sha.sched bs=S at hwords hS⊢;have hgS:∀k,k<64→(S.map w32)[k]?=some (w32 (S.getD k 0)):=fun k hk=>map_get w32 jA 0;refine Fn.e2 func235 ntmps235 fun base=>?_
 refine gA ?_;refine H.box (ls:=s.vals) rfl rfl rfl rfl fun sb=>?_;refine H.box (ls:=bytesV bs) rfl rfl rfl rfl fun nb=>?_;refine qii fun ob=>?_;refine gA ?_;refine H.dq ?_;repeat(first|(refine gi ?_)|(apply HQ.index_arrT;(iterate 3 exact rfl);decide;exact rfl))
 refine gA ?_;refine qjY ?_;refine H.Af rfl rfl rfl (hwords nb _) ?_;refine gT ?_
 refine H.lo (ι:=Nat) (fun i=>[(36,.int .i64 (i:Int)),(35,.agg (S.map w32).toArray),(5,w32 (Sha.rounds S s i).a),(6,w32 (Sha.rounds S s i).b),(7,w32 (Sha.rounds S s i).c),(8,w32 (Sha.rounds S s i).d),(9,w32 (Sha.rounds S s i).e),(10,w32 (Sha.rounds S s i).f),(11,w32 (Sha.rounds S s i).g),(12,w32 (Sha.rounds S s i).h),(2,.pointer (some ⟨sb,0,none⟩)),(4,.pointer (some ⟨ob,0,none⟩))]) (fun _=>f)
  (fun _=>row nb 186 (bytesV bs)::row ob 184 (List.replicate 8 (.int .u32 0))::row sb 184 s.vals::F) (fun i=>i≤64) (fun i=>64-i) 0 (Nat.zero_le _) fun i hi=>?_
 have hi:i≤64:=hi;by_cases hlt:i<64
 ·have hr:Sha.rounds S s (i+1)=Sha.round (Sha.k.getD i 0) (S.getD i 0) (Sha.rounds S s i):=rfl;have hgs:=hgS i hlt
  have hgk:=fun A=>tab_rd htab (A:=A) hlt;generalize Sha.k.getD i 0=kk at hr hgk
  generalize S.getD i 0=ww at hr hgs;generalize S.map w32=SL at hgs hwords⊢;show H _ _ _ [_,_,(5,w32 (Sha.rounds S s i).a),(6,w32 (Sha.rounds S s i).b),(7,w32 (Sha.rounds S s i).c),(8,w32 (Sha.rounds S s i).d),(9,w32 (Sha.rounds S s i).e),(10,w32 (Sha.rounds S s i).f),(11,w32 (Sha.rounds S s i).g),(12,w32 (Sha.rounds S s i).h),_,_] _ _ _;generalize Sha.rounds S s i=v at hr⊢;repeat(first|(refine gh ?_)|(apply H.indexV (i:=i);(iterate 4 exact rfl);exact hlt;exact rfl;exact hgs;exact rfl))
  refine H.db (S:=[]) rfl ?_;refine HB.qu [0,1,3,6,10,11,12,13,14,15,16,17,19,20,21,23] 10 ?_;repeat(first|(apply HQ.Al (i:=i);(iterate 3 exact rfl);exact rfl;exact hlt;exact rfl)|(apply HQ.Ab;(iterate 3 exact rfl);exact hgk _;exact rfl)|(refine gi ?_)|(apply HQ.Bf;(iterate 3 exact rfl);(first|with_reducible exact zbt _ _|with_reducible exact u32_and _ _);(iterate 2 exact rfl))|(apply HQ.flip;(iterate 2 exact rfl);exact u32_not _;(iterate 2 exact rfl)))
  refine qeo ?_;refine HB.ev 2 ?_;refine H.Af rfl rfl rfl (sturn_fn f _ (n:=6) jC jC) ?_;refine qeg ?_;refine HB.ev 4 ?_;refine H.Af rfl rfl rfl (sturn_fn f _ (n:=11) jC jC) ?_;refine qeg ?_;refine HB.qu [5] 7 ?_;refine qho ?_;refine HB.ev 7 ?_;refine H.Af rfl rfl rfl (sturn_fn f _ (n:=25) jC jC) ?_;refine qeg ?_;refine HB.qu [8,9,18,22,24,25] 0 ?_;refine qfi ?_;refine qey ?_;refine gI ?_;refine H.Af rfl rfl rfl (sturn_fn f _ (n:=2) jC jC) ?_;refine gI ?_;refine H.Af rfl rfl rfl (sturn_fn f _ (n:=13) jC jC) ?_;refine qji ?_;refine gI ?_;refine H.Af rfl rfl rfl (sturn_fn f _ (n:=22) jC jC) ?_;refine qji ?_;refine qjv ?_;refine qjv ?_;refine qji ?_;refine qjv ?_;refine qji ?_;refine gW ?_;exact H.Ar (i+1) jv jf ⟨rfl,rfl,by rw[hr];rfl,by rw[hr];rfl,by rw[hr];rfl,by rw[hr];rfl,by rw[hr];rfl,by rw[hr];rfl,by rw[hr];rfl,by rw[hr];rfl,rfl,rfl,trivial⟩ rfl rfl
 ·have hi64:i=64:=jA
  subst hi64;show H _ _ _ [_,_,(5,w32 (Sha.rounds S s 64).a),(6,w32 (Sha.rounds S s 64).b),(7,w32 (Sha.rounds S s 64).c),(8,w32 (Sha.rounds S s 64).d),(9,w32 (Sha.rounds S s 64).e),(10,w32 (Sha.rounds S s 64).f),(11,w32 (Sha.rounds S s 64).g),(12,w32 (Sha.rounds S s 64).h),_,_] _ _ _;generalize Sha.rounds S s 64=v;refine gY ?_;refine H.buildA (out:=v.vals) rfl rfl rfl rfl rfl ?_;refine gT ?_;refine H.pd (x:=row nb _ _) ?_;refine H.pf (x:=row sb _ _) ?_
  refine H.lo (ι:=Nat) (fun i=>[(107,.int .i64 (i:Int)),(106,.agg v.vals.toArray),(2,.pointer (some ⟨sb,0,none⟩)),(4,.pointer (some ⟨ob,0,none⟩))]) (fun _=>f)
   (fun i=>row sb 184 (addRow2 v s i)::row ob 184 (List.replicate 8 (.int .u32 0))::F) (fun i=>i≤8) (fun i=>8-i) 0 (Nat.zero_le _) fun i hi=>?_
  have hi:i≤8:=hi;by_cases hlt:i<8
  ·have hset:=addRow2_set v s hlt;have hg:=addRow2_get v s hlt
   have hg2:=Sha.S8.get_vals v hlt;show H _ _ _ _ _ (row sb _ (addRow2 v s i)::_) _
   repeat(first|(refine gh ?_)|(apply H.indexV (i:=i);(iterate 4 exact rfl);exact hlt;exact rfl;exact hg2;exact rfl))
   refine qkw ?_;refine H.Ab rfl rfl rfl (.of (Rd.ofRow jB) (by rw[Nat.mul_one];exact hg)) rfl ?_;refine gW ?_;refine qkw ?_;refine H.Ba (v:=w32 _) (ls':=addRow2 v s (i+1)) rfl rfl rfl rfl jB jQ ?_;refine gW ?_;exact qbS
  ·have hi8:i=8:=jA
   subst hi8;refine qgp ?_;refine H.pd (x:=row sb _ _) ?_;exact qae
end
def b32(t:Nat→UInt8):List Value:=[.int .u8 (t 0).toNat,.int .u8 (t 1).toNat,.int .u8 (t 2).toNat,.int .u8 (t 3).toNat,.int .u8 (t 4).toNat,.int .u8 (t 5).toNat,.int .u8 (t 6).toNat,.int .u8 (t 7).toNat,.int .u8 (t 8).toNat,.int .u8 (t 9).toNat,.int .u8 (t 10).toNat,.int .u8 (t 11).toNat,.int .u8 (t 12).toNat,.int .u8 (t 13).toNat,.int .u8 (t 14).toNat,.int .u8 (t 15).toNat,.int .u8 (t 16).toNat,.int .u8 (t 17).toNat,.int .u8 (t 18).toNat,.int .u8 (t 19).toNat,.int .u8 (t 20).toNat,.int .u8 (t 21).toNat,.int .u8 (t 22).toNat,.int .u8 (t 23).toNat,.int .u8 (t 24).toNat,.int .u8 (t 25).toNat,.int .u8 (t 26).toNat,.int .u8 (t 27).toNat,.int .u8 (t 28).toNat,.int .u8 (t 29).toNat,.int .u8 (t 30).toNat,.int .u8 (t 31).toNat]
def v11(d:Nat→Int):List Value:=[.int .u64 (d 0),.int .u64 (d 1),.int .u64 (d 2),.int .u64 (d 3),.int .u64 (d 4),.int .u64 (d 5),.int .u64 (d 6),.int .u64 (d 7),.int .u64 (d 8),.int .u64 (d 9),.int .u64 (d 10)]
structure Req where
 client:Int
 time:Int
 kind:UInt8
 key:ByteArray
 val:ByteArray
 old:ByteArray
 to:ByteArray
 amount:Int
 tag:Nat→UInt8
def Req.vals(r:Req):List Value:=[.int .i64 r.client,.int .u64 r.time,.int .u8 (r.kind.toNat:Nat),.string r.key,.string r.val,.string r.old,.string r.to,.int .u64 r.amount]++b32 r.tag
def Req.zero:Req:=⟨0,0,0,.empty,.empty,.empty,.empty,0,fun _=>0⟩
structure Bod where
 kind:UInt8
 view:Int
 k:Int
 req:Req
 q:List (Int×Int)
 dig:Nat→UInt8
def Bod.vals(x:Bod)(p:Option Addr)(c:Nat):List Value:=[.int .u8 (x.kind.toNat:Nat),.int .u64 x.view,.int .u64 x.k]++x.req.vals++[.slice p x.q.length c]++b32 x.dig
structure Msg where
 origin:Int
 number:Int
 deps:Nat→Int
 body:Bod
 tag:Nat→UInt8
def Msg.vals(m:Msg)(p:Option Addr)(c:Nat):List Value:=[.int .i64 m.origin,.int .u64 m.number]++v11 m.deps++m.body.vals p c++b32 m.tag
def pairV(p:Int×Int):List Value:=[.int .i64 p.1,.int .u64 p.2]
def QAt(f:Frag)(p:Option Addr)(q:List (Int×Int)):Prop:=∀i x,q[i]?=some x→∃b off cs T fr,p=some ⟨b,off,none⟩∧f b=some (.cells cs T fr)∧∀j,j<(pairV x).length→cs[off+i*2+j]?=(pairV x)[j]?
theorem QAt.nil(f:Frag)(p:Option Addr):QAt f p []:=fun i x h=>by simp at h
variable {p:Option Addr} {c:Nat} {l:List UInt8}
section
variable (f:Frag) (A:List HP) (x:Bod) (q:Option Addr) (qc:Nat)
theorem view1_fn(hs:Src prog f A (.slice p l.length c) 1 l.length (bytesV l))(hn:p=none→l=[])(hl:l.length≤10000000000):Fn prog 211 [.slice p l.length c,.agg (x.vals q qc).toArray] f A (BytesR (l++be 8 x.view) f A):=by
 refine Fn.e2 func211 ntmps211 fun base=>?_;refine qff fun xb=>?_;refine gF ?_;refine H.Am rfl rfl rfl (zck f _ hs.cons hn hl) fun p1 c1=>?_;refine gT ?_;refine qjG ?_;exact H.r1 ⟨p1,c1,rfl,rfl,rfl⟩
theorem view3_fn:Fn prog 213 [.agg (x.vals q qc).toArray] f A (Ret (.bool (decide (1≤x.view))) f A):=by
 refine Fn.e1 func213 ntmps213 fun base=>?_;refine qff fun xb=>?_;refine gM ?_;exact qaF
theorem k_fn:Fn prog 171 [.agg (x.vals q qc).toArray] f A (Ret (.bool (decide (1≤x.k∧x.k≤4611686018427387904))) f A):=by
 by_cases h1:1≤x.k
 ·exact qbp
 ·exact qbp
def Req.asked(r:Req):Prop:=1≤r.client∧r.client≤8∧1≤r.time∧r.time≤4611686018427387904∧(r.key.size≤32∧r.to.size≤32)∧(r.val.size≤128∧r.old.size≤128)
instance (r:Req):Decidable r.asked:=by unfold Req.asked;infer_instance
theorem asked_fn(r:Req):Fn prog 168 [.agg r.vals.toArray] f A (Ret (.bool (decide r.asked)) f A):=by
 by_cases h1:1≤r.client
 ·skip;by_cases h2:r.client≤8
  ·skip;by_cases h3:1≤r.time
   ·skip;by_cases h4:r.time≤4611686018427387904
    ·skip;by_cases h5:r.key.size≤32∧r.to.size≤32
     ·skip;by_cases h6:r.val.size≤128∧r.old.size≤128
      ·skip;refine qhL fun base=>?_;refine qeM fun xb=>?_;refine qfT ?_;exact H.Ae rfl rfl iD ⟨by rw[decide_eq_true (show r.asked from⟨h1,h2,h3,h4,h5,h6⟩),decide_eq_true jl],rfl,rfl⟩
      ·skip;refine qhL fun base=>?_;refine qeM fun xb=>?_;refine qfT ?_;exact H.Ae rfl rfl iD ⟨by rw[decide_eq_false (show¬r.asked from fun h=>h6 h.2.2.2.2.2),decide_eq_false jl],rfl,rfl⟩
     ·skip;refine qhL fun base=>?_;refine qeM fun xb=>?_;refine qiM ?_;refine qeK ?_;exact H.Ae rfl rfl iD ⟨by rw[decide_eq_false (fun h=>h5 h.2.2.2.2.1)],rfl,rfl⟩
    ·skip;refine qhL fun base=>?_;refine qeM fun xb=>?_;refine gg ?_;refine qeK ?_;exact H.Ae rfl rfl iD ⟨by rw[decide_eq_false (fun h=>h4 h.2.2.2.1)],rfl,rfl⟩
   ·skip;refine qhL fun base=>?_;refine qeM fun xb=>?_;refine gg ?_;refine qeK ?_;exact H.Ae rfl rfl iD ⟨by rw[decide_eq_false (fun h=>h3 h.2.2.1)],rfl,rfl⟩
  ·skip;refine qhL fun base=>?_;refine qeM fun xb=>?_;refine gg ?_;refine qeK ?_;exact H.Ae rfl rfl iD ⟨by rw[decide_eq_false (fun h=>h2 h.2.1)],rfl,rfl⟩
 ·skip;refine qhL fun base=>?_;refine qeM fun xb=>?_;refine gg ?_;refine qeK ?_;exact H.Ae rfl rfl iD ⟨by rw[decide_eq_false (fun h=>h1 h.1)],rfl,rfl⟩
def quo:Int→List (Int×Int)→Bool
 |_,[]=>true
 |was,p::r=>if p.1≤was∨11<p.1∨p.2<1∨65536<p.2 then false else quo p.1 r
theorem quorum_fn{l:List (Int×Int)}(hq:QAt f p l)(hl:l.length≤1000000000000):Fn prog 178 [.slice p l.length c] f A (Ret (.bool (quo 0 l&&decide (0<l.length))) f A):=by
 refine Fn.e1 func178 ntmps178 fun base=>?_;refine gT ?_;refine H.lo (ι:=Nat×Int) (fun i=>[(8,.int .i64 (i.1:Int)),(7,.int .i64 (l.length:Nat)),(3,.int .i64 i.2),(0,.slice p l.length c),(6,.slice p l.length c)]) (fun _=>f) (fun _=>A) (fun i=>i.1≤l.length∧quo 0 l=quo i.2 (l.drop i.1)) (fun i=>l.length-i.1) (0,0) ⟨Nat.zero_le _,rfl⟩ fun i hi=>?_;obtain⟨i,w⟩:=i;obtain⟨hi,hw⟩:i≤l.length∧quo 0 l=quo w (l.drop i):=hi;show H _ _ _ [(8,.int .i64 (i:Int)),_,(3,.int .i64 w),_,_] _ _ _;rw[hw];refine gO ?_;by_cases hlt:i<l.length
 ·have hx:l[i]?=some l[i]:=lgE hlt;have hd:l.drop i=l[i]::l.drop (i+1):=List.drop_eq_getElem_cons hlt
  generalize l[i]=x at hx hd;obtain⟨b,off,cs,T,fr,rfl,hfb,hcs⟩:=hq i x hx;have rd:∀A,Rd f A b (off+i*2) (pairV x):=fun A=>Rd.imm hfb hcs;clear hcs hfb
  have hquo:quo w (l.drop i)=if x.1≤w∨11<x.1∨x.2<1∨65536<x.2 then false else quo x.1 (l.drop (i+1)):=by rw[hd];rfl
  refine qjC ?_;refine H.Ad (ls:=pairV x) rfl rfl rfl (rd _) rfl rfl ?_;refine H.Aj rfl rfl rfl fun xb=>?_;refine H.Ag (ls:=[.int .i64 0,.int .u64 0]) (vs:=pairV x) (ls':=pairV x) rfl rfl rfl (zaa rfl) rfl rfl (Nat.le_refl 2) jB ?_;rw[hquo];by_cases h1:x.1≤w
  ·rw[if_pos (.inl h1)];clear hquo hw;refine gX ?_;exact qaF
  ·by_cases h2 : 11 < x.1
   ·rw[if_pos (.inr (.inl h2))];exact qdh
   ·by_cases h3 : x.2 < 1
    ·rw[if_pos (.inr (.inr (.inl h3)))];exact qdh
    ·by_cases h4:65536<x.2
     ·rw[if_pos (.inr (.inr (.inr h4)))];exact qdh
     ·have hno:¬(x.1≤w∨11<x.1∨x.2<1∨65536<x.2):=jA
      rw[if_neg hno];rw[if_neg hno]at hquo;refine gX ?_;refine qeK ?_;exact H.ag (i+1,x.1) ⟨by show i+1≤l.length;omega,by first|rfl|exact hw.trans hquo⟩ jg
 ·have:i=l.length:=jA
  subst this;rw[List.drop_length];refine gc ?_;exact H.Ae rfl rfl iD ⟨by simp[quo],rfl,rfl⟩
end
def Req.head(r:Req):List UInt8:=[UInt8.ofNat (r.client % 256).toNat,r.kind]
def Req.bytes(r:Req):List UInt8:=r.head++be 8 r.time++be 8 r.amount++textB r.key++textB r.val++textB r.old++textB r.to
def Req.texts(r:Req):List ByteArray:=[r.key,r.val,r.old,r.to]
theorem u8_wrap(z:Int):IntKind.u8.wrap z=((UInt8.ofNat (z % 256).toNat).toNat:Int):=by
 have h:IntKind.u8.wrap z=z % 256:=by simp[IntKind.wrap,IntKind.signed,IntKind.bits]
 rw[h];have h1:0≤z % 256:=Int.emod_nonneg _ jC;have h2:z % 256<256:=Int.emod_lt_of_pos _ jC
 generalize z % 256=y at h1 h2;exact qcA
section
variable (f:Frag) (A:List HP)
theorem request_fn(r:Req)(ha:r.asked)(hl:l.length≤1000000000):Fn prog 163 [.slice p l.length c,.agg r.vals.toArray] f (slc p l.length c 5 1 (bytesV l)::A) (BytesR (l++r.bytes) f A):=by
 refine Fn.e2 func163 ntmps163 fun base=>?_;refine qeM fun xb=>?_;refine gU ?_;rw[u8_wrap];refine qeU fun tb=>?_;refine qih fun p2 c2=>?_;refine gI ?_;refine qeK ?_;have e0:(l++r.head).length=l.length+2:=by rw[lnA];rfl
 have e1:bytesV (l++r.head)=bytesV l++bytesV r.head:=zaf _ _;rw[show(2:Nat)=2 from rfl]
 generalize hl1:l++r.head=l1 at e0 e1;show H _ _ _ _ _ (row _ _ _::slc p2 (l.length+2) c2 _ _ (bytesV l++bytesV r.head)::A) _;rw[←e0,←e1];refine H.draw (qt 3 0++qt 3 4++[(3,true),(7,true)]++qt 1 8) jE jL jF (S:=[_]) rfl ?_;refine gP ?_;refine HQ.event ?_;refine qiv fun b2 hp=>?_;subst hp;refine qiB fun p3 c3=>?_;refine gA ?_;refine qgd ?_;refine H.Au aP0 kM fun b3 hp=>?_;subst hp;refine qkE ?_;refine HQ.event ?_;refine H.Am rfl rfl rfl (zck (l:=l1++be 8 r.time) f _ (Src.slcS at1 jG) (fun h=>by cases h) (by rw[lnA,be_len];omega)) fun p4 c4=>?_;refine gA ?_;refine qgd ?_;refine qkE ?_;refine gK ?_;refine gF ?_;refine qeU fun sb=>?_;refine gT ?_
 have hsz:∀(i:Nat) (s:ByteArray),r.texts[i]?=some s→s.size≤128:=by
  obtain⟨_,_,_,_,⟨k1,k2⟩,k3,k4⟩:=ha;intro i s hs
  have:=List.mem_of_getElem? hs;simp only[Req.texts,List.mem_cons,List.not_mem_nil,or_false]at this
  rcases this with rfl|rfl|rfl|rfl<;>omega
 generalize hl2:l1++be 8 r.time++be 8 r.amount=l2;have e2:l2.length=l1.length+16:=by rw[←hl2,lnA,lnA,be_len,be_len]
 refine H.loop (ι:=Nat×Option Addr×Nat) (fun i=>[(38,.int .i64 (i.1:Int)),(37,.int .i64 4),(36,.slice (some ⟨sb,0,none⟩) 4 4),(0,.slice i.2.1 (l2++(r.texts.take i.1).flatMap textB).length i.2.2)]) (fun _=>f)
  (fun i=>row sb 9 [.string r.key,.string r.val,.string r.old,.string r.to]::row xb 49 r.vals::slc i.2.1 (l2++(r.texts.take i.1).flatMap textB).length i.2.2 5 1 (bytesV (l2++(r.texts.take i.1).flatMap textB))::A)
  (fun i=>i.1≤4∧(l2++(r.texts.take i.1).flatMap textB).length≤l2.length+200*i.1) (fun i=>4-i.1) (0,p4,c4) ?_ ?_ rfl ?_ fun i hi=>?_
 ·exact⟨Nat.zero_le _,by simp⟩
 ·refine⟨rfl,rfl,rfl,?_,trivial⟩;show some (Value.slice p4 l2.length c4)=some (Value.slice p4 (l2++[]).length c4);rw[List.append_nil]
 ·show _=_::_::slc p4 (l2++[]).length c4 _ 1 (bytesV (l2++[]))::A;rw[List.append_nil];rfl
 ·obtain⟨i,p',c'⟩:=i;obtain⟨hi,hlen⟩:i≤4∧(l2++(r.texts.take i).flatMap textB).length≤l2.length+200*i:=hi;show H _ _ _ [(38,.int .i64 (i:Int)),_,_,(0,.slice p' (l2++(r.texts.take i).flatMap textB).length c')] _ (_::_::slc p' (l2++(r.texts.take i).flatMap textB).length c' _ 1 (bytesV (l2++(r.texts.take i).flatMap textB))::A) _;generalize hacc:l2++(r.texts.take i).flatMap textB=acc at hlen;have hpos:l2.length≤acc.length:=by rw[←hacc,lnA];omega
  refine gO ?_;by_cases hlt:i<4
  ·obtain⟨s,hs⟩:∃s,r.texts[i]?=some s:=⟨r.texts[i]'hlt,lgE hlt⟩
   have hv:([.string r.key,.string r.val,.string r.old,.string r.to]:List Value)[i]?=some (.string s):=by
    have:([.string r.key,.string r.val,.string r.old,.string r.to]:List Value)=r.texts.map Value.string:=rfl;rw[this,List.getElem?_map,hs];rfl
   have hs128:=hsz i s hs
   have e3:l2++(r.texts.take (i+1)).flatMap textB=acc++textB s:=by
    rw[List.take_add_one,hs,←hacc];simp
   refine H.Au at2 jA fun b' hp=>?_;subst hp;refine gG ?_;refine H.Bv rfl rfl rfl rfl hlt rfl ?_;refine H.Ab rfl rfl rfl (.of (Rd.ofRow jB) hv) rfl ?_;refine gI ?_;refine H.Am rfl rfl rfl (text_fn (l:=acc) f _ (Src.slcS at2 jG) (fun h=>by cases h) jA jA) fun p5 c5=>?_;refine gS ?_;refine H.Ac (.there _ (.there _ (.there _ (.here _ _)))) ?_;refine qfy ?_;refine qfy ?_;have hts:(textB s).length≤200:=by unfold textB;rw[lnA,be_len,zbu];omega
   refine H.Ar (i+1,p5,c5) ⟨by show i+1≤4;omega,?_⟩ (by show 4-(i+1)<4-i;omega) ⟨rfl,rfl,rfl,?_,trivial⟩ rfl ?_
   ·show(l2++(r.texts.take (i+1)).flatMap textB).length≤l2.length+200*(i+1);rw[e3,lnA];omega
   ·show some _=some (Value.slice p5 (l2++(r.texts.take (i+1)).flatMap textB).length c5);rw[e3]
   ·show _=_::_::slc p5 (l2++(r.texts.take (i+1)).flatMap textB).length c5 _ 1 (bytesV (l2++(r.texts.take (i+1)).flatMap textB))::A;rw[e3]
  ·have:i=4:=jA
   subst this;refine gW ?_;refine qjj ?_;have e4:acc=l++r.bytes:=by rw[←hacc,←hl2,←hl1];simp[Req.bytes,Req.texts]
   subst e4;exact qct
end
section
variable (f:Frag) (A:List HP)
theorem rrequest_fn(r:Req)(ha:r.asked)(hl:l.length≤1000000000):Fn prog 34 [.slice p l.length c,.agg r.vals.toArray] f (slc p l.length c 5 1 (bytesV l)::A) (BytesR (l++r.bytes) f A):=by
 refine Fn.e2 func34 ntmps34 fun base=>?_;refine qeM fun xb=>?_;refine gU ?_;rw[u8_wrap];refine qeU fun tb=>?_;refine qih fun p2 c2=>?_;refine gI ?_;refine qeK ?_;have e0:(l++r.head).length=l.length+2:=by rw[lnA];rfl
 have e1:bytesV (l++r.head)=bytesV l++bytesV r.head:=zaf _ _;rw[show(2:Nat)=2 from rfl]
 generalize hl1:l++r.head=l1 at e0 e1;show H _ _ _ _ _ (row _ _ _::slc p2 (l.length+2) c2 _ _ (bytesV l++bytesV r.head)::A) _;rw[←e0,←e1];refine H.draw (qt 3 0++qt 3 4++[(3,true),(7,true)]++qt 1 8) jE jL jF (S:=[_]) rfl ?_;refine gP ?_;refine HQ.event ?_;refine qiv fun b2 hp=>?_;subst hp;refine H.Am rfl rfl rfl (zcb (l:=l1) f _ (Src.slcS at1 jG) jA) fun p3 c3=>?_;refine gA ?_;refine qgd ?_;refine H.Au aP0 kM fun b3 hp=>?_;subst hp;refine qkE ?_;refine HQ.event ?_;refine H.Am rfl rfl rfl (zcb (l:=l1++be 8 r.time) f _ (Src.slcS at1 jG) (by rw[lnA,be_len];omega)) fun p4 c4=>?_;refine gA ?_;refine qgd ?_;refine qkE ?_;refine gK ?_;refine gF ?_;obtain⟨_,_,_,_,⟨k1,k2⟩,k3,k4⟩:=ha;generalize hl2:l1++be 8 r.time++be 8 r.amount=l2;have e2:l2.length=l1.length+16:=by rw[←hl2,lnA,lnA,be_len,be_len]
 refine H.Am rfl rfl rfl (rtext_fn (l:=l2) f _ (Src.slcS at1 jG) jA jA) fun p5 c5=>?_;generalize hm0:l2++textB r.key=m0;have em0:m0.length≤l2.length+200:=by rw[←hm0,lnA];unfold textB;rw[lnA,be_len,zbu];omega
 refine gR ?_;refine qgd ?_;refine qeC ?_;skip;refine H.Am rfl rfl rfl (rtext_fn (l:=m0) f _ (Src.slcS at1 jG) jA jA) fun p6 c6=>?_;generalize hm1:m0++textB r.val=m1;have em1:m1.length≤m0.length+200:=by rw[←hm1,lnA];unfold textB;rw[lnA,be_len,zbu];omega
 refine gR ?_;refine qgd ?_;refine qeC ?_;skip;refine H.Am rfl rfl rfl (rtext_fn (l:=m1) f _ (Src.slcS at1 jG) jA jA) fun p7 c7=>?_;generalize hm2:m1++textB r.old=m2;have em2:m2.length≤m1.length+200:=by rw[←hm2,lnA];unfold textB;rw[lnA,be_len,zbu];omega
 refine gR ?_;refine qgd ?_;refine qeC ?_;skip;refine H.Am rfl rfl rfl (rtext_fn (l:=m2) f _ (Src.slcS at1 jG) jA jA) fun p8 c8=>?_;generalize hm3:m2++textB r.to=m3;have em3:m3.length≤m2.length+200:=by rw[←hm3,lnA];unfold textB;rw[lnA,be_len,zbu];omega
 refine gY ?_;refine qgd ?_;refine qeC ?_;skip;refine qeK ?_;have e9:m3=l++r.bytes:=by rw[←hm3,←hm2,←hm1,←hm0,←hl2,←hl1];simp[Req.bytes]
 subst e9;exact H.r1 ⟨p8,c8,rfl,rfl,rfl⟩
end
def baOf(l:List UInt8):ByteArray:=⟨l.toArray⟩
variable {P:Program}
theorem H.cutOpen{base:World}{L:Env}{K:Kont}{cb:Nat}{sp:Bool}
  (k:∀p c,BAt f p l→l.length≤c→H P base n L f (row cb 261 [.slice p l.length c,.bool sp]::F) K):H P base n L f (cutH f cb l sp::F) K:=.mk fun a w hf s=>by
 obtain⟨m,hm,hd,hw⟩:=s.mem
 obtain⟨m1,m2,d,rfl,⟨⟨p,c⟩,hh⟩,r⟩:=hm
 obtain⟨n1,n2,dd,rfl,⟨⟨hb,hc⟩,rfl⟩,n3,n4,d3,rfl,h4,h5⟩:=hh
 refine(k p c hb hc).out a w hf ⟨s.os,s.tape,s.output,s.size,s.imm,_,?_,hd,hw⟩
 have e5:n4=nil0:=h5
 subst e5
 rw[nil_un,un_nil]
 rw[nil_un,un_nil]at d
 exact⟨n3,m2,d,rfl,h4,r⟩
def Cs.hash(s:Cs):Nat→UInt8:=fun i=>(s.raw 32).getD i 0
def b32L(t:Nat→UInt8):List UInt8:=[t 0,t 1,t 2,t 3,t 4,t 5,t 6,t 7,t 8,t 9,t 10,t 11,t 12,t 13,t 14,t 15,t 16,t 17,t 18,t 19,t 20,t 21,t 22,t 23,t 24,t 25,t 26,t 27,t 28,t 29,t 30,t 31]
theorem b32_bytes(t:Nat→UInt8):b32 t=bytesV (b32L t):=rfl
variable {α:Type}
theorem list32{l:List α}(h:l.length=32)(z:α):l=[l.getD 0 z,l.getD 1 z,l.getD 2 z,l.getD 3 z,l.getD 4 z,l.getD 5 z,l.getD 6 z,l.getD 7 z,l.getD 8 z,l.getD 9 z,l.getD 10 z,l.getD 11 z,l.getD 12 z,l.getD 13 z,l.getD 14 z,l.getD 15 z,l.getD 16 z,l.getD 17 z,l.getD 18 z,l.getD 19 z,l.getD 20 z,l.getD 21 z,l.getD 22 z,l.getD 23 z,l.getD 24 z,l.getD 25 z,l.getD 26 z,l.getD 27 z,l.getD 28 z,l.getD 29 z,l.getD 30 z,l.getD 31 z]:=by
 match l,h with
 | [_,_,_,_,_,_,_,_,_,_,_,_,_,_,_,_,_,_,_,_,_,_,_,_,_,_,_,_,_,_,_,_],_=>rfl
theorem b32L_get(h:l.length=32):b32L (fun i=>l.getD i 0)=l:=(list32 h 0).symm
section
variable (f:Frag) (F:List HP) (cb:Nat) (s:Cs)
theorem text_cs{most:Nat}(hl:s.l.length≤1000000000000)(hm:most≤100000):Fn prog 210 [.pointer (some ⟨cb,0,none⟩),.int .i64 (most:Nat)] f (cutC f cb s::F) (Ret (.string (baOf (s.text most))) f (cutC f cb (s.textS most)::F)):=by
 have hn:=s.num2_lt;have hh:=half_cs f F cb s hl
 unfold cutC at hh⊢;refine cutH_open fun p c hb hc=>?_
 have fin:¬s.tok most=true→∀x,stars (row cb 261 [.slice p s.l.length c,.bool true]::F) x→stars (cutH f cb (s.textS most).l (s.textS most).bad::F) x:=fun ht=>by
  unfold Cs.textS;rw[if_neg ht];exact zbm hb hc
 by_cases h2:s.ok 2=true
 ·obtain⟨hb0,hl2⟩:=(Cs.ok_iff _ _).1 h2;have hs:s.skip 2=⟨s.l.drop 2,false⟩:=by unfold Cs.skip;rw[if_pos h2]
  rw[hs]at hh;generalize hk:s.num 2=k at hn hh;by_cases h3:k≤most
  ·by_cases h4 : k ≤ (s.l.drop 2).length
   ·have ht:s.tok most=true:=by
     exact qdG
    have e1:s.text most=(s.l.drop 2).take k:=by unfold Cs.text;rw[if_pos ht,hk]
    have e2:s.textS most=⟨(s.l.drop 2).drop k,false⟩:=by unfold Cs.textS;rw[if_pos ht,hk,List.drop_drop]
    rw[e1,e2];have hlen:((s.l.drop 2).take k).length=k:=by rw[List.length_take];omega
    refine Fn.e2 func210 ntmps210 fun base=>?_;refine qjL fun p2 c2 hb2 hc2=>?_;refine gg ?_;refine H.imp (zbm hb2 hc2) ?_;have hty:=take_yes f F cb h4 kU;refine H.callP rfl rfl rfl hty fun i hb3=>?_
    obtain⟨p3,c3⟩:=i;have hb3:BAt f p3 ((s.l.drop 2).take k):=hb3;refine gF ?_
    refine H.cutOpen fun p4 c4 hb4 hc4=>?_;refine gU ?_;have hsrc:∀A,Src prog f A (.slice p3 ((s.l.drop 2).take k).length c3) 1 ((s.l.drop 2).take k).length (bytesV ((s.l.drop 2).take k)):=fun A=>hb3.src;have hnil:p3=none→(s.l.drop 2).take k=[]:=fun hp=>by rcases hb3 with h|⟨b,off,cs,T,fr,h,_⟩;exact h;rw[hp]at h;cases h
    refine H.Bh (d:=41) (u:=.slice p3 ((s.l.drop 2).take k).length c3) rfl (by rw[hlen]) ?_;refine H.convBS rfl rfl (hsrc _) hnil rfl ?_;refine gT ?_;exact H.Ae rfl rfl (zbm hb4 hc4) ⟨rfl,rfl,rfl⟩
   ·have ht:¬s.tok most=true:=by
     exact qdG
    have e1:s.text most=[]:=by unfold Cs.text;rw[if_neg ht]
    rw[e1];refine Fn.e2 func210 ntmps210 fun base=>?_;refine qjL fun p2 c2 hb2 hc2=>?_;refine gg ?_;refine H.imp (zbm hb2 hc2) ?_;refine H.Af rfl rfl rfl (take_no f F cb (.inr (.inr (by show((s.l.drop 2).length:Int)<_;omega)))) ?_;refine gF ?_;refine H.cutOpen fun p4 c4 hb4 hc4=>?_;refine gR ?_;exact H.Ae rfl rfl (fin ht) ⟨rfl,rfl,rfl⟩
  ·have ht:¬s.tok most=true:=by
    simp[Cs.tok,h2,hk,h3]
   have e1:s.text most=[]:=by unfold Cs.text;rw[if_neg ht]
   rw[e1];exact qaQ
 ·have ht:¬s.tok most=true:=by simp[Cs.tok,h2]
  have e1:s.text most=[]:=by unfold Cs.text;rw[if_neg ht]
  have hs:s.skip 2=⟨s.l,true⟩:=by unfold Cs.skip;rw[if_neg h2]
  rw[hs]at hh;rw[e1];generalize hk:s.num 2=k at hn hh;exact qaQ
theorem hash_cs(hl:s.l.length≤1000000000):Fn prog 181 [.pointer (some ⟨cb,0,none⟩)] f (cutC f cb s::F) (Ret (.agg (b32 s.hash).toArray) f (cutC f cb (s.skip 32)::F)):=by
 refine Fn.e1 func181 ntmps181 fun base=>?_;refine gA ?_;refine H.Aj rfl rfl rfl fun hb=>?_;refine gA ?_;refine H.db (S:=[]) rfl ?_;refine HB.qu [0,1] 2 ?_;refine qeF ?_;refine gB ?_;refine qeo ?_;refine HB.ev 2 ?_;refine qeC ?_;refine H.Am rfl rfl rfl (raw_cs f _ cb s 32 jA) fun p1 c1=>?_;refine qeg ?_;refine HB.ev 3 ?_;by_cases h:s.ok 32=true
 ·have hr:(s.raw 32).length=32:=by
   unfold Cs.raw;rw[if_pos h,List.length_take]
   have:=((Cs.ok_iff _ _).1 h).2;omega
  have hs:Src prog f _ (.slice p1 (s.raw 32).length c1) 1 (s.raw 32).length (bytesV (s.raw 32)):=Src.slcS (.here (cutC f cb (s.skip 32)::row hb 47 (zeros [.int .u8 0] 32)::F) _ (slc p1 (s.raw 32).length c1 5 1 (bytesV (s.raw 32)))) jG;refine H.copy rfl rfl rfl rfl hs.len (k0:=(s.raw 32).length) (by rw[hr];rfl) hs.cells (ls':=bytesV (s.raw 32)) ?_ ?_ (zaj _) jB ?_
  ·unfold splice;rw[zac,hr];exact List.append_nil _
  ·rw[zac,hr];exact Nat.le_refl _
  refine qjr ?_;have e:bytesV (s.raw 32)=b32 s.hash:=by rw[b32_bytes];unfold Cs.hash;rw[b32L_get hr]
  rw[e];refine H.Ad (ls:=b32 s.hash) rfl rfl rfl (Rd.ofRow jB) rfl rfl ?_;refine H.Ag (ls:=b32 s.hash) (vs:=b32 s.hash) (ls':=b32 s.hash) rfl rfl rfl (zaa rfl) rfl rfl (Nat.le_refl 32) jB ?_;exact qee
 ·have hr:s.raw 32=[]:=by unfold Cs.raw;rw[if_neg h]
  have hh:b32 s.hash=zeros [.int .u8 0] 32:=by unfold Cs.hash;rw[hr];rfl
  rw[hr,hh];refine H.copy (m:=0) (k0:=0) (cs:=[]) (ls':=zeros [.int .u8 0] 32) rfl rfl rfl rfl (fun w=>rfl) rfl (fun base w sa=>?_) rfl jC (fun v hv=>by cases hv) jB ?_
  ·cases p1 with
   |none=>exact run_firstCells_none w 1 0 0 c1
   |some a=>exact run_firstCells_some w 1 0 a 0 c1 [] jK jK
  refine qjr ?_;refine H.Ad (ls:=zeros [.int .u8 0] 32) rfl rfl rfl (Rd.ofRow jB) rfl rfl ?_;refine H.Ag (ls:=zeros [.int .u8 0] 32) (vs:=zeros [.int .u8 0] 32) (ls':=zeros [.int .u8 0] 32) rfl rfl rfl (zaa rfl) rfl rfl (Nat.le_refl 32) jB ?_;exact qee
end
def Cs.byte(s:Cs):UInt8:=UInt8.ofNat (s.num 1)
theorem Cs.byte_nat(s:Cs):((s.byte.toNat:Nat):Int)=(s.num 1:Nat):=by
 have:=s.num1_lt;unfold Cs.byte;rw[UInt8.toNat_ofNat'];omega
def Cs.req(mk mv:Nat)(s:Cs):Req:=
 let c1:=s.skip 1
 let c2:=c1.skip 1
 let c3:=c2.skip 8
 let c4:=c3.skip 8
 let c5:=c4.textS mk
 let c6:=c5.textS mv
 let c7:=c6.textS mv
 let c8:=c7.textS mk
 ⟨(s.num 1:Nat),(c2.num 8:Nat),c1.byte,baOf (c4.text mk),baOf (c5.text mv),baOf (c6.text mv),baOf (c7.text mk),(c3.num 8:Nat),c8.hash⟩
def Cs.reqS(mk mv:Nat)(s:Cs):Cs:=((((((((s.skip 1).skip 1).skip 8).skip 8).textS mk).textS mv).textS mv).textS mk).skip 32
def Cs.pairs:Nat→Cs→List (Int×Int)→List (Int×Int)×Cs
 |0,s,acc=>(acc,s)
 |n+1,s,acc=>if s.bad then(acc,s)else Cs.pairs n ((s.skip 1).skip 8) (acc++[(((s.num 1:Nat):Int),(((s.skip 1).num 8:Nat):Int))])
def noTag:Nat→UInt8:=fun _=>0
def Bod.zero(kind:UInt8):Bod:=⟨kind,0,0,Req.zero,[],noTag⟩
def b8(n:Int):UInt8:=UInt8.ofNat (n % 256).toNat
def pairB(p:Int×Int):List UInt8:=b8 p.1::be 8 p.2
def Bod.putK(x:Bod):Nat→List UInt8
 |1=>be 8 x.view++x.req.bytes++b32L x.req.tag
 |2=>be 8 x.view++be 8 x.k
 |3=>be 8 x.view
 |4=>be 8 x.view++[b8 x.q.length]++x.q.flatMap pairB
 |5=>be 8 x.view
 |6=>be 8 x.k++b32L x.dig
 |_=>[]
def Bod.put(x:Bod):List UInt8:=x.putK x.kind.toNat
def Cs.bodyK(mk mv:Nat)(kind:UInt8)(s:Cs):Nat→Bod×Cs
 |1=>({Bod.zero kind with view:=(s.num 8:Nat),req:=(s.skip 8).req mk mv},(s.skip 8).reqS mk mv)
 |2=>({Bod.zero kind with view:=(s.num 8:Nat),k:=((s.skip 8).num 8:Nat)},(s.skip 8).skip 8)
 |3=>({Bod.zero kind with view:=(s.num 8:Nat)},s.skip 8)
 | 4 => let r := Cs.pairs ((s.skip 8).num 1) ((s.skip 8).skip 1) []
  ({Bod.zero kind with view:=(s.num 8:Nat),q:=r.1},r.2)
 |5=>({Bod.zero kind with view:=(s.num 8:Nat)},s.skip 8)
 |6=>({Bod.zero kind with k:=(s.num 8:Nat),dig:=(s.skip 8).hash},(s.skip 8).skip 32)
 |_=>(Bod.zero kind,s)
def Bod.ownK(x:Bod):Nat→Bod
 |1=>{Bod.zero x.kind with view:=x.view,req:=x.req}
 |2=>{Bod.zero x.kind with view:=x.view,k:=x.k}
 |3=>{Bod.zero x.kind with view:=x.view}
 |4=>{Bod.zero x.kind with view:=x.view,q:=x.q}
 |5=>{Bod.zero x.kind with view:=x.view}
 |6=>{Bod.zero x.kind with k:=x.k,dig:=x.dig}
 |_=>Bod.zero x.kind
def Bod.own(x:Bod):Bod:=x.ownK x.kind.toNat
def Bod.mayK(x:Bod):Nat→Bool
 |1=>decide x.req.asked
 |2=>decide (1≤x.k∧x.k≤4611686018427387904)
 |3=>decide (1≤x.view)
 |4=>decide (1≤x.view)&&(quo 0 x.q&&decide (0<x.q.length))
 |5=>decide (1≤x.view)
 |6=>decide (1≤x.k∧x.k≤4611686018427387904)
 |_=>false
variable {l':List Value}
theorem SetV.app{l:List Value}{i:Nat}(h:SetV l i v l')(post:List Value):SetV (l++post) i v (l'++post):=by
 induction h with
 |here x v t=>exact .here _ _ _
 |there x h ih=>exact .there _ ih
theorem SetV.mid{l:List Value}{i:Nat}(h:SetV l i v l')(pre post:List Value):SetV (pre++l++post) (pre.length+i) v (pre++l'++post):=by
 rw[List.append_assoc,List.append_assoc]
 induction pre with
 |nil=>rw[List.length_nil,Nat.zero_add];exact h.app post
 | cons p pre ih =>
  exact qcZ
theorem splice_mid(pre l post:List Value)(i:Nat)(vs:List Value)(h:i+vs.length≤l.length):splice (pre++l++post) (pre.length+i) vs=pre++splice l i vs++post:=by
 unfold splice
 have e1:(pre++l++post).take (pre.length+i)=pre++l.take i:=by
  rw[List.append_assoc,List.take_length_add_append,List.take_append_of_le_length jA]
 have e2:(pre++l++post).drop (pre.length+i+vs.length)=l.drop (i+vs.length)++post:=by
  rw[Nat.add_assoc,List.append_assoc,List.drop_length_add_append,List.drop_append_of_le_length h]
 rw[e1,e2];simp only[List.append_assoc]
def bodAt(xb:Nat)(T:TypeId)(pre post:List Value)(x:Bod)(qp:Option Addr)(qc:Nat):HP:=row xb T (pre++x.vals qp qc++post)
theorem Bod.vals_len(x:Bod)(qp:Option Addr)(qc:Nat):(x.vals qp qc).length=76:=rfl
section
variable (f:Frag) (F:List HP) (cb:Nat) (s:Cs) (xb:Nat) (T:TypeId) (pre post:List Value)
theorem getReq_cs(hl:s.l.length≤1000000000):Fn prog 166 [.pointer (some ⟨cb,0,none⟩)] f (cutC f cb s::F) (Ret (.agg (s.req 32 128).vals.toArray) f (cutC f cb (s.reqS 32 128)::F)):=by
 unfold Cs.req Cs.reqS;dsimp only;have a1:=s.skip_len 1;have n1:=s.num1_lt
 refine Fn.e1 func166 ntmps166 fun base=>?_;refine H.seq (H.Bg ?_);refine qgN fun rb=>?_;refine gI ?_;refine qeC ?_;refine H.Af rfl rfl rfl (byte_cs f _ cb s jA) ?_;refine gW ?_;generalize hs1:s.skip 1=s1 at a1⊢;have a2:=s1.skip_len 1;refine H.Af rfl rfl rfl (byte_cs f _ cb s1 jA) ?_
 rw[←Cs.byte_nat s1];generalize hs2:s1.skip 1=s2 at a2⊢;have a3:=s2.skip_len 8;refine gR ?_
 refine H.Af rfl rfl rfl (word_cs f _ cb s2 jA) ?_;generalize hs3:s2.skip 8=s3 at a3⊢;have a4:=s3.skip_len 8;refine gI ?_
 refine H.Af rfl rfl rfl (word_cs f _ cb s3 jA) ?_;generalize hs4:s3.skip 8=s4 at a4⊢;have a5:=s4.textS_len 32;refine gR ?_
 refine H.Af rfl rfl rfl (text_cs f _ cb s4 (most:=32) jA jC) ?_;generalize hs5:s4.textS 32=s5 at a5⊢;have a6:=s5.textS_len 128;refine gI ?_
 refine H.Af rfl rfl rfl (text_cs f _ cb s5 (most:=128) jA jC) ?_;generalize hs6:s5.textS 128=s6 at a6⊢;have a7:=s6.textS_len 128;refine gR ?_
 refine H.Af rfl rfl rfl (text_cs f _ cb s6 (most:=128) jA jC) ?_;generalize hs7:s6.textS 128=s7 at a7⊢;have a8:=s7.textS_len 32;refine gI ?_
 refine H.Af rfl rfl rfl (text_cs f _ cb s7 (most:=32) jA jC) ?_;generalize hs8:s7.textS 32=s8 at a8⊢;refine gR ?_;refine H.Af rfl rfl rfl (hash_cs f _ cb s8 jA) ?_;refine gH ?_;generalize hr:(⟨(s.num 1:Nat),(s2.num 8:Nat),s1.byte,baOf (s4.text 32),baOf (s5.text 128),baOf (s6.text 128),baOf (s7.text 32),(s3.num 8:Nat),s8.hash⟩:Req)=r;refine H.Ag (vs:=b32 s8.hash) (ls':=r.vals) rfl rfl rfl (zaa rfl) rfl ?_ ?_ jB ?_
 ·subst hr;rfl
 ·exact(show 8+32≤40 by decide)
 refine gA ?_;refine H.Ad (ls:=r.vals) rfl rfl rfl (Rd.ofRow jB) rfl rfl ?_;refine H.Ag (ls:=r.vals) (vs:=r.vals) (ls':=r.vals) rfl rfl rfl (zaa rfl) rfl rfl (Nat.le_refl 40) jB ?_;refine gT ?_;exact qbs
theorem get_view(hl:s.l.length≤1000000000)(x:Bod)(qp:Option Addr)(qc:Nat):Fn prog 212 [.pointer (some ⟨cb,0,none⟩),.pointer (some ⟨xb,pre.length,none⟩)] f (cutC f cb s::bodAt xb T pre post x qp qc::F)
   (Ret (.tuple #[]) f (cutC f cb (s.skip 8)::bodAt xb T pre post {x with view:=(s.num 8:Nat)} qp qc::F)):=by
 refine Fn.e2 func212 ntmps212 fun base=>?_;repeat(first|((apply H.Aw);(iterate 3 exact rfl))|(apply H.Bg))
 refine H.Af rfl rfl rfl (word_cs f _ cb s jA) ?_;repeat(first|((apply H.Bd);(iterate 3 exact rfl))|(apply H.Bn;(iterate 3 exact rfl);exact inferInstance;exact rfl)|(apply H.Ba;(iterate 4 exact rfl);(repeat(first|exact .here _ _ _|apply At.there))))
 ·exact qbe
 refine gA ?_;exact qaR
theorem get_commit(hl:s.l.length≤1000000000)(x:Bod)(qp:Option Addr)(qc:Nat):Fn prog 170 [.pointer (some ⟨cb,0,none⟩),.pointer (some ⟨xb,pre.length,none⟩)] f (cutC f cb s::bodAt xb T pre post x qp qc::F)
   (Ret (.tuple #[]) f (cutC f cb ((s.skip 8).skip 8)::bodAt xb T pre post {x with view:=(s.num 8:Nat),k:=((s.skip 8).num 8:Nat)} qp qc::F)):=by
 have a1:=s.skip_len 8;refine Fn.e2 func170 ntmps170 fun base=>?_
 refine qhi ?_;refine H.Af rfl rfl rfl (word_cs f _ cb (s.skip 8) jA) ?_;repeat(first|((apply H.Bd);(iterate 3 exact rfl))|(apply H.Bn;(iterate 3 exact rfl);exact inferInstance;exact rfl)|(apply H.Ba;(iterate 4 exact rfl);(repeat(first|exact .here _ _ _|apply At.there))))
 ·exact qbe
 repeat(first|((apply H.Bd);(iterate 3 exact rfl))|(apply H.Bn;(iterate 3 exact rfl);exact inferInstance;exact rfl)|(apply H.Ba;(iterate 4 exact rfl);(repeat(first|exact .here _ _ _|apply At.there))))
 ·exact SetV.mid (l:=({x with view:=(s.num 8:Nat)}:Bod).vals qp qc) (l':=({x with view:=(s.num 8:Nat),k:=((s.skip 8).num 8:Nat)}:Bod).vals qp qc) (i:=2) jJ pre post
 refine gA ?_;exact qaR
theorem get_check(hl:s.l.length≤1000000000)(x:Bod)(qp:Option Addr)(qc:Nat):Fn prog 180 [.pointer (some ⟨cb,0,none⟩),.pointer (some ⟨xb,pre.length,none⟩)] f (cutC f cb s::bodAt xb T pre post x qp qc::F)
   (Ret (.tuple #[]) f (cutC f cb ((s.skip 8).skip 32)::bodAt xb T pre post {x with k:=(s.num 8:Nat),dig:=(s.skip 8).hash} qp qc::F)):=by
 have a1:=s.skip_len 8;refine Fn.e2 func180 ntmps180 fun base=>?_
 refine qhi ?_;refine H.Af rfl rfl rfl (hash_cs f _ cb (s.skip 8) jA) ?_;repeat(first|((apply H.Bd);(iterate 3 exact rfl))|(apply H.Bn;(iterate 3 exact rfl);exact inferInstance;exact rfl)|(apply H.Ba;(iterate 4 exact rfl);(repeat(first|exact .here _ _ _|apply At.there))))
 ·exact SetV.mid (l:=x.vals qp qc) (l':=({x with k:=(s.num 8:Nat)}:Bod).vals qp qc) (i:=2) jJ pre post
 refine gF ?_;refine H.Ag (vs:=b32 (s.skip 8).hash) (ls':=pre++({x with k:=(s.num 8:Nat),dig:=(s.skip 8).hash}:Bod).vals qp qc++post) rfl rfl rfl (zaa rfl) rfl ?_ ?_ at1 ?_
 ·exact splice_mid pre (({x with k:=(s.num 8:Nat)}:Bod).vals qp qc) post 44 _ (Nat.le_refl 76)
 ·rw[lnA,lnA,Bod.vals_len];show pre.length+44+32≤_;omega
 refine gA ?_;exact qaR
theorem get_prepare(hl:s.l.length≤1000000000)(x:Bod)(qp:Option Addr)(qc:Nat):Fn prog 164 [.pointer (some ⟨cb,0,none⟩),.pointer (some ⟨xb,pre.length,none⟩)] f (cutC f cb s::bodAt xb T pre post x qp qc::F)
   (Ret (.tuple #[]) f (cutC f cb ((s.skip 8).reqS 32 128)::bodAt xb T pre post {x with view:=(s.num 8:Nat),req:=(s.skip 8).req 32 128} qp qc::F)):=by
 have a1:=s.skip_len 8;refine Fn.e2 func164 ntmps164 fun base=>?_
 refine qhi ?_;refine H.Af rfl rfl rfl (getReq_cs f _ cb (s.skip 8) jA) ?_;generalize(s.skip 8).req 32 128=r;repeat(first|((apply H.Bd);(iterate 3 exact rfl))|(apply H.Bn;(iterate 3 exact rfl);exact inferInstance;exact rfl)|(apply H.Ba;(iterate 4 exact rfl);(repeat(first|exact .here _ _ _|apply At.there))))
 ·exact qbe
 refine gF ?_;refine H.Ag (vs:=r.vals) (ls':=pre++({x with view:=(s.num 8:Nat),req:=r}:Bod).vals qp qc++post) rfl rfl rfl (zaa rfl) rfl ?_ ?_ at1 ?_
 ·exact splice_mid pre (({x with view:=(s.num 8:Nat)}:Bod).vals qp qc) post 3 _ (show 3+40≤76 by decide)
 ·rw[lnA,lnA,Bod.vals_len];show pre.length+3+40≤_;omega
 refine gA ?_;exact qaR
end
theorem BAt.first{k0:Nat}(h:BAt f p l)(hk:k0≤l.length):∀base w,Sat base w f A→(Builtin.firstCells 1 k0 (.slice p l.length c)).run P w= .ok (bytesV (l.take k0)).toArray w:=fun base w s=>by
 rcases h with rfl|⟨b,off,cs,T,fr,rfl,hb,hc⟩
 ·have h0:k0=0:=Nat.le_zero.1 hk
  subst h0
  exact(BAt.src (P:=P) (A:=A) (c:=c) (p:=p) (l:=[]) (.inl rfl)).cells base w s
 ·have hrd:Rd f A b off (bytesV l):=Rd.imm hb (fun i hi=>hc i (by rwa [zac]at hi))
  have:=firstCells_part (P:=P) (m:=l.length) (c:=c) (k0:=k0) hrd (by rw[zac];exact hk) base w s
  rwa [show(bytesV l).take k0=bytesV (l.take k0)from List.map_take.symm]at this
def spliceB(part:List UInt8)(n:Nat)(c:List UInt8):List UInt8:=part.take n++c++part.drop (n+c.length)
theorem blocks_app(s:Sha.S8)(b c:List UInt8):∀q,64*q≤b.length→Sha.blocks s (b++c) q=Sha.blocks s b q
 |0,_=>rfl
 | q + 1, h => by
  have ih:=blocks_app s b c q jA
  show Sha.block (Sha.blocks s (b++c) q) (((b++c).drop (64*q)).take 64)=Sha.block (Sha.blocks s b q) ((b.drop (64*q)).take 64)
  rw[ih,List.drop_append_of_le_length jA,List.take_append_of_le_length kU]
structure HSt(b:List UInt8)(s:Sha.S8)(part:List UInt8)(n:Nat):Prop where
 q:∃q,b.length=64*q+n∧s=Sha.blocks Sha.start b q∧part.take n=b.drop (64*q)
 lt:n<64
 len:part.length=64
theorem spliceB_len{part c:List UInt8}(h:part.length=64)(hn:n+c.length≤64):(spliceB part n c).length=64:=by
 unfold spliceB;rw[lnA,lnA,List.length_take,List.length_drop,h];omega
theorem spliceB_take{part c:List UInt8}(h:part.length=64)(hn:n+c.length≤64):(spliceB part n c).take (n+c.length)=part.take n++c:=by
 unfold spliceB;rw[List.take_append_of_le_length kE,List.take_of_length_le kE]
theorem HSt.more{b:List UInt8}{part c:List UInt8}(h:HSt b s part n)(hn:n+c.length<64):HSt (b++c) s (spliceB part n c) (n+c.length):=by
 obtain⟨⟨q,h1,h2,h3⟩,h4,h5⟩:=h;refine⟨⟨q,by rw[lnA];omega,by rw[h2,blocks_app _ b c q jA],?_⟩,hn,spliceB_len h5 jA⟩;rw[spliceB_take h5 jA,h3,List.drop_append_of_le_length jA]
theorem HSt.full{b:List UInt8}{part c:List UInt8}(h:HSt b s part n)(hn:n+c.length=64):HSt (b++c) (Sha.block s (spliceB part n c)) (spliceB part n c) 0:=by
 obtain⟨⟨q,h1,h2,h3⟩,h4,h5⟩:=h;have hl:=spliceB_len (c:=c) (n:=n) h5 jA;have ht:=spliceB_take (c:=c) (n:=n) h5 jA
 rw[hn,List.take_of_length_le jA]at ht;have hd:(b++c).drop (64*q)=spliceB part n c:=by rw[ht,h3,List.drop_append_of_le_length jA]
 refine⟨⟨q+1,by rw[lnA];omega,?_,?_⟩,by decide,hl⟩
 ·show _=Sha.block (Sha.blocks Sha.start (b++c) q) (((b++c).drop (64*q)).take 64);rw[hd,List.take_of_length_le jA,blocks_app _ b c q jA,←h2]
 ·rw[List.take_zero,List.drop_eq_nil_of_le kM]
def hRow(s:Sha.S8)(part:List UInt8)(n all:Nat):List Value:=s.vals++bytesV part++[.int .i64 (n:Nat),.int .u64 (all:Nat)]
theorem hRow_len(s:Sha.S8)(part:List UInt8)(n all:Nat)(h:part.length=64):(hRow s part n all).length=74:=by
 unfold hRow;rw[lnA,lnA,zac,h];rfl
theorem hRow_n(s:Sha.S8)(part:List UInt8)(n all:Nat)(h:part.length=64):(hRow s part n all)[72]?=some (.int .i64 (n:Nat)):=by
 exact qbY
theorem hRow_all(s:Sha.S8)(part:List UInt8)(n all:Nat)(h:part.length=64):(hRow s part n all)[73]?=some (.int .u64 (all:Nat)):=by
 exact qbY
theorem hRow_setn(s:Sha.S8)(part:List UInt8)(n m all:Nat)(h:part.length=64):SetV (hRow s part n all) 72 (.int .i64 (m:Nat)) (hRow s part m all):=by
 have hl:(s.vals++bytesV part).length=72:=by rw[lnA,zac,h];rfl
 have:=SetV.mid (SetV.here (.int .i64 (n:Nat)) (.int .i64 (m:Nat)) [.int .u64 (all:Nat)]) (s.vals++bytesV part) [];exact qdS
theorem hRow_setall(s:Sha.S8)(part:List UInt8)(n all al2:Nat)(h:part.length=64):SetV (hRow s part n all) 73 (.int .u64 (al2:Nat)) (hRow s part n al2):=by
 have hl:(s.vals++bytesV part).length=72:=by rw[lnA,zac,h];rfl
 have:=SetV.mid (SetV.there (.int .i64 (n:Nat)) (SetV.here (.int .u64 (all:Nat)) (.int .u64 (al2:Nat)) [])) (s.vals++bytesV part) [];exact qdS
theorem hRow_part(s:Sha.S8)(part c:List UInt8)(n all:Nat)(h:part.length=64)(hn:n+c.length≤64):splice (hRow s part n all) (8+n) (bytesV c)=hRow s (spliceB part n c) n all:=by
 unfold hRow
 have:=splice_mid s.vals (bytesV part) [.int .i64 (n:Nat),.int .u64 (all:Nat)] n (bytesV c) (by rw[zac,zac,h];exact hn);rw[show s.vals.length=8 from rfl]at this
 rw[this];congr 2;unfold splice spliceB;rw[zaf,zaf,zac];unfold bytesV;rw[List.map_take,List.map_drop]
theorem hRow_s(s s2:Sha.S8)(part:List UInt8)(n all:Nat):splice (hRow s part n all) 0 s2.vals=hRow s2 part n all:=by
 unfold hRow splice;rw[List.take_zero,List.nil_append,List.append_assoc,List.append_assoc];rfl
variable {hb:Nat} {T:TypeId}
theorem hRow_rdp{part:List UInt8}{all:Nat}(h:At A (row hb T (hRow s part n all)) A' (row hb T (hRow s part n all))):Rd f A hb (0+8) (bytesV part):=by
 have h1:=Rd.ofRow (f:=f) h;exact h1.sub rfl
theorem hRow_rds{part:List UInt8}{all:Nat}(h:At A (row hb T (hRow s part n all)) A' (row hb T (hRow s part n all))):Rd f A hb (0+0) s.vals:=by
 have h1:=Rd.ofRow (f:=f) h;unfold hRow at h1
 rw[List.append_assoc]at h1;exact Rd.sub (pre:=[]) h1 rfl
def hashH(hb:Nat)(b:List UInt8):HP:=pack (fun i:Sha.S8×List UInt8×Nat=>HSt b i.1 i.2.1 i.2.2) (fun i=>[row hb 295 (hRow i.1 i.2.1 i.2.2 b.length)])
theorem hashH_fold{b:List UInt8}{part:List UInt8}(h:HSt b s part n):∀x,stars (row hb 295 (hRow s part n b.length)::F) x→stars (hashH hb b::F) x:=
 pack_fold (ι:=Sha.S8×List UInt8×Nat) (B:=fun i=>[row hb 295 (hRow i.1 i.2.1 i.2.2 b.length)]) (s,part,n) h
section
variable (f:Frag) (F:List HP)
theorem sstart_fn:Fn prog 234 [] f F (Ret (.agg Sha.start.vals.toArray) f F):=by
 refine Fn.e0 func234 ntmps234 fun base=>?_;exact qbb
theorem HSt.new:HSt [] Sha.start (List.replicate 64 0) 0:=⟨⟨0,rfl,rfl,rfl⟩,by decide,by rw[List.length_replicate]⟩
theorem snew_fn:Fn prog 230 [] f F (RetE (fun hb=>.pointer (some ⟨hb,0,none⟩)) f (fun hb=>hashH hb []::F)):=by
 refine Fn.e0 func230 ntmps230 fun base=>?_;refine gI ?_;refine H.Af rfl rfl rfl (sstart_fn f _) ?_;refine H.Ay (out:=hRow Sha.start (List.replicate 64 0) 0 0) rfl rfl rfl jE rfl ?_;refine H.box (ls:=hRow Sha.start (List.replicate 64 0) 0 0) rfl rfl rfl rfl fun hb=>?_;refine gT ?_;refine H.imp (hashH_fold (b:=[]) HSt.new) ?_;exact H.r1 ⟨hb,rfl,rfl,rfl⟩
theorem swrite_fn(htab:TabAt f){b c:List UInt8}{cap:Nat}(hc:BAt f p c)(hcap:c.length≤cap)(hl:b.length+c.length≤1000000000000):Fn prog 231 [.pointer (some ⟨hb,0,none⟩),.slice p c.length cap] f (hashH hb b::F) (Ret (.tuple #[]) f (hashH hb (b++c)::F)):=by
 refine qjX fun i0 hi0=>?_;obtain⟨s0,part0,n0⟩:=i0;have hi0:HSt b s0 part0 n0:=hi0;have hlen0:=hi0.len
 have e1:IntKind.u64.wrap ((b.length:Int)+((c.length:Nat):Int))=(((b++c).length:Nat):Int):=by rw[wr_u64 jA,lnA];omega
 have e2:IntKind.u64.wrap ((c.length:Nat):Int)=((c.length:Nat):Int):=wr_u64 jA;refine Fn.e2 func231 ntmps231 fun base=>?_
 show H _ _ _ _ _ (row hb _ (hRow s0 part0 n0 b.length)::F) _;repeat(first|(refine H.Ab rfl rfl rfl (.at0 (Rd.ofRow jB) (hRow_all s0 part0 n0 b.length hlen0)) rfl ?_)|(apply H.ar;(iterate 4 exact rfl);exact e1;exact rfl)|(refine H.Ba (v:=.int .u64 (((b++c).length:Nat):Int)) (ls':=hRow s0 part0 n0 (b++c).length) rfl rfl rfl rfl jB (hRow_setall s0 part0 n0 b.length (b++c).length hlen0) ?_)|(refine gh ?_))
 have hst0:HSt (b++c.take 0) s0 part0 n0:=by rw[List.take_zero,List.append_nil];exact hi0
 clear hi0 hlen0 e1 e2
 refine H.lo (ι:=Nat×Sha.S8×List UInt8×Nat×Option Addr×Nat) (fun i=>[(0,.pointer (some ⟨hb,0,none⟩)),(1,.slice i.2.2.2.2.1 (c.length-i.1) i.2.2.2.2.2)]) (fun _=>f)
  (fun i=>row hb 295 (hRow i.2.1 i.2.2.1 i.2.2.2.1 (b++c).length)::F) (fun i=>i.1≤c.length∧HSt (b++c.take i.1) i.2.1 i.2.2.1 i.2.2.2.1∧BAt f i.2.2.2.2.1 (c.drop i.1)∧c.length-i.1≤i.2.2.2.2.2) (fun i=>c.length-i.1)
  (0,s0,part0,n0,p,cap) ⟨Nat.zero_le _,hst0,by rw[List.drop_zero];exact hc,by omega⟩ fun i hi=>?_
 obtain⟨m,s,part,n,q,qc⟩:=i;obtain⟨hm,hst,hq,hqc⟩:m≤c.length∧HSt (b++c.take m) s part n∧BAt f q (c.drop m)∧c.length-m≤qc:=hi;have hlen:=hst.len;have hn:=hst.lt
 show H _ _ _ [_,(1,.slice q (c.length-m) qc)] _ (row hb _ (hRow s part n (b++c).length)::F) _;by_cases hlt:m<c.length
 ·obtain⟨k,hk⟩:∃k,Nat.min (c.length-m) (64-n)=k:=⟨_,rfl⟩;have hk1:k≤c.length-m∧k≤64-n∧(k=c.length-m∨k=64-n):=by rw[←hk,show Nat.min (c.length-m) (64-n)=min (c.length-m) (64-n)from rfl];omega
  have hdl:(c.drop m).length=c.length-m:=List.length_drop;have htl:((c.drop m).take k).length=k:=by rw[List.length_take,hdl];omega
  have htk:c.take m++(c.drop m).take k=c.take (m+k):=by rw[←List.take_add]
  have e3:IntKind.i64.wrap ((n:Int)+(k:Int))=((n+k:Nat):Int):=by rw[wr_i64 jA];omega
  refine gG ?_;refine H.dc [0,1,2,3,4,5,6,7,8] (S:=[_]) rfl ?_;refine HB.qu [0,1,2,3,4,5,6,7,8] 2 ?_;repeat(first|(refine HQ.Ab rfl rfl rfl (.at0 (Rd.ofRow jB) (hRow_n s part n (b++c).length hlen)) rfl ?_)|(refine gi ?_))
  refine HQ.Bt (lo:=some (.tmp 26)) (mx:=none) (hi:=none) (lv:=n) (hv:=64) (mv:=64) rfl rfl ⟨_,_,rfl,rfl⟩ rfl rfl (fun h=>by cases h) jA jA jC rfl ?_;rw[slP_ne jA];refine gB ?_;refine qeA ?_;refine HB.ev 9 ?_
  refine H.copy (k0:=k) (m:=c.length-m) (cs:=bytesV ((c.drop m).take k)) (ls:=hRow s part n (b++c).length) (ls':=hRow s (spliceB part n ((c.drop m).take k)) n (b++c).length) rfl rfl rfl rfl
   (by have:=(BAt.src (P:=prog) (A:=[]) (c:=qc) hq).len;rwa [hdl]at this) hk (by have:=fun A=>BAt.first (P:=prog) (A:=A) (c:=qc) hq (k0:=k) jA;rw[hdl]at this;exact this _)
   (by rw[show 0+8+n*1=8+n by omega];exact hRow_part s part _ n _ hlen jA) (by rw[zac,htl,hRow_len _ _ _ _ hlen];omega) (zaj _) jB ?_
  refine qeg ?_;refine HB.qu [10] 0 ?_;refine qgv ?_;have hlen2:(spliceB part n ((c.drop m).take k)).length=64:=spliceB_len hlen jA;refine gI ?_
  refine H.slice (lo:=some (.tmp 31)) (hi:=none) (mx:=none) (lv:=k) (hv:=c.length-m) (mv:=qc) rfl rfl ⟨_,_,rfl,rfl⟩ rfl rfl (fun h=>by cases h) jA hqc (Nat.le_refl _) rfl ?_;repeat(first|(refine H.Ab rfl rfl rfl (.at0 (Rd.ofRow jB) (hRow_n s _ n (b++c).length hlen2)) rfl ?_)|(apply H.ar;(iterate 4 exact rfl);exact e3;exact rfl)|(refine H.Ba (v:=.int .i64 ((n+k:Nat):Int)) (ls':=hRow s (spliceB part n ((c.drop m).take k)) (n+k) (b++c).length) rfl rfl rfl rfl jB (hRow_setn s _ n (n+k) _ hlen2) ?_)|(refine H.Ab rfl rfl rfl (.at0 (Rd.ofRow jB) (hRow_n s _ (n+k) (b++c).length hlen2)) rfl ?_)|(refine gh ?_))
  have hbat:BAt f (slP q k qc 1) (c.drop (m+k)):=by
   have:=hq.drop (n:=k) (c:=qc) jA jA;rwa [List.drop_drop]at this
  have hsl:c.length-m-k=c.length-(m+k):=jA
  rw[hsl];by_cases hfull:n+k=64
  ·have hst2:HSt (b++c.take (m+k)) (Sha.block s (spliceB part n ((c.drop m).take k))) (spliceB part n ((c.drop m).take k)) 0:=by
    have:=hst.full (c:=(c.drop m).take k) jA;rwa [List.append_assoc,htk]at this
   generalize spliceB part n ((c.drop m).take k)=part2 at hlen2 hst2⊢;refine gG ?_;refine H.drawN jE jL jF ?_;refine HN.move (i:=1) jE rfl rfl rfl rfl ?_;refine HN.phase [0,2,3,4,5,6,7,8,9,10,11,12] (S:=[_]) rfl ?_;refine HB.qu [0,2,3,4,5,6,7,8,9] 7 ?_;repeat(first|(refine HQ.Ad (ls:=s.vals) rfl rfl rfl (hRow_rds jB) rfl rfl ?_)|(refine HQ.Ad (ls:=bytesV part2) rfl rfl rfl (hRow_rdp jB) (by rw[zac];exact hlen2) rfl ?_)|(refine gi ?_))
   refine qeo ?_;refine HB.ev 10 ?_;refine H.Af rfl rfl rfl (sblock_fn f _ htab hlen2) ?_;refine qeg ?_;refine HB.qu [11,12] 4 ?_;refine gP ?_;refine qeA ?_;refine HB.ev 13 ?_;generalize Sha.block s part2=s2 at hst2⊢;refine H.Ag (ls:=hRow s part2 (n+k) (b++c).length) (vs:=s2.vals) (ls':=hRow s2 part2 (n+k) (b++c).length) rfl rfl rfl (zaa rfl) rfl (hRow_s _ _ _ _ _) (by rw[hRow_len _ _ _ _ hlen2];show 8≤74;decide) jB ?_;refine qeg ?_;refine HB.qu [14,15] 1 ?_;refine qfw ?_;refine HB.ev 16 ?_;refine H.Ba (v:=.int .i64 ((0:Nat):Int)) (ls':=hRow s2 part2 0 (b++c).length) rfl rfl rfl rfl jB (hRow_setn s2 part2 (n+k) 0 _ hlen2) ?_;refine qeR ?_;refine gT ?_;exact H.ag (m+k,s2,part2,0,slP q k qc 1,qc-k) ⟨by show m+k≤c.length;omega,hst2,hbat,by show c.length-(m+k)≤qc-k;omega⟩ kR
  ·have hst2:HSt (b++c.take (m+k)) s (spliceB part n ((c.drop m).take k)) (n+k):=by
    have:=hst.more (c:=(c.drop m).take k) jA;rw[List.append_assoc,htk,htl]at this
    exact this
   generalize spliceB part n ((c.drop m).take k)=part2 at hlen2 hst2⊢;refine gc ?_;exact H.ag (m+k,s,part2,n+k,slP q k qc 1,qc-k) ⟨by show m+k≤c.length;omega,hst2,hbat,by show c.length-(m+k)≤qc-k;omega⟩ kR
 ·have hmc:m=c.length:=jA
  rw[hmc,List.take_length]at hst;clear hq hqc hc;subst hmc;refine gc ?_;refine H.imp (hashH_fold hst) ?_;exact qaR
end
variable {x:Bod} {xb qc:Nat}
theorem bodAt_rd{pre post:List Value}{qp:Option Addr}(h:At A (bodAt xb T pre post x qp qc) A' (bodAt xb T pre post x qp qc)):Rd f A xb pre.length (x.vals qp qc):=by
 have h1:=Rd.ofRow (f:=f) h;have h2:=h1.sub (pre:=pre) (l:=x.vals qp qc) (post:=post) rfl
 rwa [Nat.zero_add]at h2
section
variable (f:Frag) (F:List HP) (cb:Nat) (s:Cs) (xb:Nat) (T:TypeId) (pre post:List Value)
def qs(qp:Option Addr)(qc:Nat)(q:List (Int×Int)):HP:=slc qp q.length qc 127 2 (q.flatMap pairV)
theorem pairsV_one:∀(q:List (Int×Int)),∀v∈q.flatMap pairV,one v=true:=by
 intro q v hv;simp only[List.mem_flatMap]at hv;obtain⟨p,_,hp⟩:=hv;simp only[pairV,List.mem_cons,List.not_mem_nil,or_false]at hp;rcases hp with rfl|rfl<;>rfl
theorem get_newview(hl:s.l.length≤1000000000)(x:Bod)(hx:x.q=[]):Fn prog 174 [.pointer (some ⟨cb,0,none⟩),.pointer (some ⟨xb,pre.length,none⟩)] f (cutC f cb s::bodAt xb T pre post x none 0::F)
   (RetE (fun _ : Option Addr × Nat => .tuple #[]) f (fun i => cutC f cb (Cs.pairs ((s.skip 8).num 1) ((s.skip 8).skip 1) []).2 ::
    bodAt xb T pre post {x with view:=(s.num 8:Nat),q:=(Cs.pairs ((s.skip 8).num 1) ((s.skip 8).skip 1) []).1} i.1 i.2::qs i.1 i.2 (Cs.pairs ((s.skip 8).num 1) ((s.skip 8).skip 1) []).1::F)):=by
 have a1:=s.skip_len 8;have a2:=(s.skip 8).skip_len 1
 have n1:=(s.skip 8).num1_lt;refine Fn.e2 func174 ntmps174 fun base=>?_
 repeat(first|((apply H.Aw);(iterate 3 exact rfl))|(first|apply H.seq|apply H.Bg))
 refine H.Af rfl rfl rfl (word_cs f _ cb s jA) ?_;repeat(first|((apply H.Bd);(iterate 3 exact rfl))|(apply H.Bn;(iterate 3 exact rfl);exact inferInstance;exact rfl)|(apply H.Ba;(iterate 4 exact rfl);(repeat(first|exact .here _ _ _|apply At.there))))
 ·exact SetV.mid (l:=x.vals none 0) (l':=({x with view:=(s.num 8:Nat),q:=[]}:Bod).vals none 0) (i:=1) (by rw[show x.vals none 0=({x with q:=[]}:Bod).vals none 0 by rw[←hx]];exact jJ) pre post
 refine gI ?_;refine H.Af rfl rfl rfl (byte_cs f _ cb (s.skip 8) jA) ?_;refine gT ?_;generalize hs0:(s.skip 8).skip 1=s0 at a2⊢;generalize hN:(s.skip 8).num 1=N at n1⊢;refine H.slc0 127 2 ?_;refine qeC ?_;refine qfy ?_
 refine H.lo (ι:=Nat×Cs×List (Int×Int)×Option Addr×Nat) (fun i=>[(4,.int .u8 (i.1:Int)),(0,.pointer (some ⟨cb,0,none⟩)),(1,.pointer (some ⟨xb,pre.length,none⟩))]) (fun _=>f)
  (fun i=>bodAt xb T pre post {x with view:=(s.num 8:Nat),q:=i.2.2.1} i.2.2.2.1 i.2.2.2.2::cutC f cb i.2.1::qs i.2.2.2.1 i.2.2.2.2 i.2.2.1::F)
  (fun i=>i.1<256∧i.2.2.1.length+i.1≤255∧i.2.1.l.length≤s.l.length∧Cs.pairs N s0 []=Cs.pairs i.1 i.2.1 i.2.2.1) (fun i=>i.1) (N,s0,[],none,0) ⟨n1,by show 0+N≤255;omega,by show s0.l.length≤_;omega,rfl⟩ fun i hi=>?_
 obtain⟨n,s',acc,qp,qc⟩:=i;obtain⟨hn,hacc,hlen,hp⟩:n<256∧acc.length+n≤255∧s'.l.length≤s.l.length∧Cs.pairs N s0 []=Cs.pairs n s' acc:=hi;rw[hp];show H _ _ _ [(4,.int .u8 (n:Int)),(0,.pointer (some ⟨cb,0,none⟩)),(1,.pointer (some ⟨xb,pre.length,none⟩))] _ (bodAt xb T pre post {x with view:=(s.num 8:Nat),q:=acc} qp qc::cutC f cb s'::qs qp qc acc::F) _
 cases n with
 | zero =>
  have h0:¬(0<((0:Nat):Int)):=jA
  have hp0:Cs.pairs 0 s' acc=(acc,s'):=rfl;rw[hp0]
  refine gX ?_;refine qeC ?_;exact qdU
 | succ n =>
  have h0:0<((n+1:Nat):Int):=jA
  refine qeC ?_;refine gO ?_;refine H.Af rfl rfl rfl (ok_cs f _ cb s') ?_
  cases hbad:s'.bad with
  | true =>
   have hp0:Cs.pairs (n+1) s' acc=(acc,s'):=by simp[Cs.pairs,hbad]
   rw[hp0];refine gL ?_;exact qdU
  | false =>
   have hp0:Cs.pairs (n+1) s' acc=Cs.pairs n ((s'.skip 1).skip 8) (acc++[(((s'.num 1:Nat):Int),(((s'.skip 1).num 8:Nat):Int))]):=by simp[Cs.pairs,hbad]
   rw[hp0];have b1:=s'.skip_len 1;have b2:=(s'.skip 1).skip_len 8
   have m1:=s'.num1_lt;refine gL ?_
   refine qeC ?_;refine H.dc [0,1,2,3,4,5,6,7,8,9,10,11,12] (S:=[_]) rfl ?_;refine HB.qu [0,1,2,3,4,5,8] 9 ?_;refine gP ?_;refine HQ.Ab rfl rfl rfl (.of (bodAt_rd jB) (i:=43) rfl) rfl ?_;refine gB ?_;refine qjw ?_;refine qeC ?_;refine H.Af rfl rfl rfl (byte_cs f _ cb s' jA) ?_;refine qfv ?_;refine HB.qu [7] 7 ?_;refine gK ?_;refine qhH ?_;refine qeC ?_;refine H.Af rfl rfl rfl (word_cs f _ cb (s'.skip 1) jA) ?_;refine qfv ?_;refine HB.qu [10] 5 ?_;refine gZ ?_;refine qeo ?_;generalize hpr:((((s'.num 1:Nat):Int),(((s'.skip 1).num 8:Nat):Int)):Int×Int)=pr;refine HB.ev 11 ?_;refine H.Aq (out:=pairV pr) rfl rfl rfl rfl jC jC (by subst hpr;rfl) rfl fun tb=>?_;refine qfv ?_;refine HB.ev 12 ?_;refine H.Av (m:=1) (news:=pairV pr) rfl rfl rfl rfl rfl (fun p' c'=>jB) (Src.slice (Rd.ofRow jB) rfl) (zaa rfl) rfl (show acc.length+1≤_ by omega) (show(acc.length+1)*_≤_ by omega) fun p' c'=>?_;refine qeg ?_;refine HB.nx [] (S':=[]) rfl ?_;refine HB.qu [13,14] 1 ?_;refine qfw ?_;refine HB.ev 15 ?_;repeat((apply H.Ba;(iterate 4 exact rfl);(repeat(exact .here _ _ _))))
   have e:Value.slice p' (acc.length+1) c'= .slice p' (acc++[pr]).length c':=by rw[lnA];rfl
   ·rw[e];exact SetV.mid (l:=({x with view:=(s.num 8:Nat),q:=acc}:Bod).vals qp qc) (l':=({x with view:=(s.num 8:Nat),q:=acc++[pr]}:Bod).vals p' c') (i:=43) jJ pre post
   refine qeR ?_;refine qjG ?_;refine gW ?_;refine H.Bh (d:=4) (u:=.int .u8 (n:Int)) rfl (congrArg (Value.int .u8) jA) ?_
   have e2:qs p' c' (acc++[pr])=slc p' (acc.length+1) c' 127 2 (acc.flatMap pairV++pairV pr):=by
    unfold qs;rw[lnA,List.flatMap_append];simp
   refine H.Ar (n,(s'.skip 1).skip 8,acc++[pr],p',c') ⟨by show n<256;omega,by show(acc++[pr]).length+n≤255;rw[lnA];simp only[List.length_cons,List.length_nil];omega,by show((s'.skip 1).skip 8).l.length≤_;omega,?_⟩ (Nat.lt_succ_self n) ⟨rfl,rfl,rfl,trivial⟩ rfl ?_
   ·exact rfl
   ·show _=bodAt xb T pre post {x with view:=(s.num 8:Nat),q:=acc++[pr]} p' c'::cutC f cb ((s'.skip 1).skip 8)::qs p' c' (acc++[pr])::F;rw[e2];rfl
end
theorem u8_b8(z:Int):IntKind.u8.wrap z=((b8 z).toNat:Int):=u8_wrap z
variable {q:Option Addr}
theorem zbw(h:At A (row xb T (x.vals q qc)) A' (row xb T (x.vals q qc))):Rd f A xb (0+3) x.req.vals:=by
 have h1:=Rd.ofRow (f:=f) h;have e:x.vals q qc=[.int .u8 (x.kind.toNat:Nat),.int .u64 x.view,.int .u64 x.k]++x.req.vals++([.slice q x.q.length qc]++b32 x.dig):=rfl
 exact qbF
theorem row_rtag(h:At A (row xb T (x.vals q qc)) A' (row xb T (x.vals q qc))):Rd f A xb (0+3+8) (bytesV (b32L x.req.tag)):=by
 have h1:=Rd.ofRow (f:=f) h;have e:x.vals q qc=([.int .u8 (x.kind.toNat:Nat),.int .u64 x.view,.int .u64 x.k]++[.int .i64 x.req.client,.int .u64 x.req.time,.int .u8 (x.req.kind.toNat:Nat),.string x.req.key,.string x.req.val,.string x.req.old,.string x.req.to,.int .u64 x.req.amount])++bytesV (b32L x.req.tag)++([.slice q x.q.length qc]++b32 x.dig):=rfl
 exact qbF
theorem row_dig(h:At A (row xb T (x.vals q qc)) A' (row xb T (x.vals q qc))):Rd f A xb (0+44) (bytesV (b32L x.dig)):=by
 have h1:=Rd.ofRow (f:=f) h;have e:x.vals q qc=([.int .u8 (x.kind.toNat:Nat),.int .u64 x.view,.int .u64 x.k]++x.req.vals++[.slice q x.q.length qc])++bytesV (b32L x.dig)++[]:=(List.append_nil _).symm
 exact qbF
theorem Req.bytes_len(r:Req):r.bytes.length=26+r.key.size+r.val.size+r.old.size+r.to.size:=by
 unfold Req.bytes textB;simp only[lnA,be_len,zbu];show 2+8+8+_+_+_+_=_;omega
section
variable (f:Frag) (A:List HP) (x:Bod) (q:Option Addr) (qc:Nat)
theorem may_prepare:Fn prog 167 [.agg (x.vals q qc).toArray] f A (Ret (.bool (decide x.req.asked)) f A):=by
 refine Fn.e1 func167 ntmps167 fun base=>?_;refine qff fun xb=>?_;refine gF ?_;refine H.Ad (ls:=x.req.vals) rfl rfl rfl (zbw jB) rfl rfl ?_;refine H.Af rfl rfl rfl (asked_fn f _ x.req) ?_;refine gT ?_;exact qaF
theorem may_newview(hq:QAt f q x.q)(hl:x.q.length≤1000000000000):Fn prog 177 [.agg (x.vals q qc).toArray] f A (Ret (.bool (decide (1≤x.view)&&(quo 0 x.q&&decide (0<x.q.length)))) f A):=by
 by_cases hv:1≤x.view
 ·refine Fn.e1 func177 ntmps177 fun base=>?_;refine qff fun xb=>?_;refine gg ?_;refine H.Af rfl rfl rfl (quorum_fn f _ hq hl) ?_;refine gY ?_;refine qeK ?_;exact H.Ae rfl rfl iD ⟨by rw[decide_eq_true hv,Bool.true_and],rfl,rfl⟩
 ·refine Fn.e1 func177 ntmps177 fun base=>?_;refine qff fun xb=>?_;refine gg ?_;refine qeK ?_;exact H.Ae rfl rfl iD ⟨by rw[decide_eq_false hv,Bool.false_and],rfl,rfl⟩
theorem put_commit(hs:Src prog f A (.slice p l.length c) 1 l.length (bytesV l))(hn:p=none→l=[])(hl:l.length≤100000000):Fn prog 169 [.slice p l.length c,.agg (x.vals q qc).toArray] f A (BytesR (l++(be 8 x.view++be 8 x.k)) f A):=by
 refine Fn.e2 func169 ntmps169 fun base=>?_;refine qff fun xb=>?_;refine qik ?_;refine HB.qu [0,1,2,4,5] 3 ?_;refine qfw ?_;refine HB.ev 3 ?_;refine qiV fun p1 c1=>?_;refine qfv ?_;refine HB.ev 6 ?_;have h1:(l++be 8 x.view).length=l.length+8:=by rw[lnA,be_len]
 generalize hl1:l++be 8 x.view=l1 at h1;refine qiv fun b3 hp=>?_;subst hp;refine qiB fun p4 c4=>?_;refine gA ?_;refine qgd ?_;refine qeC ?_;refine qeS ?_;refine HB.qu [7] 0 ?_;refine qgv ?_;refine qiY ?_;exact H.Ae rfl rfl iD ⟨p4,c4,by rw[←List.append_assoc,hl1],rfl,by rw[←List.append_assoc,hl1];rfl⟩
theorem put_prepare(hs:Src prog f A (.slice p l.length c) 1 l.length (bytesV l))(hn:p=none→l=[])(ha:x.req.asked)(hl:l.length≤100000000):Fn prog 162 [.slice p l.length c,.agg (x.vals q qc).toArray] f A (BytesR (l++(be 8 x.view++x.req.bytes++b32L x.req.tag)) f A):=by
 have hb:x.req.bytes.length≤1000:=qdq
 refine Fn.e2 func162 ntmps162 fun base=>?_;refine qff fun xb=>?_;refine qik ?_;refine HB.qu [0,1,2,4,5,7,8,9] 4 ?_;refine gP ?_;refine HQ.Ad (ls:=x.req.vals) rfl rfl rfl (zbw jB) rfl rfl ?_;refine qib ?_;refine qiV fun p1 c1=>?_;refine qfv ?_;refine HB.ev 6 ?_;have h1:(l++be 8 x.view).length=l.length+8:=by rw[lnA,be_len]
 generalize hl1:l++be 8 x.view=l1 at h1;refine qeC ?_;refine H.Am rfl rfl rfl (request_fn f _ x.req ha jA) fun p2 c2=>?_;have h2:(l1++x.req.bytes).length=l1.length+x.req.bytes.length:=lnA;generalize hl2:l1++x.req.bytes=l2 at h2
 refine qfv ?_;refine HB.ev 10 ?_;refine H.Av (m:=32) rfl rfl rfl rfl rfl (fun p' c'=>jB) (Src.slice (row_rtag jB) rfl) (zaj _) rfl jA jA fun p3 c3=>?_;refine qeg ?_;refine HB.qu [11] 0 ?_;refine qgv ?_;refine qiY ?_;have e3:(l++(be 8 x.view++x.req.bytes++b32L x.req.tag))=l2++b32L x.req.tag:=by rw[←hl2,←hl1];simp only[List.append_assoc]
 exact qcp
theorem put_check(hs:Src prog f A (.slice p l.length c) 1 l.length (bytesV l))(hn:p=none→l=[])(hl:l.length≤100000000):Fn prog 179 [.slice p l.length c,.agg (x.vals q qc).toArray] f A (BytesR (l++(be 8 x.k++b32L x.dig)) f A):=by
 refine Fn.e2 func179 ntmps179 fun base=>?_;refine qff fun xb=>?_;refine qik ?_;refine HB.qu [0,1,2,4,5] 3 ?_;refine qib ?_;refine qiV fun p1 c1=>?_;refine qfv ?_;refine HB.ev 6 ?_;have h1:(l++be 8 x.k).length=l.length+8:=by rw[lnA,be_len]
 generalize hl1:l++be 8 x.k=l1 at h1;refine H.Av (m:=32) rfl rfl rfl rfl rfl (fun p' c'=>jB) (Src.slice (row_dig jB) rfl) (zaj _) rfl jA jA fun p3 c3=>?_;refine qeg ?_;refine HB.qu [7] 0 ?_;refine qgv ?_;refine qiY ?_;have e3:(l++(be 8 x.k++b32L x.dig))=l1++b32L x.dig:=by rw[←hl1];simp only[List.append_assoc]
 exact qcp
theorem put_view(hs:Src prog f A (.slice p l.length c) 1 l.length (bytesV l))(hn:p=none→l=[])(hl:l.length≤100000000):Fn prog 211 [.slice p l.length c,.agg (x.vals q qc).toArray] f A (BytesR (l++be 8 x.view) f A):=view1_fn f A x q qc hs hn jA
theorem put_newview(hs:Src prog f A (.slice p l.length c) 1 l.length (bytesV l))(hn:p=none→l=[])(hq:QAt f q x.q)(hql:x.q.length≤1000)(hl:l.length≤100000000):Fn prog 173 [.slice p l.length c,.agg (x.vals q qc).toArray] f A (BytesR (l++(be 8 x.view++[b8 x.q.length]++x.q.flatMap pairB)) f A):=by
 have h1:(l++be 8 x.view).length=l.length+8:=by rw[lnA,be_len]
 refine Fn.e2 func173 ntmps173 fun base=>?_;refine qff fun xb=>?_;refine gI ?_;refine H.cut (ι:=Option Addr×Nat) (fun i=>[(0,.slice i.1 ((l++be 8 x.view).length+1) i.2),(3,.pointer (some ⟨xb,0,none⟩))]) (fun _=>f) (fun i=>row xb 52 (x.vals q qc)::slc i.1 ((l++be 8 x.view).length+1) i.2 5 1 (bytesV (l++be 8 x.view)++bytesV [b8 x.q.length])::A) (fun _=>True) _ (fun i _=>?_) ?_
 ·obtain⟨p1,c1⟩:=i;generalize hl0:l++be 8 x.view++[b8 x.q.length]=l0;have e0:l0.length=(l++be 8 x.view).length+1:=by rw[←hl0,lnA];rfl
  have e1:bytesV l0=bytesV (l++be 8 x.view)++bytesV [b8 x.q.length]:=by rw[←hl0,zaf]
  show H _ _ _ [(0,.slice p1 ((l++be 8 x.view).length+1) c1),_] _ (row _ _ _::slc p1 ((l++be 8 x.view).length+1) c1 _ _ (bytesV (l++be 8 x.view)++bytesV [b8 x.q.length])::A) _;rw[←e0,←e1];refine gM ?_
  refine H.loop (ι:=Nat×Option Addr×Nat) (fun i=>[(20,.int .i64 (i.1:Int)),(19,.int .i64 (x.q.length:Nat)),(18,.slice q x.q.length qc),(0,.slice i.2.1 (l0++(x.q.take i.1).flatMap pairB).length i.2.2),(3,.pointer (some ⟨xb,0,none⟩))]) (fun _=>f)
   (fun i=>row xb 52 (x.vals q qc)::slc i.2.1 (l0++(x.q.take i.1).flatMap pairB).length i.2.2 5 1 (bytesV (l0++(x.q.take i.1).flatMap pairB))::A)
   (fun i=>i.1≤x.q.length∧(l0++(x.q.take i.1).flatMap pairB).length=l0.length+9*i.1) (fun i=>x.q.length-i.1) (0,p1,c1) ⟨Nat.zero_le _,by simp⟩ ⟨rfl,rfl,rfl,?_,rfl,trivial⟩ rfl ?_ fun i hi=>?_
  ·show some (Value.slice p1 l0.length c1)=some (Value.slice p1 (l0++[]).length c1);rw[List.append_nil]
  ·show _=_::slc p1 (l0++[]).length c1 _ 1 (bytesV (l0++[]))::A;rw[List.append_nil]
  ·obtain⟨i,p',c'⟩:=i;obtain⟨hi,hlen⟩:i≤x.q.length∧(l0++(x.q.take i).flatMap pairB).length=l0.length+9*i:=hi;show H _ _ _ [(20,.int .i64 (i:Int)),_,_,(0,.slice p' (l0++(x.q.take i).flatMap pairB).length c'),_] _ (_::slc p' (l0++(x.q.take i).flatMap pairB).length c' _ 1 (bytesV (l0++(x.q.take i).flatMap pairB))::A) _;generalize hacc:l0++(x.q.take i).flatMap pairB=acc at hlen;by_cases hlt:i<x.q.length
   ·have hx:x.q[i]?=some x.q[i]:=lgE hlt;generalize x.q[i]=pr at hx
    have e3:l0++(x.q.take (i+1)).flatMap pairB=acc++[b8 pr.1]++be 8 pr.2:=by
     rw[List.take_add_one,hx,←hacc];simp[pairB]
    obtain⟨b,off,cs,T,fr,rfl,hfb,hcs⟩:=hq i pr hx;have rd:∀A,Rd f A b (off+i*2) (pairV pr):=fun A=>Rd.imm hfb hcs;clear hcs hfb
    refine qjC ?_;refine H.Ad (ls:=pairV pr) rfl rfl rfl (rd _) rfl rfl ?_;refine H.Aj rfl rfl rfl fun pb=>?_;refine H.Ag (ls:=[.int .i64 0,.int .u64 0]) (vs:=pairV pr) (ls':=pairV pr) rfl rfl rfl (zaa rfl) rfl rfl (Nat.le_refl 2) jB ?_;refine qgY ?_;refine HB.qu [0,1,2,3,6,7] 4 ?_;refine gV ?_;rw[u8_b8];refine qeo ?_;refine HB.ev 4 ?_;refine H.Aq (out:=bytesV [b8 pr.1]) rfl rfl rfl rfl jC jC rfl rfl fun tb=>?_;refine qfv ?_;refine HB.ev 5 ?_;refine qij fun p3 c3=>?_;refine gA ?_;refine qjG ?_;refine qeS ?_;refine HB.ev 8 ?_;have f0:(acc++[b8 pr.1]).length=acc.length+1:=by rw[lnA];rfl
    have f1:bytesV (acc++[b8 pr.1])=bytesV acc++bytesV [b8 pr.1]:=zaf _ _;generalize acc++[b8 pr.1]=l4 at f0 f1 e3
    show H _ _ _ _ _ (row _ _ _::row _ _ _::slc p3 (acc.length+1) c3 _ _ (bytesV acc++bytesV [b8 pr.1])::A) _;rw[←f0,←f1];refine H.Au at2 jA fun b3 hp=>?_;subst hp;refine H.Am rfl rfl rfl (zck (l:=l4) f _ (Src.slcS at2 jG) (fun h=>by cases h) jA) fun p4 c4=>?_;refine gA ?_;refine H.Ac (.there _ (.there _ (.there _ (.here _ _)))) ?_;refine qeC ?_;refine qeS ?_;refine HB.qu [9] 0 ?_;refine qgv ?_;refine gW ?_;refine qeK ?_;refine qeC ?_;refine H.Ar (i+1,p4,c4) ⟨by show i+1≤x.q.length;omega,?_⟩ jI ⟨rfl,rfl,rfl,?_,rfl,trivial⟩ rfl ?_
    ·show(l0++(x.q.take (i+1)).flatMap pairB).length=l0.length+9*(i+1);rw[e3,lnA,be_len];omega
    ·show some _=some (Value.slice p4 (l0++(x.q.take (i+1)).flatMap pairB).length c4);rw[e3]
    ·show _=_::slc p4 (l0++(x.q.take (i+1)).flatMap pairB).length c4 _ 1 (bytesV (l0++(x.q.take (i+1)).flatMap pairB))::A;rw[e3]
   ·have:i=x.q.length:=jA
    subst this;rw[List.take_length]at hacc;refine gc ?_;refine qeK ?_;have e9:l++(be 8 x.view++[b8 x.q.length]++x.q.flatMap pairB)=acc:=by rw[←hacc,←hl0];simp only[List.append_assoc]
    exact qdz
 ·refine qeJ ?_;refine HB.qu [0,1,2,4,5,6,7] 4 ?_;refine gV ?_;rw[u8_b8];refine qeo ?_;refine HB.ev2 (i:=3) (j:=8) jE rfl rfl ?_ ?_
  ·refine qiV fun p1 c1=>?_;refine qfv ?_;refine HB.ev 8 ?_;refine H.Aq (out:=bytesV [b8 x.q.length]) rfl rfl rfl rfl jC jC rfl rfl fun tb=>?_;refine qfv ?_;refine HB.ev 9 ?_;refine qij fun p3 c3=>?_;refine gA ?_;refine qjG ?_;exact qbQ
  ·refine H.Aq (out:=bytesV [b8 x.q.length]) rfl rfl rfl rfl jC jC rfl rfl fun tb=>?_;refine qfv ?_;refine HB.ev 3 ?_;refine H.Am rfl rfl rfl (zck f _ hs.cons.cons hn jA) fun p1 c1=>?_;refine qfv ?_;refine HB.ev 9 ?_;refine H.Av (m:=1) rfl rfl rfl rfl rfl (fun p' c'=>jB) (Src.slice (Rd.ofRow at2) rfl) (zaj _) rfl jA jA fun p3 c3=>?_;refine gA ?_;refine qgd ?_;exact qbQ
end
theorem eqC_pair(p r:Int×Int):eqC (pairV p) (pairV r)=decide (p=r):=by
 obtain⟨a,b⟩:=p;obtain⟨c,d⟩:=r;simp only[pairV,eqC,eqv,Bool.and_true,Prod.mk.injEq];by_cases h1:a=c<;>by_cases h2:b=d<;>simp[h1,h2]
def Bod.eqB(a b:Bod):Bool:=decide ((a.kind.toNat:Int)=b.kind.toNat)&&decide (a.view=b.view)&&decide (a.k=b.k)&&eqC a.req.vals b.req.vals&&decide (a.q=b.q)&&eqC (b32 a.dig) (b32 b.dig)
def Bod.may(x:Bod):Bool:=Bod.eqB x.own x&&decide (x.view<1073741824)&&x.mayK x.kind.toNat
variable {r:Option Addr} {d:Nat} {m:List (Int × Int)} {a:Bod}
section
variable (f:Frag) (F:List HP)
theorem take_eq_succ{l m:List α}{i:Nat}{x y:α}(h:l.take i=m.take i)(hx:l[i]?=some x)(hy:m[i]?=some y)(e:x=y):l.take (i+1)=m.take (i+1):=by
 rw[List.take_add_one,List.take_add_one,h,hx,hy,e]
theorem equalPairs_fn{l:List (Int×Int)}(hp:QAt f p l)(hr:QAt f r m)(hl:l.length≤1000000000):Fn prog 183 [.slice p l.length c,.slice r m.length d] f F (Ret (.bool (decide (l=m))) f F):=by
 by_cases hlen:(l.length:Int)=m.length
 ·have hlen':l.length=m.length:=jA
  refine Fn.e2 func183 ntmps183 fun base=>?_;refine gc ?_;rw[decide_eq_false jA];skip;refine H.lo (ι:=Nat) (fun i=>[(13,.int .i64 (i:Int)),(12,.int .i64 (l.length:Nat)),(0,.slice p l.length c),(1,.slice r m.length d)]) (fun _=>f) (fun _=>F) (fun i=>i≤l.length∧l.take i=m.take i) (fun i=>l.length-i) 0 ⟨Nat.zero_le _,rfl⟩ fun i hi=>?_;exact qal
 ·refine Fn.e2 func183 ntmps183 fun base=>?_;exact qcw
theorem same_fn{b:Bod}(hp:QAt f p a.q)(hr:QAt f r b.q)(hl:a.q.length≤1000000000):Fn prog 127 [.agg (a.vals p c).toArray,.agg (b.vals r d).toArray] f F (Ret (.bool (Bod.eqB a b)) f F):=by
 by_cases h1:(a.kind.toNat:Int)=b.kind.toNat
 ·skip;by_cases h2:a.view=b.view
  ·skip;by_cases h3:a.k=b.k
   ·skip;by_cases h4:eqC a.req.vals b.req.vals=true
    ·skip;by_cases h5:a.q=b.q
     ·skip;try simp only[Bool.not_eq_true]at *
      refine Fn.e2 func127 ntmps127 fun base=>?_;repeat(first|(refine gh ?_)|(refine H.box (ls:=a.vals p c) rfl rfl rfl rfl fun ab=>?_)|(refine H.box (ls:=b.vals r d) rfl rfl rfl rfl fun bb=>?_)|(refine H.Ad (ls:=a.req.vals) rfl rfl rfl (zbw jB) rfl rfl ?_)|(refine H.Ad (ls:=b.req.vals) rfl rfl rfl (zbw jB) rfl rfl ?_)|(refine H.aggEq (xs:=a.req.vals) (ys:=b.req.vals) (D:=4) rfl rfl rfl rfl jE jE jE jE jC rfl rfl ?_)|(refine H.Af rfl rfl rfl (equalPairs_fn f _ hp hr hl) ?_)|(refine H.Ad (ls:=bytesV (b32L a.dig)) rfl rfl rfl (row_dig jB) rfl rfl ?_)|(refine H.Ad (ls:=bytesV (b32L b.dig)) rfl rfl rfl (row_dig jB) rfl rfl ?_)|(refine H.aggEq (xs:=bytesV (b32L a.dig)) (ys:=bytesV (b32L b.dig)) (b:=eqC (b32 a.dig) (b32 b.dig)) (D:=4) rfl rfl rfl rfl jE jE jE jE jC rfl rfl ?_))
      exact qaB
     ·skip;try simp only[Bool.not_eq_true]at *
      refine Fn.e2 func127 ntmps127 fun base=>?_;repeat(first|(refine gh ?_)|(refine H.box (ls:=a.vals p c) rfl rfl rfl rfl fun ab=>?_)|(refine H.box (ls:=b.vals r d) rfl rfl rfl rfl fun bb=>?_)|(refine H.Ad (ls:=a.req.vals) rfl rfl rfl (zbw jB) rfl rfl ?_)|(refine H.Ad (ls:=b.req.vals) rfl rfl rfl (zbw jB) rfl rfl ?_)|(refine H.aggEq (xs:=a.req.vals) (ys:=b.req.vals) (D:=4) rfl rfl rfl rfl jE jE jE jE jC rfl rfl ?_)|(refine H.Af rfl rfl rfl (equalPairs_fn f _ hp hr hl) ?_))
      exact qaB
    ·skip;try simp only[Bool.not_eq_true]at *
     refine Fn.e2 func127 ntmps127 fun base=>?_;exact qaO
   ·exact qbw
  ·exact qbw
 ·exact qbw
end
def fnV(f:FuncId):Value:=.func (.func f) #[] #[]
def codecCells(a b c:FuncId):List Value:=[fnV a,fnV b,fnV c]
def codecV(a b c:FuncId):Value:=.agg (codecCells a b c).toArray
def encU8:Int→Value:=fun k=>Value.int .u8 k
instance keyU8:KeyT prog 5 encU8:=keyT_int ⟨underlying5⟩
def codecsM:List (Int×Value):=[
 (1,codecV 162 164 167),
 (2,codecV 169 170 171),
 (3,codecV 211 212 213),
 (5,codecV 211 212 213),
 (4,codecV 173 174 177),
 (6,codecV 179 180 171)]
theorem Fn.monoA{R':Value→Frag→List HP→Prop}(h:Fn P fid args f A R)
  (hr:∀v f' A',R v f' A'→∃A'',R' v f' A''∧∀x,stars A' x→stars A'' x):Fn P fid args f A R':=
 fun base w s=>(h base w s).mono fun _ _ ⟨v,f',A',e,r,s'⟩=>by
  obtain⟨A'',r',hx⟩:=hr _ _ _ r
  exact⟨v,f',A'',e,r',s'.imp hx⟩
theorem stars_nil_slc{x:Frag}(h:stars A x):stars (slc none 0 0 T sz []::A) x:=
 ⟨nil0,x,(Dj.nil x).symm,(nil_un x).symm,slc_nil none T sz,h⟩
def MayC(fid:FuncId)(kind:Nat):Prop:=∀(f:Frag) (A:List HP) (x:Bod) (q:Option Addr) (qc:Nat),QAt f q x.q→x.q.length≤1000000000→Fn prog fid [.agg (x.vals q qc).toArray] f A (Ret (.bool (x.mayK kind)) f A)
def PutC(fid:FuncId)(kind:Nat):Prop:=∀(f:Frag) (A:List HP) (x:Bod) (q:Option Addr) (qc:Nat) (p:Option Addr) (c:Nat) (l:List UInt8),Src prog f A (.slice p l.length c) 1 l.length (bytesV l)→(p=none→l=[])→QAt f q x.q→x.mayK kind=true→x.q.length≤11→l.length≤100000000→
 Fn prog fid [.slice p l.length c,.agg (x.vals q qc).toArray] f A (BytesR (l++x.putK kind) f A)
def GetR(f:Frag)(F:List HP)(cb:Nat)(xb:Nat)(T:TypeId)(pre post:List Value)(r:Bod×Cs):Value→Frag→List HP→Prop:=
 RetE (fun _:Option Addr×Nat=>.tuple #[]) f (fun i=>cutC f cb r.2::bodAt xb T pre post r.1 i.1 i.2::qs i.1 i.2 r.1.q::F)
def GetC(fid:FuncId)(kind:Nat):Prop:=∀(f:Frag) (F:List HP) (cb:Nat) (s:Cs) (xb:Nat) (T:TypeId) (pre post:List Value) (k8:UInt8),s.l.length≤1000000000→
 Fn prog fid [.pointer (some ⟨cb,0,none⟩),.pointer (some ⟨xb,pre.length,none⟩)] f (cutC f cb s::bodAt xb T pre post (Bod.zero k8) none 0::F) (GetR f F cb xb T pre post (s.bodyK 32 128 k8 kind))
theorem getC_of{kind:Nat}(h:∀(f:Frag) (F:List HP) (cb:Nat) (s:Cs) (xb:Nat) (T:TypeId) (pre post:List Value) (k8:UInt8),s.l.length≤1000000000→
  (s.bodyK 32 128 k8 kind).1.q = [] ∧ Fn prog fid [.pointer (some ⟨cb, 0, none⟩), .pointer (some ⟨xb, pre.length, none⟩)] f (cutC f cb s :: bodAt xb T pre post (Bod.zero k8) none 0 :: F)
   (Ret (.tuple #[]) f (cutC f cb (s.bodyK 32 128 k8 kind).2::bodAt xb T pre post (s.bodyK 32 128 k8 kind).1 none 0::F))):GetC fid kind:=fun f F cb s xb T pre post k8 hl=>by
 obtain⟨hq,hf⟩:=h f F cb s xb T pre post k8 hl
 refine hf.monoA fun v f' A' hr=>?_
 obtain⟨rfl,rfl,rfl⟩:=hr
 refine⟨_,⟨(none,0),rfl,rfl,rfl⟩,?_⟩
 refine keep_stars (keep_stars ?_)
 intro x hx
 rw[hq]
 exact stars_nil_slc hx
theorem may1:MayC 167 1:=fun f A x q qc _ _=>may_prepare f A x q qc
theorem may2:MayC 171 2:=fun f A x q qc _ _=>k_fn f A x q qc
theorem may6:MayC 171 6:=fun f A x q qc _ _=>k_fn f A x q qc
theorem may3:MayC 213 3:=fun f A x q qc _ _=>view3_fn f A x q qc
theorem may5:MayC 213 5:=fun f A x q qc _ _=>view3_fn f A x q qc
theorem may4:MayC 177 4:=fun f A x q qc hq hl=>may_newview f A x q qc hq jA
theorem put1:PutC 162 1:=fun f A x q qc p c l hs hn _ hm _ hl=>put_prepare f A x q qc hs hn (of_decide_eq_true hm) hl
theorem put2:PutC 169 2:=fun f A x q qc p c l hs hn _ _ _ hl=>put_commit f A x q qc hs hn hl
theorem put3:PutC 211 3:=fun f A x q qc p c l hs hn _ _ _ hl=>put_view f A x q qc hs hn hl
theorem put5:PutC 211 5:=fun f A x q qc p c l hs hn _ _ _ hl=>put_view f A x q qc hs hn hl
theorem put6:PutC 179 6:=fun f A x q qc p c l hs hn _ _ _ hl=>put_check f A x q qc hs hn hl
theorem put4:PutC 173 4:=fun f A x q qc p c l hs hn hq _ hql hl=>put_newview f A x q qc hs hn hq jA hl
theorem get1:GetC 164 1:=getC_of fun f F cb s xb T pre post k8 hl=>⟨rfl,get_prepare f F cb s xb T pre post hl (Bod.zero k8) none 0⟩
theorem get2:GetC 170 2:=getC_of fun f F cb s xb T pre post k8 hl=>⟨rfl,get_commit f F cb s xb T pre post hl (Bod.zero k8) none 0⟩
theorem get3:GetC 212 3:=getC_of fun f F cb s xb T pre post k8 hl=>⟨rfl,get_view f F cb s xb T pre post hl (Bod.zero k8) none 0⟩
theorem get5:GetC 212 5:=getC_of fun f F cb s xb T pre post k8 hl=>⟨rfl,get_view f F cb s xb T pre post hl (Bod.zero k8) none 0⟩
theorem get6:GetC 180 6:=getC_of fun f F cb s xb T pre post k8 hl=>⟨rfl,get_check f F cb s xb T pre post hl (Bod.zero k8) none 0⟩
theorem get4:GetC 174 4:=fun f F cb s xb T pre post k8 hl=>get_newview f F cb s xb T pre post hl (Bod.zero k8) rfl
section
variable (f:Frag) (F:List HP)
theorem view_fn:Fn prog 172 [] f F (Ret (codecV 211 212 213) f F):=by
 refine Fn.e0 func172 ntmps172 fun base=>?_;refine gA ?_;refine qhl fun vb=>?_;refine gO ?_;refine H.Ag (ls:=[.nilFunc,.nilFunc,.nilFunc]) (vs:=codecCells _ _ _) (ls':=codecCells _ _ _) rfl rfl rfl (zaa rfl) rfl rfl (Nat.le_refl 3) jB ?_;refine gT ?_;exact qae
theorem codecs_fn:Fn prog 125 [] f F (RetE (fun b=>.map (some b)) f (fun b=>mp b encU8 codecsM::F)):=by
 refine Fn.e0 func125 ntmps125 fun base=>?_;refine gI ?_;refine H.makeMap encU8 rfl rfl fun mb=>?_;repeat(first|(refine gh ?_)|(refine H.mapInsert (enc:=encU8) rfl rfl rfl rfl aP0 rfl ?_)|(refine H.Af rfl rfl rfl (view_fn f _) ?_))
 exact H.r1 ⟨mb,rfl,rfl,rfl⟩
end
variable {g:Frag}
theorem BAt.mono(h:Le f g)(hb:BAt f p l):BAt g p l:=by
 rcases hb with rfl|⟨b,off,cs,T,fr,h1,h2,h3⟩
 ·exact .inl rfl
 ·exact .inr ⟨b,off,cs,T,fr,h1,h _ _ h2,h3⟩
theorem QAt.mono(h:Le f g){l:List (Int×Int)}(hb:QAt f p l):QAt g p l:=fun i x hx=>by
 obtain⟨b,off,cs,T,fr,h1,h2,h3⟩:=hb i x hx
 exact⟨b,off,cs,T,fr,h1,h _ _ h2,h3⟩
theorem flat_pair_get:∀(q:List (Int×Int)) (i:Nat) (x:Int×Int),q[i]?=some x→∀j,j<(pairV x).length→(q.flatMap pairV)[i*2+j]?=(pairV x)[j]?
 | [],i,x,h,j,hj=>by simp at h
 | y :: q, 0, x, h, j, hj => by
  simp at h;subst h
  rw[List.flatMap_cons,Nat.zero_mul,Nat.zero_add,List.getElem?_append_left hj]
 | y :: q, i + 1, x, h, j, hj => by
  rw[List.flatMap_cons,List.getElem?_append_right (by show(2:Nat)≤_;omega)]
  rw[show(i+1)*2+j-(pairV y).length=i*2+j by show(i+1)*2+j-2=_;omega]
  exact flat_pair_get q i x jx j hj
theorem qs_qat{q:List (Int×Int)}(h:qs p c q g)(hd:Dj f g):QAt (un f g) p q:=fun i x hx=>by
 obtain⟨_,_,h3⟩:=h
 have hi:i<q.length:=by
  rcases Nat.lt_or_ge i q.length with h|h
  ·exact h
  ·simp[List.getElem?_eq_none h]at hx
 rcases h3 with⟨h0,_,_⟩|⟨b,sp,rfl,h4,h5,rfl⟩
 ·omega
 ·refine⟨b,0,(q.flatMap pairV++sp).toArray,127,(0,0),rfl,?_,fun j hj=>?_⟩
  ·show(f b).or (sing b _ b)=_
   have:f b=none:=by
    rcases hd b with h|h
    ·exact h
    ·simp[sing]at h
   rw[this]
   simp[sing]
  ·rw[Nat.zero_add]
   simp only[List.getElem?_toArray]
   have h6:=flat_pair_get q i x hx j hj
   rw[List.getElem?_append_left ?_,h6]
   rcases Nat.lt_or_ge (i*2+j) (q.flatMap pairV).length with h|h
   ·exact h
   ·rw[List.getElem?_eq_none h]at h6
    rw[lgE hj]at h6
    cases h6
def Bod.back(x:Bod)(kind:Nat):Bod:=((⟨x.putK kind,false⟩:Cs).bodyK 32 128 x.kind kind).1
def Bod.mayP(x:Bod)(kind:Nat):Bool:=decide (x.view<1073741824)&&(x.mayK kind&&(decide (x.q.length≤11)&&Bod.eqB x (x.back kind)))
section
variable (f:Frag) (F:List HP)
theorem flat_pairB_len:∀q:List (Int×Int),(q.flatMap pairB).length=9*q.length
 | []=>rfl
 | p :: q => by
  rw[List.flatMap_cons,lnA,flat_pairB_len q]
  show(be 8 p.2).length+1+9*q.length=9*(q.length+1)
  rw[be_len];omega
theorem putK_len(x:Bod)(kind:Nat)(hm:x.mayK kind=true)(hq:x.q.length≤11):0<(x.putK kind).length∧(x.putK kind).length≤2000:=by
 match kind,hm with
 | 1, hm =>
  obtain⟨_,_,_,_,⟨k1,k2⟩,k3,k4⟩:=of_decide_eq_true hm;show 0<(be 8 x.view++x.req.bytes++b32L x.req.tag).length∧(be 8 x.view++x.req.bytes++b32L x.req.tag).length≤2000;rw[lnA,lnA,be_len,Req.bytes_len];show 0<8+_+32∧8+_+32≤2000;omega
 |2,_=>simp[Bod.putK,be_len]
 |3,_=>simp[Bod.putK,be_len]
 | 4, _ =>
  show 0<(be 8 x.view++[b8 x.q.length]++x.q.flatMap pairB).length∧(be 8 x.view++[b8 x.q.length]++x.q.flatMap pairB).length≤2000;rw[lnA,lnA,be_len,flat_pairB_len];show 0<8+1+_∧8+1+_≤2000;omega
 |5,_=>simp[Bod.putK,be_len]
 |6,_=>simp[Bod.putK,be_len,b32L]
theorem body_fn(kind:Nat)(hk:x.kind.toNat=kind)(f1 f2 f3:FuncId)[Fun prog f1][Fun prog f2][Fun prog f3](hput:PutC f1 kind)(hget:GetC f2 kind)(hmay:MayC f3 kind)
  (hcod:getKV codecsM (kind:Int)=some (codecV f1 f2 f3)) (hq:QAt f q x.q) (hl:x.q.length≤1000000000) :
  Fn prog 88 [.agg (x.vals q qc).toArray] f F (Ret (.bool (x.mayP kind)) f F):=by
 refine Fn.e1 func88 ntmps88 fun base=>?_;refine qff fun xb=>?_;refine gI ?_;have hz:∀z,(getKV codecsM (kind:Int)).getD z=codecV f1 f2 f3:=fun z=>by rw[hcod];rfl
 have hi:(getKV codecsM (kind:Int)).isSome=true:=by rw[hcod];rfl
 have hkv:Value.int .u8 (x.kind.toNat:Nat)=encU8 (kind:Int):=by rw[hk];rfl
 refine H.cut (ι:=Nat) (fun i=>[(1,.pointer (some ⟨xb,0,none⟩)),(3,.pointer (some ⟨i,0,none⟩)),(4,.bool true)]) (fun _=>f) (fun i=>row i 219 (codecCells f1 f2 f3)::row xb 52 (x.vals q qc)::F) (fun _=>True) _ (fun i _=>?_) ?_
 ·by_cases h1 : x.view < 1073741824
  ·by_cases h2 : x.mayK kind = true
   ·have hm:∀A,Fn prog f3 [.agg (x.vals q qc).toArray] f A (Ret (.bool true) f A):=fun A=>by have:=hmay f A x q qc hq hl;rwa [h2]at this
    by_cases h3:x.q.length≤11
    ·skip;repeat(first|(refine gh ?_)|(refine H.Ad (ls:=x.vals q qc) rfl rfl rfl (Rd.ofRow jB) rfl rfl ?_)|(refine H.callVR (fs:=[]) (cs:=[]) (vs:=[.agg (x.vals q qc).toArray]) rfl rfl rfl rfl (hm _) ?_))
     refine qeB fun yb=>?_;refine H.Ag (ls:=(Bod.zero 0).vals none 0) (vs:=(Bod.zero x.kind).vals none 0) (ls':=(Bod.zero x.kind).vals none 0) rfl rfl rfl (zaa rfl) rfl rfl (Nat.le_refl 76) jB ?_;refine qiu ?_;refine qgu ?_;refine HB.qu [0,1,2,3,4] 3 ?_;refine gP ?_;refine qil ?_;refine qeo ?_;refine HB.ev 5 ?_;refine H.callVE2 (fs:=[]) (cs:=[]) (vs:=[.slice none 0 0,.agg (x.vals q qc).toArray]) rfl rfl rfl rfl (hput f _ x q qc none 0 [] Src.nil (fun _=>rfl) hq h2 h3 jC) fun p1 c1=>?_;have hb:=putK_len x kind h2 h3;rw[List.nil_append]
     generalize hbs:x.putK kind=bs at hb⊢;have hbk:x.back kind=((⟨bs,false⟩:Cs).bodyK 32 128 x.kind kind).1:=by rw[←hbs];rfl
     refine qiu ?_;refine qeS ?_;refine HB.ev 6 ?_;refine H.Au at2 hb.1 fun b1 hp=>?_;subst hp;refine H.Ap rfl rfl rfl (octNew_fn f _ (Src.slcS at2 jG) (fun h=>by cases h) jA) fun v f' A' hr=>?_;obtain⟨g1,cb,p2,c2,rfl,hg1,hd1,rfl,rfl⟩:=hr;refine qiu ?_;refine H.on [] (Le.un _ _) rfl ?_;refine HB.ev 7 ?_;have e:row yb 52 ((Bod.zero x.kind).vals none 0)=bodAt yb 52 [] [] (Bod.zero x.kind) none 0:=by unfold bodAt;rw[List.append_nil];rfl
     refine qjW ?_;refine H.Ao (.there _ (.there _ (.there _ (.here _ _)))) ?_;rw[e];refine H.callVE (fs:=[]) (cs:=[]) (vs:=[.pointer (some ⟨cb,0,none⟩),.pointer (some ⟨yb,0,none⟩)]) rfl rfl rfl rfl (hget (un f g1) _ cb ⟨bs,false⟩ yb 52 [] [] x.kind (by show bs.length≤_;omega)) fun i2=>?_;rw[←hbk];generalize((⟨bs,false⟩:Cs).bodyK 32 128 x.kind kind).2=s2;refine gA ?_;refine qjW ?_;refine qjW ?_;refine qeS ?_;refine HB.dn ?_;refine H.Bw (.there _ (.there _ (.there _ (.there _ (.here _ _))))) fun g2 hg2 hd2=>?_;have hq2:QAt (un (un f g1) g2) q x.q:=(hq.mono (Le.un f g1)).mono (Le.un _ g2);have hy2:QAt (un (un f g1) g2) i2.1 (x.back kind).q:=qs_qat hg2 hd2
     refine gA ?_;refine H.Ad (ls:=x.vals q qc) rfl rfl rfl (Rd.ofRow jB) rfl rfl ?_;refine H.Ad (ls:=(x.back kind).vals i2.1 i2.2) rfl rfl rfl (bodAt_rd (pre:=[]) (post:=[]) jB) rfl rfl ?_;refine H.Af rfl rfl rfl (same_fn _ _ hq2 hy2 hl) ?_;refine gT ?_;refine H.thaw hg2 hd2 ?_;refine qeK ?_;refine H.thaw hg1 hd1 ?_;repeat refine H.Ac (.here _ _) ?_
     refine H.Ae rfl rfl iD ⟨?_,rfl,rfl⟩;simp[Bod.mayP,h1,h2,h3]
    ·skip;exact qaX
   ·have hm:∀A,Fn prog f3 [.agg (x.vals q qc).toArray] f A (Ret (.bool false) f A):=fun A=>by have:=hmay f A x q qc hq hl;rwa [Bool.eq_false_iff.2 h2]at this
    exact qaX
  ·have hm:∀A,Fn prog f3 [.agg (x.vals q qc).toArray] f A (Ret (.bool (x.mayK kind)) f A):=fun A=>hmay f A x q qc hq hl;refine gg ?_
   refine qjj ?_;refine H.Ae rfl rfl iD ⟨?_,rfl,rfl⟩;simp[Bod.mayP, *]
 ·refine qeJ ?_;refine HB.qu [1,2] 8 ?_;refine qfw ?_;refine HB.ev2 (i:=0) (j:=7) jE rfl rfl ?_ ?_
  ·refine qid fun mb=>?_;refine qgz ?_;refine HB.qu [3,4,5,6] 3 ?_;refine qkd ?_;refine HB.ev 7 ?_;refine qhl fun vb=>?_;refine qiu ?_;refine qeS ?_;exact qbA
  ·refine qhl fun vb=>?_;refine qfv ?_;refine HB.ev 0 ?_;refine qid fun mb=>?_;refine qgz ?_;refine HB.qu [3,4,5,6] 2 ?_;refine qkd ?_;exact qbA
end
theorem zau(d:Nat→Int){i:Nat}(h:i<11):(v11 d)[i]?=some (.int .u64 (d i)):=by
 match i,h with
 |0,_=>rfl
 |1,_=>rfl
 |2,_=>rfl
 |3,_=>rfl
 |4,_=>rfl
 |5,_=>rfl
 |6,_=>rfl
 |7,_=>rfl
 |8,_=>rfl
 |9,_=>rfl
 |10,_=>rfl
def maxTo(d:Nat→Int):Nat→Int
 |0=>d 0
 |i+1=>if maxTo d i<d (i+1)then d (i+1)else maxTo d i
theorem maxTo_le(d:Nat→Int)(B:Int):∀n,maxTo d n≤B↔∀i,i≤n→d i≤B
 |0=>⟨fun h i hi=>by rw[show i=0 by omega];exact h,fun h=>h 0 (Nat.le_refl _)⟩
 | n + 1 => by
  have ih:=maxTo_le d B n
  unfold maxTo
  constructor
  ·intro h i hi
   by_cases e:i=n+1
   ·subst e;split at h<;>omega
   ·exact ih.1 (by split at h<;>omega) i jA
  ·intro h
   have h1:=ih.2 fun i hi=>h i jA
   have h2:=h (n+1) (Nat.le_refl _)
   split<;>omega
variable {mb:Nat}
theorem zaz{m:Msg}(h:At A (row mb T (m.vals q qc)) A' (row mb T (m.vals q qc))):Rd f A mb (0+2) (v11 m.deps):=by
 have h1:=Rd.ofRow (f:=f) h;have e:m.vals q qc=[.int .i64 m.origin,.int .u64 m.number]++v11 m.deps++(m.body.vals q qc++b32 m.tag):=by unfold Msg.vals;simp only[List.append_assoc]
 exact qbF
theorem msg_body{m:Msg}(h:At A (row mb T (m.vals q qc)) A' (row mb T (m.vals q qc))):Rd f A mb (0+13) (m.body.vals q qc):=by
 have h1:=Rd.ofRow (f:=f) h;have e:m.vals q qc=([.int .i64 m.origin,.int .u64 m.number]++v11 m.deps)++m.body.vals q qc++b32 m.tag:=rfl
 exact qbF
section
variable (f:Frag) (F:List HP)
theorem max_fn{off:Nat}{d:Nat→Int}(hr:Rd f F b off (v11 d)):Fn prog 87 [.slice (some ⟨b,off,none⟩) 11 11] f F (Ret (.int .u64 (maxTo d 10)) f F):=by
 refine Fn.e1 func87 ntmps87 fun base=>?_;refine gY ?_;refine H.Bv (i:=0) rfl rfl rfl rfl jC rfl ?_;refine H.Ab rfl rfl rfl (.of hr (i:=0) rfl) rfl ?_;refine gT ?_;refine H.lo (ι:=Nat) (fun i=>[(4,.int .i64 ((i+1:Nat):Int)),(3,.int .u64 (maxTo d i)),(0,.slice (some ⟨b,off,none⟩) 11 11)]) (fun _=>f) (fun _=>F) (fun i=>i≤10) (fun i=>10-i) 0 (Nat.zero_le _) fun i hi=>?_;have hi:i≤10:=hi;by_cases hlt:i<10
 ·refine gG ?_;refine H.Bv (i:=i+1) rfl rfl rfl rfl jA rfl ?_;refine H.Ab rfl rfl rfl (.of hr (zau d jA)) rfl ?_;refine H.max2 (z:=maxTo d (i+1)) rfl rfl rfl rfl rfl ?_;refine gW ?_;exact H.ag (i+1) (by show i+1≤10;omega) (by show 10-(i+1)<10-i;omega)
 ·have:i=10:=jA
  subst this;refine gY ?_;exact qaj
theorem body_none(hcod:getKV codecsM (x.kind.toNat:Int)=none):Fn prog 88 [.agg (x.vals q qc).toArray] f F (Ret (.bool false) f F):=by
 refine Fn.e1 func88 ntmps88 fun base=>?_;refine qff fun xb=>?_;refine gI ?_;have hz:(getKV codecsM (x.kind.toNat:Int)).getD (.agg ([.nilFunc,.nilFunc,.nilFunc]:List Value).toArray)= .agg ([.nilFunc,.nilFunc,.nilFunc]:List Value).toArray:=by rw[hcod];rfl
 have hi:(getKV codecsM (x.kind.toNat:Int)).isSome=false:=by rw[hcod];rfl
 refine H.cut (ι:=Nat) (fun i=>[(1,.pointer (some ⟨xb,0,none⟩)),(3,.pointer (some ⟨i,0,none⟩)),(4,.bool false)]) (fun _=>f) (fun i=>row i 219 [.nilFunc,.nilFunc,.nilFunc]::row xb 52 (x.vals q qc)::F) (fun _=>True) _ (fun i _=>?_) ?_
 ·refine gS ?_;repeat refine H.Ac (.here _ _) ?_
  exact qaj
 ·refine qeJ ?_;refine HB.qu [1,2] 8 ?_;refine qfw ?_;refine HB.ev2 (i:=0) (j:=7) jE rfl rfl ?_ ?_
  ·refine qid fun mb=>?_;refine qgz ?_;refine HB.qu [3,4,5,6] 3 ?_;refine qjV ?_;refine HB.ev 7 ?_;refine qhl fun vb=>?_;refine qiu ?_;refine qeS ?_;exact qbr
  ·refine qhl fun vb=>?_;refine qfv ?_;refine HB.ev 0 ?_;refine qid fun mb=>?_;refine qgz ?_;refine HB.qu [3,4,5,6] 2 ?_;refine qjV ?_;exact qbr
def Bod.mayB(x:Bod):Bool:=decide (1≤x.kind.toNat∧x.kind.toNat≤6)&&x.mayP x.kind.toNat
theorem bodyP_fn(hq:QAt f q x.q)(hl:x.q.length≤1000000000):Fn prog 88 [.agg (x.vals q qc).toArray] f F (Ret (.bool x.mayB) f F):=by
 unfold Bod.mayB;generalize hk:x.kind.toNat=kind
 match kind,hk with
 |1,hk=>exact body_fn f F 1 hk _ _ _ put1 get1 may1 kI hq hl
 |2,hk=>exact body_fn f F 2 hk _ _ _ put2 get2 may2 kI hq hl
 |3,hk=>exact body_fn f F 3 hk _ _ _ put3 get3 may3 kI hq hl
 |4,hk=>exact body_fn f F 4 hk _ _ _ put4 get4 may4 kI hq hl
 |5,hk=>exact body_fn f F 5 hk _ _ _ put5 get5 may5 kI hq hl
 |6,hk=>exact body_fn f F 6 hk _ _ _ put6 get6 may6 kI hq hl
 | 0, hk =>
  rw[decide_eq_false jA,Bool.false_and];exact body_none f F (by rw[hk];rfl)
 | k + 7, hk =>
  rw[decide_eq_false jA,Bool.false_and];refine body_none f F ?_;rw[hk];refine(getKV_none codecsM _).2 ?_;simp only[codecsM,List.map_cons,List.map_nil,List.mem_cons,List.not_mem_nil,or_false];omega
def Msg.outer(m:Msg):Prop:=1≤m.origin∧m.origin≤11∧1≤m.number∧m.number≤65536∧m.deps (m.origin.toNat-1)=m.number-1∧maxTo m.deps 10≤65536
instance (m:Msg):Decidable m.outer:=by unfold Msg.outer;infer_instance
theorem may_fn{m:Msg}(hq:QAt f q m.body.q)(hl:m.body.q.length≤1000000000):Fn prog 49 [.agg (m.vals q qc).toArray] f F (Ret (.bool (decide m.outer&&m.body.mayB)) f F):=by
 by_cases h1:1≤m.origin
 ·skip;by_cases h2 : m.origin ≤ 11
  ·skip;by_cases h3:1≤m.number
   ·skip;by_cases h4:m.number≤65536
    ·skip;by_cases h5:m.deps (m.origin.toNat-1)=m.number-1
     ·skip;by_cases h6:maxTo m.deps 10≤65536
      ·skip;try simp only[Bool.not_eq_true]at *
       refine Fn.e1 func49 ntmps49 fun base=>?_;refine qfJ fun mb=>?_;refine qfk ?_;repeat(first|(refine gh ?_)|(refine H.Bt (lo:=none) (hi:=none) (mx:=none) (lv:=0) (hv:=11) (mv:=11) rfl rfl rfl rfl rfl (fun h=>by cases h) jC jC jC rfl ?_)|(refine H.Af rfl rfl rfl (max_fn f _ (off:=0+2) (d:=m.deps) (zaz jB)) ?_)|(refine H.Ad (ls:=m.body.vals q qc) rfl rfl rfl (msg_body jB) rfl rfl ?_)|(refine H.Af rfl rfl rfl (bodyP_fn f _ hq hl) ?_))
       exact qcv
      ·skip;try simp only[Bool.not_eq_true]at *
       refine Fn.e1 func49 ntmps49 fun base=>?_;refine qfJ fun mb=>?_;refine qfk ?_;repeat(first|(refine gh ?_)|(refine H.Bt (lo:=none) (hi:=none) (mx:=none) (lv:=0) (hv:=11) (mv:=11) rfl rfl rfl rfl rfl (fun h=>by cases h) jC jC jC rfl ?_)|(refine H.Af rfl rfl rfl (max_fn f _ (off:=0+2) (d:=m.deps) (zaz jB)) ?_))
       exact qcv
     ·skip;try simp only[Bool.not_eq_true]at *
      refine Fn.e1 func49 ntmps49 fun base=>?_;exact qaL
    ·exact qbd
   ·exact qbd
  ·exact qbd
 ·exact qbd
theorem rpairs_fn{l:List (Int×Int)}(hp:QAt f p l)(hr:QAt f r m)(hl:l.length≤1000000000):Fn prog 59 [.slice p l.length c,.slice r m.length d] f F (Ret (.bool (decide (l=m))) f F):=by
 by_cases hlen:(l.length:Int)=m.length
 ·have hlen':l.length=m.length:=jA
  refine Fn.e2 func59 ntmps59 fun base=>?_;refine gc ?_;rw[decide_eq_false jA];skip;refine H.lo (ι:=Nat) (fun i=>[(5,.int .i64 (i:Int)),(0,.slice p l.length c),(1,.slice r m.length d)]) (fun _=>f) (fun _=>F) (fun i=>i≤l.length∧l.take i=m.take i) (fun i=>l.length-i) 0 ⟨Nat.zero_le _,rfl⟩ fun i hi=>?_;exact qal
 ·refine Fn.e2 func59 ntmps59 fun base=>?_;exact qcw
theorem rsame_fn{b:Bod}(hp:QAt f p a.q)(hr:QAt f r b.q)(hl:a.q.length≤1000000000):Fn prog 30 [.agg (a.vals p c).toArray,.agg (b.vals r d).toArray] f F (Ret (.bool (Bod.eqB a b)) f F):=by
 by_cases h1:(a.kind.toNat:Int)=b.kind.toNat
 ·skip;by_cases h2:a.view=b.view
  ·skip;by_cases h3:a.k=b.k
   ·skip;by_cases h4:eqC a.req.vals b.req.vals=true
    ·skip;by_cases h5:a.q=b.q
     ·skip;try simp only[Bool.not_eq_true]at *
      refine Fn.e2 func30 ntmps30 fun base=>?_;repeat(first|(refine gh ?_)|(refine H.box (ls:=a.vals p c) rfl rfl rfl rfl fun ab=>?_)|(refine H.box (ls:=b.vals r d) rfl rfl rfl rfl fun bb=>?_)|(refine H.Ad (ls:=a.req.vals) rfl rfl rfl (zbw jB) rfl rfl ?_)|(refine H.Ad (ls:=b.req.vals) rfl rfl rfl (zbw jB) rfl rfl ?_)|(refine H.aggEq (xs:=a.req.vals) (ys:=b.req.vals) (D:=4) rfl rfl rfl rfl jE jE jE jE jC rfl rfl ?_)|(refine H.Af rfl rfl rfl (rpairs_fn f _ hp hr hl) ?_)|(refine H.Ad (ls:=bytesV (b32L a.dig)) rfl rfl rfl (row_dig jB) rfl rfl ?_)|(refine H.Ad (ls:=bytesV (b32L b.dig)) rfl rfl rfl (row_dig jB) rfl rfl ?_)|(refine H.aggEq (xs:=bytesV (b32L a.dig)) (ys:=bytesV (b32L b.dig)) (b:=eqC (b32 a.dig) (b32 b.dig)) (D:=4) rfl rfl rfl rfl jE jE jE jE jC rfl rfl ?_))
      exact qaB
     ·skip;try simp only[Bool.not_eq_true]at *
      refine Fn.e2 func30 ntmps30 fun base=>?_;repeat(first|(refine gh ?_)|(refine H.box (ls:=a.vals p c) rfl rfl rfl rfl fun ab=>?_)|(refine H.box (ls:=b.vals r d) rfl rfl rfl rfl fun bb=>?_)|(refine H.Ad (ls:=a.req.vals) rfl rfl rfl (zbw jB) rfl rfl ?_)|(refine H.Ad (ls:=b.req.vals) rfl rfl rfl (zbw jB) rfl rfl ?_)|(refine H.aggEq (xs:=a.req.vals) (ys:=b.req.vals) (D:=4) rfl rfl rfl rfl jE jE jE jE jC rfl rfl ?_)|(refine H.Af rfl rfl rfl (rpairs_fn f _ hp hr hl) ?_))
      exact qaB
    ·skip;try simp only[Bool.not_eq_true]at *
     refine Fn.e2 func30 ntmps30 fun base=>?_;exact qaO
   ·exact qbx
  ·exact qbx
 ·exact qbx
theorem splice_dig(x:Bod):splice (({Bod.zero x.kind with k:=x.k}:Bod).vals none 0) (0+44) (b32 x.dig)=(x.ownK 6).vals none 0:=by
 have e:({Bod.zero x.kind with k:=x.k}:Bod).vals none 0=([.int .u8 (x.kind.toNat:Nat),.int .u64 0,.int .u64 x.k]++Req.zero.vals++[.slice none 0 0])++b32 noTag:=rfl;have e2:(x.ownK 6).vals none 0=([.int .u8 (x.kind.toNat:Nat),.int .u64 0,.int .u64 x.k]++Req.zero.vals++[.slice none 0 0])++b32 x.dig:=rfl
 rw[e,e2];generalize hp:([.int .u8 (x.kind.toNat:Nat),.int .u64 0,.int .u64 x.k]++Req.zero.vals++[.slice none 0 0]:List Value)=p;have hl:p.length=44:=by rw[←hp];rfl
 exact qcc
theorem own_fn1(hk:x.kind.toNat=1):Fn prog 97 [.agg (x.vals q qc).toArray] f F (Ret (.agg ((x.ownK 1).vals none 0).toArray) f F):=by
 refine qhZ fun base=>?_;repeat(first|(refine gh ?_)|(refine H.box (ls:=x.vals q qc) rfl rfl rfl rfl fun xb=>?_)|(refine H.Aj (ls:=(Bod.zero 0).vals none 0) rfl rfl rfl fun _=>?_)|(refine H.Ag (ls:=(Bod.zero 0).vals none 0) (vs:=(Bod.zero x.kind).vals none 0) (ls':=(Bod.zero x.kind).vals none 0) rfl rfl rfl (zaa rfl) rfl rfl (Nat.le_refl 76) jB ?_)|(refine H.Ad (ls:=x.req.vals) rfl rfl rfl (zbw jB) rfl rfl ?_)|(refine H.Ag (ls:=({Bod.zero x.kind with view:=x.view}:Bod).vals none 0) (vs:=x.req.vals) (ls':=(x.ownK 1).vals none 0) rfl rfl rfl (zaa rfl) rfl rfl (show 3+40≤76 by decide) jB ?_))
 refine H.Ad (ls:=(x.ownK 1).vals none 0) rfl rfl rfl (Rd.ofRow jB) rfl rfl ?_;refine H.Ag (ls:=(Bod.zero 0).vals none 0) (vs:=(x.ownK 1).vals none 0) (ls':=(x.ownK 1).vals none 0) rfl rfl rfl (zaa rfl) rfl rfl (Nat.le_refl 76) jB ?_;exact qaM
theorem own_fn2(hk:x.kind.toNat=2):Fn prog 97 [.agg (x.vals q qc).toArray] f F (Ret (.agg ((x.ownK 2).vals none 0).toArray) f F):=by
 refine qhZ fun base=>?_;repeat(first|(refine gh ?_)|(refine H.box (ls:=x.vals q qc) rfl rfl rfl rfl fun xb=>?_)|(refine H.Aj (ls:=(Bod.zero 0).vals none 0) rfl rfl rfl fun _=>?_)|(refine H.Ag (ls:=(Bod.zero 0).vals none 0) (vs:=(Bod.zero x.kind).vals none 0) (ls':=(Bod.zero x.kind).vals none 0) rfl rfl rfl (zaa rfl) rfl rfl (Nat.le_refl 76) jB ?_))
 refine H.Ad (ls:=(x.ownK 2).vals none 0) rfl rfl rfl (Rd.ofRow jB) rfl rfl ?_;refine H.Ag (ls:=(Bod.zero 0).vals none 0) (vs:=(x.ownK 2).vals none 0) (ls':=(x.ownK 2).vals none 0) rfl rfl rfl (zaa rfl) rfl rfl (Nat.le_refl 76) jB ?_;exact qaM
theorem own_fn3(hk:x.kind.toNat=3):Fn prog 97 [.agg (x.vals q qc).toArray] f F (Ret (.agg ((x.ownK 3).vals none 0).toArray) f F):=by
 refine qhZ fun base=>?_;repeat(first|(refine gh ?_)|(refine H.box (ls:=x.vals q qc) rfl rfl rfl rfl fun xb=>?_)|(refine H.Aj (ls:=(Bod.zero 0).vals none 0) rfl rfl rfl fun _=>?_)|(refine H.Ag (ls:=(Bod.zero 0).vals none 0) (vs:=(Bod.zero x.kind).vals none 0) (ls':=(Bod.zero x.kind).vals none 0) rfl rfl rfl (zaa rfl) rfl rfl (Nat.le_refl 76) jB ?_))
 refine H.Ad (ls:=(x.ownK 3).vals none 0) rfl rfl rfl (Rd.ofRow jB) rfl rfl ?_;refine H.Ag (ls:=(Bod.zero 0).vals none 0) (vs:=(x.ownK 3).vals none 0) (ls':=(x.ownK 3).vals none 0) rfl rfl rfl (zaa rfl) rfl rfl (Nat.le_refl 76) jB ?_;exact qaM
theorem own_fn4(hk:x.kind.toNat=4):Fn prog 97 [.agg (x.vals q qc).toArray] f F (Ret (.agg ((x.ownK 4).vals q qc).toArray) f F):=by
 refine qhZ fun base=>?_;repeat(first|(refine gh ?_)|(refine H.box (ls:=x.vals q qc) rfl rfl rfl rfl fun xb=>?_)|(refine H.Aj (ls:=(Bod.zero 0).vals none 0) rfl rfl rfl fun _=>?_)|(refine H.Ag (ls:=(Bod.zero 0).vals none 0) (vs:=(Bod.zero x.kind).vals none 0) (ls':=(Bod.zero x.kind).vals none 0) rfl rfl rfl (zaa rfl) rfl rfl (Nat.le_refl 76) jB ?_))
 refine H.Ad (ls:=(x.ownK 4).vals q qc) rfl rfl rfl (Rd.ofRow jB) rfl rfl ?_;refine H.Ag (ls:=(Bod.zero 0).vals none 0) (vs:=(x.ownK 4).vals q qc) (ls':=(x.ownK 4).vals q qc) rfl rfl rfl (zaa rfl) rfl rfl (Nat.le_refl 76) jB ?_;exact qaM
theorem own_fn5(hk:x.kind.toNat=5):Fn prog 97 [.agg (x.vals q qc).toArray] f F (Ret (.agg ((x.ownK 5).vals none 0).toArray) f F):=by
 refine qhZ fun base=>?_;repeat(first|(refine gh ?_)|(refine H.box (ls:=x.vals q qc) rfl rfl rfl rfl fun xb=>?_)|(refine H.Aj (ls:=(Bod.zero 0).vals none 0) rfl rfl rfl fun _=>?_)|(refine H.Ag (ls:=(Bod.zero 0).vals none 0) (vs:=(Bod.zero x.kind).vals none 0) (ls':=(Bod.zero x.kind).vals none 0) rfl rfl rfl (zaa rfl) rfl rfl (Nat.le_refl 76) jB ?_))
 refine H.Ad (ls:=(x.ownK 5).vals none 0) rfl rfl rfl (Rd.ofRow jB) rfl rfl ?_;refine H.Ag (ls:=(Bod.zero 0).vals none 0) (vs:=(x.ownK 5).vals none 0) (ls':=(x.ownK 5).vals none 0) rfl rfl rfl (zaa rfl) rfl rfl (Nat.le_refl 76) jB ?_;exact qaM
theorem own_fn6(hk:x.kind.toNat=6):Fn prog 97 [.agg (x.vals q qc).toArray] f F (Ret (.agg ((x.ownK 6).vals none 0).toArray) f F):=by
 refine qhZ fun base=>?_;repeat(first|(refine gh ?_)|(refine H.box (ls:=x.vals q qc) rfl rfl rfl rfl fun xb=>?_)|(refine H.Aj (ls:=(Bod.zero 0).vals none 0) rfl rfl rfl fun _=>?_)|(refine H.Ag (ls:=(Bod.zero 0).vals none 0) (vs:=(Bod.zero x.kind).vals none 0) (ls':=(Bod.zero x.kind).vals none 0) rfl rfl rfl (zaa rfl) rfl rfl (Nat.le_refl 76) jB ?_)|(refine H.Ad (ls:=b32 x.dig) rfl rfl rfl (row_dig jB) rfl rfl ?_)|(refine H.Ag (ls:=({Bod.zero x.kind with k:=x.k}:Bod).vals none 0) (vs:=b32 x.dig) (ls':=(x.ownK 6).vals none 0) rfl rfl rfl (zaj (b32L x.dig)) rfl (splice_dig x) (show 44+32≤76 by decide) jB ?_))
 refine H.Ad (ls:=(x.ownK 6).vals none 0) rfl rfl rfl (Rd.ofRow jB) rfl rfl ?_;refine H.Ag (ls:=(Bod.zero 0).vals none 0) (vs:=(x.ownK 6).vals none 0) (ls':=(x.ownK 6).vals none 0) rfl rfl rfl (zaa rfl) rfl rfl (Nat.le_refl 76) jB ?_;exact qaM
theorem own_fn0(hk:x.kind.toNat=0∨7≤x.kind.toNat):Fn prog 97 [.agg (x.vals q qc).toArray] f F (Ret (.agg ((x.ownK 7).vals none 0).toArray) f F):=by
 refine qhZ fun base=>?_;repeat(first|(refine gh ?_)|(refine H.box (ls:=x.vals q qc) rfl rfl rfl rfl fun xb=>?_)|(refine H.Aj (ls:=(Bod.zero 0).vals none 0) rfl rfl rfl fun _=>?_)|(refine H.Ag (ls:=(Bod.zero 0).vals none 0) (vs:=(Bod.zero x.kind).vals none 0) (ls':=(Bod.zero x.kind).vals none 0) rfl rfl rfl (zaa rfl) rfl rfl (Nat.le_refl 76) jB ?_))
 refine H.Ad (ls:=(x.ownK 7).vals none 0) rfl rfl rfl (Rd.ofRow jB) rfl rfl ?_;refine H.Ag (ls:=(Bod.zero 0).vals none 0) (vs:=(x.ownK 7).vals none 0) (ls':=(x.ownK 7).vals none 0) rfl rfl rfl (zaa rfl) rfl rfl (Nat.le_refl 76) jB ?_;exact qaM
theorem own_fn(hq:QAt f q x.q):Fn prog 97 [.agg (x.vals q qc).toArray] f F
  (RetP (fun i:Option Addr×Nat=>QAt f i.1 x.own.q) (fun i=>.agg (x.own.vals i.1 i.2).toArray) f (fun _=>F)):=by
 have fin:∀(k:Nat) (q':Option Addr) (qc':Nat),x.own=x.ownK k→QAt f q' (x.ownK k).q→Fn prog 97 [.agg (x.vals q qc).toArray] f F (Ret (.agg ((x.ownK k).vals q' qc').toArray) f F)→
   Fn prog 97 [.agg (x.vals q qc).toArray] f F (RetP (fun i:Option Addr×Nat=>QAt f i.1 x.own.q) (fun i=>.agg (x.own.vals i.1 i.2).toArray) f (fun _=>F)):=fun k q' qc' e hq' h=>
  h.mono fun v f' A' hr=>by
   obtain⟨rfl,rfl,rfl⟩:=hr
   exact⟨(q',qc'),by rw[e];exact hq',by rw[e],rfl,rfl⟩
 generalize hk:x.kind.toNat=kind
 match kind,hk with
 |1,hk=>exact fin 1 none 0 jc (QAt.nil _ _) (own_fn1 f F hk)
 |2,hk=>exact fin 2 none 0 jc (QAt.nil _ _) (own_fn2 f F hk)
 |3,hk=>exact fin 3 none 0 jc (QAt.nil _ _) (own_fn3 f F hk)
 |4,hk=>exact fin 4 q qc jc hq (own_fn4 f F hk)
 |5,hk=>exact fin 5 none 0 jc (QAt.nil _ _) (own_fn5 f F hk)
 |6,hk=>exact fin 6 none 0 jc (QAt.nil _ _) (own_fn6 f F hk)
 |0,hk=>exact fin 7 none 0 (by unfold Bod.own;rw[hk];rfl) (QAt.nil _ _) (own_fn0 f F (.inl hk))
 |k+7,hk=>exact fin 7 none 0 (by unfold Bod.own;rw[hk];rfl) (QAt.nil _ _) (own_fn0 f F (.inr jA))
theorem rasked_fn(r:Req):Fn prog 31 [.agg r.vals.toArray] f F (Ret (.bool (decide r.asked)) f F):=by
 by_cases h1:1≤r.client
 ·by_cases h2 : r.client ≤ 8
  ·by_cases h3 : 1 ≤ r.time
   ·by_cases h4 : r.time ≤ 4611686018427387904
    ·by_cases h5 : r.key.size ≤ 32
     ·by_cases h6 : r.to.size ≤ 32
      ·by_cases h7:r.val.size≤128
       ·skip;refine Fn.e1 func31 ntmps31 fun base=>?_;repeat(first|(refine gh ?_)|(refine H.box (ls:=r.vals) rfl rfl rfl rfl fun xb=>?_))
        refine qeK ?_;refine H.Ae rfl rfl iD ⟨?_,rfl,rfl⟩;congr 1;apply decide_eq_decide.2;unfold Req.asked;omega
       ·exact qah
      ·exact qah
     ·exact qah
    ·exact qah
   ·exact qah
  ·exact qah
 ·exact qah
def wq(q:List (Int×Int)):Nat→Int
 |0=>0
 |j+1=>(q.getD j (0,0)).1
theorem quo_loop(i:Nat)(hi:i<x.q.length)(w:Int):quo w (x.q.drop i)=if x.q[i].1≤w∨11<x.q[i].1∨x.q[i].2<1∨65536<x.q[i].2 then false else quo x.q[i].1 (x.q.drop (i+1)):=by
 rw[List.drop_eq_getElem_cons hi];rfl
theorem rbody4_fn (hq : QAt f q x.q) (hl : x.q.length ≤ 1000000000) (hk : x.kind.toNat = 4) (hs : Bod.eqB x.own x = true) (hv : x.view < 1073741824) :Fn prog 56 [.agg (x.vals q qc).toArray] f F (Ret (.bool x.may) f F):=by
  unfold Bod.may;rw[hk];refine Fn.e1 func56 ntmps56 fun base=>?_;refine qff fun xb=>?_;refine qgg fun i hqo=>?_;refine qeg ?_;refine HB.ev 3 ?_
  have hlo:x.own.q.length≤1000000000:=by
    have:x.own.q=x.q∨x.own.q=[]:=by
      unfold Bod.own
      match x.kind.toNat with
      |0=>exact .inr rfl
      |1=>exact .inr rfl
      |2=>exact .inr rfl
      |3=>exact .inr rfl
      |4=>exact .inl rfl
      |5=>exact .inr rfl
      |6=>exact .inr rfl
      |k+7=>exact .inr rfl
    rcases this with h|h<;>rw[h]
    · exact hl
    · exact Nat.zero_le _
  refine H.Af rfl rfl rfl (rsame_fn f _ hqo hq hlo) ?_;refine qeg ?_;refine HB.qu [4,5,6,7,8,9] 0 ?_;have hn:(!true)=false:=rfl;rw[hs,decide_eq_true hv,Bool.true_and,Bool.true_and]
  refine gV ?_;refine qey ?_;refine gN ?_;refine H.lo (ι:=Nat) (fun i=>[(3,.int .i64 (i:Int)),(1,.pointer (some ⟨xb,0,none⟩))]) (fun _=>f) (fun _=>row xb 52 (x.vals q qc)::F) (fun i=>i≤x.q.length∧quo 0 x.q=quo (wq x.q i) (x.q.drop i)∧(0<i→1≤wq x.q i)) (fun i=>x.q.length-i) 0 ⟨Nat.zero_le _,rfl,fun h=>absurd h (Nat.lt_irrefl _)⟩ fun i hi=>?_;obtain⟨hi,hw,hwp⟩:i≤x.q.length∧quo 0 x.q=quo (wq x.q i) (x.q.drop i)∧(0<i→1≤wq x.q i):=hi;by_cases hlt:i<x.q.length
  · have hx : x.q[i]? = some x.q[i] := lgE hlt
    have hquo:=quo_loop i hlt (wq x.q i)
    have hwz:wq x.q (i+1)=x.q[i].1:=by show(x.q.getD i (0,0)).1=_;rw[List.getD_eq_getElem?_getD,hx];rfl
    generalize x.q[i]=z at hx hquo hwz
    obtain⟨b,off,cs,T,fr,hqb,hfb,hcs⟩:=hq i z hx
    have hq':=hq
    subst hqb
    have rd:∀A,Rd f A b (off+i*2) (pairV z):=fun A=>Rd.imm hfb hcs
    refine gM ?_
    refine H.Ak rfl rfl rfl rfl hlt rfl ?_
    refine H.Ad (ls:=pairV z) rfl rfl rfl (rd _) rfl rfl ?_
    refine H.Aj rfl rfl rfl fun pb=>?_
    refine H.Ag (ls:=[.int .i64 0,.int .u64 0]) (vs:=pairV z) (ls':=pairV z) rfl rfl rfl (zaa rfl) rfl rfl (Nat.le_refl 2) jB ?_
    refine gA ?_
    refine H.dq ?_
    by_cases hi0:i=0
    · have hw0 : wq x.q i = 0 := by rw [hi0]; rfl
      rw[hw0]at hquo hw
      have j:Nat:=0
      have rd2:=rd
      by_cases h1:1≤z.1
      · skip
        by_cases h2:z.1≤11
        · skip
          by_cases h4:1≤z.2
          · skip
            by_cases h5:z.2≤65536
            · skip
              refine gZ ?_
              refine gc ?_
              refine H.Ac (.here _ _) ?_
              first
                |exact H.ag (i+1) ⟨by show i+1≤x.q.length;omega,by show quo 0 x.q=_;rw[hw,hquo,if_neg jA,←hwz],by show 0<i+1→1≤wq x.q (i+1);rw[hwz];omega⟩ jI
                | (refine H.Ac (.here _ _) ?_
                   refine H.Ae rfl rfl iD ⟨?_,rfl,rfl⟩
                   rw[show x.mayK 4=(decide (1≤x.view)&&(quo 0 x.q&&decide (0<x.q.length)))from rfl,hw,hquo,if_pos jA]
                   simp)
            · skip
              refine gZ ?_
              refine gG ?_
              refine H.Ac (.here _ _) ?_
              first
                |exact H.ag (i+1) ⟨by show i+1≤x.q.length;omega,by show quo 0 x.q=_;rw[hw,hquo,if_neg jA,←hwz],by show 0<i+1→1≤wq x.q (i+1);rw[hwz];omega⟩ jI
                | (refine H.Ac (.here _ _) ?_
                   refine H.Ae rfl rfl iD ⟨?_,rfl,rfl⟩
                   rw[show x.mayK 4=(decide (1≤x.view)&&(quo 0 x.q&&decide (0<x.q.length)))from rfl,hw,hquo,if_pos jA]
                   simp)
          · skip
            refine gZ ?_
            refine gD ?_
            refine H.Ac (.here _ _) ?_
            first
              |exact H.ag (i+1) ⟨by show i+1≤x.q.length;omega,by show quo 0 x.q=_;rw[hw,hquo,if_neg jA,←hwz],by show 0<i+1→1≤wq x.q (i+1);rw[hwz];omega⟩ jI
              | (refine H.Ac (.here _ _) ?_
                 refine H.Ae rfl rfl iD ⟨?_,rfl,rfl⟩
                 rw[show x.mayK 4=(decide (1≤x.view)&&(quo 0 x.q&&decide (0<x.q.length)))from rfl,hw,hquo,if_pos jA]
                 simp)
        · skip
          refine gZ ?_
          refine gD ?_
          refine H.Ac (.here _ _) ?_
          first
            |exact H.ag (i+1) ⟨by show i+1≤x.q.length;omega,by show quo 0 x.q=_;rw[hw,hquo,if_neg jA,←hwz],by show 0<i+1→1≤wq x.q (i+1);rw[hwz];omega⟩ jI
            | (refine H.Ac (.here _ _) ?_
               refine H.Ae rfl rfl iD ⟨?_,rfl,rfl⟩
               rw[show x.mayK 4=(decide (1≤x.view)&&(quo 0 x.q&&decide (0<x.q.length)))from rfl,hw,hquo,if_pos jA]
               simp)
      · skip
        refine gZ ?_
        refine gD ?_
        refine H.Ac (.here _ _) ?_
        first
          |exact H.ag (i+1) ⟨by show i+1≤x.q.length;omega,by show quo 0 x.q=_;rw[hw,hquo,if_neg jA,←hwz],by show 0<i+1→1≤wq x.q (i+1);rw[hwz];omega⟩ jI
          | (refine H.Ac (.here _ _) ?_
             refine H.Ae rfl rfl iD ⟨?_,rfl,rfl⟩
             rw[show x.mayK 4=(decide (1≤x.view)&&(quo 0 x.q&&decide (0<x.q.length)))from rfl,hw,hquo,if_pos jA]
             simp)
    · obtain ⟨j, hj⟩ : ∃ j, i = j + 1 := ⟨i - 1, by omega⟩
      obtain⟨y,hy⟩:∃y,x.q[j]?=some y:=⟨x.q[j]' jA,lgE jA⟩
      have hwj0:wq x.q (j+1)=y.1:=by show(x.q.getD j (0,0)).1=_;rw[List.getD_eq_getElem?_getD,hy];rfl
      have hwj:wq x.q i=y.1:=by rw[←hwj0,hj]
      have hwp:=hwp jA
      rw[hwj]at hquo hwp hw
      obtain⟨b2,off2,cs2,T2,fr2,hqb2,hfb2,hcs2⟩:=hq j y hy
      have rd2:∀A,Rd f A b2 (off2+j*2) (pairV y):=fun A=>Rd.imm hfb2 hcs2
      cases hqb2
      by_cases h1:1≤z.1
      · skip
        by_cases h2:z.1≤11
        · skip
          by_cases h3:y.1<z.1
          · skip
            by_cases h4:1≤z.2
            · skip
              by_cases h5:z.2≤65536
              · skip
                repeat(first|(refine gi ?_)|(refine HQ.Ak (i:=j) rfl rfl rfl jA jA rfl ?_)|(refine HQ.Ab rfl rfl rfl (.of (rd2 _) (i:=0) rfl) rfl ?_))
                refine gc ?_
                refine H.Ac (.here _ _) ?_
                first
                  |exact H.ag (i+1) ⟨by show i+1≤x.q.length;omega,by show quo 0 x.q=_;rw[hw,hquo,if_neg jA,←hwz],by show 0<i+1→1≤wq x.q (i+1);rw[hwz];omega⟩ jI
                  | (refine H.Ac (.here _ _) ?_
                     refine H.Ae rfl rfl iD ⟨?_,rfl,rfl⟩
                     rw[show x.mayK 4=(decide (1≤x.view)&&(quo 0 x.q&&decide (0<x.q.length)))from rfl,hw,hquo,if_pos jA]
                     simp)
              · skip
                repeat(first|(refine gi ?_)|(refine HQ.Ak (i:=j) rfl rfl rfl jA jA rfl ?_)|(refine HQ.Ab rfl rfl rfl (.of (rd2 _) (i:=0) rfl) rfl ?_))
                refine gG ?_
                refine H.Ac (.here _ _) ?_
                first
                  |exact H.ag (i+1) ⟨by show i+1≤x.q.length;omega,by show quo 0 x.q=_;rw[hw,hquo,if_neg jA,←hwz],by show 0<i+1→1≤wq x.q (i+1);rw[hwz];omega⟩ jI
                  | (refine H.Ac (.here _ _) ?_
                     refine H.Ae rfl rfl iD ⟨?_,rfl,rfl⟩
                     rw[show x.mayK 4=(decide (1≤x.view)&&(quo 0 x.q&&decide (0<x.q.length)))from rfl,hw,hquo,if_pos jA]
                     simp)
            · skip
              repeat(first|(refine gi ?_)|(refine HQ.Ak (i:=j) rfl rfl rfl jA jA rfl ?_)|(refine HQ.Ab rfl rfl rfl (.of (rd2 _) (i:=0) rfl) rfl ?_))
              refine gD ?_
              refine H.Ac (.here _ _) ?_
              first
                |exact H.ag (i+1) ⟨by show i+1≤x.q.length;omega,by show quo 0 x.q=_;rw[hw,hquo,if_neg jA,←hwz],by show 0<i+1→1≤wq x.q (i+1);rw[hwz];omega⟩ jI
                | (refine H.Ac (.here _ _) ?_
                   refine H.Ae rfl rfl iD ⟨?_,rfl,rfl⟩
                   rw[show x.mayK 4=(decide (1≤x.view)&&(quo 0 x.q&&decide (0<x.q.length)))from rfl,hw,hquo,if_pos jA]
                   simp)
          · skip
            repeat(first|(refine gi ?_)|(refine HQ.Ak (i:=j) rfl rfl rfl jA jA rfl ?_)|(refine HQ.Ab rfl rfl rfl (.of (rd2 _) (i:=0) rfl) rfl ?_))
            refine gD ?_
            refine H.Ac (.here _ _) ?_
            first
              |exact H.ag (i+1) ⟨by show i+1≤x.q.length;omega,by show quo 0 x.q=_;rw[hw,hquo,if_neg jA,←hwz],by show 0<i+1→1≤wq x.q (i+1);rw[hwz];omega⟩ jI
              | (refine H.Ac (.here _ _) ?_
                 refine H.Ae rfl rfl iD ⟨?_,rfl,rfl⟩
                 rw[show x.mayK 4=(decide (1≤x.view)&&(quo 0 x.q&&decide (0<x.q.length)))from rfl,hw,hquo,if_pos jA]
                 simp)
        · skip
          refine gZ ?_
          refine gD ?_
          refine H.Ac (.here _ _) ?_
          first
            |exact H.ag (i+1) ⟨by show i+1≤x.q.length;omega,by show quo 0 x.q=_;rw[hw,hquo,if_neg jA,←hwz],by show 0<i+1→1≤wq x.q (i+1);rw[hwz];omega⟩ jI
            | (refine H.Ac (.here _ _) ?_
               refine H.Ae rfl rfl iD ⟨?_,rfl,rfl⟩
               rw[show x.mayK 4=(decide (1≤x.view)&&(quo 0 x.q&&decide (0<x.q.length)))from rfl,hw,hquo,if_pos jA]
               simp)
      · skip
        refine gZ ?_
        refine gD ?_
        refine H.Ac (.here _ _) ?_
        first
          |exact H.ag (i+1) ⟨by show i+1≤x.q.length;omega,by show quo 0 x.q=_;rw[hw,hquo,if_neg jA,←hwz],by show 0<i+1→1≤wq x.q (i+1);rw[hwz];omega⟩ jI
          | (refine H.Ac (.here _ _) ?_
             refine H.Ae rfl rfl iD ⟨?_,rfl,rfl⟩
             rw[show x.mayK 4=(decide (1≤x.view)&&(quo 0 x.q&&decide (0<x.q.length)))from rfl,hw,hquo,if_pos jA]
             simp)
  · have hiq : i = x.q.length := by omega
    subst hiq
    rw[List.drop_length]at hw
    by_cases h1:1≤x.view
    · skip
      refine gg ?_
      refine H.Ac (.here _ _) ?_
      refine H.Ae rfl rfl iD ⟨?_,rfl,rfl⟩
      rw[show x.mayK 4=(decide (1≤x.view)&&(quo 0 x.q&&decide (0<x.q.length)))from rfl,hw,decide_eq_true h1]
      simp[quo]
      omega
    · skip
      refine gX ?_
      refine H.Ac (.here _ _) ?_
      refine H.Ae rfl rfl iD ⟨?_,rfl,rfl⟩
      rw[show x.mayK 4=(decide (1≤x.view)&&(quo 0 x.q&&decide (0<x.q.length)))from rfl,decide_eq_false h1]
      rfl
theorem rbody0_fn(hq:QAt f q x.q)(hl:x.q.length≤1000000000)(h4:¬(x.kind.toNat=4∧Bod.eqB x.own x=true∧x.view<1073741824)):Fn prog 56 [.agg (x.vals q qc).toArray] f F (Ret (.bool x.may) f F):=by
 unfold Bod.may;refine Fn.e1 func56 ntmps56 fun base=>?_;refine qff fun xb=>?_;refine qgg fun i hqo=>?_;refine qeg ?_;refine HB.ev 3 ?_
 have hlo:x.own.q.length≤1000000000:=by
  have:x.own.q=x.q∨x.own.q=[]:=by
   unfold Bod.own
   match x.kind.toNat with
   |0=>exact .inr rfl
   |1=>exact .inr rfl
   |2=>exact .inr rfl
   |3=>exact .inr rfl
   |4=>exact .inl rfl
   |5=>exact .inr rfl
   |6=>exact .inr rfl
   |k+7=>exact .inr rfl
  rcases this with h|h<;>rw[h]
  ·exact hl
  ·exact Nat.zero_le _
 refine H.Af rfl rfl rfl (rsame_fn f _ hqo hq hlo) ?_;refine qeg ?_;refine HB.qu [4,5,6,7,8,9] 0 ?_;generalize hs:Bod.eqB x.own x=sm
 cases sm with
 | false =>
  have hn:(!false)=true:=rfl;refine qfh ?_
  refine gD ?_;exact qaF
 | true =>
  have hn:(!true)=false:=rfl;by_cases hv:x.view<1073741824
  ·rw[decide_eq_true hv,Bool.true_and,Bool.true_and];refine gV ?_;refine qey ?_;generalize hk:x.kind.toNat=kind
   match kind,hk with
   | 0, hk =>
    refine gM ?_;exact qay
   | 1, hk =>
    repeat(first|(refine gh ?_)|(refine H.Ad (ls:=x.req.vals) rfl rfl rfl (zbw jB) rfl rfl ?_)|(refine H.Af rfl rfl rfl (rasked_fn f _ x.req) ?_))
    exact qay
   | 2, hk =>
    exact qcr
   | 3, hk =>
    refine gN ?_;exact qay
   | 5, hk =>
    refine gN ?_;exact qay
   | 6, hk =>
    exact qcr
   | k + 7, hk =>
    refine gM ?_;exact qay
   |4,hk=>exact absurd ⟨hk,hs,hv⟩ h4
  ·rw[decide_eq_false hv];refine gV ?_;refine qey ?_;refine gG ?_;exact qaF
theorem rbody_fn(hq:QAt f q x.q)(hl:x.q.length≤1000000000):Fn prog 56 [.agg (x.vals q qc).toArray] f F (Ret (.bool x.may) f F):=by
 by_cases h4:x.kind.toNat=4∧Bod.eqB x.own x=true∧x.view<1073741824
 ·exact rbody4_fn f F hq hl h4.1 h4.2.1 h4.2.2
 ·exact rbody0_fn f F hq hl h4
end
end Go.Proofs.YtkaknokcbhiigaaGreatDoor
