/- Parts of the proof. No conditions. -/
import Derived.Test.YtdpgpmbebbaoiaaGreatDoorZ04
import Derived.RangeFuncLeaves
import Derived.RangeFuncRecord
import Derived.RangeFuncIn
import Derived.ProofKit
import Derived.Lib.SmallJoins
import Derived.Deep.Slices
import Derived.Deep.Fields
import Derived.OrdersIn
import Derived.Test.YtdpgpmbebbaoiaaGreatDoorProg
import Derived.LaidMore
import Derived.OpenShut
import Derived.Handed
import Derived.MakeChecks
import Derived.Stop.Joined
import Derived.SevenTiedAt
set_option linter.unusedSectionVars false
set_option linter.unusedSimpArgs false
set_option linter.unusedVariables false
namespace Go.Proofs.YtdpgpmbebbaoiaaGreatDoor
open Go Go.Proofs.Tryz
theorem Le.un(f g:Frag):Le f (un f g):=fun k o h=>by simp[Proofs.YtdpgpmbebbaoiaaGreatDoor.un,h]
variable {base w:World} {f g:Frag}
theorem Sat.weak{A:List HP}(h:Le f g)(s:Sat base w g A):Sat base w f A:=by
 obtain⟨a,b,c,d,e,m,hm,hd,hw⟩:=s;refine⟨a,b,c,d,fun k o hk=>e k o (h k o hk),m,hm,fun k=>?_,hw⟩;rcases hd k with h1|h1
 ·refine .inl ?_
  cases hf:f k with
  |none=>rfl
  |some o=>rw[h k o hf]at h1;cases h1
 ·exact .inr h1
theorem wpAnyC_mono{P:Program}{C C':World→Prop}{ops:Array Oper}{Q:Exit→Act→World→Prop}{cut:Array Bool}(hC:∀w,C w→C' w):∀(fuel:Nat) (listed:Array Bool) (a:Act) (w:World),wpAnyC P C ops Q cut fuel listed a w→wpAnyC P C' ops Q cut fuel listed a w
 |0,_,_,_,h=>⟨hC _ h.1,h.2⟩
 | fuel + 1, listed, a, w, h => by
  refine⟨hC _ h.1,?_⟩
  have h2:=h.2
  split at h2
  ·rename_i hc;rw[if_pos hc];exact h2
  ·rename_i hc;rw[if_neg hc];exact⟨h2.1,fun i hi=>wpOp_mono (fun a w=>wpAnyC_mono hC fuel _ a w) (h2.2 i hi)⟩
structure HB(S V:List HP)(cut listed:Array Bool)(fuel:Nat)(P:Program)(base:World)(n:Nat)(L:Env)(f:Frag)(K:Kont):Prop where
 out:∀l q,K= .ops l [] q→Region.noSelect l.toArray=true→q.blind P→∀a w,Fr n a L→Sat base w f (S++V)→
  wpAnyC P (fun w=>∃V,Sat base w f (S++V)) l.toArray (q.den P) cut fuel listed a w
def bPost(P:Program)(base:World)(f:Frag)(S:List HP)(cut listed:Array Bool)(fuel:Nat)(l:List Oper)(q:Post)(e:Exit)(a:Act)(w:World):Prop:=
 Region.noSelect l.toArray=true→q.blind P→match e with
  | .normal=>wpAnyC P (fun w=>∃V,Sat base w f (S++V)) l.toArray (q.den P) cut fuel listed a w
  |e=>q.den P e a w
variable {o:Oper} {a:Act} {B V' S V S' A':List HP} {id ti D off m t:Nat} {op:BinOp} {xt yt ty:TypeId} {x:Operand} {r z:Int} {lst:Lst} {tt:List (Nat × Bool)} {xs:List Operand} {vs fs cs:List Value} {fn:Func} {R:Value→Frag→List HP→Prop} {f':Frag} {α:Type} {fid:FuncId} {ats:Array TypeId}
section rules
variable {P:Program} {base:World} {n:Nat} {L:Env} {f:Frag} {A S V:List HP} {q:Post} {cut listed:Array Bool} {fuel:Nat} {ξ:Ext} {tl:List Oper}
variable {l rest:List Oper} {d:Nat} {ty:TypeId} {pos:String} {af:Array Edge} {gd:Option (Nat × Bool)}
theorem F3(todo:List (Nat×Bool))(left:Nat)(hn:(ordOK l.toArray ⟨listed,cut,left,true⟩ todo&&todo.all (fun t=>(getO l t.1).isSome)&&Nat.beq fuel (todo.length+left))=true)
  (k:HQ V ⟨⟨listed,cut,left,true⟩,todo⟩ P base n L f S (.ops l (pickOps l todo) q)):HB S V cut listed fuel P base n L f (.ops l [] q):=.mk fun l' q' hK hs hb a w hf s=>by
 simp only[Kont.ops.injEq]at hK
 obtain⟨rfl,_,rfl⟩:=hK
 simp only[Bool.and_eq_true,List.all_eq_true]at hn
 obtain⟨⟨h1,h2⟩,h3⟩:=hn
 have h4:fuel=todo.length+left:=Nat.eq_of_beq_eq_true h3
 subst h4
 exact k.out l q rfl hs hb h1 h2 a w hf s
theorem An{ls:Lst}(h0:ls.opn=true)(k:HB A V ls.cut ls.a ls.left P base n L f (.ops l [] q)):HQ V ⟨ls,[]⟩ P base n L f A (.ops l [] q):=.mk fun l' q' hK hs hb ho hg a w hf s=>by
 simp only[Kont.ops.injEq]at hK
 obtain⟨rfl,_,rfl⟩:=hK
 have _:=h0
 have:=k.out l q rfl hs hb a w hf s
 simp only[List.length_nil,Nat.zero_add]
 exact this
theorem HB.done(h0:(Nat.beq fuel 0&&Region.ready .any l.toArray listed == [])=true)(k:H P base n L f (S++V) (.out .normal q)):HB S V cut listed fuel P base n L f (.ops l [] q):=.mk fun l' q' hK hs hb a w hf s=>by
 simp only[Kont.ops.injEq]at hK
 obtain⟨rfl,_,rfl⟩:=hK
 simp only[Bool.and_eq_true,beq_iff_eq]at h0
 have h1:fuel=0:=Nat.eq_of_beq_eq_true h0.1
 subst h1
 exact⟨⟨V,s⟩,h0.2,k.out a w hf s⟩
theorem event_step{i:Nat}(ho:getO l i=some o)(hs:Region.noSelect l.toArray=true)(hb:q.blind P)(hf:Fr n a L)(s:Sat base w f (S++V))
  (k:H P base n L f (S++V) (.ops l [o] (.fn (bPost P base f S cut (listed.setIfInBounds i true) fuel l q)))) :
  wpOp P l.toArray (q.den P) i (wpAnyC P (fun w=>∃V,Sat base w f (S++V)) l.toArray (q.den P) cut fuel (listed.setIfInBounds i true)) a w:=by
 have hk:=k.out a w hf s;unfold wpOp
 rw[List.getElem?_toArray,←getO_eq,ho];show if Region.wanted o (yielded l.toArray a.tmps)=true then _ else _
 have hk':wpList P l.toArray (bPost P base f S cut (listed.setIfInBounds i true) fuel l q) [o] a w:=hk;simp only[wpList]at hk'
 have e1:∀a w,bPost P base f S cut (listed.setIfInBounds i true) fuel l q .normal a w→
   wpAnyC P (fun w=>∃V,Sat base w f (S++V)) l.toArray (q.den P) cut fuel (listed.setIfInBounds i true) a w:=fun a w h=>h hs hb
 by_cases hw:Region.wanted o (yielded l.toArray a.tmps)=true
 ·rw[if_pos hw]at hk'⊢;rcases hk' with h|⟨hasks,x,y,z⟩
  ·exact .inl (upon_mono e1 (fun c a w h=>h hs hb) (fun a w h=>h hs hb) h)
  ·exact .inr ⟨hasks,x,y,z hs hb⟩
 ·rw[if_neg hw]at hk'⊢;exact e1 _ _ hk'
def oneB(l:List Oper)(cut listed:Array Bool)(is:List Nat):Bool:=Region.ready .any l.toArray listed == is&&(listed !=cut)
theorem ES{i:Nat}(hr:oneB l cut listed [i]=true)(ho:getO l i=some o)
  (k:H P base n L f (S++V) (.ops l [o] (.fn (bPost P base f S cut (listed.setIfInBounds i true) fuel l q)))):HB S V cut listed (fuel+1) P base n L f (.ops l [] q):=.mk fun l' q' hK hs hb a w hf s=>by
 simp only[Kont.ops.injEq]at hK
 obtain⟨rfl,_,rfl⟩:=hK
 simp only[oneB,Bool.and_eq_true,beq_iff_eq,bne_iff_ne,ne_eq]at hr
 exact wpAnyC_one hr.1 hr.2 ⟨V,s⟩ (event_step ho hs hb hf s k)
theorem B9{i j:Nat}{o':Oper}(hr:oneB l cut listed [i,j]=true)(ho:getO l i=some o)(ho':getO l j=some o')
  (k:H P base n L f (S++V) (.ops l [o] (.fn (bPost P base f S cut (listed.setIfInBounds i true) fuel l q))))
  (k':H P base n L f (S++V) (.ops l [o'] (.fn (bPost P base f S cut (listed.setIfInBounds j true) fuel l q)))):HB S V cut listed (fuel+1) P base n L f (.ops l [] q):=.mk fun l' q' hK hs hb a w hf s=>by
 simp only[Kont.ops.injEq]at hK
 obtain⟨rfl,_,rfl⟩:=hK
 simp only[oneB,Bool.and_eq_true,beq_iff_eq,bne_iff_ne,ne_eq]at hr
 refine⟨⟨V,s⟩,?_⟩
 rw[if_neg hr.2]
 refine⟨(fun h0=>by rw[hr.1]at h0;simp at h0),fun x hx=>?_⟩
 rw[hr.1]at hx
 simp only[List.mem_cons,List.not_mem_nil,or_false]at hx
 rcases hx with rfl|rfl
 ·exact event_step ho hs hb hf s k
 ·exact event_step ho' hs hb hf s k'
theorem H.on(E:List HP)(hg:Le f g)(hB:B=(S++E)++V')(k:HB (S++E) V' cut listed fuel P base n L g (.ops l [] q)):H P base n L g B (.out .normal (.fn (bPost P base f S cut listed fuel l q))):=.mk fun a w hf s hs hb=>by
 subst hB
 refine wpAnyC_mono (fun w ⟨V1,s1⟩=>⟨E++V1,?_⟩) _ _ _ _ (k.out l q rfl hs hb a w hf s)
 rw[←List.append_assoc]
 exact s1.weak hg
theorem AR(hB:B=S++V')(k:HB S V' cut listed fuel P base n L f (.ops l [] q)):H P base n L f B (.out .normal (.fn (bPost P base f S cut listed fuel l q))):=.mk fun a w hf s hs hb=>by
 subst hB
 exact k.out l q rfl hs hb a w hf s
theorem Dy(hm:P.follows .mixedOrders=true)(hn:Region.noSelect l.toArray=true)(hb:q.blind P)(hB:B=S++V)(k:HB S V #[] (Array.replicate l.length false) l.length P base n L f (.ops l [] q)):H P base n L f B (.code (.region id l.toArray true) q):=.mk fun a w hf s=>by
 refine wp_region_any hm ?_
 subst hB
 have s':Sat base {w with drawn:=w.drawn+1} f (S++V):=s.same rfl rfl rfl rfl
 have:=k.out l q rfl hn hb a _ hf s'
 simpa using wpAnyC.any _ _ _ _ this
theorem ET(upto:List Nat)(hm:P.follows .mixedOrders=true)(hn:Region.noSelect l.toArray=true)(hb:q.blind P)(hB:B=S++V)(k:HB S V (upto.foldl (fun a i=>a.setIfInBounds i true) (Array.replicate l.length false)) (Array.replicate l.length false) l.length P base n L f (.ops l [] q)):H P base n L f B (.code (.region id l.toArray true) q):=.mk fun a w hf s=>by
 refine wp_region_any hm ?_
 subst hB
 have s':Sat base {w with drawn:=w.drawn+1} f (S++V):=s.same rfl rfl rfl rfl
 have:=k.out l q rfl hn hb a _ hf s'
 simpa using wpAnyC.any _ _ _ _ this
theorem HB.next(upto:List Nat)(hc:(listed == cut&&Nat.blt 0 fuel)=true)(hB:S++V=S'++V')
  (k:HB S' V' (match upto with| []=>#[]|_=>upto.foldl (fun a i=>a.setIfInBounds i true) listed) listed fuel P base n L f (.ops l [] q)):HB S V cut listed fuel P base n L f (.ops l [] q):=.mk fun l' q' hK hs hb a w hf s=>by
 simp only[Kont.ops.injEq]at hK
 obtain⟨rfl,_,rfl⟩:=hK
 simp only[Bool.and_eq_true,beq_iff_eq]at hc
 obtain⟨h1,h2⟩:=hc
 have h3:=Nat.le_of_ble_eq_true h2
 obtain⟨m,rfl⟩:∃m,fuel=m+1:=⟨fuel-1,by omega⟩
 refine⟨⟨V,s⟩,?_⟩
 rw[if_pos h1]
 rw[hB]at s
 exact(k.out l q rfl hs hb a w hf s).any
structure HN(listed:Array Bool)(fuel:Nat)(P:Program)(base:World)(n:Nat)(L:Env)(f:Frag)(A:List HP)(K:Kont):Prop where
 out:∀l q,K= .ops l [] q→Region.noSelect l.toArray=true→q.blind P→∀a w,Fr n a L→Sat base w f A→wpAny P .any l.toArray (q.den P) fuel listed a w
theorem wpAnyC_true{ops:Array Oper}{Q:Exit→Act→World→Prop}(h0:ops.size≠0):∀(fuel:Nat) (listed:Array Bool) (a:Act) (w:World),listed.size=ops.size→wpAny P .any ops Q fuel listed a w→wpAnyC P (fun _=>True) ops Q #[] fuel listed a w
 |0,_,_,_,_,h=>⟨trivial,h⟩
 | fuel + 1, listed, a, w, hl, h => by
  refine⟨trivial,?_⟩
  rw[if_neg (by rintro rfl;exact h0 (by simpa using hl.symm))]
  exact⟨h.1,fun i hi=>wpOp_mono (fun a w=>wpAnyC_true h0 fuel _ a w kP) (h.2 i hi)⟩
theorem DW(hm:P.follows .mixedOrders=true)(hn:Region.noSelect l.toArray=true)(hb:q.blind P)
  (k:HN (Array.replicate l.length false) l.length P base n L f A (.ops l [] q)):H P base n L f A (.code (.region id l.toArray true) q):=.mk fun a w hf s=>by
 refine wp_region_any hm ?_
 have s':Sat base {w with drawn:=w.drawn+1} f A:=s.same rfl rfl rfl rfl
 have:=k.out l q rfl hn hb a _ hf s'
 simpa using this
def pureB(l:List Oper)(listed:Array Bool)(i:Nat):Bool:=(Region.ready .any l.toArray listed).contains i&&Region.free .any l.toArray listed i&&barB l.toArray #[] i&&closedB l.toArray listed&&Nat.beq listed.size l.length&&Nat.blt 0 l.length
theorem HN.move{i:Nat}{x:Operand}{v:Value}(hc:pureB l listed i=true)(ho:getO l i=some ⟨some d,.move x,ty,pos,af,gd⟩)(hw:want? l L gd=true)(hx:ev? L x=some v)(hd:Nat.ble (d+1) n=true)
  (k:HN (listed.setIfInBounds i true) fuel P base n ((d,v)::L) f A (.ops l [] q)):HN listed (fuel+1) P base n L f A (.ops l [] q):=.mk fun l' q' hK hs hb a w hf s=>by
 simp only[Kont.ops.injEq]at hK
 obtain⟨rfl,_,rfl⟩:=hK
 simp only[pureB,Bool.and_eq_true]at hc
 obtain⟨⟨⟨⟨⟨h1,h2⟩,h3⟩,h4⟩,h5⟩,h6⟩:=hc
 have h5':listed.size=l.toArray.size:=by simpa using Nat.eq_of_beq_eq_true h5
 have h6':l.toArray.size≠0:=by
  have:=Nat.le_of_ble_eq_true h6;simp only[List.size_toArray];omega
 have hk:=k.out l q rfl hs hb (a.put (some d) v) w (hf.put (Nat.le_of_ble_eq_true hd) v) s
 have hk2:=wpAnyC_true h6' _ _ _ _ (by simpa using h5') hk
 refine wpAnyC.any _ _ _ _ (wpAnyC_take (C:=fun _=>True) (cut:=#[]) (oi:=⟨some d,.move x,ty,pos,af,gd⟩) (v:=v) jy hs h2 h3 h4 h1 (fun c a w h=>hb c a _ _ w h) (.inl ⟨hf.want hw,fun w' _=>?_⟩) hk2)
 simp[execOp,hf.eval hx]
theorem DX(upto:List Nat)(hB:A=S++V)(k:HB S V (match upto with| []=>#[]|_=>upto.foldl (fun a i=>a.setIfInBounds i true) listed) listed fuel P base n L f (.ops l [] q)):HN listed fuel P base n L f A (.ops l [] q):=.mk fun l' q' hK hs hb a w hf s=>by
 simp only[Kont.ops.injEq]at hK
 obtain⟨rfl,_,rfl⟩:=hK
 subst hB
 exact(k.out l q rfl hs hb a w hf s).any
theorem HQ.bits{y:Operand}{k:IntKind}{p p2:Int}(hw:want? l L gd=true)(hx:ev? L x=some (.int k p))(hy:ev? L y=some (.int k p2))(hc:bitsI op k p p2=some r)(hz:r=z)(hd:Nat.ble (d+1) n=true)
  (kk:HQ V ⟨lst.setIfInBounds ti true,tt⟩ P base n ((d,.int k z)::L) f A (.ops l rest q)):HQ V ⟨lst,(ti,false)::tt⟩ P base n L f A (.ops l (⟨some d,.binOp op xt x y yt,ty,pos,af,gd⟩::rest) q):=
 As hw hd (fun a w hf _=>by
  cases op<;>simp only[bitsI,Option.some.injEq,reduceCtorEq]at hc<;>subst hc<;>subst hz<;>
   simp[execOp,eqGuard,binOp,Op.intBits,hf.eval hx,hf.eval hy]) kk
theorem HQ.shift{op:BinOp}{xt yt:TypeId}{x y:Operand}{k k2:IntKind}{p p2 r z:Int}(hw:want? l L gd=true)(hx:ev? L x=some (.int k p))(hy:ev? L y=some (.int k2 p2))(hc:shiftI op k p p2=some r)(h0:0≤p2)(hz:r=z)(hd:Nat.ble (d+1) n=true){lst:Lst}{ti:Nat}{tt:List (Nat×Bool)}
  (kk:HQ V ⟨lst.setIfInBounds ti true,tt⟩ P base n ((d,.int k z)::L) f A (.ops l rest q)):HQ V ⟨lst,(ti,false)::tt⟩ P base n L f A (.ops l (⟨some d,.binOp op xt x y yt,ty,pos,af,gd⟩::rest) q):=
 As hw hd (fun a w hf _=>by
  have h1:¬p2<0:=jB
  cases op<;>simp only[shiftI,Option.some.injEq,reduceCtorEq]at hc<;>subst hc<;>subst hz<;>
   simp[execOp,eqGuard,binOp,Op.shift,hf.eval hx,hf.eval hy,h1]) kk
theorem F4{k:IntKind}{p:Int}(hw:want? l L gd=true)(hx:ev? L x=some (.int k p))(hc:bitsI .xor k (if k.signed then-1 else k.max) p=some r)(hz:r=z)(hd:Nat.ble (d+1) n=true)
  (kk:HQ V ⟨lst.setIfInBounds ti true,tt⟩ P base n ((d,.int k z)::L) f A (.ops l rest q)):HQ V ⟨lst,(ti,false)::tt⟩ P base n L f A (.ops l (⟨some d,.unOp .xor xt x,ty,pos,af,gd⟩::rest) q):=
 As hw hd (fun a w hf _=>by
  simp only[bitsI,Option.some.injEq]at hc
  subst hc;subst hz
  simp[execOp,Op.unary,Op.intBits,hf.eval hx]) kk
theorem HQ.min2{x y:Operand}{ats:Array TypeId}{k:IntKind}{p p2 z:Int}(hw:want? l L gd=true)(hx:ev? L x=some (.int k p))(hy:ev? L y=some (.int k p2))(hz:(if p2<p then p2 else p)=z)(hd:Nat.ble (d+1) n=true){lst:Lst}{ti:Nat}{tt:List (Nat×Bool)}
  (kk:HQ V ⟨lst.setIfInBounds ti true,tt⟩ P base n ((d,.int k z)::L) f A (.ops l rest q)):HQ V ⟨lst,(ti,false)::tt⟩ P base n L f A (.ops l (⟨some d,.call ⟨.builtin .min,#[x,y],ats⟩,ty,pos,af,gd⟩::rest) q):=
 As hw hd (fun a w hf _=>by
  subst hz
  simp[execOp,resolve,invoke,builtin,Builtin.min_,Builtin.min2,hf.eval hx,hf.eval hy]) kk
theorem HQ.max2{x y:Operand}{ats:Array TypeId}{k:IntKind}{p p2 z:Int}(hw:want? l L gd=true)(hx:ev? L x=some (.int k p))(hy:ev? L y=some (.int k p2))(hz:(if p<p2 then p2 else p)=z)(hd:Nat.ble (d+1) n=true){lst:Lst}{ti:Nat}{tt:List (Nat×Bool)}
  (kk:HQ V ⟨lst.setIfInBounds ti true,tt⟩ P base n ((d,.int k z)::L) f A (.ops l rest q)):HQ V ⟨lst,(ti,false)::tt⟩ P base n L f A (.ops l (⟨some d,.call ⟨.builtin .max,#[x,y],ats⟩,ty,pos,af,gd⟩::rest) q):=
 As hw hd (fun a w hf _=>by
  subst hz
  simp[execOp,resolve,invoke,builtin,Builtin.max_,Builtin.max2,hf.eval hx,hf.eval hy]) kk
theorem EU{fn:Go.Fn}{cs:List Operand}{us:List Value}(hw:want? l L gd=true)(hx:evs? L xs=some vs)(hc:evs? L cs=some us)(hd:Nat.ble (d+1) n=true)
  (k:HQ V ⟨lst.setIfInBounds ti true,tt⟩ P base n ((d,.func fn vs.toArray us.toArray)::L) f A (.ops l rest q)):HQ V ⟨lst,(ti,false)::tt⟩ P base n L f A (.ops l (⟨some d,.makeFunc fn xs.toArray cs.toArray,ty,pos,af,gd⟩::rest) q):=
 As hw hd (fun a w hf _=>by
  simp[execOp,Instr.makeFunc,hf.evals hx,hf.evals hc]) k
theorem DL{y:Operand}{xs ys:List Value}{b:Bool}(hw:want? l L gd=true)(hx:ev? L x=some (.agg xs.toArray))(hy:ev? L y=some (.agg ys.toArray))(ho:op= .neq)
  (hg:P.eqGuardType P.depth xt=false) (h1:shp P D xt xs=true) (h2:shp P D xt ys=true) (hm:(match P.underlying xt with|some (.array _ _)|some (.struct _)=>true|_=>false)=true) (hD:D≤10000) (hb:(!eqC xs ys)=b) (hd:Nat.ble (d+1) n=true)
  (kk:HQ V ⟨lst.setIfInBounds ti true,tt⟩ P base n ((d,.bool b)::L) f A (.ops l rest q)):HQ V ⟨lst,(ti,false)::tt⟩ P base n L f A (.ops l (⟨some d,.binOp op xt x y yt,ty,pos,af,gd⟩::rest) q):=
 As hw hd (fun a w hf _=>by
  subst ho;subst hb
  have hmk:∀zs:List Value,mkV P xt zs= .agg zs.toArray:=fun zs=>by
   unfold mkV
   split at hm<;>simp_all
  have h3:=zbf 10000 xt w D D xs ys h1 h2 hD
  rw[hmk,hmk]at h3
  refine run_bin _ ?_ ?_
  ·rw[hf.eval hx,hf.eval hy]
   simp[eqGuard,hg]
  ·rw[hf.eval hx,hf.eval hy]
   show Sem.run P (do pure (Value.bool (!(←Op.equal xt (.agg xs.toArray) (.agg ys.toArray))))) w=_
   have h4:Sem.run P (Op.equal xt (.agg xs.toArray) (.agg ys.toArray)) w= .ok (eqC xs ys) w:=h3
   simp[h4]) kk
theorem EV{t e:TypeId}{y:Operand}{b sz:Nat}{ik:IntKind}[hu:Und P t (.array m e)][hs:Siz P e sz](hw:want? l L gd=true)
  (hx:ev? L x=some (.pointer (some ⟨b,off,none⟩))) (hy:ev? L y=some (.int ik z)) (hq:0≤z∧z.toNat<m) (hd:Nat.ble (d+1) n=true)
  (k:HQ V ⟨lst.setIfInBounds ti true,tt⟩ P base n ((d,.pointer (some ⟨b,off+z.toNat *sz,none⟩))::L) f A (.ops l rest q)):HQ V ⟨lst,(ti,false)::tt⟩ P base n L f A (.ops l (⟨some d,.indexAddr t x y,ty,pos,af,gd⟩::rest) q):=
 BO hw hx hy jB hq.2 hd k
theorem BS{dd:TypeDesc}{b:Nat}{ls:List Value}[hu:Und P ty dd][hs:Siz P ty m](hr:fn.results= #[.cell t ty])(hv:look? L t=some (.pointer (some ⟨b,off,none⟩)))(ha:aggD dd=true)
  (hrd:Rd f A b off ls) (hm:ls.length=m) (hA:∀w,Sat base w f A→Sat base w f A') (h:R (.agg ls.toArray) f A') (hmk:mk? L=none:=by exact rfl):H P base n L f A (.out .ret (.fn (FnPost P fn base R))):=.mk fun a w hf s=>by
 show bodyPost P fn (fun e w'=>∃v f' A',e= .returned v∧R v f' A'∧Sat base w' f' A') .ret a w
 refine bodyPost_ret (v:=.agg ls.toArray) ?_ (hf.bare hmk) ⟨_,f,A',rfl,h,hA w s⟩
 have h1:=hf.get t _ hv
 have h2:a.tmps.getD t undef= .pointer (some ⟨b,off,none⟩):=by simp[Array.getD_eq_getD_getElem?,h1]
 have h3:=zbs (P:=P) hu ha hs (hrd base w s) hm
 unfold Instr.loadAt Instr.sureAddr at h3
 exact results_cell hr h2 jY
theorem EW{v:α→Value}{Ai:α→List HP}(hx:ev? L x=some (.func (.func fid) fs.toArray cs.toArray))[hfun:Fun P fid](hw:want? l L gd=true)(hd:Nat.ble (d+1) n=true)
  (hxs:evs? L xs=some vs) (hc:Fn P fid (fs++vs++cs) f A (RetE v f' Ai)) (k:∀i,H P base n ((d,v i)::L) f' (Ai i) (.ops l rest q)) :
  H P base n L f A (.ops l (⟨some d,.call ⟨.value x,xs.toArray,ats⟩,ty,pos,af,gd⟩::rest) q):=
 BQ hx hw hd hxs hc fun _ _ _ h=>by obtain⟨i,rfl,rfl,rfl⟩:=h;exact k i
theorem E7{β:Type}{v:α→β→Value}{Ai:α→β→List HP}(hx:ev? L x=some (.func (.func fid) fs.toArray cs.toArray))[hfun:Fun P fid](hw:want? l L gd=true)(hd:Nat.ble (d+1) n=true)
  (hxs:evs? L xs=some vs) (hc:Fn P fid (fs++vs++cs) f A (fun u g B=>∃i j,u=v i j∧g=f'∧B=Ai i j)) (k:∀i j,H P base n ((d,v i j)::L) f' (Ai i j) (.ops l rest q)) :
  H P base n L f A (.ops l (⟨some d,.call ⟨.value x,xs.toArray,ats⟩,ty,pos,af,gd⟩::rest) q):=
 BQ hx hw hd hxs hc fun _ _ _ h=>by obtain⟨i,j,rfl,rfl,rfl⟩:=h;exact k i j
end rules
def qz:List Nat→List (Nat×Bool)
 | []=>[]
 |i::r=>(i,false)::qz r
variable {P:Program} {n fuel:Nat} {L:Env} {q:Post} {listed:Array Bool} {l:List Oper}
theorem A6{cut:Array Bool}(is:List Nat)(left:Nat)(hn:(ordOK l.toArray ⟨listed,cut,left,true⟩ (qz is)&&(qz is).all (fun t=>(getO l t.1).isSome)&&Nat.beq fuel ((qz is).length+left))=true:=by kernel_rfl):HQ V ⟨⟨listed,cut,left,true⟩,qz is⟩ P base n L f S (.ops l (pickOps l (qz is)) q)→HB S V cut listed fuel P base n L f (.ops l [] q):=F3 (qz is) left hn
theorem FZ{cut:Array Bool}(i:Nat)(k:H P base n L f (S++V) (.ops l [o] (.fn (bPost P base f S cut (listed.setIfInBounds i true) fuel l q))))(hr:oneB l cut listed [i]=true:=by kernel_rfl)(ho:getO l i=some o:=by exact rfl):HB S V cut listed (fuel+1) P base n L f (.ops l [] q):=ES hr ho k
theorem A7{cut:Array Bool}(i:Nat)(hr:oneB l cut listed [i]=true:=by kernel_rfl)(ho:getO l i=some o:=by exact rfl):H P base n L f (S++V) (.ops l [o] (.fn (bPost P base f S cut (listed.setIfInBounds i true) fuel l q)))→HB S V cut listed (fuel+1) P base n L f (.ops l [] q):=ES hr ho
theorem AN{cut:Array Bool}(k:H P base n L f (S++V) (.out .normal q))(h0:(Nat.beq fuel 0&&Region.ready .any l.toArray listed == [])=true:=by kernel_rfl):HB S V cut listed fuel P base n L f (.ops l [] q):=HB.done h0 k
theorem H.db(hB:B=S++V)(k:HB S V #[] (Array.replicate l.length false) l.length P base n L f (.ops l [] q))(hm:P.follows .mixedOrders=true:=by kernel_rfl)(hn:Region.noSelect l.toArray=true:=by decide+kernel)(hb:q.blind P:=by with_reducible (repeat(first|exact zaw|refine zaq ?_|refine zat ?_|refine zbh ?_))):H P base n L f B (.code (.region id l.toArray true) q):=Dy hm hn hb hB k
theorem H.dc(upto:List Nat)(hB:B=S++V)(k:HB S V (upto.foldl (fun a i=>a.setIfInBounds i true) (Array.replicate l.length false)) (Array.replicate l.length false) l.length P base n L f (.ops l [] q))(hm:P.follows .mixedOrders=true:=by kernel_rfl)(hn:Region.noSelect l.toArray=true:=by decide+kernel)(hb:q.blind P:=by with_reducible (repeat(first|exact zaw|refine zaq ?_|refine zat ?_|refine zbh ?_))):H P base n L f B (.code (.region id l.toArray true) q):=ET upto hm hn hb hB k
theorem HB.nx{cut:Array Bool}(upto:List Nat)(hB:S++V=S'++V')(k:HB S' V' (match upto with| []=>#[]|_=>upto.foldl (fun a i=>a.setIfInBounds i true) listed) listed fuel P base n L f (.ops l [] q))(hc:(listed == cut&&Nat.blt 0 fuel)=true:=by kernel_rfl):HB S V cut listed fuel P base n L f (.ops l [] q):=HB.next upto hc hB k
def FnPostM(P:Program)(fn:Func)(base:World)(R:Value→Frag→List HP→Prop):Exit→Act→World→Prop
 | .normal,a,w=>bodyPostM Fence.wide 3 P fn (fun e w'=>∃v f' A',e= .returned v∧R v f' A'∧Sat base w' f' A') .normal a w
 | .ret,a,w=>bodyPostM Fence.wide 3 P fn (fun e w'=>∃v f' A',e= .returned v∧R v f' A'∧Sat base w' f' A') .ret a w
 |_,_,_=>False
def codeR(P:Program)(lp:Nat)(c:Code)(q:Post):Kont:=.out .normal (.fn fun _ a w=>c.wpIn (Fence.wide.inRound lp) 2 P (q.den P) a w)
def seqR(P:Program)(lp:Nat)(y:Code)(q:Post):Post:=.fn (Exit.then (y.wpIn (Fence.wide.inRound lp) 2 P (q.den P)) (q.den P))
def opsIn(P:Program)(l rest:List Oper)(q:Post):Kont:=.out .normal (.fn fun _ a w=>wpListIn Fence.wide 3 P l.toArray (q.den P) rest a w)
def inList(P:Program)(l rest:List Oper)(q:Post):Post:=.fn (Exit.then (wpListIn Fence.wide 3 P l.toArray (q.den P) rest) (q.den P))
def beginP(P:Program)(lp:Nat)(body:Code)(q:Post):Post:=
 .fn (Exit.then (fun a₁ w₁=>∃w₂,(Instr.beginRound lp).run P w₁= .ok () w₂∧body.wpIn (Fence.wide.inRound lp) 2 P (q.den P) a₁ w₂) (fun _ _ _=>False))
def RW(base:World)(R:Value→Frag→List HP→Prop):Ending→World→Prop:=fun e w'=>∃v f' A',e= .returned v∧R v f' A'∧Sat base w' f' A'
def roundP(P:Program)(lp:Nat)(base:World)(R:Value→Frag→List HP→Prop):Post:=.fn (roundPost P lp (RW base R))
def Post.shut(P:Program)(q:Post):Prop:=∀a w,¬q.den P .outgrown a w
def YieldFn(P:Program)(lp:Nat)(args:List Value)(f:Frag)(A:List HP)(R:Value→Frag→List HP→Prop):Prop:=
 ∀base w,Sat base w f A→∃fn tmps assign body,(Instr.yield lp args.toArray).run P w= .ok (.round lp fn tmps assign body) w∧RoundIn Fence.wide 2 P lp fn tmps assign body w (RW base R)
def loopH(n:Nat)(L:Env)(lp:Nat)(ps:List Tmp)(assign body:Code)(D:Nat)(st:LoopState):HP:=fun h=>
 ∃fn tmps,tmps.size=n∧(∀i v,look? L i=some v→tmps[i]?=some v)∧pts lp (.loop {state:=st,pending:=none,fn,tmps,params:=ps.toArray,assign,body,defers:=D}) h
def setsE:List Tmp→List Value→Env→Env
 |p::ps,v::vs,L=>setsE ps vs ((p,v)::L)
 |_,_,L=>L
variable {y b assign body:Code} {p:Prop} {L0:Env} {lp n0:Nat} {ps:List Tmp} {st:LoopState} {c:Operand} {args:List Value} {v:Value} {rest:List Oper} {pos:String} {af:Array Edge} {gd:Option (Nat × Bool)} {A1:List HP} {R1:Value→Frag→List HP→Prop}
section
variable {P:Program} {base:World} {n:Nat} {L:Env} {f f':Frag} {A A':List HP} {q:Post}
theorem Sat.loop(s:Sat base w f (loopH n L0 lp ps assign body D st::A)):∃fn tmps,tmps.size=n∧(∀i v,look? L0 i=some v→tmps[i]?=some v)∧Sat base w f (pts lp (.loop {state:=st,pending:=none,fn,tmps,params:=ps.toArray,assign,body,defers:=D})::A):=by
 exact qbx
theorem Sat.ofLoop{fn:FuncId}{tmps:Array Value}(h1:tmps.size=n)(h2:∀i v,look? L0 i=some v→tmps[i]?=some v)
  (s:Sat base w f (pts lp (.loop {state:=st,pending:=none,fn,tmps,params:=ps.toArray,assign,body,defers:=D})::A)):Sat base w f (loopH n L0 lp ps assign body D st::A):=by
 exact qbE
theorem D0{c:Code}(hf:P.funcs[fid]?=some fn)(hb:fn.body=some c)(hn:fn.ntmps=m)(hl:Nat.ble args.length m=true)(hL:SubE (envOf 0 args) L)
  (h:∀base,H P base m L f A (.code c (.fn (FnPostM P fn base R)))) (hsm:Nat.ble m 1000003=true:=by exact rfl):Fn P fid args f A R:=fun base w s=>by
 have hl':=Nat.le_of_ble_eq_true hl
 have hsm':=Nat.le_of_ble_eq_true hsm
 refine callsIn_wide.1 (callsIn_of_wp_marks (n:=3) hf hb trivial (wpIn_mono (Q:=FnPostM P fn base R) (wpIn_wide.2 ?_) ?_))
 ·have hmk:dmOf L=[]:=by
   exact qcs
  refine(h base).out _ w ⟨by simp[hn];omega,hsm',hmk.symm,fun i v hi=>?_⟩ s
  obtain⟨_,h2⟩:=look?_envOf args 0 i v (hL.get i v hi)
  simp only[Nat.sub_zero]at h2
  have hlt:i<args.length:=by
   rcases Nat.lt_or_ge i args.length with h|h
   ·exact h
   ·simp[List.getElem?_eq_none h]at h2
  rw[Array.getElem?_append_left (by simpa using hlt)]
  simpa using h2
 ·intro e a w' h
  cases e with
  |normal=>exact h
  |ret=>exact h
  |exit id=>exact h.elim
  |goto l=>exact h.elim
  |panic c=>exact h.elim
  |outgrown=>exact h.elim
theorem bodyPostM_ret{R:Ending→World→Prop}(hr:(results fn a.tmps).run P w= .ok v w)(hd:a.defers=[])(hR:R (.returned v) w):bodyPostM Fence.wide 3 P fn R .ret a w:=by
 apply (qkc);rw[hd];exact⟨v,hr,hR⟩
theorem bodyPostM_mark{R:Ending→World→Prop}(hr:∀w',(results fn a.tmps).run P w'= .ok v w')(hd:a.defers=[{target:=.collected D,args:=#[]}])(hD:w.heap[D]?=some (.deferred (some [])))(hR:R (.returned v) (w.putObj D (.deferred none))):bodyPostM Fence.wide 3 P fn R .ret a w:=by
 apply (qkc);rw[hd];exact⟨by simp,.inl ⟨D,_,rfl,run_takeDeferred hD,⟨v,hr _,hR⟩⟩⟩
theorem Fr.marked(h:Fr n a L)(hm:mk? L=some (.pointer (some ⟨D,0,none⟩))):a.defers=[{target:=.collected D,args:=#[]}]:=h.defers.trans (by unfold dmOf;rw[hm])
theorem F5{A'':List HP}(hr:fn.results= #[.tmp t])(hv:look? L t=some v)(hm:mk? L=some (.pointer (some ⟨D,0,none⟩)))(hD:Pull A (pts D (.deferred (some []))) A')(hA:∀x,stars A' x→stars A'' x)(h:R v f A''):H P base n L f A (.out .ret (.fn (FnPostM P fn base R))):=.mk fun a w hf s=>by
 show bodyPostM Fence.wide 3 P fn (fun e w'=>∃v f' A',e= .returned v∧R v f' A'∧Sat base w' f' A') .ret a w
 have s1:=s.front hD
 have hg:=s1.got (.here _ _ (pts D (.deferred (some []))))
 refine bodyPostM_mark (v:=v) (D:=D) (fun w'=>by rw[results_tmp hr];simp[hf.get t v hv]) (hf.marked hm) hg ⟨v,f,A'',rfl,h,?_⟩
 exact((s1.set (w':=w.putObj D (.deferred none)) aP0 rfl rfl rfl rfl).drop (.here _ _)).imp hA
theorem blind_fnM:(Post.fn (FnPostM P fn base R)).blind P:=fun _ _ _ _ _ h=>h.elim
/-! ### Shut -/
theorem zai:(Post.fn (FnPostM P fn base R)).shut P:=fun _ _ h=>h.elim
theorem zaj:(Post.fn (FnPost P fn base R)).shut P:=fun a w h=>by
 obtain⟨_,_,_,h,_⟩:=h
 cases h
theorem zad:(roundP P lp base R).shut P:=fun _ _ h=>h.elim
theorem zac:(beginP P lp b q).shut P:=fun _ _ h=>h.elim
theorem zah(h:q.shut P):(Post.seq y q).shut P:=h
theorem zae(h:q.shut P):(Post.block id q).shut P:=h
theorem zaf{I:Act→World→Prop}(h:q.shut P):(Post.loop I q).shut P:=h
theorem zag(h:q.shut P):(seqR P lp y q).shut P:=h
theorem zal(h:q.shut P):(inList P l rest q).shut P:=h
/-! ### From the plain walk into a fence -/
theorem uponIn_of_upon{F:Fence}(hd:F.depth=none)(hc:∀m f args w R,Calls P f args w R→CallsIn F m P f args w R)(hr:∀m row args w R,Rows P row args w R→RowsIn F m P row args w R){next next':Act→World→Prop}{Q Q':Exit→Act→World→Prop}(hn:∀a w,next a w→next' a w)(hq:∀e a w,e≠ .normal→Q e a w→Q' e a w):∀r,o.upon P a next Q r→o.uponIn F m P a next' Q' r:=by
 intro r h;have hdd:F.depth.isSome=true→1≤m:=fun h=>by rw[hd]at h;cases h
 match r,h with
 | .ok (.value v) w',h=>exact hn _ _ h
 | .ok .skip w',h=>exact hn _ _ h
 | .ok (.defer d) w',h=>exact hn _ _ h
 | .ok (.enter f args) w', h =>
  refine⟨hdd,(hc _ _ _ _ _ h).mono fun e w'' he=>?_⟩
  cases e with
  |returned v=>exact hn _ _ he
  |panicked c=>exact hq _ _ _ jI he
  |outgrown=>obtain⟨a0,w0,h0⟩:=he;exact⟨a0,w0,hq _ _ _ jI h0⟩
 | .ok (.row row args) w',h=>exact⟨hdd,(hr _ _ _ _ _ h).mono fun v w'' he=>hn _ _ he⟩
 | .halt (.panic v) w',h=>exact hq _ _ _ jI h
theorem rowsIn_wide{row:String}{args:Array Value}{R:Value→World→Prop}(h:Rows P row args w R):RowsIn Fence.wide m P row args w R:=
 fun c cs _=>let⟨v,w',r,s⟩:=h c cs;⟨v,w',r,stepsIn_wide.2 s⟩
theorem wpListIn_of{F:Fence}{m:Nat}(hfn:∀f,F.fn f)(hd:F.depth=none)(hc:∀m f args w R,Calls P f args w R→CallsIn F m P f args w R)(hr:∀m row args w R,Rows P row args w R→RowsIn F m P row args w R)
  {ops:Array Oper} {rest:List Oper} {Q Q':Exit→Act→World→Prop} (hn:∀a w,Q .normal a w→wpListIn F m P ops Q' rest a w) (hq:∀e a w,e≠ .normal→Q e a w→Q' e a w) (ho:∀a w,¬Q .outgrown a w) :
  ∀(l:List Oper),(∀o∈l,∀ρ,o.semAt F.round ρ=execOp ρ o)→∀a w,wpList P ops Q l a w→wpListIn F m P ops Q' (l++rest) a w
 | [],_,a,w,h=>hn a w h
 | o :: l, hs, a, w, h => by
  unfold wpList at h
  show wpListIn F m P ops Q' (o::(l++rest)) a w
  unfold wpListIn
  have ih:=wpListIn_of hfn hd hc hr hn hq ho l (fun o h=>hs o (List.mem_cons_of_mem _ h))
  by_cases hw:Region.wanted o (yielded ops a.tmps)=true
  ·rw[if_pos hw]at h⊢
   rcases h with h|⟨_,a0,w0,h⟩
   ·refine⟨fun f _=>hfn f,?_⟩
    rw[hs o (List.mem_cons_self ..)]
    exact uponIn_of_upon hd hc hr ih hq _ h
   ·exact(ho a0 w0 h).elim
  ·rw[if_neg hw]at h⊢
   exact⟨fun f _=>hfn f,ih _ _ h⟩
def plainOp(o:Oper):Bool:=match o.op with
 | .defer _=>false
 |_=>true
/-! ### Code in a round -/
theorem H.seqR{x:Code}(h:H P base n L f A (codeR P lp x (seqR P lp y q))):H P base n L f A (codeR P lp (.seq x y) q):=.mk fun a w hf s=>wpIn_seq (h.out a w hf s)
theorem C2(h:H P base n L f A (codeR P lp y q)):H P base n L f A (.out .normal (Go.Proofs.YtdpgpmbebbaoiaaGreatDoor.seqR P lp y q)):=.mk h.out
theorem D5(h:H P base n L f A (.out .normal q)):H P base n L f A (codeR P lp .skip q):=.mk fun a w hf s=>wpIn_skip (h.out a w hf s)
theorem CP{c:Code}(h:H P base n L f A (codeR P lp c (.block id q))):H P base n L f A (codeR P lp (.block id c) q):=.mk fun a w hf s=>wpIn_block (h.out a w hf s)
theorem EX{x:Code}{t:Bool}(hc:ev? L c=some (.bool t))(ht:t=true→H P base n L f A (codeR P lp x q))(hf':t=false→H P base n L f A (codeR P lp y q)):H P base n L f A (codeR P lp (.cond c x y) q):=.mk fun a w hf s=>wpIn_cond_split (hf.eval hc) (fun e=>(ht e).out a w hf s) (fun e=>(hf' e).out a w hf s)
theorem DY{x:Code}(hc:ev? L c=some (.bool true))(ht:H P base n L f A (codeR P lp x q)):H P base n L f A (codeR P lp (.cond c x y) q):=EX hc (fun _=>ht) (fun e=>by cases e)
theorem DN{x:Code}(hc:ev? L c=some (.bool false))(ht:H P base n L f A (codeR P lp y q)):H P base n L f A (codeR P lp (.cond c x y) q):=EX hc (fun e=>by cases e) (fun _=>ht)
theorem EY{x:Code}{_:Decidable p}(hc:ev? L c=some (.bool (decide p)))(hp:p)(ht:H P base n L f A (codeR P lp x q)):H P base n L f A (codeR P lp (.cond c x y) q):=DY (by rw[hc,decide_eq_true hp]) ht
theorem EA{x:Code}{_:Decidable p}(hc:ev? L c=some (.bool (decide p)))(hp:¬p)(ht:H P base n L f A (codeR P lp y q)):H P base n L f A (codeR P lp (.cond c x y) q):=DN (by rw[hc,decide_eq_false hp]) ht
theorem BT(hp:l.all plainOp=true)(hs:q.shut P)(h:H P base n L f A (.ops l l q)):H P base n L f A (codeR P lp (.region id l.toArray false) q):=.mk fun a w hf s=>by
 refine wpIn_region_lit ?_
 have:=wpListIn_of (P:=P) (F:=Fence.wide.inRound lp) (m:=2) (ops:=l.toArray) (rest:=[]) (Q:=q.den P) (Q':=q.den P) (fun _=>trivial) rfl (fun m f args w R h=>(callsIn_wide.2 h:CallsIn Fence.wide m P f args w R)) (fun m row args w R h=>rowsIn_wide h) (fun a w h=>h) (fun e a w _ h=>h) hs l (fun o ho ρ=>?_) a w (h.out a w hf s)
 ·rw[List.append_nil]at this
  exact this
 ·have:=List.all_eq_true.1 hp o ho
  exact Oper.semAt_eq _ _ _ fun c hc=>by simp[plainOp,hc]at this
/-! ### A region that calls yield -/
theorem DF(h:H P base n L f A (opsIn P l l q)):H P base n L f A (.code (.region id l.toArray false) q):=.mk fun a w hf s=>wpIn_wide.1 (wpIn_region_lit (n:=3) (h.out a w hf s))
theorem B1(hs:q.shut P)(h:H P base n L f A (.ops l [o] (inList P l rest q))):H P base n L f A (opsIn P l (o::rest) q):=.mk fun a w hf s=>
 wpListIn_of (P:=P) (F:=Fence.wide) (m:=3) (ops:=l.toArray) (rest:=rest) (Q:=(inList P l rest q).den P) (Q':=q.den P) (fun _=>trivial) rfl (fun m f args w R h=>callsIn_wide.2 h) (fun m row args w R h=>rowsIn_wide h) (fun a w h=>h) (fun e a w he h=>by cases e<;>first|exact(he rfl).elim|exact h) hs [o] (fun o _ ρ=>rfl) a w (h.out a w hf s)
theorem D8(h:H P base n L f A (opsIn P l rest q)):H P base n L f A (.out .normal (inList P l rest q)):=.mk h.out
theorem EC(h:H P base n L f A (.out .normal q)):H P base n L f A (opsIn P l [] q):=.mk h.out
theorem run_yieldV(a:Act){dd:Option Tmp}(hx:a.eval x= .func (.yield lp) #[] #[])(hargs:xs.map a.eval=vs):(execOp a.eval ⟨dd,.call ⟨.value x,xs.toArray,ats⟩,ty,pos,af,gd⟩).run P w=(Instr.yield lp vs.toArray).run P w:=by
 have e1:(#[]++Array.map a.eval xs.toArray:Array Value)=vs.toArray:=by simp[hargs]
 simp only[execOp,resolve,hx,Deferred.ofValue,Sem.run_bind,Sem.run_pure,Result.andThen_ok,invoke,e1]
theorem H.yield{d:Nat}(hx:ev? L x=some (.func (.yield lp) #[] #[]))(hw:want? l L gd=true)(hd:Nat.ble (d+1) n=true)
  (hxs:evs? L xs=some vs) (hc:YieldFn P lp vs f A R)
  (k:∀v f' A',R v f' A'→H P base n ((d,v)::L) f' A' (opsIn P l rest q)) :
  H P base n L f A (opsIn P l (⟨some d,.call ⟨.value x,xs.toArray,ats⟩,ty,pos,af,gd⟩::rest) q):=.mk fun a w hf s=>by
 show wpListIn Fence.wide 3 P l.toArray (q.den P) _ a w
 unfold wpListIn
 rw[if_pos (hf.want (o:=⟨some d,_,ty,pos,af,gd⟩) hw)]
 refine⟨fun _ _=>trivial,?_⟩
 obtain⟨fn,tmps,assign,body,h1,h2⟩:=hc base w s
 have hrun:=(run_yieldV (P:=P) (dd:=some d) (ats:=ats) (ty:=ty) (pos:=pos) (af:=af) (gd:=gd) (w:=w) a (hf.eval hx) (hf.evals hxs)).trans h1
 have hrun':Sem.run P (Oper.semAt Fence.wide.round a.eval ⟨some d,.call ⟨.value x,xs.toArray,ats⟩,ty,pos,af,gd⟩) w= .ok (.round lp fn tmps assign body) w:=hrun
 rw[hrun',Oper.uponIn_round]
 refine⟨(fun h=>by cases h),h2.mono ?_⟩
 rintro e w' ⟨v,f',A',rfl,hr,s'⟩
 exact(k v f' A' hr).out _ _ (hf.put (Nat.le_of_ble_eq_true hd) v) s'
/-! ### A round -/
theorem sets_fr:∀(ps:List Tmp) (vs:List Value) (tmps:Array Value) (L:Env),(ps.all fun p=>Nat.ble (p+1) n)=true→tmps.size=n→(∀i v,look? L i=some v→tmps[i]?=some v)→
  ((ps.zip vs).foldl (fun tmps (t,a)=>tmps.setIfInBounds t a) tmps).size=n∧∀i v,look? (setsE ps vs L) i=some v→((ps.zip vs).foldl (fun tmps (t,a)=>tmps.setIfInBounds t a) tmps)[i]?=some v
 | [],vs,tmps,L,_,h1,h2=>by simpa [setsE]using⟨h1,h2⟩
 |p::ps,[],tmps,L,_,h1,h2=>by simpa [setsE]using⟨h1,h2⟩
 | p :: ps, v :: vs, tmps, L, hp, h1, h2 => by
  simp only[List.all_cons,Bool.and_eq_true]at hp
  have hlt:=Nat.le_of_ble_eq_true hp.1
  refine sets_fr ps vs (tmps.setIfInBounds p v) ((p,v)::L) hp.2 kQ fun i u hi=>?_
  rw[look?_cons (look?_lt hi)]at hi
  by_cases e:p=i
  ·subst e
   rw[if_pos rfl]at hi
   injection hi with hi
   subst hi
   rw[Array.getElem?_setIfInBounds_self_of_lt jB]
  ·rw[if_neg e]at hi
   rw[Array.getElem?_setIfInBounds_ne e]
   exact h2 i u hi
theorem DO(h:H P base n L f (loopH n0 L0 lp ps assign b D .busy::A) (codeR P lp body q)):H P base n L f (loopH n0 L0 lp ps assign b D .ready::A) (.out .normal (beginP P lp body q)):=.mk fun a w hf s=>by
 obtain⟨fn,tmps,h1,h2,s1⟩:=s.loop
 have hg:=s1.got (.here _ _ emp)
 refine⟨_,run_beginRound hg rfl,h.out a _ hf (Sat.ofLoop (fn:=fn) (tmps:=tmps) h1 h2 ?_)⟩
 exact s1.set aP0 rfl rfl rfl rfl
theorem Dd(h:R (.bool true) f (loopH n0 L0 lp ps assign b D .ready::A)):H P base n L f (loopH n0 L0 lp ps assign b D .busy::A) (.out .normal (roundP P lp base R)):=.mk fun a w hf s=>by
 obtain⟨fn,tmps,h1,h2,s1⟩:=s.loop
 have hg:=s1.got (.here _ _ emp)
 refine⟨_,_,run_endRound none hg,_,f,_,rfl,h,Sat.ofLoop (fn:=fn) (tmps:=tmps) h1 h2 ?_⟩
 exact s1.set aP0 rfl rfl rfl rfl
theorem YieldFn.of(hp:(ps.all fun p=>Nat.ble (p+1) n)=true)(hz:(Nat.beq args.length ps.length)=true)(hsm:Nat.ble n 1000003=true)(hmk:mk? (setsE ps args L)=none)
  (h:∀base,H P base n (setsE ps args L) f (loopH n L lp ps assign body D .ready::A) (codeR P lp assign (beginP P lp body (roundP P lp base R)))) :
  YieldFn P lp args f (loopH n L lp ps assign body D .ready::A) R:=fun base w s=>by
 obtain⟨fn,tmps,h1,h2,s1⟩:=s.loop
 have hg:=s1.got (.here _ _ emp)
 have hz':args.toArray.size=ps.toArray.size:=by simpa using Nat.eq_of_beq_eq_true hz
 have hy:=run_yield (P:=P) (w:=w) (args:=args.toArray) hg hz'
 refine⟨_,_,_,_,hy,roundIn_of_wpIn (F:=Fence.wide) (n:=2) trivial ?_⟩
 obtain⟨h3,h4⟩:=sets_fr ps args tmps L hp h1 h2
 have e:(ps.toArray.zip args.toArray).foldl (fun tmps (t,a)=>tmps.setIfInBounds t a) tmps=(ps.zip args).foldl (fun tmps (t,a)=>tmps.setIfInBounds t a) tmps:=by simp
 have hfr:Fr n {tmps:=(ps.toArray.zip args.toArray).foldl (fun tmps (t,a)=>tmps.setIfInBounds t a) tmps,defers:=[]} (setsE ps args L):=by
  refine⟨?_,Nat.le_of_ble_eq_true hsm,by unfold dmOf;rw[hmk],fun i v hi=>?_⟩
  ·show Array.size (Array.foldl _ _ _)=n;rw[e];exact h3
  ·show(Array.foldl _ _ _)[i]?=some v;rw[e];exact h4 i v hi
 exact(h base).out _ w hfr s
theorem Fn.wrap(hA:∀h,stars A h→stars A1 h)(h:Fn P fid args f A1 R1)(hR:∀v g B,R1 v g B→∃B',R v g B'∧∀h,stars B h→stars B' h):Fn P fid args f A R:=fun base w s=>
 (h base w (s.imp hA)).mono fun _ _ ⟨v,f',B,e,r,s'⟩=>let⟨B',r',hi⟩:=hR _ _ _ r;⟨v,f',B',e,r',s'.imp hi⟩
theorem YieldFn.wrap(hA:∀h,stars A h→stars A1 h)(h:YieldFn P lp args f A1 R1)(hR:∀v g B,R1 v g B→∃B',R v g B'∧∀h,stars B h→stars B' h):YieldFn P lp args f A R:=fun base w s=>
 let⟨fn,tmps,assign,body,h1,h2⟩:=h base w (s.imp hA)
 ⟨fn,tmps,assign,body,h1,h2.mono fun _ _ ⟨v,f',B,e,r,s'⟩=>let⟨B',r',hi⟩:=hR _ _ _ r;⟨v,f',B',e,r',s'.imp hi⟩⟩
theorem zbe(X A:List HP):∀h,stars (X++A) h→stars (stars X::A) h:=fun h hh=>by rw[zbz]at hh;exact hh
theorem zbd(X A:List HP):∀h,stars (stars X::A) h→stars (X++A) h:=fun h hh=>by rw[zbz];exact hh
/-! ### The statement -/
theorem H.rangeFunc{ι:Type}{g:Operand}{gf:FuncId}{A':ι→Nat→List HP}[hfun:Fun P gf](hg:ev? L g=some (.func (.func gf) fs.toArray cs.toArray))(hmk:mk? L=none)
  (hc:∀D lp,Fn P gf (fs++[.func (.yield lp) #[] #[]]++cs) f (loopH n L lp ps assign body D .ready::pts D (.deferred (some []))::A) (fun _ g B=>∃i,g=f'∧B=loopH n L lp ps assign body D .ready::A' i D))
  (k:∀i D,H P base n ((1000003,.pointer (some ⟨D,0,none⟩))::L) f' (A' i D) (.out .normal q)) :
  H P base n L f A (.code (.rangeFunc g ps.toArray assign body) q):=.mk fun a w hf s=>by
 refine wpIn_wide.1 (wpIn_rangeFunc (F:=Fence.wide) (n:=3) fun fn _=>?_)
 obtain⟨fnc,e1,e2,e3⟩:=hfun.eq
 have hev:a.eval g= .func (.func gf) fs.toArray cs.toArray:=hf.eval hg
 have hd0:a.defers=[]:=hf.bare hmk
 have sA:Sat base (w.alloc (.deferred (some []))) f (pts w.heap.size (.deferred (some []))::A):=s.alloc rfl rfl rfl rfl
 have sB:=sA.alloc (w':=(w.alloc (.deferred (some []))).alloc (.loop {state:=.ready,pending:=none,fn,tmps:=a.tmps,params:=ps.toArray,assign,body,defers:=w.heap.size})) rfl rfl rfl rfl
 rw[World.size_alloc]at sB
 have sC:Sat base _ f (loopH n L (w.heap.size+1) ps assign body w.heap.size .ready::pts w.heap.size (.deferred (some []))::A):=Sat.ofLoop (fn:=fn) (tmps:=a.tmps) hf.size hf.get sB
 have hrun:=run_enterLoop_outer (P:=P) (w:=w) fn a.tmps ps.toArray assign body
 generalize(w.alloc (.deferred (some []))).alloc (.loop {state:=.ready,pending:=none,fn,tmps:=a.tmps,params:=ps.toArray,assign,body,defers:=w.heap.size})=W at sC hrun
 have hcall:=hc w.heap.size (w.heap.size+1) base W sC
 refine⟨w.heap.size+1,_,W,{target:=.fn (.func gf) cs.toArray,args:=fs.toArray++ #[Value.func (.yield (w.heap.size+1)) #[] #[]]},W,gf,(fs++[Value.func (.yield (w.heap.size+1)) #[] #[]]++cs).toArray,W,hrun,?_,fun _ _=>trivial,?_,(fun h=>by cases h),callsIn_wide.2 (hcall.mono ?_)⟩
 ·have:Array.map a.eval #[Operand.const (Value.func (.yield (w.heap.size+1)) #[] #[])]= #[Value.func (.yield (w.heap.size+1)) #[] #[]]:=by simp[Act.eval]
  simp only[rangeCall,resolve,hev,Deferred.ofValue,Sem.run_pure,this]
 ·simp only[invoke,callFunc,Sem.run_bind,run_program,Result.andThen_ok,e1,e2,e3,Bool.false_eq_true,if_false,Sem.run_pure]
  simp
 ·rintro e w' ⟨v,f1,B,rfl,⟨i,rfl,rfl⟩,s'⟩
  obtain⟨fn',tmps',h1,h2,s1⟩:=s'.loop
  have hgl:=s1.got (.here _ _ emp)
  refine⟨none,_,run_endLoop hgl jI,?_⟩
  refine(k i w.heap.size).out _ _ ⟨hf.size,hf.small,?_,fun j u hj=>?_⟩ ((s1.set (w':=w'.putObj (w.heap.size+1) _) aP0 rfl rfl rfl rfl).drop (.here _ _))
  ·show _++a.defers=dmOf _
   rw[hd0]
   rfl
  ·have hl:=look?_lt hj
   rw[look?_cons hl,if_neg jB]at hj
   exact hf.get j u hj
end
end Go.Proofs.YtdpgpmbebbaoiaaGreatDoor

namespace Go.Proofs.YtdpgpmbebbaoiaaGreatDoor
open Go Go.Proofs.Tryz Go.ChangeShapes Go.WideShapes Go.RowKit Go.Deep
def memOf(W:World):Frag:=fun k=>W.heap[k]?
theorem sat_start(W:World):Sat W W (memOf W) []:=
 ⟨rfl,rfl,rfl,Nat.le_refl _,fun _ _ h=>h,nil0,rfl,Dj.nil _,fun k o h=>by cases h⟩
variable {W:World}
theorem Sat.below{w:World}{A:List HP}(s:Sat W w (memOf W) A):Below W.heap.size W w:=
 ⟨s.os, s.tape, s.output, s.size, fun k hk => by
  have e:W.heap[k]?=some W.heap[k]:=Array.getElem?_eq_getElem hk
  rw[e];exact s.imm k _ e⟩
section
variable {H':Type} {enc:TypeId × Value→H'} {P:Program}
theorem trodAll_below{W W':World}(hl:laidOutB P=true)(hb:Below W.heap.size W W'){sp:Nat→Bool}:∀ {ts:List TypeId} {vs:List Value} {ds:List (DataW H')} {ps:List MemPlace},
  (∀t∈ts,P.readableRec t=true∧t<P.types.size)→DataW.TrodAll enc P W 0 (fun _=>true) true ts vs ds ps→(∀x∈ps,x.block<W.heap.size)→(∀x∈ps,sp x.block=true)→
  DataW.TrodAll enc P W' 0 sp true ts vs ds ps
 | [],[],[],_,_,h,_,_=>h
 | t :: ts, v :: vs, d :: ds, ps, hr, h, hlt, hsp => by
  obtain⟨p,q,h1,h2,rfl⟩:=h
  exact⟨p,q,WideElems.Trod_stays hl (hr t jI).1 (hr t jI).2 h1 (fun x hx=>hb.same (hlt x (by simp[hx]))) (fun x hx=>hsp x (by simp[hx])),
   trodAll_below hl hb (fun u hu=>hr u (by simp[hu])) h2 (fun x hx=>hlt x (by simp[hx])) (fun x hx=>hsp x (by simp[hx])),rfl⟩
theorem trodAll_len{W:World}{b:Nat}{sp:Nat→Bool}{hd:Bool}:∀ {ts:List TypeId} {vs:List Value} {ds:List (DataW H')} {ps:List MemPlace},DataW.TrodAll enc P W b sp hd ts vs ds ps→ds.length=ts.length
 | [],[],[],_,_=>rfl
 | _ :: _, _ :: _, _ :: _, _, h => by
  obtain⟨p,q,h1,h2,rfl⟩:=h
  simp[trodAll_len h2]
theorem post_own{fn:Func}{s:ChangeSpec}{apart fresh handsOn again:Bool}{W':World}{args:Array Value}{v:Value}{ds:List (DataW H')}{p:List MemPlace}
  (hW:DataW.Whole enc P fn.params.toList s.vars apart W args.toList ds [] p) (hv:s.vars=[])
  (hA:DataW.TrodAll enc P W 0 (fun _=>true) true fn.params.toList args.toList ds p)
  (hl:laidOutB P=true) (hts:∀t∈fn.params.toList,P.readableRec t=true∧t<P.types.size)
  (hres:∀(b:Nat) (sp:Nat→Bool) (hd:Bool),DataW.TrodAll enc P W' b sp hd fn.resultTypes.toList (v.resultList fn.resultTypes.size) (s.fn H' (ds++[])).results [])
  (hargs:(s.fn H' (ds++[])).args=ds) (hvars:(s.fn H' (ds++[])).vars=[])
  (hb:Below W.heap.size W W')
  (hok:∀(j:Nat) (t:TypeId) (r:Value),fn.resultTypes[j]?=some t→(v.resultList fn.resultTypes.size)[j]?=some r→Value.okWide P W' .any 0 t r) :
  s.post enc P fn apart fresh handsOn again W args v W':=by
 have hlt:=hW.lt;have hold:∀x∈p,(fun b=>decide (b<W.heap.size)) x.block=true:=fun x hx=>by simpa using hlt x hx
 have args':∀sp:Nat→Bool,(∀x∈p,sp x.block=true)→DataW.TrodAll enc P W' 0 sp true fn.params.toList args.toList (s.fn H' (ds++[])).args p:=fun sp hsp=>by
  rw[hargs];exact trodAll_below hl hb hts hA hlt hsp
 have vars':∀sp:Nat→Bool,DataW.TrodVars enc P W' sp s.vars (s.fn H' (ds++[])).vars []:=fun sp=>by rw[hvars,hv];exact rfl
 refine⟨ds,[],p,[],p,[],hW,hres _ _ _,args' _ hold,vars' _,World.keptBut_mono (fun x hx=>⟨hx,?_⟩) (hb.frame (· ∈p)),fun _=>?_⟩
 ·exact .inr kR
 ·obtain⟨_,_,_,_,_,hz,hn⟩:=hW;refine⟨hok,_,_,([]++p)++[],⟨[]++p,[],trodAll_append (args' _ (fun _ _=>rfl)) (hres _ _ _),vars' _,rfl,?_,?_⟩,?_⟩
  ·intro b off hp;have hp':MemPlace.cell b off∈p:=by simpa using hp
   rw[hb.frozen (p:=⟨b,off,none⟩) (hlt _ hp')];exact hz b off hp'
  ·intro ha
   have:=hn ha;simpa using this
  ·intro x hx _;simpa using hx
end
/-! ### Arguments: what their cells are -/
def Reads(P:Program)(W:World)(t:TypeId)(cs:List Value):Prop:=
 ∃(H':Type) (enc:TypeId×Value→H') (base:Nat) (spare:Nat→Bool) (held:Bool) (fuel:Nat) (x:DataW H'×List MemPlace),DataW.trod enc P W base spare held fuel t cs=some x
def ArgOk(P:Program)(W:World)(t:TypeId)(v:Value):Prop:=(∃b,Value.okWide P W .any b t v)∧Reads P W t v.cells.toList
def ArgsOk(P:Program)(W:World):List TypeId→List Value→Prop
 | [],[]=>True
 |t::ts,v::vs=>ArgOk P W t v∧ArgsOk P W ts vs
 |_,_=>False
theorem argsOk_of{H':Type}{enc:TypeId×Value→H'}{P:Program}{W:World}{b:Nat}{sp:Nat→Bool}{hd:Bool}:∀ {ts:List TypeId} {vs:List Value} {ds:List (DataW H')} {ps:List MemPlace},
  DataW.TrodAll enc P W b sp hd ts vs ds ps→(∀(j:Nat) t v,ts[j]?=some t→vs[j]?=some v→∃b,Value.okWide P W .any b t v)→ArgsOk P W ts vs
 | [],[],[],_,_,_=>trivial
 | t :: ts, v :: vs, d :: ds, _, h, hv => by
  obtain⟨p,q,⟨n,h1⟩,h2,rfl⟩:=h
  exact⟨⟨hv 0 t v rfl rfl,H',enc,b,sp,hd,n,_,h1⟩,argsOk_of h2 fun j t v=>hv (j+1) t v⟩
theorem wf_int{k:IntKind}{z:Int}(h:(Lit.int k z).wf=true):k.min≤z∧z≤k.max:=by
 simpa [Lit.wf]using h
theorem Reads.int{P:Program}{t:TypeId}{cs:List Value}{k:IntKind}(ht:P.underlying t=some (.int k))(h:Reads P W t cs):∃z,cs=[.int k z]∧k.min≤z∧z≤k.max:=by
 obtain⟨H',enc,b,sp,hd,n,x,h⟩:=h;obtain⟨z,h1,_,h2⟩:=DataW.trod_int ht h;exact⟨z,h1,wf_int h2⟩
theorem ArgOk.int{P:Program}{W:World}{t:TypeId}{v:Value}{k:IntKind}(ht:P.underlying t=some (.int k))(h:ArgOk P W t v):∃z,v= .int k z∧k.min≤z∧z≤k.max:=by
 obtain⟨⟨b,h1⟩,h2⟩:=h;obtain⟨z,rfl⟩:=okWide_int ht h1;obtain⟨z',e,h3⟩:=h2.int ht;simp[Value.cells]at e;subst e;exact⟨z,rfl,h3⟩
def ListAt{α:Type}(f:Frag)(p:Option Addr)(sz:Nat)(vals:α→List Value)(xs:List α):Prop:=
 ∀i x,xs[i]?=some x→∃b off cs T fr,p=some ⟨b,off,none⟩∧f b=some (.cells cs T fr)∧∀j,j<(vals x).length→cs[off+i*sz+j]?=(vals x)[j]?
end Go.Proofs.YtdpgpmbebbaoiaaGreatDoor

namespace Go.Proofs.YtdpgpmbebbaoiaaGreatDoor
open Go Go.Proofs.Tryz
/-! ### Lists of structs -/
variable {j b n c:Nat} {l':List Value} {v:Value} {f g:Frag} {A A':List HP} {T:TypeId} {p:Option Addr} {P:Program}
section
variable {α:Type} {vals:α→List Value} {sz:Nat}
theorem zar(hv:∀x,(vals x).length=sz):∀xs:List α,(xs.flatMap vals).length=xs.length*sz
 | []=>by simp
 |x::xs=>by rw[List.flatMap_cons,List.length_append,hv,zar hv xs,List.length_cons,Nat.add_mul];omega
theorem flat_split(xs:List α){i:Nat}{x:α}(h:xs[i]?=some x):xs.flatMap vals=(xs.take i).flatMap vals++vals x++(xs.drop (i+1)).flatMap vals:=by
 have hi:i<xs.length:=qbv
 have e:xs=xs.take i++x::xs.drop (i+1):=by
  have h2:xs[i]=x:=by rw[List.getElem?_eq_getElem hi]at h;exact Option.some.inj h
  rw[←h2,List.getElem_cons_drop,List.take_append_drop]
 conv=>lhs;rw[e]
 simp
theorem flat_get(hv:∀x,(vals x).length=sz){xs:List α}{i:Nat}{x:α}(h:xs[i]?=some x)(hj:j<sz):(xs.flatMap vals)[i*sz+j]?=(vals x)[j]?:=by
 have hi:i<xs.length:=qbv
 have hl:((xs.take i).flatMap vals).length=i*sz:=by rw[zar hv,List.length_take,Nat.min_eq_left jB]
 rw[flat_split xs h,List.append_assoc,List.getElem?_append_right jB,hl,show i*sz+j-i*sz=j by omega,List.getElem?_append_left (by rw[hv];exact hj)]
theorem SetV.app'{l:List Value}{i:Nat}(h:SetV l i v l')(post:List Value):SetV (l++post) i v (l'++post):=by
 induction h with
 |here x v t=>exact .here _ _ _
 |there x h ih=>exact .there _ ih
theorem SetV.mid'{l:List Value}{i:Nat}(h:SetV l i v l')(pre post:List Value):SetV (pre++l++post) (pre.length+i) v (pre++l'++post):=by
 rw[List.append_assoc,List.append_assoc]
 induction pre with
 |nil=>rw[List.length_nil,Nat.zero_add];exact h.app' post
 | cons p pre ih =>
  exact qcG
theorem flat_set(hv:∀x,(vals x).length=sz){xs:List α}{i k:Nat}{x y:α}(h:xs[i]?=some x)(hs:SetV (vals x) k v (vals y)):SetV (xs.flatMap vals) (i*sz+k) v ((xs.set i y).flatMap vals):=by
 have hi:i<xs.length:=qbv
 have hl:((xs.take i).flatMap vals).length=i*sz:=by rw[zar hv,List.length_take,Nat.min_eq_left jB]
 have h2:(xs.set i y)[i]?=some y:=by rw[List.getElem?_set_self hi]
 rw[flat_split xs h,flat_split (xs.set i y) h2];have e1:(xs.set i y).take i=xs.take i:=by rw[List.take_set_of_le (Nat.le_refl _)]
 have e2:(xs.set i y).drop (i+1)=xs.drop (i+1):=by rw[List.drop_set_of_lt jB]
 rw[e1,e2,←hl];exact hs.mid' _ _
theorem flat_take(hv:∀x,(vals x).length=sz)(xs:List α)(k:Nat):(xs.flatMap vals).take (k*sz)=(xs.take k).flatMap vals:=by
 rcases Nat.lt_or_ge k xs.length with h|h
 ·have hl:((xs.take k).flatMap vals).length=k*sz:=by rw[zar hv,List.length_take,Nat.min_eq_left jB]
  conv=>lhs;rw[←List.take_append_drop k xs,List.flatMap_append]
  rw[←hl,List.take_left]
 ·rw[List.take_of_length_le (by rw[zar hv];exact Nat.mul_le_mul_right _ h),List.take_of_length_le h]
theorem flat_drop(hv:∀x,(vals x).length=sz)(xs:List α){k:Nat}(h:k≤xs.length):(xs.flatMap vals).drop (k*sz)=(xs.drop k).flatMap vals:=by
 have hl:((xs.take k).flatMap vals).length=k*sz:=by rw[zar hv,List.length_take,Nat.min_eq_left jB]
 conv=>lhs;rw[←List.take_append_drop k xs,List.flatMap_append]
 rw[←hl,List.drop_left]
theorem Rd.slcElem{xs:List α}(hv:∀x,(vals x).length=sz)(h0:0<sz)(h:At A (slc (some ⟨b,0,none⟩) n c T sz (xs.flatMap vals)) A' (slc (some ⟨b,0,none⟩) n c T sz (xs.flatMap vals)))
  {i:Nat} {x:α} (hx:xs[i]?=some x):Rd f A b (i*sz) (vals x):=by
 have hi:i<xs.length:=qcx
 have hl:((xs.take i).flatMap vals).length=i*sz:=by rw[zar hv,List.length_take,Nat.min_eq_left jB]
 intro base w s;obtain⟨h1,h2,h3⟩:=s.slc_at h;rw[zar hv]at h1;rcases h3 with⟨rfl,rfl⟩|⟨b',sp,e,_,_,hw⟩
 ·rw[Nat.zero_mul]at h1;rcases Nat.mul_eq_zero.1 h1 with h|h<;>omega
 ·cases e
  refine⟨_,_,_,hw,fun j hj=>?_⟩;rw[hv]at hj
  have:=flat_get hv hx hj;simp only[List.getElem?_toArray]
  rw[List.getElem?_append_left ?_,this];rcases Nat.lt_or_ge (i*sz+j) (xs.flatMap vals).length with h|h
  ·exact h
  ·rw[List.getElem?_eq_none h]at this;rw[List.getElem?_eq_getElem (by rw[hv];exact hj)]at this;cases this
theorem Le.right(h:Dj f g):Le g (Proofs.YtdpgpmbebbaoiaaGreatDoor.un f g):=fun k o hk=>by
 rcases h k with e|e
 ·simp[Proofs.YtdpgpmbebbaoiaaGreatDoor.un,e,hk]
 ·rw[e]at hk;cases hk
theorem ListAt.mono(h:Le f g){xs:List α}(hl:ListAt f p sz vals xs):ListAt g p sz vals xs:=fun i x hx=>by
 obtain⟨b,off,cs,T,fr,h1,h2,h3⟩:=hl i x hx
 exact⟨b,off,cs,T,fr,h1,h _ _ h2,h3⟩
theorem ListAt.nil(f:Frag)(p:Option Addr):ListAt f p sz vals ([]:List α):=fun i x h=>by simp at h
theorem slc_listAt(hv:∀x,(vals x).length=sz){xs:List α}(h:slc p xs.length c T sz (xs.flatMap vals) g):ListAt g p sz vals xs:=fun i x hx=>by
 obtain⟨_,_,h3⟩:=h
 have hi:i<xs.length:=qcx
 rcases h3 with⟨h0,_,_⟩|⟨b,sp,rfl,h4,h5,rfl⟩
 ·omega
 ·refine⟨b,0,(xs.flatMap vals++sp).toArray,T,(0,0),rfl,by simp[sing],fun j hj=>?_⟩
  have hj':j<sz:=by rw[←hv x];exact hj
  have:=flat_get hv hx hj'
  rw[Nat.zero_add]
  simp only[List.getElem?_toArray]
  rw[List.getElem?_append_left ?_,this]
  rcases Nat.lt_or_ge (i*sz+j) (xs.flatMap vals).length with h|h
  ·exact h
  ·rw[List.getElem?_eq_none h]at this
   rw[List.getElem?_eq_getElem hj]at this
   cases this
theorem ListAt.src(hv:∀x,(vals x).length=sz)(h0:0<sz){xs:List α}(h:ListAt f p sz vals xs):Src P f A (.slice p xs.length c) sz xs.length (xs.flatMap vals):=by
 cases xs with
 | nil =>
  refine⟨fun w=>rfl,fun base w s=>?_,by simp⟩
  cases p with
  |none=>exact run_firstCells_none w sz 0 0 c
  |some a=>exact run_firstCells_some w sz 0 a 0 c [] jI jI
 | cons x0 r =>
  obtain⟨b,off,cs,T,fr,rfl,hf,_⟩:=h 0 x0 rfl;refine Src.slice (Rd.imm hf fun i hi=>?_) (zar hv _);rw[zar hv]at hi;have hq:i / sz<(x0::r).length:=(Nat.div_lt_iff_lt_mul h0).2 hi;obtain⟨b2,off2,cs2,T2,fr2,e2,hf2,h3⟩:=h (i / sz) _ (List.getElem?_eq_getElem hq)
  cases e2
  rw[hf]at hf2;cases hf2
  have hm:i % sz<sz:=Nat.mod_lt _ h0;have h4:=h3 (i % sz) (by rw[hv];exact hm)
  have h5:=flat_get hv (List.getElem?_eq_getElem hq) hm;have h6:i / sz*sz+i % sz=i:=by rw[Nat.mul_comm];exact Nat.div_add_mod i sz
  rw[h6]at h5;rw[Nat.add_assoc,h6]at h4;rw[h4,h5]
end
/-! ### Parts of an owned slice -/
variable {c' sz:Nat} {xs:List Value}
theorem Src.slcTake{k:Nat}(h:At A (slc p n c T sz xs) A' (slc p n c T sz xs))(hk:k≤n)(hx:xs.length=n*sz):Src P f A (.slice p k c') sz k (xs.take (k*sz)):=by
 have hl:(xs.take (k*sz)).length=k*sz:=by rw[List.length_take,hx,Nat.min_eq_left (Nat.mul_le_mul_right _ hk)]
 refine⟨fun w=>rfl,fun base w s=>?_,hl⟩;have hs:=(Src.slcS (P:=P) (f:=f) h hx).cells base w s;obtain⟨_,_,h3⟩:=s.slc_at h
 rcases h3 with⟨rfl,rfl⟩|⟨b,sp,rfl,_,hcs,hw⟩
 ·have:k=0:=jB
  subst this;rw[Nat.zero_mul,List.take_zero]
  cases p with
  |none=>exact run_firstCells_none w sz 0 0 c'
  |some a=>exact run_firstCells_some w sz 0 a 0 c' [] jI jI
 ·refine run_firstCells_some w sz k ⟨b,0,none⟩ k c' _ hl (fun j v hj=>?_);rw[zas]
  have hjl:j<k*sz:=by
   rcases Nat.lt_or_ge j (k*sz)with h|h
   ·exact h
   ·rw[List.getElem?_eq_none (by rw[hl];exact h)]at hj;cases hj
  rw[List.getElem?_take,if_pos hjl]at hj;have:j<xs.length:=by rw[hx];exact Nat.lt_of_lt_of_le hjl (Nat.mul_le_mul_right _ hk)
  exact qds
theorem Src.slcDrop{k:Nat}(h:At A (slc p n c T sz xs) A' (slc p n c T sz xs))(hk:k≤n)(hx:xs.length=n*sz):Src P f A (.slice (slP p k c sz) (n-k) c') sz (n-k) (xs.drop (k*sz)):=by
 have hl:(xs.drop (k*sz)).length=(n-k)*sz:=by rw[List.length_drop,hx,Nat.sub_mul]
 refine⟨fun w=>rfl,fun base w s=>?_,hl⟩;obtain⟨_,_,h3⟩:=s.slc_at h
 have empty:n-k=0→(Builtin.firstCells sz (n-k) (.slice (slP p k c sz) (n-k) c')).run P w= .ok (xs.drop (k*sz)).toArray w:=fun e=>by
  have hn:xs.drop (k*sz)=[]:=List.eq_nil_of_length_eq_zero (by rw[hl,e,Nat.zero_mul]);rw[hn,e]
  cases slP p k c sz with
  |none=>exact run_firstCells_none w sz 0 0 c'
  |some a=>exact run_firstCells_some w sz 0 a 0 c' [] jI jI
 rcases h3 with⟨rfl,rfl⟩|⟨b,sp,rfl,hnc,hcs,hw⟩
 ·exact empty jB
 ·by_cases e : n - k = 0
  ·exact empty e
  ·have hck:¬c=k:=jB
   unfold slP;rw[if_neg hck,Option.map_some,zas,Nat.zero_add];refine run_firstCells_some w sz (n-k) ⟨b,k*sz,none⟩ (n-k) c' _ hl (fun j v hj=>?_);rw[zas];rw[List.getElem?_drop]at hj
   have:k*sz+j<xs.length:=by
    rcases Nat.lt_or_ge (k*sz+j) xs.length with h|h
    ·exact h
    ·rw[List.getElem?_eq_none h]at hj;cases hj
   exact qds
/-! ### Results: a struct in a cell of its own, and a value -/
variable {fn:Func} {ty:TypeId} {tmps:Array Value} {w:World} {off:Nat} {x:Value}
theorem results_cell_tmp{t u:Tmp}(h:fn.results= #[.cell t ty,.tmp u])(hp:tmps.getD t undef= .pointer (some ⟨b,off,none⟩))(hx:tmps.getD u undef=x)
  (hl:(loadVar ty ⟨b,off,none⟩).run P w= .ok v w):(results fn tmps).run P w= .ok (.tuple #[v,x]) w:=by
 have hp':tmps[t]?.getD undef= .pointer (some ⟨b,off,none⟩):=by simpa using hp
 have hx':tmps[u]?.getD undef=x:=by simpa using hx
 simp only[results,h];simp[Sem.run_bind,asAddr,hp',hx',hl]
variable {t u m:Nat} {base:World} {L:Env} {R:Value→Frag→List HP→Prop} {dd:TypeDesc} {ls:List Value}
theorem B5[hu:Und P ty dd][hs:Siz P ty m](hr:fn.results= #[.cell t ty,.tmp u])(hv:look? L t=some (.pointer (some ⟨b,off,none⟩)))(hx:look? L u=some x)(ha:aggD dd=true)
  (hrd:Rd f A b off ls) (hm:ls.length=m) (hA:∀w,Sat base w f A→Sat base w f A') (h:R (.tuple #[.agg ls.toArray,x]) f A') (hmk:mk? L=none:=by exact rfl):H P base n L f A (.out .ret (.fn (FnPost P fn base R))):=.mk fun a w hf s=>by
 show bodyPost P fn (fun e w'=>∃v f' A',e= .returned v∧R v f' A'∧Sat base w' f' A') .ret a w
 refine bodyPost_ret (v:=.tuple #[.agg ls.toArray,x]) ?_ (hf.bare hmk) ⟨_,f,A',rfl,h,hA w s⟩
 have h1:=hf.get t _ hv
 have h1':=hf.get u _ hx
 have h2:a.tmps.getD t undef= .pointer (some ⟨b,off,none⟩):=by simp[Array.getD_eq_getD_getElem?,h1]
 have h2':a.tmps.getD u undef=x:=by simp[Array.getD_eq_getD_getElem?,h1']
 have h3:=zbs (P:=P) hu ha hs (hrd base w s) hm
 unfold Instr.loadAt Instr.sureAddr at h3
 exact results_cell_tmp hr h2 h2' jY
/-! ### 'clear' of a part of a row -/
theorem H.clear{P:Program}{base:World}{n:Nat}{L:Env}{f:Frag}{A:List HP}{q:Post}{l rest:List Oper}{ty:TypeId}{pos:String}{af:Array Edge}{gd:Option (Nat×Bool)}
  {t e T:TypeId} {x:Operand} {b off m c:Nat} {z:Value} {ls ls':List Value} {A':List HP} [hu:Und P t (.slice e)] [hz:Zer P e z] (hw:want? l L gd=true) (hx:ev? L x=some (.slice (some ⟨b,off,none⟩) (m+1) c))
  (hv:∀v∈(Builtin.zeroCells z.cells (m+1)).toList,one v=true) (hset:splice ls off (Builtin.zeroCells z.cells (m+1)).toList=ls') (hle:off+(Builtin.zeroCells z.cells (m+1)).toList.length≤ls.length) (h0:(Builtin.zeroCells z.cells (m+1)).toList≠[])
  (hA:At A (row b T ls) A' (row b T ls')) (k:H P base n L f A' (.ops l rest q)):H P base n L f A (.ops l (⟨none,.call ⟨.builtin .clear,#[x],#[t]⟩,ty,pos,af,gd⟩::rest) q):=.mk fun a w hf s=>by
 show wpList P l.toArray (q.den P) _ a w
 unfold wpList
 rw[if_pos (hf.want (o:=⟨none,_,ty,pos,af,gd⟩) hw)]
 refine .inl ?_
 subst hset
 have hb:=s.got hA
 have h1:=run_storeCells (P:=P) (off:=off) (Builtin.zeroCells z.cells (m+1)).toList ls 0 w hb hv hle
 rw[if_neg h0]at h1
 have h2:(execOp a.eval ⟨none,.call ⟨.builtin .clear,#[x],#[t]⟩,ty,pos,af,gd⟩).run P w= .ok (.value (.tuple #[])) (World.putRow' w b T (splice ls (off+0) (Builtin.zeroCells z.cells (m+1)).toList)):=by
  simp only[execOp,resolve,invoke,builtin,Builtin.clear_,hf.eval hx,Sem.run_bind,Sem.run_pure,Result.andThen_ok,List.map_toArray,List.map_cons,List.map_nil];simp[hu.run,hz.run,h1]
 simp only[Oper.wp,h2,Oper.upon]
 exact k.out _ _ hf (s.putRow hA)
/-! ### What several things are owned together -/
def pack{ι:Type}(φ:ι→Prop)(B:ι→List HP):HP:=fun x=>∃i,φ i∧stars (B i) x
variable {ι:Type}
theorem zap{φ:ι→Prop}{B:ι→List HP}(i:ι)(h:φ i):∀x,stars (B i++A) x→stars (pack φ B::A) x:=
 fold_stars fun x hx=>⟨i,h,hx⟩
theorem AM{K:Kont}{φ:ι→Prop}{B:ι→List HP}(k:∀i,φ i→H P base n L f (B i++A) K):H P base n L f (pack φ B::A) K:=
 EO (ι:={i // φ i}) (B:=fun i=>B i.1) (fun h ⟨i,hi,hx⟩=>⟨⟨i,hi⟩,hx⟩) fun i=>k i.1 i.2
variable {fid:FuncId} {args:List Value}
theorem B2{φ:ι→Prop}{B:ι→List HP}(k:∀i,φ i→Fn P fid args f (B i++A) R):Fn P fid args f (pack φ B::A) R:=
 EN (ι:={i // φ i}) (B:=fun i=>B i.1) (fun h ⟨i,hi,hx⟩=>⟨⟨i,hi⟩,hx⟩) fun i=>k i.1 i.2
def loopJ(n:Nat)(L:Env)(lp:Nat)(ps:List Tmp)(assign body:Code)(D:Nat)(J:Option Code):HP:=fun h=>
 ∃fn tmps,tmps.size=n∧(∀i v,look? L i=some v→tmps[i]?=some v)∧pts lp (.loop {state:=if J.isNone then .ready else .done,pending:=J,fn,tmps,params:=ps.toArray,assign,body,defers:=D}) h
def jumpK(q:Post):Option Code→Kont
 |none=>.out .normal q
 |some c=>.code c q
variable {L0:Env} {lp D n0 id b2 off2:Nat} {ps:List Tmp} {assign body:Code} {J:Option Code} {gf:FuncId} {fs cs:List Value} {ty2:TypeId} {A'':List HP}
section
variable {P:Program} {base:World} {n:Nat} {L:Env} {f f':Frag} {A A':List HP} {q:Post}
theorem Sat.loopJ(s:Sat base w f (Go.Proofs.YtdpgpmbebbaoiaaGreatDoor.loopJ n L0 lp ps assign body D J::A)):∃fn tmps,tmps.size=n∧(∀i v,look? L0 i=some v→tmps[i]?=some v)∧Sat base w f (pts lp (.loop {state:=if J.isNone then .ready else .done,pending:=J,fn,tmps,params:=ps.toArray,assign,body,defers:=D})::A):=by
 exact qbx
theorem Sat.ofLoopJ{fn:FuncId}(h1:tmps.size=n)(h2:∀i v,look? L0 i=some v→tmps[i]?=some v)
  (s:Sat base w f (pts lp (.loop {state:=if J.isNone then .ready else .done,pending:=J,fn,tmps,params:=ps.toArray,assign,body,defers:=D})::A)):Sat base w f (Go.Proofs.YtdpgpmbebbaoiaaGreatDoor.loopJ n L0 lp ps assign body D J::A):=by
 exact qbE
theorem EZ{b:Code}(h:R (.bool false) f (loopJ n0 L0 lp ps assign b D (some .ret)::A)):H P base n L f (loopH n0 L0 lp ps assign b D .busy::A) (.out .ret (roundP P lp base R)):=.mk fun a w hf s=>by
 obtain⟨fn,tmps,h1,h2,s1⟩:=s.loop
 have hg:=s1.got (.here _ _ emp)
 refine⟨_,_,run_endRound (some .ret) hg,_,f,_,rfl,h,Sat.ofLoopJ (fn:=fn) (tmps:=tmps) h1 h2 ?_⟩
 exact s1.set aP0 rfl rfl rfl rfl
theorem F6{b:Code}(h:R (.bool false) f (loopJ n0 L0 lp ps assign b D (some (.exit id))::A)):H P base n L f (loopH n0 L0 lp ps assign b D .busy::A) (.out (.exit id) (roundP P lp base R)):=.mk fun a w hf s=>by
 obtain⟨fn,tmps,h1,h2,s1⟩:=s.loop
 have hg:=s1.got (.here _ _ emp)
 refine⟨_,_,run_endRound (some (.exit id)) hg,_,f,_,rfl,h,Sat.ofLoopJ (fn:=fn) (tmps:=tmps) h1 h2 ?_⟩
 exact s1.set aP0 rfl rfl rfl rfl
theorem Ea(h:H P base n L f A (.out .ret q)):H P base n L f A (codeR P lp .ret q):=.mk fun a w hf s=>wpIn_ret (h.out a w hf s)
theorem F7(h:H P base n L f A (.out (.exit id) q)):H P base n L f A (codeR P lp (.exit id) q):=.mk fun a w hf s=>wpIn_exit (h.out a w hf s)
theorem F8{y:Code}(h:H P base n L f A (.out (.exit id) q)):H P base n L f A (.out (.exit id) (Go.Proofs.YtdpgpmbebbaoiaaGreatDoor.seqR P lp y q)):=.mk h.out
theorem Eb{J:ι→Option Code}{g:Operand}{A':ι→Nat→List HP}[hfun:Fun P gf](hg:ev? L g=some (.func (.func gf) fs.toArray cs.toArray))(hmk:mk? L=none)
  (hc:∀D lp,Fn P gf (fs++[.func (.yield lp) #[] #[]]++cs) f (loopH n L lp ps assign body D .ready::pts D (.deferred (some []))::A) (fun _ g B=>∃i,g=f'∧B=loopJ n L lp ps assign body D (J i)::A' i D))
  (k:∀i D,H P base n ((1000003,.pointer (some ⟨D,0,none⟩))::L) f' (A' i D) (jumpK q (J i))) :
  H P base n L f A (.code (.rangeFunc g ps.toArray assign body) q):=.mk fun a w hf s=>by
 refine wpIn_wide.1 (wpIn_rangeFunc (F:=Fence.wide) (n:=3) fun fn _=>?_)
 obtain⟨fnc,e1,e2,e3⟩:=hfun.eq
 have hev:a.eval g= .func (.func gf) fs.toArray cs.toArray:=hf.eval hg
 have hd0:a.defers=[]:=hf.bare hmk
 have sA:Sat base (w.alloc (.deferred (some []))) f (pts w.heap.size (.deferred (some []))::A):=s.alloc rfl rfl rfl rfl
 have sB:=sA.alloc (w':=(w.alloc (.deferred (some []))).alloc (.loop {state:=.ready,pending:=none,fn,tmps:=a.tmps,params:=ps.toArray,assign,body,defers:=w.heap.size})) rfl rfl rfl rfl
 rw[World.size_alloc]at sB
 have sC:Sat base _ f (loopH n L (w.heap.size+1) ps assign body w.heap.size .ready::pts w.heap.size (.deferred (some []))::A):=Sat.ofLoop (fn:=fn) (tmps:=a.tmps) hf.size hf.get sB
 have hrun:=run_enterLoop_outer (P:=P) (w:=w) fn a.tmps ps.toArray assign body
 generalize(w.alloc (.deferred (some []))).alloc (.loop {state:=.ready,pending:=none,fn,tmps:=a.tmps,params:=ps.toArray,assign,body,defers:=w.heap.size})=W at sC hrun
 have hcall:=hc w.heap.size (w.heap.size+1) base W sC
 refine⟨w.heap.size+1,_,W,{target:=.fn (.func gf) cs.toArray,args:=fs.toArray++ #[Value.func (.yield (w.heap.size+1)) #[] #[]]},W,gf,(fs++[Value.func (.yield (w.heap.size+1)) #[] #[]]++cs).toArray,W,hrun,?_,fun _ _=>trivial,?_,(fun h=>by cases h),callsIn_wide.2 (hcall.mono ?_)⟩
 ·have:Array.map a.eval #[Operand.const (Value.func (.yield (w.heap.size+1)) #[] #[])]= #[Value.func (.yield (w.heap.size+1)) #[] #[]]:=by simp[Act.eval]
  simp only[rangeCall,resolve,hev,Deferred.ofValue,Sem.run_pure,this]
 ·simp only[invoke,callFunc,Sem.run_bind,run_program,Result.andThen_ok,e1,e2,e3,Bool.false_eq_true,if_false,Sem.run_pure]
  simp
 ·rintro e w' ⟨v,f1,B,rfl,⟨i,rfl,rfl⟩,s'⟩
  have hk:=k i w.heap.size
  generalize J i=j at hk s'
  obtain⟨fn',tmps',h1,h2,s1⟩:=s'.loopJ
  have hgl:=s1.got (.here _ _ emp)
  have hend:=run_endLoop (P:=P) hgl (by cases j<;>simp)
  have hfr:Fr n {tmps:=a.tmps,defers:=[({target:=.collected w.heap.size,args:=#[]}:Deferred)]++a.defers} ((1000003,.pointer (some ⟨w.heap.size,0,none⟩))::L):=by
   refine⟨hf.size,hf.small,?_,fun j u hj=>?_⟩
   ·show _++a.defers=dmOf _;rw[hd0];rfl
   ·have hl:=look?_lt hj;rw[look?_cons hl,if_neg jB]at hj
    exact hf.get j u hj
  have hs2:∀o,Sat base (w'.putObj (w.heap.size+1) o) f1 (A' i w.heap.size):=fun o=>(s1.set (w':=w'.putObj (w.heap.size+1) o) (.here _ _ (pts (w.heap.size+1) o)) rfl rfl rfl rfl).drop (.here _ _)
  refine⟨j,_,hend,?_⟩
  cases j with
  |none=>exact hk.out _ _ hfr (hs2 _)
  |some c=>exact wpIn_wide.2 (hk.out _ _ hfr (hs2 _))
theorem Dz{g:Operand}[hfun:Fun P gf](hg:ev? L g=some (.func (.func gf) fs.toArray cs.toArray))(hmk:mk? L=none)
  (hb : ∀ LJ : Nat → Nat → Option Code → HP, (LJ = fun D lp J => Go.Proofs.YtdpgpmbebbaoiaaGreatDoor.loopJ n L lp ps assign body D J) → ∃ (J : Option Code) (A' : Nat → List HP),
   (∀D lp,Fn P gf (fs++[.func (.yield lp) #[] #[]]++cs) f (LJ D lp none::pts D (.deferred (some []))::A) (fun _ g B=>g=f'∧B=LJ D lp J::A' D))∧
   ∀D,H P base n ((1000003,.pointer (some ⟨D,0,none⟩))::L) f' (A' D) (jumpK q J)) :
  H P base n L f A (.code (.rangeFunc g ps.toArray assign body) q):=by
 obtain⟨J,A',h1,h2⟩:=hb _ rfl;exact Eb (ι:=Unit) (J:=fun _=>J) (A':=fun _=>A') hg hmk (fun D lp=>Fn.wrap iD (h1 D lp) fun v g B hR=>⟨B,⟨(),hR.1,hR.2⟩,fun _ h=>h⟩) fun _ D=>h2 D
/-! ### A region that draws its order, in a round -/
theorem wpAnyIn_of{F:Fence}{m:Nat}(hfn:∀f,F.fn f)(hd:F.depth=none)(hc:∀m f args w R,Calls P f args w R→CallsIn F m P f args w R)(hr:∀m row args w R,Rows P row args w R→RowsIn F m P row args w R)
  {ops:Array Oper} {md:Region.Mode} {Q:Exit→Act→World→Prop} (ho:∀a w,¬Q .outgrown a w) (hs:∀(i:Nat) o,ops[i]?=some o→∀ρ,o.semAt F.round ρ=execOp ρ o) :
  ∀(fuel:Nat) (listed:Array Bool) a w,wpAny P md ops Q fuel listed a w→wpAnyIn F m P md ops Q fuel listed a w
 |0,listed,a,w,h=>h
 | fuel + 1, listed, a, w, h => ⟨h.1, fun i hi => by
  have ih:=wpAnyIn_of (m:=m) (md:=md) (Q:=Q) hfn hd hc hr ho hs fuel (listed.setIfInBounds i true)
  have h:=h.2 i hi
  unfold wpOp at h
  unfold wpOpIn
  cases hi2:ops[i]? with
  |none=>rw[hi2]at h;exact ih _ _ h
  | some o =>
   rw[hi2]at h
   simp only at h⊢
   by_cases hw:Region.wanted o (yielded ops a.tmps)=true
   ·rw[if_pos hw]at h⊢
    rcases h with h|⟨_,a0,w0,h⟩
    ·refine⟨fun f _=>hfn f,?_⟩
     rw[hs i o hi2]
     exact uponIn_of_upon hd hc hr ih (fun e a w _ h=>h) _ h
    ·exact(ho a0 w0 h).elim
   ·rw[if_neg hw]at h⊢
    exact⟨fun f _=>hfn f,ih _ _ h⟩⟩
theorem Dc{l:List Oper}{B:List HP}(hm:P.follows .mixedOrders=true)(hn:Region.noSelect l.toArray=true)(hb:q.blind P)(hp:l.all plainOp=true)(hs:q.shut P)
  {S V:List HP} (hB:B=S++V) (k:HB S V #[] (Array.replicate l.length false) l.length P base n L f (.ops l [] q)):H P base n L f B (codeR P lp (.region id l.toArray true) q):=.mk fun a w hf s=>by
 refine wpIn_region_any hm ?_
 subst hB
 have s':Sat base {w with drawn:=w.drawn+1} f (S++V):=s.same rfl rfl rfl rfl
 have:=k.out l q rfl hn hb a _ hf s'
 refine wpAnyIn_of (F:=Fence.wide.inRound lp) (fun _=>trivial) rfl (fun m f args w R h=>(callsIn_wide.2 h:CallsIn Fence.wide m P f args w R)) (fun m row args w R h=>rowsIn_wide h) hs (fun i o hi ρ=>?_) _ _ _ _ (by simpa using wpAnyC.any _ _ _ _ this)
 have hi:l[i]?=some o:=by simpa using hi
 have:=List.all_eq_true.1 hp o (List.mem_of_getElem? hi)
 exact Oper.semAt_eq _ _ _ fun c hc=>by simp[plainOp,hc]at this
theorem blind_round:(roundP P lp base R).blind P:=fun _ _ _ _ _ h=>h.elim
theorem blind_seqR{y:Code}(h:q.blind P):(Go.Proofs.YtdpgpmbebbaoiaaGreatDoor.seqR P lp y q).blind P:=h
/-! ### Results in two cells, behind a range over a function -/
theorem results_cells{t u:Tmp}(h:fn.results= #[.cell t ty,.cell u ty2])(hp:tmps.getD t undef= .pointer (some ⟨b,off,none⟩))(hx:tmps.getD u undef= .pointer (some ⟨b2,off2,none⟩))
  (hl:(loadVar ty ⟨b,off,none⟩).run P w= .ok v w) (hl2:(loadVar ty2 ⟨b2,off2,none⟩).run P w= .ok x w):(results fn tmps).run P w= .ok (.tuple #[v,x]) w:=by
 have hp':tmps[t]?.getD undef= .pointer (some ⟨b,off,none⟩):=by simpa using hp
 have hx':tmps[u]?.getD undef= .pointer (some ⟨b2,off2,none⟩):=by simpa using hx
 simp only[results,h];simp[Sem.run_bind,asAddr,hp',hx',hl,hl2]
theorem bodyPostM_mark2{R:Ending→World→Prop}{a:Act}(hr:(results fn a.tmps).run P (w.putObj D (.deferred none))= .ok v (w.putObj D (.deferred none)))(hd:a.defers=[{target:=.collected D,args:=#[]}])(hD:w.heap[D]?=some (.deferred (some [])))(hR:R (.returned v) (w.putObj D (.deferred none))):bodyPostM Fence.wide 3 P fn R .ret a w:=by
 apply (qkc);rw[hd];exact⟨by simp,.inl ⟨D,_,rfl,run_takeDeferred hD,⟨v,hr,hR⟩⟩⟩
theorem F9{dd2:TypeDesc}[hu:Und P ty dd][hs:Siz P ty m][hu2:Und P ty2 dd2](hr:fn.results= #[.cell t ty,.cell u ty2])(hv:look? L t=some (.pointer (some ⟨b,off,none⟩)))(hx:look? L u=some (.pointer (some ⟨b2,off2,none⟩)))
  (ha:aggD dd=true) (ha2:aggD dd2=false) (hm:mk? L=some (.pointer (some ⟨D,0,none⟩))) (hD:Pull A (pts D (.deferred (some []))) A') (hrd:Rd f A' b off ls) (hlen:ls.length=m) (hrx:Rd1 f A' b2 off2 x)
  (hA:∀w,Sat base w f A'→Sat base w f A'') (h:R (.tuple #[.agg ls.toArray,x]) f A''):H P base n L f A (.out .ret (.fn (FnPostM P fn base R))):=.mk fun a w hf s=>by
 show bodyPostM Fence.wide 3 P fn (fun e w'=>∃v f' A',e= .returned v∧R v f' A'∧Sat base w' f' A') .ret a w
 have s1:=s.front hD
 have hg:=s1.got (.here _ _ (pts D (.deferred (some []))))
 have s2:Sat base (w.putObj D (.deferred none)) f A':=(s1.set (w':=w.putObj D (.deferred none)) aP0 rfl rfl rfl rfl).drop (.here _ _)
 refine bodyPostM_mark2 (v:=.tuple #[.agg ls.toArray,x]) (D:=D) ?_ (hf.marked hm) hg ⟨_,f,A'',rfl,h,hA _ s2⟩
 have h1:=hf.get t _ hv
 have h1':=hf.get u _ hx
 have h2:a.tmps.getD t undef= .pointer (some ⟨b,off,none⟩):=by simp[Array.getD_eq_getD_getElem?,h1]
 have h2':a.tmps.getD u undef= .pointer (some ⟨b2,off2,none⟩):=by simp[Array.getD_eq_getD_getElem?,h1']
 have h3:=zbs (P:=P) hu ha hs (hrd base _ s2) hlen
 have h4:=zaz (P:=P) hu2 ha2 (hrx base _ s2)
 unfold Instr.loadAt Instr.sureAddr at h3 h4
 exact results_cells hr h2 h2' jY (by simpa using h4)
end
instance:Und prog 1 (Go.TypeDesc.func #[] #[] false):=⟨underlying1⟩
instance:Siz prog 1 1:=⟨jD⟩
instance:Zer prog 1 (.nilFunc):=⟨jD⟩
instance:Und prog 3 (Go.TypeDesc.int Go.IntKind.i64):=⟨underlying3⟩
instance:Siz prog 3 1:=⟨jD⟩
instance:Byt prog 3 8:=⟨jD⟩
instance:Zer prog 3 (.int .i64 0):=⟨jD⟩
instance:Und prog 4 (Go.TypeDesc.bool):=⟨underlying4⟩
instance:Siz prog 4 1:=⟨jD⟩
instance:Zer prog 4 (.bool false):=⟨jD⟩
instance:Und prog 5 (Go.TypeDesc.int Go.IntKind.u8):=⟨underlying5⟩
instance:Siz prog 5 1:=⟨jD⟩
instance:Byt prog 5 1:=⟨jD⟩
instance:Zer prog 5 (.int .u8 0):=⟨jD⟩
instance:Und prog 9 (Go.TypeDesc.string):=⟨underlying9⟩
instance:Siz prog 9 1:=⟨jD⟩
instance:Zer prog 9 (.string ByteArray.empty):=⟨jD⟩
instance:Und prog 23 (Go.TypeDesc.pointer 68):=⟨underlying23⟩
instance:Und prog 24 (Go.TypeDesc.int Go.IntKind.i64):=⟨underlying24⟩
instance:Siz prog 24 1:=⟨jD⟩
instance:Zer prog 24 (.int .i64 0):=⟨jD⟩
instance:Und prog 27 (Go.TypeDesc.pointer 107):=⟨underlying27⟩
instance:Siz prog 27 1:=⟨jD⟩
instance:Und prog 29 (Go.TypeDesc.int Go.IntKind.u64):=⟨underlying29⟩
instance:Siz prog 29 1:=⟨jD⟩
instance:Byt prog 29 8:=⟨jD⟩
instance:Zer prog 29 (.int .u64 0):=⟨jD⟩
instance:type_of% (Und.mk underlying31):=⟨underlying31⟩
instance:Siz prog 31 6:=⟨jD⟩
instance:Plc prog 31 [(0,1),(1,1),(2,1),(3,1),(4,1),(5,1)]:=⟨fun fs w h=>by rw[underlying31]at h;cases h;kernel_rfl⟩
instance:Zer prog 31 (.agg (([.int .u8 0,.string ByteArray.empty,.string ByteArray.empty,.string ByteArray.empty,.string ByteArray.empty,.int .u64 0]:List Value)).toArray):=⟨jD⟩
instance:Und prog 32 (Go.TypeDesc.array 32 5):=⟨underlying32⟩
instance:Siz prog 32 32:=⟨jD⟩
instance:Byt prog 32 32:=⟨jD⟩
instance:Zer prog 32 (.agg ((List.replicate 32 (.int .u8 0):List Value)).toArray):=⟨jD⟩
instance:type_of% (Und.mk underlying34):=⟨underlying34⟩
instance:Siz prog 34 40:=⟨jD⟩
instance:Byt prog 34 128:=⟨jD⟩
instance:Plc prog 34 [(0,1),(1,1),(2,6),(8,32)]:=⟨fun fs w h=>by rw[underlying34]at h;cases h;kernel_rfl⟩
instance:Zer prog 34 (.agg (([.int .i64 0,.int .u64 0,.int .u8 0,.string ByteArray.empty,.string ByteArray.empty,.string ByteArray.empty,.string ByteArray.empty,.int .u64 0]:List Value)++(List.replicate 32 (.int .u8 0):List Value)).toArray):=⟨jD⟩
instance:Und prog 36 (Go.TypeDesc.array 11 29):=⟨underlying36⟩
instance:Siz prog 36 11:=⟨jD⟩
instance:Zer prog 36 (.agg ((List.replicate 11 (.int .u64 0):List Value)).toArray):=⟨jD⟩
instance:Und prog 37 (Go.TypeDesc.slice 327):=⟨underlying37⟩
instance:Siz prog 37 1:=⟨jD⟩
instance:type_of% (Und.mk underlying39):=⟨underlying39⟩
instance:Siz prog 39 76:=⟨jD⟩
instance:Plc prog 39 [(0,1),(1,1),(2,1),(3,40),(43,1),(44,32)]:=⟨fun fs w h=>by rw[underlying39]at h;cases h;kernel_rfl⟩
instance:Zer prog 39 (.agg (([.int .u8 0,.int .u64 0,.int .u64 0,.int .i64 0,.int .u64 0,.int .u8 0,.string ByteArray.empty,.string ByteArray.empty,.string ByteArray.empty,.string ByteArray.empty,.int .u64 0]:List Value)++(List.replicate 32 (.int .u8 0):List Value)++([.slice none 0 0]:List Value)++(List.replicate 32 (.int .u8 0):List Value)).toArray):=⟨jD⟩
instance:type_of% (Und.mk underlying41):=⟨underlying41⟩
instance:Siz prog 41 121:=⟨jD⟩
instance:Byt prog 41 344:=⟨jD⟩
instance:Plc prog 41 [(0,1),(1,1),(2,11),(13,76),(89,32)]:=⟨fun fs w h=>by rw[underlying41]at h;cases h;kernel_rfl⟩
instance:Zer prog 41 (.agg (([.int .i64 0,.int .u64 0]:List Value)++(List.replicate 11 (.int .u64 0):List Value)++([.int .u8 0,.int .u64 0,.int .u64 0,.int .i64 0,.int .u64 0,.int .u8 0,.string ByteArray.empty,.string ByteArray.empty,.string ByteArray.empty,.string ByteArray.empty,.int .u64 0]:List Value)++(List.replicate 32 (.int .u8 0):List Value)++([.slice none 0 0]:List Value)++(List.replicate 32 (.int .u8 0):List Value)++(List.replicate 32 (.int .u8 0):List Value)).toArray):=⟨jD⟩
instance:Und prog 42 (Go.TypeDesc.slice 80):=⟨underlying42⟩
instance:Siz prog 42 1:=⟨jD⟩
instance:type_of% (Und.mk underlying44):=⟨underlying44⟩
instance:Siz prog 44 163:=⟨jD⟩
instance:Zer prog 44 (.agg (([.int .i64 0,.int .i64 0,.int .u64 0,.int .u8 0,.string ByteArray.empty,.string ByteArray.empty,.string ByteArray.empty,.string ByteArray.empty,.int .u64 0]:List Value)++(List.replicate 32 (.int .u8 0):List Value)++([.int .i64 0,.int .u64 0]:List Value)++(List.replicate 11 (.int .u64 0):List Value)++([.int .u8 0,.int .u64 0,.int .u64 0,.int .i64 0,.int .u64 0,.int .u8 0,.string ByteArray.empty,.string ByteArray.empty,.string ByteArray.empty,.string ByteArray.empty,.int .u64 0]:List Value)++(List.replicate 32 (.int .u8 0):List Value)++([.slice none 0 0]:List Value)++(List.replicate 32 (.int .u8 0):List Value)++(List.replicate 32 (.int .u8 0):List Value)++([.slice none 0 0]:List Value)).toArray):=⟨jD⟩
instance:Und prog 46 (Go.TypeDesc.slice 5):=⟨underlying46⟩
instance:Siz prog 46 1:=⟨jD⟩
instance:Zer prog 46 (.slice none 0 0):=⟨jD⟩
instance:Und prog 47 (Go.TypeDesc.slice 41):=⟨underlying47⟩
instance:Siz prog 47 1:=⟨jD⟩
instance:type_of% (Und.mk underlying49):=⟨underlying49⟩
instance:Siz prog 49 14:=⟨jD⟩
instance:Byt prog 49 128:=⟨jD⟩
instance:Plc prog 49 [(0,1),(1,1),(2,11),(13,1)]:=⟨fun fs w h=>by rw[underlying49]at h;cases h;kernel_rfl⟩
instance:Zer prog 49 (.agg (([.int .i64 0,.int .i64 0]:List Value)++(List.replicate 11 (.int .u64 0):List Value)++([.slice none 0 0]:List Value)).toArray):=⟨jD⟩
instance:type_of% (Und.mk underlying51):=⟨underlying51⟩
instance:Siz prog 51 2:=⟨jD⟩
instance:Plc prog 51 [(0,1),(1,1)]:=⟨fun fs w h=>by rw[underlying51]at h;cases h;kernel_rfl⟩
instance:Zer prog 51 (.agg (([.int .i64 0,.string ByteArray.empty]:List Value)).toArray):=⟨jD⟩
instance:type_of% (Und.mk underlying53):=⟨underlying53⟩
instance:Siz prog 53 107:=⟨jD⟩
instance:Plc prog 53 [(0,1),(1,1),(2,1),(3,1),(4,1),(5,1),(6,6),(12,76),(88,14),(102,1),(103,2),(105,1),(106,1)]:=⟨fun fs w h=>by rw[underlying53]at h;cases h;kernel_rfl⟩
instance:Zer prog 53 (.agg (([.int .u8 0,.int .i64 0,.int .i64 0,.int .i64 0,.int .i64 0,.int .i64 0,.int .u8 0,.string ByteArray.empty,.string ByteArray.empty,.string ByteArray.empty,.string ByteArray.empty,.int .u64 0,.int .u8 0,.int .u64 0,.int .u64 0,.int .i64 0,.int .u64 0,.int .u8 0,.string ByteArray.empty,.string ByteArray.empty,.string ByteArray.empty,.string ByteArray.empty,.int .u64 0]:List Value)++(List.replicate 32 (.int .u8 0):List Value)++([.slice none 0 0]:List Value)++(List.replicate 32 (.int .u8 0):List Value)++([.int .i64 0,.int .i64 0]:List Value)++(List.replicate 11 (.int .u64 0):List Value)++([.slice none 0 0,.int .u64 0,.int .i64 0,.string ByteArray.empty,.int .u64 0,.slice none 0 0]:List Value)).toArray):=⟨jD⟩
instance:Und prog 56 (Go.TypeDesc.slice 34):=⟨underlying56⟩
instance:Siz prog 56 1:=⟨jD⟩
instance:Und prog 59 (Go.TypeDesc.pointer 97):=⟨underlying59⟩
instance:Siz prog 59 1:=⟨jD⟩
instance:Zer prog 59 (.pointer none):=⟨jD⟩
instance:type_of% (Und.mk underlying68):=⟨underlying68⟩
instance:Plc prog 68 [(0,1),(1,1),(2,1),(3,1),(4,1)]:=⟨fun fs w h=>by rw[underlying68]at h;cases h;kernel_rfl⟩
instance:Zer prog 68 (.agg (([.int .i64 0,.pointer none,.slice none 0 0,.bool false,.slice none 0 0]:List Value)).toArray):=⟨jD⟩
instance:type_of% (Und.mk underlying80):=⟨underlying80⟩
instance:Siz prog 80 5:=⟨jD⟩
instance:Byt prog 80 48:=⟨jD⟩
instance:Plc prog 80 [(0,1),(1,1),(2,2),(4,1)]:=⟨fun fs w h=>by rw[underlying80]at h;cases h;kernel_rfl⟩
instance:Zer prog 80 (.agg (([.int .i64 0,.int .u64 0,.int .i64 0,.string ByteArray.empty,.int .u64 0]:List Value)).toArray):=⟨jD⟩
instance:Und prog 81 (Go.TypeDesc.pointer 86):=⟨underlying81⟩
instance:Siz prog 81 1:=⟨jD⟩
instance:Byt prog 81 8:=⟨jD⟩
instance:Zer prog 81 (.pointer none):=⟨jD⟩
instance:Und prog 83 (Go.TypeDesc.pointer 145):=⟨underlying83⟩
instance:Siz prog 83 1:=⟨jD⟩
instance:Und prog 84 (Go.TypeDesc.pointer 128):=⟨underlying84⟩
instance:Siz prog 84 1:=⟨jD⟩
instance:Zer prog 84 (.pointer none):=⟨jD⟩
instance:type_of% (Und.mk underlying86):=⟨underlying86⟩
instance:Plc prog 86 [(0,1),(1,1)]:=⟨fun fs w h=>by rw[underlying86]at h;cases h;kernel_rfl⟩
instance:Zer prog 86 (.agg (([.pointer none,.pointer none]:List Value)).toArray):=⟨jD⟩
instance:Und prog 88 (Go.TypeDesc.pointer 262):=⟨underlying88⟩
instance:Siz prog 88 1:=⟨jD⟩
instance:Und prog 89 (Go.TypeDesc.pointer 250):=⟨underlying89⟩
instance:Siz prog 89 1:=⟨jD⟩
instance:Und prog 90 (Go.TypeDesc.pointer 172):=⟨underlying90⟩
instance:Siz prog 90 1:=⟨jD⟩
instance:Und prog 91 (Go.TypeDesc.pointer 179):=⟨underlying91⟩
instance:Siz prog 91 1:=⟨jD⟩
instance:Und prog 92 (Go.TypeDesc.pointer 266):=⟨underlying92⟩
instance:Siz prog 92 1:=⟨jD⟩
instance:Und prog 93 (Go.TypeDesc.pointer 256):=⟨underlying93⟩
instance:Siz prog 93 1:=⟨jD⟩
instance:Und prog 94 (Go.TypeDesc.pointer 258):=⟨underlying94⟩
instance:Siz prog 94 1:=⟨jD⟩
instance:Und prog 95 (Go.TypeDesc.slice 136):=⟨underlying95⟩
instance:Siz prog 95 1:=⟨jD⟩
instance:Zer prog 95 (.slice none 0 0):=⟨jD⟩
instance:type_of% (Und.mk underlying97):=⟨underlying97⟩
instance:Plc prog 97 [(0,1),(1,1),(2,1),(3,1),(4,1),(5,1),(6,1),(7,1),(8,1),(9,1),(10,1),(11,1)]:=⟨fun fs w h=>by rw[underlying97]at h;cases h;kernel_rfl⟩
instance:Zer prog 97 (.agg (([.int .i64 0,.int .i64 0,.pointer none,.pointer none,.pointer none,.pointer none,.pointer none,.pointer none,.pointer none,.slice none 0 0,.slice none 0 0,.int .u64 0]:List Value)).toArray):=⟨jD⟩
instance:Und prog 101 (Go.TypeDesc.pointer 135):=⟨underlying101⟩
instance:Siz prog 101 1:=⟨jD⟩
instance:Und prog 103 (Go.TypeDesc.slice 81):=⟨underlying103⟩
instance:Siz prog 103 1:=⟨jD⟩
instance:Und prog 104 (Go.TypeDesc.pointer 141):=⟨underlying104⟩
instance:Siz prog 104 1:=⟨jD⟩
instance:Und prog 105 (Go.TypeDesc.array 8 104):=⟨underlying105⟩
instance:Siz prog 105 8:=⟨jD⟩
instance:type_of% (Und.mk underlying107):=⟨underlying107⟩
instance:Plc prog 107 [(0,1),(1,8),(9,1),(10,1)]:=⟨fun fs w h=>by rw[underlying107]at h;cases h;kernel_rfl⟩
instance:Zer prog 107 (.agg (([.slice none 0 0]:List Value)++(List.replicate 8 (.pointer none):List Value)++([.pointer none,.int .u64 0]:List Value)).toArray):=⟨jD⟩
instance:Und prog 114 (Go.TypeDesc.func #[27,53,120] #[] false):=⟨underlying114⟩
instance:Siz prog 114 1:=⟨jD⟩
instance:type_of% (Und.mk underlying116):=⟨underlying116⟩
instance:Siz prog 116 3:=⟨jD⟩
instance:Plc prog 116 [(0,1),(1,1),(2,1)]:=⟨fun fs w h=>by rw[underlying116]at h;cases h;kernel_rfl⟩
instance:Zer prog 116 (.agg (([.nilFunc,.bool false,.bool false]:List Value)).toArray):=⟨jD⟩
instance:Und prog 117 (Go.TypeDesc.array 17 116):=⟨underlying117⟩
instance:Siz prog 117 51:=⟨jD⟩
instance:Zer prog 117 (.agg (([.nilFunc,.bool false,.bool false,.nilFunc,.bool false,.bool false,.nilFunc,.bool false,.bool false,.nilFunc,.bool false,.bool false,.nilFunc,.bool false,.bool false,.nilFunc,.bool false,.bool false,.nilFunc,.bool false,.bool false,.nilFunc,.bool false,.bool false,.nilFunc,.bool false,.bool false,.nilFunc,.bool false,.bool false,.nilFunc,.bool false,.bool false,.nilFunc,.bool false,.bool false,.nilFunc,.bool false,.bool false,.nilFunc,.bool false,.bool false,.nilFunc,.bool false,.bool false,.nilFunc,.bool false,.bool false,.nilFunc,.bool false,.bool false]:List Value)).toArray):=⟨jD⟩
instance:Und prog 125 (Go.TypeDesc.pointer 200):=⟨underlying125⟩
instance:Siz prog 125 1:=⟨jD⟩
instance:Und prog 126 (Go.TypeDesc.pointer 210):=⟨underlying126⟩
instance:Siz prog 126 1:=⟨jD⟩
instance:type_of% (Und.mk underlying128):=⟨underlying128⟩
instance:Plc prog 128 [(0,1),(1,1),(2,1),(3,1),(4,1),(5,1)]:=⟨fun fs w h=>by rw[underlying128]at h;cases h;kernel_rfl⟩
instance:Zer prog 128 (.agg (([.int .i64 0,.int .i64 0,.pointer none,.pointer none,.pointer none,.int .i64 0]:List Value)).toArray):=⟨jD⟩
instance:Und prog 129 (Go.TypeDesc.pointer 176):=⟨underlying129⟩
instance:Siz prog 129 1:=⟨jD⟩
instance:Byt prog 129 8:=⟨jD⟩
instance:Zer prog 129 (.pointer none):=⟨jD⟩
instance:Und prog 131 (Go.TypeDesc.slice 49):=⟨underlying131⟩
instance:Siz prog 131 1:=⟨jD⟩
instance:Zer prog 131 (.slice none 0 0):=⟨jD⟩
instance:Und prog 132 (Go.TypeDesc.array 12 4):=⟨underlying132⟩
instance:Siz prog 132 12:=⟨jD⟩
instance:Zer prog 132 (.agg ((List.replicate 12 (.bool false):List Value)).toArray):=⟨jD⟩
instance:Und prog 133 (Go.TypeDesc.array 12 132):=⟨underlying133⟩
instance:Siz prog 133 144:=⟨jD⟩
instance:type_of% (Und.mk underlying135):=⟨underlying135⟩
instance:Plc prog 135 [(0,1),(1,144)]:=⟨fun fs w h=>by rw[underlying135]at h;cases h;kernel_rfl⟩
instance:Zer prog 135 (.agg (([.slice none 0 0]:List Value)++(List.replicate 12 (.bool false):List Value)++(List.replicate 12 (.bool false):List Value)++(List.replicate 12 (.bool false):List Value)++(List.replicate 12 (.bool false):List Value)++(List.replicate 12 (.bool false):List Value)++(List.replicate 12 (.bool false):List Value)++(List.replicate 12 (.bool false):List Value)++(List.replicate 12 (.bool false):List Value)++(List.replicate 12 (.bool false):List Value)++(List.replicate 12 (.bool false):List Value)++(List.replicate 12 (.bool false):List Value)++(List.replicate 12 (.bool false):List Value)).toArray):=⟨jD⟩
instance:type_of% (Und.mk underlying136):=⟨underlying136⟩
instance:Siz prog 136 5:=⟨jD⟩
instance:Byt prog 136 48:=⟨jD⟩
instance:Plc prog 136 [(0,1),(1,1),(2,2),(4,1)]:=⟨fun fs w h=>by rw[underlying136]at h;cases h;kernel_rfl⟩
instance:Zer prog 136 (.agg (([.int .i64 0,.int .u64 0,.int .i64 0,.string ByteArray.empty,.int .u64 0]:List Value)).toArray):=⟨jD⟩
instance:type_of% (Und.mk underlying138):=⟨underlying138⟩
instance:Siz prog 138 6:=⟨jD⟩
instance:Plc prog 138 [(0,1),(1,5)]:=⟨fun fs w h=>by rw[underlying138]at h;cases h;kernel_rfl⟩
instance:Zer prog 138 (.agg (([.bool false,.int .i64 0,.int .u64 0,.int .i64 0,.string ByteArray.empty,.int .u64 0]:List Value)).toArray):=⟨jD⟩
instance:Und prog 139 (Go.TypeDesc.array 11 138):=⟨underlying139⟩
instance:Siz prog 139 66:=⟨jD⟩
instance:type_of% (Und.mk underlying141):=⟨underlying141⟩
instance:Plc prog 141 [(0,1),(1,1),(2,1),(3,1),(4,40),(44,66)]:=⟨fun fs w h=>by rw[underlying141]at h;cases h;kernel_rfl⟩
instance:Zer prog 141 (.agg (([.int .i64 0,.int .i64 0,.int .u64 0,.bool false,.int .i64 0,.int .u64 0,.int .u8 0,.string ByteArray.empty,.string ByteArray.empty,.string ByteArray.empty,.string ByteArray.empty,.int .u64 0]:List Value)++(List.replicate 32 (.int .u8 0):List Value)++([.bool false,.int .i64 0,.int .u64 0,.int .i64 0,.string ByteArray.empty,.int .u64 0,.bool false,.int .i64 0,.int .u64 0,.int .i64 0,.string ByteArray.empty,.int .u64 0,.bool false,.int .i64 0,.int .u64 0,.int .i64 0,.string ByteArray.empty,.int .u64 0,.bool false,.int .i64 0,.int .u64 0,.int .i64 0,.string ByteArray.empty,.int .u64 0,.bool false,.int .i64 0,.int .u64 0,.int .i64 0,.string ByteArray.empty,.int .u64 0,.bool false,.int .i64 0,.int .u64 0,.int .i64 0,.string ByteArray.empty,.int .u64 0,.bool false,.int .i64 0,.int .u64 0,.int .i64 0,.string ByteArray.empty,.int .u64 0,.bool false,.int .i64 0,.int .u64 0,.int .i64 0,.string ByteArray.empty,.int .u64 0,.bool false,.int .i64 0,.int .u64 0,.int .i64 0,.string ByteArray.empty,.int .u64 0,.bool false,.int .i64 0,.int .u64 0,.int .i64 0,.string ByteArray.empty,.int .u64 0,.bool false,.int .i64 0,.int .u64 0,.int .i64 0,.string ByteArray.empty,.int .u64 0]:List Value)).toArray):=⟨jD⟩
instance:Und prog 142 (Go.TypeDesc.map 3 324):=⟨underlying142⟩
instance:Siz prog 142 1:=⟨jD⟩
instance:Und prog 143 (Go.TypeDesc.slice 322):=⟨underlying143⟩
instance:Siz prog 143 1:=⟨jD⟩
instance:type_of% (Und.mk underlying145):=⟨underlying145⟩
instance:Plc prog 145 [(0,1),(1,1),(2,1),(3,1),(4,1)]:=⟨fun fs w h=>by rw[underlying145]at h;cases h;kernel_rfl⟩
instance:Zer prog 145 (.agg (([.map none,.map none,.slice none 0 0,.bool false,.int .i64 0]:List Value)).toArray):=⟨jD⟩
instance:Und prog 147 (Go.TypeDesc.slice 46):=⟨underlying147⟩
instance:Siz prog 147 1:=⟨jD⟩
instance:Zer prog 147 (.slice none 0 0):=⟨jD⟩
instance:Und prog 155 (Go.TypeDesc.slice 1):=⟨underlying155⟩
instance:Und prog 158 (Go.TypeDesc.func #[27,53,84,120] #[] false):=⟨underlying158⟩
instance:Und prog 168 (Go.TypeDesc.map 29 239):=⟨underlying168⟩
instance:Siz prog 168 1:=⟨jD⟩
instance:Und prog 169 (Go.TypeDesc.slice 129):=⟨underlying169⟩
instance:Siz prog 169 1:=⟨jD⟩
instance:Und prog 170 (Go.TypeDesc.slice 457):=⟨underlying170⟩
instance:Siz prog 170 1:=⟨jD⟩
instance:type_of% (Und.mk underlying172):=⟨underlying172⟩
instance:Plc prog 172 [(0,1),(1,11),(12,1),(13,1),(14,1)]:=⟨fun fs w h=>by rw[underlying172]at h;cases h;kernel_rfl⟩
instance:Zer prog 172 (.agg (([.int .i64 0]:List Value)++(List.replicate 11 (.int .u64 0):List Value)++([.map none,.slice none 0 0,.slice none 0 0]:List Value)).toArray):=⟨jD⟩
instance:Und prog 173 (Go.TypeDesc.slice 29):=⟨underlying173⟩
instance:Siz prog 173 1:=⟨jD⟩
instance:Und prog 174 (Go.TypeDesc.map 29 3):=⟨underlying174⟩
instance:Siz prog 174 1:=⟨jD⟩
instance:type_of% (Und.mk underlying176):=⟨underlying176⟩
instance:Plc prog 176 [(0,1),(1,1),(2,1)]:=⟨fun fs w h=>by rw[underlying176]at h;cases h;kernel_rfl⟩
instance:Zer prog 176 (.agg (([.int .u64 0,.slice none 0 0,.map none]:List Value)).toArray):=⟨jD⟩
instance:Und prog 177 (Go.TypeDesc.map 181 32):=⟨underlying177⟩
instance:Siz prog 177 1:=⟨jD⟩
instance:type_of% (Und.mk underlying179):=⟨underlying179⟩
instance:Plc prog 179 [(0,1),(1,1)]:=⟨fun fs w h=>by rw[underlying179]at h;cases h;kernel_rfl⟩
instance:Zer prog 179 (.agg (([.int .i64 0,.map none]:List Value)).toArray):=⟨jD⟩
instance:type_of% (Und.mk underlying181):=⟨underlying181⟩
instance:Siz prog 181 2:=⟨jD⟩
instance:Plc prog 181 [(0,1),(1,1)]:=⟨fun fs w h=>by rw[underlying181]at h;cases h;kernel_rfl⟩
instance:Zer prog 181 (.agg (([.int .i64 0,.int .u64 0]:List Value)).toArray):=⟨jD⟩
instance:Und prog 196 (Go.TypeDesc.pointer 268):=⟨underlying196⟩
instance:Siz prog 196 1:=⟨jD⟩
instance:type_of% (Und.mk underlying200):=⟨underlying200⟩
instance:Plc prog 200 [(0,1),(1,1),(2,1),(3,1)]:=⟨fun fs w h=>by rw[underlying200]at h;cases h;kernel_rfl⟩
instance:Zer prog 200 (.agg (([.pointer none,.int .i64 0,.int .u64 0,.slice none 0 0]:List Value)).toArray):=⟨jD⟩
instance:Und prog 202 (Go.TypeDesc.pointer 273):=⟨underlying202⟩
instance:type_of% (Und.mk underlying210):=⟨underlying210⟩
instance:Plc prog 210 [(0,1),(1,1),(2,1),(3,1),(4,1),(5,1)]:=⟨fun fs w h=>by rw[underlying210]at h;cases h;kernel_rfl⟩
instance:Zer prog 210 (.agg (([.pointer none,.int .i64 0,.int .i64 0,.int .u64 0,.int .i64 0,.bool false]:List Value)).toArray):=⟨jD⟩
instance:Und prog 239 (Go.TypeDesc.pointer 242):=⟨underlying239⟩
instance:Zer prog 239 (.pointer none):=⟨jD⟩
instance:Und prog 240 (Go.TypeDesc.map 466 4):=⟨underlying240⟩
instance:Siz prog 240 1:=⟨jD⟩
instance:type_of% (Und.mk underlying242):=⟨underlying242⟩
instance:Plc prog 242 [(0,1),(1,1),(2,1),(3,1),(4,1)]:=⟨fun fs w h=>by rw[underlying242]at h;cases h;kernel_rfl⟩
instance:Zer prog 242 (.agg (([.int .u64 0,.int .i64 0,.slice none 0 0,.slice none 0 0,.map none]:List Value)).toArray):=⟨jD⟩
instance:Und prog 244 (Go.TypeDesc.map 32 3):=⟨underlying244⟩
instance:type_of% (Und.mk underlying246):=⟨underlying246⟩
instance:Siz prog 246 2:=⟨jD⟩
instance:Plc prog 246 [(0,1),(1,1)]:=⟨fun fs w h=>by rw[underlying246]at h;cases h;kernel_rfl⟩
instance:Zer prog 246 (.agg (([.pointer none,.int .i64 0]:List Value)).toArray):=⟨jD⟩
instance:Und prog 248 (Go.TypeDesc.map 431 41):=⟨underlying248⟩
instance:Siz prog 248 1:=⟨jD⟩
instance:type_of% (Und.mk underlying250):=⟨underlying250⟩
instance:Plc prog 250 [(0,1)]:=⟨fun fs w h=>by rw[underlying250]at h;cases h;kernel_rfl⟩
instance:Zer prog 250 (.agg #[.map none]):=⟨jD⟩
instance:Und prog 251 (Go.TypeDesc.pointer 346):=⟨underlying251⟩
instance:Siz prog 251 1:=⟨jD⟩
instance:Zer prog 251 (.pointer none):=⟨jD⟩
instance:Und prog 253 (Go.TypeDesc.map 415 136):=⟨underlying253⟩
instance:Siz prog 253 1:=⟨jD⟩
instance:Und prog 254 (Go.TypeDesc.slice 32):=⟨underlying254⟩
instance:Siz prog 254 1:=⟨jD⟩
instance:type_of% (Und.mk underlying256):=⟨underlying256⟩
instance:Plc prog 256 [(0,1),(1,1),(2,1),(3,1)]:=⟨fun fs w h=>by rw[underlying256]at h;cases h;kernel_rfl⟩
instance:Zer prog 256 (.agg (([.slice none 0 0,.pointer none,.slice none 0 0,.map none]:List Value)).toArray):=⟨jD⟩
instance:type_of% (Und.mk underlying258):=⟨underlying258⟩
instance:Plc prog 258 [(0,1),(1,1),(2,1),(3,1),(4,1)]:=⟨fun fs w h=>by rw[underlying258]at h;cases h;kernel_rfl⟩
instance:Zer prog 258 (.agg (([.int .u64 0,.bool false,.int .u64 0,.int .u64 0,.int .u64 0]:List Value)).toArray):=⟨jD⟩
instance:Und prog 259 (Go.TypeDesc.array 11 47):=⟨underlying259⟩
instance:Siz prog 259 11:=⟨jD⟩
instance:Und prog 260 (Go.TypeDesc.slice 360):=⟨underlying260⟩
instance:Siz prog 260 1:=⟨jD⟩
instance:type_of% (Und.mk underlying262):=⟨underlying262⟩
instance:Plc prog 262 [(0,1),(1,11),(12,1)]:=⟨fun fs w h=>by rw[underlying262]at h;cases h;kernel_rfl⟩
instance:Zer prog 262 (.agg (([.int .i64 0]:List Value)++(List.replicate 11 (.slice none 0 0):List Value)++([.slice none 0 0]:List Value)).toArray):=⟨jD⟩
instance:Und prog 264 (Go.TypeDesc.array 11 36):=⟨underlying264⟩
instance:Siz prog 264 121:=⟨jD⟩
instance:type_of% (Und.mk underlying266):=⟨underlying266⟩
instance:Plc prog 266 [(0,1),(1,121)]:=⟨fun fs w h=>by rw[underlying266]at h;cases h;kernel_rfl⟩
instance:Zer prog 266 (.agg (([.int .i64 0]:List Value)++(List.replicate 11 (.int .u64 0):List Value)++(List.replicate 11 (.int .u64 0):List Value)++(List.replicate 11 (.int .u64 0):List Value)++(List.replicate 11 (.int .u64 0):List Value)++(List.replicate 11 (.int .u64 0):List Value)++(List.replicate 11 (.int .u64 0):List Value)++(List.replicate 11 (.int .u64 0):List Value)++(List.replicate 11 (.int .u64 0):List Value)++(List.replicate 11 (.int .u64 0):List Value)++(List.replicate 11 (.int .u64 0):List Value)++(List.replicate 11 (.int .u64 0):List Value)).toArray):=⟨jD⟩
instance:type_of% (Und.mk underlying268):=⟨underlying268⟩
instance:Plc prog 268 [(0,2),(2,1),(3,1),(4,1)]:=⟨fun fs w h=>by rw[underlying268]at h;cases h;kernel_rfl⟩
instance:Zer prog 268 (.agg (([.pointer none,.int .i64 0,.slice none 0 0,.int .i64 0,.bool false]:List Value)).toArray):=⟨jD⟩
instance:type_of% (Und.mk underlying273):=⟨underlying273⟩
instance:Plc prog 273 [(0,1),(1,1)]:=⟨fun fs w h=>by rw[underlying273]at h;cases h;kernel_rfl⟩
instance:Zer prog 273 (.agg (([.slice none 0 0,.bool false]:List Value)).toArray):=⟨jD⟩
instance:Und prog 278 (Go.TypeDesc.int Go.IntKind.u16):=⟨underlying278⟩
instance:type_of% (Und.mk underlying280):=⟨underlying280⟩
instance:Siz prog 280 4:=⟨jD⟩
instance:Plc prog 280 [(0,1),(1,1),(2,1),(3,1)]:=⟨fun fs w h=>by rw[underlying280]at h;cases h;kernel_rfl⟩
instance:Zer prog 280 (.agg (([.int .u64 0,.int .u64 0,.int .u16 0,.int .u16 0]:List Value)).toArray):=⟨jD⟩
instance:Und prog 289 (Go.TypeDesc.func #[46,39] #[46] false):=⟨underlying289⟩
instance:Siz prog 289 1:=⟨jD⟩
instance:Und prog 290 (Go.TypeDesc.func #[202,297] #[] false):=⟨underlying290⟩
instance:Siz prog 290 1:=⟨jD⟩
instance:Und prog 291 (Go.TypeDesc.func #[39] #[4] false):=⟨underlying291⟩
instance:Siz prog 291 1:=⟨jD⟩
instance:type_of% (Und.mk underlying293):=⟨underlying293⟩
instance:Siz prog 293 3:=⟨jD⟩
instance:Plc prog 293 [(0,1),(1,1),(2,1)]:=⟨fun fs w h=>by rw[underlying293]at h;cases h;kernel_rfl⟩
instance:Zer prog 293 (.agg (([.nilFunc,.nilFunc,.nilFunc]:List Value)).toArray):=⟨jD⟩
instance:Und prog 295 (Go.TypeDesc.map 5 293):=⟨underlying295⟩
instance:Und prog 301 (Go.TypeDesc.array 128 5):=⟨underlying301⟩
instance:Siz prog 301 128:=⟨jD⟩
instance:Zer prog 301 (.agg ((List.replicate 128 (.int .u8 0):List Value)).toArray):=⟨jD⟩
instance:Und prog 307 (Go.TypeDesc.slice 138):=⟨underlying307⟩
instance:Und prog 320 (Go.TypeDesc.slice 132):=⟨underlying320⟩
instance:type_of% (Und.mk underlying322):=⟨underlying322⟩
instance:Siz prog 322 129:=⟨jD⟩
instance:Byt prog 322 136:=⟨jD⟩
instance:Plc prog 322 [(0,1),(1,128)]:=⟨fun fs w h=>by rw[underlying322]at h;cases h;kernel_rfl⟩
instance:Zer prog 322 (.agg (([.int .i64 0]:List Value)++(List.replicate 128 (.int .u8 0):List Value)).toArray):=⟨jD⟩
instance:type_of% (Und.mk underlying324):=⟨underlying324⟩
instance:Siz prog 324 129:=⟨jD⟩
instance:Plc prog 324 [(0,128),(128,1)]:=⟨fun fs w h=>by rw[underlying324]at h;cases h;kernel_rfl⟩
instance:Zer prog 324 (.agg ((List.replicate 128 (.int .u8 0):List Value)++([.bool false]:List Value)).toArray):=⟨jD⟩
instance:type_of% (Und.mk underlying327):=⟨underlying327⟩
instance:Siz prog 327 2:=⟨jD⟩
instance:Byt prog 327 16:=⟨jD⟩
instance:Plc prog 327 [(0,1),(1,1)]:=⟨fun fs w h=>by rw[underlying327]at h;cases h;kernel_rfl⟩
instance:Zer prog 327 (.agg (([.int .i64 0,.int .u64 0]:List Value)).toArray):=⟨jD⟩
instance:Und prog 333 (Go.TypeDesc.slice 3):=⟨underlying333⟩
instance:Und prog 341 (Go.TypeDesc.pointer 397):=⟨underlying341⟩
instance:Siz prog 341 1:=⟨jD⟩
instance:Und prog 343 (Go.TypeDesc.pointer 402):=⟨underlying343⟩
instance:Siz prog 343 1:=⟨jD⟩
instance:type_of% (Und.mk underlying346):=⟨underlying346⟩
instance:Plc prog 346 [(0,1),(1,1),(2,1)]:=⟨fun fs w h=>by rw[underlying346]at h;cases h;kernel_rfl⟩
instance:Zer prog 346 (.agg (([.pointer none,.pointer none,.int .u64 0]:List Value)).toArray):=⟨jD⟩
instance:Und prog 354 (Go.TypeDesc.int Go.IntKind.u64):=⟨underlying354⟩
instance:type_of% (Und.mk underlying360):=⟨underlying360⟩
instance:Siz prog 360 2:=⟨jD⟩
instance:Byt prog 360 16:=⟨jD⟩
instance:Plc prog 360 [(0,1),(1,1)]:=⟨fun fs w h=>by rw[underlying360]at h;cases h;kernel_rfl⟩
instance:Zer prog 360 (.agg (([.int .i64 0,.int .i64 0]:List Value)).toArray):=⟨jD⟩
instance:Und prog 384 (Go.TypeDesc.slice 131):=⟨underlying384⟩
instance:Und prog 395 (Go.TypeDesc.map 9 9):=⟨underlying395⟩
instance:Siz prog 395 1:=⟨jD⟩
instance:type_of% (Und.mk underlying397):=⟨underlying397⟩
instance:Plc prog 397 [(0,1)]:=⟨fun fs w h=>by rw[underlying397]at h;cases h;kernel_rfl⟩
instance:Zer prog 397 (.agg #[.map none]):=⟨jD⟩
instance:type_of% (Und.mk underlying399):=⟨underlying399⟩
instance:Siz prog 399 3:=⟨jD⟩
instance:Byt prog 399 32:=⟨jD⟩
instance:Plc prog 399 [(0,1),(1,2)]:=⟨fun fs w h=>by rw[underlying399]at h;cases h;kernel_rfl⟩
instance:Zer prog 399 (.agg (([.int .u64 0,.int .i64 0,.string ByteArray.empty]:List Value)).toArray):=⟨jD⟩
instance:Und prog 400 (Go.TypeDesc.array 8 399):=⟨underlying400⟩
instance:Siz prog 400 24:=⟨jD⟩
instance:type_of% (Und.mk underlying402):=⟨underlying402⟩
instance:Plc prog 402 [(0,24)]:=⟨fun fs w h=>by rw[underlying402]at h;cases h;kernel_rfl⟩
instance:Zer prog 402 (.agg (([.int .u64 0,.int .i64 0,.string ByteArray.empty,.int .u64 0,.int .i64 0,.string ByteArray.empty,.int .u64 0,.int .i64 0,.string ByteArray.empty,.int .u64 0,.int .i64 0,.string ByteArray.empty,.int .u64 0,.int .i64 0,.string ByteArray.empty,.int .u64 0,.int .i64 0,.string ByteArray.empty,.int .u64 0,.int .i64 0,.string ByteArray.empty,.int .u64 0,.int .i64 0,.string ByteArray.empty]:List Value)).toArray):=⟨jD⟩
instance:Und prog 409 (Go.TypeDesc.slice 9):=⟨underlying409⟩
instance:type_of% (Und.mk underlying415):=⟨underlying415⟩
instance:Plc prog 415 [(0,1),(1,1)]:=⟨fun fs w h=>by rw[underlying415]at h;cases h;kernel_rfl⟩
instance:Zer prog 415 (.agg (([.int .i64 0,.int .u64 0]:List Value)).toArray):=⟨jD⟩
instance:type_of% (Und.mk underlying431):=⟨underlying431⟩
instance:Siz prog 431 2:=⟨jD⟩
instance:Byt prog 431 16:=⟨jD⟩
instance:Plc prog 431 [(0,1),(1,1)]:=⟨fun fs w h=>by rw[underlying431]at h;cases h;kernel_rfl⟩
instance:Zer prog 431 (.agg (([.int .i64 0,.int .u64 0]:List Value)).toArray):=⟨jD⟩
instance:Und prog 434 (Go.TypeDesc.pointer 436):=⟨underlying434⟩
instance:Und prog 436 (Go.TypeDesc.slice 431):=⟨underlying436⟩
instance:Siz prog 436 1:=⟨jD⟩
instance:Und prog 449 (Go.TypeDesc.int Go.IntKind.u32):=⟨underlying449⟩
instance:Siz prog 449 1:=⟨jD⟩
instance:Und prog 451 (Go.TypeDesc.pointer 513):=⟨underlying451⟩
instance:Und prog 457 (Go.TypeDesc.slice 459):=⟨underlying457⟩
instance:Siz prog 457 1:=⟨jD⟩
instance:Byt prog 457 24:=⟨jD⟩
instance:Zer prog 457 (.slice none 0 0):=⟨jD⟩
instance:type_of% (Und.mk underlying466):=⟨underlying466⟩
instance:Plc prog 466 [(0,1),(1,1)]:=⟨fun fs w h=>by rw[underlying466]at h;cases h;kernel_rfl⟩
instance:Zer prog 466 (.agg (([.int .i64 0,.int .u64 0]:List Value)).toArray):=⟨jD⟩
instance:Und prog 469 (Go.TypeDesc.slice 399):=⟨underlying469⟩
instance:Und prog 471 (Go.TypeDesc.slice 473):=⟨underlying471⟩
instance:type_of% (Und.mk underlying473):=⟨underlying473⟩
instance:Siz prog 473 2:=⟨jD⟩
instance:Byt prog 473 32:=⟨jD⟩
instance:Plc prog 473 [(0,1),(1,1)]:=⟨fun fs w h=>by rw[underlying473]at h;cases h;kernel_rfl⟩
instance:Zer prog 473 (.agg (([.string ByteArray.empty,.string ByteArray.empty]:List Value)).toArray):=⟨jD⟩
instance:Und prog 478 (Go.TypeDesc.func #[29] #[] false):=⟨underlying478⟩
instance:Siz prog 478 1:=⟨jD⟩
instance:Zer prog 478 (.nilFunc):=⟨jD⟩
instance:Und prog 484 (Go.TypeDesc.pointer 486):=⟨underlying484⟩
instance:type_of% (Und.mk underlying486):=⟨underlying486⟩
instance:Plc prog 486 [(0,1),(1,1),(2,1),(3,1),(4,1),(5,1),(6,1),(7,1)]:=⟨fun fs w h=>by rw[underlying486]at h;cases h;kernel_rfl⟩
instance:Zer prog 486 (.agg (([.pointer none,.int .i64 0,.int .i64 0,.slice none 0 0,.int .u64 0,.int .u64 0,.bool false,.int .i64 0]:List Value)).toArray):=⟨jD⟩
instance:Und prog 488 (Go.TypeDesc.func #[484] #[39,4] false):=⟨underlying488⟩
instance:Siz prog 488 1:=⟨jD⟩
instance:Und prog 489 (Go.TypeDesc.array 5 488):=⟨underlying489⟩
instance:Siz prog 489 5:=⟨jD⟩
instance:Zer prog 489 (.agg ((List.replicate 5 (.nilFunc):List Value)).toArray):=⟨jD⟩
instance:Und prog 509 (Go.TypeDesc.array 8 449):=⟨underlying509⟩
instance:Siz prog 509 8:=⟨jD⟩
instance:Zer prog 509 (.agg ((List.replicate 8 (.int .u32 0):List Value)).toArray):=⟨jD⟩
instance:Und prog 511 (Go.TypeDesc.array 64 5):=⟨underlying511⟩
instance:Siz prog 511 64:=⟨jD⟩
instance:type_of% (Und.mk underlying513):=⟨underlying513⟩
instance:Siz prog 513 74:=⟨jD⟩
instance:Plc prog 513 [(0,8),(8,64),(72,1),(73,1)]:=⟨fun fs w h=>by rw[underlying513]at h;cases h;kernel_rfl⟩
instance:Zer prog 513 (.agg ((List.replicate 8 (.int .u32 0):List Value)++(List.replicate 64 (.int .u8 0):List Value)++([.int .i64 0,.int .u64 0]:List Value)).toArray):=⟨jD⟩
instance:Und prog 532 (Go.TypeDesc.array 64 449):=⟨underlying532⟩
instance:Siz prog 532 64:=⟨jD⟩
instance:Zer prog 532 (.agg ((List.replicate 64 (.int .u32 0):List Value)).toArray):=⟨jD⟩
instance:Und prog 549 (Go.TypeDesc.slice 449):=⟨underlying549⟩
instance:Fun prog 4:=.i func4
instance:Fun prog 5:=.i func5
instance:Fun prog 6:=.i func6
instance:Fun prog 7:=.i func7
instance:Fun prog 8:=.i func8
instance:Fun prog 9:=.i func9
instance:Fun prog 10:=.i func10
instance:Fun prog 11:=.i func11
instance:Fun prog 12:=.i func12
instance:Fun prog 13:=.i func13
instance:Fun prog 14:=.i func14
instance:Fun prog 15:=.i func15
instance:Fun prog 16:=.i func16
instance:Fun prog 17:=.i func17
instance:Fun prog 18:=.i func18
instance:Fun prog 19:=.i func19
instance:Fun prog 20:=.i func20
instance:Fun prog 21:=.i func21
instance:Fun prog 22:=.i func22
instance:Fun prog 23:=.i func23
instance:Fun prog 24:=.i func24
instance:Fun prog 25:=.i func25
instance:Fun prog 26:=.i func26
instance:Fun prog 27:=.i func27
instance:Fun prog 28:=.i func28
instance:Fun prog 29:=.i func29
instance:Fun prog 30:=.i func30
instance:Fun prog 31:=.i func31
instance:Fun prog 32:=.i func32
instance:Fun prog 33:=.i func33
instance:Fun prog 34:=.i func34
instance:Fun prog 35:=.i func35
instance:Fun prog 36:=.i func36
instance:Fun prog 37:=.i func37
instance:Fun prog 38:=.i func38
instance:Fun prog 39:=.i func39
instance:Fun prog 40:=.i func40
instance:Fun prog 41:=.i func41
instance:Fun prog 42:=.i func42
instance:Fun prog 43:=.i func43
instance:Fun prog 44:=.i func44
instance:Fun prog 45:=.i func45
instance:Fun prog 46:=.i func46
instance:Fun prog 47:=.i func47
instance:Fun prog 48:=.i func48
instance:Fun prog 49:=.i func49
instance:Fun prog 50:=.i func50
instance:Fun prog 51:=.i func51
instance:Fun prog 52:=.i func52
instance:Fun prog 53:=.i func53
instance:Fun prog 54:=.i func54
instance:Fun prog 55:=.i func55
instance:Fun prog 56:=.i func56
instance:Fun prog 57:=.i func57
instance:Fun prog 58:=.i func58
instance:Fun prog 59:=.i func59
instance:Fun prog 60:=.i func60
instance:Fun prog 61:=.i func61
instance:Fun prog 65:=.i func65
instance:Fun prog 66:=.i func66
instance:Fun prog 67:=.i func67
instance:Fun prog 73:=.i func73
instance:Fun prog 74:=.i func74
instance:Fun prog 75:=.i func75
instance:Fun prog 76:=.i func76
instance:Fun prog 77:=.i func77
instance:Fun prog 78:=.i func78
instance:Fun prog 79:=.i func79
instance:Fun prog 80:=.i func80
instance:Fun prog 81:=.i func81
instance:Fun prog 82:=.i func82
instance:Fun prog 83:=.i func83
instance:Fun prog 84:=.i func84
instance:Fun prog 85:=.i func85
instance:Fun prog 86:=.i func86
instance:Fun prog 87:=.i func87
instance:Fun prog 88:=.i func88
instance:Fun prog 89:=.i func89
instance:Fun prog 90:=.i func90
instance:Fun prog 91:=.i func91
instance:Fun prog 92:=.i func92
instance:Fun prog 93:=.i func93
instance:Fun prog 94:=.i func94
instance:Fun prog 95:=.i func95
instance:Fun prog 96:=.i func96
instance:Fun prog 97:=.i func97
instance:Fun prog 98:=.i func98
instance:Fun prog 99:=.i func99
instance:Fun prog 100:=.i func100
instance:Fun prog 101:=.i func101
instance:Fun prog 102:=.i func102
instance:Fun prog 104:=.i func104
instance:Fun prog 105:=.i func105
instance:Fun prog 107:=.i func107
instance:Fun prog 108:=.i func108
instance:Fun prog 109:=.i func109
instance:Fun prog 110:=.i func110
instance:Fun prog 111:=.i func111
instance:Fun prog 112:=.i func112
instance:Fun prog 113:=.i func113
instance:Fun prog 114:=.i func114
instance:Fun prog 115:=.i func115
instance:Fun prog 116:=.i func116
instance:Fun prog 117:=.i func117
instance:Fun prog 118:=.i func118
instance:Fun prog 119:=.i func119
instance:Fun prog 120:=.i func120
instance:Fun prog 124:=.i func124
instance:Fun prog 125:=.i func125
instance:Fun prog 129:=.i func129
instance:Fun prog 130:=.i func130
instance:Fun prog 131:=.i func131
instance:Fun prog 132:=.i func132
instance:Fun prog 133:=.i func133
instance:Fun prog 134:=.i func134
instance:Fun prog 135:=.i func135
instance:Fun prog 136:=.i func136
instance:Fun prog 137:=.i func137
instance:Fun prog 138:=.i func138
instance:Fun prog 139:=.i func139
instance:Fun prog 140:=.i func140
instance:Fun prog 141:=.i func141
instance:Fun prog 142:=.i func142
instance:Fun prog 143:=.i func143
instance:Fun prog 144:=.i func144
instance:Fun prog 145:=.i func145
instance:Fun prog 146:=.i func146
instance:Fun prog 147:=.i func147
instance:Fun prog 148:=.i func148
instance:Fun prog 149:=.i func149
instance:Fun prog 150:=.i func150
instance:Fun prog 151:=.i func151
instance:Fun prog 152:=.i func152
instance:Fun prog 153:=.i func153
instance:Fun prog 154:=.i func154
instance:Fun prog 155:=.i func155
instance:Fun prog 156:=.i func156
instance:Fun prog 157:=.i func157
instance:Fun prog 158:=.i func158
instance:Fun prog 159:=.i func159
instance:Fun prog 160:=.i func160
instance:Fun prog 161:=.i func161
instance:Fun prog 162:=.i func162
instance:Fun prog 163:=.i func163
instance:Fun prog 164:=.i func164
instance:Fun prog 165:=.i func165
instance:Fun prog 166:=.i func166
instance:Fun prog 167:=.i func167
instance:Fun prog 168:=.i func168
instance:Fun prog 169:=.i func169
instance:Fun prog 170:=.i func170
instance:Fun prog 171:=.i func171
instance:Fun prog 172:=.i func172
instance:Fun prog 173:=.i func173
instance:Fun prog 174:=.i func174
instance:Fun prog 175:=.i func175
instance:Fun prog 176:=.i func176
instance:Fun prog 177:=.i func177
instance:Fun prog 178:=.i func178
instance:Fun prog 179:=.i func179
instance:Fun prog 180:=.i func180
instance:Fun prog 181:=.i func181
instance:Fun prog 182:=.i func182
instance:Fun prog 183:=.i func183
instance:Fun prog 184:=.i func184
instance:Fun prog 185:=.i func185
instance:Fun prog 186:=.i func186
instance:Fun prog 188:=.i func188
instance:Fun prog 190:=.i func190
instance:Fun prog 191:=.i func191
instance:Fun prog 192:=.i func192
instance:Fun prog 193:=.i func193
instance:Fun prog 194:=.i func194
instance:Fun prog 195:=.i func195
instance:Fun prog 196:=.i func196
instance:Fun prog 197:=.i func197
instance:Fun prog 198:=.i func198
instance:Fun prog 199:=.i func199
instance:Fun prog 200:=.i func200
instance:Fun prog 201:=.i func201
instance:Fun prog 202:=.i func202
instance:Fun prog 203:=.i func203
instance:Fun prog 204:=.i func204
instance:Fun prog 205:=.i func205
instance:Fun prog 206:=.i func206
instance:Fun prog 207:=.i func207
instance:Fun prog 208:=.i func208
instance:Fun prog 209:=.i func209
instance:Fun prog 210:=.i func210
instance:Fun prog 211:=.i func211
instance:Fun prog 212:=.i func212
instance:Fun prog 213:=.i func213
instance:Fun prog 214:=.i func214
instance:Fun prog 215:=.i func215
instance:Fun prog 216:=.i func216
instance:Fun prog 217:=.i func217
instance:Fun prog 218:=.i func218
instance:Fun prog 219:=.i func219
instance:Fun prog 220:=.i func220
instance:Fun prog 221:=.i func221
instance:Fun prog 222:=.i func222
instance:Fun prog 223:=.i func223
instance:Fun prog 224:=.i func224
instance:Fun prog 225:=.i func225
instance:Fun prog 226:=.i func226
instance:Fun prog 227:=.i func227
instance:Fun prog 228:=.i func228
instance:Fun prog 229:=.i func229
instance:Fun prog 230:=.i func230
instance:Fun prog 231:=.i func231
instance:Fun prog 232:=.i func232
instance:Fun prog 233:=.i func233
instance:Fun prog 234:=.i func234
instance:Fun prog 235:=.i func235
instance:Fun prog 236:=.i func236
instance:Fun prog 237:=.i func237
instance:Fun prog 238:=.i func238
instance:Fun prog 239:=.i func239
instance:Fun prog 240:=.i func240
instance:Fun prog 241:=.i func241
instance:Fun prog 242:=.i func242
instance:Fun prog 243:=.i func243
instance:Fun prog 244:=.i func244
instance:Fun prog 245:=.i func245
instance:Fun prog 246:=.i func246
instance:Fun prog 247:=.i func247
instance:Fun prog 248:=.i func248
instance:Fun prog 249:=.i func249
instance:Fun prog 250:=.i func250
instance:Fun prog 251:=.i func251
instance:Fun prog 252:=.i func252
instance:Fun prog 253:=.i func253
instance:Fun prog 254:=.i func254
instance:Fun prog 255:=.i func255
instance:Fun prog 256:=.i func256
instance:Fun prog 257:=.i func257
instance:Fun prog 258:=.i func258
instance:Fun prog 259:=.i func259
instance:Fun prog 260:=.i func260
instance:Fun prog 261:=.i func261
instance:Fun prog 262:=.i func262
instance:Fun prog 263:=.i func263
instance:Fun prog 264:=.i func264
instance:Fun prog 265:=.i func265
instance:Fun prog 266:=.i func266
instance:Fun prog 267:=.i func267
instance:Fun prog 268:=.i func268
instance:Fun prog 272:=.i func272
instance:Fun prog 273:=.i func273
instance:Fun prog 274:=.i func274
instance:Fun prog 275:=.i func275
instance:Fun prog 276:=.i func276
instance:Fun prog 277:=.i func277
instance:Fun prog 278:=.i func278
instance:Fun prog 279:=.i func279
instance:Fun prog 280:=.i func280
instance:Fun prog 281:=.i func281
instance:Fun prog 282:=.i func282
instance:Fun prog 283:=.i func283
instance:Fun prog 284:=.i func284
instance:Fun prog 285:=.i func285
instance:Fun prog 286:=.i func286
instance:Fun prog 287:=.i func287
instance:Fun prog 288:=.i func288
instance:Fun prog 289:=.i func289
instance:Fun prog 290:=.i func290
instance:Fun prog 291:=.i func291
instance:Fun prog 292:=.i func292
instance:Fun prog 293:=.i func293
instance:Fun prog 294:=.i func294
instance:Fun prog 295:=.i func295
instance:Fun prog 296:=.i func296
instance:Fun prog 297:=.i func297
instance:Fun prog 298:=.i func298
instance:Fun prog 299:=.i func299
instance:Fun prog 300:=.i func300
instance:Fun prog 301:=.i func301
instance:Fun prog 302:=.i func302
instance:Fun prog 303:=.i func303
instance:Fun prog 304:=.i func304
instance:Fun prog 305:=.i func305
instance:Fun prog 306:=.i func306
instance:Fun prog 307:=.i func307
instance:Fun prog 316:=.i func316
instance:Fun prog 317:=.i func317
instance:Fun prog 318:=.i func318
instance:Fun prog 319:=.i func319
instance:Fun prog 320:=.i func320
instance:Fun prog 321:=.i func321
instance:Fun prog 322:=.i func322
instance:Fun prog 323:=.i func323
instance:Fun prog 325:=.i func325
instance:Fun prog 329:=.i func329
instance:Fun prog 330:=.i func330
instance:Fun prog 331:=.i func331
instance:Fun prog 332:=.i func332
instance:Fun prog 333:=.i func333
instance:Fun prog 334:=.i func334
instance:Fun prog 335:=.i func335
instance:Fun prog 336:=.i func336
instance:Fun prog 337:=.i func337
instance:Fun prog 338:=.i func338
instance:Fun prog 339:=.i func339
instance:Fun prog 340:=.i func340
instance:Fun prog 341:=.i func341
instance:Fun prog 342:=.i func342
instance:Fun prog 343:=.i func343
instance:Fun prog 344:=.i func344
instance:Fun prog 345:=.i func345
instance:Fun prog 346:=.i func346
instance:Fun prog 347:=.i func347
instance:Fun prog 348:=.i func348
instance:Fun prog 349:=.i func349
instance:Fun prog 355:=.i func355
instance:Fun prog 363:=.i func363
instance:Fun prog 364:=.i func364
instance:Fun prog 365:=.i func365
instance:Fun prog 369:=.i func369
instance:Fun prog 370:=.i func370
instance:Fun prog 371:=.i func371
instance:Fun prog 372:=.i func372
instance:Fun prog 373:=.i func373
instance:Fun prog 374:=.i func374
instance:Fun prog 375:=.i func375
instance:Fun prog 376:=.i func376
instance:Fun prog 379:=.i func379
instance:Fun prog 380:=.i func380
instance:Fun prog 381:=.i func381
instance:Fun prog 382:=.i func382
instance:Fun prog 383:=.i func383
instance:Fun prog 384:=.i func384
instance:Fun prog 385:=.i func385
instance:Fun prog 389:=.i func389
instance:Fun prog 391:=.i func391
instance:Fun prog 392:=.i func392
instance:Fun prog 395:=.i func395
instance:Fun prog 396:=.i func396
instance:Fun prog 397:=.i func397
instance:Fun prog 399:=.i func399
instance:Fun prog 400:=.i func400
instance:Fun prog 401:=.i func401
instance:Fun prog 402:=.i func402
instance:Fun prog 403:=.i func403
instance:Fun prog 405:=.i func405
instance:Fun prog 406:=.i func406
instance:Fun prog 416:=.i func416
instance:Fun prog 417:=.i func417
instance:Fun prog 422:=.i func422
instance:Fun prog 427:=.i func427
instance:Fun prog 480:=.i func480
instance:Fun prog 481:=.i func481
instance:Fun prog 482:=.i func482
instance:Fun prog 483:=.i func483
def byteAt(n:Int)(i:Nat):UInt8:=UInt8.ofNat ((n.fdiv (2 ^ (8*i))) % 256).toNat
def beTop(k:Nat)(n:Int):Nat→List UInt8
 |0=>[]
 |i+1=>beTop k n i++[byteAt n (k-1-i)]
def be(k:Nat)(n:Int):List UInt8:=beTop k n k
theorem beTop_len(k:Nat)(n:Int):∀i,(beTop k n i).length=i
 |0=>rfl
 |i+1=>by simp[beTop,beTop_len k n i]
theorem be_len(k:Nat)(n:Int):(be k n).length=k:=beTop_len k n k
theorem byteAt_wrap(n:Int)(i:Nat):IntKind.u8.wrap (n.fdiv (2 ^ (8*i)))=((byteAt n i).toNat:Int):=by
 have h:IntKind.u8.wrap (n.fdiv (2 ^ (8*i)))=(n.fdiv (2 ^ (8*i))) % 256:=by
  simp[IntKind.wrap,IntKind.signed,IntKind.bits]
 rw[h];unfold byteAt;have h1:0≤(n.fdiv (2 ^ (8*i))) % 256:=Int.emod_nonneg _ jE;have h2:(n.fdiv (2 ^ (8*i))) % 256<256:=Int.emod_lt_of_pos _ jE
 generalize(n.fdiv (2 ^ (8*i))) % 256=z at h1 h2;exact qcY
theorem zab(l:List UInt8):(bytesV l).length=l.length:=by simp[bytesV]
theorem zak(a b:List UInt8):bytesV (a++b)=bytesV a++bytesV b:=by simp[bytesV]
theorem zao(l:List UInt8):∀v∈bytesV l,one v=true:=by
 intro v hv;obtain⟨b,_,rfl⟩:=List.mem_map.1 hv;rfl
theorem FA(h:At A (slc p m c T sz xs) A' (slc p m c T sz xs))
  (k:m≤c→c≤9223372036854775807→xs.length=m*sz→Fn P fid args f A R):Fn P fid args f A R:=fun base w s=>by
 obtain⟨h1,h2,h3⟩:=s.slc_at h
 rcases h3 with⟨rfl,rfl⟩|⟨b,sp,rfl,h4,_⟩
 ·exact k (Nat.le_refl _) h2 h1 base w s
 ·exact k h4 h2 h1 base w s
def BytesR(l:List UInt8)(f:Frag)(A:List HP):Value→Frag→List HP→Prop:=fun v f' A'=>∃p c,v= .slice p l.length c∧f'=f∧A'=slc p l.length c 5 1 (bytesV l)::A
variable {l:List UInt8}
section
variable (f:Frag) (A:List HP)
theorem zce(hs:Src prog f A (.slice p l.length c) 1 l.length (bytesV l))(hn:p=none→l=[])(hl:l.length≤100000000000):Fn prog 143 [.slice p l.length c] f A (BytesR l f A):=by
 cases p with
 | none =>
  have:=hn rfl;subst this
  refine AB func143 ntmps143 fun base=>?_;apply (gP);refine AY 5 1 ?_;exact qbJ
 | some a =>
  refine AB func143 ntmps143 fun base=>?_;repeat(first|((first|apply B3|apply BE);(iterate 3 exact rfl))|(first|apply H.seq|apply BD|apply H.nil|apply BF)|((apply CG);(iterate 5 exact rfl))|(apply CF;exact rfl)|(apply H.skip))
  refine (qhd) fun eb=>?_;repeat(((apply B3);(iterate 3 exact rfl)))
  refine H.imp (A':=slc (some ⟨eb,0,none⟩) 0 0 5 1 []::A) ?_ ?_
  ·rintro x ⟨m1,m2,d,e,a,r⟩;exact⟨m1,m2,d,e,row_slc jZ jE a,r⟩
  refine AQ rfl rfl rfl rfl rfl (fun p' c'=>.here _ _ _) hs.cons (zao l) rfl jB jB fun p' c'=>?_;apply (gK);refine AE rfl rfl (A':=slc p' l.length c' 5 1 (bytesV l)::A) ?_ ⟨p',c',by rw[Nat.zero_add],rfl,rfl⟩;simp only[List.nil_append,Nat.zero_add];exact fun _ h=>h
theorem growB_fn(hl:l.length≤100000000000)(hm:m≤1000000):Fn prog 235 [.slice p l.length c,.int .i64 (m:Nat)] f (slc p l.length c 5 1 (bytesV l)::A) (BytesR l f A):=by
 refine FA aP0 fun hc hcm _=>?_;by_cases hg:c<l.length+m
 ·refine A9 func235 ntmps235 fun base=>?_;apply (gT);refine EQ fun sp hsp _=>?_;refine CV rfl rfl rfl rfl (Nat.le_refl _) rfl ?_;apply (gG);refine ER (m:=m-(c-l.length)) rfl rfl rfl rfl jB (fun p' c'=>.here _ _ _) rfl jB jB jB jB fun p' c'=>?_;repeat(((first|apply B3|apply BG);(iterate 3 exact rfl)))
  refine (qjT) fun hc' _ _=>?_;refine CV rfl rfl rfl rfl jB rfl ?_;refine DV (m':=l.length) (ys:=bytesV l) jB hc' ?_ ?_
  ·rw[List.append_assoc,Nat.mul_one,List.take_append_of_le_length (by rw[zab];exact Nat.le_refl _),List.take_of_length_le (by rw[zab];exact Nat.le_refl _)]
  apply (gK);exact qbi
 ·refine A9 func235 ntmps235 fun base=>?_;apply (gT);exact qbf
theorem put_fn{k:Nat}{n:Int}(hs:Src prog f A (.slice p l.length c) 1 l.length (bytesV l))(hn:p=none→l=[])(hl:l.length≤10000000000)(hk:k≤8):Fn prog 209 [.slice p l.length c,.int .u64 n,.int .i64 (k:Nat)] f A (BytesR (l++be k n) f A):=by
 refine AP func209 ntmps209 fun base=>?_;apply (gG);refine AG rfl rfl rfl (zce f A hs hn jB) fun p1 c1=>?_;apply (gG);refine AG rfl rfl rfl (growB_fn f A jB jB) fun p2 c2=>?_;apply (gD)
 refine H.loop (ι:=Nat×Option Addr×Nat) (fun i=>[(8,.int .i64 ((k:Int)-1-(i.1:Int))),(7,.slice i.2.1 (l++beTop k n i.1).length i.2.2),(1,.int .u64 n)]) (fun _=>f)
  (fun i=>slc i.2.1 (l++beTop k n i.1).length i.2.2 5 1 (bytesV (l++beTop k n i.1))::A) (fun i=>i.1≤k) (fun i=>k-i.1) (0,p2,c2) (Nat.zero_le _) ?_ rfl ?_ fun i hi=>?_
 ·exact qbj
 ·exact qcy
 ·obtain⟨i,p',c'⟩:=i;have hi:i≤k:=hi;show H _ _ _ [(8,.int .i64 ((k:Int)-1-(i:Int))),(7,.slice p' (l++beTop k n i).length c'),(1,.int .u64 n)] _ (slc p' (l++beTop k n i).length c' _ 1 (bytesV (l++beTop k n i))::A) _
  generalize hacc:l++beTop k n i=acc;have hlen:acc.length=l.length+i:=by rw[←hacc,List.length_append,beTop_len]
  by_cases hlt:i<k
  ·have hexp:min (8*((k:Int)-1-(i:Int))).toNat IntKind.u64.bits=8*(k-1-i):=by simp only[IntKind.bits];omega
   have hsh:n.fdiv (2 ^ (min (8*((k:Int)-1-(i:Int))).toNat IntKind.u64.bits))=n.fdiv (2 ^ (8*(k-1-i))):=by rw[hexp]
   exact qap
  ·exact qcM
theorem putH_fn{k:Nat}{n:Int}(hs:Src prog f A (.slice p l.length c) 1 l.length (bytesV l))(hn:p=none→l=[])(hl:l.length≤10000000000)(hk:k≤2):Fn prog 232 [.slice p l.length c,.int .u16 n,.int .i64 (k:Nat)] f A (BytesR (l++be k n) f A):=by
 refine AP func232 ntmps232 fun base=>?_;apply (gG);refine AG rfl rfl rfl (zce f A hs hn jB) fun p1 c1=>?_;apply (gG);refine AG rfl rfl rfl (growB_fn f A jB jB) fun p2 c2=>?_;apply (gD)
 refine H.loop (ι:=Nat×Option Addr×Nat) (fun i=>[(8,.int .i64 ((k:Int)-1-(i.1:Int))),(7,.slice i.2.1 (l++beTop k n i.1).length i.2.2),(1,.int .u16 n)]) (fun _=>f)
  (fun i=>slc i.2.1 (l++beTop k n i.1).length i.2.2 5 1 (bytesV (l++beTop k n i.1))::A) (fun i=>i.1≤k) (fun i=>k-i.1) (0,p2,c2) (Nat.zero_le _) ?_ rfl ?_ fun i hi=>?_
 ·exact qbj
 ·exact qcy
 ·obtain⟨i,p',c'⟩:=i;have hi:i≤k:=hi;show H _ _ _ [(8,.int .i64 ((k:Int)-1-(i:Int))),(7,.slice p' (l++beTop k n i).length c'),(1,.int .u16 n)] _ (slc p' (l++beTop k n i).length c' _ 1 (bytesV (l++beTop k n i))::A) _
  generalize hacc:l++beTop k n i=acc;have hlen:acc.length=l.length+i:=by rw[←hacc,List.length_append,beTop_len]
  by_cases hlt:i<k
  ·have hexp:min (8*((k:Int)-1-(i:Int))).toNat IntKind.u16.bits=8*(k-1-i):=by simp only[IntKind.bits];omega
   have hsh:n.fdiv (2 ^ (min (8*((k:Int)-1-(i:Int))).toNat IntKind.u16.bits))=n.fdiv (2 ^ (8*(k-1-i))):=by rw[hexp]
   exact qap
  ·exact qcM
theorem zbj{n:Int}(hs:Src prog f A (.slice p l.length c) 1 l.length (bytesV l))(hn:p=none→l=[])(hl:l.length≤10000000000):Fn prog 148 [.slice p l.length c,.int .u64 n] f A (BytesR (l++be 8 n) f A):=by
 refine A9 func148 ntmps148 fun base=>?_;apply (gG);refine AG rfl rfl rfl (put_fn (k:=8) f A hs hn hl jE) fun p1 c1=>?_;exact qbD
theorem half_fn{n:Int}(hs:Src prog f A (.slice p l.length c) 1 l.length (bytesV l))(hn:p=none→l=[])(hl:l.length≤10000000000):Fn prog 160 [.slice p l.length c,.int .u16 n] f A (BytesR (l++be 2 n) f A):=by
 refine A9 func160 ntmps160 fun base=>?_;apply (gG);refine AG rfl rfl rfl (putH_fn (k:=2) f A hs hn hl jE) fun p1 c1=>?_;exact qbD
end
variable {y:Operand} {e:TypeId} {u2:Nat} {x2:Value} {α:Type}
section
variable {P:Program} {base:World} {n:Nat} {L:Env} {f:Frag} {A:List HP} {q:Post}
variable {l rest:List Oper} {d:Nat} {ty:TypeId} {pos:String} {af:Array Edge} {gd:Option (Nat × Bool)}
theorem E1(hm:mk? L=some (.pointer (some ⟨D,0,none⟩)))(hD:Pull A (pts D (.deferred (some []))) A')
  (hr:∀(a:Act) (w:World),Fr n a L→Sat base w f A'→(results fn a.tmps).run P w= .ok v w) (hA:∀w,Sat base w f A'→Sat base w f A'') (h:R v f A''):H P base n L f A (.out .ret (.fn (FnPostM P fn base R))):=.mk fun a w hf s=>by
 show bodyPostM Fence.wide 3 P fn (fun e w'=>∃v f' A',e= .returned v∧R v f' A'∧Sat base w' f' A') .ret a w
 have s1:=s.front hD
 have hg:=s1.got (.here _ _ (pts D (.deferred (some []))))
 have s2:Sat base (w.putObj D (.deferred none)) f A':=(s1.set (w':=w.putObj D (.deferred none)) aP0 rfl rfl rfl rfl).drop (.here _ _)
 exact bodyPostM_mark2 (v:=v) (D:=D) (hr a _ hf s2) (hf.marked hm) hg ⟨_,f,A'',rfl,h,hA _ s2⟩
theorem E9[hu:Und P ty dd](hr:fn.results= #[.cell t ty])(hv:look? L t=some (.pointer (some ⟨b,off,none⟩)))(ha:aggD dd=false)
  (hm:mk? L=some (.pointer (some ⟨D,0,none⟩))) (hD:Pull A (pts D (.deferred (some []))) A') (hrd:Rd1 f A' b off x) (hA:∀w,Sat base w f A'→Sat base w f A'') (h:R x f A''):H P base n L f A (.out .ret (.fn (FnPostM P fn base R))):=
 E1 hm hD (fun a w hf s=>by
  have h1:=hf.get t _ hv
  have h2:a.tmps.getD t undef= .pointer (some ⟨b,off,none⟩):=by simp[Array.getD_eq_getD_getElem?,h1]
  have h3:=zaz (P:=P) hu ha (hrd base w s)
  unfold Instr.loadAt Instr.sureAddr at h3
  exact results_cell hr h2 jY) hA h
theorem Ec{t:TypeId}{len:Nat}{x:Operand}[hu:Und P t (.array m e)](hw:want? l L gd=true)(hx:ev? L x=some (.slice p len c))(hl:m≤len)(hd:Nat.ble (d+1) n=true)
  (k:H P base n ((d,.pointer p)::L) f A (.ops l rest q)):H P base n L f A (.ops l (⟨some d,.sliceToArrayPointer t x,ty,pos,af,gd⟩::rest) q):=
 AK hw hd (fun a w hf _=>by simp[execOp,Instr.arrayAt,hf.eval hx,hu.run,Nat.not_lt.2 hl]) k
theorem run_append_zero_in{t u:TypeId}{k:Nat}{z:Value}{i:TypeInfo}{cur:Array Value}
  (hu:Und P t (.slice e)) (hu2:Und P u (.int .i64)) (hi:P.info? e=some i) (hz:i.zero=some z) (hb:m*i.bytes≤281474976710656) (h63:m≤9223372036854775807) (hsz:z.cells.size=i.size) (h1:∀v∈(Builtin.zeroCells z.cells m).toList,v.oneCell'=true)
  (hroom:k+m≤c) (hp:(p=none∧m=0)∨∃b,p=some ⟨b,0,none⟩∧w.heap[b]?=some (.cells cur e (0,0))∧k*i.size+m*i.size≤cur.size) :
  ∃w',(Builtin.append_ #[t,u] ty #[.slice p k c,.int .i64 (m:Nat)]).run P w= .ok (.slice p (k+m) c) w'∧(p=none→w'=w)∧(∀b,p=some ⟨b,0,none⟩→w'=w∧m*i.size=0∨w'=w.setRow b (cur.toList.take (k*i.size)++(Builtin.zeroCells z.cells m).toList++cur.toList.drop (k*i.size+m*i.size)).toArray):=by
 have hwr:IntKind.i64.wrap (m:Int)=(m:Int):=wr_i64 jB;have hm0:¬((m:Int)<0):=jB
 have hmb':¬(281474976710656<(m:Int)*(i.bytes:Int)):=qdy
 have hzl:(Builtin.zeroCells z.cells m).toList.length=m*i.size:=by rw[Array.length_toList,size_zeroCells,hsz]
 by_cases h0:m*i.size=0
 ·refine⟨w,?_,fun _=>rfl,fun b _=>.inl ⟨rfl,h0⟩⟩;cases p<;>
  simp[Builtin.append_,run_underlying hu.eq,run_underlying hu2.eq,sizeOf,typeInfo,zeroValue,hi,hz,hwr,hm0,hmb',h0,hroom,asInt,asIntOf,storeCells]
 ·rcases hp with⟨rfl,rfl⟩|⟨b,rfl,hg,hfit⟩
  ·simp at h0
  ·have hst:=run_storeCells_at P b (k*i.size) e (Builtin.zeroCells z.cells m).toList 0 cur w hg (by rw[hzl];omega) h1;simp only[Nat.add_zero]at hst
   rw[hzl]at hst;refine⟨w.setRow b (cur.toList.take (k*i.size)++(Builtin.zeroCells z.cells m).toList++cur.toList.drop (k*i.size+m*i.size)).toArray,?_,(fun h=>by cases h),fun b' hb'=>.inr ?_⟩
   ·simp[Builtin.append_,run_underlying hu.eq,run_underlying hu2.eq,sizeOf,typeInfo,zeroValue,hi,hz,hwr,hm0,hmb',h0,hroom,asInt,asIntOf,Addr.add_lit,hst]
   ·cases hb';rfl
theorem zc_bytes(m:Nat):(Builtin.zeroCells #[.int .u8 0] m).toList=bytesV (List.replicate m 0):=by
 apply List.ext_getElem?;intro i;simp only[Builtin.zeroCells,bytesV];by_cases hi:i<m
 ·simp[hi,Nat.mod_one]
 ·simp[hi]
theorem Ed{A':Option Addr→Nat→List HP}{t u:TypeId}{x:Operand}{zi:Int}{bs:List UInt8}
  [hu:Und P t (.slice e)] [hu2:Und P u (.int .i64)] [hs:Siz P e 1] [hb:Byt P e 1] [hz:Zer P e (.int .u8 0)] (hw:want? l L gd=true) (hd:Nat.ble (d+1) n=true) (hx:ev? L x=some (.slice p n0 c)) (hy:ev? L y=some (.int .i64 zi)) (hzi:zi=(m:Nat)) (hl:bs.length=n0)
  (hA:∀p' c',At A (slc p n0 c e 1 (bytesV bs)) (A' p' c') (slc p' (n0+m) c' e 1 (bytesV (bs++List.replicate m 0)))) (hby:n0+m≤1000000000)
  (k:∀p' c',H P base n ((d,.slice p' (n0+m) c')::L) f (A' p' c') (.ops l rest q)) :
  H P base n L f A (.ops l (⟨some d,.call ⟨.builtin .append,#[x,y],#[t,u]⟩,ty,pos,af,gd⟩::rest) q):=
 C0 (ι:=Option Addr×Nat) (fun i=>.slice i.1 (n0+m) i.2) (fun _=>f) (fun i=>A' i.1 i.2) (fun _=>True) hw hd (fun a w hfr s=>by
  subst hzi
  have hcc:((.int .u8 0:Value).cells)= #[.int .u8 0]:=rfl
  have key:∃p' c' w',(Builtin.append_ #[t,u] ty #[.slice p n0 c,.int .i64 (m:Nat)]).run P w= .ok (.slice p' (n0+m) c') w'∧Sat base w' f (A' p' c'):=by
   have hA2:∀p' c',At A (slc p n0 c e 1 (bytesV bs)) (A' p' c') (slc p' (n0+m) c' e 1 (bytesV bs++(Builtin.zeroCells (Value.int .u8 0).cells m).toList)):=by
    intro p' c'
    rw[hcc,zc_bytes,←zak]
    exact hA p' c'
   by_cases hg:c<n0+m
   ·by_cases hm:m=0
    ·subst hm
     obtain⟨_,_,h3⟩:=s.slc_at (hA2 none 0)
     rcases h3 with⟨rfl,rfl⟩|⟨b,sp,_,hnc,_,_⟩
     ·omega
     ·omega
    ·exact run_append_zero (ty:=ty) hu hu2 hs hb hz s hA2 rfl jB hg jB jB
   ·obtain⟨i,hi,h1,h2,hiz⟩:=info_of hs hb hz
    obtain⟨hl1,hc,h3⟩:=s.slc_at (hA2 none 0)
    have hone:∀v∈(Builtin.zeroCells (Value.int .u8 0).cells m).toList,v.oneCell'=true:=by
     intro v hv
     rw[hcc,zc_bytes]at hv
     rw[one_eq]
     exact zao _ v hv
    by_cases h00:n0=0∧c=0
    ·obtain⟨h0,hc0⟩:=h00
     clear h3
     have hm:m=0:=jB
     subst hm
     obtain⟨w',hr,_,_⟩:=run_append_zero_in (P:=P) (w:=w) (ty:=ty) (p:=none) (cur:=#[]) (k:=n0) (c:=c) (m:=0) hu hu2 hi hiz jB jB (by rw[h1];rfl) hone jB (.inl ⟨rfl,rfl⟩)
     refine⟨p,c,w,?_,?_⟩
     ·cases p<;>
      simp[Builtin.append_,run_underlying hu.eq,run_underlying hu2.eq,sizeOf,typeInfo,zeroValue,hi,hiz,show IntKind.i64.wrap (0:Int)=0 from rfl,asInt,asIntOf,storeCells,h0,hc0]
     ·obtain⟨R,e1,e2⟩:=(hA2 p c).split
      refine s.conv ?_
      rw[e1,e2]
      simp[Builtin.zeroCells]
    ·obtain⟨b,sp,hpb,hnc,hcs,hwb⟩:=h3.resolve_left h00
     subst hpb
     obtain⟨w',hr,_,hw'⟩:=run_append_zero_in (P:=P) (w:=w) (ty:=ty) (p:=some ⟨b,0,none⟩) (k:=n0) (c:=c) (m:=m) hu hu2 hi hiz (by rw[h2];omega) jB (by rw[h1];rfl) hone jB (.inr ⟨b,rfl,hwb,by rw[h1];simp only[Nat.mul_one,List.size_toArray];omega⟩)
     have hzl:(Builtin.zeroCells (Value.int .u8 0).cells m).toList.length=m:=by rw[hcc,zc_bytes,zab,List.length_replicate]
     have hbl:(bytesV bs).length=n0:=by rw[zab];exact hl
     refine⟨some ⟨b,0,none⟩,c,w',hr,?_⟩
     have hh:w'=w∧m=0∨w'=w.setRow b (bytesV bs++(Builtin.zeroCells (Value.int .u8 0).cells m).toList++sp.drop m).toArray:=by
      rcases hw' b rfl with⟨h,h'⟩|h
      ·exact .inl ⟨h,by rw[h1]at h';omega⟩
      ·refine .inr (h.trans ?_)
       rw[h1]
       simp only[Nat.mul_one]
       congr 3
       ·rw[List.take_append_of_le_length jB,List.take_of_length_le jB]
       ·rw[List.drop_append,List.drop_eq_nil_of_le jB,List.nil_append];congr 1;omega
     rcases hh with⟨rfl,rfl⟩|rfl
     ·obtain⟨R,e1,e2⟩:=(hA2 (some ⟨b,0,none⟩) c).split
      refine s.conv ?_
      rw[e1,e2]
      simp[Builtin.zeroCells]
     ·refine s.turnRow (hA2 (some ⟨b,0,none⟩) c) (b:=b) (o':=.cells (bytesV bs++(Builtin.zeroCells (Value.int .u8 0).cells m).toList++sp.drop m).toArray e (0,0)) ?_ rfl rfl rfl ?_ ?_
      ·rintro m1 ⟨_,_,h⟩
       rcases h with⟨h,h',_⟩|⟨b',sp',h,_,hcs',rfl⟩
       ·exact absurd ⟨h,h'⟩ h00
       ·cases h;exact⟨_,rfl⟩
      ·exact setRow_is hwb
      ·refine⟨by rw[List.length_append,hbl,hzl];omega,hc,.inr ⟨b,sp.drop m,rfl,by omega,?_,rfl⟩⟩
       simp only[List.length_append,List.length_drop]at hcs⊢
       omega
  obtain⟨p',c',w',hr,s'⟩:=key
  exact⟨(p',c'),w',trivial,zcc jQ,s'⟩) (fun i _=>k i.1 i.2)
theorem Ee{g:Operand}[hfun:Fun P gf](B:Nat→List HP)(N:Nat)(args:Nat→List Value)(M:List HP)
  (hg:ev? L g=some (.func (.func gf) fs.toArray cs.toArray)) (hmk:mk? L=none) (hA:A=B 0++M)
  (hit:∀(lp:Nat) (X:Nat→HP),(∀i,i<N→∀G,YieldFn P lp (args i) f (X i::G) (fun v g C=>v= .bool true∧g=f∧C=X (i+1)::G))→Fn P gf (fs++[.func (.yield lp) #[] #[]]++cs) f (X 0::M) (Ret (.tuple #[]) f (X N::M)))
  (hround:∀i,i<N→∀D lp G,YieldFn P lp (args i) f (loopH n L lp ps assign body D .ready::pts D (.deferred (some []))::(B i++G)) (fun v g C=>v= .bool true∧g=f∧C=loopH n L lp ps assign body D .ready::pts D (.deferred (some []))::(B (i+1)++G)))
  (k:∀D,H P base n ((1000003,.pointer (some ⟨D,0,none⟩))::L) f (pts D (.deferred (some []))::(B N++M)) (.out .normal q)):H P base n L f A (.code (.rangeFunc g ps.toArray assign body) q):=by
 subst hA;refine H.rangeFunc (ι:=Unit) (f':=f) (A':=fun _ D=>pts D (.deferred (some []))::(B N++M)) hg hmk (fun D lp=>?_) fun _ D=>k D;refine Fn.wrap (zbe (loopH n L lp ps assign body D .ready::pts D (.deferred (some []))::B 0) M) (hit lp (fun i=>stars (loopH n L lp ps assign body D .ready::pts D (.deferred (some []))::B i)) fun i hi G=>?_) fun v g C hR=>?_
 ·refine YieldFn.wrap (zbd _ _) (hround i hi D lp G) ?_;rintro v g C ⟨rfl,rfl,rfl⟩;exact⟨_,⟨rfl,rfl,rfl⟩,zbe (loopH n L lp ps assign body D .ready::pts D (.deferred (some []))::B (i+1)) G⟩
 ·obtain⟨rfl,rfl,rfl⟩:=hR;exact⟨_,⟨(),rfl,rfl⟩,zbd (loopH n L lp ps assign body D .ready::pts D (.deferred (some []))::B N) M⟩
theorem Sat.weakI(s:Sat base w g A)(h:Le f g):Sat base w f A:=by
 obtain⟨a,b,c,d,e,m,hm,hd,hw⟩:=s;refine⟨a,b,c,d,fun k o hk=>e k o (h k o hk),m,hm,fun k=>?_,hw⟩;rcases hd k with h1|h1
 ·cases hf:f k with
  |none=>exact .inl rfl
  |some o=>rw[h k o hf]at h1;cases h1
 ·exact .inr h1
theorem H.weakI{g:Frag}{K:Kont}(h:Le f g)(k:H P base n L f A K):H P base n L g A K:=.mk fun a w hf s=>k.out a w hf (s.weakI h)
theorem D3(hr:∀(a:Act) (w:World),Fr n a L→Sat base w f A→(results fn a.tmps).run P w= .ok v w)(hA:∀w,Sat base w f A→Sat base w f A')(h:R v f A')(hmk:mk? L=none:=by exact rfl):H P base n L f A (.out .ret (.fn (FnPost P fn base R))):=.mk fun a w hf s=>by
 show bodyPost P fn (fun e w'=>∃v f' A',e= .returned v∧R v f' A'∧Sat base w' f' A') .ret a w
 exact bodyPost_ret (v:=v) (hr a w hf s) (hf.bare hmk) ⟨_,f,A',rfl,h,hA w s⟩
theorem Fr.getD{a:Act}(hf:Fr n a L)(h:look? L t=some v):a.tmps[t]?.getD undef=v:=by rw[hf.get t v h];rfl
theorem loadVar_of[hu:Und P ty dd][hs:Siz P ty m](ha:aggD dd=true)(hrd:Rd f A b off ls)(hm:ls.length=m)(s:Sat base w f A):(loadVar ty ⟨b,off,none⟩).run P w= .ok (.agg ls.toArray) w:=by
 have h3:=zbs (P:=P) hu ha hs (hrd base w s) hm;exact qdx
theorem FB[hu:Und P ty dd][hs:Siz P ty m](hr:fn.results= #[.cell t ty,.tmp u,.tmp u2])(hv:look? L t=some (.pointer (some ⟨b,off,none⟩)))(hx:look? L u=some x)(hx2:look? L u2=some x2)(ha:aggD dd=true)
  (hrd:Rd f A b off ls) (hm:ls.length=m) (hA:∀w,Sat base w f A→Sat base w f A') (h:R (.tuple #[.agg ls.toArray,x,x2]) f A') (hmk:mk? L=none:=by exact rfl):H P base n L f A (.out .ret (.fn (FnPost P fn base R))):=
 D3 (fun a w hf s=>by
  simp only[results,hr]
  simp[Sem.run_bind,asAddr,hf.getD hv,hf.getD hx,hf.getD hx2,loadVar_of ha hrd hm s]) hA h hmk
theorem Ef[hu:Und P ty dd][hs:Siz P ty m](hr:fn.results= #[.tmp u,.cell t ty,.tmp u2])(hv:look? L t=some (.pointer (some ⟨b,off,none⟩)))(hx:look? L u=some x)(hx2:look? L u2=some x2)(ha:aggD dd=true)
  (hrd:Rd f A b off ls) (hm:ls.length=m) (hA:∀w,Sat base w f A→Sat base w f A') (h:R (.tuple #[x,.agg ls.toArray,x2]) f A') (hmk:mk? L=none:=by exact rfl):H P base n L f A (.out .ret (.fn (FnPost P fn base R))):=
 D3 (fun a w hf s=>by
  simp only[results,hr]
  simp[Sem.run_bind,asAddr,hf.getD hv,hf.getD hx,hf.getD hx2,loadVar_of ha hrd hm s]) hA h hmk
theorem Eg(hr:fn.results= #[.tmp t,.tmp u,.tmp u2])(hv:look? L t=some v)(hx:look? L u=some x)(hx2:look? L u2=some x2)(hA:∀x,stars A x→stars A' x)(h:R (.tuple #[v,x,x2]) f A')(hmk:mk? L=none:=by exact rfl):H P base n L f A (.out .ret (.fn (FnPost P fn base R))):=
 D3 (fun a w hf s=>by
  simp only[results,hr]
  simp[Sem.run_bind,hf.getD hv,hf.getD hx,hf.getD hx2]) (fun _ s=>s.imp hA) h hmk
theorem FC[hu:Und P ty dd][hs:Siz P ty m](hr:fn.results= #[.tmp u,.tmp u2,.cell t ty])(hv:look? L t=some (.pointer (some ⟨b,off,none⟩)))(hx:look? L u=some x)(hx2:look? L u2=some x2)(ha:aggD dd=true)
  (hrd:Rd f A b off ls) (hm:ls.length=m) (hA:∀w,Sat base w f A→Sat base w f A') (h:R (.tuple #[x,x2,.agg ls.toArray]) f A') (hmk:mk? L=none:=by exact rfl):H P base n L f A (.out .ret (.fn (FnPost P fn base R))):=
 D3 (fun a w hf s=>by
  simp only[results,hr]
  simp[Sem.run_bind,asAddr,hf.getD hv,hf.getD hx,hf.getD hx2,loadVar_of ha hrd hm s]) hA h hmk
theorem Ep{t:TypeId}{i:Nat}{x:Operand}{ik:IntKind}{z:Int}{de:TypeDesc}[hu:Und P t (.array m e)][he:Und P e de][hs:Siz P e sz](hw:want? l L gd=true)
  (hx:ev? L x=some (.agg xs.toArray)) (hy:ev? L y=some (.int ik z)) (hq:z=(i:Nat)) (hi:i<m) (ha:aggD de=true) (hv:(xs.drop (i*sz)).take sz=ls) (hd:Nat.ble (d+1) n=true)
  (k:H P base n ((d,.agg ls.toArray)::L) f A (.ops l rest q)):H P base n L f A (.ops l (⟨some d,.index t x y,ty,pos,af,gd⟩::rest) q):=
 AK hw hd (fun a w hf _=>by
  subst hq;subst hv
  have h1:=hu.run w
  have h2:=hs.run w
  have h3:=run_isAgg he w
  have hi2:(0:Int)≤(i:Int)∧(i:Int)<(m:Int):=⟨by omega,by omega⟩
  simp only[execOp,hf.eval hx,hf.eval hy,Instr.index,asIntOf,Sem.run_bind,Sem.run_pure,Result.andThen_ok,h1,hi2,if_true,h2,part,h3,ha,and_self]
  simp[h2,List.extract_eq_take_drop]) k
theorem flat_win{vals:α→List Value}(hv:∀x,(vals x).length=sz){xs:List α}{i:Nat}{x:α}(h:xs[i]?=some x):((xs.flatMap vals).drop (i*sz)).take sz=vals x:=by
 rw[flat_drop hv xs (Nat.le_of_lt (List.getElem?_eq_some_iff.1 h).1)];have e:xs.drop i=x::xs.drop (i+1):=by rw[List.drop_eq_getElem_cons (List.getElem?_eq_some_iff.1 h).1,(List.getElem?_eq_some_iff.1 h).2]
 rw[e,List.flatMap_cons,List.take_append_of_le_length (by rw[hv];exact Nat.le_refl _),List.take_of_length_le (by rw[hv];exact Nat.le_refl _)]
end
def BytesR2(l:List UInt8)(e:Int)(f:Frag)(A:List HP):Value→Frag→List HP→Prop:=fun v f' A'=>∃p c,v= .tuple #[.slice p l.length c,.int .i64 e]∧f'=f∧A'=slc p l.length c 5 1 (bytesV l)::A
def textB(s:ByteArray):List UInt8:=be 2 (s.size:Nat)++s.data.toList
section
variable (f:Frag) (A:List HP)
theorem data_len(s:ByteArray):s.data.toList.length=s.size:=by rw[Array.length_toList];rfl
theorem text_fn{s:ByteArray}(hs:Src prog f A (.slice p l.length c) 1 l.length (bytesV l))(hn:p=none→l=[])(hl:l.length≤10000000000)(hz:s.size<65536):Fn prog 276 [.slice p l.length c,.string s] f A (BytesR2 (l++textB s) 0 f A):=by
 refine A9 func276 ntmps276 fun base=>?_;apply (gP);refine AG rfl rfl rfl (half_fn f A hs hn hl) fun p1 c1=>?_;apply (gG);have h1:(l++be 2 (s.size:Nat)).length=l.length+2:=by rw[List.length_append,be_len]
 refine AQ rfl rfl rfl rfl rfl (fun p' c'=>.here _ _ _) Src.string (zao _) rfl jB jB fun p2 c2=>?_;apply (gK)
 have h2:(l++textB s).length=(l++be 2 (s.size:Nat)).length+s.size:=by
  unfold textB;rw[←List.append_assoc,List.length_append,data_len]
 have h3:bytesV (l++textB s)=bytesV (l++be 2 (s.size:Nat))++bytesV s.data.toList:=by
  unfold textB;rw[←List.append_assoc,zak]
 refine BN rfl rfl rfl iD ⟨p2,c2,?_,rfl,?_⟩
 ·rw[h2]
 ·rw[h2,h3]
end
def BAt(f:Frag)(p:Option Addr)(l:List UInt8):Prop:=
 l=[]∨∃b off cs T fr,p=some ⟨b,off,none⟩∧f b=some (.cells cs T fr)∧∀i,i<l.length→cs[off+i]?=(bytesV l)[i]?
theorem BAt.take(h:BAt f p l)(n:Nat):BAt f p (l.take n):=by
 rcases h with rfl|⟨b,off,cs,T,fr,h1,h2,h3⟩
 ·exact .inl jI
 ·refine .inr ⟨b,off,cs,T,fr,h1,h2,fun i hi=>?_⟩;rw[List.length_take]at hi;rw[h3 i jB];simp only[bytesV,List.map_take];rw[List.getElem?_take,if_pos jB]
theorem BAt.drop(h:BAt f p l)(hn:n≤l.length)(hc:l.length≤c):BAt f (slP p n c 1) (l.drop n):=by
 unfold slP;split
 ·rename_i e
  subst e;exact .inl (List.drop_eq_nil_of_le hc)
 ·rcases h with rfl|⟨b,off,cs,T,fr,rfl,h2,h3⟩
  ·exact .inl jI
  ·refine .inr ⟨b,off+n,cs,T,fr,?_,h2,fun i hi=>?_⟩
   ·rw[Option.map_some,zas,Nat.mul_one]
   ·rw[List.length_drop]at hi;rw[Nat.add_assoc,h3 (n+i) jB];simp only[bytesV,List.map_drop];rw[List.getElem?_drop]
theorem BAt.src(h:BAt f p l):Src P f A (.slice p l.length c) 1 l.length (bytesV l):=by
 rcases h with rfl|⟨b,off,cs,T,fr,rfl,h2,h3⟩
 ·refine⟨fun w=>rfl,fun base w s=>?_,rfl⟩
  cases p with
  |none=>exact run_firstCells_none w 1 0 0 c
  |some a=>exact run_firstCells_some w 1 0 a 0 c [] jI jI
 ·exact Src.slice (Rd.imm h2 (fun i hi=>h3 i (by rwa [zab]at hi))) jO
def cutL(cb:Nat)(p:Option Addr)(c:Nat)(l:List UInt8)(sp:Bool):HP:=row cb 273 [.slice p l.length c,.bool sp]
def cutH(f:Frag)(cb:Nat)(l:List UInt8)(sp:Bool):HP:=fun h=>∃i:Option Addr×Nat,stars [fact (BAt f i.1 l∧l.length≤i.2),cutL cb i.1 i.2 l sp] h
variable {cb:Nat} {sp:Bool} {F:List HP}
theorem zax(hb:BAt f p l)(hc:l.length≤c):∀x,stars (cutL cb p c l sp::F) x→stars (cutH f cb l sp::F) x:=by
 intro x hx;obtain⟨m1,m2,d,e,a,r⟩:=hx;refine⟨m1,m2,d,e,⟨(p,c),?_⟩,r⟩;exact⟨nil0,m1,(Dj.nil m1).symm,(nil_un m1).symm,⟨⟨hb,hc⟩,rfl⟩,m1,nil0,Dj.nil m1,(un_nil m1).symm,a,rfl⟩
theorem cutH_open
  (k:∀p c,BAt f p l→l.length≤c→Fn prog fid args f (row cb 273 [.slice p l.length c,.bool sp]::F) R):Fn prog fid args f (cutH f cb l sp::F) R:=fun base w s=>by
 obtain⟨m,hm,hd,hw⟩:=s.mem
 obtain⟨m1,m2,d,rfl,⟨⟨p,c⟩,hh⟩,r⟩:=hm
 obtain⟨n1,n2,dd,rfl,⟨⟨hb,hc⟩,rfl⟩,n3,n4,d3,rfl,h4,h5⟩:=hh
 refine k p c hb hc base w ⟨s.os,s.tape,s.output,s.size,s.imm,_,?_,hd,hw⟩
 have e5:n4=nil0:=h5
 subst e5
 rw[nil_un,un_nil]
 rw[nil_un,un_nil]at d
 exact⟨n3,m2,d,rfl,h4,r⟩
def RetP{α:Type}(φ:α→Prop)(v:α→Value)(f:Frag)(A:α→List HP):Value→Frag→List HP→Prop:=fun u f' A'=>∃i,φ i∧u=v i∧f'=f∧A'=A i
variable {vs:List Value} {ats:Array TypeId}
section
variable {P:Program} {base:World} {n:Nat} {L:Env} {f f':Frag} {A:List HP} {q:Post}
variable {l rest:List Oper} {d:Nat} {ty:TypeId} {pos:String} {af:Array Edge} {gd:Option (Nat × Bool)}
theorem DG{φ:α→Prop}{xs:List Operand}{v:α→Value}{Ai:α→List HP}[hfun:Fun P fid](hw:want? l L gd=true)(hd:Nat.ble (d+1) n=true)
  (hx:evs? L xs=some vs) (hc:Fn P fid vs f A (RetP φ v f' Ai)) (k:∀i,φ i→H P base n ((d,v i)::L) f' (Ai i) (.ops l rest q)) :
  H P base n L f A (.ops l (⟨some d,.call ⟨.value (.func fid),xs.toArray,ats⟩,ty,pos,af,gd⟩::rest) q):=
 AV hw hd hx hc fun _ _ _ h=>by obtain⟨i,hp,rfl,rfl,rfl⟩:=h;exact k i hp
theorem FD{φ:α→Prop}{x:Operand}{xs:List Operand}{v:α→Value}{Ai:α→List HP}(hx:ev? L x=some (.func (.func fid) fs.toArray cs.toArray))[hfun:Fun P fid](hw:want? l L gd=true)(hd:Nat.ble (d+1) n=true)
  (hxs:evs? L xs=some vs) (hc:Fn P fid (fs++vs++cs) f A (RetP φ v f' Ai)) (k:∀i,φ i→H P base n ((d,v i)::L) f' (Ai i) (.ops l rest q)) :
  H P base n L f A (.ops l (⟨some d,.call ⟨.value x,xs.toArray,ats⟩,ty,pos,af,gd⟩::rest) q):=
 BQ hx hw hd hxs hc fun _ _ _ h=>by obtain⟨i,hp,rfl,rfl,rfl⟩:=h;exact k i hp
end
section
variable (f:Frag) (F:List HP) (cb:Nat)
theorem take_no{n:Int}(h:sp=true∨n<0∨(l.length:Int)<n):Fn prog 144 [.pointer (some ⟨cb,0,none⟩),.int .i64 n] f (cutH f cb l sp::F) (Ret (.slice none 0 0) f (cutH f cb l true::F)):=by
 refine cutH_open fun p c hb hc=>?_;have fin:∀x,stars (row cb 273 [.slice p l.length c,.bool true]::F) x→stars (cutH f cb l true::F) x:=zax hb hc
 cases sp with
 | true =>
  exact qcn
 | false =>
  by_cases h0:n<0
  ·exact qcn
  ·have h1:(l.length:Int)<n:=by simp at h;omega
   refine A9 func144 ntmps144 fun base=>?_;apply (gS);rw[decide_eq_true h1];exact AE rfl rfl fin ⟨rfl,rfl,rfl⟩
theorem take_yes(hn:n≤l.length)(hl:l.length≤1000000000000):Fn prog 144 [.pointer (some ⟨cb,0,none⟩),.int .i64 (n:Nat)] f (cutH f cb l false::F)
   (RetP (fun i:Option Addr×Nat=>BAt f i.1 (l.take n)) (fun i=>.slice i.1 n i.2) f (fun _=>cutH f cb (l.drop n) false::F)):=by
 refine cutH_open fun p c hb hc=>?_
 have fin:∀x,stars (row cb 273 [.slice (slP p n c 1) (l.length-n) (c-n),.bool false]::F) x→stars (cutH f cb (l.drop n) false::F) x:=by
  have:=zax (cb:=cb) (sp:=false) (F:=F) (hb.drop hn hc) (c:=c-n) kI;rw[show cutL cb (slP p n c 1) (c-n) (l.drop n) false=row cb 273 [.slice (slP p n c 1) (l.length-n) (c-n),.bool false] by unfold cutL;rw[List.length_drop]]at this
  exact this
 refine A9 func144 ntmps144 fun base=>?_;apply (gS);rw[decide_eq_false (show¬((l.length:Int)<(n:Int)) by omega)];refine CV rfl rfl rfl rfl jB rfl ?_;apply (gO);refine H.slice (lv:=n) (hv:=l.length) (mv:=c) rfl rfl ⟨_,_,rfl,rfl⟩ rfl rfl (fun h=>by cases h) hn hc (Nat.le_refl _) rfl ?_;apply (gS);exact AE rfl rfl fin ⟨(p,c),hb.take n,rfl,rfl,rfl⟩
end
def numB(l:List UInt8):Nat:=l.foldl (fun n b=>n*256+b.toNat) 0
theorem numB_snoc(l:List UInt8)(b:UInt8):numB (l++[b])=numB l*256+b.toNat:=by simp[numB]
theorem numB_acc:∀(l:List UInt8) (a k:Nat),a<256 ^ k→l.foldl (fun n b=>n*256+b.toNat) a<256 ^ (k+l.length)
 | [],a,k,h=>h
 | b :: l, a, k, h => by
  have hb:=b.toNat_lt
  have:=numB_acc l (a*256+b.toNat) (k+1) (by rw[Nat.pow_succ];omega)
  rw[List.length_cons,show k+(l.length+1)=k+1+l.length by omega]
  exact this
theorem numB_lt(l:List UInt8):numB l<256 ^ l.length:=by
 have:=numB_acc l 0 0 jE;rwa [Nat.zero_add]at this
theorem or_byte{b:UInt8}(hn:n<72057594037927936):bitsI .or .u64 (IntKind.u64.wrap ((n:Int)*2 ^ 8)) ((b.toNat:Nat):Int)=some ((n*256+b.toNat:Nat):Int):=by
 have hb:=b.toNat_lt
 have h1:IntKind.u64.wrap ((n:Int)*2 ^ 8)=((n*256:Nat):Int):=by
  rw[wr_u64 jB];omega
 rw[h1];simp only[bitsI,Option.some.injEq]
 have e1:(BitVec.ofInt IntKind.u64.bits ((n*256:Nat):Int) ||| BitVec.ofInt IntKind.u64.bits ((b.toNat:Nat):Int)).toNat=n*256+b.toNat:=by
  rw[BitVec.toNat_or];simp only[BitVec.ofInt_natCast,BitVec.toNat_ofNat,IntKind.bits];rw[Nat.mod_eq_of_lt jB,Nat.mod_eq_of_lt jB]
  have:=Nat.shiftLeft_add_eq_or_of_lt (i:=8) (b:=b.toNat) (by simpa using hb) n;rw[Nat.shiftLeft_eq,show n*2 ^ 8=n*256 from rfl]at this
  omega
 rw[e1,wr_u64 jB]
section
variable (f:Frag) (F:List HP) (cb:Nat)
abbrev takeV(cb:Nat):Value:=.func (.func 144) #[.pointer (some ⟨cb,0,none⟩)] #[]
theorem sum_no{n:Int}(h:sp=true∨n<0∨(l.length:Int)<n):Fn prog 145 [takeV cb,.int .i64 n] f (cutH f cb l sp::F) (Ret (.int .u64 0) f (cutH f cb l true::F)):=by
 refine A9 func145 ntmps145 fun base=>?_;apply (gG);refine BM (fs:=[_]) (cs:=[]) rfl rfl rfl rfl (take_no f F cb h) ?_;apply (gK);refine AF (ι:=Unit) (fun _=>[(4,.int .u64 0),(9,.slice none 0 0),(10,.int .i64 ((0:Nat):Int)),(11,.int .i64 0)]) (fun _=>f) (fun _=>cutH f cb l true::F) (fun _=>True) (fun _=>0) () trivial fun _ _=>?_;apply (gE);exact qad
theorem sum_yes{k:Nat}(hn:k≤l.length)(hk:k≤8)(hl:l.length≤1000000000000):Fn prog 145 [takeV cb,.int .i64 (k:Nat)] f (cutH f cb l false::F) (Ret (.int .u64 (numB (l.take k):Nat)) f (cutH f cb (l.drop k) false::F)):=by
 refine A9 func145 ntmps145 fun base=>?_;apply (gG);refine FD (fs:=[_]) (cs:=[]) rfl rfl rfl rfl (take_yes f F cb hn hl) fun i hb=>?_;obtain⟨p,c⟩:=i;have hb:BAt f p (l.take k):=hb;apply (gK)
 have hlen:(l.take k).length=k:=by rw[List.length_take];omega
 refine AF (ι:=Nat) (fun i=>[(4,.int .u64 (numB ((l.take k).take i):Nat)),(9,.slice p k c),(10,.int .i64 ((k:Nat):Int)),(11,.int .i64 (i:Int))]) (fun _=>f) (fun _=>cutH f cb (l.drop k) false::F) (fun i=>i≤k) (fun i=>k-i) 0 (Nat.zero_le _) fun i hi=>?_;have hi:i≤k:=hi;apply (gJ)
 by_cases hlt:i<k
 ·obtain⟨x,hx⟩:∃x,(l.take k)[i]?=some x:=⟨(l.take k)[i]' jB,List.getElem?_eq_getElem jB⟩;have hsrc:(l.take k).take (i+1)=(l.take k).take i++[x]:=by rw[List.take_add_one,hx];rfl
  have hm:numB ((l.take k).take i)<72057594037927936:=by
   have h1:=numB_lt ((l.take k).take i);have h2:((l.take k).take i).length=i:=by rw[List.length_take];omega
   rw[h2]at h1;have h3:256 ^ i≤256 ^ 7:=Nat.pow_le_pow_right jE jB;have h4:(256:Nat) ^ 7=72057594037927936:=jE
   omega
  rcases hb with hnil|⟨b,off,cs,T,fr,rfl,h2,h3⟩
  ·rw[hnil]at hlen;simp at hlen;omega
  have rd:∀A,Rd f A b off (bytesV (l.take k)):=fun A=>Rd.imm h2 (fun j hj=>h3 j (by rwa [zab]at hj));have hv:(bytesV (l.take k))[i]?=some (.int .u8 (x.toNat:Nat)):=by unfold bytesV;rw[List.getElem?_map,hx];rfl
  apply (gN);refine CD rfl rfl rfl rfl hlt rfl ?_;refine AL rfl rfl rfl (.of (rd _) hv) rfl ?_;apply (gG);have hxl:=x.toNat_lt;refine H.shift rfl rfl rfl rfl jE rfl rfl ?_
  apply (gD);refine H.bits rfl rfl rfl (or_byte hm) rfl rfl ?_;apply (gD);refine AX (i+1) kM jr ⟨?_,rfl,rfl,rfl,trivial⟩ rfl rfl;show some _=some (Value.int .u64 (numB ((l.take k).take (i+1)):Nat));rw[hsrc,numB_snoc]
 ·have:i=k:=jB
  subst this;rw[List.take_of_length_le jB];apply (gN);exact qad
theorem cutWord_no(h:sp=true∨l.length<8):Fn prog 95 [.pointer (some ⟨cb,0,none⟩)] f (cutH f cb l sp::F) (Ret (.int .u64 0) f (cutH f cb l true::F)):=by
 refine AB func95 ntmps95 fun base=>?_;apply (gO);refine A8 rfl rfl rfl (sum_no f F cb (n:=8) (h.elim .inl fun h=>.inr (.inr jB))) ?_;apply (gK);exact qad
theorem cutWord_yes(h:8≤l.length)(hl:l.length≤1000000000000):Fn prog 95 [.pointer (some ⟨cb,0,none⟩)] f (cutH f cb l false::F) (Ret (.int .u64 (numB (l.take 8):Nat)) f (cutH f cb (l.drop 8) false::F)):=by
 have hb:=numB_lt (l.take 8);rw[show(l.take 8).length=8 by rw[List.length_take];omega]at hb
 have e:(256:Nat) ^ 8=18446744073709551616:=jE
 rw[e]at hb;clear e;refine AB func95 ntmps95 fun base=>?_;apply (gO);refine A8 rfl rfl rfl (sum_yes f F cb (k:=8) h jE hl) ?_;apply (gK);exact qad
theorem cutHalf_no(h:sp=true∨l.length<2):Fn prog 205 [.pointer (some ⟨cb,0,none⟩)] f (cutH f cb l sp::F) (Ret (.int .u16 0) f (cutH f cb l true::F)):=by
 refine AB func205 ntmps205 fun base=>?_;apply (gO);refine A8 rfl rfl rfl (sum_no f F cb (n:=2) (h.elim .inl fun h=>.inr (.inr jB))) ?_;apply (gD);exact qad
theorem cutHalf_yes(h:2≤l.length)(hl:l.length≤1000000000000):Fn prog 205 [.pointer (some ⟨cb,0,none⟩)] f (cutH f cb l false::F) (Ret (.int .u16 (numB (l.take 2):Nat)) f (cutH f cb (l.drop 2) false::F)):=by
 have hb:=numB_lt (l.take 2);rw[show(l.take 2).length=2 by rw[List.length_take];omega]at hb
 have e:(256:Nat) ^ 2=65536:=jE
 rw[e]at hb;clear e;refine AB func205 ntmps205 fun base=>?_;apply (gO);refine A8 rfl rfl rfl (sum_yes f F cb (k:=2) h jE hl) ?_;apply (gD);exact qad
theorem cutByte_no(h:sp=true∨l.length<1):Fn prog 155 [.pointer (some ⟨cb,0,none⟩)] f (cutH f cb l sp::F) (Ret (.int .u8 0) f (cutH f cb l true::F)):=by
 refine AB func155 ntmps155 fun base=>?_;apply (gO);refine A8 rfl rfl rfl (sum_no f F cb (n:=1) (h.elim .inl fun h=>.inr (.inr jB))) ?_;apply (gD);exact qad
theorem cutByte_yes(h:1≤l.length)(hl:l.length≤1000000000000):Fn prog 155 [.pointer (some ⟨cb,0,none⟩)] f (cutH f cb l false::F) (Ret (.int .u8 (numB (l.take 1):Nat)) f (cutH f cb (l.drop 1) false::F)):=by
 have hb:=numB_lt (l.take 1);rw[show(l.take 1).length=1 by rw[List.length_take];omega]at hb
 have e:(256:Nat) ^ 1=256:=jE
 rw[e]at hb;clear e;refine AB func155 ntmps155 fun base=>?_;apply (gO);refine A8 rfl rfl rfl (sum_yes f F cb (k:=1) h jE hl) ?_;apply (gD);exact qad
end
section
variable (f:Frag) (F:List HP) (cb:Nat)
theorem cutLeft_fn:Fn prog 98 [.pointer (some ⟨cb,0,none⟩)] f (cutH f cb l sp::F) (Ret (.bool (!sp)) f (cutH f cb l sp::F)):=by
 refine cutH_open fun p c hb hc=>?_;refine AB func98 ntmps98 fun base=>?_;apply (gS);exact AE rfl rfl (zax hb hc) ⟨rfl,rfl,rfl⟩
theorem raw_no{n:Int}(h:sp=true∨n<0∨(l.length:Int)<n):Fn prog 96 [.pointer (some ⟨cb,0,none⟩),.int .i64 n] f (cutH f cb l sp::F) (BytesR [] f (cutH f cb l true::F)):=by
 refine A9 func96 ntmps96 fun base=>?_;apply (gG);refine A8 rfl rfl rfl (take_no f F cb h) ?_;refine AG rfl rfl rfl (zce (l:=[]) f _ Src.nil (fun _=>rfl) jE) fun p c=>?_;apply (gK);exact qbf
theorem raw_yes(hn:n≤l.length)(hl:l.length≤10000000000):Fn prog 96 [.pointer (some ⟨cb,0,none⟩),.int .i64 (n:Nat)] f (cutH f cb l false::F) (BytesR (l.take n) f (cutH f cb (l.drop n) false::F)):=by
 have hlen:(l.take n).length=n:=by rw[List.length_take];omega
 refine A9 func96 ntmps96 fun base=>?_;apply (gG);refine DG rfl rfl rfl (take_yes f F cb hn jB) fun i hb=>?_;obtain⟨p,c⟩:=i;have hb:BAt f p (l.take n):=hb;skip
 have hs:Src prog f (cutH f cb (l.drop n) false::F) (.slice p (l.take n).length c) 1 (l.take n).length (bytesV (l.take n)):=hb.src;have hc:=zce f _ hs (fun hp=>by rcases hb with h|⟨b,off,cs,T,fr,h,_⟩;exact h;rw[hp]at h;cases h) jB
 rw[hlen]at hc;refine AG rfl rfl rfl hc fun p1 c1=>?_;exact qbD
theorem slc_bat(h:slc p l.length c T 1 (bytesV l) g)(hd:Dj f g):BAt (un f g) p l:=by
 obtain⟨_,_,h3⟩:=h;rcases h3 with⟨h0,_,_⟩|⟨b,sp,rfl,h4,h5,rfl⟩
 ·exact .inl (List.eq_nil_of_length_eq_zero h0)
 ·refine .inr ⟨b,0,(bytesV l++sp).toArray,T,(0,0),rfl,?_,fun i hi=>?_⟩
  ·show(f b).or (sing b _ b)=_
   have:f b=none:=by
    rcases hd b with h|h
    ·exact h
    ·simp[sing]at h
   rw[this];simp[sing]
  ·rw[Nat.zero_add];simp only[List.getElem?_toArray];rw[List.getElem?_append_left (by rw[zab];exact hi)]
theorem octNew_fn{p0:Option Addr}{c0:Nat}(hs:Src prog f F (.slice p0 l.length c0) 1 l.length (bytesV l))(hn:p0=none→l=[])(hl:l.length≤100000000000):Fn prog 94 [.slice p0 l.length c0] f F (fun v f' A'=>∃g cb p c,v= .pointer (some ⟨cb,0,none⟩)∧slc p l.length c 5 1 (bytesV l) g∧Dj f g∧f'=un f g∧A'=cutH (un f g) cb l false::F):=by
 refine AB func94 ntmps94 fun base=>?_;apply (gG);refine AG rfl rfl rfl (zce f F hs hn hl) fun p c=>?_;refine (qjT) fun hc _ _=>?_;refine H.freeze (.here _ _) fun g hg hd=>?_;apply (gJ);refine H.box (ls:=[.slice p l.length c,.bool false]) rfl rfl rfl rfl fun cb=>?_;apply (gK);exact AE rfl rfl (zax (slc_bat f hg hd) hc) ⟨g,cb,p,c,rfl,hg,hd,rfl,rfl⟩
end
structure Cs where
 l:List UInt8
 bad:Bool
def Cs.ok(s:Cs)(n:Nat):Bool:=!s.bad&&Nat.ble n s.l.length
def Cs.num(s:Cs)(n:Nat):Nat:=if s.ok n then numB (s.l.take n)else 0
def Cs.skip(s:Cs)(n:Nat):Cs:=if s.ok n then⟨s.l.drop n,false⟩else⟨s.l,true⟩
def Cs.raw(s:Cs)(n:Nat):List UInt8:=if s.ok n then s.l.take n else []
def Cs.tok(s:Cs)(most:Nat):Bool:=s.ok 2&&Nat.ble (s.num 2) most&&Nat.ble (2+s.num 2) s.l.length
def Cs.text(s:Cs)(most:Nat):List UInt8:=if s.tok most then(s.l.drop 2).take (s.num 2)else []
def Cs.textS(s:Cs)(most:Nat):Cs:=if s.tok most then⟨s.l.drop (2+s.num 2),false⟩else⟨s.l,true⟩
theorem Cs.ok_iff(s:Cs)(n:Nat):s.ok n=true↔s.bad=false∧n≤s.l.length:=by
 simp[Cs.ok]
theorem Cs.skip_len(s:Cs)(n:Nat):(s.skip n).l.length≤s.l.length:=by
 unfold Cs.skip;split
 ·simp
 ·exact Nat.le_refl _
theorem Cs.textS_len(s:Cs)(n:Nat):(s.textS n).l.length≤s.l.length:=by
 unfold Cs.textS;split
 ·simp
 ·exact Nat.le_refl _
theorem Cs.num_lt(s:Cs)(n:Nat):s.num n<256 ^ n:=by
 unfold Cs.num;split
 ·rename_i h
  have h1:=numB_lt (s.l.take n);have h2:=((Cs.ok_iff s n).1 h).2
  rw[List.length_take,Nat.min_eq_left h2]at h1;exact h1
 ·exact Nat.pow_pos jE
theorem Cs.num1_lt(s:Cs):s.num 1<256:=s.num_lt 1
theorem Cs.num2_lt(s:Cs):s.num 2<65536:=s.num_lt 2
def cutC(f:Frag)(cb:Nat)(s:Cs):HP:=cutH f cb s.l s.bad
section
variable (f:Frag) (F:List HP) (cb:Nat) (s:Cs)
theorem Cs.no(h:¬s.ok n=true):s.bad=true∨s.l.length<n:=by
 rw[Cs.ok_iff]at h
 cases hb:s.bad with
 |true=>exact .inl rfl
 |false=>refine .inr ?_;simp[hb]at h;omega
theorem word_cs(hl:s.l.length≤1000000000000):Fn prog 95 [.pointer (some ⟨cb,0,none⟩)] f (cutC f cb s::F) (Ret (.int .u64 (s.num 8:Nat)) f (cutC f cb (s.skip 8)::F)):=by
 unfold Cs.num Cs.skip cutC;by_cases h:s.ok 8=true
 ·rw[if_pos h,if_pos h];obtain⟨h1,h2⟩:=(Cs.ok_iff _ _).1 h;rw[h1];exact cutWord_yes f F cb h2 hl
 ·rw[if_neg h,if_neg h];exact cutWord_no f F cb (s.no h)
theorem half_cs(hl:s.l.length≤1000000000000):Fn prog 205 [.pointer (some ⟨cb,0,none⟩)] f (cutC f cb s::F) (Ret (.int .u16 (s.num 2:Nat)) f (cutC f cb (s.skip 2)::F)):=by
 unfold Cs.num Cs.skip cutC;by_cases h:s.ok 2=true
 ·rw[if_pos h,if_pos h];obtain⟨h1,h2⟩:=(Cs.ok_iff _ _).1 h;rw[h1];exact cutHalf_yes f F cb h2 hl
 ·rw[if_neg h,if_neg h];exact cutHalf_no f F cb (s.no h)
theorem byte_cs(hl:s.l.length≤1000000000000):Fn prog 155 [.pointer (some ⟨cb,0,none⟩)] f (cutC f cb s::F) (Ret (.int .u8 (s.num 1:Nat)) f (cutC f cb (s.skip 1)::F)):=by
 unfold Cs.num Cs.skip cutC;by_cases h:s.ok 1=true
 ·rw[if_pos h,if_pos h];obtain⟨h1,h2⟩:=(Cs.ok_iff _ _).1 h;rw[h1];exact cutByte_yes f F cb h2 hl
 ·rw[if_neg h,if_neg h];exact cutByte_no f F cb (s.no h)
theorem raw_cs(n:Nat)(hl:s.l.length≤10000000000):Fn prog 96 [.pointer (some ⟨cb,0,none⟩),.int .i64 (n:Nat)] f (cutC f cb s::F) (BytesR (s.raw n) f (cutC f cb (s.skip n)::F)):=by
 unfold Cs.raw Cs.skip cutC;by_cases h:s.ok n=true
 ·rw[if_pos h,if_pos h];obtain⟨h1,h2⟩:=(Cs.ok_iff _ _).1 h;rw[h1];exact raw_yes f F cb h2 hl
 ·rw[if_neg h,if_neg h];exact raw_no f F cb ((s.no h).elim .inl fun h=>.inr (.inr jB))
theorem ok_cs:Fn prog 98 [.pointer (some ⟨cb,0,none⟩)] f (cutC f cb s::F) (Ret (.bool (!s.bad)) f (cutC f cb s::F)):=cutLeft_fn f F cb
end
def w32(x:UInt32):Value:=.int .u32 (x.toNat:Nat)
theorem u32_wrap(z:Int):IntKind.u32.wrap z=z % 4294967296:=by simp[IntKind.wrap,IntKind.signed,IntKind.bits]
theorem u32_bv(x:UInt32):BitVec.ofInt 32 (x.toNat:Int)=x.toBitVec:=by
 simp[BitVec.ofInt_natCast]
theorem u32_wrapN(x:UInt32):IntKind.u32.wrap ((x.toNat:Nat):Int)=(x.toNat:Int):=by
 rw[u32_wrap];have:=x.toNat_lt;omega
theorem u32_xor(x y:UInt32):bitsI .xor .u32 (x.toNat:Int) (y.toNat:Int)=some (((x ^^^ y).toNat:Nat):Int):=by
 have e:(BitVec.ofInt 32 (x.toNat:Int) ^^^ BitVec.ofInt 32 (y.toNat:Int)).toNat=(x ^^^ y).toNat:=by rw[u32_bv,u32_bv];rfl
 show some (IntKind.u32.wrap ((BitVec.ofInt 32 (x.toNat:Int) ^^^ BitVec.ofInt 32 (y.toNat:Int)).toNat:Int))=_;rw[e,u32_wrapN]
theorem u32_and(x y:UInt32):bitsI .and .u32 (x.toNat:Int) (y.toNat:Int)=some (((x &&& y).toNat:Nat):Int):=by
 have e:(BitVec.ofInt 32 (x.toNat:Int) &&& BitVec.ofInt 32 (y.toNat:Int)).toNat=(x &&& y).toNat:=by rw[u32_bv,u32_bv];rfl
 show some (IntKind.u32.wrap ((BitVec.ofInt 32 (x.toNat:Int) &&& BitVec.ofInt 32 (y.toNat:Int)).toNat:Int))=_;rw[e,u32_wrapN]
theorem u32_or(x y:UInt32):bitsI .or .u32 (x.toNat:Int) (y.toNat:Int)=some (((x ||| y).toNat:Nat):Int):=by
 have e:(BitVec.ofInt 32 (x.toNat:Int) ||| BitVec.ofInt 32 (y.toNat:Int)).toNat=(x ||| y).toNat:=by rw[u32_bv,u32_bv];rfl
 show some (IntKind.u32.wrap ((BitVec.ofInt 32 (x.toNat:Int) ||| BitVec.ofInt 32 (y.toNat:Int)).toNat:Int))=_;rw[e,u32_wrapN]
theorem u32_not(x:UInt32):bitsI .xor .u32 (if IntKind.u32.signed then-1 else IntKind.u32.max) (x.toNat:Int)=some (((~~~ x).toNat:Nat):Int):=by
 have h:(if IntKind.u32.signed then-1 else IntKind.u32.max)=(((0xffffffff:UInt32).toNat:Nat):Int):=jE
 rw[h,u32_xor];congr 3
theorem u32_shr(x:UInt32)(n:Nat)(hn:n<32):shiftI .shr .u32 (x.toNat:Int) (n:Int)=some (((x >>> (UInt32.ofNat n)).toNat:Nat):Int):=by
 simp only[shiftI,Option.some.injEq,IntKind.bits];rw[UInt32.toNat_shiftRight]
 have h1:(UInt32.ofNat n).toNat % 32=n:=by
  rw[UInt32.toNat_ofNat'];omega
 rw[h1,Nat.shiftRight_eq_div_pow];have h2:min ((n:Int).toNat) 32=n:=jB
 rw[h2];rw[show((2:Int) ^ n)=((2 ^ n:Nat):Int) by simp];rw[Int.fdiv_eq_ediv_of_nonneg _ (Int.natCast_nonneg _)];exact(Int.natCast_ediv _ _).symm
theorem u32_shl(x:UInt32)(n:Nat)(hn:n<32):shiftI .shl .u32 (x.toNat:Int) (n:Int)=some (((x <<< (UInt32.ofNat n)).toNat:Nat):Int):=by
 simp only[shiftI,Option.some.injEq,IntKind.bits];rw[UInt32.toNat_shiftLeft]
 have h1:(UInt32.ofNat n).toNat % 32=n:=by
  rw[UInt32.toNat_ofNat'];omega
 rw[h1,Nat.shiftLeft_eq];have h2:min ((n:Int).toNat) 32=n:=jB
 rw[h2,u32_wrap];rw[show((2:Int) ^ n)=((2 ^ n:Nat):Int) by simp];exact qdy
theorem u32_shl8(x:UInt32):shiftI .shl .u32 (x.toNat:Int) 8=some (((x <<< (UInt32.ofNat 8)).toNat:Nat):Int):=u32_shl x 8 jE
theorem u32_shr3(x:UInt32):shiftI .shr .u32 (x.toNat:Int) 3=some (((x >>> (UInt32.ofNat 3)).toNat:Nat):Int):=u32_shr x 3 jE
theorem u32_shr10(x:UInt32):shiftI .shr .u32 (x.toNat:Int) 10=some (((x >>> (UInt32.ofNat 10)).toNat:Nat):Int):=u32_shr x 10 jE
theorem u32_ofByte(b:UInt8):IntKind.u32.wrap ((b.toNat:Nat):Int)=((b.toUInt32.toNat:Nat):Int):=by
 rw[u32_wrap,UInt8.toNat_toUInt32];have:=b.toNat_lt;omega
theorem u8_ofU32(x:UInt32):IntKind.u8.wrap ((x.toNat:Nat):Int)=((x.toUInt8.toNat:Nat):Int):=by
 have h:IntKind.u8.wrap ((x.toNat:Nat):Int)=(x.toNat:Int) % 256:=by simp[IntKind.wrap,IntKind.signed,IntKind.bits]
 rw[h,UInt32.toNat_toUInt8];omega
namespace Sha
def rot(x:UInt32)(n:Nat):UInt32:=x >>> (UInt32.ofNat n) ||| x <<< (UInt32.ofNat (32-n))
def word(b:List UInt8)(i:Nat):UInt32:=
 (b.getD (4*i) 0).toUInt32 <<< (UInt32.ofNat 24) ||| (b.getD (4*i+1) 0).toUInt32 <<< (UInt32.ofNat 16) ||| (b.getD (4*i+2) 0).toUInt32 <<< (UInt32.ofNat 8) ||| (b.getD (4*i+3) 0).toUInt32
def words(b:List UInt8):Nat→List UInt32
 |0=>[]
 |i+1=>words b i++[word b i]
def s0(x:UInt32):UInt32:=rot x 7 ^^^ rot x 18 ^^^ x >>> (UInt32.ofNat 3)
def s1(x:UInt32):UInt32:=rot x 17 ^^^ rot x 19 ^^^ x >>> (UInt32.ofNat 10)
def next(w:List UInt32):UInt32:=w.getD (w.length-16) 0+s0 (w.getD (w.length-15) 0)+w.getD (w.length-7) 0+s1 (w.getD (w.length-2) 0)
def ext(w:List UInt32):Nat→List UInt32
 |0=>w
 |i+1=>ext w i++[next (ext w i)]
def sched(b:List UInt8):List UInt32:=ext (words b 16) 48
def k:List UInt32:=[
 0x428a2f98,0x71374491,0xb5c0fbcf,0xe9b5dba5,0x3956c25b,0x59f111f1,0x923f82a4,0xab1c5ed5,
 0xd807aa98,0x12835b01,0x243185be,0x550c7dc3,0x72be5d74,0x80deb1fe,0x9bdc06a7,0xc19bf174,
 0xe49b69c1,0xefbe4786,0x0fc19dc6,0x240ca1cc,0x2de92c6f,0x4a7484aa,0x5cb0a9dc,0x76f988da,
 0x983e5152,0xa831c66d,0xb00327c8,0xbf597fc7,0xc6e00bf3,0xd5a79147,0x06ca6351,0x14292967,
 0x27b70a85,0x2e1b2138,0x4d2c6dfc,0x53380d13,0x650a7354,0x766a0abb,0x81c2c92e,0x92722c85,
 0xa2bfe8a1,0xa81a664b,0xc24b8b70,0xc76c51a3,0xd192e819,0xd6990624,0xf40e3585,0x106aa070,
 0x19a4c116,0x1e376c08,0x2748774c,0x34b0bcb5,0x391c0cb3,0x4ed8aa4a,0x5b9cca4f,0x682e6ff3,
 0x748f82ee,0x78a5636f,0x84c87814,0x8cc70208,0x90befffa,0xa4506ceb,0xbef9a3f7,0xc67178f2]
structure S8 where
 a:UInt32
 b:UInt32
 c:UInt32
 d:UInt32
 e:UInt32
 f:UInt32
 g:UInt32
 h:UInt32
def S8.vals(s:S8):List Value:=[w32 s.a,w32 s.b,w32 s.c,w32 s.d,w32 s.e,w32 s.f,w32 s.g,w32 s.h]
def start:S8:=⟨0x6a09e667,0xbb67ae85,0x3c6ef372,0xa54ff53a,0x510e527f,0x9b05688c,0x1f83d9ab,0x5be0cd19⟩
def t1(k w:UInt32)(v:S8):UInt32:=v.h+(rot v.e 6 ^^^ rot v.e 11 ^^^ rot v.e 25)+(v.e &&& v.f ^^^ ~~~ v.e &&& v.g)+k+w
def t2(v:S8):UInt32:=(rot v.a 2 ^^^ rot v.a 13 ^^^ rot v.a 22)+(v.a &&& v.b ^^^ v.a &&& v.c ^^^ v.b &&& v.c)
def round(k w:UInt32)(v:S8):S8:=⟨t1 k w v+t2 v,v.a,v.b,v.c,v.d+t1 k w v,v.e,v.f,v.g⟩
def rounds(w:List UInt32)(v:S8):Nat→S8
 |0=>v
 |i+1=>round (k.getD i 0) (w.getD i 0) (rounds w v i)
def S8.add(v s:S8):S8:=⟨v.a+s.a,v.b+s.b,v.c+s.c,v.d+s.d,v.e+s.e,v.f+s.f,v.g+s.g,v.h+s.h⟩
def block(s:S8)(b:List UInt8):S8:=(rounds (sched b) s 64).add s
def blocks(s:S8)(b:List UInt8):Nat→S8
 |0=>s
 |i+1=>block (blocks s b i) ((b.drop (64*i)).take 64)
def padZ(n:Nat):Nat:=(119-n % 64) % 64
def padded(b:List UInt8):List UInt8:=b++[0x80]++List.replicate (padZ b.length) 0++be 8 ((b.length*8:Nat):Int)
def S8.get(s:S8):Nat→UInt32
 |0=>s.a
 |1=>s.b
 |2=>s.c
 |3=>s.d
 |4=>s.e
 |5=>s.f
 |6=>s.g
 |_=>s.h
def S8.out(s:S8)(i:Nat):UInt8:=(s.get (i / 4) >>> (UInt32.ofNat (24-8*(i % 4)))).toUInt8
def sum(b:List UInt8):Nat→UInt8:=(blocks start (padded b) ((padded b).length / 64)).out
end Sha
variable {a:List Value}
theorem fill_set{b:List Value}{i:Nat}(ha:a[i]?=some v)(hab:a.length=b.length):SetV (a.take i++b.drop i) i v (a.take (i+1)++b.drop (i+1)):=by
 induction i generalizing a b with
 | zero =>
  match a,b,ha,hab with
  | x :: a, y :: b, ha, _ =>
   simp at ha;subst ha;exact .here _ _ _
 | succ i ih =>
  match a,b,ha,hab with
  |x::a,y::b,ha,hab=>exact .there _ (ih (by simpa using ha) (by simpa using hab))
theorem fill_get{b:List Value}{i:Nat}(hj:j<i)(ha:a[j]?=some v):(a.take i++b.drop i)[j]?=some v:=by
 have:j<a.length:=by
  rcases Nat.lt_or_ge j a.length with h|h
  ·exact h
  ·simp[List.getElem?_eq_none h]at ha
 rw[List.getElem?_append_left (by rw[List.length_take];omega),List.getElem?_take,if_pos hj,ha]
theorem fill_get2{b:List Value}{i:Nat}(hj:i≤j)(hab:a.length=b.length)(hb:b[j]?=some v):(a.take i++b.drop i)[j]?=some v:=by
 have:j<b.length:=by
  rcases Nat.lt_or_ge j b.length with h|h
  ·exact h
  ·simp[List.getElem?_eq_none h]at hb
 have e:(a.take i).length=i:=by rw[List.length_take];omega
 rw[List.getElem?_append_right jB,e,List.getElem?_drop,show i+(j-i)=j by omega,hb]
theorem map_get{l:List α}(g:α→Value){i:Nat}(h:i<l.length)(z:α):(l.map g)[i]?=some (g (l.getD i z)):=by
 rw[List.getElem?_map,List.getElem?_eq_getElem h];simp[List.getD_eq_getElem?_getD,List.getElem?_eq_getElem h]
namespace Sha
theorem zbr(b:List UInt8):∀n,(words b n).length=n
 |0=>rfl
 |n+1=>by simp[words,zbr b n]
theorem words_get(b:List UInt8):∀(n i:Nat),i<n→(words b n).getD i 0=word b i
 |0,i,h=>by omega
 | n + 1, i, h => by
  simp only[words,List.getD_eq_getElem?_getD]
  by_cases e:i<n
  ·rw[List.getElem?_append_left (by rw[zbr];exact e),←List.getD_eq_getElem?_getD]
   exact words_get b n i e
  ·have:i=n:=jB
   subst this
   rw[List.getElem?_append_right (by rw[zbr];exact Nat.le_refl _),zbr]
   simp
theorem ext_len(w:List UInt32):∀n,(ext w n).length=w.length+n
 |0=>rfl
 |n+1=>by simp[ext,ext_len w n];omega
theorem ext_get(w:List UInt32)(n:Nat){i:Nat}(h:i<w.length+n):∀k,(ext w (n+k)).getD i 0=(ext w n).getD i 0
 |0=>rfl
 | k + 1 => by
  show(ext w (n+k)++_).getD i 0=_
  rw[List.getD_eq_getElem?_getD,List.getElem?_append_left (by rw[ext_len];omega),←List.getD_eq_getElem?_getD]
  exact ext_get w n h k
theorem sched_len(b:List UInt8):(sched b).length=64:=by unfold sched;rw[ext_len,zbr]
theorem sched_lo(b:List UInt8){i:Nat}(h:i<16):(sched b).getD i 0=word b i:=by
 unfold sched
 have:=ext_get (words b 16) 0 (i:=i) (by rw[zbr];omega) 48;rw[Nat.zero_add]at this
 rw[this];exact words_get b 16 i h
theorem sched_hi(b:List UInt8)(h:j<48):(sched b).getD (j+16) 0=(sched b).getD j 0+s0 ((sched b).getD (j+1) 0)+(sched b).getD (j+9) 0+s1 ((sched b).getD (j+14) 0):=by
 have pre:∀i,i<16+j→(sched b).getD i 0=(ext (words b 16) j).getD i 0:=fun i hi=>by
  unfold sched
  have:=ext_get (words b 16) j (i:=i) (by rw[zbr];omega) (48-j);rw[show j+(48-j)=48 by omega]at this
  exact this
 have top:(sched b).getD (j+16) 0=next (ext (words b 16) j):=by
  unfold sched
  have:=ext_get (words b 16) (j+1) (i:=j+16) (by rw[zbr];omega) (48-(j+1));rw[show j+1+(48-(j+1))=48 by omega]at this
  rw[this];show(ext (words b 16) j++[next (ext (words b 16) j)]).getD (j+16) 0=_;rw[List.getD_eq_getElem?_getD,List.getElem?_append_right (by rw[ext_len,zbr];omega),ext_len,zbr,show j+16-(16+j)=0 by omega];rfl
 rw[top,pre j jB,pre (j+1) jB,pre (j+9) jB,pre (j+14) jB];unfold next;rw[ext_len,zbr,show 16+j-16=j by omega,show 16+j-15=j+1 by omega,show 16+j-7=j+9 by omega,show 16+j-2=j+14 by omega]
theorem S8.get_vals(s:S8){i:Nat}(h:i<8):s.vals[i]?=some (w32 (s.get i)):=by
 match i,h with
 |0,_=>rfl
 |1,_=>rfl
 |2,_=>rfl
 |3,_=>rfl
 |4,_=>rfl
 |5,_=>rfl
 |6,_=>rfl
 |7,_=>rfl
theorem S8.add_get(v s:S8){i:Nat}(h:i<8):(v.add s).get i=v.get i+s.get i:=by
 match i,h with
 |0,_=>rfl
 |1,_=>rfl
 |2,_=>rfl
 |3,_=>rfl
 |4,_=>rfl
 |5,_=>rfl
 |6,_=>rfl
 |7,_=>rfl
end Sha
theorem bytesV_get{i:Nat}(h:i<l.length):(bytesV l)[i]?=some (.int .u8 ((l.getD i 0).toNat:Nat)):=map_get _ h 0
section
variable (f:Frag) (F:List HP)
end
variable {S:List UInt32}
section
variable (f:Frag) (F:List HP)
def z64:List Value:=List.replicate 64 (w32 0)
theorem z64_len:z64.length=64:=rfl
def wRow(S:List UInt32)(n:Nat):List Value:=(S.map w32).take n++z64.drop n
theorem wRow_set(hS:S.length=64)(h:n<64):SetV (wRow S n) n (w32 (S.getD n 0)) (wRow S (n+1)):=
 fill_set (map_get w32 (by rw[hS];exact h) 0) (by rw[List.length_map,hS];rfl)
theorem wRow_get(hS:S.length=64)(h:j<n)(hn:n≤64):(wRow S n)[j]?=some (w32 (S.getD j 0)):=
 fill_get h (map_get w32 (by rw[hS];omega) 0)
end
end Go.Proofs.YtdpgpmbebbaoiaaGreatDoor

namespace Go.Proofs.YtdpgpmbebbaoiaaGreatDoor
open Go Go.Proofs.Tryz Go.ChangeShapes Go.WideShapes Go.RowKit Go.Deep
def IntsAt(f:Frag)(g:Nat)(k:IntKind)(zs:List Int):Prop:=∃(cs:Array Value) (T:TypeId) (fr:Nat×Nat),f g=some (.cells cs T fr)∧∀(i:Nat) (z:Int),zs[i]?=some z→cs[i]?=some (.int k z)
variable {f:Frag} {g:Nat} {zs:List Int}
theorem IntsAt.mono{f':Frag}{k:IntKind}(hle:Le f f')(h:IntsAt f g k zs):IntsAt f' g k zs:=by
 obtain⟨cs,T,fr,h1,h2⟩:=h;exact⟨cs,T,fr,hle g _ h1,h2⟩
theorem IntsAt.rd{A:List HP}{k:IntKind}(h:IntsAt f g k zs){i:Nat}{z:Int}(hz:zs[i]?=some z):Rd1 f A g i (.int k z):=by
 obtain⟨cs,T,fr,h1,h2⟩:=h;exact Rd1.imm h1 (h2 i z hz)
variable {P:Program}
theorem laid_ints{W:World}{name:String}{t e:TypeId}{k:IntKind}(h:laidMetH P [(name,.agg (zs.map fun z=>.lit (.int k z)))] W)
  (hg:P.globalNamed name=some g) (ht:(P.globals[g]?).map (·.type)=some t) (hu:P.underlying t=some (.array zs.length e)) (he:P.underlying e=some (.int k)) (h1:P.cellsOf e=1):IntsAt (memOf W) g k zs:=by
 rw[MakeChecks.laidMetH_plain _ _ _ rfl]at h;obtain⟨ps,⟨g0,t0,cs0,f0,p0,q0,hg0,ht0,hv0,hd0,_,_⟩,_,_⟩:=h;obtain rfl:=Option.some.inj (hg.symm.trans hg0);obtain rfl:=Option.some.inj (ht.symm.trans ht0);obtain⟨xs,m1,rfl,hx1,hlen,hn,hel⟩:=DataW.trod_array hu hd0;simp only[Prod.mk.injEq,DataW.agg.injEq]at hx1
 have hh:∃T fr,W.heap[g]?=some (.cells cs0 T fr):=by
  simp only[World.var?,hg,Option.bind_some]at hv0;split at hv0
  ·rename_i cs T fr hw
   cases hv0
   exact⟨T,fr,hw⟩
  ·cases hv0
 obtain⟨T,fr,hw⟩:=hh;refine⟨cs0,T,fr,hw,fun i z hz=>?_⟩;have hi:i<zs.length:=(List.getElem?_eq_some_iff.1 hz).1;have h2:=hel i hi
 have h3:(xs.map (·.1))[i]?=some (.lit (.int k z)):=by rw[←hx1.1,List.getElem?_map,hz];rfl
 rw[List.getElem?_map]at h3
 cases hxi:xs[i]? with
 |none=>rw[hxi]at h3;cases h3
 | some x =>
  rw[hxi]at h2 h3;simp only[Option.map_some,Option.some.injEq]at h3;obtain⟨n,e1,e2,_⟩:=DataW.trod_int he h2;rw[h1,Nat.mul_one]at e1
  have hn:n=z:=by
   rw[e2]at h3;simpa using h3
  subst hn
  have h4:(cs0.toList.drop i)[0]?=some (.int k n):=by
   have:((cs0.toList.drop i).take 1)[0]?=some (.int k n):=by rw[e1];rfl
   rwa [List.getElem?_take_of_lt jE]at this
  rw[List.getElem?_drop,Nat.add_zero]at h4;simpa using h4
variable {fn:Func}
theorem params_plain(h:(fn.params.toList.all fun t=>!P.wantsStandIn t)=true):∀(j:Nat) t,fn.params[j]?=some t→P.wantsStandIn t=false:=fun j t ht=>by
 have:=List.all_eq_true.1 h t (Array.mem_toList_iff.2 (Array.mem_of_getElem? ht))
 simpa using this
theorem lawRowL{H':Type}{enc:TypeId×Value→H'}{a:Assume}{C:Checked}{os:Os}{fid:FuncId}{s:ChangeSpec}{conds:List PathCond}{apart fresh handsOn again:Bool}{tb:TypeId}{laid:List (String×DataW Unit)}
  (own:ownKnob C.prog.godebug=none) (started:os.Started) (noInit:C.prog.inits.idxOf? fid=none) (hfn:C.prog.funcs[fid]?=some fn)
  (witness : ∃ (w : World) (tape : Tape) (i : Input), w.os = os ∧ (w.forCall tape i).Shaped C.prog ∧ i.vars = [] ∧ Input.okWide C.prog (w.forCall tape i) .any w.heap.size fid i ∧
   ((s.pre enc C.prog fn conds apart (w.forCall tape i).memory i.args∧laidMetH C.prog laid (w.forCall tape i).memory)∧sizedMet enc C.prog fn (OpenSpec.ofChange s) apart (w.forCall tape i).memory i.args)∧a.holds C.prog (lone (Frame.enter C.prog fid i.args .normal) [] (w.forCall tape i)))
  (htb:C.prog.underlying tb=some .bool) (hres:fn.resultTypes= #[tb]) (hv:s.vars=[]) (hl:laidOutB C.prog=true)
  (hts:fn.params.toList.all (fun t=>C.prog.readableRec t&&Nat.blt t C.prog.types.size)=true)
  (hs:∀ds:List (DataW H'),ds.length=fn.params.toList.length→s.fn H' ds= {results:=[.lit (.bool true)],args:=ds})
  (law:∀(W:World) (args:List Value),ArgsOk C.prog W fn.params.toList args→laidMetH C.prog laid W→Fn C.prog fid args (memOf W) [] (Ret (.bool true) (memOf W) [])) :
  ReturnsInHanded a C os fid .any (fun w args=>(s.pre enc C.prog fn conds apart w args∧laidMetH C.prog laid w)∧sizedMet enc C.prog fn (OpenSpec.ofChange s) apart w args) (s.post enc C.prog fn apart fresh handsOn again):=by
 refine returnsInHanded_of_change_and (X:=fun w _=>laidMetH C.prog laid w) (fun _ _ _ hh h=>h.of_heap hh) own started noInit hfn witness ?_;intro W base args ds gs before hval hW _ _ hL _;have hW':=hW;obtain⟨p,q,hA,hV,rfl,_,_⟩:=hW
 rw[hv]at hV;obtain⟨rfl,rfl⟩:=trodVars_none hV;rw[List.append_nil]at hW'
 have hts':∀t∈fn.params.toList,C.prog.readableRec t=true∧t<C.prog.types.size:=fun t ht=>by
  have:=List.all_eq_true.1 hts t ht;simp only[Bool.and_eq_true]at this
  exact⟨this.1,by have:=this.2;simpa [Nat.blt_eq]using this⟩
 have hlen:=trodAll_len hA;have e:=hs ds hlen
 have hc:=law W args.toList (argsOk_of hA fun j t v h1 h2=>⟨base,hval j t v kQ (by simpa using h2)⟩) hL W W (sat_start W);refine hc.mono ?_
 rintro x w' ⟨v,f',A',rfl,⟨rfl,rfl,rfl⟩,hsat⟩;refine⟨_,rfl,post_own hW' hv hA hl hts' ?_ (by rw[List.append_nil,e]) (by rw[List.append_nil,e]) hsat.below ?_⟩
 ·intro b sp hd;rw[List.append_nil,e,hres];exact trodAll_mk1 (shut_bool htb true)
 ·exact ok_one hres rfl (okWide_bool_mk htb true)
end Go.Proofs.YtdpgpmbebbaoiaaGreatDoor
