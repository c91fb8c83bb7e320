/- Parts of the proof. No conditions. -/
import Derived.Test.YtkaknokcbhiigaaGreatDoorZ01
import Derived.IntWalk
import Derived.ChangeKeysEq
import Derived.Laws.StructEq
import Derived.Laws.IdiomStrings
import Derived.Laws.IdiomCopy
import Derived.ProofKit
import Derived.Lib.SmallJoins
import Derived.Deep.Slices
import Derived.Deep.Fields
import Derived.Test.YtkaknokcbhiigaaGreatDoorProg
set_option linter.unusedSectionVars false
set_option linter.unusedSimpArgs false
set_option linter.unusedVariables false
set_option maxHeartbeats 800000
namespace Go.Proofs.YtkaknokcbhiigaaGreatDoor
open Go Go.Proofs.Tryz
variable {z:Int}
theorem wr_i64(h:-9223372036854775808≤z∧z≤9223372036854775807):IntKind.i64.wrap z=z:=IntWalk.i64_in z h
theorem wr_u64(h:0≤z∧z≤18446744073709551615):IntKind.u64.wrap z=z:=IntWalk.u64_in z h
theorem wr_u8(h:0≤z∧z≤255):IntKind.u8.wrap z=z:=IntWalk.u8_in z h
theorem wr_u16(h:0≤z∧z≤65535):IntKind.u16.wrap z=z:=IntWalk.u16_in z h
variable {a b:Nat}
theorem zbd(h:a+b≤9223372036854775807):IntKind.i64.wrap ((a:Int)+(b:Int))=((a+b:Nat):Int):=by
 rw[wr_i64 jA];omega
theorem zbf(h:a+1≤9223372036854775807):IntKind.i64.wrap ((a:Int)+1)=((a+1:Nat):Int):=by
 rw[wr_i64 jA];omega
theorem zbe(h:a≤9223372036854775807):IntKind.i64.wrap (((a+1:Nat):Int)-1)=(a:Int):=by
 rw[wr_i64 jA];omega
variable {B A:List HP}
theorem fold_stars{p:HP}(h:∀x,stars B x→p x):∀x,stars (B++A) x→stars (p::A) x:=by
 intro x hx;rw[zcg]at hx;obtain⟨m1,m2,d,e,a,b⟩:=hx;exact⟨m1,m2,d,e,h m1 a,b⟩
theorem keep_stars{p:HP}(h:∀x,stars B x→stars A x):∀x,stars (p::B) x→stars (p::A) x:=by
 rintro x ⟨m1,m2,d,e,a,b⟩;exact⟨m1,m2,d,e,a,h m2 b⟩
theorem pull_stars{p:HP}(h:Pull B p A):∀x,stars B x→stars (p::A) x:=by
 intro x hx;rw[h.eq]at hx;exact hx
theorem stars_two{p q:HP}{x:Frag}:stars (p::q::A) x→stars (q::p::A) x:=by
 intro h;exact pull_stars (.there _ (.here _ _)) x h
variable {P:Program} {fid:FuncId} {f:Frag} {R:Value→Frag→List HP→Prop}
theorem Fn.unfold{args:List Value}{p:HP}{ι:Sort _}{B:ι→List HP}(hp:∀h,p h→∃i,stars (B i) h)
  (k:∀i,Fn P fid args f (B i++A) R):Fn P fid args f (p::A) R:=fun base w s=>by
 obtain⟨a1,a2,a3,a4,a5,m,⟨m1,m2,d,e,a,b⟩,hd,hw⟩:=s
 obtain⟨i,hi⟩:=hp m1 a
 exact k i base w ⟨a1,a2,a3,a4,a5,m,by rw[zcg];exact⟨m1,m2,d,e,hi,b⟩,hd,hw⟩
variable {base:World} {n:Nat} {L:Env} {K:Kont}
theorem H.unfold{p:HP}{ι:Sort _}{B:ι→List HP}(hp:∀h,p h→∃i,stars (B i) h)
  (k:∀i,H P base n L f (B i++A) K):H P base n L f (p::A) K:=.mk fun a w hf s=>by
 obtain⟨a1,a2,a3,a4,a5,m,⟨m1,m2,d,e,aa,b⟩,hd,hw⟩:=s
 obtain⟨i,hi⟩:=hp m1 aa
 exact(k i).out a w hf ⟨a1,a2,a3,a4,a5,m,by rw[zcg];exact⟨m1,m2,d,e,hi,b⟩,hd,hw⟩
theorem Fn.imp{P:Program}{fid:FuncId}{args:List Value}{f:Frag}{A A':List HP}{R:Value→Frag→List HP→Prop}(hx:∀x,stars A x→stars A' x)(k:Fn P fid args f A' R):Fn P fid args f A R:=fun base w s=>k base w (s.imp hx)
variable {t e:TypeId} {ti off hv sz:Nat} {tt:List (Nat × Bool)} {x:Operand}
section rules
variable {P:Program} {base:World} {n:Nat} {L:Env} {f:Frag} {A V:List HP} {q:Post} {ξ:Ext} {tl:List Oper}
variable {l rest:List Oper} {d:Nat} {ty:TypeId} {pos:String} {af:Array Edge} {gd:Option (Nat × Bool)}
theorem HQ.Ay{ps:List (Nat×Operand)}{vs:List (Nat×Value)}{fs:List Field}{pl:List (Nat×Nat)}{z:Value}{zs out:List Value}[hu:Und P t (.struct fs.toArray)][hpl:Plc P t pl][hz:Zer P t z](hw:want? l L gd=true)
  (hx:evP L ps=some vs) (hzs:cellsL z=zs) (ho:fillL (nthP pl) zs vs=some out) (hd:Nat.ble (d+1) n=true) {lst:Lst}
  (k:HQ V ⟨lst.setIfInBounds ti true,tt⟩ P base n ((d,.agg out.toArray)::L) f A (.ops l rest q)):HQ V ⟨lst,(ti,false)::tt⟩ P base n L f A (.ops l (⟨some d,.build t ps.toArray,ty,pos,af,gd⟩::rest) q):=
 HQ.opV hw hd (fun a w hfr _=>by
  subst hzs
  have h1:=hpl.eq fs.toArray w hu.eq
  have h2:=fill_eq _ _ _ _ ho
  have h3:(fun i=>pl.toArray[i]?)=nthP pl:=by funext i;rw[nthP_eq];simp
  have h4:z.cells=(cellsL z).toArray:=by rw[←cellsL_eq]
  have h5:(ps.toArray.map fun x:Nat×Operand=>(x.1,a.eval x.2)).toList=vs:=by rw[List.map_toArray];exact hfr.evP hx
  show Sem.run P (Instr.build t (ps.toArray.map fun x=>(x.1,a.eval x.2)) >>= fun v=>pure (Next.value v)) w=_
  unfold Instr.build
  simp only[Sem.run_bind,hz.run,Result.andThen_ok,hu.run,h1,h3,h4,h5,h2,Sem.run_pure]) k
theorem HQ.slice{t e:TypeId}{x:Operand}{lo hi mx:Option Operand}{p:Option Addr}{len cap lv hv mv sz:Nat}[hu:Und P t (.slice e)][hs:Siz P e sz](hw:want? l L gd=true)
  (hx:ev? L x=some (.slice p len cap)) (h1:bnd L lo lv 0) (h2:bnd L hi hv len) (h3:bnd L mx mv cap) (hmx:mx.isSome→hi.isSome) (a1:lv≤hv) (a2:hv≤mv) (a3:mv≤cap) (hd:Nat.ble (d+1) n=true) {lst:Lst} {ti:Nat} {tt:List (Nat×Bool)}
  (k:HQ V ⟨lst.setIfInBounds ti true,tt⟩ P base n ((d,.slice (slP p lv mv sz) (hv-lv) (mv-lv))::L) f A (.ops l rest q)):HQ V ⟨lst,(ti,false)::tt⟩ P base n L f A (.ops l (⟨some d,.slice t x lo hi mx,ty,pos,af,gd⟩::rest) q):=
 HQ.opV hw hd (fun a w hfr _=>by
  have hb:=run_bounds (P:=P) (w:=w) (isS:=true) hfr h1 h2 h3 hmx a1 a2 a3
  show Sem.run P (Instr.sliceAt t (a.eval x) (lo.map a.eval) (hi.map a.eval) (mx.map a.eval) >>= fun v=>pure (Next.value v)) w=_
  unfold Instr.sliceAt Instr.slice
  simp only[Sem.run_bind,hu.run,Result.andThen_ok,hfr.eval hx,hb,hs.run,Sem.run_pure,slP]) k
theorem HQ.Bt{lo hi mx:Option Operand}{len lv mv:Nat}[hu:Und P t (.array len e)][hs:Siz P e sz](hw:want? l L gd=true)
  (hx:ev? L x=some (.pointer (some ⟨b,off,none⟩))) (h1:bnd L lo lv 0) (h2:bnd L hi hv len) (h3:bnd L mx mv len) (hmx:mx.isSome→hi.isSome) (a1:lv≤hv) (a2:hv≤mv) (a3:mv≤len) (hd:Nat.ble (d+1) n=true) {lst:Lst}
  (k:HQ V ⟨lst.setIfInBounds ti true,tt⟩ P base n ((d,.slice (slP (some ⟨b,off,none⟩) lv mv sz) (hv-lv) (mv-lv))::L) f A (.ops l rest q)):HQ V ⟨lst,(ti,false)::tt⟩ P base n L f A (.ops l (⟨some d,.slice t x lo hi mx,ty,pos,af,gd⟩::rest) q):=
 HQ.opV hw hd (fun a w hfr _=>by
  have hb:=run_bounds (P:=P) (w:=w) (isS:=false) hfr h1 h2 h3 hmx a1 a2 a3
  show Sem.run P (Instr.sliceAt t (a.eval x) (lo.map a.eval) (hi.map a.eval) (mx.map a.eval) >>= fun v=>pure (Next.value v)) w=_
  unfold Instr.sliceAt
  simp only[Sem.run_bind,hu.run,Result.andThen_ok,hfr.eval hx,hb,hs.run,Sem.run_pure,slP,Instr.sureAddr]
  split<;>rfl) k
end rules
def Ret(v:Value)(f:Frag)(A:List HP):Value→Frag→List HP→Prop:=fun u f' A'=>u=v∧f'=f∧A'=A
variable {xs:List Operand} {vs:List Value} {ats:Array TypeId} {v:Value} {α β:Type}
section
variable {P:Program} {base:World} {n:Nat} {L:Env} {f f':Frag} {A A':List HP} {q:Post}
variable {l rest:List Oper} {d:Nat} {ty:TypeId} {pos:String} {af:Array Edge} {gd:Option (Nat × Bool)}
theorem H.Af[hfun:Fun P fid](hw:want? l L gd=true)(hd:Nat.ble (d+1) n=true)
  (hx:evs? L xs=some vs) (hc:Fn P fid vs f A (Ret v f' A')) (k:H P base n ((d,v)::L) f' A' (.ops l rest q)) :
  H P base n L f A (.ops l (⟨some d,.call ⟨.value (.func fid),xs.toArray,ats⟩,ty,pos,af,gd⟩::rest) q):=
 H.Ap hw hd hx hc fun _ _ _ h=>by obtain⟨rfl,rfl,rfl⟩:=h;exact k
def RetE{α:Type}(v:α→Value)(f:Frag)(A:α→List HP):Value→Frag→List HP→Prop:=fun u f' A'=>∃i,u=v i∧f'=f∧A'=A i
theorem H.callE{v:α→Value}{Ai:α→List HP}[hfun:Fun P fid](hw:want? l L gd=true)(hd:Nat.ble (d+1) n=true)
  (hx:evs? L xs=some vs) (hc:Fn P fid vs f A (RetE v f' Ai)) (k:∀i,H P base n ((d,v i)::L) f' (Ai i) (.ops l rest q)) :
  H P base n L f A (.ops l (⟨some d,.call ⟨.value (.func fid),xs.toArray,ats⟩,ty,pos,af,gd⟩::rest) q):=
 H.Ap hw hd hx hc fun _ _ _ h=>by obtain⟨i,rfl,rfl,rfl⟩:=h;exact k i
theorem H.Am{v:α→β→Value}{Ai:α→β→List HP}[hfun:Fun P fid](hw:want? l L gd=true)(hd:Nat.ble (d+1) n=true)
  (hx:evs? L xs=some vs) (hc:Fn P fid vs f A (fun u g B=>∃i j,u=v i j∧g=f'∧B=Ai i j)) (k:∀i j,H P base n ((d,v i j)::L) f' (Ai i j) (.ops l rest q)) :
  H P base n L f A (.ops l (⟨some d,.call ⟨.value (.func fid),xs.toArray,ats⟩,ty,pos,af,gd⟩::rest) q):=
 H.Ap hw hd hx hc fun _ _ _ h=>by obtain⟨i,j,rfl,rfl,rfl⟩:=h;exact k i j
end
theorem H.slc0(T:TypeId)(sz:Nat)(k:H P base n L f (slc none 0 0 T sz []::A) K):H P base n L f A K:=
 H.imp (A':=slc none 0 0 T sz []::A) (fun h hh=>⟨nil0,h,(Dj.nil h).symm,(nil_un h).symm,slc_nil none T sz,hh⟩) k
variable {f1:Frag} {q:Post} {l rest:List Oper} {d:Nat} {ty:TypeId} {pos:String} {af:Array Edge} {gd:Option (Nat × Bool)}
theorem H.cr{A1:List HP}[hfun:Fun P fid](hc:Fn P fid vs f A (Ret v f1 A1))(k:H P base n ((d,v)::L) f1 A1 (.ops l rest q))(hw:want? l L gd=true:=by exact rfl)(hd:Nat.ble (d+1) n=true:=by exact rfl)(hx:evs? L xs=some vs:=by exact rfl):H P base n L f A (.ops l (⟨some d,.call ⟨.value (.func fid),xs.toArray,ats⟩,ty,pos,af,gd⟩::rest) q):=H.Af hw hd hx hc k
theorem H.ce{v:α→Value}{Ai:α→List HP}[hfun:Fun P fid](hc:Fn P fid vs f A (RetE v f1 Ai))(k:∀i,H P base n ((d,v i)::L) f1 (Ai i) (.ops l rest q))(hw:want? l L gd=true:=by exact rfl)(hd:Nat.ble (d+1) n=true:=by exact rfl)(hx:evs? L xs=some vs:=by exact rfl):H P base n L f A (.ops l (⟨some d,.call ⟨.value (.func fid),xs.toArray,ats⟩,ty,pos,af,gd⟩::rest) q):=H.callE hw hd hx hc k
/-! ### Equality of structs and arrays -/
variable {ys:List Value} {D:Nat}
section
variable {P:Program}
def chunk(xs:List Value)(off c:Nat):List Value:=(xs.drop off).take c
def shp(P:Program):Nat→TypeId→List Value→Bool
 |0,_,_=>false
 | d + 1, t, cs => match P.underlying t with
  | some .bool => match cs with
   | [.bool _]=>true
   |_=>false
  | some (.int q) => match cs with
   | [.int q' _]=>decide (q'=q)
   |_=>false
  | some .string => match cs with
   | [.string _]=>true
   |_=>false
  |some (.array n e)=>(P.info? e).isSome&&Nat.beq cs.length (n*P.cellsOf e)&&(List.range' 0 n).all fun i=>shp P d e (chunk cs (i*P.cellsOf e) (P.cellsOf e))
  |some (.struct fs)=>!P.stoodInHeld t&&Nat.beq cs.length (P.cellsOf t)&&offs P fs.toList 0 cs.length&&fs.toList.all fun f=>shp P d f.type (chunk cs f.offset (P.cellsOf f.type))
  |_=>false
where offs (P:Program):List Field→Nat→Nat→Bool
 | [],o,n=>Nat.beq o n
 | f :: fs, o, n => (f.name != "_") && Nat.beq f.offset o && offs P fs (o + P.cellsOf f.type) n
def mkV(P:Program)(t:TypeId)(xs:List Value):Value:=match P.underlying t with
 |some (.array _ _)|some (.struct _)=>.agg xs.toArray
 |_=>xs.headD undef
def eqv:Value→Value→Bool
 | .bool a,.bool b=>a == b
 | .int _ a,.int _ b=>a == b
 | .string a,.string b=>a == b
 |_,_=>false
def eqC:List Value→List Value→Bool
 | [],[]=>true
 |x::xs,y::ys=>eqv x y&&eqC xs ys
 |_,_=>false
theorem eqC_append:∀ {a c:List Value} (b d:List Value),a.length=c.length→eqC (a++b) (c++d)=(eqC a c&&eqC b d)
 | [],[],b,d,_=>by simp[eqC]
 | x :: a, y :: c, b, d, h => by
  simp only[List.cons_append,eqC]
  rw[eqC_append b d jx,Bool.and_assoc]
theorem eqC_drop{xs:List Value}(h:xs.length=ys.length)(o c:Nat):eqC (xs.drop o) (ys.drop o)=(eqC (chunk xs o c) (chunk ys o c)&&eqC (xs.drop (o+c)) (ys.drop (o+c))):=by
 have e:∀l:List Value,l.drop o=chunk l o c++l.drop (o+c):=fun l=>by
  unfold chunk;rw[←List.drop_drop,List.take_append_drop]
 rw[e xs,e ys,eqC_append];unfold chunk;simp[h]
theorem shp_plain{cs:List Value}(h:shp P D t cs=true)(hp:∀n e,P.underlying t≠some (.array n e))(hs:∀fs,P.underlying t≠some (.struct fs)):P.plainKey t=true∧∃v,cs=[v]∧mkV P t cs=v∧∀D' ys,shp P D' t ys=true→∃u,ys=[u]∧mkV P t ys=u∧∀w d,(Op.equalIn (d+1) t v u).run P w= .ok (eqC cs ys) w:=by
 cases D with
 |zero=>simp[shp]at h
 | succ D =>
  unfold shp at h
  cases hu:P.underlying t with
  |none=>simp[hu]at h
  | some k =>
   cases k
   case bool=>
    rw[hu]at h;simp only at h;split at h
    ·rename_i a
     refine⟨by simp[Program.plainKey,hu],_,rfl,by simp[mkV,hu],fun D' ys h'=>?_⟩
     cases D' with
     |zero=>simp[shp]at h'
     | succ D' =>
      unfold shp at h';rw[hu]at h';simp only at h';split at h'
      ·rename_i b
       refine⟨_,rfl,by simp[mkV,hu],fun w d=>?_⟩;rw[run_equalIn_bool w d t a b hu];simp[eqC,eqv]
      ·cases h'
    ·cases h
   case int q=>
    rw[hu]at h;simp only at h;split at h
    ·rename_i q1 a
     refine⟨by simp[Program.plainKey,hu],_,rfl,by simp[mkV,hu],fun D' ys h'=>?_⟩
     cases D' with
     |zero=>simp[shp]at h'
     | succ D' =>
      unfold shp at h';rw[hu]at h';simp only at h';split at h'
      ·rename_i q2 b
       refine⟨_,rfl,by simp[mkV,hu],fun w d=>?_⟩;simp only[decide_eq_true_eq]at h h';subst h;subst h';rw[run_equalIn_int w d t _ _ _ _ hu];simp[eqC,eqv]
      ·cases h'
    ·cases h
   case string=>
    rw[hu]at h;simp only at h;split at h
    ·rename_i a
     refine⟨by simp[Program.plainKey,hu],_,rfl,by simp[mkV,hu],fun D' ys h'=>?_⟩
     cases D' with
     |zero=>simp[shp]at h'
     | succ D' =>
      unfold shp at h';rw[hu]at h';simp only at h';split at h'
      ·rename_i b
       refine⟨_,rfl,by simp[mkV,hu],fun w d=>?_⟩;rw[run_equalIn_string w d t a b hu];simp[eqC,eqv,beq_toListBytes]
      ·cases h'
    ·cases h
   case array n e=>exact absurd hu (hp n e)
   case struct fs=>exact absurd hu (hs fs)
   all_goals (simp[hu]at h;done)
theorem shp_len{cs:List Value}(hu:P.underlying t=some (.array n e))(h:shp P D t cs=true):(∃i,P.info? e=some i)∧cs.length=n*P.cellsOf e∧∃D',D=D'+1∧∀i,i<n→shp P D' e (chunk cs (i*P.cellsOf e) (P.cellsOf e))=true:=by
 cases D with
 |zero=>simp[shp]at h
 | succ D =>
  unfold shp at h;rw[hu]at h;simp only[Bool.and_eq_true,List.all_eq_true]at h;exact⟨Option.isSome_iff_exists.1 h.1.1,Nat.eq_of_beq_eq_true h.1.2,D,rfl,fun i hi=>h.2 i (by simp[List.mem_range'_1,hi])⟩
theorem shp_str{fs:Array Field}{cs:List Value}(hu:P.underlying t=some (.struct fs))(h:shp P D t cs=true):P.stoodInHeld t=false∧cs.length=P.cellsOf t∧shp.offs P fs.toList 0 cs.length=true∧∃D',D=D'+1∧∀f∈fs.toList,shp P D' f.type (chunk cs f.offset (P.cellsOf f.type))=true:=by
 cases D with
 |zero=>simp[shp]at h
 | succ D =>
  unfold shp at h;rw[hu]at h;simp only[Bool.and_eq_true,List.all_eq_true,Bool.not_eq_true']at h;exact⟨h.1.1.1,Nat.eq_of_beq_eq_true h.1.1.2,h.1.2,D,rfl,h.2⟩
theorem zch(w:World){xs:List Value}(h:shp P D e (chunk xs off (P.cellsOf e))=true)(hle:off+P.cellsOf e≤xs.length):(part e xs.toArray off).run P w= .ok (mkV P e (chunk xs off (P.cellsOf e))) w:=by
 have agg:(∃n e',P.underlying e=some (.array n e'))∨(∃fs,P.underlying e=some (.struct fs))→(part e xs.toArray off).run P w= .ok (mkV P e (chunk xs off (P.cellsOf e))) w:=by
  intro hk
  have hl:(xs.toArray.extract off (off+P.cellsOf e))=(chunk xs off (P.cellsOf e)).toArray:=by
   apply Array.ext';rw[Array.toList_extract];simp[List.extract,chunk]
  rcases hk with⟨n,e',hu⟩|⟨fs,hu⟩
  ·obtain⟨i,hi⟩:=info_of_underlying hu;simp[part,isAgg,run_underlying hu,run_sizeOf w hi,mkV,hu,hl];rfl
  ·obtain⟨i,hi⟩:=info_of_underlying hu;simp[part,isAgg,run_underlying hu,run_sizeOf w hi,mkV,hu,hl];rfl
 by_cases h1:∃n e',P.underlying e=some (.array n e')
 ·exact agg (.inl h1)
 ·by_cases h2:∃fs,P.underlying e=some (.struct fs)
  ·exact agg (.inr h2)
  ·obtain⟨hpk,v,hv,hmk,_⟩:=shp_plain h (fun n e' hu=>h1 ⟨n,e',hu⟩) (fun fs hu=>h2 ⟨fs,hu⟩);rw[hmk];have:xs.toArray[off]?=some v:=getElem?_of_chunk (c:=P.cellsOf e) (by simpa [chunk]using hv);exact run_part_plain w hpk this
theorem run_eqItems_shp(w:World){d D D':Nat}{e:TypeId}{xs ys:List Value}(hl:xs.length=ys.length)
  (IH:∀w D D' xs ys,shp P D e xs=true→shp P D' e ys=true→D≤d→(Op.equalIn d e (mkV P e xs) (mkV P e ys)).run P w= .ok (eqC xs ys) w) (hD:D≤d) :
  ∀(m k:Nat),(k+m)*P.cellsOf e=xs.length→(∀i,k≤i→i<k+m→shp P D e (chunk xs (i*P.cellsOf e) (P.cellsOf e))=true∧shp P D' e (chunk ys (i*P.cellsOf e) (P.cellsOf e))=true)→
  (Op.eqItems d e (P.cellsOf e) xs.toArray ys.toArray (List.range' k m)).run P w= .ok (eqC (xs.drop (k*P.cellsOf e)) (ys.drop (k*P.cellsOf e))) w
 | 0, k, hk, _ => by
  have h1:xs.drop (k*P.cellsOf e)=[]:=List.drop_eq_nil_of_le (by rw[←hk];simp)
  have h2:ys.drop (k*P.cellsOf e)=[]:=List.drop_eq_nil_of_le (by rw[←hl,←hk];simp)
  rw[h1,h2]
  simp[Op.eqItems,eqC]
 | m + 1, k, hk, hs => by
  obtain⟨a1,a2⟩:=hs k (Nat.le_refl _) jA
  have hle:k*P.cellsOf e+P.cellsOf e≤xs.length:=by
   rw[←hk]
   calc k*P.cellsOf e+P.cellsOf e=(k+1)*P.cellsOf e:=by rw[Nat.add_mul];omega
    _≤(k+(m+1))*P.cellsOf e:=Nat.mul_le_mul_right _ jA
  have p1:=zch w a1 hle
  have p2:=zch w a2 jA
  have p3:=IH w D D' _ _ a1 a2 hD
  have ih:=run_eqItems_shp w hl IH hD m (k+1) (by rw[←hk];congr 1;omega) (fun i h1 h2=>hs i jA jA)
  rw[eqC_drop hl (k*P.cellsOf e) (P.cellsOf e)]
  rw[show k*P.cellsOf e+P.cellsOf e=(k+1)*P.cellsOf e by rw[Nat.add_mul];omega]
  simp only[List.range'_succ,Op.eqItems,Sem.run_bind,p1,p2,p3,Result.andThen_ok]
  cases eqC (chunk xs (k*P.cellsOf e) (P.cellsOf e)) (chunk ys (k*P.cellsOf e) (P.cellsOf e))
  ·simp
  ·simpa using ih
theorem run_eqFields_shp(w:World){d D D':Nat}{xs ys:List Value}(hl:xs.length=ys.length)(hD:D≤d):∀(fs:List Field) (o:Nat),(∀f∈fs,∀w D D' xs ys,shp P D f.type xs=true→shp P D' f.type ys=true→D≤d→(Op.equalIn d f.type (mkV P f.type xs) (mkV P f.type ys)).run P w= .ok (eqC xs ys) w)→
  shp.offs P fs o xs.length=true→(∀f∈fs,shp P D f.type (chunk xs f.offset (P.cellsOf f.type))=true∧shp P D' f.type (chunk ys f.offset (P.cellsOf f.type))=true)→
  (Op.eqFields d xs.toArray ys.toArray fs).run P w= .ok (eqC (xs.drop o) (ys.drop o)) w∧o≤xs.length
 | [], o, _, ho, _ => by
  have e:o=xs.length:=Nat.eq_of_beq_eq_true ho
  have h1:xs.drop o=[]:=List.drop_eq_nil_of_le jA
  have h2:ys.drop o=[]:=List.drop_eq_nil_of_le jA
  rw[h1,h2]
  exact⟨by simp[Op.eqFields,eqC],by omega⟩
 | f :: fs, o, IH, ho, hs => by
  simp only[shp.offs,Bool.and_eq_true,bne_iff_ne,ne_eq]at ho
  obtain⟨⟨hn,he⟩,hr⟩:=ho
  have he':f.offset=o:=Nat.eq_of_beq_eq_true he
  subst he'
  obtain⟨ih,hle⟩:=run_eqFields_shp w hl hD fs (f.offset+P.cellsOf f.type) (fun g hg=>IH g (by simp[hg])) hr (fun g hg=>hs g (by simp[hg]))
  obtain⟨a1,a2⟩:=hs f jK
  have p1:=zch w a1 hle
  have p2:=zch w a2 jA
  have p3:=IH f jK w D D' _ _ a1 a2 hD
  refine⟨?_,by omega⟩
  rw[eqC_drop hl f.offset (P.cellsOf f.type)]
  simp only[Op.eqFields,hn,ne_eq,not_false_eq_true,if_true,Sem.run_bind,p1,p2,p3,Result.andThen_ok]
  cases eqC (chunk xs f.offset (P.cellsOf f.type)) (chunk ys f.offset (P.cellsOf f.type))
  ·simp
  ·simpa using ih
theorem zbn:∀(d:Nat) (t:TypeId) (w:World) (D D':Nat) (xs ys:List Value),shp P D t xs=true→shp P D' t ys=true→D≤d→(Op.equalIn d t (mkV P t xs) (mkV P t ys)).run P w= .ok (eqC xs ys) w
 | 0, t, w, D, D', xs, ys, hx, _, hd => by
  have:D=0:=jA
  subst this
  simp[shp]at hx
 | d + 1, t, w, D, D', xs, ys, hx, hy, hd => by
  by_cases h1:∃n e',P.underlying t=some (.array n e')
  ·obtain⟨n,e,hu⟩:=h1
   obtain⟨⟨i,hi⟩,l1,D1,rfl,s1⟩:=shp_len hu hx
   obtain⟨_,l2,D2,rfl,s2⟩:=shp_len hu hy
   have hm:mkV P t xs= .agg xs.toArray∧mkV P t ys= .agg ys.toArray:=by simp[mkV,hu]
   rw[hm.1,hm.2,run_equalIn_array w d xs.toArray ys.toArray hu hi]
   have:=run_eqItems_shp (P:=P) w (d:=d) (D:=D1) (D':=D2) (e:=e) (xs:=xs) (ys:=ys) jA (fun w D D' xs ys=>zbn d e w D D' xs ys) jA n 0 (by rw[Nat.zero_add,l1]) (fun i _ h2=>⟨s1 i jA,s2 i jA⟩)
   rw[List.range_eq_range']
   simpa using this
  ·by_cases h2:∃fs,P.underlying t=some (.struct fs)
   ·obtain⟨fs,hu⟩:=h2
    obtain⟨n1,l1,o1,D1,rfl,s1⟩:=shp_str hu hx
    obtain⟨n2,l2,o2,D2,rfl,s2⟩:=shp_str hu hy
    have hm:mkV P t xs= .agg xs.toArray∧mkV P t ys= .agg ys.toArray:=by simp[mkV,hu]
    have hfs:P.fieldsOf t=fs:=by simp[Program.fieldsOf,hu]
    rw[hm.1,hm.2,run_equalIn_struct w d t xs.toArray ys.toArray (by rw[hfs];exact hu) n1,hfs]
    have:=(run_eqFields_shp (P:=P) w (d:=d) (D:=D1) (D':=D2) (xs:=xs) (ys:=ys) jA jA fs.toList 0 (fun f _ w D D' xs ys=>zbn d f.type w D D' xs ys) o1 (fun f hf=>⟨s1 f hf,s2 f hf⟩)).1
    simpa using this
   ·obtain⟨_,v,rfl,hmk,hall⟩:=shp_plain hx (fun n e hu=>h1 ⟨n,e,hu⟩) (fun fs hu=>h2 ⟨fs,hu⟩)
    obtain⟨u,rfl,hmk',hr⟩:=hall D' ys hy
    rw[hmk,hmk']
    exact hr w d
end
/-! ### Rules -/
def bitsI(op:BinOp)(k:IntKind)(x y:Int):Option Int:=match op with
 | .and=>some (k.wrap (BitVec.ofInt k.bits x &&& BitVec.ofInt k.bits y).toNat)
 | .or=>some (k.wrap (BitVec.ofInt k.bits x ||| BitVec.ofInt k.bits y).toNat)
 | .xor=>some (k.wrap (BitVec.ofInt k.bits x ^^^ BitVec.ofInt k.bits y).toNat)
 | .andNot=>some (k.wrap (BitVec.ofInt k.bits x &&& ~~~ BitVec.ofInt k.bits y).toNat)
 |_=>none
def shiftI(op:BinOp)(k:IntKind)(x y:Int):Option Int:=match op with
 | .shl=>some (k.wrap (x*2 ^ (min y.toNat k.bits)))
 | .shr=>some (x.fdiv (2 ^ (min y.toNat k.bits)))
 |_=>none
def strP(op:BinOp)(s t:ByteArray):Option Bool:=match op with
 | .eql=>some (s.toList == t.toList)
 | .neq=>some (!(s.toList == t.toList))
 |_=>none
variable {op:BinOp} {xt yt:TypeId} {y:Operand} {p2 r:Int} {k2:IntKind} {s:ByteArray}
section rules
variable {P:Program} {base:World} {n:Nat} {L:Env} {f:Frag} {A:List HP} {q:Post}
variable {l rest:List Oper} {d:Nat} {ty:TypeId} {pos:String} {af:Array Edge} {gd:Option (Nat × Bool)}
theorem H.Bf{k:IntKind}{p:Int}(hw:want? l L gd=true)(hx:ev? L x=some (.int k p))(hy:ev? L y=some (.int k p2))(hc:bitsI op k p p2=some r)(hz:r=z)(hd:Nat.ble (d+1) n=true)
  (kk:H P base n ((d,.int k z)::L) f A (.ops l rest q)):H P base n L f A (.ops l (⟨some d,.binOp op xt x y yt,ty,pos,af,gd⟩::rest) q):=
 H.opV hw hd (fun a w hf _=>by
  cases op<;>simp only[bitsI,Option.some.injEq,reduceCtorEq]at hc<;>subst hc<;>subst hz<;>
   simp[execOp,eqGuard,binOp,Op.intBits,hf.eval hx,hf.eval hy]) kk
theorem H.Bo{k:IntKind}{p:Int}(hw:want? l L gd=true)(hx:ev? L x=some (.int k p))(hy:ev? L y=some (.int k2 p2))(hc:shiftI op k p p2=some r)(h0:0≤p2)(hz:r=z)(hd:Nat.ble (d+1) n=true)
  (kk:H P base n ((d,.int k z)::L) f A (.ops l rest q)):H P base n L f A (.ops l (⟨some d,.binOp op xt x y yt,ty,pos,af,gd⟩::rest) q):=
 H.opV hw hd (fun a w hf _=>by
  have h1:¬p2<0:=jA
  cases op<;>simp only[shiftI,Option.some.injEq,reduceCtorEq]at hc<;>subst hc<;>subst hz<;>
   simp[execOp,eqGuard,binOp,Op.shift,hf.eval hx,hf.eval hy,h1]) kk
theorem H.neg{k:IntKind}{p:Int}(hw:want? l L gd=true)(hx:ev? L x=some (.int k p))(hz:k.wrap (0-p)=z)(hd:Nat.ble (d+1) n=true)
  (kk:H P base n ((d,.int k z)::L) f A (.ops l rest q)):H P base n L f A (.ops l (⟨some d,.unOp .neg xt x,ty,pos,af,gd⟩::rest) q):=
 H.opV hw hd (fun a w hf _=>by
  subst hz
  simp[execOp,Op.unary,Op.intArith,hf.eval hx]) kk
theorem H.streq{t:ByteArray}{b c:Bool}(hw:want? l L gd=true)(hx:ev? L x=some (.string s))(hy:ev? L y=some (.string t))(hb:strP op s t=some b)(hc:b=c)(hd:Nat.ble (d+1) n=true)
  (kk:H P base n ((d,.bool c)::L) f A (.ops l rest q)):H P base n L f A (.ops l (⟨some d,.binOp op xt x y yt,ty,pos,af,gd⟩::rest) q):=
 H.opV hw hd (fun a w hf _=>by
  cases op<;>simp only[strP,Option.some.injEq,reduceCtorEq]at hb<;>subst hb<;>subst hc<;>
   simp[execOp,eqGuard,binOp,Op.stringOp,hf.eval hx,hf.eval hy]) kk
theorem H.min2{x y:Operand}{ats:Array TypeId}{k:IntKind}{p p2 z:Int}(hw:want? l L gd=true)(hx:ev? L x=some (.int k p))(hy:ev? L y=some (.int k p2))(hz:(if p2<p then p2 else p)=z)(hd:Nat.ble (d+1) n=true)
  (kk:H P base n ((d,.int k z)::L) f A (.ops l rest q)):H P base n L f A (.ops l (⟨some d,.call ⟨.builtin .min,#[x,y],ats⟩,ty,pos,af,gd⟩::rest) q):=
 H.opV hw hd (fun a w hf _=>by
  subst hz
  simp[execOp,resolve,invoke,builtin,Builtin.min_,Builtin.min2,hf.eval hx,hf.eval hy]) kk
theorem H.max2{x y:Operand}{ats:Array TypeId}{k:IntKind}{p p2 z:Int}(hw:want? l L gd=true)(hx:ev? L x=some (.int k p))(hy:ev? L y=some (.int k p2))(hz:(if p<p2 then p2 else p)=z)(hd:Nat.ble (d+1) n=true)
  (kk:H P base n ((d,.int k z)::L) f A (.ops l rest q)):H P base n L f A (.ops l (⟨some d,.call ⟨.builtin .max,#[x,y],ats⟩,ty,pos,af,gd⟩::rest) q):=
 H.opV hw hd (fun a w hf _=>by
  subst hz
  simp[execOp,resolve,invoke,builtin,Builtin.max_,Builtin.max2,hf.eval hx,hf.eval hy]) kk
theorem H.Cp{fn:Go.Fn}{cs:List Operand}{us:List Value}(hw:want? l L gd=true)(hx:evs? L xs=some vs)(hc:evs? L cs=some us)(hd:Nat.ble (d+1) n=true)
  (k:H P base n ((d,.func fn vs.toArray us.toArray)::L) f A (.ops l rest q)):H P base n L f A (.ops l (⟨some d,.makeFunc fn xs.toArray cs.toArray,ty,pos,af,gd⟩::rest) q):=
 H.opV hw hd (fun a w hf _=>by
  simp[execOp,Instr.makeFunc,hf.evals hx,hf.evals hc]) k
theorem H.aggEq{xs:List Value}{b:Bool}(hw:want? l L gd=true)(hx:ev? L x=some (.agg xs.toArray))(hy:ev? L y=some (.agg ys.toArray))(ho:op= .eql)
  (hg:P.eqGuardType P.depth xt=false) (h1:shp P D xt xs=true) (h2:shp P D xt ys=true) (hm:(match P.underlying xt with|some (.array _ _)|some (.struct _)=>true|_=>false)=true) (hD:D≤10000) (hb:eqC xs ys=b) (hd:Nat.ble (d+1) n=true)
  (kk:H P base n ((d,.bool b)::L) f A (.ops l rest q)):H P base n L f A (.ops l (⟨some d,.binOp op xt x y yt,ty,pos,af,gd⟩::rest) q):=
 H.opV hw hd (fun a w hf _=>by
  subst ho;subst hb
  have hmk:∀zs:List Value,mkV P xt zs= .agg zs.toArray:=fun zs=>by
   unfold mkV
   split at hm<;>simp_all
  have h3:=zbn 10000 xt w D D xs ys h1 h2 hD
  rw[hmk,hmk]at h3
  refine run_bin _ ?_ ?_
  ·rw[hf.eval hx,hf.eval hy]
   simp[eqGuard,hg]
  ·rw[hf.eval hx,hf.eval hy]
   show Sem.run P (do pure (Value.bool (←Op.equal xt (.agg xs.toArray) (.agg ys.toArray)))) w=_
   have h4:Sem.run P (Op.equal xt (.agg xs.toArray) (.agg ys.toArray)) w= .ok (eqC xs ys) w:=h3
   simp[h4]) kk
end rules
/-! A call of a function value. -/
variable {dd:Option Tmp} {fs:List Value} {w:World}
theorem run_enterV[hfun:Fun P fid](a:Act){cs:List Value}(hx:a.eval x= .func (.func fid) fs.toArray cs.toArray)(hargs:xs.map a.eval=vs):(execOp a.eval ⟨dd,.call ⟨.value x,xs.toArray,ats⟩,ty,pos,af,gd⟩).run P w= .ok (.enter fid (fs++vs++cs).toArray) w:=by
 obtain⟨fn,h1,h2,h3⟩:=hfun.eq;have e1:(fs.toArray++Array.map a.eval xs.toArray:Array Value)++cs.toArray=(fs++vs++cs).toArray:=by simp[hargs]
 have e2:(execOp a.eval ⟨dd,.call ⟨.value x,xs.toArray,ats⟩,ty,pos,af,gd⟩).run P w=Sem.run P (callFunc fid ((fs.toArray++Array.map a.eval xs.toArray)++cs.toArray)) w:=by
  simp only[execOp,resolve,hx,Deferred.ofValue,Sem.run_bind,Sem.run_pure,Result.andThen_ok,invoke]
 rw[e2,e1];exact qcq
section
variable {P:Program} {base:World} {n:Nat} {L:Env} {f f':Frag} {A A':List HP} {q:Post}
variable {l rest:List Oper} {d:Nat} {ty:TypeId} {pos:String} {af:Array Edge} {gd:Option (Nat × Bool)}
theorem H.callV{cs:List Value}(hx:ev? L x=some (.func (.func fid) fs.toArray cs.toArray))[hfun:Fun P fid](hw:want? l L gd=true)(hd:Nat.ble (d+1) n=true)
  (hxs:evs? L xs=some vs) (hc:Fn P fid (fs++vs++cs) f A R)
  (k:∀v f' A',R v f' A'→H P base n ((d,v)::L) f' A' (.ops l rest q)) :
  H P base n L f A (.ops l (⟨some d,.call ⟨.value x,xs.toArray,ats⟩,ty,pos,af,gd⟩::rest) q):=.mk fun a w hf s=>by
 show wpList P l.toArray (q.den P) _ a w
 unfold wpList
 rw[if_pos (hf.want (o:=⟨some d,_,ty,pos,af,gd⟩) hw)]
 refine .inl ?_
 have hrun:=run_enterV (P:=P) (dd:=some d) (ats:=ats) (ty:=ty) (pos:=pos) (af:=af) (gd:=gd) (w:=w) a (fid:=fid) (hf.eval hx) (hf.evals hxs)
 simp only[Oper.wp,hrun,Oper.upon]
 refine(hc base w s).mono ?_
 rintro e w' ⟨v,f',A',rfl,hr,s'⟩
 exact(k v f' A' hr).out _ _ (hf.put (Nat.le_of_ble_eq_true hd) v) s'
theorem H.callVR{cs:List Value}(hx:ev? L x=some (.func (.func fid) fs.toArray cs.toArray))[hfun:Fun P fid](hw:want? l L gd=true)(hd:Nat.ble (d+1) n=true)
  (hxs:evs? L xs=some vs) (hc:Fn P fid (fs++vs++cs) f A (Ret v f' A')) (k:H P base n ((d,v)::L) f' A' (.ops l rest q)) :
  H P base n L f A (.ops l (⟨some d,.call ⟨.value x,xs.toArray,ats⟩,ty,pos,af,gd⟩::rest) q):=
 H.callV hx hw hd hxs hc fun _ _ _ h=>by obtain⟨rfl,rfl,rfl⟩:=h;exact k
end
variable {p:Option Addr} {m c:Nat} {A':List HP} {T u:TypeId} {news:List Value} {fn:Func}
section rules
variable {P:Program} {base:World} {n:Nat} {L:Env} {f:Frag} {A:List HP} {q:Post}
variable {l rest:List Oper} {d:Nat} {ty:TypeId} {pos:String} {af:Array Edge} {gd:Option (Nat × Bool)}
theorem H.Br[hu:Und P t (.slice e)](hw:want? l L gd=true)(hx:ev? L x=some (.slice p m c))(hd:Nat.ble (d+1) n=true)
  (k:H P base n ((d,.int .i64 (c:Nat))::L) f A (.ops l rest q)):H P base n L f A (.ops l (⟨some d,.call ⟨.builtin .cap,#[x],#[t]⟩,ty,pos,af,gd⟩::rest) q):=
 H.opV hw hd (fun a w hfr _=>by
  simp[execOp,resolve,invoke,builtin,Builtin.cap_,hfr.eval hx,hu.run,goInt]) k
theorem H.Cm{xs:List Value}(h:At A (slc p m c T sz xs) A' (slc p m c T sz xs))
  (k:m≤c→c≤9223372036854775807→xs.length=m*sz→H P base n L f A K):H P base n L f A K:=.mk fun a w hf s=>by
 obtain⟨h1,h2,h3⟩:=s.slc_at h
 rcases h3 with⟨rfl,rfl⟩|⟨b,sp,rfl,h4,_⟩
 ·exact(k (Nat.le_refl _) h2 h1).out a w hf s
 ·exact(k h4 h2 h1).out a w hf s
theorem slP0(p:Option Addr)(mv sz:Nat):slP p 0 mv sz=p:=by
 unfold slP;split
 ·rfl
 ·cases p<;>simp[Addr.add]
theorem H.sliceTo{len cap:Nat}{kk:IntKind}[hu:Und P t (.slice e)][hs:Siz P e sz](hw:want? l L gd=true)
  (hx:ev? L x=some (.slice p len cap)) (hy:ev? L y=some (.int kk z)) (hz:z=(hv:Nat)) (a2:hv≤cap) (hd:Nat.ble (d+1) n=true)
  (k:H P base n ((d,.slice p hv cap)::L) f A (.ops l rest q)):H P base n L f A (.ops l (⟨some d,.slice t x none (some y) none,ty,pos,af,gd⟩::rest) q):=
 H.slice (hu:=hu) (hs:=hs) (lv:=0) (hv:=hv) (mv:=cap) hw hx rfl ⟨kk,z,hy,hz⟩ rfl (fun h=>by cases h) (Nat.zero_le _) a2 (Nat.le_refl _) hd (by rw[slP0];exact k)
theorem H.slc_full{xs:List Value}
  (k:∀sp:List Value,(xs++sp).length=c*sz→m≤c→H P base n L f (slc p c c T sz (xs++sp)::B) K):H P base n L f (slc p m c T sz xs::B) K:=.mk fun a w hf s=>by
 obtain⟨mm,⟨m1,m2,dj,e,⟨h1,h2,h3⟩,r⟩,hd,hw⟩:=s.mem
 rcases h3 with⟨rfl,rfl,hn⟩|⟨b,sp,rfl,h4,h5,hn⟩
 ·have:xs=[]:=List.eq_nil_of_length_eq_zero (by simpa using h1)
  subst this
  exact(k [] jK (Nat.le_refl _)).out a w hf ⟨s.os,s.tape,s.output,s.size,s.imm,mm,⟨m1,m2,dj,e,⟨by simp,h2,.inl ⟨rfl,rfl,hn⟩⟩,r⟩,hd,hw⟩
 ·exact(k sp h5 h4).out a w hf ⟨s.os,s.tape,s.output,s.size,s.imm,mm,⟨m1,m2,dj,e,⟨h5,h2,.inr ⟨b,[],rfl,Nat.le_refl _,by rw[List.append_nil];exact h5,by rw[List.append_nil];exact hn⟩⟩,r⟩,hd,hw⟩
theorem H.slc_trunc{m':Nat}{xs:List Value}(hm:m'≤m)(hc:m≤c)(hy:ys=xs.take (m'*sz))
  (k:H P base n L f (slc p m' c T sz ys::B) K):H P base n L f (slc p m c T sz xs::B) K:=.mk fun a w hf s=>by
 subst hy
 obtain⟨mm,⟨m1,m2,dj,e,⟨h1,h2,h3⟩,r⟩,hd,hw⟩:=s.mem
 have hlen:(xs.take (m'*sz)).length=m'*sz:=by
  rw[List.length_take,h1];exact Nat.min_eq_left (Nat.mul_le_mul_right _ hm)
 refine k.out a w hf ⟨s.os,s.tape,s.output,s.size,s.imm,mm,⟨m1,m2,dj,e,⟨hlen,h2,?_⟩,r⟩,hd,hw⟩
 rcases h3 with⟨rfl,rfl,hn⟩|⟨b,sp,rfl,h4,h5,hn⟩
 ·exact .inl ⟨by omega,rfl,hn⟩
 ·refine .inr ⟨b,xs.drop (m'*sz)++sp,rfl,by omega,?_,?_⟩
  ·rw[←List.append_assoc,List.take_append_drop];exact h5
  ·rw[←List.append_assoc,List.take_append_drop];exact hn
theorem run_append_zero_out{z:Value}{i:TypeInfo}{olds:List Value}
  (hu:Und P t (.slice e)) (hu2:Und P u (.int .i64)) (hi:P.info? e=some i) (hz:i.zero=some z) (hpos:0<m*i.size)
  (hold:(Builtin.firstCells i.size n (.slice p n c)).run P w.drew= .ok olds.toArray w.drew)
  (hg:c<n+m) (h63:n+m≤9223372036854775807) (hby:(n+m)*i.bytes≤140737488355328) (hfit:Builtin.nextslicecap (n+m) c*i.bytes≤281474976710656) :
  (Builtin.append_ #[t, u] ty #[.slice p n c, .int .i64 (m : Nat)]).run P w =
   .ok (.slice (some ⟨w.heap.size,0,none⟩) (n+m) (grownCap w (n+m) c e)) (w.drew.alloc (.cells (olds.toArray++Builtin.zeroCells z.cells m++Builtin.zeroCells z.cells (grownCap w (n+m) c e-(n+m))) e)):=by
 have hn:¬(n+m≤c):=jA
 have h63':¬(9223372036854775807<((n:Int)+(m:Int))):=jA
 have h48':¬(281474976710656<Builtin.nextslicecap (n+m) c*i.bytes):=jA
 have hwr:IntKind.i64.wrap (m:Int)=(m:Int):=wr_i64 jA;have hm0:¬((m:Int)<0):=jA
 have hmb:m*i.bytes≤281474976710656:=by
  have:m*i.bytes≤(n+m)*i.bytes:=Nat.mul_le_mul_right _ jA;omega
 have hmb':¬(281474976710656<(m:Int)*(i.bytes:Int)):=by
  rw[←Int.natCast_mul];omega
 have hp:¬(m*i.size=0):=jA
 have hp2:¬(m=0∨i.size=0):=by
  rintro(h|h)<;>simp[h]at hpos
 simp[Builtin.append_,run_underlying hu.eq,run_underlying hu2.eq,sizeOf,typeInfo,zeroValue,hi,hz,hold,hn,h63',h48',hwr,hm0,hmb',hp,asInt,asIntOf,Question.forced,newRow,grownCap]
theorem run_append_zero{A':Option Addr→Nat→List HP}{bytes:Nat}{xs:List Value}{z:Value}
  (hu:Und P t (.slice e)) (hu2:Und P u (.int .i64)) (hs:Siz P e sz) (hb:Byt P e bytes) (hz:Zer P e z)
  (s:Sat base w f A) (hA:∀p' c',At A (slc p n c e sz xs) (A' p' c') (slc p' (n+m) c' e sz (xs++(Builtin.zeroCells z.cells m).toList)))
  (hzs:z.cells.size=sz) (hpos:0<m*sz) (hg:c<n+m) (h63:n+m≤9223372036854775807) (hby:(n+m)*bytes≤140737488355328) :
  ∃p' c' w',(Builtin.append_ #[t,u] ty #[.slice p n c,.int .i64 (m:Nat)]).run P w= .ok (.slice p' (n+m) c') w'∧Sat base w' f (A' p' c'):=by
 obtain⟨i,hi,rfl,rfl,hiz⟩:=info_of hs hb hz;obtain⟨hl,hc,h3⟩:=s.slc_at (hA none 0)
 have hold:(Builtin.firstCells i.size n (.slice p n c)).run P w.drew= .ok xs.toArray w.drew:=by
  rcases h3 with⟨rfl,rfl⟩|⟨b,sp,rfl,hnc,hcs,hw⟩
  ·have hx:xs=[]:=List.eq_nil_of_length_eq_zero kj;subst hx
   cases p with
   |none=>exact run_firstCells_none w.drew i.size 0 0 0
   |some a=>exact run_firstCells_some w.drew i.size 0 a 0 0 [] jK jK
  ·exact run_firstCells_some (P:=P) w.drew i.size n ⟨b,0,none⟩ n c xs hl (fun j v hj=>by
    rw[zba]
    have:j<xs.length:=qcL
    simp[World.cell?,show w.drew.heap=w.heap from rfl,hw,List.getElem?_append_left this,hj])
 have hr:=run_append_zero_out (ty:=ty) hu hu2 hi hiz hpos hold hg h63 hby (growslice_fits hg hby)
 have hlen:(xs++(Builtin.zeroCells z.cells m).toList).length=(n+m)*i.size:=by
  rw[lnA,hl,Array.length_toList,size_zeroCells,hzs,Nat.add_mul]
 refine⟨_,_,_,hr,s.fresh (hA _ _) rfl rfl rfl rfl ⟨hlen,?_,.inr ⟨_,(Builtin.zeroCells z.cells (grownCap w (n+m) c e-(n+m))).toList,rfl,grownCap_ge _ _ _ _,?_,?_⟩⟩⟩
 ·have:=grownCap_le_maxLen w (n+m) c e (by unfold maxLen;omega);unfold maxLen at this;omega
 ·have hge:=grownCap_ge w (n+m) c e;rw[lnA,hlen,Array.length_toList,size_zeroCells,hzs,←Nat.add_mul];congr 1;omega
 ·congr 2;rw[←List.append_toArray,←List.append_toArray,Array.toArray_toList,Array.toArray_toList]
theorem H.appendZ{A':Option Addr→Nat→List HP}{n0 bytes:Nat}{zi:Int}{xs:List Value}{z:Value}
  [hu:Und P t (.slice e)] [hu2:Und P u (.int .i64)] [hs:Siz P e sz] [hb:Byt P e bytes] [hz:Zer P e z] (hw:want? l L gd=true) (hd:Nat.ble (d+1) n=true) (hx:ev? L x=some (.slice p n0 c)) (hy:ev? L y=some (.int .i64 zi)) (hzi:zi=(m:Nat))
  (hA:∀p' c',At A (slc p n0 c e sz xs) (A' p' c') (slc p' (n0+m) c' e sz (xs++(Builtin.zeroCells z.cells m).toList)))
  (hzs:z.cells.size=sz) (hpos:0<m*sz) (hg:c<n0+m) (h63:n0+m≤9223372036854775807) (hby:(n0+m)*bytes≤140737488355328)
  (k:∀p' c',H P base n ((d,.slice p' (n0+m) c')::L) f (A' p' c') (.ops l rest q)) :
  H P base n L f A (.ops l (⟨some d,.call ⟨.builtin .append,#[x,y],#[t,u]⟩,ty,pos,af,gd⟩::rest) q):=
 H.opE (ι:=Option Addr×Nat) (fun i=>.slice i.1 (n0+m) i.2) (fun _=>f) (fun i=>A' i.1 i.2) (fun _=>True) hw hd (fun a w hfr s=>by
  subst hzi
  obtain⟨p',c',w',hr,s'⟩:=run_append_zero (ty:=ty) hu hu2 hs hb hz s hA hzs hpos hg h63 hby
  exact⟨(p',c'),w',trivial,run_builtin_append jm,s'⟩) (fun i _=>k i.1 i.2)
theorem Src.cons{y:HP}{x:Value}(h:Src P f A x sz m news):Src P f (y::A) x sz m news:=
 ⟨h.len,fun base w s=>h.cells base w (s.drop (.here _ _)),h.size⟩
theorem Src.append{x:Value}(h:Src P f A x sz m news):Src P f (B++A) x sz m news:=by
 induction B with
 |nil=>exact h
 |cons b B ih=>exact ih.cons
theorem results_cell{p:Tmp}{tmps:Array Value}(h:fn.results= #[.cell p ty])(hp:tmps.getD p undef= .pointer (some ⟨b,off,none⟩))
  (hl:(loadVar ty ⟨b,off,none⟩).run P w= .ok v w):(results fn tmps).run P w= .ok v w:=by
 have hp':tmps[p]?.getD undef= .pointer (some ⟨b,off,none⟩):=by simpa using hp
 simp only[results,h];simp[Sem.run_bind,asAddr,hp',hl]
end rules
variable {dT sT:TypeId} {dl k0:Nat} {xv:Value} {ls:List Value}
section rules
variable {P:Program} {base:World} {n:Nat} {L:Env} {f:Frag} {A:List HP} {q:Post}
variable {l rest:List Oper} {d:Nat} {ty:TypeId} {pos:String} {af:Array Edge} {gd:Option (Nat × Bool)}
theorem H.convBS{s:TypeId}{bs:List UInt8}[hs:Und P s (.slice e)][he:Und P e (.int .u8)][ht:Und P t .string](hw:want? l L gd=true)(hx:ev? L x=some (.slice p bs.length c))
  (hsrc:Src P f A (.slice p bs.length c) 1 bs.length (bytesV bs)) (hn:p=none→bs=[]) (hd:Nat.ble (d+1) n=true)
  (k:H P base n ((d,.string ⟨bs.toArray⟩)::L) f A (.ops l rest q)):H P base n L f A (.ops l (⟨some d,.convert s t x,ty,pos,af,gd⟩::rest) q):=
 H.opV hw hd (fun a w hf s'=>by
  have h1:=hsrc.cells base w s'
  have h2:(convert s t (.slice p bs.length c)).run P w= .ok (.string ⟨bs.toArray⟩) w:=by
   rw[run_convert_bytes_string w s t e p bs.length c hs.eq he.eq ht.eq]
   cases p with
   | none =>
    have:=hn rfl
    subst this
    simp[Conv.bytesToString]
    rfl
   | some a =>
    have h3:(loadCells a bs.length).run P w= .ok ((bs.map (fun b=>(b.toNat:Int))).map (Value.int .u8)).toArray w:=by
     have h4:(Builtin.firstCells 1 bs.length (.slice (some a) bs.length c)).run P w=(loadCells a (bs.length*1)).run P w:=rfl
     rw[Nat.mul_one]at h4
     rw[←h4,h1]
     unfold bytesV
     rw[List.map_map]
     rfl
    rw[run_bytesToString w a bs.length c _ h3,foldl_push_byteCells]
    have he0:ByteArray.empty.data= #[]:=rfl
    rw[he0]
    simp
  simp only[execOp,hf.eval hx,Sem.run_bind,h2,Result.andThen_ok,Sem.run_pure]) k
def strRow(b:Nat)(s:ByteArray)(c:Nat)(e:TypeId):HP:=pts b (.cells (bytesRow s c) e ((bytesRow s c).size,(bytesRow s c).size+1))
theorem bytesRow_get(s:ByteArray)(c:Nat){i:Nat}(h:i<s.size):(bytesRow s c)[i]?=(bytesV s.data.toList)[i]?:=by
 unfold bytesRow bytesV;have h':i<s.data.size:=h;rw[Array.getElem?_append_left (by simpa using h')]
 rw[List.getElem?_map,Array.getElem?_map,Array.getElem?_toList]
theorem Src.strRow{c':Nat}(h:At A (strRow b s c e) A' (strRow b s c e)):Src P f A (.slice (some ⟨b,0,none⟩) s.size c') 1 s.size (bytesV s.data.toList):=by
 have hl:(bytesV s.data.toList).length=s.size*1:=by unfold bytesV;rw[List.length_map,Array.length_toList,Nat.mul_one];rfl
 refine Src.slice (fun base w sa=>⟨_,_,_,sa.got h,fun i hi=>?_⟩) hl;rw[hl,Nat.mul_one]at hi;rw[Nat.zero_add];exact bytesRow_get s c hi
theorem H.convSB{s:TypeId}{bs:ByteArray}[hs:Und P s .string][ht:Und P t (.slice e)][he:Und P e (.int .u8)](hw:want? l L gd=true)(hx:ev? L x=some (.string bs))(hd:Nat.ble (d+1) n=true)
  (k:∀b c,H P base n ((d,.slice (some ⟨b,0,none⟩) bs.size c)::L) f (strRow b bs c e::A) (.ops l rest q)):H P base n L f A (.ops l (⟨some d,.convert s t x,ty,pos,af,gd⟩::rest) q):=
 H.opE (ι:=Nat×Nat) (fun i=>.slice (some ⟨i.1,0,none⟩) bs.size i.2) (fun _=>f) (fun i=>strRow i.1 bs i.2 e::A) (fun _=>True) hw hd (fun a w hfr s'=>by
  have h1:=run_bytes_of_string (P:=P) w s t e bs hs.eq ht.eq he.eq
  have h2:(execOp a.eval ⟨some d,.convert s t x,ty,pos,af,gd⟩).run P w= .ok (.value (.slice (some ⟨w.heap.size,0,none⟩) bs.size (grownCap w bs.size 0 e))) (w.drew.alloc (.cells (bytesRow bs (grownCap w bs.size 0 e)) e ((bytesRow bs (grownCap w bs.size 0 e)).size,(bytesRow bs (grownCap w bs.size 0 e)).size+1))):=by
   simp only[execOp,hfr.eval hx,Sem.run_bind,h1,Result.andThen_ok,Sem.run_pure]
  exact⟨(w.heap.size,grownCap w bs.size 0 e),_,trivial,h2,Sat.alloc (w:=w) s' rfl rfl rfl rfl⟩) (fun i _=>k i.1 i.2)
theorem run_copy_own{elem:TypeId}{o dc:Nat}{cur:Array Value}{cs:List Value}(hu:Und P dT (.slice elem))(hs:Siz P elem 1)
  (hg:w.heap[b]?=some (.cells cur T (0,0))) (hlen:(Builtin.lenOf xv).run P w= .ok m w) (hcs:(Builtin.firstCells 1 (Nat.min m dl) xv).run P w= .ok cs.toArray w) (hfit:o+cs.length≤cur.size) (h1:∀v∈cs,v.oneCell'=true) :
  (Builtin.copy_ #[dT,sT] ty #[.slice (some ⟨b,o,none⟩) dl dc,xv]).run P w= .ok (goInt (Nat.min m dl)) (w.setRow b (cur.toList.take o++cs++cur.toList.drop (o+cs.length)).toArray):=by
 have hst:=run_storeCells_at P b o T cs 0 cur w hg (by simpa using hfit) h1;simp only[Nat.add_zero]at hst
 simp[Builtin.copy_,run_underlying hu.eq,hlen,hs.run,hcs,hst]
theorem run_builtin_copy{a:Act}{w':World}(h:(Builtin.copy_ #[t,u] ty #[a.eval x,a.eval y]).run P w= .ok v w'):(execOp a.eval ⟨dd,.call ⟨.builtin .copy,#[x,y],#[t,u]⟩,ty,pos,af,gd⟩).run P w= .ok (.value v) w':=by
 exact qcf
theorem H.copy{o dc:Nat}{ls' cs:List Value}[hu:Und P dT (.slice e)][hs:Siz P e 1](hw:want? l L gd=true)(hd:Nat.ble (d+1) n=true)
  (hx:ev? L x=some (.slice (some ⟨b,o,none⟩) dl dc)) (hy:ev? L y=some xv) (hlen:∀w,(Builtin.lenOf xv).run P w= .ok m w) (hk:Nat.min m dl=k0) (hcs:∀base w,Sat base w f A→(Builtin.firstCells 1 k0 xv).run P w= .ok cs.toArray w)
  (hset:splice ls o cs=ls') (hfit:o+cs.length≤ls.length) (h1:∀v∈cs,one v=true) (hA:At A (row b T ls) A' (row b T ls'))
  (k:H P base n ((d,.int .i64 (k0:Nat))::L) f A' (.ops l rest q)):H P base n L f A (.ops l (⟨some d,.call ⟨.builtin .copy,#[x,y],#[dT,sT]⟩,ty,pos,af,gd⟩::rest) q):=
 H.opE (ι:=Unit) (fun _=>.int .i64 (k0:Nat)) (fun _=>f) (fun _=>A') (fun _=>True) hw hd (fun a w hfr s'=>by
  subst hset;subst hk
  have hb:=s'.got hA
  have hr:=run_copy_own (P:=P) (ty:=ty) (sT:=sT) (dc:=dc) hu hs hb (hlen w) (hcs base w s') (by simpa using hfit) (fun v hv=>by rw[one_eq];exact h1 v hv)
  refine⟨(),_,trivial,run_builtin_copy jm,?_⟩
  exact s'.set hA rfl rfl rfl (setRow_is hb)) (fun _ _=>k)
theorem Src.copy{cs:List Value}(h:Src P f A xv 1 m cs):∀base w,Sat base w f A→(Builtin.firstCells 1 m xv).run P w= .ok cs.toArray w:=h.cells
theorem firstCells_part(h:Rd f A b off news)(hk:k0≤news.length):∀base w,Sat base w f A→(Builtin.firstCells 1 k0 (.slice (some ⟨b,off,none⟩) m c)).run P w= .ok (news.take k0).toArray w:=fun base w s=>by
 refine run_firstCells_some w 1 k0 ⟨b,off,none⟩ m c (news.take k0) je (fun j v hj=>?_)
 rw[zba]
 rw[List.getElem?_take]at hj
 split at hj
 ·exact(h base w s).cell hj
 ·cases hj
end rules
theorem Le.un(f g:Frag):Le f (un f g):=fun k o h=>by simp[Proofs.YtkaknokcbhiigaaGreatDoor.un,h]
variable {g:Frag}
theorem Sat.weak(h:Le f g)(s:Sat base w g A):Sat base w f A:=by
 obtain⟨a,b,c,d,e,m,hm,hd,hw⟩:=s;refine⟨a,b,c,d,fun k o hk=>e k o (h k o hk),m,hm,fun k=>?_,hw⟩;rcases hd k with h1|h1
 ·refine .inl ?_
  cases hf:f k with
  |none=>rfl
  |some o=>rw[h k o hf]at h1;cases h1
 ·exact .inr h1
theorem wpAnyC_mono{P:Program}{C C':World→Prop}{ops:Array Oper}{Q:Exit→Act→World→Prop}{cut:Array Bool}(hC:∀w,C w→C' w):∀(fuel:Nat) (listed:Array Bool) (a:Act) (w:World),wpAnyC P C ops Q cut fuel listed a w→wpAnyC P C' ops Q cut fuel listed a w
 |0,_,_,_,h=>⟨hC _ h.1,h.2⟩
 | fuel + 1, listed, a, w, h => by
  refine⟨hC _ h.1,?_⟩
  have h2:=h.2
  split at h2
  ·rename_i hc;rw[if_pos hc];exact h2
  ·rename_i hc;rw[if_neg hc];exact⟨h2.1,fun i hi=>wpOp_mono (fun a w=>wpAnyC_mono hC fuel _ a w) (h2.2 i hi)⟩
structure HB(S V:List HP)(cut listed:Array Bool)(fuel:Nat)(P:Program)(base:World)(n:Nat)(L:Env)(f:Frag)(K:Kont):Prop where
 out:∀l q,K= .ops l [] q→Region.noSelect l.toArray=true→q.blind P→∀a w,Fr n a L→Sat base w f (S++V)→
  wpAnyC P (fun w=>∃V,Sat base w f (S++V)) l.toArray (q.den P) cut fuel listed a w
def bPost(P:Program)(base:World)(f:Frag)(S:List HP)(cut listed:Array Bool)(fuel:Nat)(l:List Oper)(q:Post)(e:Exit)(a:Act)(w:World):Prop:=
 Region.noSelect l.toArray=true→q.blind P→match e with
  | .normal=>wpAnyC P (fun w=>∃V,Sat base w f (S++V)) l.toArray (q.den P) cut fuel listed a w
  |e=>q.den P e a w
variable {o:Oper} {V' S V S':List HP} {id:Nat} {ik:IntKind} {f':Frag}
section rules
variable {P:Program} {base:World} {n:Nat} {L:Env} {f:Frag} {A S V:List HP} {q:Post} {cut listed:Array Bool} {fuel:Nat} {ξ:Ext} {tl:List Oper}
variable {l rest:List Oper} {d:Nat} {ty:TypeId} {pos:String} {af:Array Edge} {gd:Option (Nat × Bool)}
theorem HB.quiet(todo:List (Nat×Bool))(left:Nat)(hn:(ordOK l.toArray ⟨listed,cut,left,true⟩ todo&&todo.all (fun t=>(getO l t.1).isSome)&&Nat.beq fuel (todo.length+left))=true)
  (k:HQ V ⟨⟨listed,cut,left,true⟩,todo⟩ P base n L f S (.ops l (pickOps l todo) q)):HB S V cut listed fuel P base n L f (.ops l [] q):=.mk fun l' q' hK hs hb a w hf s=>by
 simp only[Kont.ops.injEq]at hK
 obtain⟨rfl,_,rfl⟩:=hK
 simp only[Bool.and_eq_true,List.all_eq_true]at hn
 obtain⟨⟨h1,h2⟩,h3⟩:=hn
 have h4:fuel=todo.length+left:=Nat.eq_of_beq_eq_true h3
 subst h4
 exact k.out l q rfl hs hb h1 h2 a w hf s
theorem HQ.Aa{ls:Lst}(h0:ls.opn=true)(k:HB A V ls.cut ls.a ls.left P base n L f (.ops l [] q)):HQ V ⟨ls,[]⟩ P base n L f A (.ops l [] q):=.mk fun l' q' hK hs hb ho hg a w hf s=>by
 simp only[Kont.ops.injEq]at hK
 obtain⟨rfl,_,rfl⟩:=hK
 have _:=h0
 have:=k.out l q rfl hs hb a w hf s
 simp only[List.length_nil,Nat.zero_add]
 exact this
theorem HB.done(h0:(Nat.beq fuel 0&&Region.ready .any l.toArray listed == [])=true)(k:H P base n L f (S++V) (.out .normal q)):HB S V cut listed fuel P base n L f (.ops l [] q):=.mk fun l' q' hK hs hb a w hf s=>by
 simp only[Kont.ops.injEq]at hK
 obtain⟨rfl,_,rfl⟩:=hK
 simp only[Bool.and_eq_true,beq_iff_eq]at h0
 have h1:fuel=0:=Nat.eq_of_beq_eq_true h0.1
 subst h1
 exact⟨⟨V,s⟩,h0.2,k.out a w hf s⟩
theorem event_step{i:Nat}{a:Act}(ho:getO l i=some o)(hs:Region.noSelect l.toArray=true)(hb:q.blind P)(hf:Fr n a L)(s:Sat base w f (S++V))
  (k:H P base n L f (S++V) (.ops l [o] (.fn (bPost P base f S cut (listed.setIfInBounds i true) fuel l q)))) :
  wpOp P l.toArray (q.den P) i (wpAnyC P (fun w=>∃V,Sat base w f (S++V)) l.toArray (q.den P) cut fuel (listed.setIfInBounds i true)) a w:=by
 have hk:=k.out a w hf s;unfold wpOp
 rw[List.getElem?_toArray,←getO_eq,ho];show if Region.wanted o (yielded l.toArray a.tmps)=true then _ else _
 have hk':wpList P l.toArray (bPost P base f S cut (listed.setIfInBounds i true) fuel l q) [o] a w:=hk;simp only[wpList]at hk'
 have e1:∀a w,bPost P base f S cut (listed.setIfInBounds i true) fuel l q .normal a w→
   wpAnyC P (fun w=>∃V,Sat base w f (S++V)) l.toArray (q.den P) cut fuel (listed.setIfInBounds i true) a w:=fun a w h=>h hs hb
 by_cases hw:Region.wanted o (yielded l.toArray a.tmps)=true
 ·rw[if_pos hw]at hk'⊢;rcases hk' with h|⟨hasks,x,y,z⟩
  ·exact .inl (upon_mono e1 (fun c a w h=>h hs hb) (fun a w h=>h hs hb) h)
  ·exact .inr ⟨hasks,x,y,z hs hb⟩
 ·rw[if_neg hw]at hk'⊢;exact e1 _ _ hk'
def oneB(l:List Oper)(cut listed:Array Bool)(is:List Nat):Bool:=Region.ready .any l.toArray listed == is&&(listed !=cut)
theorem HB.ev1{i:Nat}(hr:oneB l cut listed [i]=true)(ho:getO l i=some o)
  (k:H P base n L f (S++V) (.ops l [o] (.fn (bPost P base f S cut (listed.setIfInBounds i true) fuel l q)))):HB S V cut listed (fuel+1) P base n L f (.ops l [] q):=.mk fun l' q' hK hs hb a w hf s=>by
 simp only[Kont.ops.injEq]at hK
 obtain⟨rfl,_,rfl⟩:=hK
 simp only[oneB,Bool.and_eq_true,beq_iff_eq,bne_iff_ne,ne_eq]at hr
 exact wpAnyC_one hr.1 hr.2 ⟨V,s⟩ (event_step ho hs hb hf s k)
theorem HB.ev2{i j:Nat}{o':Oper}(hr:oneB l cut listed [i,j]=true)(ho:getO l i=some o)(ho':getO l j=some o')
  (k:H P base n L f (S++V) (.ops l [o] (.fn (bPost P base f S cut (listed.setIfInBounds i true) fuel l q))))
  (k':H P base n L f (S++V) (.ops l [o'] (.fn (bPost P base f S cut (listed.setIfInBounds j true) fuel l q)))):HB S V cut listed (fuel+1) P base n L f (.ops l [] q):=.mk fun l' q' hK hs hb a w hf s=>by
 simp only[Kont.ops.injEq]at hK
 obtain⟨rfl,_,rfl⟩:=hK
 simp only[oneB,Bool.and_eq_true,beq_iff_eq,bne_iff_ne,ne_eq]at hr
 refine⟨⟨V,s⟩,?_⟩
 rw[if_neg hr.2]
 refine⟨(fun h0=>by rw[hr.1]at h0;simp at h0),fun x hx=>?_⟩
 rw[hr.1]at hx
 simp only[List.mem_cons,List.not_mem_nil,or_false]at hx
 rcases hx with rfl|rfl
 ·exact event_step ho hs hb hf s k
 ·exact event_step ho' hs hb hf s k'
theorem H.on(E:List HP)(hg:Le f g)(hB:B=(S++E)++V')(k:HB (S++E) V' cut listed fuel P base n L g (.ops l [] q)):H P base n L g B (.out .normal (.fn (bPost P base f S cut listed fuel l q))):=.mk fun a w hf s hs hb=>by
 subst hB
 refine wpAnyC_mono (fun w ⟨V1,s1⟩=>⟨E++V1,?_⟩) _ _ _ _ (k.out l q rfl hs hb a w hf s)
 rw[←List.append_assoc]
 exact s1.weak hg
theorem H.on0(hB:B=S++V')(k:HB S V' cut listed fuel P base n L f (.ops l [] q)):H P base n L f B (.out .normal (.fn (bPost P base f S cut listed fuel l q))):=.mk fun a w hf s hs hb=>by
 subst hB
 exact k.out l q rfl hs hb a w hf s
theorem H.drawB(hm:P.follows .mixedOrders=true)(hn:Region.noSelect l.toArray=true)(hb:q.blind P)(hB:B=S++V)(k:HB S V #[] (Array.replicate l.length false) l.length P base n L f (.ops l [] q)):H P base n L f B (.code (.region id l.toArray true) q):=.mk fun a w hf s=>by
 refine wp_region_any hm ?_
 subst hB
 have s':Sat base {w with drawn:=w.drawn+1} f (S++V):=s.same rfl rfl rfl rfl
 have:=k.out l q rfl hn hb a _ hf s'
 simpa using wpAnyC.any _ _ _ _ this
theorem H.drawC(upto:List Nat)(hm:P.follows .mixedOrders=true)(hn:Region.noSelect l.toArray=true)(hb:q.blind P)(hB:B=S++V)(k:HB S V (upto.foldl (fun a i=>a.setIfInBounds i true) (Array.replicate l.length false)) (Array.replicate l.length false) l.length P base n L f (.ops l [] q)):H P base n L f B (.code (.region id l.toArray true) q):=.mk fun a w hf s=>by
 refine wp_region_any hm ?_
 subst hB
 have s':Sat base {w with drawn:=w.drawn+1} f (S++V):=s.same rfl rfl rfl rfl
 have:=k.out l q rfl hn hb a _ hf s'
 simpa using wpAnyC.any _ _ _ _ this
theorem HB.next(upto:List Nat)(hc:(listed == cut&&Nat.blt 0 fuel)=true)(hB:S++V=S'++V')
  (k:HB S' V' (match upto with| []=>#[]|_=>upto.foldl (fun a i=>a.setIfInBounds i true) listed) listed fuel P base n L f (.ops l [] q)):HB S V cut listed fuel P base n L f (.ops l [] q):=.mk fun l' q' hK hs hb a w hf s=>by
 simp only[Kont.ops.injEq]at hK
 obtain⟨rfl,_,rfl⟩:=hK
 simp only[Bool.and_eq_true,beq_iff_eq]at hc
 obtain⟨h1,h2⟩:=hc
 have h3:=Nat.le_of_ble_eq_true h2
 obtain⟨m,rfl⟩:∃m,fuel=m+1:=⟨fuel-1,by omega⟩
 refine⟨⟨V,s⟩,?_⟩
 rw[if_pos h1]
 rw[hB]at s
 exact(k.out l q rfl hs hb a w hf s).any
structure HN(listed:Array Bool)(fuel:Nat)(P:Program)(base:World)(n:Nat)(L:Env)(f:Frag)(A:List HP)(K:Kont):Prop where
 out:∀l q,K= .ops l [] q→Region.noSelect l.toArray=true→q.blind P→∀a w,Fr n a L→Sat base w f A→wpAny P .any l.toArray (q.den P) fuel listed a w
theorem wpAnyC_true{ops:Array Oper}{Q:Exit→Act→World→Prop}(h0:ops.size≠0):∀(fuel:Nat) (listed:Array Bool) (a:Act) (w:World),listed.size=ops.size→wpAny P .any ops Q fuel listed a w→wpAnyC P (fun _=>True) ops Q #[] fuel listed a w
 |0,_,_,_,_,h=>⟨trivial,h⟩
 | fuel + 1, listed, a, w, hl, h => by
  refine⟨trivial,?_⟩
  rw[if_neg (by rintro rfl;exact h0 (by simpa using hl.symm))]
  exact⟨h.1,fun i hi=>wpOp_mono (fun a w=>wpAnyC_true h0 fuel _ a w kj) (h.2 i hi)⟩
theorem H.drawN(hm:P.follows .mixedOrders=true)(hn:Region.noSelect l.toArray=true)(hb:q.blind P)
  (k:HN (Array.replicate l.length false) l.length P base n L f A (.ops l [] q)):H P base n L f A (.code (.region id l.toArray true) q):=.mk fun a w hf s=>by
 refine wp_region_any hm ?_
 have s':Sat base {w with drawn:=w.drawn+1} f A:=s.same rfl rfl rfl rfl
 have:=k.out l q rfl hn hb a _ hf s'
 simpa using this
def pureB(l:List Oper)(listed:Array Bool)(i:Nat):Bool:=(Region.ready .any l.toArray listed).contains i&&Region.free .any l.toArray listed i&&barB l.toArray #[] i&&closedB l.toArray listed&&Nat.beq listed.size l.length&&Nat.blt 0 l.length
theorem HN.move{i:Nat}{x:Operand}{v:Value}(hc:pureB l listed i=true)(ho:getO l i=some ⟨some d,.move x,ty,pos,af,gd⟩)(hw:want? l L gd=true)(hx:ev? L x=some v)(hd:Nat.ble (d+1) n=true)
  (k:HN (listed.setIfInBounds i true) fuel P base n ((d,v)::L) f A (.ops l [] q)):HN listed (fuel+1) P base n L f A (.ops l [] q):=.mk fun l' q' hK hs hb a w hf s=>by
 simp only[Kont.ops.injEq]at hK
 obtain⟨rfl,_,rfl⟩:=hK
 simp only[pureB,Bool.and_eq_true]at hc
 obtain⟨⟨⟨⟨⟨h1,h2⟩,h3⟩,h4⟩,h5⟩,h6⟩:=hc
 have h5':listed.size=l.toArray.size:=by simpa using Nat.eq_of_beq_eq_true h5
 have h6':l.toArray.size≠0:=by
  have:=Nat.le_of_ble_eq_true h6;simp only[List.size_toArray];omega
 have hk:=k.out l q rfl hs hb (a.put (some d) v) w (hf.put (Nat.le_of_ble_eq_true hd) v) s
 have hk2:=wpAnyC_true h6' _ _ _ _ (by simpa using h5') hk
 refine wpAnyC.any _ _ _ _ (wpAnyC_take (C:=fun _=>True) (cut:=#[]) (oi:=⟨some d,.move x,ty,pos,af,gd⟩) (v:=v) kJ hs h2 h3 h4 h1 (fun c a w h=>hb c a _ _ w h) (.inl ⟨hf.want hw,fun w' _=>?_⟩) hk2)
 simp[execOp,hf.eval hx]
theorem HN.phase(upto:List Nat)(hB:A=S++V)(k:HB S V (match upto with| []=>#[]|_=>upto.foldl (fun a i=>a.setIfInBounds i true) listed) listed fuel P base n L f (.ops l [] q)):HN listed fuel P base n L f A (.ops l [] q):=.mk fun l' q' hK hs hb a w hf s=>by
 simp only[Kont.ops.injEq]at hK
 obtain⟨rfl,_,rfl⟩:=hK
 subst hB
 exact(k.out l q rfl hs hb a w hf s).any
theorem HQ.Bf{k:IntKind}{p:Int}(hw:want? l L gd=true)(hx:ev? L x=some (.int k p))(hy:ev? L y=some (.int k p2))(hc:bitsI op k p p2=some r)(hz:r=z)(hd:Nat.ble (d+1) n=true){lst:Lst}
  (kk:HQ V ⟨lst.setIfInBounds ti true,tt⟩ P base n ((d,.int k z)::L) f A (.ops l rest q)):HQ V ⟨lst,(ti,false)::tt⟩ P base n L f A (.ops l (⟨some d,.binOp op xt x y yt,ty,pos,af,gd⟩::rest) q):=
 HQ.opV hw hd (fun a w hf _=>by
  cases op<;>simp only[bitsI,Option.some.injEq,reduceCtorEq]at hc<;>subst hc<;>subst hz<;>
   simp[execOp,eqGuard,binOp,Op.intBits,hf.eval hx,hf.eval hy]) kk
theorem HQ.Bo{k:IntKind}{p:Int}(hw:want? l L gd=true)(hx:ev? L x=some (.int k p))(hy:ev? L y=some (.int k2 p2))(hc:shiftI op k p p2=some r)(h0:0≤p2)(hz:r=z)(hd:Nat.ble (d+1) n=true){lst:Lst}
  (kk:HQ V ⟨lst.setIfInBounds ti true,tt⟩ P base n ((d,.int k z)::L) f A (.ops l rest q)):HQ V ⟨lst,(ti,false)::tt⟩ P base n L f A (.ops l (⟨some d,.binOp op xt x y yt,ty,pos,af,gd⟩::rest) q):=
 HQ.opV hw hd (fun a w hf _=>by
  have h1:¬p2<0:=jA
  cases op<;>simp only[shiftI,Option.some.injEq,reduceCtorEq]at hc<;>subst hc<;>subst hz<;>
   simp[execOp,eqGuard,binOp,Op.shift,hf.eval hx,hf.eval hy,h1]) kk
theorem HQ.flip{k:IntKind}{p:Int}(hw:want? l L gd=true)(hx:ev? L x=some (.int k p))(hc:bitsI .xor k (if k.signed then-1 else k.max) p=some r)(hz:r=z)(hd:Nat.ble (d+1) n=true){lst:Lst}
  (kk:HQ V ⟨lst.setIfInBounds ti true,tt⟩ P base n ((d,.int k z)::L) f A (.ops l rest q)):HQ V ⟨lst,(ti,false)::tt⟩ P base n L f A (.ops l (⟨some d,.unOp .xor xt x,ty,pos,af,gd⟩::rest) q):=
 HQ.opV hw hd (fun a w hf _=>by
  simp only[bitsI,Option.some.injEq]at hc
  subst hc;subst hz
  simp[execOp,Op.unary,Op.intBits,hf.eval hx]) kk
theorem HQ.max2{x y:Operand}{ats:Array TypeId}{k:IntKind}{p p2 z:Int}(hw:want? l L gd=true)(hx:ev? L x=some (.int k p))(hy:ev? L y=some (.int k p2))(hz:(if p<p2 then p2 else p)=z)(hd:Nat.ble (d+1) n=true){lst:Lst}{ti:Nat}{tt:List (Nat×Bool)}
  (kk:HQ V ⟨lst.setIfInBounds ti true,tt⟩ P base n ((d,.int k z)::L) f A (.ops l rest q)):HQ V ⟨lst,(ti,false)::tt⟩ P base n L f A (.ops l (⟨some d,.call ⟨.builtin .max,#[x,y],ats⟩,ty,pos,af,gd⟩::rest) q):=
 HQ.opV hw hd (fun a w hf _=>by
  subst hz
  simp[execOp,resolve,invoke,builtin,Builtin.max_,Builtin.max2,hf.eval hx,hf.eval hy]) kk
theorem HQ.aggEq{xs:List Value}{b:Bool}(hw:want? l L gd=true)(hx:ev? L x=some (.agg xs.toArray))(hy:ev? L y=some (.agg ys.toArray))(ho:op= .eql)
  (hg:P.eqGuardType P.depth xt=false) (h1:shp P D xt xs=true) (h2:shp P D xt ys=true) (hm:(match P.underlying xt with|some (.array _ _)|some (.struct _)=>true|_=>false)=true) (hD:D≤10000) (hb:eqC xs ys=b) (hd:Nat.ble (d+1) n=true) {lst:Lst}
  (kk:HQ V ⟨lst.setIfInBounds ti true,tt⟩ P base n ((d,.bool b)::L) f A (.ops l rest q)):HQ V ⟨lst,(ti,false)::tt⟩ P base n L f A (.ops l (⟨some d,.binOp op xt x y yt,ty,pos,af,gd⟩::rest) q):=
 HQ.opV hw hd (fun a w hf _=>by
  subst ho;subst hb
  have hmk:∀zs:List Value,mkV P xt zs= .agg zs.toArray:=fun zs=>by
   unfold mkV
   split at hm<;>simp_all
  have h3:=zbn 10000 xt w D D xs ys h1 h2 hD
  rw[hmk,hmk]at h3
  refine run_bin _ ?_ ?_
  ·rw[hf.eval hx,hf.eval hy]
   simp[eqGuard,hg]
  ·rw[hf.eval hx,hf.eval hy]
   show Sem.run P (do pure (Value.bool (←Op.equal xt (.agg xs.toArray) (.agg ys.toArray)))) w=_
   have h4:Sem.run P (Op.equal xt (.agg xs.toArray) (.agg ys.toArray)) w= .ok (eqC xs ys) w:=h3
   simp[h4]) kk
theorem HQ.aggNe{xs:List Value}{b:Bool}(hw:want? l L gd=true)(hx:ev? L x=some (.agg xs.toArray))(hy:ev? L y=some (.agg ys.toArray))(ho:op= .neq)
  (hg:P.eqGuardType P.depth xt=false) (h1:shp P D xt xs=true) (h2:shp P D xt ys=true) (hm:(match P.underlying xt with|some (.array _ _)|some (.struct _)=>true|_=>false)=true) (hD:D≤10000) (hb:(!eqC xs ys)=b) (hd:Nat.ble (d+1) n=true) {lst:Lst}
  (kk:HQ V ⟨lst.setIfInBounds ti true,tt⟩ P base n ((d,.bool b)::L) f A (.ops l rest q)):HQ V ⟨lst,(ti,false)::tt⟩ P base n L f A (.ops l (⟨some d,.binOp op xt x y yt,ty,pos,af,gd⟩::rest) q):=
 HQ.opV hw hd (fun a w hf _=>by
  subst ho;subst hb
  have hmk:∀zs:List Value,mkV P xt zs= .agg zs.toArray:=fun zs=>by
   unfold mkV
   split at hm<;>simp_all
  have h3:=zbn 10000 xt w D D xs ys h1 h2 hD
  rw[hmk,hmk]at h3
  refine run_bin _ ?_ ?_
  ·rw[hf.eval hx,hf.eval hy]
   simp[eqGuard,hg]
  ·rw[hf.eval hx,hf.eval hy]
   show Sem.run P (do pure (Value.bool (!(←Op.equal xt (.agg xs.toArray) (.agg ys.toArray))))) w=_
   have h4:Sem.run P (Op.equal xt (.agg xs.toArray) (.agg ys.toArray)) w= .ok (eqC xs ys) w:=h3
   simp[h4]) kk
theorem H.index_arrT[hu:Und P t (.array m e)][hs:Siz P e sz](hw:want? l L gd=true)
  (hx:ev? L x=some (.pointer (some ⟨b,off,none⟩))) (hy:ev? L y=some (.int ik z)) (hq:0≤z∧z.toNat<m) (hd:Nat.ble (d+1) n=true)
  (k:H P base n ((d,.pointer (some ⟨b,off+z.toNat *sz,none⟩))::L) f A (.ops l rest q)):H P base n L f A (.ops l (⟨some d,.indexAddr t x y,ty,pos,af,gd⟩::rest) q):=
 H.Al hw hx hy jA hq.2 hd k
theorem HQ.index_arrT[hu:Und P t (.array m e)][hs:Siz P e sz](hw:want? l L gd=true)
  (hx:ev? L x=some (.pointer (some ⟨b,off,none⟩))) (hy:ev? L y=some (.int ik z)) (hq:0≤z∧z.toNat<m) (hd:Nat.ble (d+1) n=true) {lst:Lst}
  (k:HQ V ⟨lst.setIfInBounds ti true,tt⟩ P base n ((d,.pointer (some ⟨b,off+z.toNat *sz,none⟩))::L) f A (.ops l rest q)):HQ V ⟨lst,(ti,false)::tt⟩ P base n L f A (.ops l (⟨some d,.indexAddr t x y,ty,pos,af,gd⟩::rest) q):=
 HQ.Al hw hx hy jA hq.2 hd k
theorem H.Ax{t:Nat}{dd:TypeDesc}[hu:Und P ty dd][hs:Siz P ty m](hr:fn.results= #[.cell t ty])(hv:look? L t=some (.pointer (some ⟨b,off,none⟩)))(ha:aggD dd=true)
  (hrd:Rd f A b off ls) (hm:ls.length=m) (hA:∀w,Sat base w f A→Sat base w f A') (h:R (.agg ls.toArray) f A') (hmk:mk? L=none:=by exact rfl):H P base n L f A (.out .ret (.fn (FnPost P fn base R))):=.mk fun a w hf s=>by
 show bodyPost P fn (fun e w'=>∃v f' A',e= .returned v∧R v f' A'∧Sat base w' f' A') .ret a w
 refine bodyPost_ret (v:=.agg ls.toArray) ?_ (hf.bare hmk) ⟨_,f,A',rfl,h,hA w s⟩
 have h1:=hf.get t _ hv
 have h2:a.tmps.getD t undef= .pointer (some ⟨b,off,none⟩):=by simp[Array.getD_eq_getD_getElem?,h1]
 have h3:=run_loadAtN (P:=P) hu ha hs (hrd base w s) hm
 unfold Instr.loadAt Instr.sureAddr at h3
 exact results_cell hr h2 (by simpa using h3)
theorem H.callVE{cs:List Value}{v:α→Value}{Ai:α→List HP}(hx:ev? L x=some (.func (.func fid) fs.toArray cs.toArray))[hfun:Fun P fid](hw:want? l L gd=true)(hd:Nat.ble (d+1) n=true)
  (hxs:evs? L xs=some vs) (hc:Fn P fid (fs++vs++cs) f A (RetE v f' Ai)) (k:∀i,H P base n ((d,v i)::L) f' (Ai i) (.ops l rest q)) :
  H P base n L f A (.ops l (⟨some d,.call ⟨.value x,xs.toArray,ats⟩,ty,pos,af,gd⟩::rest) q):=
 H.callV hx hw hd hxs hc fun _ _ _ h=>by obtain⟨i,rfl,rfl,rfl⟩:=h;exact k i
theorem H.callVE2{cs:List Value}{v:α→β→Value}{Ai:α→β→List HP}(hx:ev? L x=some (.func (.func fid) fs.toArray cs.toArray))[hfun:Fun P fid](hw:want? l L gd=true)(hd:Nat.ble (d+1) n=true)
  (hxs:evs? L xs=some vs) (hc:Fn P fid (fs++vs++cs) f A (fun u g B=>∃i j,u=v i j∧g=f'∧B=Ai i j)) (k:∀i j,H P base n ((d,v i j)::L) f' (Ai i j) (.ops l rest q)) :
  H P base n L f A (.ops l (⟨some d,.call ⟨.value x,xs.toArray,ats⟩,ty,pos,af,gd⟩::rest) q):=
 H.callV hx hw hd hxs hc fun _ _ _ h=>by obtain⟨i,j,rfl,rfl,rfl⟩:=h;exact k i j
end rules
def qz:List Nat→List (Nat×Bool)
 | []=>[]
 |i::r=>(i,false)::qz r
variable {listed:Array Bool} {fuel:Nat}
theorem HB.qu{cut:Array Bool}(is:List Nat)(left:Nat)(k:HQ V ⟨⟨listed,cut,left,true⟩,qz is⟩ P base n L f S (.ops l (pickOps l (qz is)) q))(hn:(ordOK l.toArray ⟨listed,cut,left,true⟩ (qz is)&&(qz is).all (fun t=>(getO l t.1).isSome)&&Nat.beq fuel ((qz is).length+left))=true:=by kernel_rfl):HB S V cut listed fuel P base n L f (.ops l [] q):=HB.quiet (qz is) left hn k
theorem HB.ev{cut:Array Bool}(i:Nat)(k:H P base n L f (S++V) (.ops l [o] (.fn (bPost P base f S cut (listed.setIfInBounds i true) fuel l q))))(hr:oneB l cut listed [i]=true:=by kernel_rfl)(ho:getO l i=some o:=by exact rfl):HB S V cut listed (fuel+1) P base n L f (.ops l [] q):=HB.ev1 hr ho k
theorem HB.dn{cut:Array Bool}(k:H P base n L f (S++V) (.out .normal q))(h0:(Nat.beq fuel 0&&Region.ready .any l.toArray listed == [])=true:=by kernel_rfl):HB S V cut listed fuel P base n L f (.ops l [] q):=HB.done h0 k
theorem H.db(hB:B=S++V)(k:HB S V #[] (Array.replicate l.length false) l.length P base n L f (.ops l [] q))(hm:P.follows .mixedOrders=true:=by kernel_rfl)(hn:Region.noSelect l.toArray=true:=by decide+kernel)(hb:q.blind P:=by with_reducible (repeat(first|exact zad|refine zab ?_|refine zah ?_|refine zak ?_))):H P base n L f B (.code (.region id l.toArray true) q):=H.drawB hm hn hb hB k
theorem H.dc(upto:List Nat)(hB:B=S++V)(k:HB S V (upto.foldl (fun a i=>a.setIfInBounds i true) (Array.replicate l.length false)) (Array.replicate l.length false) l.length P base n L f (.ops l [] q))(hm:P.follows .mixedOrders=true:=by kernel_rfl)(hn:Region.noSelect l.toArray=true:=by decide+kernel)(hb:q.blind P:=by with_reducible (repeat(first|exact zad|refine zab ?_|refine zah ?_|refine zak ?_))):H P base n L f B (.code (.region id l.toArray true) q):=H.drawC upto hm hn hb hB k
theorem HB.nx{cut:Array Bool}(upto:List Nat)(hB:S++V=S'++V')(k:HB S' V' (match upto with| []=>#[]|_=>upto.foldl (fun a i=>a.setIfInBounds i true) listed) listed fuel P base n L f (.ops l [] q))(hc:(listed == cut&&Nat.blt 0 fuel)=true:=by kernel_rfl):HB S V cut listed fuel P base n L f (.ops l [] q):=HB.next upto hc hB k
end Go.Proofs.YtkaknokcbhiigaaGreatDoor

namespace Go.Proofs.YtkaknokcbhiigaaGreatDoor
open Go Go.Proofs.Tryz Go.ChangeShapes Go.WideShapes Go.RowKit Go.Deep
def memOf(W:World):Frag:=fun k=>W.heap[k]?
theorem sat_start(W:World):Sat W W (memOf W) []:=
 ⟨rfl,rfl,rfl,Nat.le_refl _,fun _ _ h=>h,nil0,rfl,Dj.nil _,fun k o h=>by cases h⟩
variable {W:World}
theorem Sat.below{w:World}{A:List HP}(s:Sat W w (memOf W) A):Below W.heap.size W w:=
 ⟨s.os, s.tape, s.output, s.size, fun k hk => by
  have e:W.heap[k]?=some W.heap[k]:=Array.getElem?_eq_getElem hk
  rw[e];exact s.imm k _ e⟩
variable {v:Value}
section
variable {H':Type} {enc:TypeId × Value→H'} {P:Program}
theorem trodAll_below{W W':World}(hl:laidOutB P=true)(hb:Below W.heap.size W W'){sp:Nat→Bool}:∀ {ts:List TypeId} {vs:List Value} {ds:List (DataW H')} {ps:List MemPlace},
  (∀t∈ts,P.readableRec t=true∧t<P.types.size)→DataW.TrodAll enc P W 0 (fun _=>true) true ts vs ds ps→(∀x∈ps,x.block<W.heap.size)→(∀x∈ps,sp x.block=true)→
  DataW.TrodAll enc P W' 0 sp true ts vs ds ps
 | [],[],[],_,_,h,_,_=>h
 | t :: ts, v :: vs, d :: ds, ps, hr, h, hlt, hsp => by
  obtain⟨p,q,h1,h2,rfl⟩:=h
  exact⟨p,q,WideElems.Trod_stays hl (hr t jK).1 (hr t jK).2 h1 (fun x hx=>hb.same (hlt x kr)) (fun x hx=>hsp x kr),
   trodAll_below hl hb (fun u hu=>hr u (by simp[hu])) h2 (fun x hx=>hlt x kr) (fun x hx=>hsp x kr),rfl⟩
theorem trodAll_len{W:World}{b:Nat}{sp:Nat→Bool}{hd:Bool}:∀ {ts:List TypeId} {vs:List Value} {ds:List (DataW H')} {ps:List MemPlace},DataW.TrodAll enc P W b sp hd ts vs ds ps→ds.length=ts.length
 | [],[],[],_,_=>rfl
 | _ :: _, _ :: _, _ :: _, _, h => by
  obtain⟨p,q,h1,h2,rfl⟩:=h
  simp[trodAll_len h2]
theorem post_own{fn:Func}{s:ChangeSpec}{apart fresh handsOn again:Bool}{W':World}{args:Array Value}{ds:List (DataW H')}{p:List MemPlace}
  (hW:DataW.Whole enc P fn.params.toList s.vars apart W args.toList ds [] p) (hv:s.vars=[])
  (hA:DataW.TrodAll enc P W 0 (fun _=>true) true fn.params.toList args.toList ds p)
  (hl:laidOutB P=true) (hts:∀t∈fn.params.toList,P.readableRec t=true∧t<P.types.size)
  (hres:∀(b:Nat) (sp:Nat→Bool) (hd:Bool),DataW.TrodAll enc P W' b sp hd fn.resultTypes.toList (v.resultList fn.resultTypes.size) (s.fn H' (ds++[])).results [])
  (hargs:(s.fn H' (ds++[])).args=ds) (hvars:(s.fn H' (ds++[])).vars=[])
  (hb:Below W.heap.size W W')
  (hok:∀(j:Nat) (t:TypeId) (r:Value),fn.resultTypes[j]?=some t→(v.resultList fn.resultTypes.size)[j]?=some r→Value.okWide P W' .any 0 t r) :
  s.post enc P fn apart fresh handsOn again W args v W':=by
 have hlt:=hW.lt;have hold:∀x∈p,(fun b=>decide (b<W.heap.size)) x.block=true:=fun x hx=>by simpa using hlt x hx
 have args':∀sp:Nat→Bool,(∀x∈p,sp x.block=true)→DataW.TrodAll enc P W' 0 sp true fn.params.toList args.toList (s.fn H' (ds++[])).args p:=fun sp hsp=>by
  rw[hargs];exact trodAll_below hl hb hts hA hlt hsp
 have vars':∀sp:Nat→Bool,DataW.TrodVars enc P W' sp s.vars (s.fn H' (ds++[])).vars []:=fun sp=>by rw[hvars,hv];exact rfl
 refine⟨ds,[],p,[],p,[],hW,hres _ _ _,args' _ hold,vars' _,World.keptBut_mono (fun x hx=>⟨hx,?_⟩) (hb.frame (· ∈p)),fun _=>?_⟩
 ·exact .inr js
 ·obtain⟨_,_,_,_,_,hz,hn⟩:=hW;refine⟨hok,_,_,([]++p)++[],⟨[]++p,[],trodAll_append (args' _ (fun _ _=>rfl)) (hres _ _ _),vars' _,rfl,?_,?_⟩,?_⟩
  ·intro b off hp;have hp':MemPlace.cell b off∈p:=by simpa using hp
   rw[hb.frozen (p:=⟨b,off,none⟩) (hlt _ hp')];exact hz b off hp'
  ·intro ha
   have:=hn ha;simpa using this
  ·intro x hx _;simpa using hx
end
/-! ### Arguments: what their cells are -/
def Reads(P:Program)(W:World)(t:TypeId)(cs:List Value):Prop:=
 ∃(H':Type) (enc:TypeId×Value→H') (base:Nat) (spare:Nat→Bool) (held:Bool) (fuel:Nat) (x:DataW H'×List MemPlace),DataW.trod enc P W base spare held fuel t cs=some x
def ArgOk(P:Program)(W:World)(t:TypeId)(v:Value):Prop:=(∃b,Value.okWide P W .any b t v)∧Reads P W t v.cells.toList
def ArgsOk(P:Program)(W:World):List TypeId→List Value→Prop
 | [],[]=>True
 |t::ts,v::vs=>ArgOk P W t v∧ArgsOk P W ts vs
 |_,_=>False
theorem argsOk_of{H':Type}{enc:TypeId×Value→H'}{P:Program}{W:World}{b:Nat}{sp:Nat→Bool}{hd:Bool}:∀ {ts:List TypeId} {vs:List Value} {ds:List (DataW H')} {ps:List MemPlace},
  DataW.TrodAll enc P W b sp hd ts vs ds ps→(∀(j:Nat) t v,ts[j]?=some t→vs[j]?=some v→∃b,Value.okWide P W .any b t v)→ArgsOk P W ts vs
 | [],[],[],_,_,_=>trivial
 | t :: ts, v :: vs, d :: ds, _, h, hv => by
  obtain⟨p,q,⟨n,h1⟩,h2,rfl⟩:=h
  exact⟨⟨hv 0 t v rfl rfl,H',enc,b,sp,hd,n,_,h1⟩,argsOk_of h2 fun j t v=>hv (j+1) t v⟩
theorem wf_int{k:IntKind}{z:Int}(h:(Lit.int k z).wf=true):k.min≤z∧z≤k.max:=by
 simpa [Lit.wf]using h
variable {P:Program} {t:TypeId}
theorem Reads.int{cs:List Value}{k:IntKind}(ht:P.underlying t=some (.int k))(h:Reads P W t cs):∃z,cs=[.int k z]∧k.min≤z∧z≤k.max:=by
 obtain⟨H',enc,b,sp,hd,n,x,h⟩:=h;obtain⟨z,h1,_,h2⟩:=DataW.trod_int ht h;exact⟨z,h1,wf_int h2⟩
theorem ArgOk.int{P:Program}{W:World}{t:TypeId}{v:Value}{k:IntKind}(ht:P.underlying t=some (.int k))(h:ArgOk P W t v):∃z,v= .int k z∧k.min≤z∧z≤k.max:=by
 obtain⟨⟨b,h1⟩,h2⟩:=h;obtain⟨z,rfl⟩:=okWide_int ht h1;obtain⟨z',e,h3⟩:=h2.int ht;simp[Value.cells]at e;subst e;exact⟨z,rfl,h3⟩
theorem Reads.struct{cs:List Value}{fs:Array Field}(ht:P.underlying t=some (.struct fs))(h:Reads P W t cs):cs.length=P.cellsOf t∧∀(i:Nat) (f:Field),fs[i]?=some f→Reads P W f.type ((cs.drop f.offset).take (P.cellsOf f.type)):=by
 obtain⟨H',enc,b,sp,hd,n,x,h⟩:=h;obtain⟨xs,n,rfl,_,h1,h2,h3⟩:=DataW.trod_struct ht h;refine⟨h1,fun i f hf=>?_⟩;have hi:i<xs.length:=by rw[h2];exact(Array.getElem?_eq_some_iff.1 hf).1
 exact⟨H',enc,b,sp,hd,n,xs[i],(h3 i f hf).trans (lgE hi)⟩
def ElemsAt(f:Frag)(p:Option Addr)(sz n:Nat)(g:Nat→List Value):Prop:=
 ∀i,i<n→(g i).length=sz∧∃b off cs T fr,p=some ⟨b,off,none⟩∧f b=some (.cells cs T fr)∧∀j,j<sz→cs[off+i*sz+j]?=(g i)[j]?
theorem add_add'(a:Addr)(i j:Nat):(a.add i).add j=a.add (i+j):=by
 unfold Addr.add;by_cases h:i=0
 ·subst h;simp
 ·by_cases h2:j=0
  ·subst h2;simp
  ·have:¬i+j=0:=jA
   simp[h,h2,this,Nat.add_assoc]
theorem cell_spot{a:Addr}(h:W.cell? a=some v):∃cs T fr,a=⟨a.block,a.off,none⟩∧W.heap[a.block]?=some (.cells cs T fr)∧cs[a.off]?=some v:=by
 unfold World.cell? at h;split at h
 ·rename_i c T fr e
  split at h
  ·cases h
  ·rename_i hs
   refine⟨c,T,fr,?_,e,h⟩;obtain⟨b,o,s⟩:=a
   cases s with
   |none=>rfl
   |some x=>simp at hs
 ·cases h
variable {e:TypeId}
theorem Reads.slice{cs:List Value}(ht:P.underlying t=some (.slice e))(h0:0<P.cellsOf e)(h:Reads P W t cs):∃(p:Option Addr) (n c:Nat) (g:Nat→List Value),cs=[.slice p n c]∧n≤c∧c≤maxLen∧ElemsAt (memOf W) p (P.cellsOf e) n g∧∀i,i<n→Reads P W e (g i):=by
 obtain⟨H',enc,b,sp,hd,n,x,h⟩:=h;rcases open_slice ht h with⟨rfl,_⟩|⟨a,len,cap,m,k,D,Pl,rfl,hb,hl,hm,hmm,_,hi⟩
 ·exact⟨none,0,0,fun _=>[],rfl,Nat.le_refl _,by simp[maxLen],fun i hi=>by omega,fun i hi=>by omega⟩
 ·have hlm:len≤m:=by subst hmm;split<;>omega
  have hi':∀i,∃cs',i<len→(W.cells? b (a.add (i*P.cellsOf e)) (P.cellsOf e)=some cs'∧Reads P W e cs'):=fun i=>by
   by_cases hil:i<len
   ·obtain⟨cs',h1,h2⟩:=hi i jA;exact⟨cs',fun _=>⟨h1,H',enc,b,sp,hd,k,_,h2⟩⟩
   ·exact⟨[],fun h=>absurd h hil⟩
  obtain ⟨g, hG⟩ : ∃ g : Nat → List Value, ∀ i, i < len → W.cells? b (a.add (i * P.cellsOf e)) (P.cellsOf e) = some (g i) ∧ Reads P W e (g i) := ⟨fun i => (hi' i).choose, fun i h => (hi' i).choose_spec h⟩;refine ⟨some a, len, cap, g, rfl, hl, hm, fun i hil => ?_, fun i hil => (hG i hil).2⟩;obtain ⟨_, hlen, hget⟩ := World.cells?_some (hG i hil).1;refine ⟨hlen, ?_⟩;-- the base address bears no spot
  have hspot:∃cs T fr,a=⟨a.block,a.off,none⟩∧W.heap[a.block]?=some (.cells cs T fr):=by
   obtain⟨_,hl0,hg0⟩:=World.cells?_some (hG 0 jA).1;have h00:=hg0 0 h0;have:(g 0)[0]?=some ((g 0)[0]' jA):=lgE jA
   rw[this]at h00;have e1:(a.add (0*P.cellsOf e)).add 0=a:=by simp[Addr.add]
   rw[e1]at h00;obtain⟨cs,T,fr,h1,h2,_⟩:=cell_spot h00;exact⟨cs,T,fr,h1,h2⟩
  obtain⟨cs,T,fr,hs,hh⟩:=hspot;refine⟨a.block,a.off,cs,T,fr,by rw[←hs],hh,fun j hj=>?_⟩;have hg:=hget j hj;have hv:(g i)[j]?=some ((g i)[j]' jA):=lgE jA
  rw[hv]at hg
  have ha:(a.add (i*P.cellsOf e)).add j=⟨a.block,a.off+(i*P.cellsOf e+j),none⟩:=by
   rw[add_add',hs,zba]
  rw[ha]at hg;simp only[World.cell?,hh,Option.isSome_none,Bool.false_eq_true,if_false]at hg;rw[hv,←hg,Nat.add_assoc]
theorem elems_list{α:Type}{vals:α→List Value}{Q:α→Prop}{g:Nat→List Value}:∀ {n:Nat},(∀i,i<n→∃x,Q x∧g i=vals x)→∃xs:List α,xs.length=n∧(∀x∈xs,Q x)∧∀i x,xs[i]?=some x→g i=vals x
 |0,_=>⟨[],rfl,by simp,by simp⟩
 | n + 1, h => by
  obtain⟨xs,h1,h2,h3⟩:=elems_list (n:=n) fun i hi=>h i jA
  obtain⟨x,hq,hx⟩:=h n jA
  refine⟨xs++[x],by simp[h1],?_,?_⟩
  ·intro y hy
   simp only[List.mem_append,List.mem_singleton]at hy
   rcases hy with hy|rfl
   ·exact h2 y hy
   ·exact hq
  ·intro i y hy
   rw[List.getElem?_append]at hy
   split at hy
   ·exact h3 i y hy
   ·rename_i hi
    have:i-xs.length=0:=by
     rcases Nat.eq_zero_or_pos (i-xs.length)with h|h
     ·exact h
     ·rw[List.getElem?_eq_none je]at hy;cases hy
    rw[this]at hy
    have e:i=n:=jA
    simp at hy
    subst hy;subst e
    exact hx
def ListAt{α:Type}(f:Frag)(p:Option Addr)(sz:Nat)(vals:α→List Value)(xs:List α):Prop:=
 ∀i x,xs[i]?=some x→∃b off cs T fr,p=some ⟨b,off,none⟩∧f b=some (.cells cs T fr)∧∀j,j<(vals x).length→cs[off+i*sz+j]?=(vals x)[j]?
theorem Reads.list{cs:List Value}{α:Type}{vals:α→List Value}{Q:α→Prop}{sz:Nat}(ht:P.underlying t=some (.slice e))(hsz:P.cellsOf e=sz)(h0:0<sz)
  (hr:∀cs,Reads P W e cs→∃x,Q x∧cs=vals x) (h:Reads P W t cs) :
  ∃(p:Option Addr) (c:Nat) (xs:List α),cs=[.slice p xs.length c]∧xs.length≤c∧c≤maxLen∧(∀x∈xs,Q x)∧ListAt (memOf W) p sz vals xs:=by
 subst hsz;obtain⟨p,n,c,g,e1,h1,h2,h3,h4⟩:=h.slice ht h0;obtain⟨xs,rfl,hq,hg⟩:=elems_list fun i hi=>hr _ (h4 i hi);refine⟨p,c,xs,e1,h1,h2,hq,fun i x hx=>?_⟩
 have hi:i<xs.length:=by
  rcases Nat.lt_or_ge i xs.length with h|h
  ·exact h
  ·rw[List.getElem?_eq_none h]at hx;cases hx
 obtain⟨hl,b,off,cs,T,fr,a1,a2,a3⟩:=h3 i hi;refine⟨b,off,cs,T,fr,a1,a2,fun j hj=>?_⟩;rw[←hg i x hx]at hj⊢;exact a3 j jA
theorem ArgOk.list{P:Program}{W:World}{t e:TypeId}{v:Value}{α:Type}{vals:α→List Value}{Q:α→Prop}{sz:Nat}(ht:P.underlying t=some (.slice e))(hsz:P.cellsOf e=sz)(h0:0<sz)
  (hr:∀cs,Reads P W e cs→∃x,Q x∧cs=vals x) (h:ArgOk P W t v) :
  ∃(p:Option Addr) (c:Nat) (xs:List α),v= .slice p xs.length c∧xs.length≤c∧c≤maxLen∧(∀x∈xs,Q x)∧ListAt (memOf W) p sz vals xs:=by
 obtain⟨⟨b,h1⟩,h2⟩:=h;obtain⟨p,c,xs,e1,r⟩:=h2.list ht hsz h0 hr;refine⟨p,c,xs,?_,r⟩;obtain⟨p',n',c',rfl⟩:=okWide_slice ht h1;simpa [Value.cells]using e1
end Go.Proofs.YtkaknokcbhiigaaGreatDoor

namespace Go.Proofs.YtkaknokcbhiigaaGreatDoor
open Go Go.Proofs.Tryz
/-! ### Lists of structs -/
variable {j n c:Nat} {l':List Value} {v:Value} {f g:Frag} {A A':List HP} {T:TypeId} {p:Option Addr} {P:Program}
section
variable {α:Type} {vals:α→List Value} {sz:Nat}
theorem zbr(hv:∀x,(vals x).length=sz):∀xs:List α,(xs.flatMap vals).length=xs.length*sz
 | []=>by simp
 |x::xs=>by rw[List.flatMap_cons,lnA,hv,zbr hv xs,List.length_cons,Nat.add_mul];omega
theorem flat_split(xs:List α){i:Nat}{x:α}(h:xs[i]?=some x):xs.flatMap vals=(xs.take i).flatMap vals++vals x++(xs.drop (i+1)).flatMap vals:=by
 have hi:i<xs.length:=qcO
 have e:xs=xs.take i++x::xs.drop (i+1):=by
  have h2:xs[i]=x:=by rw[lgE hi]at h;exact Option.some.inj h
  rw[←h2,List.getElem_cons_drop,List.take_append_drop]
 conv=>lhs;rw[e]
 simp
theorem flat_get(hv:∀x,(vals x).length=sz){xs:List α}{i:Nat}{x:α}(h:xs[i]?=some x)(hj:j<sz):(xs.flatMap vals)[i*sz+j]?=(vals x)[j]?:=by
 have hi:i<xs.length:=qcO
 have hl:((xs.take i).flatMap vals).length=i*sz:=by rw[zbr hv,List.length_take,Nat.min_eq_left jA]
 rw[flat_split xs h,List.append_assoc,List.getElem?_append_right jA,hl,show i*sz+j-i*sz=j by omega,List.getElem?_append_left (by rw[hv];exact hj)]
theorem SetV.app'{l:List Value}{i:Nat}(h:SetV l i v l')(post:List Value):SetV (l++post) i v (l'++post):=by
 induction h with
 |here x v t=>exact .here _ _ _
 |there x h ih=>exact .there _ ih
theorem SetV.mid'{l:List Value}{i:Nat}(h:SetV l i v l')(pre post:List Value):SetV (pre++l++post) (pre.length+i) v (pre++l'++post):=by
 rw[List.append_assoc,List.append_assoc]
 induction pre with
 |nil=>rw[List.length_nil,Nat.zero_add];exact h.app' post
 | cons p pre ih =>
  exact qcZ
theorem flat_take(hv:∀x,(vals x).length=sz)(xs:List α)(k:Nat):(xs.flatMap vals).take (k*sz)=(xs.take k).flatMap vals:=by
 rcases Nat.lt_or_ge k xs.length with h|h
 ·have hl:((xs.take k).flatMap vals).length=k*sz:=by rw[zbr hv,List.length_take,Nat.min_eq_left jA]
  conv=>lhs;rw[←List.take_append_drop k xs,List.flatMap_append]
  rw[←hl,List.take_left]
 ·rw[List.take_of_length_le (by rw[zbr hv];exact Nat.mul_le_mul_right _ h),List.take_of_length_le h]
theorem Rd.slcElem{b:Nat}{xs:List α}(hv:∀x,(vals x).length=sz)(h0:0<sz)(h:At A (slc (some ⟨b,0,none⟩) n c T sz (xs.flatMap vals)) A' (slc (some ⟨b,0,none⟩) n c T sz (xs.flatMap vals)))
  {i:Nat} {x:α} (hx:xs[i]?=some x):Rd f A b (i*sz) (vals x):=by
 have hi:i<xs.length:=qcM
 have hl:((xs.take i).flatMap vals).length=i*sz:=by rw[zbr hv,List.length_take,Nat.min_eq_left jA]
 intro base w s;obtain⟨h1,h2,h3⟩:=s.slc_at h;rw[zbr hv]at h1;rcases h3 with⟨rfl,rfl⟩|⟨b',sp,e,_,_,hw⟩
 ·rw[Nat.zero_mul]at h1;rcases Nat.mul_eq_zero.1 h1 with h|h<;>omega
 ·cases e
  refine⟨_,_,_,hw,fun j hj=>?_⟩;rw[hv]at hj
  have:=flat_get hv hx hj;simp only[List.getElem?_toArray]
  rw[List.getElem?_append_left ?_,this];rcases Nat.lt_or_ge (i*sz+j) (xs.flatMap vals).length with h|h
  ·exact h
  ·rw[List.getElem?_eq_none h]at this;rw[lgE (by rw[hv];exact hj)]at this;cases this
theorem Le.right(h:Dj f g):Le g (Proofs.YtkaknokcbhiigaaGreatDoor.un f g):=fun k o hk=>by
 rcases h k with e|e
 ·simp[Proofs.YtkaknokcbhiigaaGreatDoor.un,e,hk]
 ·rw[e]at hk;cases hk
theorem ListAt.mono(h:Le f g){xs:List α}(hl:ListAt f p sz vals xs):ListAt g p sz vals xs:=fun i x hx=>by
 obtain⟨b,off,cs,T,fr,h1,h2,h3⟩:=hl i x hx
 exact⟨b,off,cs,T,fr,h1,h _ _ h2,h3⟩
theorem ListAt.nil(f:Frag)(p:Option Addr):ListAt f p sz vals ([]:List α):=fun i x h=>by simp at h
theorem zbh(hv:∀x,(vals x).length=sz){xs:List α}(h:slc p xs.length c T sz (xs.flatMap vals) g):ListAt g p sz vals xs:=fun i x hx=>by
 obtain⟨_,_,h3⟩:=h
 have hi:i<xs.length:=qcM
 rcases h3 with⟨h0,_,_⟩|⟨b,sp,rfl,h4,h5,rfl⟩
 ·omega
 ·refine⟨b,0,(xs.flatMap vals++sp).toArray,T,(0,0),rfl,by simp[sing],fun j hj=>?_⟩
  have hj':j<sz:=by rw[←hv x];exact hj
  have:=flat_get hv hx hj'
  rw[Nat.zero_add]
  simp only[List.getElem?_toArray]
  rw[List.getElem?_append_left ?_,this]
  rcases Nat.lt_or_ge (i*sz+j) (xs.flatMap vals).length with h|h
  ·exact h
  ·rw[List.getElem?_eq_none h]at this
   rw[lgE hj]at this
   cases this
theorem ListAt.src(hv:∀x,(vals x).length=sz)(h0:0<sz){xs:List α}(h:ListAt f p sz vals xs):Src P f A (.slice p xs.length c) sz xs.length (xs.flatMap vals):=by
 cases xs with
 | nil =>
  refine⟨fun w=>rfl,fun base w s=>?_,by simp⟩
  cases p with
  |none=>exact run_firstCells_none w sz 0 0 c
  |some a=>exact run_firstCells_some w sz 0 a 0 c [] jK jK
 | cons x0 r =>
  obtain⟨b,off,cs,T,fr,rfl,hf,_⟩:=h 0 x0 rfl;refine Src.slice (Rd.imm hf fun i hi=>?_) (zbr hv _);rw[zbr hv]at hi;have hq:i / sz<(x0::r).length:=(Nat.div_lt_iff_lt_mul h0).2 hi;obtain⟨b2,off2,cs2,T2,fr2,e2,hf2,h3⟩:=h (i / sz) _ (lgE hq)
  cases e2
  rw[hf]at hf2;cases hf2
  have hm:i % sz<sz:=Nat.mod_lt _ h0;have h4:=h3 (i % sz) (by rw[hv];exact hm)
  have h5:=flat_get hv (lgE hq) hm;have h6:i / sz*sz+i % sz=i:=by rw[Nat.mul_comm];exact Nat.div_add_mod i sz
  rw[h6]at h5;rw[Nat.add_assoc,h6]at h4;rw[h4,h5]
end
/-! ### Parts of an owned slice -/
/-! ### Results: a struct in a cell of its own, and a value -/
variable {fn:Func} {ty:TypeId} {off:Nat}
theorem results_cell_tmp{t u:Tmp}{tmps:Array Value}{w:World}{b:Nat}{x:Value}(h:fn.results= #[.cell t ty,.tmp u])(hp:tmps.getD t undef= .pointer (some ⟨b,off,none⟩))(hx:tmps.getD u undef=x)
  (hl:(loadVar ty ⟨b,off,none⟩).run P w= .ok v w):(results fn tmps).run P w= .ok (.tuple #[v,x]) w:=by
 have hp':tmps[t]?.getD undef= .pointer (some ⟨b,off,none⟩):=by simpa using hp
 have hx':tmps[u]?.getD undef=x:=by simpa using hx
 simp only[results,h];simp[Sem.run_bind,asAddr,hp',hx',hl]
variable {base:World} {L:Env} {R:Value→Frag→List HP→Prop} {m:Nat}
theorem H.retCT{t u:Nat}{x:Value}{dd:TypeDesc}{b:Nat}{ls:List Value}[hu:Und P ty dd][hs:Siz P ty m](hr:fn.results= #[.cell t ty,.tmp u])(hv:look? L t=some (.pointer (some ⟨b,off,none⟩)))(hx:look? L u=some x)(ha:aggD dd=true)
  (hrd:Rd f A b off ls) (hm:ls.length=m) (hA:∀w,Sat base w f A→Sat base w f A') (h:R (.tuple #[.agg ls.toArray,x]) f A') (hmk:mk? L=none:=by exact rfl):H P base n L f A (.out .ret (.fn (FnPost P fn base R))):=.mk fun a w hf s=>by
 show bodyPost P fn (fun e w'=>∃v f' A',e= .returned v∧R v f' A'∧Sat base w' f' A') .ret a w
 refine bodyPost_ret (v:=.tuple #[.agg ls.toArray,x]) ?_ (hf.bare hmk) ⟨_,f,A',rfl,h,hA w s⟩
 have h1:=hf.get t _ hv
 have h1':=hf.get u _ hx
 have h2:a.tmps.getD t undef= .pointer (some ⟨b,off,none⟩):=by simp[Array.getD_eq_getD_getElem?,h1]
 have h2':a.tmps.getD u undef=x:=by simp[Array.getD_eq_getD_getElem?,h1']
 have h3:=run_loadAtN (P:=P) hu ha hs (hrd base w s) hm
 unfold Instr.loadAt Instr.sureAddr at h3
 exact results_cell_tmp hr h2 h2' (by simpa using h3)
/-! ### 'clear' of a part of a row -/
/-! ### What several things are owned together -/
def pack{ι:Type}(φ:ι→Prop)(B:ι→List HP):HP:=fun x=>∃i,φ i∧stars (B i) x
variable {ι:Type}
theorem pack_fold{φ:ι→Prop}{B:ι→List HP}(i:ι)(h:φ i):∀x,stars (B i++A) x→stars (pack φ B::A) x:=
 fold_stars fun x hx=>⟨i,h,hx⟩
theorem H.Bz{K:Kont}{φ:ι→Prop}{B:ι→List HP}(k:∀i,φ i→H P base n L f (B i++A) K):H P base n L f (pack φ B::A) K:=
 H.unfold (ι:={i // φ i}) (B:=fun i=>B i.1) (fun h ⟨i,hi,hx⟩=>⟨⟨i,hi⟩,hx⟩) fun i=>k i.1 i.2
variable {fid:FuncId} {args:List Value}
theorem Fn.unpack{φ:ι→Prop}{B:ι→List HP}(k:∀i,φ i→Fn P fid args f (B i++A) R):Fn P fid args f (pack φ B::A) R:=
 Fn.unfold (ι:={i // φ i}) (B:=fun i=>B i.1) (fun h ⟨i,hi,hx⟩=>⟨⟨i,hi⟩,hx⟩) fun i=>k i.1 i.2
variable {α:Type} {sz:Nat}
theorem flat_splice{vals:α→List Value}(hv:∀x,(vals x).length=sz){xs:List α}{i:Nat}(z:α)(hi:i<xs.length)(sp:List Value):splice (xs.flatMap vals++sp) (i*sz) (vals z)=(xs.set i z).flatMap vals++sp:=by
 have hx:xs[i]?=some xs[i]:=lgE hi;have hl:((xs.take i).flatMap vals).length=i*sz:=by rw[zbr hv,List.length_take,Nat.min_eq_left jA]
 have h2:(xs.set i z)[i]?=some z:=by rw[List.getElem?_set_self hi]
 have e1:(xs.set i z).take i=xs.take i:=by rw[List.take_set_of_le (Nat.le_refl _)]
 have e2:(xs.set i z).drop (i+1)=xs.drop (i+1):=by rw[List.drop_set_of_lt jA]
 rw[flat_split xs hx,flat_split (xs.set i z) h2,e1,e2];generalize(xs.take i).flatMap vals=pre at hl;unfold splice;have e3:pre++vals xs[i]++(xs.drop (i+1)).flatMap vals++sp=pre++(vals xs[i]++((xs.drop (i+1)).flatMap vals++sp)):=by simp
 rw[e3,←hl,List.take_left,hv z,←hv xs[i],←List.drop_drop,List.drop_left,List.drop_left];simp
variable {x y:Operand} {t:TypeId}
section
variable {P:Program} {base:World} {n:Nat} {L:Env} {f:Frag} {A:List HP} {q:Post} {l rest:List Oper} {ty:TypeId} {pos:String} {af:Array Edge} {gd:Option (Nat × Bool)}
theorem H.storeE{vals:α→List Value}{b n0:Nat}{xs:List α}{i:Nat}{z:α}[hs:Siz P t sz](hv:∀x,(vals x).length=sz)(h0:0<sz)(hone:∀v∈vals z,one v=true)(hw:want? l L gd=true)
  (hx:ev? L x=some (.pointer (some ⟨b,i*sz,none⟩))) (hy:ev? L y=some (.agg (vals z).toArray)) (hi:i<xs.length)
  (hA:At A (slc (some ⟨b,0,none⟩) n0 c T sz (xs.flatMap vals)) A' (slc (some ⟨b,0,none⟩) n0 c T sz ((xs.set i z).flatMap vals)))
  (k:H P base n L f A' (.ops l rest q)):H P base n L f A (.ops l (⟨none,.store t x y,ty,pos,af,gd⟩::rest) q):=
 H.opS hw (fun a w hfr s=>by
  obtain⟨hl,hc,h3⟩:=s.slc_at hA
  have hn:xs.length=n0:=by
   rw[zbr hv]at hl
   exact Nat.eq_of_mul_eq_mul_right h0 hl
  rcases h3 with⟨e,_⟩|⟨b',sp,e,hnc,hcs,hb⟩
  ·omega
  ·cases e
   have hle:i*sz+(vals z).length≤(xs.flatMap vals++sp).length:=by
    rw[lnA,zbr hv,hv]
    have:(i+1)*sz≤xs.length*sz:=Nat.mul_le_mul_right _ hi
    rw[Nat.add_mul]at this
    omega
   have h1:=run_storeCells (P:=P) (off:=i*sz) (vals z) (xs.flatMap vals++sp) 0 w hb hone hle
   have hne:vals z≠[]:=by intro h;have:=hv z;rw[h]at this;simp at this;omega
   rw[if_neg hne,Nat.add_zero,flat_splice hv z hi]at h1
   refine⟨World.putRow' w b T ((xs.set i z).flatMap vals++sp),?_,s.turnRow hA (b:=b) (o':=.cells ((xs.set i z).flatMap vals++sp).toArray T (0,0)) ?_ rfl rfl rfl ?_ ?_⟩
   ·simp only[execOp,hfr.eval hx,hfr.eval hy,Instr.storeAt,Instr.sureAddr,storeVar,Value.cells,Sem.run_bind,Sem.run_pure,Result.andThen_ok,hs.run,List.size_toArray,hv]
    simp[h1]
   ·rintro m1 ⟨_,_,h⟩
    rcases h with⟨h,_⟩|⟨b',sp',h,_,hcs',rfl⟩
    ·omega
    ·cases h;exact⟨_,rfl⟩
   ·rfl
   ·have e4:((xs.set i z).flatMap vals).length=(xs.flatMap vals).length:=by rw[zbr hv,zbr hv,List.length_set]
    refine⟨by rw[e4];exact hl,hc,.inr ⟨b,sp,rfl,hnc,?_,rfl⟩⟩
    rw[lnA,e4,←lnA]
    exact hcs) k
end
variable {z:Int}
section
variable {P:Program} {base:World} {n:Nat} {L:Env} {f:Frag} {A:List HP} {q:Post} {l:List Oper} {d:Nat} {ty:TypeId} {pos:String} {af:Array Edge} {gd:Option (Nat × Bool)} {listed:Array Bool} {fuel:Nat}
theorem HN.pure{i:Nat}{op:Op}(hc:pureB l listed i=true)(ho:getO l i=some ⟨some d,op,ty,pos,af,gd⟩)(hw:want? l L gd=true)(hd:Nat.ble (d+1) n=true)
  (hx:∀a w,Fr n a L→(execOp a.eval ⟨some d,op,ty,pos,af,gd⟩).run P w= .ok (.value v) w)
  (k:HN (listed.setIfInBounds i true) fuel P base n ((d,v)::L) f A (.ops l [] q)):HN listed (fuel+1) P base n L f A (.ops l [] q):=.mk fun l' q' hK hs hb a w hf s=>by
 simp only[Kont.ops.injEq]at hK
 obtain⟨rfl,_,rfl⟩:=hK
 simp only[pureB,Bool.and_eq_true]at hc
 obtain⟨⟨⟨⟨⟨h1,h2⟩,h3⟩,h4⟩,h5⟩,h6⟩:=hc
 have h5':listed.size=l.toArray.size:=by simpa using Nat.eq_of_beq_eq_true h5
 have h6':l.toArray.size≠0:=by
  have:=Nat.le_of_ble_eq_true h6;simp only[List.size_toArray];omega
 have hk:=k.out l q rfl hs hb (a.put (some d) v) w (hf.put (Nat.le_of_ble_eq_true hd) v) s
 have hk2:=wpAnyC_true h6' _ _ _ _ (by simpa using h5') hk
 exact wpAnyC.any _ _ _ _ (wpAnyC_take (C:=fun _=>True) (cut:=#[]) (oi:=⟨some d,op,ty,pos,af,gd⟩) (v:=v) kJ hs h2 h3 h4 h1 (fun c a w h=>hb c a _ _ w h) (.inl ⟨hf.want hw,fun w' _=>hx _ _ hf⟩) hk2)
theorem HN.ar{i:Nat}{op:BinOp}{xt yt:TypeId}{k:IntKind}{p p2 r:Int}(hc:pureB l listed i=true)(ho:getO l i=some ⟨some d,.binOp op xt x y yt,ty,pos,af,gd⟩)(hw:want? l L gd=true)(hx:ev? L x=some (.int k p))(hy:ev? L y=some (.int k p2))(ha:arP op k p p2=some r)(hz:r=z)(hd:Nat.ble (d+1) n=true)
  (kk:HN (listed.setIfInBounds i true) fuel P base n ((d,.int k z)::L) f A (.ops l [] q)):HN listed (fuel+1) P base n L f A (.ops l [] q):=
 HN.pure hc ho hw hd (fun a w hf=>by
  cases op<;>simp only[arP,Option.some.injEq,reduceCtorEq]at ha<;>subst ha<;>subst hz<;>
   simp[execOp,eqGuard,binOp,Op.intArith,hf.eval hx,hf.eval hy]) kk
theorem H.indexS{rest:List Oper}{i:Nat}{s:ByteArray}{ik:IntKind}{b:UInt8}[hu:Und P t .string](hw:want? l L gd=true)
  (hx:ev? L x=some (.string s)) (hy:ev? L y=some (.int ik z)) (hq:z=(i:Nat)) (hb:s[i]?=some b) (hd:Nat.ble (d+1) n=true)
  (k:H P base n ((d,.int .u8 (b.toNat:Nat))::L) f A (.ops l rest q)):H P base n L f A (.ops l (⟨some d,.index t x y,ty,pos,af,gd⟩::rest) q):=
 H.opV hw hd (fun a w hf _=>by
  subst hq
  have h1:=hu.run w
  have hi2:(0:Int)≤(i:Int):=jA
  simp only[execOp,hf.eval hx,hf.eval hy,Instr.index,asIntOf,Sem.run_bind,Sem.run_pure,Result.andThen_ok,h1,hi2,if_true,Int.toNat_natCast,hb]) k
end
structure PM where
 g:Int
 init:List (Int×Int)
 lv:Int
 ln:Int
variable {s:PM} {B long:Int}
namespace PM
def all(s:PM):List (Int×Int):=s.init++[(s.lv,s.ln)]
def new:PM:=⟨0,[],0,0⟩
def isOpen(s:PM)(v:Int):Bool:=decide (v=s.g∧v=s.lv)
def changeOk(s:PM)(v:Int):Bool:=decide (s.g<v∧v<1073741824)
def change(s:PM)(v:Int):PM:=if changeOk s v then {s with g:=v}else s
def enterOk(s:PM)(v long:Int):Bool:=decide (s.lv<v∧s.g≤v∧v<1073741824∧0≤long)
def enter(s:PM)(v long:Int):PM:=if enterOk s v long then⟨v,s.all,v,long⟩else s
def prepare(s:PM)(v:Int):PM:=if isOpen s v then {s with ln:=s.ln+1}else s
def commitOk(s:PM)(v k most:Int):Bool:=decide ((v=s.g∧v=s.lv)∧0≤most∧k≤most∧k=s.ln+1)
def commit(s:PM)(v k most:Int):PM:=if commitOk s v k most then {s with ln:=s.ln+1}else s
def voted:List (Int×Int)→Int→Option Int
 | [],_=>none
 |(w,n)::r,v=>if v=w then some n else voted r v
structure WF(s:PM)(B:Int):Prop where
 rise:(s.all.map (·.1)).Pairwise (· < ·)
 low:∀p∈s.all,0≤p.1∧p.1<1073741824∧0≤p.2∧p.2≤B
 top:s.lv≤s.g
 g0:0≤s.g
theorem new_wf:WF new 0:=⟨by simp[new,all],by simp[new,all],by simp[new],by simp[new]⟩
theorem WF.last(h:WF s B):0≤s.lv∧s.lv<1073741824∧0≤s.ln∧s.ln≤B:=h.low (s.lv,s.ln) (by simp[all])
theorem WF.below(h:WF s B):∀p∈s.init,p.1<s.lv:=by
 have:=h.rise;simp only[all,List.map_append,List.map_cons,List.map_nil,List.pairwise_append]at this
 intro p hp;exact this.2.2 p.1 (List.mem_map.2 ⟨p,hp,rfl⟩) s.lv jK
theorem WF.mono{B':Int}(h:WF s B)(hB:B≤B'):WF s B':=⟨h.rise,fun p hp=>by have:=h.low p hp;omega,h.top,h.g0⟩
theorem WF.bump(h:WF s B):WF {s with ln:=s.ln+1} (B+1):=by
 refine⟨?_,?_,h.top,h.g0⟩
 ·have:=h.rise;simpa [all]using this
 ·intro p hp;simp only[all,List.mem_append,List.mem_singleton]at hp;rcases hp with hp|rfl
  ·have:=h.low p (by simp[all,hp]);omega
  ·have:=h.last;simp only;omega
theorem WF.change{s:PM}{B:Int}(h:WF s B)(v:Int):WF (s.change v) B:=by
 unfold PM.change;split
 ·rename_i hc
  simp only[changeOk,decide_eq_true_eq]at hc;refine⟨h.rise,h.low,?_,?_⟩
  ·have:=h.top;simp only;omega
  ·have:=h.g0;simp only;omega
 ·exact h
theorem WF.enter{s:PM}{B:Int}(h:WF s B)(v long:Int)(hl:long≤B):WF (s.enter v long) B:=by
 unfold PM.enter;split
 ·rename_i hc
  simp only[enterOk,decide_eq_true_eq]at hc;refine⟨?_,?_,Int.le_refl _,?_⟩
  ·show((s.all++[(v,long)]).map (·.1)).Pairwise (· < ·);rw[List.map_append,List.pairwise_append];refine⟨h.rise,by simp,?_⟩;intro a ha b hb;simp at hb;subst hb;obtain⟨p,hp,rfl⟩:=List.mem_map.1 ha;simp only[all,List.mem_append,List.mem_singleton]at hp;rcases hp with hp|rfl
   ·have:=h.below p hp;omega
   ·exact hc.1
  ·intro p hp;simp only[all,List.mem_append,List.mem_singleton]at hp;rcases hp with(hp|rfl)|rfl
   ·exact h.low p (by simp[all,hp])
   ·exact h.last
   ·have:=h.last;simp only;omega
  ·have:=h.last;simp only;omega
 ·exact h
theorem WF.prepare{s:PM}{B:Int}(h:WF s B)(v:Int):WF (s.prepare v) (B+1):=by
 unfold PM.prepare;split
 ·exact h.bump
 ·exact h.mono jA
theorem WF.commit{s:PM}{B:Int}(h:WF s B)(v k most:Int):WF (s.commit v k most) (B+1):=by
 unfold PM.commit;split
 ·exact h.bump
 ·exact h.mono jA
def kv(l:List (Int×Int)):List (Int×Value):=l.map fun p=>(p.1,.int .i64 p.2)
theorem kv_keys(l:List (Int×Int)):(kv l).map (·.1)=l.map (·.1):=by simp[kv,Function.comp_def]
theorem getKV_kv(l:List (Int×Int))(v:Int):getKV (kv l) v=(voted l v).map (Value.int .i64):=by
 induction l with
 |nil=>rfl
 | cons p r ih =>
  obtain⟨w,n⟩:=p;simp only[kv,List.map_cons,getKV,voted];split
  ·rfl
  ·exact ih
theorem put_absent{κ:Type}[DecidableEq κ]:∀(m:List (κ×Value)) (k:κ) (v:Value),k∉m.map (·.1)→putKV m k v=m++[(k,v)]
 | [],_,_,_=>rfl
 | (j, u) :: r, k, v, h => by
  have e:¬k=j:=fun e=>h (by simp[e])
  have:=put_absent r k v (fun e=>h jn)
  simp[putKV,e,this]
theorem put_last{κ:Type}[DecidableEq κ]:∀(m:List (κ×Value)) (k:κ) (u v:Value),k∉m.map (·.1)→putKV (m++[(k,u)]) k v=m++[(k,v)]
 | [],k,u,v,_=>by simp[putKV]
 | (j, w) :: r, k, u, v, h => by
  have e:¬k=j:=fun e=>h (by simp[e])
  have:=put_last r k u v (fun e=>h jn)
  simp[putKV,e,this]
theorem WF.not_init(h:WF s B):s.lv∉s.init.map (·.1):=by
 intro hm;obtain⟨p,hp,e⟩:=List.mem_map.1 hm
 have:=h.below p hp;omega
theorem WF.kv_bump(h:WF s B):putKV (kv s.all) s.lv (.int .i64 (s.ln+1))=kv ({s with ln:=s.ln+1}:PM).all:=by
 have:=put_last (kv s.init) s.lv (.int .i64 s.ln) (.int .i64 (s.ln+1)) (by rw[kv_keys];exact h.not_init);simpa [kv,all]using this
theorem WF.not_all{v:Int}(h:WF s B)(hv:s.lv<v):v∉s.all.map (·.1):=by
 intro hm;obtain⟨p,hp,e⟩:=List.mem_map.1 hm;simp only[all,List.mem_append,List.mem_singleton]at hp;rcases hp with hp|rfl
 ·have:=h.below p hp;omega
 ·simp only at e;omega
theorem WF.kv_enter{v:Int}(h:WF s B)(hv:s.lv<v):putKV (kv s.all) v (.int .i64 long)=kv (s.all++[(v,long)]):=by
 rw[put_absent _ _ _ jy];simp[kv]
theorem WF.kv_enter2{v:Int}(h:WF s B)(hv:s.lv<v)(z:Value):putKV (putKV (kv s.all) v z) v (.int .i64 long)=kv (s.all++[(v,long)]):=by
 rw[put_absent (kv s.all) _ _ jy,put_last _ _ _ _ jy];simp[kv]
theorem voted_last(h:WF s B):voted s.all s.lv=some s.ln:=by
 have:∀l:List (Int×Int),s.lv∉l.map (·.1)→voted (l++[(s.lv,s.ln)]) s.lv=some s.ln:=by
  intro l
  induction l with
  |nil=>intro _;simp[voted]
  | cons p r ih =>
   intro hn;obtain⟨w,n⟩:=p;have e:¬s.lv=w:=fun e=>hn (by simp[e]);simp only[List.cons_append,voted,e,if_false]
   exact ih (fun e=>hn jn)
 exact this _ h.not_init
end PM
instance ty14:Und prog 3 (Go.TypeDesc.int Go.IntKind.i64):=⟨underlying3⟩
instance ty15:Siz prog 3 1:=⟨jE⟩
instance ty16:Byt prog 3 8:=⟨jE⟩
instance ty17:Zer prog 3 (.int .i64 0):=⟨jE⟩
instance ty18:Und prog 4 (Go.TypeDesc.bool):=⟨underlying4⟩
instance ty19:Siz prog 4 1:=⟨jE⟩
instance ty21:Zer prog 4 (.bool false):=⟨jE⟩
instance ty22:Und prog 5 (Go.TypeDesc.int Go.IntKind.u8):=⟨underlying5⟩
instance ty23:Siz prog 5 1:=⟨jE⟩
instance ty24:Byt prog 5 1:=⟨jE⟩
instance ty25:Zer prog 5 (.int .u8 0):=⟨jE⟩
instance ty40:Und prog 9 (Go.TypeDesc.string):=⟨underlying9⟩
instance ty41:Siz prog 9 1:=⟨jE⟩
instance ty43:Zer prog 9 (.string ByteArray.empty):=⟨jE⟩
instance ty96:Und prog 22 (Go.TypeDesc.slice 71):=⟨underlying22⟩
instance ty100:Und prog 23 (Go.TypeDesc.slice 5):=⟨underlying23⟩
instance ty101:Siz prog 23 1:=⟨jE⟩
instance ty103:Zer prog 23 (.slice none 0 0):=⟨jE⟩
instance ty120:Und prog 28 (Go.TypeDesc.slice 37):=⟨underlying28⟩
instance ty121:Siz prog 28 1:=⟨jE⟩
instance ty124:Und prog 29 (Go.TypeDesc.slice 54):=⟨underlying29⟩
instance ty125:Siz prog 29 1:=⟨jE⟩
instance ty128:Und prog 30 (Go.TypeDesc.pointer 152):=⟨underlying30⟩
instance ty129:Siz prog 30 1:=⟨jE⟩
instance ty137:type_of% (Und.mk underlying32):=⟨underlying32⟩
instance ty140:Plc prog 32 [(0,1),(1,1),(2,1)]:=⟨fun fs w h=>by rw[underlying32]at h;cases h;kernel_rfl⟩
instance ty141:Zer prog 32 (.agg (([.slice none 0 0,.slice none 0 0,.pointer none]:List Value)).toArray):=⟨jE⟩
instance ty142:Und prog 33 (Go.TypeDesc.slice 56):=⟨underlying33⟩
instance ty143:Siz prog 33 1:=⟨jE⟩
instance ty146:Und prog 34 (Go.TypeDesc.slice 68):=⟨underlying34⟩
instance ty147:Siz prog 34 1:=⟨jE⟩
instance ty150:Und prog 35 (Go.TypeDesc.int Go.IntKind.u64):=⟨underlying35⟩
instance ty151:Siz prog 35 1:=⟨jE⟩
instance ty152:Byt prog 35 8:=⟨jE⟩
instance ty153:Zer prog 35 (.int .u64 0):=⟨jE⟩
instance ty158:Und prog 37 (Go.TypeDesc.array 11 35):=⟨underlying37⟩
instance ty159:Siz prog 37 11:=⟨jE⟩
instance ty160:Byt prog 37 88:=⟨jE⟩
instance ty161:Zer prog 37 (.agg ((List.replicate 11 (.int .u64 0):List Value)).toArray):=⟨jE⟩
instance ty162:Und prog 38 (Go.TypeDesc.slice 49):=⟨underlying38⟩
instance ty163:Siz prog 38 1:=⟨jE⟩
instance ty171:type_of% (Und.mk underlying40):=⟨underlying40⟩
instance ty172:Siz prog 40 15:=⟨jE⟩
instance ty174:Plc prog 40 [(0,1),(1,1),(2,11),(13,1),(14,1)]:=⟨fun fs w h=>by rw[underlying40]at h;cases h;kernel_rfl⟩
instance ty175:Zer prog 40 (.agg (([.slice none 0 0,.slice none 0 0]:List Value)++(List.replicate 11 (.int .u64 0):List Value)++([.slice none 0 0,.int .u64 0]:List Value)).toArray):=⟨jE⟩
instance ty185:Und prog 44 (Go.TypeDesc.slice 3):=⟨underlying44⟩
instance ty186:Siz prog 44 1:=⟨jE⟩
instance ty194:type_of% (Und.mk underlying46):=⟨underlying46⟩
instance ty195:Siz prog 46 6:=⟨jE⟩
instance ty197:Plc prog 46 [(0,1),(1,1),(2,1),(3,1),(4,1),(5,1)]:=⟨fun fs w h=>by rw[underlying46]at h;cases h;kernel_rfl⟩
instance ty198:Zer prog 46 (.agg (([.int .u8 0,.string ByteArray.empty,.string ByteArray.empty,.string ByteArray.empty,.string ByteArray.empty,.int .u64 0]:List Value)).toArray):=⟨jE⟩
instance ty199:Und prog 47 (Go.TypeDesc.array 32 5):=⟨underlying47⟩
instance ty200:Siz prog 47 32:=⟨jE⟩
instance ty202:Zer prog 47 (.agg ((List.replicate 32 (.int .u8 0):List Value)).toArray):=⟨jE⟩
instance ty208:type_of% (Und.mk underlying49):=⟨underlying49⟩
instance ty209:Siz prog 49 40:=⟨jE⟩
instance ty210:Byt prog 49 128:=⟨jE⟩
instance ty211:Plc prog 49 [(0,1),(1,1),(2,6),(8,32)]:=⟨fun fs w h=>by rw[underlying49]at h;cases h;kernel_rfl⟩
instance ty212:Zer prog 49 (.agg (([.int .i64 0,.int .u64 0,.int .u8 0,.string ByteArray.empty,.string ByteArray.empty,.string ByteArray.empty,.string ByteArray.empty,.int .u64 0]:List Value)++(List.replicate 32 (.int .u8 0):List Value)).toArray):=⟨jE⟩
instance ty213:Und prog 50 (Go.TypeDesc.slice 127):=⟨underlying50⟩
instance ty214:Siz prog 50 1:=⟨jE⟩
instance ty222:type_of% (Und.mk underlying52):=⟨underlying52⟩
instance ty223:Siz prog 52 76:=⟨jE⟩
instance ty225:Plc prog 52 [(0,1),(1,1),(2,1),(3,40),(43,1),(44,32)]:=⟨fun fs w h=>by rw[underlying52]at h;cases h;kernel_rfl⟩
instance ty226:Zer prog 52 (.agg (([.int .u8 0,.int .u64 0,.int .u64 0,.int .i64 0,.int .u64 0,.int .u8 0,.string ByteArray.empty,.string ByteArray.empty,.string ByteArray.empty,.string ByteArray.empty,.int .u64 0]:List Value)++(List.replicate 32 (.int .u8 0):List Value)++([.slice none 0 0]:List Value)++(List.replicate 32 (.int .u8 0):List Value)).toArray):=⟨jE⟩
instance ty232:type_of% (Und.mk underlying54):=⟨underlying54⟩
instance ty233:Siz prog 54 121:=⟨jE⟩
instance ty234:Byt prog 54 344:=⟨jE⟩
instance ty235:Plc prog 54 [(0,1),(1,1),(2,11),(13,76),(89,32)]:=⟨fun fs w h=>by rw[underlying54]at h;cases h;kernel_rfl⟩
instance ty236:Zer prog 54 (.agg (([.int .i64 0,.int .u64 0]:List Value)++(List.replicate 11 (.int .u64 0):List Value)++([.int .u8 0,.int .u64 0,.int .u64 0,.int .i64 0,.int .u64 0,.int .u8 0,.string ByteArray.empty,.string ByteArray.empty,.string ByteArray.empty,.string ByteArray.empty,.int .u64 0]:List Value)++(List.replicate 32 (.int .u8 0):List Value)++([.slice none 0 0]:List Value)++(List.replicate 32 (.int .u8 0):List Value)++(List.replicate 32 (.int .u8 0):List Value)).toArray):=⟨jE⟩
instance ty241:Und prog 56 (Go.TypeDesc.int Go.IntKind.u8):=⟨underlying56⟩
instance ty242:Siz prog 56 1:=⟨jE⟩
instance ty243:Byt prog 56 1:=⟨jE⟩
instance ty244:Zer prog 56 (.int .u8 0):=⟨jE⟩
instance ty263:Und prog 63 (Go.TypeDesc.array 2 38):=⟨underlying63⟩
instance ty266:Zer prog 63 (.agg ((List.replicate 2 (.slice none 0 0):List Value)).toArray):=⟨jE⟩
instance ty284:type_of% (Und.mk underlying68):=⟨underlying68⟩
instance ty285:Siz prog 68 4:=⟨jE⟩
instance ty286:Byt prog 68 32:=⟨jE⟩
instance ty287:Plc prog 68 [(0,1),(1,1),(2,1),(3,1)]:=⟨fun fs w h=>by rw[underlying68]at h;cases h;kernel_rfl⟩
instance ty288:Zer prog 68 (.agg (([.int .i64 0,.int .u64 0,.int .i64 0,.int .i64 0]:List Value)).toArray):=⟨jE⟩
instance ty298:type_of% (Und.mk underlying71):=⟨underlying71⟩
instance ty299:Siz prog 71 12:=⟨jE⟩
instance ty328:Und prog 79 (Go.TypeDesc.pointer 117):=⟨underlying79⟩
instance ty329:Siz prog 79 1:=⟨jE⟩
instance ty332:Und prog 80 (Go.TypeDesc.pointer 124):=⟨underlying80⟩
instance ty333:Siz prog 80 1:=⟨jE⟩
instance ty341:type_of% (Und.mk underlying82):=⟨underlying82⟩
instance ty344:Plc prog 82 [(0,1),(1,1),(2,1),(3,1),(4,15),(19,1)]:=⟨fun fs w h=>by rw[underlying82]at h;cases h;kernel_rfl⟩
instance ty345:Zer prog 82 (.agg (([.int .i64 0,.slice none 0 0,.pointer none,.pointer none,.slice none 0 0,.slice none 0 0]:List Value)++(List.replicate 11 (.int .u64 0):List Value)++([.slice none 0 0,.int .u64 0,.slice none 0 0]:List Value)).toArray):=⟨jE⟩
instance ty346:Und prog 83 (Go.TypeDesc.map 3 54):=⟨underlying83⟩
instance ty436:Und prog 110 (Go.TypeDesc.slice 35):=⟨underlying110⟩
instance ty437:Siz prog 110 1:=⟨jE⟩
instance ty452:Und prog 114 (Go.TypeDesc.array 11 29):=⟨underlying114⟩
instance ty453:Siz prog 114 11:=⟨jE⟩
instance ty456:Und prog 115 (Go.TypeDesc.slice 119):=⟨underlying115⟩
instance ty457:Siz prog 115 1:=⟨jE⟩
instance ty465:type_of% (Und.mk underlying117):=⟨underlying117⟩
instance ty468:Plc prog 117 [(0,1),(1,11),(12,1)]:=⟨fun fs w h=>by rw[underlying117]at h;cases h;kernel_rfl⟩
instance ty469:Zer prog 117 (.agg (([.int .i64 0]:List Value)++(List.replicate 11 (.slice none 0 0):List Value)++([.slice none 0 0]:List Value)).toArray):=⟨jE⟩
instance ty475:type_of% (Und.mk underlying119):=⟨underlying119⟩
instance ty476:Siz prog 119 2:=⟨jE⟩
instance ty477:Byt prog 119 16:=⟨jE⟩
instance ty478:Plc prog 119 [(0,1),(1,1)]:=⟨fun fs w h=>by rw[underlying119]at h;cases h;kernel_rfl⟩
instance ty479:Zer prog 119 (.agg (([.int .i64 0,.int .i64 0]:List Value)).toArray):=⟨jE⟩
instance ty480:Und prog 120 (Go.TypeDesc.map 35 159):=⟨underlying120⟩
instance ty481:Siz prog 120 1:=⟨jE⟩
instance ty484:Und prog 121 (Go.TypeDesc.slice 131):=⟨underlying121⟩
instance ty485:Siz prog 121 1:=⟨jE⟩
instance ty488:Und prog 122 (Go.TypeDesc.slice 226):=⟨underlying122⟩
instance ty489:Siz prog 122 1:=⟨jE⟩
instance ty497:type_of% (Und.mk underlying124):=⟨underlying124⟩
instance ty500:Plc prog 124 [(0,1),(1,11),(12,1),(13,1),(14,1)]:=⟨fun fs w h=>by rw[underlying124]at h;cases h;kernel_rfl⟩
instance ty501:Zer prog 124 (.agg (([.int .i64 0]:List Value)++(List.replicate 11 (.int .u64 0):List Value)++([.map none,.slice none 0 0,.slice none 0 0]:List Value)).toArray):=⟨jE⟩
instance ty511:type_of% (Und.mk underlying127):=⟨underlying127⟩
instance ty512:Siz prog 127 2:=⟨jE⟩
instance ty513:Byt prog 127 16:=⟨jE⟩
instance ty514:Plc prog 127 [(0,1),(1,1)]:=⟨fun fs w h=>by rw[underlying127]at h;cases h;kernel_rfl⟩
instance ty515:Zer prog 127 (.agg (([.int .i64 0,.int .u64 0]:List Value)).toArray):=⟨jE⟩
instance ty528:Und prog 131 (Go.TypeDesc.pointer 209):=⟨underlying131⟩
instance ty529:Siz prog 131 1:=⟨jE⟩
instance ty530:Byt prog 131 8:=⟨jE⟩
instance ty531:Zer prog 131 (.pointer none):=⟨jE⟩
instance ty546:Und prog 137 (Go.TypeDesc.func #[52] #[4] false):=⟨underlying137⟩
instance ty547:Siz prog 137 1:=⟨jE⟩
instance ty575:Und prog 145 (Go.TypeDesc.slice 205):=⟨underlying145⟩
instance ty576:Siz prog 145 1:=⟨jE⟩
instance ty584:type_of% (Und.mk underlying147):=⟨underlying147⟩
instance ty585:Siz prog 147 4:=⟨jE⟩
instance ty586:Byt prog 147 64:=⟨jE⟩
instance ty587:Plc prog 147 [(0,1),(1,1),(2,1),(3,1)]:=⟨fun fs w h=>by rw[underlying147]at h;cases h;kernel_rfl⟩
instance ty588:Zer prog 147 (.agg (([.int .u64 0,.int .u64 0,.slice none 0 0,.slice none 0 0]:List Value)).toArray):=⟨jE⟩
instance ty589:Und prog 148 (Go.TypeDesc.slice 147):=⟨underlying148⟩
instance ty590:Siz prog 148 1:=⟨jE⟩
instance ty593:Und prog 149 (Go.TypeDesc.slice 195):=⟨underlying149⟩
instance ty594:Siz prog 149 1:=⟨jE⟩
instance ty597:Und prog 150 (Go.TypeDesc.slice 153):=⟨underlying150⟩
instance ty598:Siz prog 150 1:=⟨jE⟩
instance ty606:type_of% (Und.mk underlying152):=⟨underlying152⟩
instance ty609:Plc prog 152 [(0,1),(1,11),(12,1),(13,1),(14,1)]:=⟨fun fs w h=>by rw[underlying152]at h;cases h;kernel_rfl⟩
instance ty610:Zer prog 152 (.agg (([.int .i64 0]:List Value)++(List.replicate 11 (.int .u64 0):List Value)++([.slice none 0 0,.slice none 0 0,.slice none 0 0]:List Value)).toArray):=⟨jE⟩
instance ty611:Und prog 153 (Go.TypeDesc.pointer 194):=⟨underlying153⟩
instance ty612:Siz prog 153 1:=⟨jE⟩
instance ty613:Byt prog 153 8:=⟨jE⟩
instance ty614:Zer prog 153 (.pointer none):=⟨jE⟩
instance ty635:Und prog 159 (Go.TypeDesc.pointer 162):=⟨underlying159⟩
instance ty638:Zer prog 159 (.pointer none):=⟨jE⟩
instance ty639:Und prog 160 (Go.TypeDesc.map 234 4):=⟨underlying160⟩
instance ty640:Siz prog 160 1:=⟨jE⟩
instance ty648:type_of% (Und.mk underlying162):=⟨underlying162⟩
instance ty651:Plc prog 162 [(0,1),(1,1),(2,1),(3,1),(4,1)]:=⟨fun fs w h=>by rw[underlying162]at h;cases h;kernel_rfl⟩
instance ty652:Zer prog 162 (.agg (([.int .u64 0,.int .i64 0,.slice none 0 0,.slice none 0 0,.map none]:List Value)).toArray):=⟨jE⟩
instance ty657:Und prog 164 (Go.TypeDesc.map 166 3):=⟨underlying164⟩
instance ty666:type_of% (Und.mk underlying166):=⟨underlying166⟩
instance ty667:Siz prog 166 2:=⟨jE⟩
instance ty669:Plc prog 166 [(0,1),(1,1)]:=⟨fun fs w h=>by rw[underlying166]at h;cases h;kernel_rfl⟩
instance ty670:Zer prog 166 (.agg (([.int .i64 0,.int .u64 0]:List Value)).toArray):=⟨jE⟩
instance ty731:Und prog 182 (Go.TypeDesc.int Go.IntKind.u64):=⟨underlying182⟩
instance ty735:Und prog 183 (Go.TypeDesc.int Go.IntKind.u32):=⟨underlying183⟩
instance ty736:Siz prog 183 1:=⟨jE⟩
instance ty739:Und prog 184 (Go.TypeDesc.array 8 183):=⟨underlying184⟩
instance ty740:Siz prog 184 8:=⟨jE⟩
instance ty742:Zer prog 184 (.agg ((List.replicate 8 (.int .u32 0):List Value)).toArray):=⟨jE⟩
instance ty747:Und prog 186 (Go.TypeDesc.array 64 5):=⟨underlying186⟩
instance ty748:Siz prog 186 64:=⟨jE⟩
instance ty750:Zer prog 186 (.agg ((List.replicate 64 (.int .u8 0):List Value)).toArray):=⟨jE⟩
instance ty759:Und prog 189 (Go.TypeDesc.int Go.IntKind.u16):=⟨underlying189⟩
instance ty768:type_of% (Und.mk underlying191):=⟨underlying191⟩
instance ty769:Siz prog 191 2:=⟨jE⟩
instance ty770:Byt prog 191 16:=⟨jE⟩
instance ty771:Plc prog 191 [(0,1),(1,1)]:=⟨fun fs w h=>by rw[underlying191]at h;cases h;kernel_rfl⟩
instance ty772:Zer prog 191 (.agg (([.int .u64 0,.int .i64 0]:List Value)).toArray):=⟨jE⟩
instance ty773:Und prog 192 (Go.TypeDesc.slice 191):=⟨underlying192⟩
instance ty774:Siz prog 192 1:=⟨jE⟩
instance ty782:type_of% (Und.mk underlying194):=⟨underlying194⟩
instance ty785:Plc prog 194 [(0,1),(1,1)]:=⟨fun fs w h=>by rw[underlying194]at h;cases h;kernel_rfl⟩
instance ty786:Zer prog 194 (.agg (([.int .u64 0,.slice none 0 0]:List Value)).toArray):=⟨jE⟩
instance ty787:Und prog 195 (Go.TypeDesc.slice 197):=⟨underlying195⟩
instance ty788:Siz prog 195 1:=⟨jE⟩
instance ty789:Byt prog 195 24:=⟨jE⟩
instance ty790:Zer prog 195 (.slice none 0 0):=⟨jE⟩
instance ty796:type_of% (Und.mk underlying197):=⟨underlying197⟩
instance ty797:Siz prog 197 2:=⟨jE⟩
instance ty798:Byt prog 197 16:=⟨jE⟩
instance ty799:Plc prog 197 [(0,1),(1,1)]:=⟨fun fs w h=>by rw[underlying197]at h;cases h;kernel_rfl⟩
instance ty800:Zer prog 197 (.agg (([.int .u64 0,.int .u64 0]:List Value)).toArray):=⟨jE⟩
instance ty830:type_of% (Und.mk underlying205):=⟨underlying205⟩
instance ty831:Siz prog 205 41:=⟨jE⟩
instance ty832:Byt prog 205 136:=⟨jE⟩
instance ty833:Plc prog 205 [(0,1),(1,40)]:=⟨fun fs w h=>by rw[underlying205]at h;cases h;kernel_rfl⟩
instance ty834:Zer prog 205 (.agg (([.int .u64 0,.int .i64 0,.int .u64 0,.int .u8 0,.string ByteArray.empty,.string ByteArray.empty,.string ByteArray.empty,.string ByteArray.empty,.int .u64 0]:List Value)++(List.replicate 32 (.int .u8 0):List Value)).toArray):=⟨jE⟩
instance ty839:Und prog 207 (Go.TypeDesc.map 35 3):=⟨underlying207⟩
instance ty840:Siz prog 207 1:=⟨jE⟩
instance ty848:type_of% (Und.mk underlying209):=⟨underlying209⟩
instance ty851:Plc prog 209 [(0,1),(1,1),(2,1)]:=⟨fun fs w h=>by rw[underlying209]at h;cases h;kernel_rfl⟩
instance ty852:Zer prog 209 (.agg (([.int .u64 0,.slice none 0 0,.map none]:List Value)).toArray):=⟨jE⟩
instance ty877:Und prog 216 (Go.TypeDesc.func #[23,52] #[23] false):=⟨underlying216⟩
instance ty878:Siz prog 216 1:=⟨jE⟩
instance ty881:Und prog 217 (Go.TypeDesc.func #[223,225] #[] false):=⟨underlying217⟩
instance ty882:Siz prog 217 1:=⟨jE⟩
instance ty890:type_of% (Und.mk underlying219):=⟨underlying219⟩
instance ty891:Siz prog 219 3:=⟨jE⟩
instance ty893:Plc prog 219 [(0,1),(1,1),(2,1)]:=⟨fun fs w h=>by rw[underlying219]at h;cases h;kernel_rfl⟩
instance ty894:Zer prog 219 (.agg (([.nilFunc,.nilFunc,.nilFunc]:List Value)).toArray):=⟨jE⟩
instance ty896:Und prog 221 (Go.TypeDesc.map 5 219):=⟨underlying221⟩
instance ty904:Und prog 223 (Go.TypeDesc.pointer 261):=⟨underlying223⟩
instance ty916:Und prog 226 (Go.TypeDesc.slice 228):=⟨underlying226⟩
instance ty917:Siz prog 226 1:=⟨jE⟩
instance ty918:Byt prog 226 24:=⟨jE⟩
instance ty919:Zer prog 226 (.slice none 0 0):=⟨jE⟩
instance ty925:type_of% (Und.mk underlying228):=⟨underlying228⟩
instance ty926:Siz prog 228 2:=⟨jE⟩
instance ty927:Byt prog 228 16:=⟨jE⟩
instance ty928:Plc prog 228 [(0,1),(1,1)]:=⟨fun fs w h=>by rw[underlying228]at h;cases h;kernel_rfl⟩
instance ty929:Zer prog 228 (.agg (([.int .u64 0,.int .u64 0]:List Value)).toArray):=⟨jE⟩
instance ty951:type_of% (Und.mk underlying234):=⟨underlying234⟩
instance ty954:Plc prog 234 [(0,1),(1,1)]:=⟨fun fs w h=>by rw[underlying234]at h;cases h;kernel_rfl⟩
instance ty955:Zer prog 234 (.agg (([.int .i64 0,.int .u64 0]:List Value)).toArray):=⟨jE⟩
instance ty956:Und prog 235 (Go.TypeDesc.array 64 183):=⟨underlying235⟩
instance ty957:Siz prog 235 64:=⟨jE⟩
instance ty959:Zer prog 235 (.agg ((List.replicate 64 (.int .u32 0):List Value)).toArray):=⟨jE⟩
instance ty976:Und prog 240 (Go.TypeDesc.slice 23):=⟨underlying240⟩
instance ty1058:type_of% (Und.mk underlying261):=⟨underlying261⟩
instance ty1061:Plc prog 261 [(0,1),(1,1)]:=⟨fun fs w h=>by rw[underlying261]at h;cases h;kernel_rfl⟩
instance ty1062:Zer prog 261 (.agg (([.slice none 0 0,.bool false]:List Value)).toArray):=⟨jE⟩
instance ty1099:Und prog 271 (Go.TypeDesc.int Go.IntKind.u64):=⟨underlying271⟩
instance ty1100:Siz prog 271 1:=⟨jE⟩
instance ty1102:Zer prog 271 (.int .u64 0):=⟨jE⟩
instance ty1119:Und prog 276 (Go.TypeDesc.slice 9):=⟨underlying276⟩
instance ty1168:Und prog 289 (Go.TypeDesc.pointer 295):=⟨underlying289⟩
instance ty1193:type_of% (Und.mk underlying295):=⟨underlying295⟩
instance ty1194:Siz prog 295 74:=⟨jE⟩
instance ty1196:Plc prog 295 [(0,8),(8,64),(72,1),(73,1)]:=⟨fun fs w h=>by rw[underlying295]at h;cases h;kernel_rfl⟩
instance ty1197:Zer prog 295 (.agg ((List.replicate 8 (.int .u32 0):List Value)++(List.replicate 64 (.int .u8 0):List Value)++([.int .i64 0,.int .u64 0]:List Value)).toArray):=⟨jE⟩
instance ty1210:Und prog 299 (Go.TypeDesc.slice 183):=⟨underlying299⟩
instance ty1288:Fun prog 7:=.i func7
instance ty1289:Fun prog 8:=.i func8
instance ty1290:Fun prog 9:=.i func9
instance ty1291:Fun prog 10:=.i func10
instance ty1292:Fun prog 11:=.i func11
instance ty1293:Fun prog 12:=.i func12
instance ty1294:Fun prog 13:=.i func13
instance ty1295:Fun prog 14:=.i func14
instance ty1297:Fun prog 16:=.i func16
instance ty1298:Fun prog 17:=.i func17
instance ty1299:Fun prog 18:=.i func18
instance ty1300:Fun prog 19:=.i func19
instance ty1301:Fun prog 20:=.i func20
instance ty1302:Fun prog 21:=.i func21
instance ty1303:Fun prog 22:=.i func22
instance ty1304:Fun prog 23:=.i func23
instance ty1305:Fun prog 24:=.i func24
instance ty1306:Fun prog 25:=.i func25
instance ty1307:Fun prog 26:=.i func26
instance ty1308:Fun prog 27:=.i func27
instance ty1309:Fun prog 28:=.i func28
instance ty1310:Fun prog 29:=.i func29
instance ty1311:Fun prog 30:=.i func30
instance ty1312:Fun prog 31:=.i func31
instance ty1313:Fun prog 32:=.i func32
instance ty1314:Fun prog 33:=.i func33
instance ty1315:Fun prog 34:=.i func34
instance ty1316:Fun prog 35:=.i func35
instance ty1317:Fun prog 36:=.i func36
instance ty1318:Fun prog 37:=.i func37
instance ty1319:Fun prog 38:=.i func38
instance ty1320:Fun prog 39:=.i func39
instance ty1321:Fun prog 40:=.i func40
instance ty1322:Fun prog 41:=.i func41
instance ty1323:Fun prog 42:=.i func42
instance ty1324:Fun prog 43:=.i func43
instance ty1325:Fun prog 44:=.i func44
instance ty1326:Fun prog 45:=.i func45
instance ty1327:Fun prog 46:=.i func46
instance ty1328:Fun prog 47:=.i func47
instance ty1329:Fun prog 48:=.i func48
instance ty1330:Fun prog 49:=.i func49
instance ty1331:Fun prog 50:=.i func50
instance ty1332:Fun prog 51:=.i func51
instance ty1333:Fun prog 52:=.i func52
instance ty1334:Fun prog 53:=.i func53
instance ty1335:Fun prog 54:=.i func54
instance ty1336:Fun prog 55:=.i func55
instance ty1337:Fun prog 56:=.i func56
instance ty1338:Fun prog 57:=.i func57
instance ty1339:Fun prog 58:=.i func58
instance ty1340:Fun prog 59:=.i func59
instance ty1341:Fun prog 60:=.i func60
instance ty1342:Fun prog 61:=.i func61
instance ty1343:Fun prog 62:=.i func62
instance ty1344:Fun prog 63:=.i func63
instance ty1345:Fun prog 64:=.i func64
instance ty1346:Fun prog 65:=.i func65
instance ty1347:Fun prog 66:=.i func66
instance ty1348:Fun prog 67:=.i func67
instance ty1349:Fun prog 68:=.i func68
instance ty1350:Fun prog 69:=.i func69
instance ty1351:Fun prog 70:=.i func70
instance ty1352:Fun prog 71:=.i func71
instance ty1353:Fun prog 72:=.i func72
instance ty1354:Fun prog 73:=.i func73
instance ty1355:Fun prog 74:=.i func74
instance ty1356:Fun prog 75:=.i func75
instance ty1357:Fun prog 76:=.i func76
instance ty1358:Fun prog 77:=.i func77
instance ty1359:Fun prog 78:=.i func78
instance ty1360:Fun prog 79:=.i func79
instance ty1361:Fun prog 80:=.i func80
instance ty1362:Fun prog 81:=.i func81
instance ty1363:Fun prog 82:=.i func82
instance ty1364:Fun prog 83:=.i func83
instance ty1365:Fun prog 84:=.i func84
instance ty1366:Fun prog 85:=.i func85
instance ty1367:Fun prog 86:=.i func86
instance ty1368:Fun prog 87:=.i func87
instance ty1369:Fun prog 88:=.i func88
instance ty1370:Fun prog 89:=.i func89
instance ty1371:Fun prog 90:=.i func90
instance ty1372:Fun prog 91:=.i func91
instance ty1373:Fun prog 92:=.i func92
instance ty1374:Fun prog 93:=.i func93
instance ty1375:Fun prog 94:=.i func94
instance ty1376:Fun prog 95:=.i func95
instance ty1377:Fun prog 96:=.i func96
instance ty1378:Fun prog 97:=.i func97
instance ty1379:Fun prog 98:=.i func98
instance ty1380:Fun prog 99:=.i func99
instance ty1381:Fun prog 100:=.i func100
instance ty1382:Fun prog 101:=.i func101
instance ty1383:Fun prog 102:=.i func102
instance ty1384:Fun prog 103:=.i func103
instance ty1385:Fun prog 104:=.i func104
instance ty1386:Fun prog 105:=.i func105
instance ty1387:Fun prog 106:=.i func106
instance ty1388:Fun prog 107:=.i func107
instance ty1389:Fun prog 108:=.i func108
instance ty1390:Fun prog 109:=.i func109
instance ty1391:Fun prog 110:=.i func110
instance ty1392:Fun prog 111:=.i func111
instance ty1393:Fun prog 112:=.i func112
instance ty1394:Fun prog 113:=.i func113
instance ty1395:Fun prog 114:=.i func114
instance ty1396:Fun prog 115:=.i func115
instance ty1397:Fun prog 116:=.i func116
instance ty1398:Fun prog 117:=.i func117
instance ty1399:Fun prog 118:=.i func118
instance ty1400:Fun prog 119:=.i func119
instance ty1401:Fun prog 120:=.i func120
instance ty1402:Fun prog 121:=.i func121
instance ty1403:Fun prog 122:=.i func122
instance ty1404:Fun prog 123:=.i func123
instance ty1405:Fun prog 124:=.i func124
instance ty1406:Fun prog 125:=.i func125
instance ty1407:Fun prog 126:=.i func126
instance ty1408:Fun prog 127:=.i func127
instance ty1409:Fun prog 128:=.i func128
instance ty1410:Fun prog 129:=.i func129
instance ty1411:Fun prog 130:=.i func130
instance ty1412:Fun prog 131:=.i func131
instance ty1413:Fun prog 132:=.i func132
instance ty1414:Fun prog 133:=.i func133
instance ty1415:Fun prog 134:=.i func134
instance ty1416:Fun prog 135:=.i func135
instance ty1417:Fun prog 136:=.i func136
instance ty1418:Fun prog 137:=.i func137
instance ty1419:Fun prog 138:=.i func138
instance ty1420:Fun prog 139:=.i func139
instance ty1421:Fun prog 140:=.i func140
instance ty1422:Fun prog 141:=.i func141
instance ty1423:Fun prog 142:=.i func142
instance ty1424:Fun prog 143:=.i func143
instance ty1425:Fun prog 144:=.i func144
instance ty1426:Fun prog 145:=.i func145
instance ty1427:Fun prog 146:=.i func146
instance ty1428:Fun prog 147:=.i func147
instance ty1437:Fun prog 156:=.i func156
instance ty1438:Fun prog 157:=.i func157
instance ty1439:Fun prog 158:=.i func158
instance ty1440:Fun prog 159:=.i func159
instance ty1441:Fun prog 160:=.i func160
instance ty1442:Fun prog 161:=.i func161
instance ty1443:Fun prog 162:=.i func162
instance ty1444:Fun prog 163:=.i func163
instance ty1445:Fun prog 164:=.i func164
instance ty1446:Fun prog 165:=.i func165
instance ty1447:Fun prog 166:=.i func166
instance ty1448:Fun prog 167:=.i func167
instance ty1449:Fun prog 168:=.i func168
instance ty1450:Fun prog 169:=.i func169
instance ty1451:Fun prog 170:=.i func170
instance ty1452:Fun prog 171:=.i func171
instance ty1453:Fun prog 172:=.i func172
instance ty1454:Fun prog 173:=.i func173
instance ty1455:Fun prog 174:=.i func174
instance ty1456:Fun prog 175:=.i func175
instance ty1457:Fun prog 176:=.i func176
instance ty1458:Fun prog 177:=.i func177
instance ty1459:Fun prog 178:=.i func178
instance ty1460:Fun prog 179:=.i func179
instance ty1461:Fun prog 180:=.i func180
instance ty1462:Fun prog 181:=.i func181
instance ty1463:Fun prog 182:=.i func182
instance ty1464:Fun prog 183:=.i func183
instance ty1465:Fun prog 184:=.i func184
instance ty1466:Fun prog 185:=.i func185
instance ty1467:Fun prog 186:=.i func186
instance ty1468:Fun prog 187:=.i func187
instance ty1469:Fun prog 188:=.i func188
instance ty1470:Fun prog 189:=.i func189
instance ty1471:Fun prog 190:=.i func190
instance ty1472:Fun prog 191:=.i func191
instance ty1473:Fun prog 192:=.i func192
instance ty1474:Fun prog 193:=.i func193
instance ty1475:Fun prog 194:=.i func194
instance ty1476:Fun prog 195:=.i func195
instance ty1477:Fun prog 196:=.i func196
instance ty1478:Fun prog 197:=.i func197
instance ty1479:Fun prog 198:=.i func198
instance ty1480:Fun prog 199:=.i func199
instance ty1482:Fun prog 201:=.i func201
instance ty1483:Fun prog 202:=.i func202
instance ty1486:Fun prog 205:=.i func205
instance ty1487:Fun prog 206:=.i func206
instance ty1488:Fun prog 207:=.i func207
instance ty1489:Fun prog 208:=.i func208
instance ty1490:Fun prog 209:=.i func209
instance ty1491:Fun prog 210:=.i func210
instance ty1492:Fun prog 211:=.i func211
instance ty1493:Fun prog 212:=.i func212
instance ty1494:Fun prog 213:=.i func213
instance ty1495:Fun prog 214:=.i func214
instance ty1496:Fun prog 215:=.i func215
instance ty1497:Fun prog 216:=.i func216
instance ty1498:Fun prog 217:=.i func217
instance ty1499:Fun prog 218:=.i func218
instance ty1500:Fun prog 219:=.i func219
instance ty1501:Fun prog 220:=.i func220
instance ty1502:Fun prog 221:=.i func221
instance ty1503:Fun prog 222:=.i func222
instance ty1505:Fun prog 224:=.i func224
instance ty1506:Fun prog 225:=.i func225
instance ty1507:Fun prog 226:=.i func226
instance ty1508:Fun prog 227:=.i func227
instance ty1509:Fun prog 228:=.i func228
instance ty1510:Fun prog 229:=.i func229
instance ty1511:Fun prog 230:=.i func230
instance ty1512:Fun prog 231:=.i func231
instance ty1513:Fun prog 232:=.i func232
instance ty1514:Fun prog 233:=.i func233
instance ty1515:Fun prog 234:=.i func234
instance ty1516:Fun prog 235:=.i func235
instance ty1517:Fun prog 236:=.i func236
instance ty1518:Fun prog 237:=.i func237
instance ty1519:Fun prog 238:=.i func238
def byteAt(n:Int)(i:Nat):UInt8:=UInt8.ofNat ((n.fdiv (2 ^ (8*i))) % 256).toNat
def beTop(k:Nat)(n:Int):Nat→List UInt8
 |0=>[]
 |i+1=>beTop k n i++[byteAt n (k-1-i)]
def be(k:Nat)(n:Int):List UInt8:=beTop k n k
theorem beTop_len(k:Nat)(n:Int):∀i,(beTop k n i).length=i
 |0=>rfl
 |i+1=>by simp[beTop,beTop_len k n i]
theorem be_len(k:Nat)(n:Int):(be k n).length=k:=beTop_len k n k
theorem byteAt_wrap(n:Int)(i:Nat):IntKind.u8.wrap (n.fdiv (2 ^ (8*i)))=((byteAt n i).toNat:Int):=by
 have h:IntKind.u8.wrap (n.fdiv (2 ^ (8*i)))=(n.fdiv (2 ^ (8*i))) % 256:=by
  simp[IntKind.wrap,IntKind.signed,IntKind.bits]
 rw[h];unfold byteAt;have h1:0≤(n.fdiv (2 ^ (8*i))) % 256:=Int.emod_nonneg _ jC;have h2:(n.fdiv (2 ^ (8*i))) % 256<256:=Int.emod_lt_of_pos _ jC
 generalize(n.fdiv (2 ^ (8*i))) % 256=z at h1 h2;exact qcA
theorem zac(l:List UInt8):(bytesV l).length=l.length:=by simp[bytesV]
theorem zaf(a b:List UInt8):bytesV (a++b)=bytesV a++bytesV b:=by simp[bytesV]
theorem zaj(l:List UInt8):∀v∈bytesV l,one v=true:=by
 intro v hv;obtain⟨b,_,rfl⟩:=List.mem_map.1 hv;rfl
theorem Fn.slc_cap{xs:List Value}(h:At A (slc p m c T sz xs) A' (slc p m c T sz xs))
  (k:m≤c→c≤9223372036854775807→xs.length=m*sz→Fn P fid args f A R):Fn P fid args f A R:=fun base w s=>by
 obtain⟨h1,h2,h3⟩:=s.slc_at h
 rcases h3 with⟨rfl,rfl⟩|⟨b,sp,rfl,h4,_⟩
 ·exact k (Nat.le_refl _) h2 h1 base w s
 ·exact k h4 h2 h1 base w s
def BytesR(l:List UInt8)(f:Frag)(A:List HP):Value→Frag→List HP→Prop:=fun v f' A'=>∃p c,v= .slice p l.length c∧f'=f∧A'=slc p l.length c 5 1 (bytesV l)::A
variable {l:List UInt8}
section
variable (f:Frag) (A:List HP)
theorem cloneB_fn(hs:Src prog f A (.slice p l.length c) 1 l.length (bytesV l))(hn:p=none→l=[])(hl:l.length≤100000000000):Fn prog 182 [.slice p l.length c] f A (BytesR l f A):=by
 cases p with
 | none =>
  have:=hn rfl;subst this
  refine Fn.e1 func182 ntmps182 fun base=>?_;refine gS ?_;exact qeb
 | some a =>
  refine Fn.e1 func182 ntmps182 fun base=>?_;refine qgQ fun eb=>?_;refine qjb ?_;refine H.imp (A':=slc (some ⟨eb,0,none⟩) 0 0 5 1 []::A) ?_ ?_
  ·exact qdp
  refine qkZ fun p' c'=>?_;refine gT ?_;refine H.Ae rfl rfl (A':=slc p' l.length c' 5 1 (bytesV l)::A) ?_ ⟨p',c',by rw[Nat.zero_add],rfl,rfl⟩;simp only[List.nil_append,Nat.zero_add];exact fun _ h=>h
theorem growB_fn(hl:l.length≤100000000000)(hm:m≤1000000):Fn prog 143 [.slice p l.length c,.int .i64 (m:Nat)] f (slc p l.length c 5 1 (bytesV l)::A) (BytesR l f A):=by
 refine Fn.slc_cap aP0 fun hc hcm _=>?_;by_cases hg:c<l.length+m
 ·refine Fn.e2 func143 ntmps143 fun base=>?_;refine gN ?_;skip;refine H.slc_full fun sp hsp _=>?_;refine H.sliceTo rfl rfl rfl rfl (Nat.le_refl _) rfl ?_;refine gI ?_;refine H.appendZ (m:=m-(c-l.length)) rfl rfl rfl rfl jA (fun p' c'=>.here _ _ _) rfl jA jA jA jA fun p' c'=>?_;repeat(((first|apply H.Aw|apply H.Bi);(iterate 3 exact rfl)))
  refine qjH fun hc' _ _=>?_;refine H.sliceTo rfl rfl rfl rfl jA rfl ?_;refine H.slc_trunc (m':=l.length) (ys:=bytesV l) jA hc' ?_ ?_
  ·rw[List.append_assoc,Nat.mul_one,List.take_append_of_le_length (by rw[zac];exact Nat.le_refl _),List.take_of_length_le (by rw[zac];exact Nat.le_refl _)]
  refine gT ?_;exact qct
 ·refine Fn.e2 func143 ntmps143 fun base=>?_;refine gN ?_;skip;exact H.r1 ⟨p,c,rfl,rfl,rfl⟩
theorem put_fn{k:Nat}{n:Int}(hs:Src prog f A (.slice p l.length c) 1 l.length (bytesV l))(hn:p=none→l=[])(hl:l.length≤10000000000)(hk:k≤8):Fn prog 144 [.slice p l.length c,.int .u64 n,.int .i64 (k:Nat)] f A (BytesR (l++be k n) f A):=by
 refine Fn.e3 func144 ntmps144 fun base=>?_;refine gI ?_;refine H.Am rfl rfl rfl (cloneB_fn f A hs hn jA) fun p1 c1=>?_;refine gI ?_;refine H.Am rfl rfl rfl (growB_fn f A jA jA) fun p2 c2=>?_;exact qab
theorem putH_fn{k:Nat}{n:Int}(hs:Src prog f A (.slice p l.length c) 1 l.length (bytesV l))(hn:p=none→l=[])(hl:l.length≤10000000000)(hk:k≤2):Fn prog 233 [.slice p l.length c,.int .u16 n,.int .i64 (k:Nat)] f A (BytesR (l++be k n) f A):=by
 refine Fn.e3 func233 ntmps233 fun base=>?_;refine gI ?_;refine H.Am rfl rfl rfl (cloneB_fn f A hs hn jA) fun p1 c1=>?_;refine gI ?_;refine H.Am rfl rfl rfl (growB_fn f A jA jA) fun p2 c2=>?_;refine gW ?_
 refine H.loop (ι:=Nat×Option Addr×Nat) (fun i=>[(8,.int .i64 ((k:Int)-1-(i.1:Int))),(7,.slice i.2.1 (l++beTop k n i.1).length i.2.2),(1,.int .u16 n)]) (fun _=>f)
  (fun i=>slc i.2.1 (l++beTop k n i.1).length i.2.2 5 1 (bytesV (l++beTop k n i.1))::A) (fun i=>i.1≤k) (fun i=>k-i.1) (0,p2,c2) (Nat.zero_le _) ?_ rfl ?_ fun i hi=>?_
 ·refine⟨?_,?_,rfl,trivial⟩
  ·show some (Value.int .i64 ((k:Int)-1))=some (Value.int .i64 ((k:Int)-1-((0:Nat):Int)));simp
  ·show some (Value.slice p2 l.length c2)=some (Value.slice p2 (l++[]).length c2);simp
 ·show slc p2 l.length c2 _ 1 (bytesV l)::A=slc p2 (l++[]).length c2 _ 1 (bytesV (l++[]))::A;simp
 ·obtain⟨i,p',c'⟩:=i;have hi:i≤k:=hi;show H _ _ _ [(8,.int .i64 ((k:Int)-1-(i:Int))),(7,.slice p' (l++beTop k n i).length c'),(1,.int .u16 n)] _ (slc p' (l++beTop k n i).length c' _ 1 (bytesV (l++beTop k n i))::A) _
  generalize hacc:l++beTop k n i=acc;have hlen:acc.length=l.length+i:=by rw[←hacc,lnA,beTop_len]
  by_cases hlt:i<k
  ·have hexp:min (8*((k:Int)-1-(i:Int))).toNat IntKind.u16.bits=8*(k-1-i):=by simp only[IntKind.bits];omega
   have hsh:n.fdiv (2 ^ (min (8*((k:Int)-1-(i:Int))).toNat IntKind.u16.bits))=n.fdiv (2 ^ (8*(k-1-i))):=by rw[hexp]
   refine gc ?_;refine H.Bo rfl rfl rfl rfl jA hsh rfl ?_;refine H.Bk rfl rfl (byteAt_wrap n (k-1-i)) rfl ?_;refine qeU fun tb=>?_;refine qgf fun p'' c''=>?_;refine gW ?_;refine qeK ?_;have e1:l++beTop k n (i+1)=acc++[byteAt n (k-1-i)]:=by rw[←hacc];simp[beTop]
   refine H.Bh (d:=8) (u:=.int .i64 ((k:Int)-1-((i+1:Nat):Int))) rfl (congrArg (Value.int .i64) jA) ?_;refine H.Ar (i+1,p'',c'') kg kF ⟨rfl,?_,rfl,trivial⟩ rfl ?_
   ·show some _=some (Value.slice p'' (l++beTop k n (i+1)).length c'');rw[e1,lnA];exact rfl
   ·show _=slc p'' (l++beTop k n (i+1)).length c'' _ 1 (bytesV (l++beTop k n (i+1)))::A;rw[e1,lnA,zaf];rfl
  ·have:i=k:=jA
   subst this;subst hacc;refine gc ?_;exact qct
theorem rput_fn{k:Nat}{n:Int}(hs:Src prog f A (.slice p l.length c) 1 l.length (bytesV l))(hl:l.length≤10000000000)(hk:k≤8):Fn prog 98 [.slice p l.length c,.int .u64 n,.int .i64 (k:Nat)] f A (BytesR (l++be k n) f A):=by
 refine Fn.e3 func98 ntmps98 fun base=>?_;repeat(first|((apply H.Be);(iterate 3 exact rfl))|(first|apply H.seq|apply H.Bg|apply H.nil|apply H.Bj))
 refine qeU fun eb=>?_;refine qjb ?_;refine H.imp (A':=slc (some ⟨eb,0,none⟩) 0 0 5 1 []::A) ?_ ?_
 ·exact qdp
 refine qkZ fun p2 c2=>?_;rw[Nat.zero_add,List.nil_append];exact qab
theorem zck{n:Int}(hs:Src prog f A (.slice p l.length c) 1 l.length (bytesV l))(hn:p=none→l=[])(hl:l.length≤10000000000):Fn prog 113 [.slice p l.length c,.int .u64 n] f A (BytesR (l++be 8 n) f A):=by
 refine Fn.e2 func113 ntmps113 fun base=>?_;refine gI ?_;refine H.Am rfl rfl rfl (put_fn (k:=8) f A hs hn hl jC) fun p1 c1=>?_;exact qbc
theorem half_fn{n:Int}(hs:Src prog f A (.slice p l.length c) 1 l.length (bytesV l))(hn:p=none→l=[])(hl:l.length≤10000000000):Fn prog 227 [.slice p l.length c,.int .u16 n] f A (BytesR (l++be 2 n) f A):=by
 refine Fn.e2 func227 ntmps227 fun base=>?_;refine gI ?_;refine H.Am rfl rfl rfl (putH_fn (k:=2) f A hs hn hl jC) fun p1 c1=>?_;exact qbc
theorem zcb{n:Int}(hs:Src prog f A (.slice p l.length c) 1 l.length (bytesV l))(hl:l.length≤10000000000):Fn prog 58 [.slice p l.length c,.int .u64 n] f A (BytesR (l++be 8 n) f A):=by
 refine Fn.e2 func58 ntmps58 fun base=>?_;refine gI ?_;refine H.Am rfl rfl rfl (rput_fn (k:=8) f A hs hl jC) fun p1 c1=>?_;exact qbc
theorem rhalf_fn{n:Int}(hs:Src prog f A (.slice p l.length c) 1 l.length (bytesV l))(hl:l.length≤10000000000)(h0:0≤n∧n≤65535):Fn prog 101 [.slice p l.length c,.int .u16 n] f A (BytesR (l++be 2 n) f A):=by
 refine Fn.e2 func101 ntmps101 fun base=>?_;refine gW ?_;refine H.Am rfl rfl rfl (rput_fn (k:=2) f A hs hl jC) fun p1 c1=>?_;exact qbc
end
def BytesR2(l:List UInt8)(e:Int)(f:Frag)(A:List HP):Value→Frag→List HP→Prop:=fun v f' A'=>∃p c,v= .tuple #[.slice p l.length c,.int .i64 e]∧f'=f∧A'=slc p l.length c 5 1 (bytesV l)::A
def textB(s:ByteArray):List UInt8:=be 2 (s.size:Nat)++s.data.toList
section
variable (f:Frag) (A:List HP)
theorem zbu(s:ByteArray):s.data.toList.length=s.size:=by rw[Array.length_toList];rfl
theorem text_fn{s:ByteArray}(hs:Src prog f A (.slice p l.length c) 1 l.length (bytesV l))(hn:p=none→l=[])(hl:l.length≤10000000000)(hz:s.size<65536):Fn prog 207 [.slice p l.length c,.string s] f A (BytesR2 (l++textB s) 0 f A):=by
 refine Fn.e2 func207 ntmps207 fun base=>?_;refine gc ?_;skip;skip;refine H.Am rfl rfl rfl (half_fn f A hs hn hl) fun p1 c1=>?_;exact qaD
theorem rtext_fn{s:ByteArray}(hs:Src prog f A (.slice p l.length c) 1 l.length (bytesV l))(hl:l.length≤10000000000)(hz:s.size<65536):Fn prog 63 [.slice p l.length c,.string s] f A (BytesR2 (l++textB s) 0 f A):=by
 refine Fn.e2 func63 ntmps63 fun base=>?_;refine gc ?_;skip;skip;refine H.Am rfl rfl rfl (rhalf_fn f A hs hl jA) fun p1 c1=>?_;exact qaD
end
def BAt(f:Frag)(p:Option Addr)(l:List UInt8):Prop:=
 l=[]∨∃b off cs T fr,p=some ⟨b,off,none⟩∧f b=some (.cells cs T fr)∧∀i,i<l.length→cs[off+i]?=(bytesV l)[i]?
theorem BAt.take(h:BAt f p l)(n:Nat):BAt f p (l.take n):=by
 rcases h with rfl|⟨b,off,cs,T,fr,h1,h2,h3⟩
 ·exact .inl jK
 ·refine .inr ⟨b,off,cs,T,fr,h1,h2,fun i hi=>?_⟩;rw[List.length_take]at hi;rw[h3 i jA];simp only[bytesV,List.map_take];rw[List.getElem?_take,if_pos jA]
theorem BAt.drop(h:BAt f p l)(hn:n≤l.length)(hc:l.length≤c):BAt f (slP p n c 1) (l.drop n):=by
 unfold slP;split
 ·rename_i e
  subst e;exact .inl (List.drop_eq_nil_of_le hc)
 ·rcases h with rfl|⟨b,off,cs,T,fr,rfl,h2,h3⟩
  ·exact .inl jK
  ·refine .inr ⟨b,off+n,cs,T,fr,?_,h2,fun i hi=>?_⟩
   ·rw[Option.map_some,zba,Nat.mul_one]
   ·rw[List.length_drop]at hi;rw[Nat.add_assoc,h3 (n+i) jA];simp only[bytesV,List.map_drop];rw[List.getElem?_drop]
theorem BAt.src(h:BAt f p l):Src P f A (.slice p l.length c) 1 l.length (bytesV l):=by
 rcases h with rfl|⟨b,off,cs,T,fr,rfl,h2,h3⟩
 ·refine⟨fun w=>rfl,fun base w s=>?_,rfl⟩
  cases p with
  |none=>exact run_firstCells_none w 1 0 0 c
  |some a=>exact run_firstCells_some w 1 0 a 0 c [] jK jK
 ·exact Src.slice (Rd.imm h2 (fun i hi=>h3 i (by rwa [zac]at hi))) (by rw[zac,Nat.mul_one])
def cutL(cb:Nat)(p:Option Addr)(c:Nat)(l:List UInt8)(sp:Bool):HP:=row cb 261 [.slice p l.length c,.bool sp]
def cutH(f:Frag)(cb:Nat)(l:List UInt8)(sp:Bool):HP:=fun h=>∃i:Option Addr×Nat,stars [fact (BAt f i.1 l∧l.length≤i.2),cutL cb i.1 i.2 l sp] h
variable {cb:Nat} {sp:Bool} {F:List HP}
theorem zbm(hb:BAt f p l)(hc:l.length≤c):∀x,stars (cutL cb p c l sp::F) x→stars (cutH f cb l sp::F) x:=by
 intro x hx;obtain⟨m1,m2,d,e,a,r⟩:=hx;refine⟨m1,m2,d,e,⟨(p,c),?_⟩,r⟩;exact⟨nil0,m1,(Dj.nil m1).symm,(nil_un m1).symm,⟨⟨hb,hc⟩,rfl⟩,m1,nil0,Dj.nil m1,(un_nil m1).symm,a,rfl⟩
theorem cutH_open
  (k:∀p c,BAt f p l→l.length≤c→Fn prog fid args f (row cb 261 [.slice p l.length c,.bool sp]::F) R):Fn prog fid args f (cutH f cb l sp::F) R:=fun base w s=>by
 obtain⟨m,hm,hd,hw⟩:=s.mem
 obtain⟨m1,m2,d,rfl,⟨⟨p,c⟩,hh⟩,r⟩:=hm
 obtain⟨n1,n2,dd,rfl,⟨⟨hb,hc⟩,rfl⟩,n3,n4,d3,rfl,h4,h5⟩:=hh
 refine k p c hb hc base w ⟨s.os,s.tape,s.output,s.size,s.imm,_,?_,hd,hw⟩
 have e5:n4=nil0:=h5
 subst e5
 rw[nil_un,un_nil]
 rw[nil_un,un_nil]at d
 exact⟨n3,m2,d,rfl,h4,r⟩
def RetP{α:Type}(φ:α→Prop)(v:α→Value)(f:Frag)(A:α→List HP):Value→Frag→List HP→Prop:=fun u f' A'=>∃i,φ i∧u=v i∧f'=f∧A'=A i
variable {xs:List Operand} {vs:List Value} {ats:Array TypeId}
section
variable {P:Program} {base:World} {n:Nat} {L:Env} {f f':Frag} {A:List HP} {q:Post}
variable {l rest:List Oper} {d:Nat} {ty:TypeId} {pos:String} {af:Array Edge} {gd:Option (Nat × Bool)}
theorem H.callP{φ:α→Prop}{v:α→Value}{Ai:α→List HP}[hfun:Fun P fid](hw:want? l L gd=true)(hd:Nat.ble (d+1) n=true)
  (hx:evs? L xs=some vs) (hc:Fn P fid vs f A (RetP φ v f' Ai)) (k:∀i,φ i→H P base n ((d,v i)::L) f' (Ai i) (.ops l rest q)) :
  H P base n L f A (.ops l (⟨some d,.call ⟨.value (.func fid),xs.toArray,ats⟩,ty,pos,af,gd⟩::rest) q):=
 H.Ap hw hd hx hc fun _ _ _ h=>by obtain⟨i,hp,rfl,rfl,rfl⟩:=h;exact k i hp
theorem H.callVP{φ:α→Prop}{fs cs:List Value}{v:α→Value}{Ai:α→List HP}(hx:ev? L x=some (.func (.func fid) fs.toArray cs.toArray))[hfun:Fun P fid](hw:want? l L gd=true)(hd:Nat.ble (d+1) n=true)
  (hxs:evs? L xs=some vs) (hc:Fn P fid (fs++vs++cs) f A (RetP φ v f' Ai)) (k:∀i,φ i→H P base n ((d,v i)::L) f' (Ai i) (.ops l rest q)) :
  H P base n L f A (.ops l (⟨some d,.call ⟨.value x,xs.toArray,ats⟩,ty,pos,af,gd⟩::rest) q):=
 H.callV hx hw hd hxs hc fun _ _ _ h=>by obtain⟨i,hp,rfl,rfl,rfl⟩:=h;exact k i hp
end
section
variable (f:Frag) (F:List HP) (cb:Nat)
theorem take_no{n:Int}(h:sp=true∨n<0∨(l.length:Int)<n):Fn prog 208 [.pointer (some ⟨cb,0,none⟩),.int .i64 n] f (cutH f cb l sp::F) (Ret (.slice none 0 0) f (cutH f cb l true::F)):=by
 refine cutH_open fun p c hb hc=>?_;have fin:∀x,stars (row cb 261 [.slice p l.length c,.bool true]::F) x→stars (cutH f cb l true::F) x:=zbm hb hc
 cases sp with
 | true =>
  exact qcC
 | false =>
  by_cases h0:n<0
  ·exact qcC
  ·have h1:(l.length:Int)<n:=by simp at h;omega
   refine Fn.e2 func208 ntmps208 fun base=>?_;refine gX ?_;rw[decide_eq_true h1];exact H.Ae rfl rfl fin ⟨rfl,rfl,rfl⟩
theorem take_yes(hn:n≤l.length)(hl:l.length≤1000000000000):Fn prog 208 [.pointer (some ⟨cb,0,none⟩),.int .i64 (n:Nat)] f (cutH f cb l false::F)
   (RetP (fun i:Option Addr×Nat=>BAt f i.1 (l.take n)) (fun i=>.slice i.1 n i.2) f (fun _=>cutH f cb (l.drop n) false::F)):=by
 refine cutH_open fun p c hb hc=>?_
 have fin:∀x,stars (row cb 261 [.slice (slP p n c 1) (l.length-n) (c-n),.bool false]::F) x→stars (cutH f cb (l.drop n) false::F) x:=by
  have:=zbm (cb:=cb) (sp:=false) (F:=F) (hb.drop hn hc) (c:=c-n) kU;rw[show cutL cb (slP p n c 1) (c-n) (l.drop n) false=row cb 261 [.slice (slP p n c 1) (l.length-n) (c-n),.bool false] by unfold cutL;rw[List.length_drop]]at this
  exact this
 refine Fn.e2 func208 ntmps208 fun base=>?_;refine gX ?_;rw[decide_eq_false (show¬((l.length:Int)<(n:Int)) by omega)];skip;refine H.sliceTo rfl rfl rfl rfl jA rfl ?_;refine gF ?_;refine H.slice (lv:=n) (hv:=l.length) (mv:=c) rfl rfl ⟨_,_,rfl,rfl⟩ rfl rfl (fun h=>by cases h) hn hc (Nat.le_refl _) rfl ?_;refine gR ?_;exact H.Ae rfl rfl fin ⟨(p,c),hb.take n,rfl,rfl,rfl⟩
end
def numB(l:List UInt8):Nat:=l.foldl (fun n b=>n*256+b.toNat) 0
theorem numB_snoc(l:List UInt8)(b:UInt8):numB (l++[b])=numB l*256+b.toNat:=by simp[numB]
theorem numB_acc:∀(l:List UInt8) (a k:Nat),a<256 ^ k→l.foldl (fun n b=>n*256+b.toNat) a<256 ^ (k+l.length)
 | [],a,k,h=>h
 | b :: l, a, k, h => by
  have hb:=b.toNat_lt
  have:=numB_acc l (a*256+b.toNat) (k+1) (by rw[Nat.pow_succ];omega)
  rw[List.length_cons,show k+(l.length+1)=k+1+l.length by omega]
  exact this
theorem numB_lt(l:List UInt8):numB l<256 ^ l.length:=by
 have:=numB_acc l 0 0 jC;rwa [Nat.zero_add]at this
theorem or_byte{b:UInt8}(hn:n<72057594037927936):bitsI .or .u64 (IntKind.u64.wrap ((n:Int)*2 ^ 8)) ((b.toNat:Nat):Int)=some ((n*256+b.toNat:Nat):Int):=by
 have hb:=b.toNat_lt
 have h1:IntKind.u64.wrap ((n:Int)*2 ^ 8)=((n*256:Nat):Int):=by
  rw[wr_u64 jA];omega
 rw[h1];simp only[bitsI,Option.some.injEq]
 have e1:(BitVec.ofInt IntKind.u64.bits ((n*256:Nat):Int) ||| BitVec.ofInt IntKind.u64.bits ((b.toNat:Nat):Int)).toNat=n*256+b.toNat:=by
  rw[BitVec.toNat_or];simp only[BitVec.ofInt_natCast,BitVec.toNat_ofNat,IntKind.bits];rw[Nat.mod_eq_of_lt jA,Nat.mod_eq_of_lt jA]
  have:=Nat.shiftLeft_add_eq_or_of_lt (i:=8) (b:=b.toNat) (by simpa using hb) n;rw[Nat.shiftLeft_eq,show n*2 ^ 8=n*256 from rfl]at this
  omega
 rw[e1,wr_u64 jA]
section
variable (f:Frag) (F:List HP) (cb:Nat)
abbrev takeV(cb:Nat):Value:=.func (.func 208) #[.pointer (some ⟨cb,0,none⟩)] #[]
theorem sum_no{n:Int}(h:sp=true∨n<0∨(l.length:Int)<n):Fn prog 209 [takeV cb,.int .i64 n] f (cutH f cb l sp::F) (Ret (.int .u64 0) f (cutH f cb l true::F)):=by
 refine Fn.e2 func209 ntmps209 fun base=>?_;refine gI ?_;refine H.callVR (fs:=[_]) (cs:=[]) rfl rfl rfl rfl (take_no f F cb h) ?_;refine gT ?_;refine H.lo (ι:=Unit) (fun _=>[(4,.int .u64 0),(9,.slice none 0 0),(10,.int .i64 ((0:Nat):Int)),(11,.int .i64 0)]) (fun _=>f) (fun _=>cutH f cb l true::F) (fun _=>True) (fun _=>0) () trivial fun _ _=>?_;refine gY ?_;exact qaj
theorem sum_yes{k:Nat}(hn:k≤l.length)(hk:k≤8)(hl:l.length≤1000000000000):Fn prog 209 [takeV cb,.int .i64 (k:Nat)] f (cutH f cb l false::F) (Ret (.int .u64 (numB (l.take k):Nat)) f (cutH f cb (l.drop k) false::F)):=by
 refine Fn.e2 func209 ntmps209 fun base=>?_;refine gI ?_;refine H.callVP (fs:=[_]) (cs:=[]) rfl rfl rfl rfl (take_yes f F cb hn hl) fun i hb=>?_;obtain⟨p,c⟩:=i;have hb:BAt f p (l.take k):=hb;refine gT ?_
 have hlen:(l.take k).length=k:=by rw[List.length_take];omega
 refine H.lo (ι:=Nat) (fun i=>[(4,.int .u64 (numB ((l.take k).take i):Nat)),(9,.slice p k c),(10,.int .i64 ((k:Nat):Int)),(11,.int .i64 (i:Int))]) (fun _=>f) (fun _=>cutH f cb (l.drop k) false::F) (fun i=>i≤k) (fun i=>k-i) 0 (Nat.zero_le _) fun i hi=>?_;have hi:i≤k:=hi;refine gO ?_
 by_cases hlt:i<k
 ·obtain⟨x,hx⟩:∃x,(l.take k)[i]?=some x:=⟨(l.take k)[i]' jA,lgE jA⟩;have hsrc:(l.take k).take (i+1)=(l.take k).take i++[x]:=by rw[List.take_add_one,hx];rfl
  have hm:numB ((l.take k).take i)<72057594037927936:=by
   have h1:=numB_lt ((l.take k).take i);have h2:((l.take k).take i).length=i:=by rw[List.length_take];omega
   rw[h2]at h1;have h3:256 ^ i≤256 ^ 7:=Nat.pow_le_pow_right jC jA;have h4:(256:Nat) ^ 7=72057594037927936:=jC
   omega
  rcases hb with hnil|⟨b,off,cs,T,fr,rfl,h2,h3⟩
  ·rw[hnil]at hlen;simp at hlen;omega
  have rd:∀A,Rd f A b off (bytesV (l.take k)):=fun A=>Rd.imm h2 (fun j hj=>h3 j (by rwa [zac]at hj));have hv:(bytesV (l.take k))[i]?=some (.int .u8 (x.toNat:Nat)):=by unfold bytesV;rw[List.getElem?_map,hx];rfl
  refine gG ?_;refine H.Bv rfl rfl rfl rfl hlt rfl ?_;refine H.Ab rfl rfl rfl (.of (rd _) hv) rfl ?_;refine gI ?_;have hxl:=x.toNat_lt;refine H.Bo rfl rfl rfl rfl jC rfl rfl ?_
  refine gW ?_;refine H.Bf rfl rfl rfl (or_byte hm) rfl rfl ?_;refine gW ?_;refine H.Ar (i+1) kg kF ⟨?_,rfl,rfl,rfl,trivial⟩ rfl rfl;show some _=some (Value.int .u64 (numB ((l.take k).take (i+1)):Nat));rw[hsrc,numB_snoc]
 ·have:i=k:=jA
  subst this;rw[List.take_of_length_le jA];refine gc ?_;exact qaj
theorem cutWord_no(h:sp=true∨l.length<8):Fn prog 165 [.pointer (some ⟨cb,0,none⟩)] f (cutH f cb l sp::F) (Ret (.int .u64 0) f (cutH f cb l true::F)):=by
 refine Fn.e1 func165 ntmps165 fun base=>?_;refine gO ?_;refine H.Af rfl rfl rfl (sum_no f F cb (n:=8) (h.elim .inl fun h=>.inr (.inr jA))) ?_;refine gT ?_;exact qaj
theorem cutWord_yes(h:8≤l.length)(hl:l.length≤1000000000000):Fn prog 165 [.pointer (some ⟨cb,0,none⟩)] f (cutH f cb l false::F) (Ret (.int .u64 (numB (l.take 8):Nat)) f (cutH f cb (l.drop 8) false::F)):=by
 have hb:=numB_lt (l.take 8);rw[show(l.take 8).length=8 by rw[List.length_take];omega]at hb
 have e:(256:Nat) ^ 8=18446744073709551616:=jC
 rw[e]at hb;clear e;refine Fn.e1 func165 ntmps165 fun base=>?_;refine gO ?_;refine H.Af rfl rfl rfl (sum_yes f F cb (k:=8) h jC hl) ?_;refine gT ?_;exact qaj
theorem cutHalf_no(h:sp=true∨l.length<2):Fn prog 228 [.pointer (some ⟨cb,0,none⟩)] f (cutH f cb l sp::F) (Ret (.int .u16 0) f (cutH f cb l true::F)):=by
 refine Fn.e1 func228 ntmps228 fun base=>?_;refine gO ?_;refine H.Af rfl rfl rfl (sum_no f F cb (n:=2) (h.elim .inl fun h=>.inr (.inr jA))) ?_;refine gW ?_;exact qaj
theorem cutHalf_yes(h:2≤l.length)(hl:l.length≤1000000000000):Fn prog 228 [.pointer (some ⟨cb,0,none⟩)] f (cutH f cb l false::F) (Ret (.int .u16 (numB (l.take 2):Nat)) f (cutH f cb (l.drop 2) false::F)):=by
 have hb:=numB_lt (l.take 2);rw[show(l.take 2).length=2 by rw[List.length_take];omega]at hb
 have e:(256:Nat) ^ 2=65536:=jC
 rw[e]at hb;clear e;refine Fn.e1 func228 ntmps228 fun base=>?_;refine gO ?_;refine H.Af rfl rfl rfl (sum_yes f F cb (k:=2) h jC hl) ?_;refine gW ?_;exact qaj
theorem cutByte_no(h:sp=true∨l.length<1):Fn prog 175 [.pointer (some ⟨cb,0,none⟩)] f (cutH f cb l sp::F) (Ret (.int .u8 0) f (cutH f cb l true::F)):=by
 refine Fn.e1 func175 ntmps175 fun base=>?_;refine gO ?_;refine H.Af rfl rfl rfl (sum_no f F cb (n:=1) (h.elim .inl fun h=>.inr (.inr jA))) ?_;refine gW ?_;exact qaj
theorem cutByte_yes(h:1≤l.length)(hl:l.length≤1000000000000):Fn prog 175 [.pointer (some ⟨cb,0,none⟩)] f (cutH f cb l false::F) (Ret (.int .u8 (numB (l.take 1):Nat)) f (cutH f cb (l.drop 1) false::F)):=by
 have hb:=numB_lt (l.take 1);rw[show(l.take 1).length=1 by rw[List.length_take];omega]at hb
 have e:(256:Nat) ^ 1=256:=jC
 rw[e]at hb;clear e;refine Fn.e1 func175 ntmps175 fun base=>?_;refine gO ?_;refine H.Af rfl rfl rfl (sum_yes f F cb (k:=1) h jC hl) ?_;refine gW ?_;exact qaj
end
section
variable (f:Frag) (F:List HP) (cb:Nat)
theorem cutLeft_fn:Fn prog 176 [.pointer (some ⟨cb,0,none⟩)] f (cutH f cb l sp::F) (Ret (.bool (!sp)) f (cutH f cb l sp::F)):=by
 refine cutH_open fun p c hb hc=>?_;refine Fn.e1 func176 ntmps176 fun base=>?_;refine gX ?_;exact H.Ae rfl rfl (zbm hb hc) ⟨rfl,rfl,rfl⟩
theorem raw_no{n:Int}(h:sp=true∨n<0∨(l.length:Int)<n):Fn prog 214 [.pointer (some ⟨cb,0,none⟩),.int .i64 n] f (cutH f cb l sp::F) (BytesR [] f (cutH f cb l true::F)):=by
 refine Fn.e2 func214 ntmps214 fun base=>?_;refine gI ?_;refine H.Af rfl rfl rfl (take_no f F cb h) ?_;skip;refine H.Am rfl rfl rfl (cloneB_fn (l:=[]) f _ Src.nil (fun _=>rfl) jC) fun p c=>?_;exact qdf
theorem raw_yes(hn:n≤l.length)(hl:l.length≤10000000000):Fn prog 214 [.pointer (some ⟨cb,0,none⟩),.int .i64 (n:Nat)] f (cutH f cb l false::F) (BytesR (l.take n) f (cutH f cb (l.drop n) false::F)):=by
 have hlen:(l.take n).length=n:=by rw[List.length_take];omega
 refine Fn.e2 func214 ntmps214 fun base=>?_;refine gI ?_;refine H.callP rfl rfl rfl (take_yes f F cb hn jA) fun i hb=>?_;obtain⟨p,c⟩:=i;have hb:BAt f p (l.take n):=hb;skip
 have hs:Src prog f (cutH f cb (l.drop n) false::F) (.slice p (l.take n).length c) 1 (l.take n).length (bytesV (l.take n)):=hb.src;have hc:=cloneB_fn f _ hs (fun hp=>by rcases hb with h|⟨b,off,cs,T,fr,h,_⟩;exact h;rw[hp]at h;cases h) jA
 rw[hlen]at hc;refine H.Am rfl rfl rfl hc fun p1 c1=>?_;exact qbc
theorem slc_bat(h:slc p l.length c T 1 (bytesV l) g)(hd:Dj f g):BAt (un f g) p l:=by
 obtain⟨_,_,h3⟩:=h;rcases h3 with⟨h0,_,_⟩|⟨b,sp,rfl,h4,h5,rfl⟩
 ·exact .inl (List.eq_nil_of_length_eq_zero h0)
 ·refine .inr ⟨b,0,(bytesV l++sp).toArray,T,(0,0),rfl,?_,fun i hi=>?_⟩
  ·show(f b).or (sing b _ b)=_
   have:f b=none:=by
    rcases hd b with h|h
    ·exact h
    ·simp[sing]at h
   rw[this];simp[sing]
  ·rw[Nat.zero_add];simp only[List.getElem?_toArray];rw[List.getElem?_append_left (by rw[zac];exact hi)]
theorem octNew_fn{p0:Option Addr}{c0:Nat}(hs:Src prog f F (.slice p0 l.length c0) 1 l.length (bytesV l))(hn:p0=none→l=[])(hl:l.length≤100000000000):Fn prog 126 [.slice p0 l.length c0] f F (fun v f' A'=>∃g cb p c,v= .pointer (some ⟨cb,0,none⟩)∧slc p l.length c 5 1 (bytesV l) g∧Dj f g∧f'=un f g∧A'=cutH (un f g) cb l false::F):=by
 refine Fn.e1 func126 ntmps126 fun base=>?_;refine gI ?_;refine H.Am rfl rfl rfl (cloneB_fn f F hs hn hl) fun p c=>?_;refine qjH fun hc _ _=>?_;refine qjm fun g hg hd=>?_;refine gO ?_;refine H.box (ls:=[.slice p l.length c,.bool false]) rfl rfl rfl rfl fun cb=>?_;refine gT ?_;exact H.Ae rfl rfl (zbm (slc_bat f hg hd) hc) ⟨g,cb,p,c,rfl,hg,hd,rfl,rfl⟩
end
structure Cs where
 l:List UInt8
 bad:Bool
def Cs.ok(s:Cs)(n:Nat):Bool:=!s.bad&&Nat.ble n s.l.length
def Cs.num(s:Cs)(n:Nat):Nat:=if s.ok n then numB (s.l.take n)else 0
def Cs.skip(s:Cs)(n:Nat):Cs:=if s.ok n then⟨s.l.drop n,false⟩else⟨s.l,true⟩
def Cs.raw(s:Cs)(n:Nat):List UInt8:=if s.ok n then s.l.take n else []
def Cs.tok(s:Cs)(most:Nat):Bool:=s.ok 2&&Nat.ble (s.num 2) most&&Nat.ble (2+s.num 2) s.l.length
def Cs.text(s:Cs)(most:Nat):List UInt8:=if s.tok most then(s.l.drop 2).take (s.num 2)else []
def Cs.textS(s:Cs)(most:Nat):Cs:=if s.tok most then⟨s.l.drop (2+s.num 2),false⟩else⟨s.l,true⟩
theorem Cs.ok_iff(s:Cs)(n:Nat):s.ok n=true↔s.bad=false∧n≤s.l.length:=by
 simp[Cs.ok]
theorem Cs.skip_len(s:Cs)(n:Nat):(s.skip n).l.length≤s.l.length:=by
 unfold Cs.skip;split
 ·simp
 ·exact Nat.le_refl _
theorem Cs.textS_len(s:Cs)(n:Nat):(s.textS n).l.length≤s.l.length:=by
 unfold Cs.textS;split
 ·simp
 ·exact Nat.le_refl _
theorem Cs.num_lt(s:Cs)(n:Nat):s.num n<256 ^ n:=by
 unfold Cs.num;split
 ·rename_i h
  have h1:=numB_lt (s.l.take n);have h2:=((Cs.ok_iff s n).1 h).2
  rw[List.length_take,Nat.min_eq_left h2]at h1;exact h1
 ·exact Nat.pow_pos jC
theorem Cs.num1_lt(s:Cs):s.num 1<256:=s.num_lt 1
theorem Cs.num2_lt(s:Cs):s.num 2<65536:=s.num_lt 2
def cutC(f:Frag)(cb:Nat)(s:Cs):HP:=cutH f cb s.l s.bad
section
variable (f:Frag) (F:List HP) (cb:Nat) (s:Cs)
theorem Cs.no(h:¬s.ok n=true):s.bad=true∨s.l.length<n:=by
 rw[Cs.ok_iff]at h
 cases hb:s.bad with
 |true=>exact .inl rfl
 |false=>refine .inr ?_;simp[hb]at h;omega
theorem word_cs(hl:s.l.length≤1000000000000):Fn prog 165 [.pointer (some ⟨cb,0,none⟩)] f (cutC f cb s::F) (Ret (.int .u64 (s.num 8:Nat)) f (cutC f cb (s.skip 8)::F)):=by
 unfold Cs.num Cs.skip cutC;by_cases h:s.ok 8=true
 ·rw[if_pos h,if_pos h];obtain⟨h1,h2⟩:=(Cs.ok_iff _ _).1 h;rw[h1];exact cutWord_yes f F cb h2 hl
 ·rw[if_neg h,if_neg h];exact cutWord_no f F cb (s.no h)
theorem half_cs(hl:s.l.length≤1000000000000):Fn prog 228 [.pointer (some ⟨cb,0,none⟩)] f (cutC f cb s::F) (Ret (.int .u16 (s.num 2:Nat)) f (cutC f cb (s.skip 2)::F)):=by
 unfold Cs.num Cs.skip cutC;by_cases h:s.ok 2=true
 ·rw[if_pos h,if_pos h];obtain⟨h1,h2⟩:=(Cs.ok_iff _ _).1 h;rw[h1];exact cutHalf_yes f F cb h2 hl
 ·rw[if_neg h,if_neg h];exact cutHalf_no f F cb (s.no h)
theorem byte_cs(hl:s.l.length≤1000000000000):Fn prog 175 [.pointer (some ⟨cb,0,none⟩)] f (cutC f cb s::F) (Ret (.int .u8 (s.num 1:Nat)) f (cutC f cb (s.skip 1)::F)):=by
 unfold Cs.num Cs.skip cutC;by_cases h:s.ok 1=true
 ·rw[if_pos h,if_pos h];obtain⟨h1,h2⟩:=(Cs.ok_iff _ _).1 h;rw[h1];exact cutByte_yes f F cb h2 hl
 ·rw[if_neg h,if_neg h];exact cutByte_no f F cb (s.no h)
theorem raw_cs(n:Nat)(hl:s.l.length≤10000000000):Fn prog 214 [.pointer (some ⟨cb,0,none⟩),.int .i64 (n:Nat)] f (cutC f cb s::F) (BytesR (s.raw n) f (cutC f cb (s.skip n)::F)):=by
 unfold Cs.raw Cs.skip cutC;by_cases h:s.ok n=true
 ·rw[if_pos h,if_pos h];obtain⟨h1,h2⟩:=(Cs.ok_iff _ _).1 h;rw[h1];exact raw_yes f F cb h2 hl
 ·rw[if_neg h,if_neg h];exact raw_no f F cb ((s.no h).elim .inl fun h=>.inr (.inr jA))
theorem ok_cs:Fn prog 176 [.pointer (some ⟨cb,0,none⟩)] f (cutC f cb s::F) (Ret (.bool (!s.bad)) f (cutC f cb s::F)):=cutLeft_fn f F cb
end
def w32(x:UInt32):Value:=.int .u32 (x.toNat:Nat)
theorem u32_wrap(z:Int):IntKind.u32.wrap z=z % 4294967296:=by simp[IntKind.wrap,IntKind.signed,IntKind.bits]
theorem u32_bv(x:UInt32):BitVec.ofInt 32 (x.toNat:Int)=x.toBitVec:=by
 simp[BitVec.ofInt_natCast]
theorem u32_wrapN(x:UInt32):IntKind.u32.wrap ((x.toNat:Nat):Int)=(x.toNat:Int):=by
 rw[u32_wrap];have:=x.toNat_lt;omega
theorem zbt(x y:UInt32):bitsI .xor .u32 (x.toNat:Int) (y.toNat:Int)=some (((x ^^^ y).toNat:Nat):Int):=by
 have e:(BitVec.ofInt 32 (x.toNat:Int) ^^^ BitVec.ofInt 32 (y.toNat:Int)).toNat=(x ^^^ y).toNat:=by rw[u32_bv,u32_bv];rfl
 show some (IntKind.u32.wrap ((BitVec.ofInt 32 (x.toNat:Int) ^^^ BitVec.ofInt 32 (y.toNat:Int)).toNat:Int))=_;rw[e,u32_wrapN]
theorem u32_and(x y:UInt32):bitsI .and .u32 (x.toNat:Int) (y.toNat:Int)=some (((x &&& y).toNat:Nat):Int):=by
 have e:(BitVec.ofInt 32 (x.toNat:Int) &&& BitVec.ofInt 32 (y.toNat:Int)).toNat=(x &&& y).toNat:=by rw[u32_bv,u32_bv];rfl
 show some (IntKind.u32.wrap ((BitVec.ofInt 32 (x.toNat:Int) &&& BitVec.ofInt 32 (y.toNat:Int)).toNat:Int))=_;rw[e,u32_wrapN]
theorem u32_or(x y:UInt32):bitsI .or .u32 (x.toNat:Int) (y.toNat:Int)=some (((x ||| y).toNat:Nat):Int):=by
 have e:(BitVec.ofInt 32 (x.toNat:Int) ||| BitVec.ofInt 32 (y.toNat:Int)).toNat=(x ||| y).toNat:=by rw[u32_bv,u32_bv];rfl
 show some (IntKind.u32.wrap ((BitVec.ofInt 32 (x.toNat:Int) ||| BitVec.ofInt 32 (y.toNat:Int)).toNat:Int))=_;rw[e,u32_wrapN]
theorem u32_not(x:UInt32):bitsI .xor .u32 (if IntKind.u32.signed then-1 else IntKind.u32.max) (x.toNat:Int)=some (((~~~ x).toNat:Nat):Int):=by
 have h:(if IntKind.u32.signed then-1 else IntKind.u32.max)=(((0xffffffff:UInt32).toNat:Nat):Int):=jC
 rw[h,zbt];congr 3
theorem u32_shr(x:UInt32)(n:Nat)(hn:n<32):shiftI .shr .u32 (x.toNat:Int) (n:Int)=some (((x >>> (UInt32.ofNat n)).toNat:Nat):Int):=by
 simp only[shiftI,Option.some.injEq,IntKind.bits];rw[UInt32.toNat_shiftRight]
 have h1:(UInt32.ofNat n).toNat % 32=n:=by
  rw[UInt32.toNat_ofNat'];omega
 rw[h1,Nat.shiftRight_eq_div_pow];have h2:min ((n:Int).toNat) 32=n:=jA
 rw[h2];rw[show((2:Int) ^ n)=((2 ^ n:Nat):Int) by simp];rw[Int.fdiv_eq_ediv_of_nonneg _ (Int.natCast_nonneg _)];exact(Int.natCast_ediv _ _).symm
theorem u32_shl(x:UInt32)(n:Nat)(hn:n<32):shiftI .shl .u32 (x.toNat:Int) (n:Int)=some (((x <<< (UInt32.ofNat n)).toNat:Nat):Int):=by
 simp only[shiftI,Option.some.injEq,IntKind.bits];rw[UInt32.toNat_shiftLeft]
 have h1:(UInt32.ofNat n).toNat % 32=n:=by
  rw[UInt32.toNat_ofNat'];omega
 rw[h1,Nat.shiftLeft_eq];have h2:min ((n:Int).toNat) 32=n:=jA
 rw[h2,u32_wrap];rw[show((2:Int) ^ n)=((2 ^ n:Nat):Int) by simp];rw[←Int.natCast_mul];omega
theorem u32_shl24(x:UInt32):shiftI .shl .u32 (x.toNat:Int) 24=some (((x <<< (UInt32.ofNat 24)).toNat:Nat):Int):=u32_shl x 24 jC
theorem u32_shl16(x:UInt32):shiftI .shl .u32 (x.toNat:Int) 16=some (((x <<< (UInt32.ofNat 16)).toNat:Nat):Int):=u32_shl x 16 jC
theorem u32_shl8(x:UInt32):shiftI .shl .u32 (x.toNat:Int) 8=some (((x <<< (UInt32.ofNat 8)).toNat:Nat):Int):=u32_shl x 8 jC
theorem u32_shr3(x:UInt32):shiftI .shr .u32 (x.toNat:Int) 3=some (((x >>> (UInt32.ofNat 3)).toNat:Nat):Int):=u32_shr x 3 jC
theorem u32_shr10(x:UInt32):shiftI .shr .u32 (x.toNat:Int) 10=some (((x >>> (UInt32.ofNat 10)).toNat:Nat):Int):=u32_shr x 10 jC
theorem u32_ofByte(b:UInt8):IntKind.u32.wrap ((b.toNat:Nat):Int)=((b.toUInt32.toNat:Nat):Int):=by
 rw[u32_wrap,UInt8.toNat_toUInt32];have:=b.toNat_lt;omega
theorem u8_ofU32(x:UInt32):IntKind.u8.wrap ((x.toNat:Nat):Int)=((x.toUInt8.toNat:Nat):Int):=by
 have h:IntKind.u8.wrap ((x.toNat:Nat):Int)=(x.toNat:Int) % 256:=by simp[IntKind.wrap,IntKind.signed,IntKind.bits]
 rw[h,UInt32.toNat_toUInt8];omega
namespace Sha
def rot(x:UInt32)(n:Nat):UInt32:=x >>> (UInt32.ofNat n) ||| x <<< (UInt32.ofNat (32-n))
def word(b:List UInt8)(i:Nat):UInt32:=
 (b.getD (4*i) 0).toUInt32 <<< (UInt32.ofNat 24) ||| (b.getD (4*i+1) 0).toUInt32 <<< (UInt32.ofNat 16) ||| (b.getD (4*i+2) 0).toUInt32 <<< (UInt32.ofNat 8) ||| (b.getD (4*i+3) 0).toUInt32
def words(b:List UInt8):Nat→List UInt32
 |0=>[]
 |i+1=>words b i++[word b i]
def s0(x:UInt32):UInt32:=rot x 7 ^^^ rot x 18 ^^^ x >>> (UInt32.ofNat 3)
def s1(x:UInt32):UInt32:=rot x 17 ^^^ rot x 19 ^^^ x >>> (UInt32.ofNat 10)
def next(w:List UInt32):UInt32:=w.getD (w.length-16) 0+s0 (w.getD (w.length-15) 0)+w.getD (w.length-7) 0+s1 (w.getD (w.length-2) 0)
def ext(w:List UInt32):Nat→List UInt32
 |0=>w
 |i+1=>ext w i++[next (ext w i)]
def sched(b:List UInt8):List UInt32:=ext (words b 16) 48
def k:List UInt32:=[
 0x428a2f98,0x71374491,0xb5c0fbcf,0xe9b5dba5,0x3956c25b,0x59f111f1,0x923f82a4,0xab1c5ed5,
 0xd807aa98,0x12835b01,0x243185be,0x550c7dc3,0x72be5d74,0x80deb1fe,0x9bdc06a7,0xc19bf174,
 0xe49b69c1,0xefbe4786,0x0fc19dc6,0x240ca1cc,0x2de92c6f,0x4a7484aa,0x5cb0a9dc,0x76f988da,
 0x983e5152,0xa831c66d,0xb00327c8,0xbf597fc7,0xc6e00bf3,0xd5a79147,0x06ca6351,0x14292967,
 0x27b70a85,0x2e1b2138,0x4d2c6dfc,0x53380d13,0x650a7354,0x766a0abb,0x81c2c92e,0x92722c85,
 0xa2bfe8a1,0xa81a664b,0xc24b8b70,0xc76c51a3,0xd192e819,0xd6990624,0xf40e3585,0x106aa070,
 0x19a4c116,0x1e376c08,0x2748774c,0x34b0bcb5,0x391c0cb3,0x4ed8aa4a,0x5b9cca4f,0x682e6ff3,
 0x748f82ee,0x78a5636f,0x84c87814,0x8cc70208,0x90befffa,0xa4506ceb,0xbef9a3f7,0xc67178f2]
structure S8 where
 a:UInt32
 b:UInt32
 c:UInt32
 d:UInt32
 e:UInt32
 f:UInt32
 g:UInt32
 h:UInt32
def S8.vals(s:S8):List Value:=[w32 s.a,w32 s.b,w32 s.c,w32 s.d,w32 s.e,w32 s.f,w32 s.g,w32 s.h]
def start:S8:=⟨0x6a09e667,0xbb67ae85,0x3c6ef372,0xa54ff53a,0x510e527f,0x9b05688c,0x1f83d9ab,0x5be0cd19⟩
def t1(k w:UInt32)(v:S8):UInt32:=v.h+(rot v.e 6 ^^^ rot v.e 11 ^^^ rot v.e 25)+(v.e &&& v.f ^^^ ~~~ v.e &&& v.g)+k+w
def t2(v:S8):UInt32:=(rot v.a 2 ^^^ rot v.a 13 ^^^ rot v.a 22)+(v.a &&& v.b ^^^ v.a &&& v.c ^^^ v.b &&& v.c)
def round(k w:UInt32)(v:S8):S8:=⟨t1 k w v+t2 v,v.a,v.b,v.c,v.d+t1 k w v,v.e,v.f,v.g⟩
def rounds(w:List UInt32)(v:S8):Nat→S8
 |0=>v
 |i+1=>round (k.getD i 0) (w.getD i 0) (rounds w v i)
def S8.add(v s:S8):S8:=⟨v.a+s.a,v.b+s.b,v.c+s.c,v.d+s.d,v.e+s.e,v.f+s.f,v.g+s.g,v.h+s.h⟩
def block(s:S8)(b:List UInt8):S8:=(rounds (sched b) s 64).add s
def blocks(s:S8)(b:List UInt8):Nat→S8
 |0=>s
 |i+1=>block (blocks s b i) ((b.drop (64*i)).take 64)
def padZ(n:Nat):Nat:=(119-n % 64) % 64
def padded(b:List UInt8):List UInt8:=b++[0x80]++List.replicate (padZ b.length) 0++be 8 ((b.length*8:Nat):Int)
def S8.get(s:S8):Nat→UInt32
 |0=>s.a
 |1=>s.b
 |2=>s.c
 |3=>s.d
 |4=>s.e
 |5=>s.f
 |6=>s.g
 |_=>s.h
def S8.out(s:S8)(i:Nat):UInt8:=(s.get (i / 4) >>> (UInt32.ofNat (24-8*(i % 4)))).toUInt8
def sum(b:List UInt8):Nat→UInt8:=(blocks start (padded b) ((padded b).length / 64)).out
end Sha
variable {b a:List Value}
theorem fill_set{i:Nat}(ha:a[i]?=some v)(hab:a.length=b.length):SetV (a.take i++b.drop i) i v (a.take (i+1)++b.drop (i+1)):=by
 induction i generalizing a b with
 | zero =>
  match a,b,ha,hab with
  | x :: a, y :: b, ha, _ =>
   simp at ha;subst ha;exact .here _ _ _
 | succ i ih =>
  match a,b,ha,hab with
  |x::a,y::b,ha,hab=>exact .there _ (ih (by simpa using ha) (by simpa using hab))
theorem fill_get{i:Nat}(hj:j<i)(ha:a[j]?=some v):(a.take i++b.drop i)[j]?=some v:=by
 have:j<a.length:=by
  rcases Nat.lt_or_ge j a.length with h|h
  ·exact h
  ·simp[List.getElem?_eq_none h]at ha
 rw[List.getElem?_append_left jd,List.getElem?_take,if_pos hj,ha]
theorem fill_get2{i:Nat}(hj:i≤j)(hab:a.length=b.length)(hb:b[j]?=some v):(a.take i++b.drop i)[j]?=some v:=by
 have:j<b.length:=by
  rcases Nat.lt_or_ge j b.length with h|h
  ·exact h
  ·simp[List.getElem?_eq_none h]at hb
 have e:(a.take i).length=i:=by rw[List.length_take];omega
 rw[List.getElem?_append_right jA,e,List.getElem?_drop,show i+(j-i)=j by omega,hb]
theorem map_get{l:List α}(g:α→Value){i:Nat}(h:i<l.length)(z:α):(l.map g)[i]?=some (g (l.getD i z)):=by
 rw[List.getElem?_map,lgE h];simp[List.getD_eq_getElem?_getD,lgE h]
namespace Sha
theorem zbx(b:List UInt8):∀n,(words b n).length=n
 |0=>rfl
 |n+1=>by simp[words,zbx b n]
theorem words_get(b:List UInt8):∀(n i:Nat),i<n→(words b n).getD i 0=word b i
 |0,i,h=>by omega
 | n + 1, i, h => by
  simp only[words,List.getD_eq_getElem?_getD]
  by_cases e:i<n
  ·rw[List.getElem?_append_left (by rw[zbx];exact e),←List.getD_eq_getElem?_getD]
   exact words_get b n i e
  ·have:i=n:=jA
   subst this
   rw[List.getElem?_append_right (by rw[zbx];exact Nat.le_refl _),zbx]
   simp
theorem ext_len(w:List UInt32):∀n,(ext w n).length=w.length+n
 |0=>rfl
 |n+1=>by simp[ext,ext_len w n];omega
theorem ext_get(w:List UInt32)(n:Nat){i:Nat}(h:i<w.length+n):∀k,(ext w (n+k)).getD i 0=(ext w n).getD i 0
 |0=>rfl
 | k + 1 => by
  show(ext w (n+k)++_).getD i 0=_
  rw[List.getD_eq_getElem?_getD,List.getElem?_append_left (by rw[ext_len];omega),←List.getD_eq_getElem?_getD]
  exact ext_get w n h k
theorem sched_len(b:List UInt8):(sched b).length=64:=by unfold sched;rw[ext_len,zbx]
theorem sched_lo(b:List UInt8){i:Nat}(h:i<16):(sched b).getD i 0=word b i:=by
 unfold sched
 have:=ext_get (words b 16) 0 (i:=i) (by rw[zbx];omega) 48;rw[Nat.zero_add]at this
 rw[this];exact words_get b 16 i h
theorem sched_hi(b:List UInt8)(h:j<48):(sched b).getD (j+16) 0=(sched b).getD j 0+s0 ((sched b).getD (j+1) 0)+(sched b).getD (j+9) 0+s1 ((sched b).getD (j+14) 0):=by
 have pre:∀i,i<16+j→(sched b).getD i 0=(ext (words b 16) j).getD i 0:=fun i hi=>by
  unfold sched
  have:=ext_get (words b 16) j (i:=i) (by rw[zbx];omega) (48-j);rw[show j+(48-j)=48 by omega]at this
  exact this
 have top:(sched b).getD (j+16) 0=next (ext (words b 16) j):=by
  unfold sched
  have:=ext_get (words b 16) (j+1) (i:=j+16) (by rw[zbx];omega) (48-(j+1));rw[show j+1+(48-(j+1))=48 by omega]at this
  rw[this];show(ext (words b 16) j++[next (ext (words b 16) j)]).getD (j+16) 0=_;rw[List.getD_eq_getElem?_getD,List.getElem?_append_right (by rw[ext_len,zbx];omega),ext_len,zbx,show j+16-(16+j)=0 by omega];rfl
 rw[top,pre j jA,pre (j+1) jA,pre (j+9) jA,pre (j+14) jA];unfold next;rw[ext_len,zbx,show 16+j-16=j by omega,show 16+j-15=j+1 by omega,show 16+j-7=j+9 by omega,show 16+j-2=j+14 by omega]
theorem S8.get_vals(s:S8){i:Nat}(h:i<8):s.vals[i]?=some (w32 (s.get i)):=by
 match i,h with
 |0,_=>rfl
 |1,_=>rfl
 |2,_=>rfl
 |3,_=>rfl
 |4,_=>rfl
 |5,_=>rfl
 |6,_=>rfl
 |7,_=>rfl
theorem S8.add_get(v s:S8){i:Nat}(h:i<8):(v.add s).get i=v.get i+s.get i:=by
 match i,h with
 |0,_=>rfl
 |1,_=>rfl
 |2,_=>rfl
 |3,_=>rfl
 |4,_=>rfl
 |5,_=>rfl
 |6,_=>rfl
 |7,_=>rfl
end Sha
theorem zcf{i:Nat}(h:i<l.length):(bytesV l)[i]?=some (.int .u8 ((l.getD i 0).toNat:Nat)):=map_get _ h 0
section
variable (f:Frag) (F:List HP)
theorem rot_fn{x:UInt32}(h0:0<n)(hn:n<32):Fn prog 138 [w32 x,.int .u64 (n:Nat)] f F (Ret (w32 (Sha.rot x n)) f F):=by
 have e:IntKind.u64.wrap (32-(n:Int))=((32-n:Nat):Int):=by rw[wr_u64 jA];omega
 refine Fn.e2 func138 ntmps138 fun base=>?_;repeat(first|(apply H.ar;(iterate 4 exact rfl);exact e;exact rfl)|(refine gh ?_)|(apply H.Bo;(iterate 3 exact rfl);(first|exact u32_shl _ _ jA|exact u32_shr _ _ jA);omega;(iterate 2 exact rfl))|(apply H.Bf;(iterate 3 exact rfl);exact u32_or _ _;(iterate 2 exact rfl)))
 exact qaj
theorem k_fn2:Fn prog 139 [] f F (Ret (.agg (Sha.k.map w32).toArray) f F):=by
 refine Fn.e0 func139 ntmps139 fun base=>?_;refine gA ?_;refine H.Aj (ls:=List.replicate 64 (.int .u32 0)) rfl rfl rfl fun kb=>?_;refine gA ?_;refine H.buildA (out:=Sha.k.map w32) rfl rfl rfl rfl rfl ?_;refine qhM ?_;exact qae
theorem start_fn:Fn prog 99 [] f F (Ret (.agg Sha.start.vals.toArray) f F):=by
 refine Fn.e0 func99 ntmps99 fun base=>?_;exact qbb
end
variable {S:List UInt32}
section
variable (f:Frag) (F:List HP)
def z64:List Value:=List.replicate 64 (w32 0)
theorem z64_len:z64.length=64:=rfl
def wRow(S:List UInt32)(n:Nat):List Value:=(S.map w32).take n++z64.drop n
theorem wRow_set(hS:S.length=64)(h:n<64):SetV (wRow S n) n (w32 (S.getD n 0)) (wRow S (n+1)):=
 fill_set (map_get w32 (by rw[hS];exact h) 0) (by rw[List.length_map,hS];rfl)
theorem wRow_get(hS:S.length=64)(h:j<n)(hn:n≤64):(wRow S n)[j]?=some (w32 (S.getD j 0)):=
 fill_get h (map_get w32 (by rw[hS];omega) 0)
def addRow(v s:Sha.S8)(n:Nat):List Value:=(v.add s).vals.take n++v.vals.drop n
theorem addRow_set(v s:Sha.S8){i:Nat}(h:i<8):SetV (addRow v s i) i (w32 (v.get i+s.get i)) (addRow v s (i+1)):=by
 rw[←Sha.S8.add_get v s h];exact fill_set (Sha.S8.get_vals (v.add s) h) rfl
theorem addRow_get(v s:Sha.S8){i:Nat}(h:i<8):(addRow v s i)[i]?=some (w32 (v.get i)):=
 fill_get2 (Nat.le_refl _) rfl (Sha.S8.get_vals v h)
theorem block_fn{s:Sha.S8}{bs:List UInt8}(hb:bs.length=64):Fn prog 100 [.agg s.vals.toArray,.agg (bytesV bs).toArray] f F (Ret (.agg (Sha.block s bs).vals.toArray) f F):=by
 have hbl:(bytesV bs).length=64:=by rw[zac,hb]
 have hlo:∀i,i<16→(Sha.sched bs).getD i 0=Sha.word bs i:=fun i h=>Sha.sched_lo bs h;have hhi:∀j,j<48→(Sha.sched bs).getD (j+16) 0=(Sha.sched bs).getD j 0+Sha.s0 ((Sha.sched bs).getD (j+1) 0)+(Sha.sched bs).getD (j+9) 0+Sha.s1 ((Sha.sched bs).getD (j+14) 0):=fun j h=>Sha.sched_hi bs h
 have hS:=Sha.sched_len bs;unfold Sha.block
 generalize Sha.sched bs=S at hlo hhi hS⊢;refine Fn.e2 func100 ntmps100 fun base=>?_;refine gA ?_;refine H.box (ls:=s.vals) rfl rfl rfl rfl fun sb=>?_;refine H.box (ls:=bytesV bs) rfl rfl rfl rfl fun nb=>?_;refine qii fun ob=>?_;refine gA ?_;refine H.Aj (ls:=wRow S 0) rfl rfl rfl fun wb=>?_;refine gT ?_;refine qjY ?_
 refine H.lo (ι:=Nat) (fun i=>[(6,.int .i64 (i:Int)),(2,.pointer (some ⟨sb,0,none⟩)),(3,.pointer (some ⟨nb,0,none⟩)),(4,.pointer (some ⟨ob,0,none⟩)),(5,.pointer (some ⟨wb,0,none⟩))]) (fun _=>f)
  (fun i=>row nb 186 (bytesV bs)::row wb 235 (wRow S i)::row ob 184 (List.replicate 8 (.int .u32 0))::row sb 184 s.vals::F) (fun i=>i≤16) (fun i=>16-i) 0 (Nat.zero_le _) fun i hi=>?_
 have hi:i≤16:=hi;by_cases hlt:i<16
 ·have hw:S.getD i 0=Sha.word bs i:=hlo i hlt;have hset:=wRow_set hS (n:=i) jA
  rw[hw]at hset;unfold Sha.word at hset;refine gG ?_;refine qeJ ?_;refine HB.qu [0,1,2,3,4,5,6,7,8,9,10,11,12,13,14,15,16,17,18,19,20,21,22,23,24,25,26,27,28,29,30] 1 ?_;repeat(first|(apply HQ.Bk;(iterate 2 exact rfl);(with_reducible exact u32_ofByte _);exact rfl)|(apply HQ.Al (i:=4*i);(iterate 3 exact rfl);omega;omega;exact rfl)|(apply HQ.Al (i:=4*i+1);(iterate 3 exact rfl);omega;omega;exact rfl)|(apply HQ.Al (i:=4*i+2);(iterate 3 exact rfl);omega;omega;exact rfl)|(apply HQ.Al (i:=4*i+3);(iterate 3 exact rfl);omega;omega;exact rfl)|(apply HQ.Ab;(iterate 3 exact rfl);exact .of (Rd.ofRow jB) (by rw[Nat.mul_one];exact zcf jA);exact rfl)|(refine gi ?_)|(apply HQ.Bf;(iterate 3 exact rfl);(with_reducible exact u32_or _ _);(iterate 2 exact rfl))|(apply HQ.Bo;(iterate 3 exact rfl);(first|with_reducible exact u32_shl24 _|with_reducible exact u32_shl16 _|with_reducible exact u32_shl8 _);decide;(iterate 2 exact rfl))|(apply HQ.Al (i:=i);(iterate 3 exact rfl);exact rfl;omega;exact rfl))
  refine qeo ?_;refine HB.ev 31 ?_;refine H.Ba (v:=w32 _) (ls':=wRow S (i+1)) rfl rfl rfl rfl jB jQ ?_;refine qje ?_;exact H.ag (i+1) (by show i+1≤16;omega) (by show 16-(i+1)<16-i;omega)
 ·have hi16:i=16:=jA
  subst hi16;refine gY ?_;refine qg ?_
  refine H.lo (ι:=Nat) (fun j=>[(7,.int .i64 ((j+16:Nat):Int)),(2,.pointer (some ⟨sb,0,none⟩)),(4,.pointer (some ⟨ob,0,none⟩)),(5,.pointer (some ⟨wb,0,none⟩))]) (fun _=>f)
   (fun j=>row wb 235 (wRow S (j+16))::row nb 186 (bytesV bs)::row ob 184 (List.replicate 8 (.int .u32 0))::row sb 184 s.vals::F) (fun j=>j≤48) (fun j=>48-j) 0 (Nat.zero_le _) fun j hj=>?_
  have hj:j≤48:=hj;by_cases hlt:j<48
  ·have hw:=hhi j hlt;have hset:=wRow_set hS (n:=j+16) jA
   rw[hw]at hset;have hg:∀k,k<j+16→(wRow S (j+16))[k*1]?=some (w32 (S.getD k 0)):=fun k hk=>by rw[Nat.mul_one];exact wRow_get hS hk jA
   refine gG ?_;refine qeJ ?_;refine HB.qu [0,1,2,3,5,6,7,8,11,12,13,14,15] 5 ?_;repeat(first|(apply HQ.Al (i:=j+1);(iterate 3 exact rfl);omega;omega;exact rfl)|(apply HQ.Ab;(iterate 3 exact rfl);exact .of (Rd.ofRow jB) (hg _ jA);exact rfl)|(refine gi ?_)|(apply HQ.Bo;(iterate 3 exact rfl);(with_reducible exact u32_shr3 _);decide;(iterate 2 exact rfl)))
   refine qeo ?_;refine HB.ev 4 ?_;refine H.Af rfl rfl rfl (rot_fn f _ (n:=7) jC jC) ?_;refine qeg ?_;refine HB.ev 9 ?_;refine H.Af rfl rfl rfl (rot_fn f _ (n:=18) jC jC) ?_;refine qeg ?_;refine HB.qu [10,16,17] 0 ?_;refine qfi ?_;refine qey ?_;refine qgY ?_;refine HB.qu [0,1,2,3,5,6,7,8,11,12,13,14,15] 5 ?_;repeat(first|(apply HQ.Al (i:=j+14);(iterate 3 exact rfl);omega;omega;exact rfl)|(apply HQ.Ab;(iterate 3 exact rfl);exact .of (Rd.ofRow jB) (hg _ jA);exact rfl)|(refine gi ?_)|(apply HQ.Bo;(iterate 3 exact rfl);(with_reducible exact u32_shr10 _);decide;(iterate 2 exact rfl)))
   refine qeo ?_;refine HB.ev 4 ?_;refine H.Af rfl rfl rfl (rot_fn f _ (n:=17) jC jC) ?_;refine qeg ?_;refine HB.ev 9 ?_;refine H.Af rfl rfl rfl (rot_fn f _ (n:=19) jC jC) ?_;refine qeg ?_;refine HB.qu [10,16,17] 0 ?_;refine qfi ?_;refine qey ?_;refine gA ?_;refine H.dc [0,1,2,3,4,5,6,7,8,9,10,11,12,13,14] (S:=[_]) rfl ?_;refine HB.qu [0,1,2,3,4,5,6,7,8,9,10,11,12,13,14] 1 ?_;repeat(first|(apply HQ.Al (i:=j);(iterate 3 exact rfl);omega;omega;exact rfl)|(apply HQ.Al (i:=j+9);(iterate 3 exact rfl);omega;omega;exact rfl)|(apply HQ.Ab;(iterate 3 exact rfl);exact .of (Rd.ofRow jB) (hg _ jA);exact rfl)|(refine gi ?_)|(apply HQ.Al (i:=j+16);(iterate 3 exact rfl);exact rfl;omega;exact rfl))
   refine qeA ?_;refine HB.ev 15 ?_;refine qhP ?_;exact H.Ar (j+1) (by show j+1≤48;omega) (by show 48-(j+1)<48-j;omega) ⟨by show some _=some (Value.int .i64 ((j+1+16:Nat):Int));rw[show j+1+16=j+16+1 by omega],rfl,rfl,rfl,trivial⟩ rfl jZ
  ·have hj48:j=48:=jA
   subst hj48;refine gY ?_;refine H.Ad (ls:=s.vals) rfl rfl rfl (Rd.ofRow jB) rfl rfl ?_;refine qii fun vb=>?_;refine H.Ag (ls:=List.replicate 8 (.int .u32 0)) (vs:=s.vals) (ls':=s.vals) rfl rfl rfl (zaa rfl) rfl rfl (Nat.le_refl 8) jB ?_;refine gA ?_;refine H.Af rfl rfl rfl (k_fn2 f _) ?_;refine H.Aj (ls:=List.replicate 64 (.int .u32 0)) rfl rfl rfl fun kb=>?_;refine qhM ?_;have hgS:∀k,k<64→(wRow S (48+16))[k*1]?=some (w32 (S.getD k 0)):=fun k hk=>by rw[Nat.mul_one];exact wRow_get hS jA jA
   have hgK:∀k,k<64→(Sha.k.map w32)[k*1]?=some (w32 (Sha.k.getD k 0)):=fun k hk=>by rw[Nat.mul_one];exact map_get w32 hk 0
   generalize wRow S (48+16)=WL at hgS⊢;generalize hKL:Sha.k.map w32=KL at hgK⊢;refine H.pd (x:=row nb _ _) ?_;refine H.pf (x:=row vb _ _) ?_
   refine H.lo (ι:=Nat) (fun i=>[(12,.int .i64 (i:Int)),(10,.pointer (some ⟨vb,0,none⟩)),(11,.pointer (some ⟨kb,0,none⟩)),(2,.pointer (some ⟨sb,0,none⟩)),(4,.pointer (some ⟨ob,0,none⟩)),(5,.pointer (some ⟨wb,0,none⟩))]) (fun _=>f)
    (fun i=>row vb 184 (Sha.rounds S s i).vals::row kb 235 KL::row wb 235 WL::row ob 184 (List.replicate 8 (.int .u32 0))::row sb 184 s.vals::F) (fun i=>i≤64) (fun i=>64-i) 0 (Nat.zero_le _) fun i hi=>?_
   have hi:i≤64:=hi;by_cases hlt:i<64
   ·have hr:Sha.rounds S s (i+1)=Sha.round (Sha.k.getD i 0) (S.getD i 0) (Sha.rounds S s i):=rfl;have hgs:=hgS i hlt
    have hgk:=hgK i hlt;generalize Sha.k.getD i 0=kk at hr hgk
    generalize S.getD i 0=ww at hr hgs;show H _ _ _ _ _ (row vb _ (Sha.rounds S s i).vals::_) _;generalize Sha.rounds S s i=v at hr⊢;repeat(first|(refine gh ?_)|(apply H.index_arrT;(iterate 3 exact rfl);decide;exact rfl))
    refine qke ?_;refine HB.qu [0,1,2,4,7,11,12,13,14,15,16,17,18,19,20,22,23,24,26,27,28] 10 ?_;repeat(first|(apply HQ.Al (i:=i);(iterate 3 exact rfl);exact rfl;exact hlt;exact rfl)|(apply HQ.Ab;(iterate 3 exact rfl);exact .of (Rd.ofRow jB) hgk;exact rfl)|(apply HQ.Ab;(iterate 3 exact rfl);exact .of (Rd.ofRow jB) hgs;exact rfl)|(refine gi ?_)|(apply HQ.Bf;(iterate 3 exact rfl);(first|with_reducible exact zbt _ _|with_reducible exact u32_and _ _);(iterate 2 exact rfl))|(apply HQ.flip;(iterate 2 exact rfl);exact u32_not _;(iterate 2 exact rfl))|(apply HQ.index_arrT;(iterate 3 exact rfl);decide;exact rfl))
    refine qeo ?_;refine HB.ev 3 ?_;refine H.Af rfl rfl rfl (rot_fn f _ (n:=6) jC jC) ?_;refine qeg ?_;refine HB.ev 5 ?_;refine H.Af rfl rfl rfl (rot_fn f _ (n:=11) jC jC) ?_;refine qeg ?_;refine HB.qu [6] 7 ?_;refine qho ?_;refine HB.ev 8 ?_;refine H.Af rfl rfl rfl (rot_fn f _ (n:=25) jC jC) ?_;refine qeg ?_;refine HB.qu [9,10,21,25,29,30] 0 ?_;refine qfi ?_;refine qey ?_;refine gA ?_;refine qke ?_;refine HB.qu [0,2,5,8,9,10,11,12,13,14,15,16,17,18,19,20,21,22] 7 ?_;repeat(first|(refine gi ?_)|(apply HQ.Bf;(iterate 3 exact rfl);(first|with_reducible exact zbt _ _|with_reducible exact u32_and _ _);(iterate 2 exact rfl))|(apply HQ.index_arrT;(iterate 3 exact rfl);decide;exact rfl))
    refine qio ?_;refine H.Af rfl rfl rfl (rot_fn f _ (n:=2) jC jC) ?_;refine qeg ?_;refine HB.ev 3 ?_;refine H.Af rfl rfl rfl (rot_fn f _ (n:=13) jC jC) ?_;refine qeg ?_;refine HB.qu [4] 4 ?_;refine qho ?_;refine HB.ev 6 ?_;refine H.Af rfl rfl rfl (rot_fn f _ (n:=22) jC jC) ?_;refine qeg ?_;refine HB.qu [7,23,24] 0 ?_;refine qfi ?_;refine qey ?_;repeat(first|(refine gh ?_)|(apply H.index_arrT;(iterate 3 exact rfl);decide;exact rfl))
    refine H.buildA (out:=(Sha.round kk ww v).vals) rfl rfl rfl rfl rfl ?_;refine H.Ag (ls:=v.vals) (vs:=(Sha.round kk ww v).vals) (ls':=(Sha.round kk ww v).vals) rfl rfl rfl (zaa rfl) rfl rfl (Nat.le_refl 8) jB ?_;refine gW ?_;exact H.Ar (i+1) jv jf ⟨rfl,rfl,rfl,rfl,rfl,rfl,trivial⟩ rfl (by rw[hr];rfl)
   ·have hi64:i=64:=jA
    subst hi64;generalize Sha.rounds S s 64=v;refine gY ?_;refine H.pd (x:=row kb _ _) ?_;refine H.pd (x:=row wb _ _) ?_;refine H.pf (x:=row sb _ _) ?_;refine H.pf (x:=row vb _ _) ?_
    refine H.lo (ι:=Nat) (fun i=>[(17,.int .i64 (i:Int)),(10,.pointer (some ⟨vb,0,none⟩)),(2,.pointer (some ⟨sb,0,none⟩)),(4,.pointer (some ⟨ob,0,none⟩))]) (fun _=>f)
     (fun i=>row vb 184 (addRow v s i)::row sb 184 s.vals::row ob 184 (List.replicate 8 (.int .u32 0))::F) (fun i=>i≤8) (fun i=>8-i) 0 (Nat.zero_le _) fun i hi=>?_
    have hi:i≤8:=hi;by_cases hlt:i<8
    ·have hset:=addRow_set v s hlt;have hg:=addRow_get v s hlt
     have hg2:=Sha.S8.get_vals s hlt;show H _ _ _ _ _ (row vb _ (addRow v s i)::_) _
     refine gG ?_;refine qkR ?_;refine HB.qu [0,1,2,3,4,5,6,7,8] 1 ?_;repeat(first|(apply HQ.Al (i:=i);(iterate 3 exact rfl);exact rfl;exact hlt;exact rfl)|(apply HQ.Ab;(iterate 3 exact rfl);exact .of (Rd.ofRow jB) (by rw[Nat.mul_one];exact hg);exact rfl)|(apply HQ.Ab;(iterate 3 exact rfl);exact .of (Rd.ofRow jB) (by rw[Nat.mul_one];exact hg2);exact rfl)|(refine gi ?_))
     refine qeA ?_;refine HB.ev 9 ?_;refine H.Ba (v:=w32 _) (ls':=addRow v s (i+1)) rfl rfl rfl rfl jB jQ ?_;refine qje ?_;exact qbS
    ·have hi8:i=8:=jA
     subst hi8;refine qgp ?_;refine H.pd (x:=row vb _ _) ?_;refine H.pd (x:=row sb _ _) ?_;exact qae
end
end Go.Proofs.YtkaknokcbhiigaaGreatDoor
