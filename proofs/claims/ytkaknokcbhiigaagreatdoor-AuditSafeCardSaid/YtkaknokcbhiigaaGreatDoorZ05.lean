/- Parts of the proof. No conditions. -/
import Derived.Test.YtkaknokcbhiigaaGreatDoorZ04
import Derived.Sort.AssemblyPlain
import Derived.Lib.Tables
set_option linter.unusedSectionVars false
set_option linter.unusedSimpArgs false
set_option linter.unusedVariables false
set_option maxHeartbeats 6400000
set_option maxRecDepth 20000
namespace Go.Proofs.YtkaknokcbhiigaaGreatDoor
open Go Go.Proofs.Tryz
def lst(xs:List HP):HP:=fun h=>stars xs h
theorem lst_pull{x:HP}:∀ {xs:List HP} {i:Nat},xs[i]?=some x→stars xs=star x (stars (xs.set i emp))
 | [],i,h=>by simp at h
 | y :: r, 0, h => by
  have e:y=x:=by simpa using h
  subst e
  show star y (stars r)=star y (star emp (stars r))
  rw[zcl]
 | y :: r, i + 1, h => by
  show star y (stars r)=star x (star y (stars (r.set i emp)))
  rw[lst_pull (xs:=r) (i:=i) jx,zbs]
variable {α:Type}
theorem set_get{xs:List α}{i:Nat}{x y:α}(h:xs[i]?=some x):(xs.set i y)[i]?=some y:=by
 rw[List.getElem?_set_self (List.getElem?_eq_some_iff.1 h).1]
variable {x0 x:HP} {xs:List HP}
theorem lst_put{i:Nat}(h:xs[i]?=some x0):star x (stars (xs.set i emp))=stars (xs.set i x):=by
 rw[lst_pull (xs:=xs.set i x) (i:=i) (set_get h),List.set_set]
theorem lst_perm{a b:List HP}(h:a.Perm b):stars a=stars b:=by
 induction h with
 |nil=>rfl
 |cons x _ ih=>show star x _=star x _;rw[ih]
 |swap x y l=>show star y (star x _)=star x (star y _);rw[zbs]
 |trans _ _ h1 h2=>exact h1.trans h2
theorem set_self{xs:List α}{i:Nat}{x:α}(h:xs[i]?=some x):xs.set i x=xs:=by
 apply List.ext_getElem?;intro j;rw[List.getElem?_set];split
 ·rename_i e
  subst e;rw[h];split
  ·rfl
  ·rename_i h2
   exact absurd (List.getElem?_eq_some_iff.1 h).1 h2
 ·rfl
theorem lst_pullA{i:Nat}(A:List HP)(h:xs[i]?=some x):stars (lst xs::A)=stars (x::lst (xs.set i emp)::A):=by
 show star (stars xs) (stars A)=star x (star (stars (xs.set i emp)) (stars A));rw[lst_pull h,zbz]
theorem lst_putA{i:Nat}(A:List HP)(h:xs[i]?=some x0):stars (x::lst (xs.set i emp)::A)=stars (lst (xs.set i x)::A):=by
 show star x (star (stars (xs.set i emp)) (stars A))=star (stars (xs.set i x)) (stars A);rw[←zbz,lst_put h]
variable {ys:List HP}
theorem lst_moreA(A:List HP)(h:(x::xs).Perm ys):stars (x::lst xs::A)=stars (lst ys::A):=by
 show star x (star (stars xs) (stars A))=star (stars ys) (stars A);rw[←zbz,←lst_perm h];rfl
section
variable {P:Program} {base:World} {n:Nat} {L:Env} {f:Frag} {A:List HP} {K:Kont} {xs:List HP} {i:Nat}
theorem H.Ci(h:xs[i]?=some x)(kk:H P base n L f (x::lst (xs.set i emp)::A) K):H P base n L f (lst xs::A) K:=H.conv (lst_pullA A h) kk
theorem H.lstPut(h:xs[i]?=some x0)(kk:H P base n L f (lst (xs.set i x)::A) K):H P base n L f (x::lst (xs.set i emp)::A) K:=H.conv (lst_putA A h) kk
theorem H.Cl(h:xs[i]?=some x)(kk:H P base n L f (lst xs::A) K):H P base n L f (x::lst (xs.set i emp)::A) K:=H.lstPut h (by rw[set_self h];exact kk)
theorem H.lstMore(h:(x::xs).Perm ys)(kk:H P base n L f (lst ys::A) K):H P base n L f (x::lst xs::A) K:=H.conv (lst_moreA A h) kk
end
/-! ### Rows of cells, one for each number below a bound -/
def rngV(n:Nat)(g:Nat→Value):List Value:=(List.range n).map g
theorem rngV_len(n:Nat)(g:Nat→Value):(rngV n g).length=n:=by unfold rngV;rw[List.length_map,List.length_range]
variable {n:Nat}
theorem rngV_get(g:Nat→Value){i:Nat}(h:i<n):(rngV n g)[i]?=some (g i):=by
 unfold rngV;rw[List.getElem?_map,List.getElem?_range h];rfl
theorem rngV_set(g:Nat→Value){i:Nat}(v:Value)(h:i<n):SetV (rngV n g) i v (rngV n (updF g i v)):=by
 have e:rngV n (updF g i v)=(rngV n g).set i v:=by
  apply List.ext_getElem?;intro j;rw[List.getElem?_set,rngV_len];by_cases hj:j<n
  ·rw[rngV_get _ hj];split
   ·rename_i e;subst e;rw[zae]
   ·rename_i e;rw[zag _ _ (fun h=>e h.symm),rngV_get _ hj]
  ·rw[List.getElem?_eq_none (by rw[rngV_len];omega)];split
   ·rename_i e;omega
   ·rw[List.getElem?_eq_none (by rw[rngV_len];omega)]
 rw[e];exact SetV.mk v (by rw[rngV_len];exact h)
theorem rngV_congr{g g':Nat→Value}(h:∀i,i<n→g i=g' i):rngV n g=rngV n g':=by
 unfold rngV;exact List.map_congr_left fun i hi=>h i (List.mem_range.1 hi)
def dig0(c:UInt8):Nat→UInt8
 |0=>c
 |_+1=>0
theorem signed_ok{r:Req}(h:r.Ok):r.signed.Ok:=by
 unfold Req.signed;split
 ·exact h
 ·exact h
theorem reqz_ok:Req.zero.Ok:=⟨⟨by decide,by decide⟩,by decide,by decide⟩
theorem cnt_len(l:List Msg)(i:Nat):cnt l i≤l.length:=by
 unfold cnt strm;exact List.length_filter_le _ _
theorem WInv.kv_le{W:W12}(h:WInv n W){r:Nat}(hr:r<n)(i:Nat):0≤W.kv r i∧W.kv r i≤(W.all.length:Nat):=by
 have h1:=(h.knw r hr).le i;have h2:=cnt_len W.all i
 omega
def strmV(l:List MV):Nat→List MV:=fun i=>l.filter fun x=>decide (orgI x.m=i)
theorem strmV_map(l:List MV)(i:Nat):(strmV l i).map MV.m=strm (l.map MV.m) i:=by
 unfold strmV strm;rw[List.filter_map];rfl
theorem strmV_len(l:List MV)(i:Nat):(strmV l i).length=cnt (l.map MV.m) i:=by
 unfold cnt;rw[←strmV_map,List.length_map]
theorem strmV_snoc(l:List MV)(x:MV)(i:Nat):strmV (l++[x]) i=if i=orgI x.m then strmV l i++[x]else strmV l i:=by
 unfold strmV;rw[List.filter_append];by_cases h:i=orgI x.m
 ·rw[if_pos h];simp[h]
 ·rw[if_neg h];have:decide (orgI x.m=i)=false:=decide_eq_false fun e=>h e.symm;simp[this]
def placesFrom:List Msg→List Msg→List (Nat×Nat)
 |_,[]=>[]
 |pre,m::r=>(orgI m,cnt pre (orgI m))::placesFrom (pre++[m]) r
def placesOf(l:List Msg):List (Nat×Nat):=placesFrom [] l
theorem placesFrom_app:∀(a pre b:List Msg),placesFrom pre (a++b)=placesFrom pre a++placesFrom (pre++a) b
 | [],pre,b=>by simp[placesFrom]
 | m :: a, pre, b => by
  rw[List.cons_append]
  show _::placesFrom (pre++[m]) (a++b)=(_::placesFrom (pre++[m]) a)++_
  rw[placesFrom_app a (pre++[m]) b,List.cons_append]
  simp
theorem placesOf_snoc(l:List Msg)(m:Msg):placesOf (l++[m])=placesOf l++[(orgI m,cnt l (orgI m))]:=by
 unfold placesOf;rw[placesFrom_app];rfl
theorem placesFrom_len:∀(l pre:List Msg),(placesFrom pre l).length=l.length
 | [],_=>rfl
 | m :: l, pre => by
  show(placesFrom (pre++[m]) l).length+1=_
  rw[placesFrom_len l];rfl
def placeV(p:Nat×Nat):List Value:=[.int .i64 (p.1:Int),.int .i64 (p.2:Int)]
structure LP where
 P:Nat→Option Addr
 C:Nat→Nat
 po:Option Addr
 co:Nat
def loreCells(n:Nat)(l:List MV)(i:LP):List Value:=[.int .i64 (n:Int)]++c11 (fun k=>.slice (i.P k) (strmV l k).length (i.C k))++[.slice i.po l.length i.co]
def strH(l:List MV)(i:LP)(k:Nat):HP:=slc (i.P k) (strmV l k).length (i.C k) 54 121 ((strmV l k).flatMap MV.vals)
def ordH(l:List MV)(i:LP):HP:=slc i.po l.length i.co 119 2 ((placesOf (l.map MV.m)).flatMap placeV)
def loreφ(f:Frag)(n:Nat)(l:List MV):Prop:=(∀x∈l,x.Good f)∧l.length≤100000∧LOK n (l.map MV.m)∧n≤11
def loreH(f:Frag)(lb:Nat)(n:Nat)(l:List MV):HP:=pack (fun _:LP=>loreφ f n l) (fun i=>[row lb 117 (loreCells n l i),fam (strH l i) 11,ordH l i])
theorem loreφ.mono{f g:Frag}(h:Le f g){n:Nat}{l:List MV}(hl:loreφ f n l):loreφ g n l:=⟨fun x hx=>(hl.1 x hx).mono h,hl.2⟩
variable {f:Frag} {lb:Nat} {l:List MV}
theorem loreH_mono{g:Frag}(h:Le f g):∀x,loreH f lb n l x→loreH g lb n l x:=fun x ⟨i,hi,hx⟩=>⟨i,hi.mono h,hx⟩
variable {P:Program} {base:World} {L:Env} {fl:Frag} {F:List HP} {K:Kont}
theorem H.loreOpen{n0:Nat}
  (k:∀i:LP,loreφ fl n l→H P base n0 L f (row lb 117 (loreCells n l i)::fam (strH l i) 11::ordH l i::F) K):H P base n0 L f (loreH fl lb n l::F) K:=
 H.Bz fun i hi=>k i hi
theorem zby(i:LP)(h:loreφ fl n l):∀x,stars (row lb 117 (loreCells n l i)::fam (strH l i) 11::ordH l i::F) x→stars (loreH fl lb n l::F) x:=fun x hx=>
 pack_fold (ι:=LP) (φ:=fun _:LP=>loreφ fl n l) (B:=fun i=>[row lb 117 (loreCells n l i),fam (strH l i) 11,ordH l i]) i h x hx
theorem loreCells_str(n:Nat)(l:List MV)(i:LP){k:Nat}(h:k<11):(loreCells n l i)[1+k]?=some (.slice (i.P k) (strmV l k).length (i.C k)):=by
 unfold loreCells;rw[List.append_assoc,List.getElem?_append_right (by show 1≤1+k;omega),show 1+k- [Value.int .i64 (n:Int)].length=k by show 1+k-1=k;omega,List.getElem?_append_left (by show k<11;exact h),c11_get _ h]
theorem rngH_nil{g:Nat→HP}:∀k,(∀j,j<k→g j nil0)→stars (rngH g k) nil0
 |0,_=>rfl
 |k+1,h=>⟨nil0,nil0,Dj.nil _,(un_nil _).symm,h k jA,rngH_nil k fun j hj=>h j jA⟩
theorem H.addNil{A:List HP}(p:HP)(hp:p nil0)(k:H P base n L f (p::A) K):H P base n L f A K:=
 H.imp (A':=p::A) (fun h hh=>⟨nil0,h,(Dj.nil h).symm,(nil_un h).symm,hp,hh⟩) k
def fewZ(z:Int):Prop:=3≤z∧z≤11∧z.tmod 2=1
instance (z:Int):Decidable (fewZ z):=by unfold fewZ;infer_instance
def lp0:LP:=⟨fun _=>none,fun _=>0,none,0⟩
section
variable (f:Frag) (F:List HP)
theorem lfew_fn(z:Int):Fn prog 70 [.int .i64 z] f F (Ret (.bool (decide (fewZ z))) f F):=by
 by_cases h1:3≤z
 ·by_cases h2:z≤11
  ·skip;refine Fn.e1 func70 ntmps70 fun base=>?_;exact qcJ
  ·exact qde
 ·exact qde
theorem lnew_no{z:Int}(h:¬fewZ z):Fn prog 38 [.int .i64 z] f F (Ret (.tuple #[.pointer none,.int .i64 1]) f F):=by
 have hf:=fun G=>lfew_fn f G z;rw[decide_eq_false h]at hf
 refine Fn.e1 func38 ntmps38 fun base=>?_;refine gI ?_;refine H.cr (hf _) ?_;refine qjp ?_;refine gD ?_;exact qaV
theorem lnew_fn(h:fewZ (n:Int)):Fn prog 38 [.int .i64 (n:Int)] f F (RetE (fun lb:Nat=>.tuple #[.pointer (some ⟨lb,0,none⟩),.int .i64 0]) f (fun lb=>loreH f lb n []::F)):=by
 have hf:=fun G=>lfew_fn f G (n:Int);rw[decide_eq_true h]at hf
 have hn:n≤11:=by have:=h.2.1;omega
 refine Fn.e1 func38 ntmps38 fun base=>?_;refine gI ?_;refine H.cr (hf _) ?_;refine qhO ?_;repeat(first|(refine H.Ay (t:=117) (out:=loreCells n [] lp0) rfl rfl rfl jE rfl ?_)|(refine gh ?_))
 refine H.box (ls:=loreCells n [] lp0) rfl rfl rfl rfl fun lb=>?_;refine gT ?_;refine H.addNil (ordH [] lp0) (slc_nil none _ 2) ?_;refine H.addNil (fam (strH [] lp0) 11) (rngH_nil 11 fun j _=>slc_nil none _ 121) ?_;refine qfy ?_;refine H.imp (zby lp0 (fl:=f) ⟨fun x hx=>(by cases hx),Nat.zero_le _,LOK.nil n,hn⟩) ?_;exact H.Bb rfl rfl rfl iD ⟨lb,rfl,rfl,rfl⟩
theorem above_fn(a b:Nat→Int):Fn prog 85 [.agg (v11 a).toArray,.agg (v11 b).toArray] f F (Ret (.bool (aboveB a b)) f F):=by
 refine Fn.e2 func85 ntmps85 fun base=>?_;refine gA ?_;refine H.box (ls:=v11 a) rfl rfl rfl rfl fun ab=>?_;refine H.box (ls:=v11 b) rfl rfl rfl rfl fun bb=>?_;refine gI ?_;refine H.Ad (ls:=v11 a) rfl rfl rfl (Rd.ofRow at1) rfl rfl ?_;refine gT ?_;refine H.lo (ι:=Nat) (fun i=>[(8,.int .i64 (i:Int)),(7,.agg (v11 a).toArray),(3,.pointer (some ⟨bb,0,none⟩))]) (fun _=>f) (fun _=>row bb 37 (v11 b)::row ab 37 (v11 a)::F) (fun i=>i≤11∧∀j,j<i→a j≤b j) (fun i=>11-i) 0 ⟨Nat.zero_le _,fun j hj=>by omega⟩ fun i hi=>?_;obtain⟨hi,hle⟩:i≤11∧∀j,j<i→a j≤b j:=hi;by_cases hlt:i<11
 ·refine gG ?_;refine H.indexV (xs:=v11 a) (i:=i) rfl rfl rfl rfl hlt rfl (zau a hlt) rfl ?_;refine gI ?_;refine qkw ?_;refine H.Ab rfl rfl rfl (.of (Rd.ofRow aP0) (by rw[Nat.mul_one];exact zau b hlt)) rfl ?_;by_cases hab:b i<a i
  ·refine gG ?_;refine qjj ?_;refine H.Ae rfl rfl iD ⟨?_,rfl,rfl⟩
   have:aboveB a b=true:=by
    unfold aboveB;rw[List.any_eq_true];exact⟨i,List.mem_range.2 hlt,decide_eq_true hab⟩
   rw[this]
  ·refine gc ?_
   exact H.Ar (i+1) ⟨by show i+1≤11;omega,fun j hj=>by
    by_cases e:j=i
    ·rw[e];omega
    ·exact hle j jA⟩ jU ⟨rfl,rfl,rfl,trivial⟩ rfl rfl
 ·refine gc ?_;refine qjj ?_;refine H.Ae rfl rfl iD ⟨?_,rfl,rfl⟩;rw[zbq.2 fun j hj=>hle j jA]
end
end Go.Proofs.YtkaknokcbhiigaaGreatDoor

namespace Go.Proofs.YtkaknokcbhiigaaGreatDoor
open Go Go.Proofs.Tryz Go.ChangeShapes Go.WideShapes Go.RowKit Go.Deep
theorem reads_byte{W:World}{cs:List Value}(h:Reads prog W 5 cs):∃x:UInt8,True∧cs=[.int .u8 (x.toNat:Nat)]:=by
 obtain⟨z,rfl,hz⟩:=h.int underlying5;exact⟨UInt8.ofNat z.toNat,trivial,by rw[u8_back hz]⟩
variable {f:Frag}
theorem listAt_bat{p:Option Addr}{l:List UInt8}(h:ListAt f p 1 (fun x:UInt8=>[Value.int .u8 (x.toNat:Nat)]) l):BAt f p l:=by
 cases l with
 |nil=>exact .inl rfl
 | cons x0 r =>
  obtain⟨b,off,cs,T,fr,h1,h2,_⟩:=h 0 x0 rfl;refine .inr ⟨b,off,cs,T,fr,h1,h2,fun i hi=>?_⟩;have hx:(x0::r)[i]?=some (x0::r)[i]:=lgE hi;obtain⟨b',off',cs',T',fr',g1,g2,g3⟩:=h i _ hx
  rw[h1]at g1;cases g1
  rw[h2]at g2;cases g2
  have h3:=g3 0 (show 0<1 by decide);rw[Nat.mul_one,Nat.add_zero]at h3
  rw[h3];unfold bytesV;rw[List.getElem?_map,hx];rfl
def kRow(n:Nat)(kv:Nat→Nat→Int):List Value:=(List.range (n*11)).map fun j=>.int .u64 (kv (j / 11) (j % 11))
theorem kRow_len(n:Nat)(kv:Nat→Nat→Int):(kRow n kv).length=n*11:=by unfold kRow;rw[List.length_map,List.length_range]
variable {n:Nat}
theorem kRow_at{kv:Nat→Nat→Int}{j:Nat}(h:j<n*11):(kRow n kv)[j]?=some (.int .u64 (kv (j / 11) (j % 11))):=by
 unfold kRow;rw[List.getElem?_map,List.getElem?_range h];rfl
variable {o:Nat}
theorem kRow_get{kv:Nat→Nat→Int}{k:Nat}(ho:o<n)(hk:k<11):(kRow n kv)[o*11+k]?=some (.int .u64 (kv o k)):=by
 rw[kRow_at jA,show(o*11+k) / 11=o by omega,show(o*11+k) % 11=k by omega]
theorem kRow_set{kv:Nat→Nat→Int}{k:Nat}(z:Int)(ho:o<n)(hk:k<11):SetV (kRow n kv) (o*11+k) (.int .u64 z) (kRow n (updF kv o (updF (kv o) k z))):=by
 have e:kRow n (updF kv o (updF (kv o) k z))=(kRow n kv).set (o*11+k) (.int .u64 z):=by
  apply List.ext_getElem?;intro j;rw[List.getElem?_set,kRow_len];by_cases hj:j<n*11
  ·rw[kRow_at hj,kRow_at hj];by_cases e:o*11+k=j
   ·rw[if_pos e,if_pos jA,show j / 11=o by omega,show j % 11=k by omega,zae,zae]
   ·rw[if_neg e];by_cases e1:j / 11=o
    ·rw[e1,zae,zag _ _ jA]
    ·rw[zag _ _ e1]
  ·rw[if_neg jA,List.getElem?_eq_none ji,List.getElem?_eq_none ji]
 rw[e];exact SetV.mk _ ji
theorem kRow_congr{kv kv':Nat→Nat→Int}(h:∀r,r<n→∀i,i<11→kv r i=kv' r i):kRow n kv=kRow n kv':=by
 apply List.ext_getElem?;intro j;by_cases hj:j<n*11
 ·rw[kRow_at hj,kRow_at hj,h (j / 11) jA (j % 11) jA]
 ·rw[List.getElem?_eq_none ji,List.getElem?_eq_none ji]
theorem kRow_zero(n:Nat):zeros (v11 fun _=>0) n=kRow n fun _ _=>0:=by
 have hl:(v11 fun _=>0).length=11:=rfl;apply List.ext_getElem?
 intro j;by_cases hj:j<n*11
 ·rw[kRow_at hj,zeros_get _ _ _ (by rw[hl];exact hj),hl,zau _ jA]
 ·rw[List.getElem?_eq_none (by rw[zeros_length,hl];omega),List.getElem?_eq_none ji]
variable {A:List HP} {b:Nat}
theorem Rd.part{off:Nat}{big l:List Value}(h:Rd f A b 0 big)(hl:∀i,i<l.length→big[off+i]?=l[i]?)(hle:off+l.length≤big.length):Rd f A b off l:=fun base w s=>by
 obtain⟨cs,t,fr,h1,h2⟩:=h base w s
 exact⟨cs,t,fr,h1,fun i hi=>by rw[←hl i hi,←h2 (off+i) jA,Nat.zero_add]⟩
theorem Rd.kRow{kv:Nat→Nat→Int}(h:Rd f A b 0 (kRow n kv))(ho:o<n):Rd f A b (o*11) (v11 (kv o)):=
 h.part (fun i hi=>by
  have hi:i<11:=hi
  rw[kRow_get ho hi,zau _ hi]) (by rw[kRow_len];show o*11+11≤_;omega)
theorem v11_upd(d:Nat→Int)(v:Int){k:Nat}(h:k<11):SetV (v11 d) k (.int .u64 v) (v11 (updF d k v)):=by
 have e:v11 (updF d k v)=(v11 d).set k (.int .u64 v):=by
  match k,h with
  |0,_=>rfl
  |1,_=>rfl
  |2,_=>rfl
  |3,_=>rfl
  |4,_=>rfl
  |5,_=>rfl
  |6,_=>rfl
  |7,_=>rfl
  |8,_=>rfl
  |9,_=>rfl
  |10,_=>rfl
 rw[e];exact SetV.mk _ h
theorem v11_congr{a b:Nat→Int}(h:∀i,i<11→a i=b i):v11 a=v11 b:=v11_iff.2 h
def KAt(f:Frag)(kb n:Nat)(kv:Nat→Nat→Int):Prop:=∃T,f kb=some (.cells (kRow n kv).toArray T (0,0))
variable {g:Frag} {kb:Nat}
theorem KAt.mono(h:Le f g){kv:Nat→Nat→Int}(hk:KAt f kb n kv):KAt g kb n kv:=by
 obtain⟨T,hk⟩:=hk;exact⟨T,h _ _ hk⟩
theorem KAt.rd{kv:Nat→Nat→Int}(h:KAt f kb n kv)(A:List HP)(ho:o<n):Rd f A kb (o*11) (v11 (kv o)):=by
 obtain⟨T,h⟩:=h;exact Rd.kRow (Rd.imm h fun i hi=>by rw[Nat.zero_add,List.getElem?_toArray]) ho
theorem KAt.of{T:TypeId}{kv:Nat→Nat→Int}(h:row kb T (kRow n kv) g)(hd:Dj f g):KAt (un f g) kb n kv:=by
 have hg:g=sing kb (.cells (kRow n kv).toArray T (0,0)):=h;refine⟨T,Le.right hd _ _ ?_⟩
 rw[hg];simp[sing]
section
variable (f:Frag) (F:List HP)
end
end Go.Proofs.YtkaknokcbhiigaaGreatDoor

namespace Go.Proofs.YtkaknokcbhiigaaGreatDoor
open Go Go.Proofs.Tryz
theorem updF_lt{d:Nat→Int}{i:Nat}:updF (fun j=>if j<i then d j else 0) i (d i)=fun j=>if j<i+1 then d j else 0:=by
 funext j;show(if j=i then d i else if j<i then d j else 0)=if j<i+1 then d j else 0
 by_cases e:j=i
 ·subst e;rw[if_pos rfl,if_pos jA]
 ·rw[if_neg e];by_cases h:j<i
  ·rw[if_pos h,if_pos jA]
  ·rw[if_neg h,if_neg jA]
variable {f:Frag} {A A':List HP} {lb n:Nat} {l:List MV}
theorem c11_rd{i:LP}(h:At A (row lb 117 (loreCells n l i)) A' (row lb 117 (loreCells n l i))):Rd f A lb (0+1) (c11 (fun k=>.slice (i.P k) (strmV l k).length (i.C k))):=by
 have h1:=Rd.ofRow (f:=f) h;unfold loreCells at h1
 exact h1.sub rfl
theorem knownS_len(l:List MV)(k:Nat):knownS (strm (l.map MV.m)) k=((strmV l k).length:Nat):=by
 show(((strm (l.map MV.m) k).length:Nat):Int)=_;rw[←strmV_map,List.length_map]
theorem strmV_le(l:List MV)(k:Nat):(strmV l k).length≤l.length:=List.length_filter_le _ _
variable {fl:Frag} {α:Type} {p:Option Addr} {c:Nat} {q:List (Int × Int)} {fid:FuncId}
section
variable (f:Frag) (F:List HP)
theorem known_fn:Fn prog 42 [.pointer (some ⟨lb,0,none⟩)] f (loreH fl lb n l::F) (Ret (.agg (v11 (knownS (strm (l.map MV.m)))).toArray) f (loreH fl lb n l::F)):=by
 have hk:=knownS_len l;generalize knownS (strm (l.map MV.m))=kn at hk⊢
 have hle:=strmV_le l;refine qjX fun i hi=>?_
 have hll:=hi.2.1;refine Fn.e1 func42 ntmps42 fun base=>?_
 refine gA ?_;refine H.Aj (ls:=v11 fun _=>0) rfl rfl rfl fun ob=>?_;refine gU ?_;refine H.Ad (ls:=c11 (fun k=>.slice (i.P k) (strmV l k).length (i.C k))) rfl rfl rfl (c11_rd at1) rfl rfl ?_;refine gT ?_
 refine H.lo (ι:=Nat) (fun k=>[(11,.int .i64 (k:Int)),(10,.agg (c11 (fun k=>.slice (i.P k) (strmV l k).length (i.C k))).toArray),(2,.pointer (some ⟨ob,0,none⟩))]) (fun _=>f)
  (fun k=>row ob 37 (v11 fun j=>if j<k then kn j else 0)::row lb 117 (loreCells n l i)::fam (strH l i) 11::ordH l i::F) (fun k=>k≤11) (fun k=>11-k) 0 (Nat.zero_le _) fun k hk11=>?_
 have hk11:k≤11:=hk11;by_cases hlt:k<11
 ·have h1:=hle k;have h2:=hk k
  refine gG ?_;refine H.indexV (i:=k) rfl rfl rfl rfl hlt rfl (c11_get _ hlt) rfl ?_;refine gW ?_;refine H.Al (i:=k) rfl rfl rfl rfl hlt rfl ?_;refine H.Ba (v:=.int .u64 (kn k)) (ls':=v11 fun j=>if j<k+1 then kn j else 0) rfl rfl (by rw[h2];rfl) rfl aP0 (by rw[Nat.mul_one,Nat.zero_add,←updF_lt];exact v11_upd _ _ hlt) ?_;refine gW ?_;exact H.ag (k+1) (by show k+1≤11;omega) (by show 11-(k+1)<11-k;omega)
 ·have e:k=11:=jA
  subst e;have e:(v11 fun j=>if j<11 then kn j else 0)=v11 kn:=v11_congr fun j hj=>if_pos hj;rw[e]
  refine gY ?_;refine H.Ad (ls:=v11 kn) rfl rfl rfl (Rd.ofRow aP0) rfl rfl ?_;refine H.Ag (ls:=v11 kn) (vs:=v11 kn) (ls':=v11 kn) rfl rfl rfl (zaa rfl) rfl rfl (Nat.le_refl 11) aP0 ?_;refine gT ?_;exact H.Ax rfl rfl rfl (Rd.ofRow aP0) rfl (fun _ s=>(s.drop (.here _ _)).imp (zby i hi)) ⟨rfl,rfl,rfl⟩
/-! ### slices.ContainsFunc -/
def idxI{α:Type}(pr:α→Bool)(l:List α):Int:=match l.findIdx? pr with
 |some i=>(i:Nat)
 |none=>-1
theorem idxI_any(pr:α→Bool)(l:List α):decide (0≤idxI pr l)=l.any pr:=by
 unfold idxI
 cases h:l.findIdx? pr with
 | none =>
  rw[List.findIdx?_eq_none_iff]at h;have:l.any pr=false:=by rw[List.any_eq_false];intro x hx;simp[h x hx]
  rw[this];decide
 | some i =>
  obtain⟨hi,h1,_⟩:=List.findIdx?_eq_some_iff_getElem.1 h;have:l.any pr=true:=by rw[List.any_eq_true];exact⟨l[i],List.getElem_mem hi,h1⟩
  rw[this];exact decide_eq_true (show(0:Int)≤(i:Nat) by omega)
theorem idxI_at{pr:α→Bool}{l:List α}{i:Nat}{x:α}(h:l[i]?=some x)(hp:pr x=true)(hb:∀j y,j<i→l[j]?=some y→pr y=false):idxI pr l=(i:Nat):=by
 have hi:i<l.length:=by
  rcases Nat.lt_or_ge i l.length with h1|h1
  ·exact h1
  ·rw[List.getElem?_eq_none h1]at h;cases h
 have hx:l[i]=x:=by rw[lgE hi]at h;exact Option.some.inj h
 have:l.findIdx? pr=some i:=List.findIdx?_eq_some_iff_getElem.2 ⟨hi,by rw[hx];exact hp,fun j hj=>by
  have:=hb j l[j] hj (lgE jA)
  simp[this]⟩
 unfold idxI;rw[this]
theorem idxI_none{pr:α→Bool}{l:List α}(hb:∀j y,j<l.length→l[j]?=some y→pr y=false):idxI pr l= -1:=by
 have:l.findIdx? pr=none:=by
  rw[List.findIdx?_eq_none_iff];intro x hx;obtain⟨j,hj⟩:=List.getElem?_of_mem hx;rcases Nat.lt_or_ge j l.length with h1|h1
  ·exact hb j x h1 hj
  ·rw[List.getElem?_eq_none h1]at hj;cases hj
 unfold idxI;rw[this]
theorem idxQ_fn(hq:QAt f p q)(hl:q.length≤1000000000){cs:List Value}[Fun prog fid](pr:Int×Int→Bool)
  (hc:∀x,x∈q→Fn prog fid ([]++[.agg (pairV x).toArray]++cs) f F (Ret (.bool (pr x)) f F)) :
  Fn prog 89 [.slice p q.length c,.func (.func fid) #[] cs.toArray] f F (Ret (.int .i64 (idxI pr q)) f F):=by
 refine Fn.e2 func89 ntmps89 fun base=>?_;refine gT ?_;refine H.lo (ι:=Nat) (fun i=>[(8,.int .i64 (i:Int)),(7,.int .i64 (q.length:Nat)),(0,.slice p q.length c),(1,.func (.func fid) #[] cs.toArray)]) (fun _=>f) (fun _=>F) (fun i=>i≤q.length∧∀j y,j<i→q[j]?=some y→pr y=false) (fun i=>q.length-i) 0 ⟨Nat.zero_le _,fun j y hj=>by omega⟩ fun i hi=>?_;obtain⟨hi,hb⟩:i≤q.length∧∀j y,j<i→q[j]?=some y→pr y=false:=hi;by_cases hlt:i<q.length
 ·have hx:q[i]?=some q[i]:=lgE hlt;generalize q[i]=x at hx
  have hxm:=List.mem_of_getElem? hx;obtain⟨b,off,cs2,T,fr,rfl,hfb,hcs⟩:=hq i x hx
  have rd:∀A,Rd f A b (off+i*2) (pairV x):=fun A=>Rd.imm hfb hcs;have hcx:=hc x hxm
  refine qjC ?_;refine H.Ad (ls:=pairV x) rfl rfl rfl (rd _) rfl rfl ?_
  cases hp:pr x with
  | true =>
   rw[hp]at hcx;refine qiJ ?_;refine gD ?_;refine H.Ae rfl rfl iD ⟨?_,rfl,rfl⟩;rw[idxI_at hx hp hb]
  | false =>
   rw[hp]at hcx;refine qiJ ?_;refine gW ?_;refine H.ag (i+1) ⟨by show i+1≤q.length;omega,fun j y hj hy=>?_⟩ (by show q.length-(i+1)<q.length-i;omega);by_cases e:j=i
   ·subst e;rw[hx]at hy;cases hy;exact hp
   ·exact hb j y jA hy
 ·have e:i=q.length:=jA
  subst e;refine gc ?_;refine H.Ae rfl rfl iD ⟨?_,rfl,rfl⟩;rw[idxI_none hb]
theorem hasQ_fn(hq:QAt f p q)(hl:q.length≤1000000000){cs:List Value}[Fun prog fid](pr:Int×Int→Bool)
  (hc:∀x,x∈q→Fn prog fid ([]++[.agg (pairV x).toArray]++cs) f F (Ret (.bool (pr x)) f F)) :
  Fn prog 50 [.slice p q.length c,.func (.func fid) #[] cs.toArray] f F (Ret (.bool (q.any pr)) f F):=by
 have h1:=idxI_any pr q;refine Fn.e2 func50 ntmps50 fun base=>?_
 refine gI ?_;refine H.Af rfl rfl rfl (idxQ_fn f F hq hl pr hc) ?_;exact qbZ
theorem idxU_fn{m:Nat}{d:Nat→Int}(hr:∀i,i<m→∃b off,p=some ⟨b,off,none⟩∧Rd1 f F b (off+i) (.int .u64 (d i)))(hm:m≤1000000000){cs:List Value}[Fun prog fid](pr:Int→Bool)
  (hc:∀z,Fn prog fid ([]++[.int .u64 z]++cs) f F (Ret (.bool (pr z)) f F)) :
  Fn prog 157 [.slice p m c,.func (.func fid) #[] cs.toArray] f F (Ret (.int .i64 (idxI (fun i=>pr (d i)) (List.range m))) f F):=by
 refine Fn.e2 func157 ntmps157 fun base=>?_;refine gT ?_;refine H.lo (ι:=Nat) (fun i=>[(8,.int .i64 (i:Int)),(7,.int .i64 (m:Nat)),(0,.slice p m c),(1,.func (.func fid) #[] cs.toArray)]) (fun _=>f) (fun _=>F) (fun i=>i≤m∧∀j,j<i→pr (d j)=false) (fun i=>m-i) 0 ⟨Nat.zero_le _,fun j hj=>by omega⟩ fun i hi=>?_;obtain⟨hi,hb⟩:i≤m∧∀j,j<i→pr (d j)=false:=hi;by_cases hlt:i<m
 ·obtain⟨b,off,rfl,hrd⟩:=hr i hlt;have hcx:=hc (d i);refine gG ?_
  refine H.Bv (i:=i) rfl rfl rfl rfl hlt rfl ?_;refine H.Ab rfl rfl rfl hrd rfl ?_
  cases hp:pr (d i)with
  | true =>
   rw[hp]at hcx;refine qiJ ?_;refine gD ?_;refine H.Ae rfl rfl iD ⟨?_,rfl,rfl⟩
   rw[idxI_at (i:=i) (x:=i) (by rw[List.getElem?_range hlt]) hp fun j y hj hy=>by
    rw[List.getElem?_range jA]at hy;cases hy;exact hb j hj]
  | false =>
   rw[hp]at hcx;refine qiJ ?_;refine gW ?_;refine H.ag (i+1) ⟨by show i+1≤m;omega,fun j hj=>?_⟩ (by show m-(i+1)<m-i;omega);by_cases e:j=i
   ·subst e;exact hp
   ·exact hb j jA
 ·have e:i=m:=jA
  subst e;refine gc ?_;refine H.Ae rfl rfl iD ⟨?_,rfl,rfl⟩
  rw[idxI_none fun j y hj hy=>by
   have hj:j<i:=by rw[List.length_range]at hj;exact hj
   rw[List.getElem?_range hj]at hy;cases hy;exact hb j hj]
theorem hasU_fn{m:Nat}{d:Nat→Int}(hr:∀i,i<m→∃b off,p=some ⟨b,off,none⟩∧Rd1 f F b (off+i) (.int .u64 (d i)))(hm:m≤1000000000){cs:List Value}[Fun prog fid](pr:Int→Bool)
  (hc:∀z,Fn prog fid ([]++[.int .u64 z]++cs) f F (Ret (.bool (pr z)) f F)) :
  Fn prog 122 [.slice p m c,.func (.func fid) #[] cs.toArray] f F (Ret (.bool ((List.range m).any fun i=>pr (d i))) f F):=by
 have h1:=idxI_any (fun i=>pr (d i)) (List.range m);refine Fn.e2 func122 ntmps122 fun base=>?_
 refine gI ?_;refine H.Af rfl rfl rfl (idxU_fn f F hr hm pr hc) ?_;exact qbZ
theorem fits1_fn{pb:Nat}{i:LP}(x:Int×Int):Fn prog 121 ([]++[.agg (pairV x).toArray]++[.pointer (some ⟨pb,0,none⟩)]) f (row pb 79 [.pointer (some ⟨lb,0,none⟩)]::row lb 117 (loreCells n l i)::F)
  (Ret (.bool (decide ((n:Int)<x.1))) f (row pb 79 [.pointer (some ⟨lb,0,none⟩)]::row lb 117 (loreCells n l i)::F)):=by
 refine Fn.e2 func121 ntmps121 fun base=>?_;exact qcg
theorem fits2_fn(z:Int):Fn prog 123 ([]++[.int .u64 z]++[]) f F (Ret (.bool (decide (0<z))) f F):=by
 refine Fn.e1 func123 ntmps123 fun base=>?_;refine gG ?_;exact qaj
end
theorem any_all(l:List α)(p:α→Bool)(q:α→Bool)(h:∀x,q x= !p x):l.all q= !l.any p:=by
 induction l with
 |nil=>rfl
 |cons a l ih=>rw[List.all_cons,List.any_cons,ih,h,Bool.not_or]
theorem deps_any(hn:n≤11)(d:Nat→Int):((List.range 11).all fun i=>decide (i<n)||decide (d i≤0))= !(List.range (11-n)).any fun i=>decide (0<d (n+i)):=by
 cases h:(List.range (11-n)).any fun i=>decide (0<d (n+i))with
 | true =>
  rw[List.any_eq_true]at h;obtain⟨i,hi,h⟩:=h;have hi:=List.mem_range.1 hi;rw[Bool.not_true,List.all_eq_false]
  refine⟨n+i,List.mem_range.2 jA,?_⟩;have h:=of_decide_eq_true h;rw[decide_eq_false jA,decide_eq_false jA];decide
 | false =>
  rw[List.any_eq_false]at h;rw[Bool.not_false,List.all_eq_true];intro i hi;have hi:=List.mem_range.1 hi;rw[Bool.or_eq_true,decide_eq_true_eq,decide_eq_true_eq]
  by_cases hlt:i<n
  ·exact .inl hlt
  ·have:=h (i-n) (List.mem_range.2 jA);rw[decide_eq_true_eq,show n+(i-n)=i by omega]at this
   exact .inr jA
variable {m:Msg}
theorem fitsB_q(hn:n≤11)(h1:m.may=true)(h2:m.origin≤(n:Int)):fitsB n m=(!(m.body.q.any fun p=>decide ((n:Int)<p.1))&& !(List.range (11-n)).any fun i=>decide (0<m.deps (n+i))):=by
 unfold fitsB
 rw[h1,decide_eq_true h2,deps_any hn,any_all m.body.q (fun p=>decide ((n:Int)<p.1)) (fun p=>decide (p.1≤(n:Int))) fun p=>by
  by_cases h:(n:Int)<p.1
  ·exact qef
  ·rw[decide_eq_false h,decide_eq_true jA];rfl]
 rfl
variable {x:MV}
section
variable (f:Frag) (F:List HP)
theorem fits_fn{i:LP}(hn:n≤11)(hx:x.Good f):Fn prog 83 [.pointer (some ⟨lb,0,none⟩),.agg x.vals.toArray] f (row lb 117 (loreCells n l i)::F)
  (Ret (.bool (fitsB n x.m)) f (row lb 117 (loreCells n l i)::F)):=by
 have hmay:=fun G=>mmay_fn f G hx;by_cases hm:x.m.may=true
 ·rw[hm]at hmay;by_cases ho:x.m.origin≤(n:Int)
  ·rw[fitsB_q hn hm ho];refine Fn.e2 func83 ntmps83 fun base=>?_;refine qgi fun pb=>?_;refine qjg fun mb=>?_;refine qfn ?_;refine gV ?_;refine qey ?_;refine gg ?_;refine qew ?_;refine H.pf (x:=row pb _ _) ?_;have hq:x.m.body.q.length≤1000000000:=by have:=hx.2.1;omega
   refine H.Af rfl rfl rfl (hasQ_fn f _ (c:=x.qc) hx.1 hq (fun p=>decide ((n:Int)<p.1)) fun p _=>fits1_fn f _ p) ?_
   cases hany:x.m.body.q.any fun p=>decide ((n:Int)<p.1)with
   | true =>
    refine qhO ?_;refine gg ?_;refine qeK ?_;exact qbU
   | false =>
    refine qjp ?_;repeat(first|((first|apply H.Aw|apply H.Bd);(iterate 3 exact rfl))|(apply H.Bn;(iterate 3 exact rfl);exact inferInstance;exact rfl)|(apply H.Ab;(iterate 3 exact rfl);apply Rd1.ofRow;(repeat(first|exact .here _ _ _|apply At.there));(iterate 2 exact rfl)))
    refine H.Bt (lo:=some _) (hi:=none) (mx:=none) (lv:=n) (hv:=11) (mv:=11) rfl rfl ⟨_,_,rfl,rfl⟩ rfl rfl (fun h=>by cases h) hn jC jC rfl ?_;skip;refine H.Af rfl rfl rfl (hasU_fn f _ (p:=slP (some ⟨mb,2,none⟩) n 11 1) (m:=11-n) (c:=11-n) (d:=fun i=>x.m.deps (n+i)) (fun i hi=>⟨mb,2+n,by unfold slP;rw[if_neg jA];show some (Addr.add ⟨mb,2,none⟩ (n*1))=_;rw[zba,Nat.mul_one],?_⟩) jA (fun z=>decide (0<z)) fun z=>fits2_fn f _ z) ?_
    ·rw[show 2+n+i=2+(n+i) by omega];exact Rd1.of (off:=2) (zaz (m:=x.m) (q:=x.qp) (qc:=x.qc) at2) (zau x.m.deps jA)
    generalize(List.range (11-n)).any (fun i=>decide (0<x.m.deps (n+i)))=b;refine H.not (b:=b) (c:=!b) rfl rfl rfl rfl ?_;refine gY ?_;refine qeK ?_;exact qbU
  ·have e:fitsB n x.m=false:=by unfold fitsB;rw[decide_eq_false ho];simp
   rw[e];refine Fn.e2 func83 ntmps83 fun base=>?_;refine qgi fun pb=>?_;refine qjg fun mb=>?_;refine qfn ?_;refine gV ?_;refine qey ?_;refine gG ?_;exact qcT
 ·have hm:x.m.may=false:=Bool.eq_false_iff.2 hm;have e:fitsB n x.m=false:=by unfold fitsB;rw[hm];rfl
  rw[hm]at hmay;rw[e];refine Fn.e2 func83 ntmps83 fun base=>?_;refine qgi fun pb=>?_;refine qjg fun mb=>?_;refine qfn ?_;refine qfh ?_;refine gD ?_;exact qcT
end
theorem strm_lenV(l:List MV)(o:Nat):(strm (l.map MV.m) o).length=(strmV l o).length:=by rw[←strmV_map,List.length_map]
variable {b:Nat} {T:TypeId} {y:MV}
theorem slc_deps{xs:List MV}(h:At A (slc (some ⟨b,0,none⟩) n c T 121 (xs.flatMap MV.vals)) A' (slc (some ⟨b,0,none⟩) n c T 121 (xs.flatMap MV.vals))){k:Nat}(hy:xs[k]?=some y):Rd f A b (k*121+2) (v11 y.m.deps):=by
 have h1:=Rd.slcElem (f:=f) MV.len jC h hy;have e:y.vals=[.int .i64 y.m.origin,.int .u64 y.m.number]++v11 y.m.deps++(y.m.body.vals y.qp y.qc++b32 y.m.tag):=by unfold MV.vals Msg.vals;simp only[List.append_assoc]
 exact qbF
theorem fits_at(h:fitsB n m=true)(hn:n≤11):∃o:Nat,orgI m=o∧m.origin-1=(o:Nat)∧o<n∧o<11∧1≤m.origin∧m.origin≤11:=by
 have h1:=fits_org h;refine⟨(m.origin-1).toNat,rfl,?_⟩
 omega
section
variable (f:Frag) (F:List HP)
theorem lcheck_fn(htab:TabAt f)(hx:x.Good f):Fn prog 47 [.pointer (some ⟨lb,0,none⟩),.agg x.vals.toArray] f (loreH fl lb n l::F)
  (Ret (.int .i64 (chk n (strm (l.map MV.m)) x.m)) f (loreH fl lb n l::F)):=by
 refine qjX fun i hi=>?_;have hn:=hi.2.2.2;have hfits:∀ {G},Fn prog 83 [.pointer (some ⟨lb,0,none⟩),.agg x.vals.toArray] f (row lb 117 (loreCells n l i)::G) (Ret (.bool (fitsB n x.m)) f (row lb 117 (loreCells n l i)::G)):=fun {G}=>fits_fn f G hn hx
 have hright:∀ {G},Fn prog 84 [.agg x.vals.toArray] f G (Ret (.bool x.m.right) f G):=fun {G}=>mright_fn f G htab hx
 cases h1:fitsB n x.m with
 | false =>
  rw[h1]at hfits;refine qiT fun base=>?_;refine qem fun mb=>?_;refine gU ?_;refine qfq ?_;refine qew ?_;refine H.Af rfl rfl rfl hfits ?_;refine qhb ?_;refine gD ?_;refine qeT ?_;refine qeH ?_;refine H.Ae rfl rfl iD ⟨?_,rfl,rfl⟩;unfold chk;rw[if_pos h1]
 | true =>
  obtain⟨o,hoo,hoz,hon,ho11,ho1,ho2⟩:=fits_at h1 hn;rw[h1]at hfits
  cases h2:x.m.right with
  | false =>
   rw[h2]at hright;refine qiT fun base=>?_;refine qem fun mb=>?_;refine qet ?_;refine gD ?_;refine qeT ?_;refine qeH ?_;refine H.Ae rfl rfl iD ⟨?_,rfl,rfl⟩;unfold chk;rw[if_neg kV,if_pos h2]
  | true =>
   rw[h2]at hright;have hsl:=strmV_le l o;have hll:=hi.2.1
   have hstr:=loreCells_str n l i ho11;have hlen:=strm_lenV l o
   have hchk:chk n (strm (l.map MV.m)) x.m=if x.m.number≤((strmV l o).length:Nat)then 13 else
     if x.m.number=(((strmV l o).length+1:Nat):Int)∧0<(strmV l o).length∧aboveB (lastD (strm (l.map MV.m) o)) x.m.deps=true then 1 else
     if(((strmV l o).length+1:Nat):Int)<x.m.number∨aboveB x.m.deps (knownS (strm (l.map MV.m)))=true then 12 else 0:=by
    unfold chk
    rw[if_neg kV,if_neg (by rw[h2];decide),hoo,hlen]
   by_cases h3:x.m.number≤((strmV l o).length:Nat)
   ·generalize hs:(strmV l o).length=s at *;refine qiT fun base=>?_;refine qem fun mb=>?_;refine qet ?_;refine gW ?_;refine qeP ?_;refine qeT ?_;refine qeH ?_;refine H.Ae rfl rfl iD ⟨?_,rfl,rfl⟩;rw[hchk,if_pos h3]
   ·by_cases h4 : x.m.number = (((strmV l o).length + 1 : Nat) : Int)
    ·by_cases h0 : 0 < (strmV l o).length
     ·obtain⟨y,hy⟩:∃y,(strmV l o)[(strmV l o).length-1]?=some y:=⟨_,lgE jA⟩
      have hlast:lastD (strm (l.map MV.m) o)=y.m.deps:=by
       rw[←strmV_map];exact lastD_get (by rw[List.length_map,List.getElem?_map,hy];rfl)
      rw[hlast]at hchk;refine qiT fun base=>?_;refine qem fun mb=>?_;refine qet ?_;refine gW ?_;refine H.pf (x:=fam (strH l i) 11) ?_;refine H.Bq ho11 ?_;refine H.Au (p:=i.P o) (n0:=(strmV l o).length) (c:=i.C o) aP0 h0 fun sb hp=>?_
      have hrd:∀ {f G},Rd f (strH l i o::G) sb (((strmV l o).length-1)*121+2) (v11 y.m.deps):=fun {f G}=>by
       unfold strH;rw[hp];exact slc_deps aP0 hy
      rw[hp]at hstr;generalize hs:(strmV l o).length=s at *;refine qew ?_;refine qeu ?_;refine qeP ?_;refine qeu ?_;refine H.pf (x:=strH l i o) ?_;refine qgu ?_;refine HB.qu [0,1,2,3,4,5,6,7,8,9,10,11,12,13,14,15,16,17] 3 ?_;refine gZ ?_;refine HQ.Ak (i:=s-1) rfl rfl rfl jA jA rfl ?_;refine gP ?_;refine HQ.Ad (ls:=v11 y.m.deps) rfl rfl rfl (by rw[Nat.zero_add];exact hrd) rfl rfl ?_;refine gP ?_;refine HQ.Ad (ls:=v11 x.m.deps) rfl rfl rfl (zaz (m:=x.m) (q:=x.qp) (qc:=x.qc) at1) rfl rfl ?_;refine qkD ?_;refine H.Af rfl rfl rfl (above_fn f _ _ _) ?_
      cases hab:aboveB y.m.deps x.m.deps with
      | true =>
       refine qeg ?_;refine HB.qu [19,20] 0 ?_;refine qfh ?_;refine gD ?_;refine qjM ?_;refine qeT ?_;refine qeH ?_;refine H.Ae rfl rfl iD ⟨?_,rfl,rfl⟩;rw[hchk,if_neg h3,if_pos ⟨h4,h0,hab⟩]
      | false =>
       refine qeg ?_;refine HB.qu [19,20] 0 ?_;refine qfh ?_;refine gN ?_;refine qjM ?_;have hc4:¬(x.m.number=((s+1:Nat):Int)∧0<s∧aboveB y.m.deps x.m.deps=true):=by rintro⟨_,_,h⟩;rw[hab]at h;cases h
       refine qfa ?_;refine qgv ?_
       cases hab:aboveB x.m.deps (knownS (strm (l.map MV.m)))with
       | true =>
        exact qbJ
       | false =>
        exact qbu
     ·have hc4:¬(x.m.number=(((strmV l o).length+1:Nat):Int)∧0<(strmV l o).length∧aboveB (lastD (strm (l.map MV.m) o)) x.m.deps=true):=fun h=>h0 h.2.1;generalize hs:(strmV l o).length=s at *
      refine qiT fun base=>?_;refine qem fun mb=>?_;refine qfL ?_;refine qfa ?_;refine qgv ?_
      cases hab:aboveB x.m.deps (knownS (strm (l.map MV.m)))with
      | true =>
       exact qbJ
      | false =>
       exact qbu
    ·have hc4:¬(x.m.number=(((strmV l o).length+1:Nat):Int)∧0<(strmV l o).length∧aboveB (lastD (strm (l.map MV.m) o)) x.m.deps=true):=fun h=>h4 h.1;generalize hs:(strmV l o).length=s at *
     refine qiT fun base=>?_;refine qem fun mb=>?_;refine qfL ?_;refine qeT ?_;refine qeH ?_;refine H.Ae rfl rfl iD ⟨?_,rfl,rfl⟩;rw[hchk,if_neg jA,if_neg hc4,if_pos (.inl jA)]
end
variable {sz:Nat}
theorem ListAt.none_nil{vals:α→List Value}{xs:List α}(h:ListAt f p sz vals xs)(hp:p=none):xs=[]:=by
 cases xs with
 |nil=>rfl
 | cons x r =>
  obtain⟨b,off,cs,T,fr,h1,_⟩:=h 0 x rfl;rw[hp]at h1;cases h1
theorem MVs_one(l:List MV):∀v∈l.flatMap MV.vals,one v=true:=by
 intro v hv;simp only[List.mem_flatMap]at hv;obtain⟨x,_,hx⟩:=hv;exact zaa (show allOne x.vals=true from rfl) v hx
def loreC(n:Nat)(g:Nat→Value)(s:Value):List Value:=[.int .i64 (n:Int)]++c11 g++[s]
theorem loreC_last(n:Nat)(g:Nat→Value)(s v:Value):SetV (loreC n g s) 12 v (loreC n g v):=by
 have e:loreC n g v=(loreC n g s).set 12 v:=rfl;rw[e]
 exact SetV.mk v (show 12<13 by decide)
variable {o:Nat}
theorem loreC_mid(n:Nat)(g:Nat→Value)(s v:Value)(h:o<11):SetV (loreC n g s) (1+o) v (loreC n (updF g o v) s):=
 SetV.mid' (c11_set g v h) [.int .i64 (n:Int)] [s]
theorem loreC_str(n:Nat)(g:Nat→Value)(s:Value)(h:o<11):(loreC n g s)[1+o]?=some (g o):=by
 unfold loreC;rw[List.append_assoc,List.getElem?_append_right (by show 1≤1+o;omega),show 1+o- [Value.int .i64 (n:Int)].length=o by show 1+o-1=o;omega,List.getElem?_append_left (by show o<11;exact h),c11_get _ h]
theorem c11_congr{g g':Nat→Value}(h:∀k,k<11→g k=g' k):c11 g=c11 g':=by
 unfold c11;exact qbM
variable {F:List HP} {f':Frag}
theorem lore_after{i:LP}{p2 po2:Option Addr}{c2 co2:Nat}(hoo:orgI x.m=o)(h:loreφ f' n (l++[x])):∀y,stars (row lb 117 (loreC n (updF (fun k=>.slice (i.P k) (strmV l k).length (i.C k)) o (.slice p2 ((strmV l o).length+1) c2)) (.slice po2 (l.length+1) co2)) ::
   fam (updF (strH l i) o (slc p2 ((strmV l o).length+1) c2 54 121 ((strmV l o).flatMap MV.vals++x.vals))) 11 ::
   slc po2 (l.length+1) co2 119 2 ((placesOf (l.map MV.m)).flatMap placeV++placeV (o,(strmV l o).length))::F) y→stars (loreH f' lb n (l++[x])::F) y:=by
 have hcnt:cnt (l.map MV.m) o=(strmV l o).length:=(strmV_len l o).symm
 have e1:loreC n (updF (fun k=>.slice (i.P k) (strmV l k).length (i.C k)) o (.slice p2 ((strmV l o).length+1) c2)) (.slice po2 (l.length+1) co2)=loreCells n (l++[x]) ⟨updF i.P o p2,updF i.C o c2,po2,co2⟩:=by
  unfold loreC loreCells;rw[c11_congr (g':=fun k=>.slice ((updF i.P o p2) k) (strmV (l++[x]) k).length ((updF i.C o c2) k)) fun k _=>?_,lnA]
  ·rfl
  ·rw[strmV_snoc,hoo];by_cases e:k=o
   ·subst e;rw[zae,zae,zae,if_pos rfl,lnA];rfl
   ·rw[zag _ _ e,zag _ _ e,zag _ _ e,if_neg e]
 have e2:fam (updF (strH l i) o (slc p2 ((strmV l o).length+1) c2 54 121 ((strmV l o).flatMap MV.vals++x.vals))) 11=fam (strH (l++[x]) ⟨updF i.P o p2,updF i.C o c2,po2,co2⟩) 11:=by
  unfold fam;rw[rngH_congr 11 fun k _=>?_];unfold strH;rw[strmV_snoc,hoo];by_cases e:k=o
  ·subst e;show updF _ k _ k=slc (updF i.P k p2 k) _ (updF i.C k c2 k) _ _ _;rw[zae,zae,zae,if_pos rfl,lnA,List.flatMap_append];show _=slc p2 _ c2 _ _ (_++(x.vals++[]));rw[List.append_nil];rfl
  ·show updF _ o _ k=slc (updF i.P o p2 k) _ (updF i.C o c2 k) _ _ _;rw[zag _ _ e,zag _ _ e,zag _ _ e,if_neg e]
 have e3:slc po2 (l.length+1) co2 119 2 ((placesOf (l.map MV.m)).flatMap placeV++placeV (o,(strmV l o).length))=ordH (l++[x]) ⟨updF i.P o p2,updF i.C o c2,po2,co2⟩:=by
  unfold ordH;have hpl:=placesOf_snoc (l.map MV.m) x.m;rw[hoo,hcnt]at hpl
  rw[List.map_append,show [x].map MV.m=[x.m]from rfl,hpl,List.flatMap_append,lnA];rfl
 rw[e1,e2,e3];exact zby _ h
theorem loreφ_snoc(hle:Le f f')(h:loreφ f n l)(hl:l.length<100000)(hc:chk n (strm (l.map MV.m)) x.m=0)(hx:x.Good f'):loreφ f' n (l++[x]):=by
 refine⟨fun y hy=>?_,?_,?_,h.2.2.2⟩
 ·rcases List.mem_append.1 hy with hy|hy
  ·exact(h.1 y hy).mono hle
  ·rw[List.mem_singleton]at hy;subst hy;exact hx
 ·rw[lnA];show l.length+1≤_;omega
 ·rw[List.map_append];exact h.2.2.1.snoc hc
def msgZ:Msg:=⟨0,0,fun _=>0,Bod.zero 0,noTag⟩
variable {g:Frag}
theorem qs_qat0(h:qs p c q g):QAt g p q:=zbh (vals:=pairV) (fun _=>rfl) h
variable {h:Frag}
section
variable (f:Frag) (F:List HP)
theorem cloneQ_fn{l:List (Int×Int)}(h:QAt f p l)(hl:l.length≤1000000):Fn prog 86 [.slice p l.length c] f F (fun v f' A'=>∃p c,v= .slice p l.length c∧f'=f∧A'=qs p c l::F):=by
 have h':ListAt f p 2 pairV l:=h;have hs:=ListAt.src (P:=prog) (A:=F) (c:=c) (sz:=2) (vals:=pairV) (fun _=>rfl) jC h'
 cases p with
 | none =>
  have:=h'.none_nil rfl;subst this
  refine Fn.e1 func86 ntmps86 fun base=>?_;refine gS ?_;refine H.slc0 127 2 ?_;exact qco
 | some a =>
  refine Fn.e1 func86 ntmps86 fun base=>?_;refine gU ?_;refine qeU fun eb=>?_;refine H.asSlc (k:=0) (sz:=2) rfl jC ?_;refine gI ?_;refine H.Av (xs:=[]) rfl rfl rfl rfl rfl (fun p' c'=>.here _ _ _) hs.cons (pairsV_one l) rfl jA jA fun p' c'=>?_;rw[Nat.zero_add];refine gT ?_;exact qct
theorem lown_fn(hx:x.Good f):Fn prog 48 [.agg x.vals.toArray] f F (fun v f' A'=>∃p c,v= .agg (x.m.vals p c).toArray∧f'=f∧A'=qs p c x.m.body.q::F):=by
 refine Fn.e1 func48 ntmps48 fun base=>?_;refine qem fun mb=>?_;refine qfl fun ob=>?_;refine gF ?_;refine H.Am rfl rfl rfl (cloneQ_fn f _ hx.1 hx.2.1) fun qp qc=>?_;refine gR ?_;refine H.Ad (ls:=x.m.vals qp qc) rfl rfl rfl (Rd.ofRow jB) rfl rfl ?_;refine H.Ag (ls:=msgZ.vals none 0) (vs:=x.m.vals qp qc) (ls':=x.m.vals qp qc) rfl rfl rfl (zaa rfl) rfl rfl (Nat.le_refl 121) jB ?_;refine qhh ?_;refine qkN ?_;exact H.Ax rfl rfl rfl (Rd.ofRow aP0) rfl (fun _ s=>s.drop (.here _ _)) ⟨qp,qc,rfl,rfl,rfl⟩
def AddP(f:Frag)(F:List HP)(lb n:Nat)(l:List MV)(m:Msg):Value→Frag→List HP→Prop:=fun v f' A'=>
 ∃(g:Frag) (qp:Option Addr) (qc:Nat),v= .int .i64 (chk n (strm (l.map MV.m)) m)∧Dj f g∧f'=un f g∧A'=loreH f' lb n (if chk n (strm (l.map MV.m)) m=0 then l++[⟨m,qp,qc⟩]else l)::F
def AddQ(f:Frag)(F:List HP)(fl:Frag)(lb n:Nat)(l:List MV)(m:Msg):Value→Frag→List HP→Prop:=fun v f' A'=>
 ∃(g:Frag) (qp:Option Addr) (qc:Nat),v= .int .i64 (chk n (strm (l.map MV.m)) m)∧Dj f g∧f'=un f g∧A'=loreH (un fl g) lb n (if chk n (strm (l.map MV.m)) m=0 then l++[⟨m,qp,qc⟩]else l)::F
theorem Dj.le{f:Frag}(h1:Le f g)(h2:Dj g h):Dj f h:=fun k=>by
 rcases h2 k with e|e
 ·cases hf:f k with
  |none=>exact .inl rfl
  |some o=>rw[h1 k o hf]at e;cases e
 ·exact .inr e
theorem laddQ_fn(htab:TabAt f)(hfl:Le fl f)(hx:x.Good f)(hlen:l.length<100000):Fn prog 24 [.pointer (some ⟨lb,0,none⟩),.agg x.vals.toArray] f (loreH fl lb n l::F) (AddQ f F fl lb n l x.m):=by
 by_cases hc:chk n (strm (l.map MV.m)) x.m=0
 ·obtain⟨z1,z2,z3,_,_⟩:=chk_zero hc;refine qjX fun i0 hi0=>?_;refine Fn.imp (zby i0 hi0) ?_;have hn:=hi0.2.2.2;obtain⟨o,hoo,hoz,hon,ho11,ho1,ho2⟩:=fits_at z1 hn
  rw[hoo,strm_lenV]at z3;have hsub:IntKind.i64.wrap (x.m.origin-1)=((o:Nat):Int):=by rw[hoz];exact wr_i64 jA
  have hsl:=strmV_le l o;have hcnt:cnt (l.map MV.m) o=(strmV l o).length:=strm_lenV l o
  refine Fn.e2 func24 ntmps24 fun base=>?_;refine qem fun mb=>?_;refine qka ?_;refine gc ?_;rw[hc];skip;refine H.loreOpen fun i hi=>?_;unfold ordH;have hstr:=loreCells_str n l i ho11;refine qeu ?_
  refine H.dq ?_;refine qga ?_;refine gK ?_;refine gA ?_;refine H.dc [0,1,2,3,4,5,6,7,8,9,10,11,12,13,14] (S:=[_,_]) rfl ?_;refine HB.qu [0,1,2,3,4,5,6,7,8,9,10,11,12] 5 ?_;repeat(first|(apply HQ.ar;(iterate 4 exact rfl);exact hsub;exact rfl)|(refine HQ.Ab rfl rfl rfl (Rd1.at0 (Rd.ofRow at1) kX) rfl ?_)|(refine gi ?_))
  refine qhA ?_;refine H.Aq (out:=placeV (o,(strmV l o).length)) rfl rfl rfl rfl jC jC rfl rfl fun eb=>?_;refine gA ?_;refine qew ?_;refine qiW ?_;refine HB.ev 14 ?_;have hpll:(placesOf (l.map MV.m)).length=l.length:=by unfold placesOf;rw[placesFrom_len,List.length_map]
  refine H.Av (xs:=(placesOf (l.map MV.m)).flatMap placeV) (m:=1) (news:=placeV (o,(strmV l o).length)) rfl rfl rfl rfl rfl (fun p' c'=>jB) (Src.slice (Rd.ofRow jB) rfl) (zaa rfl) rfl jA jA fun po2 co2=>?_;refine qkL ?_;refine qgV ?_;refine HB.qu [15,16] 1 ?_;refine qfw ?_;refine HB.ev 17 ?_;refine H.Ba (ls:=loreC n (fun k=>.slice (i.P k) (strmV l k).length (i.C k)) (.slice i.po l.length i.co)) (ls':=loreC n (fun k=>.slice (i.P k) (strmV l k).length (i.C k)) (.slice po2 (l.length+1) co2)) rfl rfl rfl rfl at1 (loreC_last _ _ _ _) ?_;refine qjr ?_;refine H.dc [0,1,2,3,4,5,6,7] (S:=[_,_]) rfl ?_;refine HB.qu [0,1,2,3,4] 5 ?_;have hstr2:=loreC_str n (fun k=>.slice (i.P k) (strmV l k).length (i.C k)) (.slice po2 (l.length+1) co2) ho11;repeat(first|(refine HQ.Ab rfl rfl rfl (Rd1.at0 (Rd.ofRow at1) (by rw[Nat.mul_one,Nat.zero_add];exact hstr2)) rfl ?_)|(refine HQ.Ad (ls:=x.vals) rfl rfl rfl (Rd.ofRow aP0) rfl rfl ?_)|(refine gi ?_))
  refine qeo ?_;refine HB.ev 5 ?_;refine H.Am rfl rfl rfl (lown_fn f _ hx) fun qp qc=>?_;refine gA ?_;refine qjm fun g hg hd=>?_;refine H.on [] (Le.un f g) rfl ?_;refine HB.ev 6 ?_;refine H.Aq (out:=x.m.vals qp qc) rfl rfl rfl rfl jC jC rfl rfl fun eb=>?_;refine gA ?_;refine qew ?_;refine qiW ?_;refine HB.ev 7 ?_;refine H.pf (x:=fam (strH l i) 11) ?_;refine H.Bq ho11 ?_;unfold strH;refine H.Av (xs:=(strmV l o).flatMap MV.vals) (m:=1) (news:=x.m.vals qp qc) rfl rfl rfl rfl rfl (fun p' c'=>.here _ _ _) (Src.slice (Rd.ofRow jB) rfl) (zaa rfl) rfl jA jA fun p2 c2=>?_;refine qkL ?_;refine H.famPut ho11 ?_;refine qew ?_;refine qeu ?_;refine qgV ?_;refine HB.qu [8] 1 ?_;refine gB ?_;refine qhH ?_;refine H.Ba (ls:=loreC n (fun k=>.slice (i.P k) (strmV l k).length (i.C k)) (.slice po2 (l.length+1) co2)) (ls':=loreC n (updF (fun k=>.slice (i.P k) (strmV l k).length (i.C k)) o (.slice p2 ((strmV l o).length+1) c2)) (.slice po2 (l.length+1) co2)) rfl rfl rfl rfl at1 (by rw[Nat.mul_one,Nat.zero_add];exact loreC_mid _ _ _ _ ho11) ?_;refine qeR ?_;refine qhh ?_;have hxg:(⟨x.m,qp,qc⟩:MV).Good (un fl g):=⟨QAt.mono (Le.right (Dj.le hfl hd)) (qs_qat0 hg),hx.2⟩;refine H.imp (lore_after (x:=⟨x.m,qp,qc⟩) hoo (loreφ_snoc (Le.un fl g) hi hlen hc hxg)) ?_
  refine H.Ae rfl rfl iD ⟨g,qp,qc,?_,hd,rfl,?_⟩
  ·rw[hc]
  ·rw[if_pos hc];rfl
 ·have hA:Fn prog 24 [.pointer (some ⟨lb,0,none⟩),.agg x.vals.toArray] f (loreH fl lb n l::F) (Ret (.int .i64 (chk n (strm (l.map MV.m)) x.m)) f (loreH fl lb n l::F)):=by
   refine Fn.e2 func24 ntmps24 fun base=>?_;refine qem fun mb=>?_;refine qka ?_;refine gG ?_;exact qbU
  refine Fn.monoA hA ?_;rintro v f' A' ⟨rfl,rfl,rfl⟩;refine⟨_,⟨nil0,none,0,rfl,Dj.nil _,(un_nil _).symm,rfl⟩,?_⟩;rw[if_neg hc];rintro y ⟨h1,h2,h3,h4,h5,h6⟩;exact⟨h1,h2,h3,h4,loreH_mono (Le.un fl nil0) _ h5,h6⟩
theorem ladd_fn(htab:TabAt f)(hfl:Le fl f)(hx:x.Good f)(hlen:l.length<100000):Fn prog 24 [.pointer (some ⟨lb,0,none⟩),.agg x.vals.toArray] f (loreH fl lb n l::F) (AddP f F lb n l x.m):=by
 refine Fn.monoA (laddQ_fn f F htab hfl hx hlen) ?_;rintro v f' A' ⟨g,qp,qc,e1,e2,rfl,rfl⟩;refine⟨_,⟨g,qp,qc,e1,e2,rfl,rfl⟩,?_⟩;rintro y ⟨h1,h2,h3,h4,h5,h6⟩;refine⟨h1,h2,h3,h4,loreH_mono (fun k o hk=>?_) _ h5,h6⟩;unfold un at hk⊢
 cases hfk:fl k with
 | none =>
  rw[hfk]at hk;rcases e2 k with e|e
  ·rw[e];exact hk
  ·have hk2:g k=some o:=hk;rw[e]at hk2;cases hk2
 | some o' =>
  rw[hfk]at hk;rw[hfl k o' hfk];exact hk
end
theorem Dj.un3'(h1:Dj f g)(h2:Dj (un f g) h):Dj f (un g h):=Dj.un_right.2 ⟨h1,(Dj.un_left.1 h2).1⟩
theorem slc_snoc{R:List MV}:slc p (R.length+1) c T 121 (R.flatMap MV.vals++y.vals)=slc p (R++[y]).length c T 121 ((R++[y]).flatMap MV.vals):=by
 rw[lnA,List.flatMap_append];show _=slc p (R.length+1) c T 121 (R.flatMap MV.vals++(y.vals++[]));rw[List.append_nil]
section
variable (f:Frag) (F:List HP)
theorem rclient_fn{i:Int}(h1:1≤i)(h2:i≤8):Fn prog 33 [.int .i64 i] f F (BytesR (Sha.word32 clientW i) f F):=by
 refine Fn.e1 func33 ntmps33 fun base=>?_;refine gI ?_;refine H.Am rfl rfl rfl (rkey_fn (w:=⟨#[114,97,116,99,104,101,116,32,99,108,105,101,110,116]⟩) f _ h1 h2 jC jC) fun p1 c1=>?_;exact qbc
theorem rsigned_fn(r:Req):Fn prog 16 [.agg r.vals.toArray] f F (Ret (.agg r.signed.vals.toArray) f F):=by
 have has:=fun G=>rasked_fn f G r;unfold Req.signed
 by_cases ha:r.asked
 ·have hbl:=Req.bytes_max ha;have hcl:=fun G=>rclient_fn f G ha.1 ha.2.1
  have hrq:=fun G p c=>rrequest_fn f G (p:=p) (c:=c) (l:=[]) r ha jC;have hk:(Sha.word32 clientW r.client).length=32:=rfl
  rw[if_pos ha];rw[decide_eq_true ha]at has;unfold Req.sig;generalize Sha.word32 clientW r.client=key at hk hcl⊢;rw[show([]:List UInt8)++r.bytes=r.bytes from rfl]at hrq;generalize r.bytes=rb at hbl hrq⊢;refine Fn.e1 func16 ntmps16 fun base=>?_;refine qeM fun qb=>?_;refine qgN fun ob=>?_;refine gA ?_;refine qiC ?_;refine H.cr (has _) ?_;refine gL ?_;refine qeC ?_;refine H.dc [0,1,2,3,4,5] (S:=[_]) rfl ?_;refine HB.qu [0,1,3] 5 ?_;refine gP ?_;refine qfo ?_;refine qeo ?_;refine HB.ev 2 ?_;refine H.Am rfl rfl rfl (hcl _) fun p1 c1=>?_;refine qfv ?_;refine HB.ev 4 ?_;refine H.slc0 5 1 ?_;refine H.Am rfl rfl rfl (hrq _ none 0) fun p2 c2=>?_;refine gA ?_;refine qj ?_;refine qeS ?_;refine HB.ev 5 ?_;refine H.Af rfl rfl rfl (hmac_fn f _ (key:=key) (b:=rb) (fun G=>Src.append (Src.slcS jB jG)) (fun G=>Src.append (Src.slcS jB jG)) jA jA) ?_;generalize Sha.hmac key rb=t;refine qeg ?_;refine HB.nx [] (S':=[]) rfl ?_;refine HB.qu [6] 1 ?_;refine qfw ?_;refine HB.ev 7 ?_;refine H.Ag (ls:=r.vals) (vs:=b32 t) (ls':=({r with tag:=t}:Req).vals) rfl rfl rfl (zaa rfl) rfl (splice_rtag r t) (by show 0+8+32≤40;decide) aP0 ?_;refine qjr ?_;refine H.Ad (ls:=({r with tag:=t}:Req).vals) rfl rfl rfl (Rd.ofRow aP0) rfl rfl ?_;refine H.Ag (ls:=Req.zero.vals) (vs:=({r with tag:=t}:Req).vals) (ls':=({r with tag:=t}:Req).vals) rfl rfl rfl (zaa rfl) rfl rfl (Nat.le_refl 40) jB ?_;refine qiY ?_;refine qjj ?_;exact qbI
 ·rw[if_neg ha];rw[decide_eq_false ha]at has;refine Fn.e1 func16 ntmps16 fun base=>?_;refine qeM fun qb=>?_;refine qgN fun ob=>?_;refine gA ?_;refine qiC ?_;refine H.cr (has _) ?_;refine gW ?_;refine qiC ?_;refine qjT ?_;refine gT ?_;refine qjG ?_;exact qbI
end
variable {z:Int}
theorem chk_as{S:Strm}(h1:fitsB n m=true)(h2:m.right=true){k:Nat}{d:Nat→Int}(ho:orgI m=o)(hz:m.number=z)(hd:m.deps=d)(hk:(S o).length=k):chk n S m=if z≤(k:Nat)then 13 else if z=((k+1:Nat):Int)∧0<k∧aboveB (lastD (S o)) d=true then 1 else if((k+1:Nat):Int)<z∨aboveB d (knownS S)=true then 12 else 0:=by
 unfold chk;rw[if_neg kV,if_neg (by rw[h2];decide),ho,hz,hd,hk]
theorem good_signed{q:Option Addr}(h:(⟨m,q,c⟩:MV).Good f):(⟨m.signed,q,c⟩:MV).Good f:=by
 obtain⟨h1,h2,h3⟩:=h;refine⟨?_,?_,?_⟩
 ·show QAt f q m.signed.body.q;rw[m.signed_parts.2.2.2];exact h1
 ·show m.signed.body.q.length≤_;rw[m.signed_parts.2.2.2];exact h2
 ·show m.signed.body.Ok;rw[m.signed_parts.2.2.2];exact h3
variable {P:Program}
theorem H.weakL{base:World}{L:Env}{K:Kont}(h:Le f g)(k:H P base n L f A K):H P base n L g A K:=.mk fun a w hf s=>k.out a w hf (s.weak h)
theorem zbg(t:TabAt f)(h:Le f g):TabAt g:=IntsAt.mono h t
section
variable (f:Frag) (F:List HP)
end
variable {a:Nat}
theorem zal{r:Nat}(h:a % b=r):((a:Nat):Int).tmod ((b:Nat):Int)=(r:Nat):=by rw[←h,Int.ofNat_tmod]
def BodP(f:Frag)(F:List HP)(b:Bod):Value→Frag→List HP→Prop:=fun v f' A'=>
 ∃(g:Frag) (p:Option Addr) (c:Nat),v= .agg (b.vals p c).toArray∧QAt (un f g) p b.q∧Dj f g∧f'=un f g∧A'=F
section
variable (f:Frag) (F:List HP)
end
structure WAt(f:Frag)(n:Nat)(W:W12)(kb:Nat)(ap:Option Addr)(l:List MV):Prop where
 k:KAt f kb n W.kv
 a:ListAt f ap 121 MV.vals l
 g:∀x∈l,x.Good f
 m:l.map MV.m=W.all
def raised(kv:Nat→Nat→Int)(o j i:Nat):Nat→Nat→Int:=updF kv o fun t=>if t<i then maxV (kv o) (kv j) t else kv o t
theorem raised_zero(kv:Nat→Nat→Int)(o j:Nat):raised kv o j 0=kv:=by
 unfold raised;have:(fun t=>if t<0 then maxV (kv o) (kv j) t else kv o t)=kv o:=by funext t;rw[if_neg jA]
 rw[this,updF_self]
theorem raised_o(kv:Nat→Nat→Int)(o j i:Nat):raised kv o j i o i=kv o i:=by
 unfold raised;rw[zae];show(if i<i then _ else _)=_;rw[if_neg jA]
theorem raised_j(kv:Nat→Nat→Int)(o j i:Nat):raised kv o j i j i=kv j i:=by
 by_cases e:j=o
 ·subst e;exact raised_o kv j j i
 ·unfold raised;rw[zag _ _ e]
theorem raised_next(kv:Nat→Nat→Int)(o j i:Nat):updF (raised kv o j i) o (updF (raised kv o j i o) i (maxV (kv o) (kv j) i))=raised kv o j (i+1):=by
 unfold raised;rw[zae,updF_updF];congr 1;funext t;show(if t=i then _ else if t<i then _ else _)=if t<i+1 then _ else _
 by_cases e:t=i
 ·subst e;rw[if_pos rfl,if_pos jA]
 ·rw[if_neg e];by_cases h:t<i
  ·rw[if_pos h,if_pos jA]
  ·rw[if_neg h,if_neg jA]
variable {j:Nat}
theorem raised_end(W:W12):kRow n (raised W.kv o j 11)=kRow n (W.meet o j).kv:=kRow_congr fun r _ i hi=>by
 show raised W.kv o j 11 r i=updF W.kv o (maxV (W.kv o) (W.kv j)) r i
 unfold raised
 by_cases e:r=o
 ·subst e;rw[zae,zae,if_pos hi]
 ·rw[zag _ _ e,zag _ _ e]
section
variable (f:Frag) (F:List HP)
end
theorem ListAt.all{vals:α→List Value}{l:List α}(hv:∀x,(vals x).length=sz)(h1:0<sz)(h:ListAt f p sz vals l)(h0:0<l.length):∃b off,p=some ⟨b,off,none⟩∧∀(g:Frag) A i x,Le f g→l[i]?=some x→Rd g A b (off+i*sz) (vals x):=by
 obtain⟨x0,hx0⟩:∃x0,l[0]?=some x0:=⟨_,lgE h0⟩;obtain⟨b,off,cs,T,fr,rfl,hfb,_⟩:=h 0 x0 hx0;refine⟨b,off,rfl,fun g A i x hle hx=>?_⟩;obtain⟨b',off',cs',T',fr',e,hfb',hcs'⟩:=h i x hx;cases e
 exact Rd.imm (hle _ _ hfb') hcs'
theorem fewz_odd{n8:UInt8}(h:n=3+2*(n8.toNat % 5)):fewZ (n:Int):=by
 refine⟨by omega,by omega,?_⟩;exact zal (a:=n) (b:=2) (r:=1) jA
section
variable (f:Frag) (F:List HP)
end
structure VV where
 w:Vw
 sp:Option Addr
 sc:Nat
 pp:Option Addr
 pc:Nat
def VV.vals(x:VV):List Value:=[.int .u64 x.w.v,.int .u64 x.w.num,.slice x.sp x.w.s.length x.sc,.slice x.pp x.w.p.length x.pc]
theorem VV.len(x:VV):x.vals.length=4:=rfl
theorem Req.len(r:Req):r.vals.length=40:=rfl
def prepV(y:Int×Req):List Value:=.int .u64 y.1::y.2.vals
theorem prepV_len(y:Int×Req):(prepV y).length=41:=rfl
def VV.own(x:VV):HP:=slc x.pp x.w.p.length x.pc 205 41 (x.w.p.flatMap prepV)
theorem Reqs_one(l:List Req):∀v∈l.flatMap Req.vals,one v=true:=by
 intro v hv;obtain⟨r,_,hr⟩:=List.mem_flatMap.1 hv;exact zaa (l:=r.vals) rfl v hr
def chV(c:Int×Int):List Value:=[.int .u64 c.1,.int .u64 c.2]
theorem chV_len(c:Int×Int):(chV c).length=2:=rfl
def lgC(n:Nat)(kn:Nat→Int)(vp:Option Addr)(vl vc:Nat)(pp:Option Addr)(pc:Nat)(cp:Option Addr)(cc:Nat):List Value:=[.int .i64 (n:Int)]++v11 kn++[.slice vp vl vc,.slice pp n pc,.slice cp n cc]
variable {vp pp cp:Option Addr} {vl vc pc cc:Nat}
theorem lgC_kn{kn:Nat→Int}
  (h:At A (row b T (lgC n kn vp vl vc pp pc cp cc)) A' (row b T (lgC n kn vp vl vc pp pc cp cc))):Rd f A b (0+1) (v11 kn):=
 (Rd.ofRow (f:=f) h).sub rfl
def addrV(b:Nat):List Value:=[.pointer (some ⟨b,0,none⟩)]
structure LPt where
 V:List VV
 vp:Option Addr
 vc:Nat
 pp:Option Addr
 pc:Nat
 cp:Option Addr
 cc:Nat
 pb:Nat→Nat
 cs:Nat→Option Addr×Nat
structure lgφ(f:Frag)(l:Lgs)(i:LPt):Prop where
 vs:i.V.map VV.w=l.vs
 s:∀x∈i.V,ListAt f x.sp 40 Req.vals x.w.s
 p:ListAt f i.pp 1 addrV ((List.range l.n).map i.pb)
def chRow(l:Lgs)(cs:Nat→Option Addr×Nat):List Value:=rngV l.n fun r=>.slice (cs r).1 (l.ch r).length (cs r).2
def chFam(l:Lgs)(cs:Nat→Option Addr×Nat)(r:Nat):HP:=slc (cs r).1 (l.ch r).length (cs r).2 197 2 ((l.ch r).flatMap chV)
def lgB(lb:Nat)(l:Lgs)(i:LPt):List HP:=[row lb 152 (lgC l.n l.known i.vp i.V.length i.vc i.pp i.pc i.cp i.cc),slc i.vp i.V.length i.vc 147 4 (i.V.flatMap VV.vals),lst (i.V.map VV.own),
 fam (fun r=>pstH (i.pb r) (l.past r)) l.n,slc i.cp l.n i.cc 195 1 (chRow l i.cs),fam (chFam l i.cs) l.n]
def logsH(f:Frag)(lb:Nat)(l:Lgs):HP:=pack (lgφ f l) (lgB lb l)
theorem lgφ.mono{f g:Frag}(h:Le f g){l:Lgs}{i:LPt}(hl:lgφ f l i):lgφ g l i:=⟨hl.vs,fun x hx=>(hl.s x hx).mono h,hl.p.mono h⟩
theorem logsH_mono(h:Le f g){l:Lgs}:∀x,logsH f lb l x→logsH g lb l x:=fun _ ⟨i,hi,hx⟩=>⟨i,hi.mono h,hx⟩
theorem zai{l:Lgs}(i:LPt)(h:lgφ f l i):∀x,stars (lgB lb l i++F) x→stars (logsH f lb l::F) x:=fun x hx=>
 pack_fold (φ:=lgφ f l) (B:=lgB lb l) i h x hx
theorem lgφ.len{l:Lgs}{i:LPt}(h:lgφ f l i):i.V.length=l.vs.length:=by rw[←h.vs,List.length_map]
theorem lgφ.at{l:Lgs}{i:LPt}(h:lgφ f l i){x:VV}(hx:i.V[j]?=some x):l.vs[j]?=some x.w:=by rw[←h.vs,List.getElem?_map,hx];rfl
theorem lgφ.of{l:Lgs}{i:LPt}(h:lgφ f l i){w:Vw}(hw:l.vs[j]?=some w):∃x,i.V[j]?=some x∧x.w=w:=by
 rw[←h.vs,List.getElem?_map]at hw
 cases e:i.V[j]? with
 |none=>rw[e]at hw;cases hw
 |some x=>rw[e]at hw;cases hw;exact⟨x,rfl,rfl⟩
theorem lgφ.past{l:Lgs}{i:LPt}(h:lgφ f l i)(hn:0<l.n):∃b off,i.pp=some ⟨b,off,none⟩∧∀ {e:Frag} {A:List HP} {r:Nat},Le f e→r<l.n→Rd1 e A b (off+r) (.pointer (some ⟨i.pb r,0,none⟩)):=by
 exact qaT
section
variable (f:Frag) (F:List HP)
theorem prim_fn(hn:1≤n∧n≤11){v:Int}(hv:0≤v):Fn prog 102 [.int .i64 (n:Int),.int .u64 v] f F (Ret (.int .i64 (primZ n v)) f F):=by
 have h1:v % (n:Int)<n:=Int.emod_lt_of_pos v jA;have h2:0≤v % (n:Int):=Int.emod_nonneg v jA
 have e:v.tmod (n:Int)=((primI n v:Nat):Int):=qdW
 have hl:primI n v<11:=by unfold primI;omega
 refine Fn.e2 func102 ntmps102 fun base=>?_;refine gW ?_;exact qcS
theorem lgview_fn{kn:Nat→Int}{V:List VV}(hl:V.length≤100000)(v:Int):Fn prog 103 [.pointer (some ⟨lb,0,none⟩),.int .u64 v] f (row lb 152 (lgC n kn vp V.length vc pp pc cp cc)::slc vp V.length vc 147 4 (V.flatMap VV.vals)::F)
   (Ret (.int .i64 (vwZ (V.map VV.w) v)) f (row lb 152 (lgC n kn vp V.length vc pp pc cp cc)::slc vp V.length vc 147 4 (V.flatMap VV.vals)::F)):=by
 refine Fn.e2 func103 ntmps103 fun base=>?_;refine gT ?_
 refine H.lo (ι:=Nat) (fun i=>[(5,.int .i64 (i:Int)),(0,.pointer (some ⟨lb,0,none⟩)),(1,.int .u64 v)]) (fun _=>f)
  (fun _=>row lb 152 (lgC n kn vp V.length vc pp pc cp cc)::slc vp V.length vc 147 4 (V.flatMap VV.vals)::F)
  (fun i=>i≤V.length∧∀j x,j<i→V[j]?=some x→x.w.v≠v) (fun i=>V.length-i) 0 ⟨Nat.zero_le _,fun j x hj=>by omega⟩ fun i hi=>?_
 obtain⟨hi,hb⟩:i≤V.length∧∀j x,j<i→V[j]?=some x→x.w.v≠v:=hi;by_cases hlt:i<V.length
 ·obtain⟨x,hx⟩:∃x,V[i]?=some x:=⟨_,lgE hlt⟩;refine H.Au (p:=vp) (n0:=V.length) (c:=vc) at1 jA fun sb hp=>?_;subst hp;refine gM ?_;refine qhx ?_;refine H.Ab rfl rfl rfl (Rd1.of (i:=0) (by rw[Nat.zero_add];exact Rd.slcElem VV.len jC at1 hx) rfl) rfl ?_;refine gG ?_;by_cases hv:x.w.v=v
  ·skip;refine gG ?_;refine H.Ae rfl rfl iD ⟨?_,rfl,rfl⟩
   have e:vwAt (V.map VV.w) v=some i:=zaq.2 ⟨⟨x.w,by rw[List.getElem?_map,hx];rfl,hv⟩,fun j w hj hw=>by
    rw[List.getElem?_map]at hw
    cases hj2:V[j]? with
    |none=>rw[hj2]at hw;cases hw
    |some y=>rw[hj2]at hw;cases hw;exact hb j y hj hj2⟩
   unfold vwZ;rw[e]
  ·skip;refine gc ?_;refine H.ag (i+1) ⟨by show i+1≤V.length;omega,fun j y hj hy=>?_⟩ (by show V.length-(i+1)<V.length-i;omega);by_cases e:j=i
   ·subst e;rw[hx]at hy;cases hy;exact hv
   ·exact hb j y jA hy
 ·skip;refine gM ?_;refine H.Ae rfl rfl iD ⟨?_,rfl,rfl⟩
  have e:vwAt (V.map VV.w) v=none:=vwAt_none.2 fun w hw=>by
   obtain⟨x,hx,rfl⟩:=List.mem_map.1 hw;obtain⟨j,hj⟩:=List.getElem?_of_mem hx;have hjl:=(List.getElem?_eq_some_iff.1 hj).1;exact hb j x jA hj
  unfold vwZ;rw[e]
theorem holds_fn{R:List Req}(cl t:Int)(hl:R.length≤100000):Fn prog 108 [.slice p R.length c,.int .i64 cl,.int .u64 t] f (slc p R.length c 49 40 (R.flatMap Req.vals)::F)
  (Ret (.bool (holdsB R cl t)) f (slc p R.length c 49 40 (R.flatMap Req.vals)::F)):=by
 refine Fn.e3 func108 ntmps108 fun base=>?_;refine gT ?_
 refine H.lo (ι:=Nat) (fun i=>[(7,.int .i64 (i:Int)),(0,.slice p R.length c),(1,.int .i64 cl),(2,.int .u64 t)]) (fun _=>f)
  (fun _=>slc p R.length c 49 40 (R.flatMap Req.vals)::F)
  (fun i=>i≤R.length∧∀j x,j<i→R[j]?=some x→¬(x.client=cl∧x.time=t)) (fun i=>R.length-i) 0 ⟨Nat.zero_le _,fun j x hj=>by omega⟩ fun i hi=>?_
 obtain⟨hi,hb⟩:i≤R.length∧∀j x,j<i→R[j]?=some x→¬(x.client=cl∧x.time=t):=hi;by_cases hlt:i<R.length
 ·obtain⟨x,hx⟩:∃x,R[i]?=some x:=⟨_,lgE hlt⟩;refine H.Au (p:=p) (n0:=R.length) (c:=c) aP0 jA fun sb hp=>?_;subst hp;have rd:Rd f (slc (some ⟨sb,0,none⟩) R.length c 49 40 (R.flatMap Req.vals)::F) sb (0+i*40) x.vals:=by rw[Nat.zero_add];exact Rd.slcElem Req.len jC aP0 hx
  by_cases h1:x.client=cl
  ·by_cases h2:x.time=t
   ·skip;refine qgb ?_;refine H.Ae rfl rfl iD ⟨?_,rfl,rfl⟩;have e:holdsB R cl t=true:=List.any_eq_true.2 ⟨x,List.mem_of_getElem? hx,by rw[decide_eq_true h1,decide_eq_true h2];rfl⟩;rw[e]
   ·skip;refine qgb ?_;refine H.ag (i+1) ⟨by show i+1≤R.length;omega,fun j y hj hy=>?_⟩ kS;exact qcB
  ·skip;refine gG ?_;refine qhx ?_;refine H.Ab rfl rfl rfl (Rd1.of (i:=0) rd rfl) rfl ?_;refine gX ?_;refine H.ag (i+1) ⟨by show i+1≤R.length;omega,fun j y hj hy=>?_⟩ kS;exact qcG
 ·skip;refine gc ?_;refine H.Ae rfl rfl iD ⟨?_,rfl,rfl⟩
  have e:holdsB R cl t=false:=List.any_eq_false.2 fun x hx h=>by
   obtain⟨j,hj⟩:=List.getElem?_of_mem hx;have hjl:=(List.getElem?_eq_some_iff.1 hj).1;simp only[Bool.and_eq_true,decide_eq_true_eq]at h
   exact hb j x jA hj h
  rw[e]
theorem all_fn{fs:Frag}(hfs:Le fs f){x:VV}(hs:ListAt fs x.sp 40 Req.vals x.w.s)(hl:x.w.s.length+x.w.p.length≤100000):Fn prog 109 [.agg x.vals.toArray] f (x.own::F) (RetE (fun i:Option Addr×Nat=>.slice i.1 x.w.all.length i.2) f (fun i=>slc i.1 x.w.all.length i.2 49 40 (x.w.all.flatMap Req.vals)::x.own::F)):=by
 refine Fn.e1 func109 ntmps109 fun base=>?_;refine qem fun wb=>?_;refine gI ?_;refine H.Aq (out:=[]) rfl rfl rfl rfl jC jC rfl rfl fun eb=>?_;refine H.asSlc (k:=0) (sz:=40) rfl jC ?_;refine qg ?_;refine gH ?_;refine H.Av (xs:=[]) (m:=x.w.s.length) (news:=x.w.s.flatMap Req.vals) rfl rfl rfl rfl rfl (fun p' c'=>jB) ((hs.mono hfs).src Req.len jC) (Reqs_one _) rfl jA jA fun ap ac=>?_;rw[Nat.zero_add,List.nil_append];refine gT ?_;have hll:=x.w.all_len
 have hall:∀k,k≤x.w.p.length→(x.w.s++(x.w.p.take k).map Prod.snd).length=x.w.s.length+k:=fun k hk=>by
  rw[lnA,List.length_map,List.length_take];omega
 refine H.pf (x:=VV.own x) ?_;refine H.pf (x:=slc ap _ ac _ _ _) ?_;refine qg ?_
 refine H.loop (ι:=Nat×Option Addr×Nat) (fun s=>[(4,.int .i64 (s.1:Int)),(3,.slice s.2.1 (x.w.s.length+s.1) s.2.2),(1,.pointer (some ⟨wb,0,none⟩))]) (fun _=>f)
  (fun s=>row wb 147 x.vals::slc s.2.1 (x.w.s.length+s.1) s.2.2 49 40 ((x.w.s++(x.w.p.take s.1).map Prod.snd).flatMap Req.vals)::x.own::F)
  (fun s=>s.1≤x.w.p.length) (fun s=>x.w.p.length-s.1) (0,ap,ac) (Nat.zero_le _) ⟨rfl,rfl,rfl,trivial⟩ rfl jK fun s hs=>?_
 obtain⟨i,qp,qc⟩:=s;have hi:i≤x.w.p.length:=hs;show H _ _ _ [(4,.int .i64 (i:Int)),(3,.slice qp (x.w.s.length+i) qc),_] f (_::slc qp (x.w.s.length+i) qc _ 40 ((x.w.s++(x.w.p.take i).map Prod.snd).flatMap Req.vals)::x.own::F) _
 by_cases hlt:i<x.w.p.length
 ·obtain⟨y,hy⟩:∃y,x.w.p[i]?=some y:=⟨_,lgE hlt⟩
  have e1:(x.w.s++(x.w.p.take (i+1)).map Prod.snd).flatMap Req.vals=(x.w.s++(x.w.p.take i).map Prod.snd).flatMap Req.vals++y.2.vals:=by
   rw[List.take_add_one,hy,List.map_append,←List.append_assoc,List.flatMap_append];simp
  refine H.Au (p:=x.pp) (n0:=x.w.p.length) (c:=x.pc) (T:=205) (sz:=41) (xs:=x.w.p.flatMap prepV) at2 jA fun sb hp=>?_;refine gM ?_;rw[hp];refine qhx ?_;refine H.Ad (ls:=y.2.vals) rfl rfl rfl (Rd.sub (pre:=[.int .u64 y.1]) (l:=y.2.vals) (post:=[]) (by rw[List.append_nil,Nat.zero_add];exact Rd.slcElem (vals:=prepV) (xs:=x.w.p) prepV_len jC (by rw[←hp];exact .there _ (.there _ (.here _ _ _))) hy) rfl) rfl rfl ?_;refine H.Aq (out:=y.2.vals) rfl rfl rfl rfl jC jC rfl rfl fun eb2=>?_;refine H.Av (p:=qp) (n0:=x.w.s.length+i) (c:=qc) (m:=1) (news:=y.2.vals) rfl rfl rfl rfl rfl (fun p' c'=>jB) (Src.slice (Rd.ofRow jB) rfl) (zaa rfl) rfl jA jA fun p2 c2=>?_;refine gW ?_;refine H.pd (x:=row eb2 _ _) ?_;refine H.pf (x:=VV.own x) ?_;refine H.pf (x:=slc p2 _ c2 _ _ _) ?_;refine qg ?_;refine H.Ar (i+1,p2,c2) (by show i+1≤x.w.p.length;omega) (by show x.w.p.length-(i+1)<x.w.p.length-i;omega) ⟨rfl,rfl,rfl,trivial⟩ rfl ?_;show _::slc p2 (x.w.s.length+i+1) c2 _ 40 _::_=_::slc p2 (x.w.s.length+(i+1)) c2 _ 40 _::_;rw[e1,Nat.add_assoc]
 ·have e:i=x.w.p.length:=jA
  subst e;refine gM ?_;refine H.pd (x:=row wb _ _) ?_;have e1:x.w.s++(x.w.p.take x.w.p.length).map Prod.snd=x.w.all:=by rw[List.take_length];rfl
  rw[e1,←hll];exact H.r1 ⟨(qp,qc),rfl,rfl,rfl⟩
end
open Go.Sort (swp ltInt insInner insOuter insertionSort)
def uV(z:Int):List Value:=[.int .u64 z]
theorem uV_len(z:Int):(uV z).length=1:=rfl
def arr(d:Array Int):List Value:=d.toList.flatMap uV
theorem zbl(d:Array Int)(i j:Nat):(swp d i j).size=d.size:=by unfold swp;simp
variable {d:Array Int}
theorem arr_get{i:Nat}(h:i<d.size):d.toList[i]?=some d[i]!:=by
 rw[Array.getElem?_toList,getElem!_pos d i h];simp[h]
theorem arr_map(d:Array Int):arr d=d.toList.map fun z=>.int .u64 z:=by
 unfold arr
 induction d.toList with
 |nil=>rfl
 |cons x r ih=>rw[List.flatMap_cons,ih];rfl
theorem zar{i:Nat}(h:i<d.size)(z:Int):SetV (arr d) (i*1) (.int .u64 z) (arr (d.setIfInBounds i z)):=by
 have e:arr (d.setIfInBounds i z)=(arr d).set i (.int .u64 z):=by rw[arr_map,arr_map,Array.toList_setIfInBounds,List.map_set]
 rw[e,Nat.mul_one];exact SetV.mk _ (by rw[arr_map,List.length_map];simpa using h)
theorem Rd.arr(h:At A (slc (some ⟨b,0,none⟩) n c 35 1 (arr d)) A' (slc (some ⟨b,0,none⟩) n c 35 1 (arr d))){i:Nat}(hi:i<d.size):Rd1 f A b (i*1) (.int .u64 d[i]!):=
 Rd1.of (i:=0) (Rd.slcElem (vals:=uV) (xs:=d.toList) uV_len jC h (arr_get hi)) rfl
variable {d0:Array Int}
section
variable (f:Frag) (F:List HP)
theorem nan_fn(x:Int):Fn prog 222 [.int .u64 x] f F (Ret (.bool false) f F):=by
 exact qdO
theorem zcj(x y:Int):Fn prog 197 [.int .u64 x,.int .u64 y] f F (Ret (.bool (ltInt x y)) f F):=by
 refine Fn.e2 func197 ntmps197 fun base=>?_;refine gI ?_;refine H.Af rfl rfl rfl (nan_fn f _ x) ?_;refine gg ?_;exact qaj
theorem insSort_fn(hd0:d0.size=n)(hn:n≤1000000)(hb:b≤n)(ha:a≤n):Fn prog 191 [.slice p n c,.int .i64 (a:Int),.int .i64 (b:Int)] f (slc p n c 35 1 (arr d0)::F) (Ret (.tuple #[]) f (slc p n c 35 1 (arr (insertionSort ltInt d0 a b))::F)):=by
 refine Fn.e3 func191 ntmps191 fun base=>?_;refine gW ?_
 refine H.lo (ι:=Nat×Array Int) (fun s=>[(6,.int .i64 (s.1:Int)),(0,.slice p n c),(1,.int .i64 (a:Int)),(2,.int .i64 (b:Int))]) (fun _=>f) (fun s=>slc p n c 35 1 (arr s.2)::F)
  (fun s=>s.1≤n+1∧s.2.size=n∧insOuter ltInt a b s.1 s.2=insertionSort ltInt d0 a b) (fun s=>b-s.1) (a+1,d0) ⟨by show a+1≤n+1;omega,hd0,rfl⟩ fun s hs=>?_
 obtain⟨i,d1⟩:=s;obtain⟨hi,hd1,hR⟩:i≤n+1∧d1.size=n∧insOuter ltInt a b i d1=insertionSort ltInt d0 a b:=hs;show H _ _ _ [(6,.int .i64 (i:Int)),_,_,_] f (slc p n c _ 1 (arr d1)::F) _;rw[insOuter]at hR;by_cases hlt:i<b
 ·rw[if_pos hlt]at hR;refine gG ?_
  refine H.lo (ι:=Nat×Array Int) (fun s=>[(7,.int .i64 (s.1:Int)),(6,.int .i64 (i:Int)),(0,.slice p n c),(1,.int .i64 (a:Int)),(2,.int .i64 (b:Int))]) (fun _=>f) (fun s=>slc p n c 35 1 (arr s.2)::F)
   (fun s=>s.1≤i∧s.2.size=n∧insInner ltInt a s.1 s.2=insInner ltInt a i d1) (fun s=>s.1) (i,d1) ⟨Nat.le_refl i,hd1,rfl⟩ fun s hs=>?_
  obtain⟨k,d⟩:=s;obtain⟨hk,hd,hr⟩:k≤i∧d.size=n∧insInner ltInt a k d=insInner ltInt a i d1:=hs;show H _ _ _ [(7,.int .i64 (k:Int)),_,_,_,_] f (slc p n c _ 1 (arr d)::F) _;refine qfB fun sb hp=>?_;subst hp;by_cases hka:a<k
  ·obtain⟨j,rfl⟩:∃j,k=j+1:=⟨k-1,by omega⟩;rw[insInner]at hr;have hja:decide (j+1>a)=true:=decide_eq_true hka;rw[hja,Bool.true_and]at hr
   refine qgY ?_;refine HB.qu [0,1,2,3,4,5,6,7,8,9,10,11,12] 2 ?_;refine gJ ?_;refine HQ.Ah (i:=j+1) rfl rfl rfl rfl jA rfl ?_;refine qej ?_;refine gK ?_;refine qfS ?_;refine qej ?_;refine qhA ?_;refine H.Af rfl rfl rfl (zcj f _ d[j+1]! d[j]!) ?_;refine qeg ?_;refine HB.qu [14] 0 ?_;refine qfh ?_
   cases hlj:ltInt d[j+1]! d[j]! with
   | false =>
    rw[hlj,if_neg jC]at hr;rw[←hr]at hR;refine gW ?_;exact qbk
   | true =>
    rw[hlj,if_pos rfl]at hr;refine gL ?_;refine H.drawN jE jL jF ?_;refine qjc ?_;refine qfV ?_;refine qfS ?_;refine qhD ?_;refine qie ?_;refine qiK ?_;refine HB.qu [14] 3 ?_;refine qie ?_;refine qix ?_;refine qeL ?_;refine HB.qu [16] 1 ?_;refine qfS ?_;refine qjd ?_;refine qeq ?_;show H _ _ _ _ f (slc (some ⟨sb,0,none⟩) n c _ 1 (arr (swp d (j+1) (j)))::_) _;exact qcl
  ·have hr2:insInner ltInt a k d=d:=by
    cases k with
    |zero=>rfl
    |succ j=>rw[insInner,if_neg jb]
   rw[hr2]at hr;rw[←hr]at hR;refine qgY ?_;refine HB.qu [0,1,2,3,4,5,6,7,8,9,10,11,12] 2 ?_;refine gJ ?_;refine qhA ?_;refine qgH ?_;refine HB.qu [14] 0 ?_;exact qdi
 ·exact qdN
end
open Go.Sort (swp ltInt insInner insOuter insertionSort siftDown heapBuild heapPop heapSort reverseLoop reverseRange scanUp scanDown partLoop partEqLoop scanSorted shiftDown shiftUp partialIns partialInsertionSort)
variable {hi:Nat}
section
variable (f:Frag) (F:List HP)
theorem siftDown_step{first root:Nat}(h:2*root+1<hi):∃ch,(ch=2*root+1∨ch=2*root+2)∧ch<hi∧((2*root+2<hi∧ltInt d[first+(2*root+1)]! d[first+(2*root+1)+1]! =true)↔ch=2*root+2)∧
  siftDown ltInt hi first root d=if ltInt d[first+root]! d[first+ch]! =true then siftDown ltInt hi first ch (swp d (first+root) (first+ch))else d:=by
 rw[siftDown,dif_neg jA];by_cases h2:2*root+2<hi∧ltInt d[first+(2*root+1)]! d[first+(2*root+1)+1]! =true
 ·rw[if_pos (by rw[Bool.and_eq_true];exact⟨decide_eq_true h2.1,h2.2⟩)];refine⟨2*root+2,.inr rfl,h2.1,⟨fun _=>rfl,fun _=>h2⟩,?_⟩
  cases ltInt d[first+root]! d[first+(2*root+2)]! with
  |false=>rfl
  |true=>rw[dif_pos h2.1];rfl
 ·rw[if_neg (fun e=>h2 (by rw[Bool.and_eq_true]at e;exact⟨of_decide_eq_true e.1,e.2⟩))];refine⟨2*root+1,.inl rfl,h,⟨fun e=>absurd e h2,fun e=>by omega⟩,?_⟩
  cases ltInt d[first+root]! d[first+(2*root+1)]! with
  |false=>rfl
  |true=>rfl
theorem siftDown_fn{lo first:Nat}(hd0:d0.size=n)(hn:n≤1000000)(hb:first+hi≤n)(hlo:lo≤n):Fn prog 219 [.slice p n c,.int .i64 (lo:Int),.int .i64 (hi:Int),.int .i64 (first:Int)] f (slc p n c 35 1 (arr d0)::F) (Ret (.tuple #[]) f (slc p n c 35 1 (arr (siftDown ltInt hi first lo d0))::F)):=by
 refine Fn.e4 func219 ntmps219 fun base=>?_;refine gT ?_
 refine H.lo (ι:=Nat×Array Int) (fun s=>[(8,.int .i64 (s.1:Int)),(0,.slice p n c),(2,.int .i64 (hi:Int)),(3,.int .i64 (first:Int))]) (fun _=>f) (fun s=>slc p n c 35 1 (arr s.2)::F)
  (fun s=>s.1≤n∧s.2.size=n∧siftDown ltInt hi first s.1 s.2=siftDown ltInt hi first lo d0) (fun s=>hi-s.1) (lo,d0) ⟨hlo,hd0,rfl⟩ fun s hs=>?_
 obtain⟨root,d⟩:=s;obtain⟨hi0,hd,hR⟩:root≤n∧d.size=n∧siftDown ltInt hi first root d=siftDown ltInt hi first lo d0:=hs;show H _ _ _ [(8,.int .i64 (root:Int)),_,_,_] f (slc p n c _ 1 (arr d)::F) _;by_cases hge:hi≤2*root+1
 ·rw[siftDown,dif_pos hge]at hR;rw[←hR];refine gN ?_;exact qaR
 ·obtain⟨ch,hch,hchi,hiff,he⟩:=siftDown_step (first:=first) (d:=d) (hi:=hi) (root:=root) jA;rw[he]at hR;clear he;refine qfB fun sb hp=>?_;subst hp;repeat(first|((first|apply H.Aw|apply H.Be);(iterate 3 exact rfl))|(first|apply H.seq|apply H.Bg|apply H.nil|apply H.Bj)|((apply H.cmp);(iterate 5 exact rfl))|((apply H.ar;(iterate 4 exact rfl));(with_reducible apply wr_i64;omega);exact rfl)|(first|apply H.skip|apply H.Bl)|(apply H.Cj;exact rfl;(omega)))
  refine H.Bh (d:=9) (u:=.int .i64 ((2*root+1:Nat):Int)) rfl (by first|rfl|(congr 1)) ?_;refine H.cut (ι:=Bool) (fun b=>[(36,.bool b),(9,.int .i64 ((2*root+1:Nat):Int)),(8,.int .i64 (root:Int)),(0,.slice (some ⟨sb,0,none⟩) n c),(2,.int .i64 (hi:Int)),(3,.int .i64 (first:Int))]) (fun _=>f) (fun _=>slc (some ⟨sb,0,none⟩) n c 35 1 (arr d)::F) (fun b=>b=true↔ch=2*root+2) _ (fun b hb2=>?_) ?_;rotate_left
  ·by_cases h2:2*root+2<hi
   ·skip;refine qkU ?_;refine HQ.Ah (i:=first+(2*root+1)) rfl rfl rfl jA jA rfl ?_;refine qej ?_;refine gK ?_;refine HQ.Ah (i:=first+(2*root+1)+1) rfl rfl rfl jA jA rfl ?_;refine qej ?_;refine qkD ?_;refine H.Af rfl rfl rfl (zcj f _ d[first+(2*root+1)]! d[first+(2*root+1)+1]!) ?_;refine qeg ?_;refine HB.qu [19] 0 ?_;refine qfh ?_;skip;exact H.Bc (ltInt d[first+(2*root+1)]! d[first+(2*root+1)+1]!) ⟨fun e=>hiff.1 ⟨h2,e⟩,fun e=>(hiff.2 e).2⟩ ⟨rfl,rfl,rfl,rfl,rfl,rfl,trivial⟩ rfl rfl
   ·skip;refine qkU ?_;refine qkD ?_;refine qgH ?_;refine HB.qu [19] 0 ?_;refine qfh ?_;skip;exact H.Bc false ⟨fun e=>(by cases e),fun e=>absurd (hiff.2 e).1 h2⟩ ⟨rfl,rfl,rfl,rfl,rfl,rfl,trivial⟩ rfl rfl
  show H _ _ _ [(36,.bool b),(9,.int .i64 ((2*root+1:Nat):Int)),(8,.int .i64 (root:Int)),(0,.slice (some ⟨sb,0,none⟩) n c),(2,.int .i64 (hi:Int)),(3,.int .i64 (first:Int))] f (slc (some ⟨sb,0,none⟩) n c _ 1 (arr d)::F) _;refine H.cut (ι:=Unit) (fun _=>[(9,.int .i64 (ch:Int)),(8,.int .i64 (root:Int)),(0,.slice (some ⟨sb,0,none⟩) n c),(2,.int .i64 (hi:Int)),(3,.int .i64 (first:Int))]) (fun _=>f) (fun _=>slc (some ⟨sb,0,none⟩) n c 35 1 (arr d)::F) (fun _=>True) _ (fun _ _=>?_) ?_;rotate_left
  ·cases b with
   | true =>
    have hce:=hb2.1 rfl;refine gL ?_
    exact qdu
   | false =>
    have hce:ch=2*root+1:=by
     rcases hch with e|e
     ·exact e
     ·exact absurd (hb2.2 e) jC
    refine gW ?_;exact qdu
  show H _ _ _ [(9,.int .i64 (ch:Int)),(8,.int .i64 (root:Int)),(0,.slice (some ⟨sb,0,none⟩) n c),(2,.int .i64 (hi:Int)),(3,.int .i64 (first:Int))] f (slc (some ⟨sb,0,none⟩) n c _ 1 (arr d)::F) _;refine qgY ?_;refine qjt ?_;refine gK ?_;refine qjE ?_;refine qej ?_;refine gK ?_;refine qjO ?_;refine qej ?_;refine qhf ?_;refine H.Af rfl rfl rfl (zcj f _ d[first+root]! d[first+ch]!) ?_;refine qeg ?_;refine HB.qu [13] 0 ?_;refine qfh ?_
  cases hl2:ltInt d[first+root]! d[first+ch]! with
  | false =>
   rw[hl2,if_neg jC]at hR;rw[←hR];refine gL ?_;exact H.ret0 rfl iD ⟨rfl,rfl,rfl⟩
  | true =>
   rw[hl2,if_pos rfl]at hR;refine gW ?_;refine H.drawN jE jL jF ?_;refine qiU ?_;refine HN.move (i:=5) jE rfl rfl rfl rfl ?_;refine HN.move (i:=6) jE rfl rfl rfl rfl ?_;refine HN.ar (i:=7) (z:=((first+ch:Nat):Int)) jE rfl rfl rfl rfl rfl jY rfl ?_;refine HN.phase [0,1,2,3,8,9,10,11,12,13,14,15,16,17,18,19] (S:=[slc (some ⟨sb,0,none⟩) n c 35 1 (arr d)]) rfl ?_;refine HB.qu [0,1,2,3,8,9,10,11,12,13,14,15,16,17,18,19] 4 ?_;refine gK ?_;refine qjO ?_;refine qej ?_;refine gK ?_;refine qjE ?_;refine qiK ?_;refine HB.qu [20] 3 ?_;refine qjE ?_;refine qeo ?_;refine HB.ev 21 ?_;refine qeL ?_;refine HB.qu [22] 1 ?_;refine qjO ?_;refine qeo ?_;refine HB.ev 23 ?_;refine qeq ?_;show H _ _ _ _ f (slc (some ⟨sb,0,none⟩) n c _ 1 (arr (swp d (first+root) (first+ch)))::_) _;refine gT ?_;exact H.ag (ch,swp d (first+root) (first+ch)) ⟨by show ch≤n;omega,by rw[zbl];exact hd,hR⟩ (by show hi-ch<hi-root;omega)
end
open Go.Sort (swp ltInt insInner insOuter insertionSort siftDown heapBuild heapPop heapSort reverseLoop reverseRange scanUp scanDown partLoop partEqLoop scanSorted shiftDown shiftUp partialIns partialInsertionSort)
theorem quo2{h:Nat}(hh:h≤1000000):IntKind.wrap .i64 (((h:Int)-1).tdiv 2)=(((h-1) / 2+1:Nat):Int)-1:=by
 rcases Nat.eq_zero_or_pos h with e|e
 ·subst e;rfl
 ·rw[show(h:Int)-1=((h-1:Nat):Int) by omega,show(2:Int)=((2:Nat):Int)from rfl,tdiv64,wr_i64 jA];omega
theorem siftDown_size(hi first:Nat):∀(root:Nat) (d:Array Int),(siftDown ltInt hi first root d).size=d.size:=by
 have:∀(m root:Nat) (d:Array Int),hi-root≤m→(siftDown ltInt hi first root d).size=d.size:=by
  intro m
  induction m with
  |zero=>intro root d h;rw[siftDown,dif_pos jA]
  | succ m ih =>
   intro root d h;by_cases hge:hi≤2*root+1
   ·rw[siftDown,dif_pos hge]
   ·obtain⟨ch,hch,hchi,_,he⟩:=siftDown_step (first:=first) (d:=d) (hi:=hi) (root:=root) jA;rw[he];split
    ·rw[ih _ _ jA,zbl]
    ·rfl
 exact fun root d=>this _ root d (Nat.le_refl _)
theorem heapBuild_size(hi first:Nat):∀(k:Nat) (d:Array Int),(heapBuild ltInt hi first k d).size=d.size
 |0,d=>rfl
 |k+1,d=>by rw[heapBuild,heapBuild_size hi first k,siftDown_size]
section
variable (f:Frag) (F:List HP)
theorem heapSort_fn(hd0:d0.size=n)(hn:n≤1000000)(hab:a<b)(hb:b≤n):Fn prog 192 [.slice p n c,.int .i64 (a:Int),.int .i64 (b:Int)] f (slc p n c 35 1 (arr d0)::F) (Ret (.tuple #[]) f (slc p n c 35 1 (arr (heapSort ltInt d0 a b))::F)):=by
 obtain⟨h,hh⟩:∃h,h=b-a:=⟨_,rfl⟩;have hz:(b:Int)-(a:Int)=(h:Int):=jA
 have hR0:heapSort ltInt d0 a b=heapPop ltInt a h (heapBuild ltInt h a ((h-1) / 2+1) d0):=by unfold heapSort;rw[←hh]
 have hq:=quo2 (h:=h) jA;rw[hR0]
 have hsz:∀(k:Nat) (d:Array Int),(siftDown ltInt h a k d).size=d.size:=fun k d=>siftDown_size h a k d;refine Fn.e3 func192 ntmps192 fun base=>?_
 repeat(first|(refine H.ar (op:=.sub) (p:=(b:Int)) (p2:=(a:Int)) (z:=(h:Int)) rfl rfl rfl rfl jp rfl ?_)|(refine H.quo (p:=(h:Int)-1) (z:=(((h-1) / 2+1:Nat):Int)-1) rfl rfl rfl jC hq rfl ?_)|((first|apply H.Aw|apply H.Be);(iterate 3 exact rfl))|(first|apply H.seq|apply H.Bg|apply H.nil|apply H.Bj)|((apply H.ar;(iterate 4 exact rfl));(with_reducible apply wr_i64;omega);exact rfl)|(apply H.Bl))
 refine H.cutB (ι:=Unit) (fun _=>[(6,.int .i64 (a:Int)),(7,.int .i64 0),(8,.int .i64 (h:Int)),(0,.slice p n c)]) (fun _=>f) (fun _=>slc p n c 35 1 (arr (heapBuild ltInt h a ((h-1) / 2+1) d0))::F) (fun _=>True) _ (fun _ _=>?_) ?_;rotate_left
 ·refine H.lo (ι:=Nat×Array Int) (fun s=>[(9,.int .i64 ((s.1:Int)-1)),(6,.int .i64 (a:Int)),(7,.int .i64 0),(8,.int .i64 (h:Int)),(0,.slice p n c)]) (fun _=>f) (fun s=>slc p n c 35 1 (arr s.2)::F)
   (fun s=>s.1≤n∧s.2.size=n∧heapBuild ltInt h a s.1 s.2=heapBuild ltInt h a ((h-1) / 2+1) d0) (fun s=>s.1) ((h-1) / 2+1,d0) ⟨by show(h-1) / 2+1≤n;omega,hd0,rfl⟩ fun s hs=>?_
  obtain⟨k,d⟩:=s;obtain⟨hk,hd,hr⟩:k≤n∧d.size=n∧heapBuild ltInt h a k d=heapBuild ltInt h a ((h-1) / 2+1) d0:=hs;show H _ _ _ [(9,.int .i64 ((k:Int)-1)),_,_,_,_] f (slc p n c _ 1 (arr d)::F) _
  cases k with
  | zero =>
   rw[←hr];refine gY ?_;exact H.Bc () trivial ⟨rfl,rfl,rfl,rfl,trivial⟩ rfl rfl
  | succ j =>
   refine H.Bh (d:=9) (u:=.int .i64 (j:Int)) rfl jP ?_;refine gY ?_;refine H.Ap rfl rfl rfl (siftDown_fn f F (p:=p) (c:=c) (lo:=j) (hi:=h) (first:=a) hd hn jA jA) fun v f' A' hR=>?_;obtain⟨rfl,hff,rfl⟩:=hR;rw[hff];refine gW ?_;exact H.ag (j,siftDown ltInt h a j d) ⟨by show j≤n;omega,by show(siftDown ltInt h a j d).size=n;rw[hsz];exact hd,hr⟩ kO
 have hd1:(heapBuild ltInt h a ((h-1) / 2+1) d0).size=n:=by rw[heapBuild_size];exact hd0
 generalize heapBuild ltInt h a ((h-1) / 2+1) d0=d1 at *;show H _ _ _ [(6,.int .i64 (a:Int)),(7,.int .i64 0),(8,.int .i64 (h:Int)),(0,.slice p n c)] f (slc p n c _ 1 (arr d1)::F) _;refine gW ?_
 refine H.lo (ι:=Nat×Array Int) (fun s=>[(10,.int .i64 ((s.1:Int)-1)),(6,.int .i64 (a:Int)),(7,.int .i64 0),(8,.int .i64 (h:Int)),(0,.slice p n c)]) (fun _=>f) (fun s=>slc p n c 35 1 (arr s.2)::F)
  (fun s=>s.1≤h∧s.2.size=n∧heapPop ltInt a s.1 s.2=heapPop ltInt a h d1) (fun s=>s.1) (h,d1) ⟨Nat.le_refl h,hd1,rfl⟩ fun s hs=>?_
 obtain⟨k,d⟩:=s;obtain⟨hk,hd,hr⟩:k≤h∧d.size=n∧heapPop ltInt a k d=heapPop ltInt a h d1:=hs;show H _ _ _ [(10,.int .i64 ((k:Int)-1)),_,_,_,_] f (slc p n c _ 1 (arr d)::F) _
 cases k with
 | zero =>
  rw[←hr];refine gY ?_;exact qaR
 | succ j =>
  refine H.Bh (d:=10) (u:=.int .i64 (j:Int)) rfl jP ?_;refine qfB fun sb hp=>?_;subst hp;refine gY ?_;refine H.drawN jE jL jF ?_;refine qer ?_;refine qiU ?_;refine HN.ar (i:=5) (z:=((a+j:Nat):Int)) jE rfl rfl rfl rfl rfl jY rfl ?_;refine qfQ ?_;refine HQ.Ah (i:=a+j) rfl rfl rfl jA jA rfl ?_;refine qhD ?_;refine qfH ?_;refine qiK ?_;refine HB.qu [16] 3 ?_;refine qfH ?_;refine qjd ?_;refine qeL ?_;refine HB.qu [18] 1 ?_;refine HQ.Ah (i:=a+j) rfl rfl rfl jA jA rfl ?_;refine qeo ?_;refine HB.ev 19 ?_;refine qeq ?_;show H _ _ _ _ f (slc (some ⟨sb,0,none⟩) n c _ 1 (arr (swp d (a) (a+j)))::_) _;refine gI ?_;refine H.Ap rfl rfl rfl (siftDown_fn f F (p:=some ⟨sb,0,none⟩) (c:=c) (lo:=0) (hi:=j) (first:=a) (d0:=swp d a (a+j)) (by rw[zbl];exact hd) hn jA jA) fun v f' A' hR=>?_;obtain⟨rfl,hff,rfl⟩:=hR;rw[hff];refine gW ?_;exact H.ag (j,siftDown ltInt j a 0 (swp d a (a+j))) ⟨by show j≤h;omega,by show(siftDown ltInt j a 0 (swp d a (a+j))).size=n;rw[siftDown_size,zbl];exact hd,hr⟩ kO
theorem reverse_fn(hd0:d0.size=n)(hn:n≤1000000)(hab:a<b)(hb:b≤n):Fn prog 195 [.slice p n c,.int .i64 (a:Int),.int .i64 (b:Int)] f (slc p n c 35 1 (arr d0)::F) (Ret (.tuple #[]) f (slc p n c 35 1 (arr (reverseRange d0 a b))::F)):=by
 obtain⟨b1,rfl⟩:∃b1,b=b1+1:=⟨b-1,by omega⟩;refine Fn.e3 func195 ntmps195 fun base=>?_;refine gW ?_
 refine H.lo (ι:=Nat×Nat×Array Int) (fun s=>[(6,.int .i64 (s.1:Int)),(7,.int .i64 (s.2.1:Int)),(0,.slice p n c)]) (fun _=>f) (fun s=>slc p n c 35 1 (arr s.2.2)::F)
  (fun s=>s.1≤n∧s.2.1<n∧s.2.2.size=n∧reverseLoop s.1 s.2.1 s.2.2=reverseRange d0 a (b1+1)) (fun s=>s.2.1-s.1) (a,b1,d0) ⟨by show a≤n;omega,by show b1<n;omega,hd0,rfl⟩ fun s hs=>?_
 obtain⟨i,j,d⟩:=s;obtain⟨hi,hj,hd,hr⟩:i≤n∧j<n∧d.size=n∧reverseLoop i j d=reverseRange d0 a (b1+1):=hs;show H _ _ _ [(6,.int .i64 (i:Int)),(7,.int .i64 (j:Int)),_] f (slc p n c _ 1 (arr d)::F) _;rw[reverseLoop]at hr;by_cases hlt:i<j
 ·rw[if_pos hlt]at hr;refine qfB fun sb hp=>?_;subst hp;refine gG ?_;refine H.drawN jE jL jF ?_;refine qer ?_;refine qgl ?_;refine qfS ?_;refine qhD ?_;refine HQ.Ah (i:=i) rfl rfl rfl jA jA rfl ?_;refine qiK ?_;refine HB.qu [12] 3 ?_;refine HQ.Ah (i:=i) rfl rfl rfl jA jA rfl ?_;refine qjZ ?_;refine qfS ?_;refine qix ?_;refine qeq ?_;show H _ _ _ _ f (slc (some ⟨sb,0,none⟩) n c _ 1 (arr (swp d (i) (j)))::_) _;obtain⟨j1,rfl⟩:∃j1,j=j1+1:=⟨j-1,by omega⟩;refine gW ?_;exact H.ag (i+1,j1,swp d i (j1+1)) ⟨by show i+1≤n;omega,by show j1<n;omega,by show(swp d i (j1+1)).size=n;rw[zbl];exact hd,hr⟩ (by show j1-(i+1)<j1+1-i;omega)
 ·rw[if_neg hlt]at hr;rw[←hr];refine gc ?_;exact qaR
end
open Go.Sort (swp ltInt insInner insOuter insertionSort siftDown heapBuild heapPop heapSort reverseLoop reverseRange scanUp scanDown partLoop partEqLoop scanSorted shiftDown shiftUp partialIns partialInsertionSort)
open Go.Sort (bitsLen PermIn swp_permIn permIn_trans permIn_refl)
theorem tab8:∀i:Fin 256,Lib.len8tab[i.val]?=some (UInt8.ofNat (bitsLen i.val))∧i.val<2 ^ bitsLen i.val∧(8≤i.val→2 ^ bitsLen i.val≤2*i.val)∧bitsLen i.val≤8:=by decide+kernel
theorem and_le(x:Int){m:Nat}(hm:m≤511):0≤IntKind.wrap .u64 ((BitVec.ofInt IntKind.u64.bits x &&& BitVec.ofInt IntKind.u64.bits (m:Int)).toNat:Nat)∧IntKind.wrap .u64 ((BitVec.ofInt IntKind.u64.bits x &&& BitVec.ofInt IntKind.u64.bits (m:Int)).toNat:Nat)≤(m:Int):=by
 have h1:(BitVec.ofInt IntKind.u64.bits x &&& BitVec.ofInt IntKind.u64.bits (m:Int)).toNat≤m:=by
  rw[BitVec.toNat_and];refine Nat.le_trans Nat.and_le_right ?_;rw[BitVec.ofInt_natCast,BitVec.toNat_ofNat];exact Nat.mod_le _ _
 rw[wr_u64 jA];omega
section
variable (f:Frag) (F:List HP)
theorem len64_fn{x:Nat}(hx:x<256):Fn prog 156 [.int .u64 (x:Int)] f F (Ret (.int .i64 (bitsLen x:Nat)) f F):=by
 have ht:=tab8 ⟨x,hx⟩
 have hb:(UInt8.ofNat (bitsLen x)).toNat=bitsLen x:=by
  have:=ht.2.2.2;have:bitsLen x≤8:=this
  exact qcA
 have hb8:bitsLen x≤8:=ht.2.2.2;refine Fn.e1 func156 ntmps156 fun base=>?_
 refine gc ?_;refine H.indexS (s:=Lib.len8tab) (i:=x) rfl jE rfl rfl ht.1 rfl ?_;rw[hb];refine gW ?_;refine H.Ae rfl rfl iD ⟨?_,rfl,rfl⟩;first|rfl|(congr 1;omega)
theorem len_fn{x:Nat}(hx:x<256):Fn prog 119 [.int .u64 (x:Int)] f F (Ret (.int .i64 (bitsLen x:Nat)) f F):=by
 have h:=fun G=>len64_fn f G hx;refine Fn.e1 func119 ntmps119 fun base=>?_
 refine gW ?_;refine H.cr (h _) ?_;refine gT ?_;exact qaj
theorem npow_fn{x:Nat}(hx:x<256):Fn prog 201 [.int .i64 (x:Int)] f F (Ret (.int .u64 ((2 ^ bitsLen x:Nat):Int)) f F):=by
 have h:=fun G=>len_fn f G hx;have hb8:bitsLen x≤8:=(tab8 ⟨x,hx⟩).2.2.2
 have hp:2 ^ bitsLen x≤2 ^ 8:=Nat.pow_le_pow_right jC hb8
 have e:IntKind.wrap .u64 ((1:Int)*2 ^ (min ((bitsLen x:Nat):Int).toNat IntKind.u64.bits))=((2 ^ bitsLen x:Nat):Int):=by
  have e1:min ((bitsLen x:Nat):Int).toNat IntKind.u64.bits=bitsLen x:=by
   rw[Int.toNat_natCast];exact Nat.min_eq_left (by show _≤64;omega)
  have e2:((2 ^ bitsLen x:Nat):Int)=(2:Int) ^ bitsLen x:=by rw[Int.natCast_pow];rfl
  rw[e1,Int.one_mul,←e2];generalize 2 ^ bitsLen x=m at hp⊢;exact wr_u64 jA
 refine Fn.e1 func201 ntmps201 fun base=>?_;refine gW ?_;refine H.cr (h _) ?_;skip;refine H.Bo (op:=.shl) rfl rfl rfl rfl jA e rfl ?_;refine gT ?_;exact qaj
def NextP(f:Frag)(F:List HP)(rb:Nat):Value→Frag→List HP→Prop:=fun v f' A'=>∃z:Int,v= .int .u64 z∧f'=f∧A'=row rb 271 [.int .u64 z]::F
theorem next_fn{rb:Nat}:Fn prog 202 [.pointer (some ⟨rb,0,none⟩)] f (row rb 271 [.int .u64 z]::F) (NextP f F rb):=by
 refine Fn.e1 func202 ntmps202 fun base=>?_;refine gI ?_;refine qeY ?_;refine gA ?_;refine qeY ?_;refine gA ?_;refine qeY ?_;refine gM ?_;exact H.r1 ⟨_,rfl,rfl,rfl⟩
def BrkP(f:Frag)(F:List HP)(p:Option Addr)(n c a b:Nat)(d0:Array Int):Value→Frag→List HP→Prop:=fun v f' A'=>∃d:Array Int,PermIn a b d0 d∧v= .tuple #[]∧f'=f∧A'=slc p n c 35 1 (arr d)::F
theorem break_fn(hd0:d0.size=n)(hn:n≤255)(h8:a+8≤b)(hb:b≤n):Fn prog 193 [.slice p n c,.int .i64 (a:Int),.int .i64 (b:Int)] f (slc p n c 35 1 (arr d0)::F) (BrkP f F p n c a b d0):=by
 obtain⟨l,hl⟩:∃l,l=b-a:=⟨_,rfl⟩;have hz:(b:Int)-(a:Int)=(l:Int):=jA
 have h1:=tab8 ⟨l,by omega⟩;have hm1:l<2 ^ bitsLen l:=h1.2.1
 have hm2:2 ^ bitsLen l≤2*l:=h1.2.2.1 (by show 8≤l;omega);have hnp:=fun G=>npow_fn f G (x:=l) jA
 have hq:IntKind.wrap .i64 ((l:Int).tdiv 4)=((l / 4:Nat):Int):=by rw[show(4:Int)=((4:Nat):Int)from rfl,tdiv64,wr_i64 jA]
 generalize 2 ^ bitsLen l=m at *;have hu:IntKind.wrap .u64 ((m:Int)-1)=((m-1:Nat):Int):=by rw[wr_u64 jA];omega
 refine Fn.e3 func193 ntmps193 fun base=>?_;refine qgj ?_;refine H.Aj (ls:=[.int .u64 0]) rfl rfl rfl fun rb=>?_;refine H.Ba rfl rfl rfl rfl aP0 (.here _ _ _) ?_;refine gI ?_;refine H.cr (hnp _) ?_;refine qgR ?_;refine H.Bh (d:=9) (u:=.int .i64 ((a+l / 4*2-1:Nat):Int)) rfl jP ?_;refine H.pf (x:=slc p n c _ _ _) ?_
 refine H.lo (ι:=Nat×Int×Array Int) (fun s=>[(9,.int .i64 (s.1:Int)),(8,.int .u64 (m:Int)),(7,.pointer (some ⟨rb,0,none⟩)),(6,.int .i64 (l:Int)),(0,.slice p n c),(1,.int .i64 (a:Int))]) (fun _=>f) (fun s=>slc p n c 35 1 (arr s.2.2)::row rb 271 [.int .u64 s.2.1]::F)
  (fun s=>a≤s.1∧PermIn a b d0 s.2.2) (fun s=>n-s.1) (a+l / 4*2-1,(l:Int),d0) ⟨by show a≤a+l / 4*2-1;omega,permIn_refl _ _ _⟩ fun s hs=>?_
 obtain⟨x,z,d⟩:=s;obtain⟨hx,hP⟩:a≤x∧PermIn a b d0 d:=hs;have hd:d.size=n:=hP.1.trans hd0;show H _ _ _ [(9,.int .i64 (x:Int)),_,_,_,_,_] f (slc p n c _ 1 (arr d)::row rb _ [.int .u64 z]::F) _
 by_cases hx2:x≤a+l / 4*2+1
 ·skip;refine qgR ?_;refine H.pf (x:=row rb _ _) ?_;refine H.Ap rfl rfl rfl (next_fn f _) fun v f' A' hR=>?_;obtain⟨z2,rfl,hff,rfl⟩:=hR;rw[hff];have hand:=and_le z2 (m:=m-1) jA;repeat(first|(refine H.ar (op:=.sub) (p:=(m:Int)) (p2:=1) (z:=((m-1:Nat):Int)) rfl rfl rfl rfl hu rfl ?_)|(refine gh ?_))
  refine H.Bf (op:=.and) rfl rfl rfl rfl rfl rfl ?_;generalize IntKind.wrap .u64 ((BitVec.ofInt IntKind.u64.bits z2 &&& BitVec.ofInt IntKind.u64.bits ((m-1:Nat):Int)).toNat:Nat)=o at *;obtain⟨k,rfl⟩:∃k:Nat,o=(k:Int):=⟨o.toNat,by omega⟩;refine H.pf (x:=slc p n c _ _ _) ?_;refine qfB fun sb hp=>?_;subst hp;by_cases hkl:l≤k
  ·obtain⟨o,ho⟩:∃o,k=l+o:=⟨k-l,by omega⟩;subst ho;have hol:((l+o:Nat):Int)-(l:Int)=(o:Int):=jA
   repeat(first|(refine H.ar (op:=.sub) (p:=((l+o:Nat):Int)) (p2:=(l:Int)) (z:=(o:Int)) rfl rfl rfl rfl (by rw[hol,wr_i64 jA]) rfl ?_)|(refine gh ?_))
   refine H.drawN jE jL jF ?_;refine qer ?_;refine qiU ?_;refine HN.ar (i:=5) (z:=((a+o:Nat):Int)) jE rfl rfl rfl rfl rfl jY rfl ?_;refine qfQ ?_;refine HQ.Ah (i:=a+o) rfl rfl rfl jA jA rfl ?_;refine qgo ?_;refine HQ.Ah (i:=a+o) rfl rfl rfl jA jA rfl ?_;refine qeo ?_;refine HB.ev 19 ?_;refine qeq ?_;show H _ _ _ _ f (slc (some ⟨sb,0,none⟩) n c _ 1 (arr (swp d (x) (a+o)))::_) _;refine gW ?_;exact H.ag (x+1,z2,swp d x (a+o)) ⟨by show a≤x+1;omega,permIn_trans _ _ _ _ _ hP (swp_permIn _ _ _ _ _ hx jA jA jA jA)⟩ (by show n-(x+1)<n-x;omega)
  ·refine gc ?_;refine H.drawN jE jL jF ?_;refine qer ?_;refine qiU ?_;refine HN.ar (i:=5) (z:=((a+k:Nat):Int)) jE rfl rfl rfl rfl rfl jY rfl ?_;refine qfQ ?_;refine HQ.Ah (i:=a+k) rfl rfl rfl jA jA rfl ?_;refine qgo ?_;refine HQ.Ah (i:=a+k) rfl rfl rfl jA jA rfl ?_;refine qeo ?_;refine HB.ev 19 ?_;refine qeq ?_;show H _ _ _ _ f (slc (some ⟨sb,0,none⟩) n c _ 1 (arr (swp d (x) (a+k)))::_) _;refine gW ?_;exact H.ag (x+1,z2,swp d x (a+k)) ⟨by show a≤x+1;omega,permIn_trans _ _ _ _ _ hP (swp_permIn _ _ _ _ _ hx jA jA jA jA)⟩ (by show n-(x+1)<n-x;omega)
 ·skip;refine qgR ?_;refine H.pd (x:=row rb _ _) ?_;exact H.end0 rfl iD ⟨d,hP,rfl,rfl,rfl⟩
end
open Go.Sort (bitsLen PermIn SortedIn swp insInner insOuter insertionSort insertionSort_holds SWO)
def iV(z:Int):List Value:=[.int .i64 z]
theorem iV_len(z:Int):(iV z).length=1:=rfl
def gtI(x y:Int):Bool:=decide (y<x)
def arrI(d:Array Int):List Value:=d.toList.flatMap iV
theorem arrI_map(d:Array Int):arrI d=d.toList.map fun z=>.int .i64 z:=by
 unfold arrI
 induction d.toList with
 |nil=>rfl
 |cons x r ih=>rw[List.flatMap_cons,ih];rfl
theorem arrI_setV{i:Nat}(h:i<d.size)(z:Int):SetV (arrI d) (i*1) (.int .i64 z) (arrI (d.setIfInBounds i z)):=by
 rw[Nat.mul_one,arrI_map,arrI_map,Array.toList_setIfInBounds,List.map_set];exact SetV.mk _ (by rw[List.length_map];simpa using h)
theorem Rd.arrI(h:At A (slc (some ⟨b,0,none⟩) n c 3 1 (arrI d)) A' (slc (some ⟨b,0,none⟩) n c 3 1 (arrI d))){i:Nat}(hi:i<d.size):Rd1 f A b (i*1) (.int .i64 d[i]!):=
 Rd1.of (i:=0) (Rd.slcElem (vals:=iV) (xs:=d.toList) iV_len jC h (arr_get hi)) rfl
def cmpI(x y:Int):Int:=if y<x then-1 else if x<y then 1 else 0
variable {xs:List Int}
section
variable (f:Frag) (F:List HP)
theorem nanI_fn(x:Int):Fn prog 120 [.int .i64 x] f F (Ret (.bool false) f F):=by
 refine Fn.e1 func120 ntmps120 fun base=>?_;exact qbG
theorem compareI_fn(x y:Int):Fn prog 82 [.int .i64 y,.int .i64 x] f F (Ret (.int .i64 (cmpI x y)) f F):=by
 refine Fn.e2 func82 ntmps82 fun base=>?_;refine gI ?_;refine H.Af rfl rfl rfl (nanI_fn f _ y) ?_;refine gI ?_;refine H.Af rfl rfl rfl (nanI_fn f _ x) ?_;by_cases h1:y<x
 ·have e:cmpI x y= -1:=by unfold cmpI;rw[if_pos h1]
  exact qdP
 ·by_cases h2:x<y
  ·have e:cmpI x y=1:=by unfold cmpI;rw[if_neg h1,if_pos h2]
   exact qdP
  ·have e:cmpI x y=0:=by unfold cmpI;rw[if_neg h1,if_neg h2]
   exact qdP
theorem cmpC_fn(x y:Int):Fn prog 81 [.int .i64 x,.int .i64 y] f F (Ret (.int .i64 (cmpI x y)) f F):=by
 refine Fn.e2 func81 ntmps81 fun base=>?_;refine gI ?_;refine H.Af rfl rfl rfl (compareI_fn f _ x y) ?_;refine gT ?_;exact qaj
theorem cmpI_lt(x y:Int):decide (cmpI x y<0)=gtI x y:=by
 unfold cmpI gtI;by_cases h:y<x
 ·rw[if_pos h,decide_eq_true h];rfl
 ·rw[if_neg h,decide_eq_false h];split<;>rfl
def cmpV:Value:=.func (.func 81) #[] #[]
theorem insSortC_fn(hd0:d0.size=n)(hn:n≤1000000)(hb:b≤n)(ha:a≤n):Fn prog 147 [.slice p n c,.int .i64 (a:Int),.int .i64 (b:Int),cmpV] f (slc p n c 3 1 (arrI d0)::F) (Ret (.tuple #[]) f (slc p n c 3 1 (arrI (insertionSort gtI d0 a b))::F)):=by
 refine Fn.e4 func147 ntmps147 fun base=>?_;refine gW ?_
 refine H.lo (ι:=Nat×Array Int) (fun s=>[(8,.int .i64 (s.1:Int)),(0,.slice p n c),(1,.int .i64 (a:Int)),(2,.int .i64 (b:Int)),(3,cmpV)]) (fun _=>f) (fun s=>slc p n c 3 1 (arrI s.2)::F)
  (fun s=>s.1≤n+1∧s.2.size=n∧insOuter gtI a b s.1 s.2=insertionSort gtI d0 a b) (fun s=>b-s.1) (a+1,d0) ⟨by show a+1≤n+1;omega,hd0,rfl⟩ fun s hs=>?_
 obtain⟨i,d1⟩:=s;obtain⟨hi,hd1,hR⟩:i≤n+1∧d1.size=n∧insOuter gtI a b i d1=insertionSort gtI d0 a b:=hs;show H _ _ _ [(8,.int .i64 (i:Int)),_,_,_,_] f (slc p n c _ 1 (arrI d1)::F) _;rw[insOuter]at hR;by_cases hlt:i<b
 ·rw[if_pos hlt]at hR;refine gG ?_
  refine H.lo (ι:=Nat×Array Int) (fun s=>[(9,.int .i64 (s.1:Int)),(8,.int .i64 (i:Int)),(0,.slice p n c),(1,.int .i64 (a:Int)),(2,.int .i64 (b:Int)),(3,cmpV)]) (fun _=>f) (fun s=>slc p n c 3 1 (arrI s.2)::F)
   (fun s=>s.1≤i∧s.2.size=n∧insInner gtI a s.1 s.2=insInner gtI a i d1) (fun s=>s.1) (i,d1) ⟨Nat.le_refl i,hd1,rfl⟩ fun s hs=>?_
  obtain⟨k,d⟩:=s;obtain⟨hk,hd,hr⟩:k≤i∧d.size=n∧insInner gtI a k d=insInner gtI a i d1:=hs;show H _ _ _ [(9,.int .i64 (k:Int)),_,_,_,_,_] f (slc p n c _ 1 (arrI d)::F) _;refine H.Au (p:=p) (n0:=n) (c:=c) (T:=3) (sz:=1) (xs:=arrI d) aP0 jA fun sb hp=>?_;subst hp;by_cases hka:a<k
  ·obtain⟨j,rfl⟩:∃j,k=j+1:=⟨k-1,by omega⟩;rw[insInner]at hr;have hja:decide (j+1>a)=true:=decide_eq_true hka;rw[hja,Bool.true_and]at hr
   refine qgY ?_;refine HB.qu [0,1,2,3,4,5,6,7,8,9,10,11,12,13] 3 ?_;refine gJ ?_;refine HQ.Ah (i:=j+1) rfl rfl rfl rfl jA rfl ?_;refine qif ?_;refine gK ?_;refine qfS ?_;refine qif ?_;refine qeo ?_;refine HB.ev 14 ?_;refine H.callVR (fs:=[]) (cs:=[]) rfl rfl rfl rfl (cmpC_fn f _ d[j+1]! d[j]!) ?_;refine qeg ?_;have hc:=cmpI_lt d[j+1]! d[j]!
   cases hlj:gtI d[j+1]! d[j]! with
   | false =>
    rw[hlj]at hc;rw[hlj,if_neg jC]at hr;rw[←hr]at hR;have hc:=of_decide_eq_false hc;generalize cmpI d[j+1]! d[j]! =cz at hc⊢
    refine HB.qu [15,16] 0 ?_;refine qju ?_;refine gc ?_;exact qbk
   | true =>
    rw[hlj]at hc;rw[hlj,if_pos rfl]at hr;have hc:=of_decide_eq_true hc;generalize cmpI d[j+1]! d[j]! =cz at hc⊢
    refine HB.qu [15,16] 0 ?_;refine qju ?_;refine gG ?_;refine H.drawN jE jL (by with_reducible (repeat(first|exact zad|refine zab ?_|refine zah ?_|refine zak ?_))) ?_;refine qjc ?_;refine HN.phase [0,1,5,6,7,8,9,10,11,12,13] (S:=[slc (some ⟨sb,0,none⟩) n c 3 1 (arrI d)]) rfl ?_;refine HB.qu [0,1,5,6,7,8,9,10,11,12,13] 4 ?_;refine gK ?_;refine qfS ?_;refine qif ?_;refine gB ?_;refine qie ?_;refine qif ?_;refine qeA ?_;refine HB.qu [14] 3 ?_;refine qie ?_;refine qix ?_;refine H.Az rfl rfl rfl rfl aP0 (arrI_setV jA _) ?_;refine qeg ?_;refine HB.qu [16] 1 ?_;refine qfS ?_;refine qjd ?_;refine H.Az rfl rfl rfl rfl aP0 (arrI_setV (by rw[Array.size_setIfInBounds];omega) _) ?_;refine qeR ?_;show H _ _ _ _ f (slc (some ⟨sb,0,none⟩) n c _ 1 (arrI (swp d (j+1) (j)))::_) _;exact qcl
  ·have hr2:insInner gtI a k d=d:=by
    cases k with
    |zero=>rfl
    |succ j=>rw[insInner,if_neg jb]
   rw[hr2]at hr;rw[←hr]at hR;refine qgY ?_;refine HB.qu [0,1,2,3,4,5,6,7,8,9,10,11,12,13] 3 ?_;refine gJ ?_;refine qeo ?_;refine HB.ev 14 ?_;refine qgH ?_;refine HB.qu [15,16] 0 ?_;exact qdi
 ·exact qdN
theorem swo_gtI:SWO gtI:=⟨fun x=>decide_eq_false (Int.lt_irrefl x),fun x y z h1 h2=>by
  have h1:=of_decide_eq_true h1
  have h2:=of_decide_eq_true h2
  exact decide_eq_true jA,fun x y z h1 h2=>by
  have h1:=of_decide_eq_false h1
  have h2:=of_decide_eq_false h2
  exact decide_eq_false jA⟩
theorem insC_ok(hx:xs.length=n):(insertionSort gtI xs.toArray 0 n).toList.Perm xs∧(insertionSort gtI xs.toArray 0 n).toList.Pairwise (fun a b=>b≤a):=by
 have e:xs.toArray.size=n:=by simpa using hx
 obtain⟨h1,h2⟩:=insertionSort_holds (lt:=gtI) swo_gtI xs.toArray 0 n (Nat.zero_le _) jA;generalize insertionSort gtI xs.toArray 0 n=d at h1 h2;have hdn:d.size=n:=h1.1.trans e;refine⟨?_,?_⟩
 ·have h3:=h1.2.2;have e1:d.extract 0 n=d:=by rw[←hdn];exact Array.extract_size
  have e2:xs.toArray.extract 0 n=xs.toArray:=by rw[←e];exact Array.extract_size
  rw[e1,e2]at h3;exact h3
 ·rw[List.pairwise_iff_getElem];intro i j hi hj hij;have hi':i<d.size:=by simpa using hi
  have hj':j<d.size:=by simpa using hj
  have h3:=h2 i j (Nat.zero_le _) hij jA;rw[getElem!_pos d i hi',getElem!_pos d j hj']at h3
  have h3:=of_decide_eq_false h3;simp only[Array.getElem_toList]
  omega
theorem pdqC_fn{lim:Int}(hd0:d0.size=n)(hn:n≤12):Fn prog 118 [.slice p n c,.int .i64 0,.int .i64 (n:Int),.int .i64 lim,cmpV] f (slc p n c 3 1 (arrI d0)::F) (Ret (.tuple #[]) f (slc p n c 3 1 (arrI (insertionSort gtI d0 0 n))::F)):=by
 have hi:=insSortC_fn f F (p:=p) (n:=n) (c:=c) (a:=0) (b:=n) hd0 jA (Nat.le_refl _) (Nat.zero_le _);refine Fn.e5 func118 ntmps118 fun base=>?_
 refine gT ?_;refine H.lo (ι:=Unit) (fun _=>[(0,.slice p n c),(1,.int .i64 0),(2,.int .i64 (n:Int)),(3,.int .i64 lim),(4,cmpV)]) (fun _=>f) (fun _=>slc p n c 3 1 (arrI d0)::F) (fun _=>True) (fun _=>0) () trivial fun s _=>?_;refine gc ?_;refine H.Af rfl rfl rfl hi ?_;refine gT ?_;exact H.ret0 rfl iD ⟨rfl,rfl,rfl⟩
theorem sortD_fn(hx:xs.length=n)(hn:n≤12):Fn prog 80 [.slice p n c,cmpV] f (slc p n c 3 1 (xs.flatMap iV)::F)
   (fun v f' A'=>∃ys:List Int,ys.Perm xs∧ys.Pairwise (fun a b=>b≤a)∧v= .tuple #[]∧f'=f∧A'=slc p n c 3 1 (ys.flatMap iV)::F):=by
 have hl:=fun G=>len_fn f G (x:=n) jA;have hs:=pdqC_fn f F (p:=p) (n:=n) (c:=c) (lim:=(bitsLen n:Nat)) (d0:=xs.toArray) js hn
 obtain⟨h1,h2⟩:=insC_ok hx;show Fn _ _ _ f (slc p n c 3 1 (arrI xs.toArray)::F) _;refine Fn.e2 func80 ntmps80 fun base=>?_;refine gW ?_;refine H.cr (hl _) ?_;refine gI ?_;refine H.Af rfl rfl rfl hs ?_;refine gA ?_;exact H.end0 rfl iD ⟨_,h1,h2,rfl,rfl,rfl⟩
end
def viewsV(l:List (Int×Int)):List Value:=l.map fun p=>.int .u64 p.1
abbrev keyU(k:Int):Value:=.int .u64 k
instance:KeyT prog 35 keyU:=keyT_int ⟨underlying35⟩
def pastL(b eb ec mb:Nat)(s:PM):List HP:=[row b 209 [.int .u64 s.g,.slice (some ⟨eb,0,none⟩) (s.init.length+1) ec,.map (some mb)],
 slc (some ⟨eb,0,none⟩) (s.init.length+1) ec 35 1 (viewsV s.all),mp mb keyU (PM.kv s.all)]
def pastH(b:Nat)(s:PM):HP:=fun h=>∃i:Nat×Nat×Nat,stars (pastL b i.1 i.2.1 i.2.2 s) h
variable {s:PM}
theorem zbb{eb ec mb:Nat}:∀x,stars (row b 209 [.int .u64 s.g,.slice (some ⟨eb,0,none⟩) (s.init.length+1) ec,.map (some mb)] ::slc (some ⟨eb,0,none⟩) (s.init.length+1) ec 35 1 (viewsV s.all)::mp mb keyU (PM.kv s.all)::F) x→stars (pastH b s::F) x:=
 fold_stars (B:=[_,_,_]) fun x hx=>⟨(eb,ec,mb),hx⟩
variable {args:List Value} {R:Value→Frag→List HP→Prop}
theorem pastH_open
  (k : ∀ eb ec mb, Fn prog fid args f (row b 209 [.int .u64 s.g, .slice (some ⟨eb, 0, none⟩) (s.init.length + 1) ec, .map (some mb)] ::
   slc (some ⟨eb,0,none⟩) (s.init.length+1) ec 35 1 (viewsV s.all)::mp mb keyU (PM.kv s.all)::F) R):Fn prog fid args f (pastH b s::F) R:=
 Fn.unfold iD fun⟨eb,ec,mb⟩=>k eb ec mb
theorem viewsV_last(s:PM):(viewsV s.all)[s.init.length]?=some (.int .u64 s.lv):=by
 simp[viewsV,PM.all]
section
variable (f:Frag) (F:List HP) (b:Nat) (s:PM)
theorem last_fn(hn:s.init.length≤1000000):Fn prog 187 [.pointer (some ⟨b,0,none⟩)] f (pastH b s::F) (Ret (.int .u64 s.lv) f (pastH b s::F)):=by
 refine pastH_open fun eb ec mb=>?_;refine Fn.e1 func187 ntmps187 fun base=>?_;refine gI ?_;refine qkH ?_;refine HQ.Bv rfl rfl rfl rfl jA rfl ?_;refine HQ.Ab rfl rfl rfl (.of (Rd.ofSlc jB jA) (viewsV_last s)) rfl ?_;refine gK ?_;refine gT ?_;exact H.Ae rfl rfl zbb ⟨rfl,rfl,rfl⟩
theorem new_fn:Fn prog 72 [] f F (fun v f' A'=>∃b,v= .pointer (some ⟨b,0,none⟩)∧f'=f∧A'=pastH b PM.new::F):=by
 refine Fn.e0 func72 ntmps72 fun base=>?_;refine gI ?_;refine qeU fun eb=>?_;refine H.makeMap keyU rfl rfl fun mb=>?_;refine H.mapInsert rfl rfl rfl rfl jB rfl ?_;refine gG ?_;refine H.box rfl rfl rfl rfl fun b=>?_;refine gT ?_;refine H.Ae rfl rfl (A':=pastH b PM.new::F) ?_ ⟨b,rfl,rfl,rfl⟩;intro x hx;refine zbb (eb:=eb) (ec:=1) (mb:=mb) x ?_;refine keep_stars (fun y hy=>?_) x hx;have h1:=stars_two hy;obtain⟨m1,m2,d,e,a,r⟩:=h1
 exact qbB
theorem open_fn(hn:s.init.length≤1000000)(v:Int):Fn prog 189 [.pointer (some ⟨b,0,none⟩),.int .u64 v] f (pastH b s::F) (Ret (.bool (s.isOpen v)) f (pastH b s::F)):=by
 refine pastH_open fun eb ec mb=>?_;by_cases hv:v=s.g
 ·refine Fn.e2 func189 ntmps189 fun base=>?_;refine gX ?_;refine H.imp zbb ?_;refine H.Ap rfl rfl rfl (last_fn f F b s hn) fun _ _ _ hR=>?_;exact qdT
 ·refine Fn.e2 func189 ntmps189 fun base=>?_;refine gX ?_;exact H.Ae rfl rfl zbb ⟨by simp[PM.isOpen,hv],rfl,rfl⟩
theorem change_fn(v:Int):Fn prog 128 [.pointer (some ⟨b,0,none⟩),.int .u64 v] f (pastH b s::F) (Ret (.bool (s.changeOk v)) f (pastH b (s.change v)::F)):=by
 refine pastH_open fun eb ec mb=>?_;by_cases h1:v≤s.g
 ·exact qbD
 ·by_cases h2:1073741824≤v
  ·exact qbD
  ·refine Fn.e2 func128 ntmps128 fun base=>?_;refine gX ?_;have e:s.changeOk v=true:=by simp[PM.changeOk];omega
   refine H.Ae rfl rfl (A':=pastH b (s.change v)::F) ?_ ⟨by rw[e],rfl,rfl⟩;rw[show s.change v= {s with g:=v} by simp[PM.change,e]];exact zbb (s:={s with g:=v})
theorem voted_fn(v:Int):Fn prog 76 [.pointer (some ⟨b,0,none⟩),.int .u64 v] f (pastH b s::F) (Ret (.tuple #[.int .i64 ((PM.voted s.all v).getD 0),.bool (PM.voted s.all v).isSome]) f (pastH b s::F)):=by
 refine pastH_open fun eb ec mb=>?_
 have hg:(getKV (PM.kv s.all) v).getD (.int .i64 0)= .int .i64 ((PM.voted s.all v).getD 0):=by
  rw[PM.getKV_kv];cases PM.voted s.all v<;>rfl
 have hi:(getKV (PM.kv s.all) v).isSome=(PM.voted s.all v).isSome:=by
  rw[PM.getKV_kv];cases PM.voted s.all v<;>rfl
 refine Fn.e2 func76 ntmps76 fun base=>?_;refine gU ?_;refine H.Ck rfl rfl rfl jB rfl hg hi rfl ?_;refine gY ?_;exact H.Bb rfl rfl rfl zbb ⟨rfl,rfl,rfl⟩
end
variable {B:Int}
section
variable (f:Frag) (F:List HP) (b:Nat) (s:PM)
theorem Fn.slc_len{f:Frag}{n0:Nat}{xs:List Value}(h:At A (slc p n0 c T sz xs) A' (slc p n0 c T sz xs))
  (k:xs.length=n0*sz→Fn P fid args f A R):Fn P fid args f A R:=fun base w s=>k (s.slc_at h).1 base w s
theorem one_views(l:List (Int×Int)):∀v∈viewsV l,one v=true:=by
 intro v hv;obtain⟨p,_,rfl⟩:=List.mem_map.1 hv;rfl
theorem clone_fn(p:Option Addr)(n c:Nat)(xs:List Value)(h1:∀v∈xs,one v=true)(hn:n≤1000000)(A:List HP)(hp:p.isNone=false)(hA:At A (slc p n c 35 1 xs) A (slc p n c 35 1 xs)):Fn prog 216 [.slice p n c] f A (fun v f' A'=>∃p' c',v= .slice p' n c'∧f'=f∧A'=slc p' n c' 35 1 xs::A):=by
 refine Fn.slc_len hA fun hl=>?_
 cases p with
 |none=>cases hp
 |some a=>
 refine Fn.e1 func216 ntmps216 fun base=>?_;refine qgQ fun eb=>?_;refine qjb ?_;refine H.imp (A':=slc (some ⟨eb,0,none⟩) 0 0 35 1 []::A) ?_ ?_
 ·exact qdp
 refine H.Av rfl rfl rfl rfl rfl (fun p' c'=>.here _ _ _) (Src.slcS (.there _ hA) hl) h1 rfl jA jA fun p' c'=>?_;refine gT ?_;refine H.Ae rfl rfl (A':=slc p' n c' 35 1 xs::A) ?_ ⟨p',c',by rw[Nat.zero_add],rfl,rfl⟩;simp only[List.nil_append,Nat.zero_add];exact fun _ h=>h
theorem entered_fn(hn:s.init.length≤100000):Fn prog 186 [.pointer (some ⟨b,0,none⟩)] f (pastH b s::F)
  (fun v f' A'=>∃p' c',v= .slice p' (s.init.length+1) c'∧f'=f∧A'=slc p' (s.init.length+1) c' 35 1 (viewsV s.all)::pastH b s::F):=by
 refine pastH_open fun eb ec mb=>?_;refine Fn.e1 func186 ntmps186 fun base=>?_;refine gU ?_;refine H.Ap rfl rfl rfl (clone_fn f _ _ _ _ (one_views s.all) jA _ rfl jB) fun v f' A' hR=>?_;obtain⟨p',c',rfl,rfl,rfl⟩:=hR;refine gT ?_;exact H.Ae rfl rfl (keep_stars zbb) ⟨p',c',rfl,rfl,rfl⟩
theorem prepare_fn(hw:PM.WF s B)(hB:B≤9000000000000000000)(hn:s.init.length≤1000000)(v:Int):Fn prog 135 [.pointer (some ⟨b,0,none⟩),.int .u64 v] f (pastH b s::F) (Ret (.bool (s.isOpen v)) f (pastH b (s.prepare v)::F)):=by
 cases ho:s.isOpen v with
 | false =>
  refine Fn.e2 func135 ntmps135 fun base=>?_;refine qgL fun _ _ _ hR=>?_;exact qck
 | true =>
  have hv:v=s.lv:=by simp[PM.isOpen]at ho;exact ho.2
  have hl:=hw.last;have hgk:(getKV (PM.kv s.all) v).getD (.int .i64 0)= .int .i64 s.ln:=by rw[PM.getKV_kv,hv,PM.voted_last hw];rfl
  have hput:putKV (PM.kv s.all) v (.int .i64 (s.ln+1))=PM.kv ({s with ln:=s.ln+1}:PM).all:=by rw[hv];exact hw.kv_bump
  refine Fn.e2 func135 ntmps135 fun base=>?_;refine qgL fun _ _ _ hR=>?_;obtain⟨rfl,rfl,rfl⟩:=hR;rw[ho];refine gR ?_;refine H.unfold iD fun⟨eb,ec,mb⟩=>?_;refine qkn ?_;refine gF ?_;refine qiL ?_;rw[hput];refine gT ?_;refine H.Ae rfl rfl (A':=pastH b (s.prepare v)::F) ?_ ⟨rfl,rfl,rfl⟩;have hf:=zbb (b:=b) (eb:=eb) (ec:=ec) (mb:=mb) (s:={s with ln:=s.ln+1}) (F:=F);rw[show s.prepare v= {s with ln:=s.ln+1} by simp[PM.prepare,ho]]
  exact qcH
theorem commit_fn(hw:PM.WF s B)(hB:B≤9000000000000000000)(hn:s.init.length≤1000000)(v k most:Int)(hk:0≤k∧k≤18446744073709551615)(hm:-9223372036854775808≤most∧most≤9223372036854775807):Fn prog 136 [.pointer (some ⟨b,0,none⟩),.int .u64 v,.int .u64 k,.int .i64 most] f (pastH b s::F) (Ret (.bool (s.commitOk v k most)) f (pastH b (s.commit v k most)::F)):=by
 have hl:=hw.last
 cases ho:s.isOpen v with
 | false =>
  have e:s.commitOk v k most=false:=by simp[PM.isOpen]at ho;simp[PM.commitOk];omega
  refine Fn.e4 func136 ntmps136 fun base=>?_;refine qgL fun _ _ _ hR=>?_;obtain⟨rfl,rfl,rfl⟩:=hR;rw[ho];refine gS ?_;exact qcb
 | true =>
  have hv:v=s.lv:=by simp[PM.isOpen]at ho;exact ho.2
  have hvg:v=s.g:=by simp[PM.isOpen]at ho;exact ho.1
  have hgk:(getKV (PM.kv s.all) v).getD (.int .i64 0)= .int .i64 s.ln:=by rw[PM.getKV_kv,hv,PM.voted_last hw];rfl
  have hput:putKV (PM.kv s.all) v (.int .i64 (s.ln+1))=PM.kv ({s with ln:=s.ln+1}:PM).all:=by rw[hv];exact hw.kv_bump
  by_cases h1:most<0
  ·have e:s.commitOk v k most=false:=by simp[PM.commitOk];omega
   clear hvg hv;refine Fn.e4 func136 ntmps136 fun base=>?_;refine qgL fun _ _ _ hR=>?_;obtain⟨rfl,rfl,rfl⟩:=hR;rw[ho];refine gg ?_;exact qcb
  ·by_cases h2 : most < k
   ·have e:s.commitOk v k most=false:=by simp[PM.commitOk];omega
    clear hvg hv;refine Fn.e4 func136 ntmps136 fun base=>?_;refine qgL fun _ _ _ hR=>?_;obtain⟨rfl,rfl,rfl⟩:=hR;rw[ho];refine gX ?_;exact qcb
   ·have e:s.commitOk v k most=decide (k=s.ln+1):=by rw[Bool.eq_iff_iff];simp[PM.commitOk];omega
    clear hvg hv;refine Fn.e4 func136 ntmps136 fun base=>?_;refine qgL fun _ _ _ hR=>?_;obtain⟨rfl,rfl,rfl⟩:=hR;rw[ho];refine gX ?_;refine H.unfold iD fun⟨eb,ec,mb⟩=>?_;refine qkn ?_;refine gF ?_;refine H.Bm rfl rfl rfl jB rfl hgk rfl ?_;refine gX ?_;by_cases h3:k=s.ln+1
    ·refine gM ?_;refine qiL ?_;rw[hput];refine gT ?_;refine H.Ae rfl rfl (A':=pastH b (s.commit v k most)::F) ?_ ⟨by rw[e];simp[h3],rfl,rfl⟩;have hf:=zbb (b:=b) (eb:=eb) (ec:=ec) (mb:=mb) (s:={s with ln:=s.ln+1}) (F:=F);rw[show s.commit v k most= {s with ln:=s.ln+1} by unfold PM.commit;rw[if_pos (by rw[e];simp[h3])]]
     exact qcH
    ·refine gG ?_;exact H.Ae rfl rfl zbb ⟨by rw[e];simp[h3],rfl,by simp[PM.commit,e,h3]⟩
theorem enter_fn(hw:PM.WF s B)(hn:s.init.length≤100000)(v k:Int):Fn prog 132 [.pointer (some ⟨b,0,none⟩),.int .u64 v,.int .i64 k] f (pastH b s::F) (Ret (.bool (s.enterOk v k)) f (pastH b (s.enter v k)::F)):=by
 have hl:=hw.last
 cases ho:s.enterOk v k with
 | false =>
  have hno:v≤s.lv∨v<s.g∨1073741824≤v∨k<0:=by simp[PM.enterOk]at ho;omega
  have e2:s.enter v k=s:=by simp[PM.enter,ho]
  rw[e2];by_cases h1:v≤s.lv
  ·clear hno;refine Fn.e3 func132 ntmps132 fun base=>?_;refine gU ?_;refine H.Ap rfl rfl rfl (last_fn f F b s jA) fun _ _ _ hR=>?_;obtain⟨rfl,rfl,rfl⟩:=hR;refine gg ?_;exact qaj
  ·by_cases h2 : v < s.g
   ·exact qav
   ·by_cases h3:1073741824≤v
    ·exact qav
    ·have h4:k<0:=jA
     exact qav
 | true =>
  obtain⟨h1,h2,h3,h4⟩:s.lv<v∧s.g≤v∧v<1073741824∧0≤k:=by simpa [PM.enterOk]using ho
  have e2:s.enter v k=⟨v,s.all,v,k⟩:=by simp[PM.enter,ho]
  rw[e2];have hput:=hw.kv_enter2 (long:=k) h1 ((getKV (PM.kv s.all) v).getD (.int .i64 0));refine Fn.e3 func132 ntmps132 fun base=>?_
  refine gU ?_;refine H.Ap rfl rfl rfl (last_fn f F b s jA) fun _ _ _ hR=>?_;obtain⟨rfl,rfl,rfl⟩:=hR;refine gg ?_;refine H.unfold iD fun⟨eb,ec,mb⟩=>?_;refine qkn ?_;refine gg ?_;refine qeU fun tb=>?_;refine qgf fun p' c'=>?_;refine H.Au jB jA fun eb' hp=>?_;subst hp;refine gR ?_;refine H.mapEntry rfl rfl rfl (fun st=>jB) rfl rfl fun st=>?_;refine gO ?_;refine H.entryStore rfl rfl rfl rfl jB ?_;rw[hput];refine qiY ?_;have hf:=zbb (b:=b) (eb:=eb') (ec:=c') (mb:=mb) (s:=⟨v,s.all,v,k⟩) (F:=F);have hvw:viewsV (⟨v,s.all,v,k⟩:PM).all=viewsV s.all++[.int .u64 v]:=by simp[viewsV,PM.all]
  exact qbR
end
section
variable (f:Frag) (F:List HP)
theorem changed_fn{l:Lgs}{kn:Nat→Int}{cs:Nat→Option Addr×Nat}{q:Int×Int}(hq:1≤q.1∧q.1≤(l.n:Int))(hn:l.n≤11)(hc:∀r,(l.ch r).length≤100000)(v:Int):Fn prog 140 [.pointer (some ⟨lb,0,none⟩),.agg (pairV q).toArray,.int .u64 v] f
   (row lb 152 (lgC l.n kn vp vl vc pp pc cp cc)::slc cp l.n cc 195 1 (chRow l cs)::fam (chFam l cs) l.n::F)
   (Ret (.bool (chB l q v)) f (row lb 152 (lgC l.n kn vp vl vc pp pc cp cc)::slc cp l.n cc 195 1 (chRow l cs)::fam (chFam l cs) l.n::F)):=by
 obtain⟨r,hre⟩:∃r,r=(q.1-1).toNat:=⟨_,rfl⟩;have hr:r<l.n:=jA
 have hrz:q.1-1=(r:Nat):=jA
 have hcr:=hc r;refine Fn.e3 func140 ntmps140 fun base=>?_
 refine gA ?_;refine H.box (ls:=pairV q) rfl rfl rfl rfl fun qb=>?_;refine gI ?_;refine H.Au (p:=cp) (n0:=l.n) (c:=cc) at2 jA fun cb hp=>?_;subst hp;refine H.dq ?_;refine qhj ?_;refine gK ?_;refine H.pf (x:=fam _ _) ?_;refine H.Bq hr ?_;refine H.pf (x:=fam _ _) ?_;refine H.pf (x:=chFam l cs r) ?_;refine qj ?_;refine gT ?_
 refine H.lo (ι:=Nat) (fun i=>[(8,.int .i64 (i:Int)),(7,.slice (cs r).1 (l.ch r).length (cs r).2),(2,.int .u64 v),(4,.pointer (some ⟨qb,0,none⟩))]) (fun _=>f)
  (fun _=>row qb 127 (pairV q)::chFam l cs r::fam (updF (chFam l cs) r emp) l.n::row lb 152 (lgC l.n kn vp vl vc pp pc (some ⟨cb,0,none⟩) cc)::slc (some ⟨cb,0,none⟩) l.n cc 195 1 (chRow l cs)::F)
  (fun i=>i≤(l.ch r).length∧∀j x,j<i→(l.ch r)[j]?=some x→¬(x.1=v∧x.2=q.2)) (fun i=>(l.ch r).length-i) 0 ⟨Nat.zero_le _,fun j x hj=>by omega⟩ fun i hi=>?_
 obtain⟨hi,hb⟩:i≤(l.ch r).length∧∀j x,j<i→(l.ch r)[j]?=some x→¬(x.1=v∧x.2=q.2):=hi;by_cases hlt:i<(l.ch r).length
 ·obtain⟨x,hx⟩:∃x,(l.ch r)[i]?=some x:=⟨_,lgE hlt⟩;refine qiE fun sb hp=>?_
  have rd:∀ {G:List HP},Rd f (row qb 127 (pairV q)::chFam l cs r::G) sb (0+i*2) (chV x):=fun {G}=>by
   rw[Nat.zero_add];exact Rd.slcElem (vals:=chV) (xs:=l.ch r) (n:=(l.ch r).length) (c:=(cs r).2) (T:=197) chV_len jC kY hx
  refine qks ?_;rw[hp];refine qip ?_;refine gP ?_;refine HQ.Ab rfl rfl rfl (Rd1.of (i:=0) rd rfl) rfl ?_;refine gJ ?_;by_cases h1:x.1=v
  ·skip;refine gJ ?_;refine HQ.Ak (i:=i) rfl rfl rfl rfl hlt rfl ?_;refine gP ?_;refine HQ.Ab rfl rfl rfl (Rd1.of (i:=1) rd rfl) rfl ?_;refine gZ ?_;by_cases h2:x.2=q.2
   ·skip;skip;refine gG ?_
    have e:chB l q v=true:=by
     unfold chB;rw[←hre];exact List.any_eq_true.2 ⟨x,List.mem_of_getElem? hx,by rw[decide_eq_true h1,decide_eq_true h2];rfl⟩
    exact qbV
   ·skip;skip;refine gc ?_;refine H.Ar (i+1) ⟨by show i+1≤(l.ch r).length;omega,fun j y hj hy=>?_⟩ jT ⟨rfl,by rw[←hp];rfl,rfl,rfl,trivial⟩ rfl rfl;exact qcB
  ·skip;refine gZ ?_;refine gW ?_;refine H.Ar (i+1) ⟨by show i+1≤(l.ch r).length;omega,fun j y hj hy=>?_⟩ jT ⟨rfl,by rw[←hp];rfl,rfl,rfl,trivial⟩ rfl rfl;exact qcG
 ·skip;refine gc ?_
  have e:chB l q v=false:=by
   unfold chB;rw[←hre];refine List.any_eq_false.2 fun x hx h=>?_;obtain⟨j,hj⟩:=List.getElem?_of_mem hx;have hjl:=(List.getElem?_eq_some_iff.1 hj).1;simp only[Bool.and_eq_true,decide_eq_true_eq]at h
   exact hb j x jA hj h
  exact qbV
end
def LgP(f:Frag)(F:List HP)(lb:Nat)(r:Bool×Lgs):Value→Frag→List HP→Prop:=fun v f' A'=>∃g,Dj f g∧v= .bool r.1∧f'=un f g∧A'=logsH f' lb r.2::F
theorem flatV_flat(g:α→List Value)(l:List α):flatV g l=l.flatMap g:=by unfold flatV;rw[List.flatMap_def]
theorem LgP.no{l:Lgs}{r:Bool×Lgs}(h:r=(false,l)):LgP f F lb r (.bool false) f (logsH f lb l::F):=by
 exact qcI
theorem ins_step{V:List α}{k:Nat}{y z:α}(h:V[k]?=some z):(V.take (k+1)++y::V.drop (k+1)).set (k+1) z=V.take k++z::V.drop k:=by
 have hk:=(List.getElem?_eq_some_iff.1 h).1;have h2:=(List.getElem?_eq_some_iff.1 h).2
 have hl:(V.take (k+1)).length=k+1:=by rw[List.length_take];omega
 rw[List.set_append_right _ _ jA,hl,Nat.sub_self,List.take_add_one,h,List.drop_eq_getElem_cons hk,h2];simp
theorem ins_last{V:List α}{k:Nat}{y z:α}(hk:k≤V.length):(V.take k++y::V.drop k).set k z=V.take k++z::V.drop k:=by
 have hl:(V.take k).length=k:=by rw[List.length_take];omega
 rw[List.set_append_right _ _ jA,hl,Nat.sub_self];rfl
theorem ins_get{V:List α}{k:Nat}{y:α}(hj:j<k)(hk:k≤V.length):(V.take k++y::V.drop k)[j]?=V[j]?:=by
 rw[List.getElem?_append_left jd,List.getElem?_take_of_lt hj]
theorem ins_len{V:List α}{k:Nat}{y:α}(hk:k≤V.length):(V.take k++y::V.drop k).length=V.length+1:=by
 rw[lnA,List.length_take,List.length_cons,List.length_drop];omega
theorem ListAt.takeL{vals:α→List Value}{l:List α}(h:ListAt f p sz vals l)(k:Nat):ListAt f p sz vals (l.take k):=fun i x hx=>h i x (by
 rw[List.getElem?_take]at hx
 split at hx
 ·exact hx
 ·cases hx)
theorem zbv(bv:Int)(x:Int×Int)(r:List (Int×Int))(a:Int×Int):bestOf bv (x::r) a=bestOf bv r (if x.1<bv∧(a.1<x.1∨(x.1=a.1∧a.2<x.2))then x else a):=rfl
theorem bestQ_cons(past:Nat→PM)(bv:Int)(q:Int×Int)(r:List (Int×Int))(a:Int×Int):bestQ past bv (q::r) a=bestQ past bv r (bestOf bv (past (q.1-1).toNat).all a):=rfl
theorem slc_emp(T:TypeId)(sz:Nat):slc none 0 0 T sz []=emp:=by
 funext h;refine propext ⟨fun⟨_,_,h3⟩=>?_,fun e=>⟨by simp,by omega,.inl ⟨rfl,rfl,e⟩⟩⟩;rcases h3 with⟨_,_,e⟩|⟨b,sp,e,_⟩
 ·exact e
 ·cases e
theorem pst_updF(pb:Nat→Nat)(P:Nat→PM)(r0:Nat)(s:PM):updF (fun r=>pstH (pb r) (P r)) r0 (pstH (pb r0) s)=fun r=>pstH (pb r) (updF P r0 s r):=by
 funext r;unfold updF;split
 ·rename_i h;subst h;rfl
 ·rfl
section
variable (f:Frag) (F:List HP)
theorem begins_fn(hfl:Le fl f){l:Lgs}{T:Nat}(hL:LI l T)(hT:T≤50000)(hx:x.Good f)(hm:MIn l.n x.m):Fn prog 105 [.pointer (some ⟨lb,0,none⟩),.agg x.vals.toArray] f (logsH fl lb l::F) (LgP f F lb (l.begins x.m)):=by
 refine qjX fun i0 hi=>?_;obtain⟨V,vp,vc,pp,pc,cp,cc,pb,cs⟩:=i0;have hiF:=hi.mono hfl;have hn:=hL.n3
 have hqat:ListAt f x.qp 2 pairV x.m.body.q:=hx.1;have hql:x.m.body.q.length≤1000000:=by have:=hx.2.1;omega
 refine qfs ?_;refine Fn.e2 func105 ntmps105 fun base=>?_;refine qem fun mb=>?_;refine qkl fun bb=>?_;refine qhK ?_;refine qkH ?_;refine HQ.quo (z:=(((l.n-1) / 2:Nat):Int)) rfl rfl rfl jC (by rw[show(2:Int)=((2:Nat):Int)from rfl,show((l.n:Int)-1)=(((l.n-1:Nat)):Int) by omega,tdiv64,wr_i64 jA]) rfl ?_;refine gZ ?_;refine gA ?_;by_cases hq:x.m.body.q.length=(l.n-1) / 2+1
 ·refine H.Cj rfl jA ?_;refine gT ?_
  refine H.lo (ι:=Nat) (fun i=>[(6,.int .i64 (i:Int)),(0,.pointer (some ⟨lb,0,none⟩)),(3,.pointer (some ⟨mb,0,none⟩)),(5,.pointer (some ⟨bb,0,none⟩))]) (fun _=>f)
   (fun _=>row bb 52 (x.m.body.vals x.qp x.qc)::row mb 54 x.vals::row lb 152 (lgC l.n l.known vp V.length vc pp pc cp cc)::slc vp V.length vc 147 4 (V.flatMap VV.vals)::lst (V.map VV.own)::fam (fun r=>pstH (pb r) (l.past r)) l.n::slc cp l.n cc 195 1 (chRow l cs)::fam (chFam l cs) l.n::F)
   (fun i=>i≤x.m.body.q.length∧∀j p,j<i→x.m.body.q[j]?=some p→p.2≤x.m.deps (p.1-1).toNat∧chB l p x.m.body.view=true) (fun i=>x.m.body.q.length-i) 0 ⟨Nat.zero_le _,fun j p hj=>by omega⟩ fun i hi1=>?_
  obtain⟨hi1,hb⟩:i≤x.m.body.q.length∧∀j p,j<i→x.m.body.q[j]?=some p→p.2≤x.m.deps (p.1-1).toNat∧chB l p x.m.body.view=true:=hi1;show H _ _ _ [(6,.int .i64 (i:Int)),_,_,_] f (row bb 52 (x.m.body.vals x.qp x.qc)::row mb 54 x.vals::row lb 152 (lgC l.n l.known vp V.length vc pp pc cp cc)::slc vp V.length vc 147 4 (V.flatMap VV.vals)::lst (V.map VV.own)::fam (fun r=>pstH (pb r) (l.past r)) l.n::slc cp l.n cc 195 1 (chRow l cs)::fam (chFam l cs) l.n::F) _;by_cases hlt:i<x.m.body.q.length
  ·obtain⟨p,hp⟩:∃p,x.m.body.q[i]?=some p:=⟨_,lgE hlt⟩;have hpm:=List.mem_of_getElem? hp;have hpq:=hm.q p hpm
   obtain⟨r,hre⟩:∃r,r=(p.1-1).toNat:=⟨_,rfl⟩;have hr:r<l.n:=jA
   have hr11:r<11:=jA
   have hrz:p.1-1=(r:Nat):=jA
   obtain⟨qb,qoff,qcs,qT,qfr,hqp,hqfb,hqcs⟩:=hqat i p hp;have rd:∀A,Rd f A qb (qoff+i*2) (pairV p):=fun A=>Rd.imm hqfb hqcs;have hch:=fun G=>changed_fn f G (lb:=lb) (l:=l) (kn:=l.known) (vp:=vp) (vl:=V.length) (vc:=vc) (pp:=pp) (pc:=pc) (cp:=cp) (cc:=cc) (cs:=cs) hpq hn.2 (fun r=>Nat.le_trans (hL.cl r) jA) x.m.body.view
   refine gM ?_;refine qgu ?_;refine HB.qu [0,1,2,3,4,5,6,7,8,9,10,11,12,13,14,15,16,17,18,19,20,21,22,23,24,25] 3 ?_;refine gP ?_;refine qgP ?_;refine gP ?_;refine HQ.Ab rfl rfl rfl (Rd1.of (i:=1) (rd _) rfl) rfl ?_;refine gP ?_;refine qgP ?_;refine qjo ?_;refine qhe ?_;refine gJ ?_;by_cases h1:p.2≤x.m.deps r
   ·skip;refine gZ ?_;refine qgP ?_;refine HQ.Ad (ls:=pairV p) rfl rfl rfl (rd _) rfl rfl ?_;refine qfw ?_;refine HB.ev 26 ?_;refine qhW ?_;refine qkr ?_;refine qew ?_;skip;refine H.cr (hch _) ?_
    cases hcb:chB l p x.m.body.view with
    | true =>
     refine qkC ?_;refine gW ?_;exact qbg
    | false =>
     refine qkC ?_;refine gD ?_;refine qfR ?_;refine qfb ?_;refine H.Ae rfl rfl iD (LgP.no ?_);unfold Lgs.begins;rw[if_neg (fun h=>h hq),if_pos (List.all_eq_false.2 ⟨p,hpm,by rw[hcb,Bool.and_false];decide⟩)]
   ·skip;refine gZ ?_;refine qeo ?_;refine HB.ev 26 ?_;refine qgH ?_;refine HB.qu [27,28] 0 ?_;refine qfh ?_;refine gD ?_;refine qfR ?_;refine qfb ?_;refine H.Ae rfl rfl iD (LgP.no ?_);unfold Lgs.begins;rw[if_neg (fun h=>h hq),if_pos (List.all_eq_false.2 ⟨p,hpm,by rw[←hre,decide_eq_false h1,Bool.false_and];decide⟩)]
  ·have hall:(x.m.body.q.all fun q=>decide (q.2≤x.m.deps (q.1-1).toNat)&&chB l q x.m.body.view)=true:=List.all_eq_true.2 fun p hp=>by
    exact qbN
   clear hb;refine gM ?_
   refine H.lo (ι:=Nat×Int×Int) (fun s=>[(9,.int .i64 (s.1:Int)),(7,.int .u64 s.2.1),(8,.int .i64 s.2.2),(0,.pointer (some ⟨lb,0,none⟩)),(3,.pointer (some ⟨mb,0,none⟩)),(5,.pointer (some ⟨bb,0,none⟩))]) (fun _=>f) (fun _=>row bb 52 (x.m.body.vals x.qp x.qc)::row mb 54 x.vals::row lb 152 (lgC l.n l.known vp V.length vc pp pc cp cc)::slc vp V.length vc 147 4 (V.flatMap VV.vals)::lst (V.map VV.own)::fam (fun r=>pstH (pb r) (l.past r)) l.n::slc cp l.n cc 195 1 (chRow l cs)::fam (chFam l cs) l.n::F)
    (fun s=>s.1≤x.m.body.q.length∧bestQ l.past x.m.body.view (x.m.body.q.drop s.1) s.2=bestQ l.past x.m.body.view x.m.body.q (0,0)) (fun s=>x.m.body.q.length-s.1) (0,0,0) ⟨Nat.zero_le _,rfl⟩ fun s hs=>?_
   obtain⟨i,u,long⟩:=s;obtain⟨hi1,hbq⟩:i≤x.m.body.q.length∧bestQ l.past x.m.body.view (x.m.body.q.drop i) (u,long)=bestQ l.past x.m.body.view x.m.body.q (0,0):=hs;show H _ _ _ [(9,.int .i64 (i:Int)),(7,.int .u64 u),(8,.int .i64 long),_,_,_] f (row bb 52 (x.m.body.vals x.qp x.qc)::row mb 54 x.vals::row lb 152 (lgC l.n l.known vp V.length vc pp pc cp cc)::slc vp V.length vc 147 4 (V.flatMap VV.vals)::lst (V.map VV.own)::fam (fun r=>pstH (pb r) (l.past r)) l.n::slc cp l.n cc 195 1 (chRow l cs)::fam (chFam l cs) l.n::F) _;obtain⟨pbb,poff,hpp0,rdp0⟩:=hiF.past (by show 0<l.n;omega);have hpp:pp=some ⟨pbb,poff,none⟩:=hpp0;have rdp:∀ {A:List HP} {r:Nat},r<l.n→Rd1 f A pbb (poff+r) (.pointer (some ⟨pb r,0,none⟩)):=fun {A r} hr=>rdp0 (Le.refl f) hr
   clear hpp0 rdp0;by_cases hlt2:i<x.m.body.q.length
   ·obtain⟨p,hp⟩:∃p,x.m.body.q[i]?=some p:=⟨_,lgE hlt2⟩;have hpm:=List.mem_of_getElem? hp;have hpq:=hm.q p hpm
    obtain⟨r,hre⟩:∃r,r=(p.1-1).toNat:=⟨_,rfl⟩;have hr:r<l.n:=jA
    have hrz:p.1-1=(r:Nat):=jA
    obtain⟨qb,qoff,qcs,qT,qfr,hqp,hqfb,hqcs⟩:=hqat i p hp;have rd:∀A,Rd f A qb (qoff+i*2) (pairV p):=fun A=>Rd.imm hqfb hqcs;rw[show x.m.body.q.drop i=p::x.m.body.q.drop (i+1) by rw[List.drop_eq_getElem_cons hlt2,(List.getElem?_eq_some_iff.1 hp).2]]at hbq
    rw[bestQ_cons]at hbq;rw[←hre]at hbq;have hwf:=hL.wf r hr;have hil:=hL.il r hr
    have halen:=all_len (l.past r);refine gM ?_
    refine H.dq ?_;refine gP ?_;refine HQ.Ak (b:=qb) (off:=qoff) (i:=i) rfl kH rfl rfl hlt2 rfl ?_;refine qjo ?_;refine gK ?_;refine qhS ?_;refine qkx ?_;refine pstH_openH fun eb ec=>?_;refine qfF ?_;refine gT ?_
    refine H.lo (ι:=Nat×Int×Int) (fun s=>[(11,.int .i64 (s.1:Int)),(7,.int .u64 s.2.1),(8,.int .i64 s.2.2),(10,.pointer (some ⟨pb r,0,none⟩)),(9,.int .i64 (i:Int)),(0,.pointer (some ⟨lb,0,none⟩)),(3,.pointer (some ⟨mb,0,none⟩)),(5,.pointer (some ⟨bb,0,none⟩))]) (fun _=>f)
     (fun _=>row bb 52 (x.m.body.vals x.qp x.qc)::row (pb r) 194 [.int .u64 (l.past r).g,.slice (some ⟨eb,0,none⟩) ((l.past r).init.length+1) ec]::slc (some ⟨eb,0,none⟩) ((l.past r).init.length+1) ec 191 2 (flatV voteV (l.past r).all)::fam (updF (fun r=>pstH (pb r) (l.past r)) r emp) l.n::row mb 54 x.vals::row lb 152 (lgC l.n l.known vp V.length vc pp pc cp cc)::slc vp V.length vc 147 4 (V.flatMap VV.vals)::lst (V.map VV.own)::slc cp l.n cc 195 1 (chRow l cs)::fam (chFam l cs) l.n::F)
     (fun s=>s.1≤(l.past r).all.length∧bestOf x.m.body.view ((l.past r).all.drop s.1) s.2=bestOf x.m.body.view (l.past r).all (u,long)) (fun s=>(l.past r).all.length-s.1) (0,u,long) ⟨Nat.zero_le _,rfl⟩ fun s hs=>?_
    obtain⟨k,u2,long2⟩:=s;obtain⟨hk1,hbo⟩:k≤(l.past r).all.length∧bestOf x.m.body.view ((l.past r).all.drop k) (u2,long2)=bestOf x.m.body.view (l.past r).all (u,long):=hs;show H _ _ _ [(11,.int .i64 (k:Int)),(7,.int .u64 u2),(8,.int .i64 long2),_,_,_,_,_] f (_::_::_::_::_::_::_::_::_::_::F) _;by_cases hk:k<(l.past r).all.length
    ·obtain⟨w,hw⟩:∃w,(l.past r).all[k]?=some w:=⟨_,lgE hk⟩;rw[show(l.past r).all.drop k=w::(l.past r).all.drop (k+1) by rw[List.drop_eq_getElem_cons hk,(List.getElem?_eq_some_iff.1 hw).2]]at hbo;rw[zbv]at hbo;refine gM ?_;refine qgK ?_;refine H.Ad (ls:=voteV w) rfl rfl rfl (by rw[Nat.zero_add];exact Rd.slcElem (vals:=voteV) (xs:=(l.past r).all) voteV_len jC (by rw[←flatV_flat];exact .there _ (.there _ (.here _ _ _))) hw) rfl rfl ?_;refine H.Aj (ls:=voteV (0,0)) rfl rfl rfl fun wb=>?_;refine H.Ag (ls:=voteV (0,0)) (vs:=voteV w) (ls':=voteV w) rfl rfl rfl (zaa rfl) rfl rfl (Nat.le_refl 2) aP0 ?_;by_cases h1:w.1<x.m.body.view
     ·by_cases h2 : u2 < w.1
      ·rw[if_pos ⟨h1,.inl h2⟩]at hbo;exact qbt
      ·by_cases h3:w.1=u2
       ·by_cases h4:long2<w.2
        ·rw[if_pos ⟨h1,.inr ⟨h3,h4⟩⟩]at hbo;exact qbt
        ·rw[if_neg (by rintro⟨_,h|⟨_,h⟩⟩;exact h2 h;exact h4 h)]at hbo;exact qaN
       ·rw[if_neg (by rintro⟨_,h|⟨h,_⟩⟩;exact h2 h;exact h3 h)]at hbo;exact qaN
     ·rw[if_neg (fun h=>h1 h.1)]at hbo;exact qaN
    ·have e:k=(l.past r).all.length:=jA
     subst e;rw[List.drop_length]at hbo;have hbo:(u2,long2)=bestOf x.m.body.view (l.past r).all (u,long):=hbo;rw[←hbo]at hbq
     refine gN ?_;refine H.pf (x:=fam (updF _ _ _) _) ?_;refine H.pf (x:=slc (some ⟨eb,0,none⟩) _ ec _ _ _) ?_;refine H.pf (x:=row (pb r) _ _) ?_;refine H.imp (zay (b:=pb r) (eb:=eb) (ec:=ec) (s:=l.past r)) ?_;refine H.By (g:=fun r=>pstH (pb r) (l.past r)) hr ?_;refine qhQ ?_;exact H.ag (i+1,u2,long2) ⟨by show i+1≤x.m.body.q.length;omega,hbq⟩ jW
   ·have e:i=x.m.body.q.length:=jA
    subst e;rw[List.drop_length]at hbq;have hbq:(u,long)=bestQ l.past x.m.body.view x.m.body.q (0,0):=hbq;have hbest:=hL.best hm
    rw[←hbq]at hbest;obtain⟨vi,w,hv1,hv2,hlo,hhi⟩:∃i w,vwAt l.vs u=some i∧l.vs[i]?=some w∧0≤long∧long≤(w.all.length:Int):=hbest;obtain⟨X,hX,rfl⟩:=hiF.of hv2;have hX:V[vi]?=some X:=hX;have hXm:=List.mem_of_getElem? hX
    have hvi:=(List.getElem?_eq_some_iff.1 hX).1;have hvs:V.map VV.w=l.vs:=hi.vs
    have hVl:V.length=l.vs.length:=hi.len;have hvl:=hL.vl
    have hXs:ListAt fl X.sp 40 Req.vals X.w.s:=hi.s X hXm;have hXl:=hL.al X.w (by rw[←hvs];exact List.mem_map_of_mem hXm)
    have hXa:=X.w.all_len;have hview:=fun G=>lgview_fn f G (lb:=lb) (n:=l.n) (kn:=l.known) (V:=V) (vp:=vp) (vc:=vc) (pp:=pp) (pc:=pc) (cp:=cp) (cc:=cc) jA u
    rw[show vwZ (V.map VV.w) u=(vi:Int) by unfold vwZ;rw[hvs,hv1]]at hview;obtain⟨ln,hln⟩:∃ln:Nat,long=(ln:Int):=⟨long.toNat,by omega⟩;subst hln;obtain⟨r0,hr0e⟩:∃r0,r0=orgI x.m:=⟨_,rfl⟩;have hor:=hm.o;have hr0:r0<l.n:=by rw[hr0e];unfold orgI;omega
    have hr0z:x.m.origin-1=(r0:Nat):=by rw[hr0e];unfold orgI;omega
    have hwf:=hL.wf r0 hr0;have hil:=hL.il r0 hr0
    refine qfI ?_;refine gM ?_;refine H.Au (p:=vp) (n0:=V.length) (c:=vc) at1 jA fun vb hvb=>?_;subst hvb;refine qgu ?_;refine HB.qu [0,1,2,3,4,5,10] 6 ?_;refine qfw ?_;refine HB.ev 6 ?_;refine H.cr (hview _) ?_;refine qeg ?_;refine HB.qu [7,8] 3 ?_;skip;refine HQ.Ak (i:=vi) rfl rfl rfl rfl hvi rfl ?_;refine HQ.Ad (ls:=X.vals) rfl rfl rfl (by rw[Nat.zero_add];exact Rd.slcElem VV.len jC at1 hX) rfl rfl ?_;refine qhH ?_;refine qiX ?_;refine H.Ci (x:=X.own) (i:=vi) jH ?_;refine H.callE rfl rfl rfl (all_fn f _ hfl hXs jA) fun ap=>?_;obtain⟨qp,qc⟩:=ap;refine gA ?_;refine H.Cm (p:=qp) (c:=qc) aP0 fun hcap _ _=>?_;refine H.pf (x:=lst ((V.map VV.own).set vi emp)) ?_;refine H.pf (x:=X.own) ?_;refine H.Cl (xs:=V.map VV.own) (i:=vi) jH ?_;refine H.pf (x:=slc (some ⟨vb,0,none⟩) _ vc _ _ _) ?_;refine qew ?_;refine qeS ?_;refine HB.qu [11,12] 0 ?_;refine HQ.slice (lo:=none) (hi:=some (.tmp 138)) (mx:=none) (lv:=0) (hv:=ln) (mv:=qc) rfl rfl rfl ⟨_,_,rfl,rfl⟩ rfl (fun h=>by cases h) (Nat.zero_le _) jA (Nat.le_refl _) rfl ?_;rw[slP0,Nat.sub_zero,Nat.sub_zero];refine qgv ?_;refine gA ?_;refine qfF ?_;refine qeu ?_;refine qew ?_;refine qke ?_;refine qjt ?_;refine gV ?_;refine HQ.Ak (b:=pbb) (off:=poff) (i:=r0) rfl ke rfl hr0z hr0 rfl ?_;refine HQ.Ab rfl rfl rfl (by rw[Nat.mul_one];exact rdp hr0) rfl ?_;refine qfw ?_;refine HB.ev 12 ?_;refine qfU ?_;refine H.Bq hr0 ?_;have hent:=fun G=>pst_enter f G (pb r0) (l.past r0) hwf jA x.m.body.view (ln:Int);refine H.cr (hent _) ?_
    cases hek:(l.past r0).enterOk x.m.body.view ln with
    | false =>
     rw[show(l.past r0).enter x.m.body.view ln=l.past r0 by unfold PM.enter;rw[hek];rfl];refine H.By (g:=fun r=>pstH (pb r) (l.past r)) hr0 ?_;refine qiy ?_;refine gD ?_;refine H.pd (x:=slc qp _ qc _ _ _) ?_;refine qhW ?_;refine qfe ?_;refine H.pf (x:=slc (some ⟨vb,0,none⟩) _ vc _ _ _) ?_;refine qew ?_;refine qfR ?_;refine H.imp (zai ⟨V,some ⟨vb,0,none⟩,vc,pp,pc,cp,cc,pb,cs⟩ hiF) ?_;refine H.Ae rfl rfl iD (LgP.no ?_);unfold Lgs.begins;rw[if_neg (fun h=>h hq),if_neg (by rw[hall];decide),←hbq,←hr0e,hek,if_pos rfl]
    | true =>
     refine H.famPut (g:=fun r=>pstH (pb r) (l.past r)) hr0 ?_;rw[pst_updF];refine qiy ?_;obtain⟨NV,hNV⟩:∃NV:VV,NV=⟨⟨x.m.body.view,x.m.number,X.w.all.take ln,[]⟩,qp,qc,none,0⟩:=⟨_,rfl⟩;have htl:(X.w.all.take ln).length=ln:=by rw[List.length_take];omega
     have hNVv:NV.vals=[.int .u64 x.m.body.view,.int .u64 x.m.number,.slice qp ln qc,.slice none 0 0]:=by
      rw[hNV];show [_,_,Value.slice qp (X.w.all.take ln).length qc,_]=_;rw[htl];rfl
     refine gR ?_;refine H.Aj (ls:=[.int .u64 0,.int .u64 0,.slice none 0 0,.slice none 0 0]) rfl rfl rfl fun wb=>?_;refine H.Ag (ls:=[.int .u64 0,.int .u64 0,.slice none 0 0,.slice none 0 0]) (vs:=[.int .u64 x.m.body.view,.int .u64 x.m.number,.slice qp ln qc,.slice none 0 0]) (ls':=[.int .u64 x.m.body.view,.int .u64 x.m.number,.slice qp ln qc,.slice none 0 0]) rfl rfl rfl (zaa rfl) rfl rfl (Nat.le_refl 4) aP0 ?_;rw[←hNVv];refine gA ?_;refine H.Bw (x:=slc qp _ qc _ _ _) jB fun g hg hd=>?_;have hSat:ListAt (un f g) qp 40 Req.vals (X.w.all.take ln):=((zbh Req.len hg).mono (Le.right hd)).takeL ln
     have hbeg:l.begins x.m=(true,{l with past:=updF l.past r0 ((l.past r0).enter x.m.body.view ln),vs:=insV NV.w l.vs}):=by
      unfold Lgs.begins;rw[if_neg (fun h=>h hq),if_neg (by rw[hall];decide),←hbq,←hr0e];show(if(l.past r0).enterOk x.m.body.view ln=false then(false,l)else _)=_;rw[if_neg (by rw[hek];decide)];show(true,({l with past:=_,vs:=insV ⟨_,_,(match vwAt l.vs u with|none=>[]|some i=>(l.vs[i]?.map Vw.all).getD []).take ((ln:Int)).toNat,[]⟩ l.vs}:Lgs))=_;rw[hv1];show(true,({l with past:=_,vs:=insV ⟨_,_,((l.vs[vi]?.map Vw.all).getD []).take ((ln:Int)).toNat,[]⟩ l.vs}:Lgs))=_;rw[hv2,Int.toNat_natCast,hNV];rfl
     have hbeg1:(l.begins x.m).1=true:=by rw[hbeg]
     have hNVo:VV.own NV=emp:=by
      rw[hNV];exact slc_emp _ _
     have hle2:=Le.un f g;have hiG:=hiF.mono hle2
     refine qew ?_;refine qg ?_;refine qhw ?_;refine HQ.Ad (ls:=NV.vals) rfl rfl rfl (Rd.ofRow aP0) rfl rfl ?_;refine qjw ?_;refine H.Aq (out:=NV.vals) rfl rfl rfl rfl jC jC rfl rfl fun eb=>?_;refine gA ?_;refine qew ?_;refine qg ?_;refine qeS ?_;refine HB.ev 7 ?_;refine H.Av (sz:=4) (p:=some ⟨vb,0,none⟩) (n0:=V.length) (c:=vc) (xs:=V.flatMap VV.vals) (m:=1) (news:=NV.vals) rfl rfl rfl rfl rfl (fun p' c'=>jB) (Src.slice (Rd.ofRow jB) rfl) (zaa rfl) rfl jA jA fun p2 c2=>?_;refine qeW ?_;refine H.Ba (ls:=lgC l.n l.known (some ⟨vb,0,none⟩) V.length vc pp pc cp cc) (ls':=lgC l.n l.known p2 (V.length+1) c2 pp pc cp cc) rfl rfl rfl rfl at1 jJ ?_;refine qeR ?_;refine qhh ?_;refine qhW ?_;refine qfe ?_;refine H.pf (x:=slc p2 _ c2 _ _ _) ?_;refine qew ?_;refine qfF ?_;refine qg ?_
     have hfin:∀K,K≤V.length→K=insK x.m.body.view l.vs→∀z,stars (row lb 152 (lgC l.n l.known p2 (V.length+1) c2 pp pc cp cc)::slc p2 (V.length+1) c2 147 4 ((V.take K++NV::V.drop K).flatMap VV.vals)::lst (V.map VV.own)::fam (fun r=>pstH (pb r) (updF l.past r0 ((l.past r0).enter x.m.body.view ln) r)) l.n::slc cp l.n cc 195 1 (chRow l cs)::fam (chFam l cs) l.n::F) z→stars (logsH (un f g) lb (l.begins x.m).2::F) z:=fun K hK hKi z hz=>by
      have hlst:lst ((V.take K++NV::V.drop K).map VV.own)=lst (V.map VV.own):=by
       show stars ((V.take K++NV::V.drop K).map VV.own)=stars (V.map VV.own)
       have hp:(NV.own::V.map VV.own).Perm ((V.take K++NV::V.drop K).map VV.own):=by
        conv=>lhs;rw[←List.take_append_drop K V]
        exact(List.perm_middle.symm).map VV.own
       rw[←lst_perm hp,hNVo];exact zcl _
      have hmap:(V.take K++NV::V.drop K).map VV.w=insV NV.w l.vs:=by
       have e:insK NV.w.v l.vs=K:=by rw[hNV];exact hKi.symm
       unfold insV;rw[e,←hvs,List.map_append,List.map_cons,List.map_take,List.map_drop]
      rw[hbeg];refine zai (l:={l with past:=updF l.past r0 ((l.past r0).enter x.m.body.view ln),vs:=insV NV.w l.vs}) ⟨V.take K++NV::V.drop K,p2,c2,pp,pc,cp,cc,pb,cs⟩ ⟨hmap,fun y hy=>?_,hiG.p⟩ z ?_
      ·rcases List.mem_append.1 hy with h|h
       ·exact hiG.s y (List.mem_of_mem_take h)
       ·rcases List.mem_cons.1 h with h|h
        ·rw[h,hNV];exact hSat
        ·exact hiG.s y (List.mem_of_mem_drop h)
      ·show stars (row lb _ (lgC l.n l.known p2 (V.take K++NV::V.drop K).length c2 pp pc cp cc)::slc p2 (V.take K++NV::V.drop K).length c2 _ 4 _::lst ((V.take K++NV::V.drop K).map VV.own)::_) z;rw[ins_len hK,hlst];exact hz
     refine H.loop (ι:=Nat×VV) (fun s=>[(14,.int .i64 (s.1:Int)),(15,.pointer (some ⟨wb,0,none⟩)),(0,.pointer (some ⟨lb,0,none⟩)),(5,.pointer (some ⟨bb,0,none⟩))]) (fun _=>un f g)
      (fun s=>row wb 147 NV.vals::row bb 52 (x.m.body.vals x.qp x.qc)::row lb 152 (lgC l.n l.known p2 (V.length+1) c2 pp pc cp cc)::slc p2 (V.length+1) c2 147 4 ((V.take s.1++s.2::V.drop s.1).flatMap VV.vals)::lst (V.map VV.own)::fam (fun r=>pstH (pb r) (updF l.past r0 ((l.past r0).enter x.m.body.view ln) r)) l.n::slc cp l.n cc 195 1 (chRow l cs)::fam (chFam l cs) l.n::F)
      (fun s=>s.1≤V.length∧insKF x.m.body.view l.vs s.1=insK x.m.body.view l.vs) (fun s=>s.1) (V.length,NV) ⟨Nat.le_refl _,by show insKF _ _ V.length=_;rw[hVl];rfl⟩ ⟨rfl,rfl,rfl,rfl,trivial⟩ rfl jK fun s hs=>?_
     obtain⟨k,y⟩:=s;obtain⟨hk,hins⟩:k≤V.length∧insKF x.m.body.view l.vs k=insK x.m.body.view l.vs:=hs;show H _ _ _ [(14,.int .i64 (k:Int)),_,_,_] (un f g) (_::_::_::slc p2 (V.length+1) c2 _ 4 ((V.take k++y::V.drop k).flatMap VV.vals)::_::_::_::_::F) _;have hil2:=ins_len (V:=V) (y:=y) hk;refine H.Au (p:=p2) (n0:=V.length+1) (c:=c2) at3 jA fun vb2 hvb2=>?_
     subst hvb2;by_cases h0:k=0
     ·have hins2:k=insK x.m.body.view l.vs:=by
       rw[h0]at hins;rw[h0];exact hins
      refine gA ?_;refine H.dq ?_;refine gZ ?_;refine gW ?_;exact qas
     ·obtain⟨j,hj⟩:∃j,k=j+1:=⟨k-1,by omega⟩;obtain⟨z,hz⟩:∃z,V[j]?=some z:=⟨_,lgE jA⟩;have hzg:(V.take k++y::V.drop k)[j]?=some z:=by rw[ins_get jA hk];exact hz
      have hvz:l.vs[j]?=some z.w:=hiF.at hz
      have hstep:insKF x.m.body.view l.vs k=if x.m.body.view<z.w.v then insKF x.m.body.view l.vs j else k:=by
       rw[hj];show(match l.vs[j]? with|none=>j+1|some x_1=>if x.m.body.view<x_1.v then insKF x.m.body.view l.vs j else j+1)=_;rw[hvz]
      rw[hstep]at hins;clear hstep;refine gA ?_;refine H.dq ?_;refine gZ ?_;refine HQ.Ak (i:=j) rfl rfl rfl jA jA rfl ?_;refine gP ?_;refine HQ.Ab rfl rfl rfl (Rd1.of (i:=0) (by rw[Nat.zero_add];exact Rd.slcElem VV.len jC at3 hzg) rfl) rfl ?_;refine gZ ?_;by_cases hlv:x.m.body.view<z.w.v
      ·rw[if_pos hlv]at hins;refine gG ?_;refine H.pf (x:=slc (some ⟨vb2,0,none⟩) _ c2 _ _ _) ?_;refine qew ?_;refine qiq ?_;refine HQ.Ak (i:=j) rfl rfl rfl jA jA rfl ?_;refine HQ.Ad (ls:=z.vals) rfl rfl rfl (by rw[Nat.zero_add];exact Rd.slcElem VV.len jC at1 hzg) rfl rfl ?_;refine HQ.Ah (i:=k) rfl rfl rfl rfl jA rfl ?_;refine qeA ?_;refine HB.ev 14 ?_;refine H.storeE (vals:=VV.vals) (xs:=V.take k++y::V.drop k) (i:=k) (z:=z) VV.len jC (zaa rfl) rfl rfl rfl jA at1 ?_;subst hj;rw[ins_step hz];refine qje ?_;refine H.pf (x:=slc (some ⟨vb2,0,none⟩) _ c2 _ _ _) ?_;refine qew ?_;refine qfF ?_;refine qg ?_;refine H.Bh (d:=14) (u:=.int .i64 (j:Int)) rfl (by first|rfl|(congr 1;done)|(congr 1;omega)) ?_;exact H.ag (j,z) ⟨by show j≤V.length;omega,hins⟩ kO
      ·rw[if_neg hlv]at hins;have hins2:=hins;refine gc ?_
       exact qas
 ·refine H.Ch rfl jA ?_;refine gT ?_;refine qfR ?_;refine qfb ?_;refine H.Ae rfl rfl iD (LgP.no ?_);unfold Lgs.begins;rw[if_pos hq]
theorem rauth_fn(r:Req):Fn prog 107 [.agg r.vals.toArray] f F (Ret (.bool r.auth) f F):=by
 have has:=fun G=>rasked_fn f G r;have hsd:=fun G=>rsigned_fn f G r
 unfold Req.auth;unfold Req.signed at hsd;by_cases ha:r.asked
 ·rw[if_pos ha]at hsd;rw[decide_eq_true ha,Bool.true_and];rw[decide_eq_true ha]at has;have heq:eqC (b32 r.sig) (b32 r.tag)=eq32 r.tag r.sig:=eqC_comm _ _;generalize eq32 r.tag r.sig=e at heq⊢
  generalize r.sig=t at hsd heq;refine Fn.e1 func107 ntmps107 fun base=>?_;refine qeM fun qb=>?_;refine qik ?_;refine HB.qu [0] 10 ?_;refine qh ?_;refine HB.qu [2,3,6,7] 5 ?_;refine gB ?_;refine qfo ?_;refine gP ?_;refine HQ.Ad (ls:=b32 r.tag) rfl rfl rfl (req_tag aP0) rfl rfl ?_;refine qeo ?_;refine HB.ev 4 ?_;refine H.cr (hsd _) ?_;refine qeg ?_;refine HB.qu [5,8,9,10] 0 ?_;refine HQ.fieldN (xs:=({r with tag:=t}:Req).vals) (ls:=b32 t) rfl rfl rfl inferInstance rfl inferInstance rfl rfl ?_;refine HQ.aggEq (xs:=b32 t) (ys:=b32 r.tag) (D:=4) rfl rfl rfl rfl jE jE jE jE jC heq rfl ?_;exact qby
 ·rw[decide_eq_false ha,Bool.false_and];rw[decide_eq_false ha]at has;refine Fn.e1 func107 ntmps107 fun base=>?_;refine qeM fun qb=>?_;refine qik ?_;refine HB.qu [0] 10 ?_;refine qh ?_;refine HB.qu [2,3,6,7] 5 ?_;refine qhY ?_;refine HB.ev 4 ?_;refine qgH ?_;refine HB.qu [5,8,9,10] 0 ?_;exact qby
end
end Go.Proofs.YtkaknokcbhiigaaGreatDoor
