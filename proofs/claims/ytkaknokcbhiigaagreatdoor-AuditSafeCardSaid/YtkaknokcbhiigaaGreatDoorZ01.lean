/- Parts of the proof. No conditions. -/
import Derived.Calls
import Derived.Tactics
import Derived.KernelRfl
import Derived.Below
import Derived.WalkKit
import Derived.Orders
import Derived.StillTail
set_option linter.unusedSectionVars false
set_option linter.unusedSimpArgs false
set_option linter.unusedVariables false
namespace Go.Proofs.YtkaknokcbhiigaaGreatDoor
open Go
structure Bx(q:Prop):Prop where
 o:q
theorem lnA{α:Type _}{a b:List α}:(a++b).length=a.length+b.length:=List.length_append
theorem lgE{α:Type _}{l:List α}{i:Nat}(h:i<l.length):l[i]?=some l[i]:=List.getElem?_eq_getElem h
theorem iD{α:Type}{p:α→Prop}:∀x,p x→p x:=fun _ h=>h
theorem jA{p:Prop}(k:p:=by omega):p:=k
theorem jB{p:Prop}(k:p:=by repeat constructor):p:=k
theorem jC{p:Prop}(k:p:=by decide):p:=k
theorem jD{p:Prop}(k:p:=by with_reducible (repeat(first|exact zbi|exact zaw|exact zao|exact zan|refine zav ?_|refine zap ?_|refine zas ?_|refine zat ?_|refine zbj ?_))):p:=k
theorem jE{p:Prop}(k:p:=by kernel_rfl):p:=k
theorem jF{p:Prop}(k:p:=by repeat(first|exact zad|refine zab ?_|refine zah ?_|refine zak ?_)):p:=k
theorem jG{p:Prop}(k:p:=by rw[zac];exact(Nat.mul_one _).symm):p:=k
theorem jH{p:Prop}(k:p:=by rw[List.getElem?_map,hX];rfl):p:=k
theorem jI{p:Prop}(k:p:=by show x.q.length-(i+1)<x.q.length-i;omega):p:=k
theorem jJ{p:Prop}(k:p:=by repeat(first|exact .here _ _ _|apply SetV.there)):p:=k
theorem jK{p:Prop}(k:p:=by simp):p:=k
theorem jL{p:Prop}(k:p:=by decide+kernel):p:=k
theorem jM{p:Prop}(k:p:=by with_reducible (repeat(first|exact blind_fnM|refine zab ?_|refine zah ?_|refine zak ?_))):p:=k
theorem jN{p:Prop}(k:p:=by rw[Nat.zero_add];exact hVd (.there _ (.there _ (.there _ (.here _ _ _))))):p:=k
theorem jO{p:Prop}(k:p:=by rw[h];decide):p:=k
theorem jP{p:Prop}(k:p:=by first|rfl|(congr 1;omega)):p:=k
theorem jQ{p:Prop}(k:p:=by rw[Nat.mul_one,Nat.zero_add];exact hset):p:=k
theorem jR{p:Prop}(k:p:=by show(l.past r).all.length-(k+1)<(l.past r).all.length-k;omega):p:=k
theorem jS{p:Prop}(k:p:=by show ml.length-(k+1)<ml.length-k;omega):p:=k
theorem jT{p:Prop}(k:p:=by show(l.ch r).length-(i+1)<(l.ch r).length-i;omega):p:=k
theorem jU{p:Prop}(k:p:=by show 11-(i+1)<11-i;omega):p:=k
theorem jV{p:Prop}(k:p:=by rw[decide_eq_false hxj,Bool.false_and];decide):p:=k
theorem jW{p:Prop}(k:p:=by show x.m.body.q.length-(i+1)<x.m.body.q.length-i;omega):p:=k
theorem jX{p:Prop}(k:p:=by simp[Bod.mayK]):p:=k
theorem jY{p:Prop}(k:p:=by rw[wr_i64 (by omega)];omega):p:=k
theorem jZ{p:Prop}(k:p:=by show _=row wb _ (wRow S (j+1+16))::_;rw[show j+1+16=j+16+1 by omega];rfl):p:=k
theorem ja{p:Prop}(k:p:=by rw[Nat.zero_add,Nat.mul_one];exact hset):p:=k
theorem jb{p:Prop}(k:p:=by rw[decide_eq_false (by omega),Bool.false_and];decide):p:=k
theorem jc{p:Prop}(k:p:=by unfold Bod.own;rw[hk]):p:=k
theorem jd{p:Prop}(k:p:=by rw[List.length_take];omega):p:=k
theorem je{p:Prop}(k:p:=by simp;omega):p:=k
theorem jf{p:Prop}(k:p:=by show 64-(i+1)<64-i;omega):p:=k
theorem jg{p:Prop}(k:p:=by show l.length-(i+1)<l.length-i;omega):p:=k
theorem jh{p:Prop}(k:p:=by show _=some (Value.slice (some ⟨sv,0,none⟩) ml.length vc);rfl):p:=k
theorem ji{p:Prop}(k:p:=by rw[kRow_len];omega):p:=k
theorem jj{p:Prop}(k:p:=by rw[show(2:Int)=((2:Nat):Int)from rfl,tdiv64,wr_i64 (by omega)]):p:=k
theorem jk{p:Prop}(k:p:=by rw[decide_eq_true hxj,hl];rfl):p:=k
theorem jl{p:Prop}(k:p:=by split<;>omega):p:=k
theorem jm{p:Prop}(k:p:=by rw[hfr.eval hx,hfr.eval hy];exact hr):p:=k
theorem jn{p:Prop}(k:p:=by simp at e⊢;exact .inr e):p:=k
theorem jo{p:Prop}(k:p:=by rw[List.length_map];omega):p:=k
theorem jp{p:Prop}(k:p:=by rw[hz,wr_i64 (by omega)]):p:=k
theorem jq{p:Prop}(k:p:=by rw[hl,decide_eq_true hxj];decide):p:=k
theorem jr{p:Prop}(k:p:=by simp[un,sing]):p:=k
theorem js{p:Prop}(k:p:=by simpa using hx):p:=k
theorem jt{p:Prop}(k:p:=by show X.w.p.length-(j+1)<X.w.p.length-j;omega):p:=k
theorem ju{p:Prop}(k:p:=by rw[hk];decide):p:=k
theorem jv{p:Prop}(k:p:=by show i+1≤64;omega):p:=k
theorem jw{p:Prop}(k:p:=by show R.tk.length-(k+1)<R.tk.length-k;omega):p:=k
theorem jx{p:Prop}(k:p:=by simpa using h):p:=k
theorem jy{p:Prop}(k:p:=by rw[kv_keys];exact h.not_all hv):p:=k
theorem jz{p:Prop}(k:p:=by show i+1≤_;omega):p:=k
theorem kA{p:Prop}(k:p:=by rw[List.length_map];exact h2.1):p:=k
theorem kB{p:Prop}(k:p:=by rw[List.length_map];exact h1.1):p:=k
theorem kC{p:Prop}(k:p:=by have:=List.mem_range.1 hj;omega):p:=k
theorem kD{p:Prop}(k:p:=by rw[List.getElem?_toArray,←getO_eq];exact hgo):p:=k
theorem kE{p:Prop}(k:p:=by rw[lnA,List.length_take,h];omega):p:=k
theorem kF{p:Prop}(k:p:=by show k-(i+1)<k-i;omega):p:=k
theorem kG{p:Prop}(k:p:=by show 8-(i+1)<8-i;omega):p:=k
theorem kH{p:Prop}(k:p:=by rw[←hqp];rfl):p:=k
theorem kI{p:Prop}(k:p:=by rfl):p:=k
theorem kJ{p:Prop}(k:p:=by rw[List.getElem?_toArray,←getO_eq];exact ho):p:=k
theorem kK{p:Prop}(k:p:=by show vs.length-(k+1)<vs.length-k;omega):p:=k
theorem kL{p:Prop}(k:p:=by unfold dmOf mk?;rw[lk_cons,if_neg (by omega)]):p:=k
theorem kM{p:Prop}(k:p:=by rw[lnA];omega):p:=k
theorem kN{p:Prop}(k:p:=by show ps.length-(i+1)<ps.length-i;omega):p:=k
theorem kO{p:Prop}(k:p:=by show j<j+1;omega):p:=k
theorem kP{p:Prop}(k:p:=by simp at ht⊢;exact .inr ht):p:=k
theorem kQ{p:Prop}(k:p:=by rw[Nat.mul_one];exact zau m.deps (by omega)):p:=k
theorem kR{p:Prop}(k:p:=by show c.length-(m+k)<c.length-m;omega):p:=k
theorem kS{p:Prop}(k:p:=by show R.length-(i+1)<R.length-i;omega):p:=k
theorem kT{p:Prop}(k:p:=by show l.length-(j+1)<l.length-j;omega):p:=k
theorem kU{p:Prop}(k:p:=by rw[List.length_drop];omega):p:=k
theorem kV{p:Prop}(k:p:=by rw[h1];decide):p:=k
theorem kW{p:Prop}(k:p:=by rintro⟨_,h,_⟩;cases h):p:=k
theorem kX{p:Prop}(k:p:=by rw[Nat.mul_one,Nat.zero_add];exact hstr):p:=k
theorem kY{p:Prop}(k:p:=by rw[←hp];exact .there _ (.here _ _ _)):p:=k
theorem kZ{p:Prop}(k:p:=by rw[h];rfl):p:=k
theorem ka{p:Prop}(k:p:=by rw[Nat.zero_add,Nat.mul_one];exact hgk0):p:=k
theorem kd{p:Prop}(k:p:=by rw[←hoe];exact hnum):p:=k
theorem ke{p:Prop}(k:p:=by rw[←hpp];rfl):p:=k
theorem kf{p:Prop}(k:p:=by show i+1≤11;omega):p:=k
theorem kg{p:Prop}(k:p:=by show i+1≤k;omega):p:=k
theorem ki{p:Prop}(k:p:=by show i+1≤8;omega):p:=k
theorem kj{p:Prop}(k:p:=by simpa using hl):p:=k
theorem ko{p:Prop}(k:p:=by show y<y+1;omega):p:=k
theorem kp{p:Prop}(k:p:=by rw[←hvb];exact h):p:=k
theorem kq{p:Prop}(k:p:=by simp[sing,e]):p:=k
theorem kr{p:Prop}(k:p:=by simp[hx]):p:=k
variable {p:Prop}
theorem qa(k:p:=by
 refine H.pd (x:=row bb _ _) ?_
 refine H.pd (x:=row mb _ _) ?_
 refine H.pf (x:=fam (chFam l cs) _) ?_
 refine H.pf (x:=slc cp _ cc _ _ _) ?_
 refine H.pf (x:=fam (fun r=>pstH _ _) _) ?_
 refine H.pf (x:=lst (V.map VV.own)) ?_
 refine H.pf (x:=slc vp _ vc _ _ _) ?_
 refine H.pf (x:=row lb _ _) ?_
 refine H.imp (zai ⟨V,vp,vc,pp,pc,cp,cc,pb,cs⟩ hiF) ?_
 refine H.Ae rfl rfl iD (LgP.no ?_)
 rfl):p:=k
theorem qaa(k:p:=by
 refine H.pf (x:=fam (pcFam l cs) _) ?_
 refine H.pf (x:=slc cp _ cc _ _ _) ?_
 refine H.pf (x:=fam (fun r=>pastH _ _) _) ?_
 refine H.pf (x:=lst (V.map PV.own)) ?_
 refine H.pf (x:=mp vb _ _) ?_
 refine H.pf (x:=row lb _ _) ?_
 refine H.imp (zam ⟨V,vb,pp,pc,cp,cc,pb,cs⟩ hiF) ?_
 exact H.rt ⟨rfl,rfl,rfl⟩):p:=k
theorem qab(k:p:=by
 refine gW ?_
 refine H.loop (ι:=Nat×Option Addr×Nat) (fun i=>[(8,.int .i64 ((k:Int)-1-(i.1:Int))),(7,.slice i.2.1 (l++beTop k n i.1).length i.2.2),(1,.int .u64 n)]) (fun _=>f)
  (fun i=>slc i.2.1 (l++beTop k n i.1).length i.2.2 5 1 (bytesV (l++beTop k n i.1))::A) (fun i=>i.1≤k) (fun i=>k-i.1) (0,p2,c2) (Nat.zero_le _) ?_ rfl ?_ fun i hi=>?_
 ·refine⟨?_,?_,rfl,trivial⟩
  ·show some (Value.int .i64 ((k:Int)-1))=some (Value.int .i64 ((k:Int)-1-((0:Nat):Int)))
   simp
  ·show some (Value.slice p2 l.length c2)=some (Value.slice p2 (l++[]).length c2)
   simp
 ·show slc p2 l.length c2 _ 1 (bytesV l)::A=slc p2 (l++[]).length c2 _ 1 (bytesV (l++[]))::A
  simp
 ·obtain⟨i,p',c'⟩:=i
  have hi:i≤k:=hi
  show H _ _ _ [(8,.int .i64 ((k:Int)-1-(i:Int))),(7,.slice p' (l++beTop k n i).length c'),(1,.int .u64 n)] _ (slc p' (l++beTop k n i).length c' _ 1 (bytesV (l++beTop k n i))::A) _
  generalize hacc:l++beTop k n i=acc
  have hlen:acc.length=l.length+i:=by rw[←hacc,lnA,beTop_len]
  by_cases hlt:i<k
  ·have hexp:min (8*((k:Int)-1-(i:Int))).toNat IntKind.u64.bits=8*(k-1-i):=by simp only[IntKind.bits];omega
   have hsh:n.fdiv (2 ^ (min (8*((k:Int)-1-(i:Int))).toNat IntKind.u64.bits))=n.fdiv (2 ^ (8*(k-1-i))):=by rw[hexp]
   refine gc ?_
   refine H.Bo rfl rfl rfl rfl jA hsh rfl ?_
   refine H.Bk rfl rfl (byteAt_wrap n (k-1-i)) rfl ?_
   refine H.Aq rfl rfl rfl rfl jC jC rfl rfl fun tb=>?_
   refine H.Av (m:=1) rfl rfl rfl rfl rfl (fun p' c'=>jB) (Src.slice (Rd.ofRow jB) rfl) (zaa rfl) rfl jA jA fun p'' c''=>?_
   refine gW ?_
   refine H.Ac (.here _ _) ?_
   have e1:l++beTop k n (i+1)=acc++[byteAt n (k-1-i)]:=by rw[←hacc];simp[beTop]
   refine H.Bh (d:=8) (u:=.int .i64 ((k:Int)-1-((i+1:Nat):Int))) rfl (congrArg (Value.int .i64) jA) ?_
   refine H.Ar (i+1,p'',c'') kg kF ⟨rfl,?_,rfl,trivial⟩ rfl ?_
   ·show some _=some (Value.slice p'' (l++beTop k n (i+1)).length c'')
    rw[e1,lnA]
    exact rfl
   ·show _=slc p'' (l++beTop k n (i+1)).length c'' _ 1 (bytesV (l++beTop k n (i+1)))::A
    rw[e1,lnA,zaf]
    rfl
  ·have:i=k:=jA
   subst this
   subst hacc
   refine gc ?_
   exact H.r1 ⟨p',c',rfl,rfl,rfl⟩):p:=k
theorem qac(k:p:=by
 skip
 refine H.lo (ι:=Nat) (fun x=>[(11,.int .i64 (x:Int)),(10,.int .i64 (i2:Int)),(0,.slice (some ⟨sb,0,none⟩) n c),(1,.int .i64 (a:Int))]) (fun _=>f) (fun _=>slc (some ⟨sb,0,none⟩) n c 35 1 (arr d)::F) (fun x=>x≤j∧scanDown (fun x=>!ltInt x d[a]!) d i2 x=scanDown (fun x=>!ltInt x d[a]!) d i2 j) (fun x=>x) j ⟨Nat.le_refl j,rfl⟩ fun x hx=>?_
 obtain⟨hx,hs⟩:x≤j∧scanDown (fun x=>!ltInt x d[a]!) d i2 x=scanDown (fun x=>!ltInt x d[a]!) d i2 j:=hx
 show H _ _ _ [(11,.int .i64 (x:Int)),_,_,_] f (slc (some ⟨sb,0,none⟩) n c _ 1 (arr d)::F) _
 by_cases hxj:i2≤x
 ·skip
  obtain⟨y,rfl⟩:∃y,x=y+1:=⟨x-1,by omega⟩
  rw[scanDown]at hs
  refine gA ?_
  refine H.db (S:=[_]) rfl ?_
  refine HB.qu [0,1,2,3,4,5,6,7,8,9,10,11] 3 ?_
  refine gJ ?_
  refine HQ.Ah (i:=y+1) rfl rfl rfl jA jA rfl ?_
  refine HQ.Ab rfl rfl rfl (Rd.arr (.here _ _ _) jA) rfl ?_
  refine gB ?_
  refine HQ.Ah (i:=a) rfl rfl rfl jA jA rfl ?_
  refine HQ.Ab rfl rfl rfl (Rd.arr (.here _ _ _) jA) rfl ?_
  refine HQ.Aa rfl ?_
  refine HB.ev 12 ?_
  refine H.Af rfl rfl rfl (zcj f _ d[y+1]! d[a]!) ?_
  refine gA ?_
  refine H.on0 rfl ?_
  refine HB.qu [13,14] 0 ?_
  refine gZ ?_
  refine HQ.Aa rfl ?_
  refine HB.dn ?_
  cases hl:ltInt d[y+1]! d[a]! with
  | false =>
   rw[if_pos jk]at hs
   refine gL ?_
   exact H.ag y ⟨by show y≤j;omega,hs⟩ ko
  | true =>
   rw[if_neg jq]at hs
   refine gW ?_
   exact H.Bc () trivial ⟨by rw[←hs];rfl,rfl,rfl,rfl,trivial⟩ rfl rfl
 ·skip
  have hs:x=scanDown (fun x=>!ltInt x d[a]!) d i2 j:=by
   rw[←hs]
   cases x with
   |zero=>rfl
   |succ y=>rw[scanDown,if_neg jV]
  refine gA ?_
  refine H.db (S:=[_]) rfl ?_
  refine HB.qu [0,1,2,3,4,5,6,7,8,9,10,11] 3 ?_
  refine gJ ?_
  refine HQ.Aa rfl ?_
  refine HB.ev 12 ?_
  refine gC ?_
  refine H.on0 rfl ?_
  refine HB.qu [13,14] 0 ?_
  refine gQ ?_
  refine HQ.Aa rfl ?_
  refine HB.dn ?_
  refine gW ?_
  exact H.Bc () trivial ⟨by rw[←hs];rfl,rfl,rfl,rfl,trivial⟩ rfl rfl):p:=k
theorem qad(k:p:=by
 skip
 refine H.lo (ι:=Nat) (fun x=>[(10,.int .i64 (x:Int)),(11,.int .i64 (j:Int)),(0,.slice (some ⟨sb,0,none⟩) n c),(1,.int .i64 (a:Int))]) (fun _=>f) (fun _=>slc (some ⟨sb,0,none⟩) n c 35 1 (arr d)::F) (fun x=>x≤j+1∧scanUp (fun x=>ltInt x d[a]!) d j x=scanUp (fun x=>ltInt x d[a]!) d j i) (fun x=>j+1-x) i ⟨by show i≤j+1;omega,rfl⟩ fun x hx=>?_
 obtain⟨hx,hs⟩:x≤j+1∧scanUp (fun x=>ltInt x d[a]!) d j x=scanUp (fun x=>ltInt x d[a]!) d j i:=hx
 show H _ _ _ [(10,.int .i64 (x:Int)),_,_,_] f (slc (some ⟨sb,0,none⟩) n c _ 1 (arr d)::F) _
 rw[scanUp]at hs
 by_cases hxj:x≤j
 ·skip
  refine gA ?_
  refine H.db (S:=[_]) rfl ?_
  refine HB.qu [0,1,2,3,4,5,6,7,8,9,10,11] 2 ?_
  refine gJ ?_
  refine HQ.Ah (i:=x) rfl rfl rfl jA jA rfl ?_
  refine HQ.Ab rfl rfl rfl (Rd.arr (.here _ _ _) jA) rfl ?_
  refine gB ?_
  refine HQ.Ah (i:=a) rfl rfl rfl jA jA rfl ?_
  refine HQ.Ab rfl rfl rfl (Rd.arr (.here _ _ _) jA) rfl ?_
  refine HQ.Aa rfl ?_
  refine HB.ev 12 ?_
  refine H.Af rfl rfl rfl (zcj f _ d[x]! d[a]!) ?_
  refine gA ?_
  refine H.on0 rfl ?_
  refine HB.qu [13] 0 ?_
  refine gQ ?_
  refine HQ.Aa rfl ?_
  refine HB.dn ?_
  cases hl:ltInt d[x]! d[a]! with
  | false =>
   rw[if_neg jq]at hs
   refine gW ?_
   exact H.Bc () trivial ⟨by rw[←hs];rfl,rfl,rfl,rfl,trivial⟩ rfl rfl
  | true =>
   rw[if_pos jk]at hs
   refine gL ?_
   exact H.ag (x+1) ⟨by show x+1≤j+1;omega,hs⟩ (by show j+1-(x+1)<j+1-x;omega)
 ·skip
  rw[if_neg jV]at hs
  refine gA ?_
  refine H.db (S:=[_]) rfl ?_
  refine HB.qu [0,1,2,3,4,5,6,7,8,9,10,11] 2 ?_
  refine gJ ?_
  refine HQ.Aa rfl ?_
  refine HB.ev 12 ?_
  refine gC ?_
  refine H.on0 rfl ?_
  refine HB.qu [13] 0 ?_
  refine gQ ?_
  refine HQ.Aa rfl ?_
  refine HB.dn ?_
  refine gW ?_
  exact H.Bc () trivial ⟨by rw[←hs];rfl,rfl,rfl,rfl,trivial⟩ rfl rfl):p:=k
theorem qae(k:p:=by
 exact H.Ax rfl rfl rfl (Rd.ofRow jB) rfl (fun _ s=>s.drop (.here _ _)) ⟨rfl,rfl,rfl⟩):p:=k
theorem qaf(k:p:=by
 skip
 refine Fn.e3 func93 ntmps93 fun base=>?_
 refine gA ?_
 refine H.box (ls:=x.vals) rfl rfl rfl rfl fun mb=>?_
 refine gI ?_
 refine H.db (S:=[_]) rfl ?_
 refine HB.qu [0,1,2,3,4,5] 3 ?_
 refine gP ?_
 refine HQ.Ad (ls:=x.m.body.req.vals) rfl rfl rfl (msg_req (.here _ _ _)) rfl rfl ?_
 refine HQ.Aa rfl ?_
 refine HB.ev 6 ?_
 refine H.Aj (ls:=Req.zero.vals) rfl rfl rfl fun qb=>?_
 refine gA ?_
 refine H.pf (x:=row mb _ _) ?_
 refine H.on0 rfl ?_
 refine HB.qu [7] 1 ?_
 refine gB ?_
 refine HQ.Aa rfl ?_
 refine HB.ev 8 ?_
 refine H.Ag (ls:=Req.zero.vals) (vs:=x.m.body.req.vals) (ls':=x.m.body.req.vals) rfl rfl rfl (zaa rfl) rfl rfl (Nat.le_refl 40) (.there _ (.here _ _ _)) ?_
 refine gA ?_
 refine H.on0 rfl ?_
 refine HB.dn ?_
 refine gF ?_
 refine H.Bm (enc:=keyU) (k:=x.m.body.view) rfl rfl rfl jB rfl hget rfl ?_
 refine gI ?_
 refine H.pf (x:=row lb _ _) ?_
 refine H.pf (x:=row mb _ _) ?_
 refine H.pf (x:=row qb _ _) ?_
 refine H.db (S:=[_,_,_]) rfl ?_
 refine HB.qu [0,1,3,4] 29 ?_
 refine gP ?_
 refine HQ.Aa rfl ?_
 refine HB.ev 2 ?_
 refine H.pf (x:=row lb _ _) ?_
 refine H.cr (hprim _) ?_
 refine gA ?_
 refine H.pf (x:=row lb _ _) ?_
 refine H.pf (x:=row mb _ _) ?_
 refine H.pf (x:=row qb _ _) ?_
 refine H.on0 rfl ?_
 refine HB.qu [5,6,7,8,9,10,11] 21 ?_
 refine gZ ?_
 refine HQ.Aa rfl ?_
 refine HB.ev 12 ?_
 refine gC ?_
 refine H.on0 rfl ?_
 refine HB.qu [13,14,15,16,17,18,19,20,21,22,23,24,25,26,27,28,29] 3 ?_
 refine gQ ?_
 refine HQ.Aa rfl ?_
 refine HB.ev 30 ?_
 refine gC ?_
 refine H.on0 rfl ?_
 refine HB.qu [31,32] 0 ?_
 refine gQ ?_
 refine HQ.Aa rfl ?_
 refine HB.dn ?_
 refine gD ?_
 refine H.pd (x:=row mb _ _) ?_
 refine H.pd (x:=row qb _ _) ?_
 exact qaa):p:=k
theorem qag(k:p:=by
 refine H.on0 rfl ?_
 refine HB.qu [10,11,12,13,14,15,16,17,18,19,21,22,23,24,25,26] 10 ?_
 refine gQ ?_
 refine HQ.Aa rfl ?_
 refine HB.ev 20 ?_
 refine gC ?_
 refine H.on0 rfl ?_
 refine HB.ev 27 ?_
 refine gC ?_
 refine H.on0 rfl ?_
 refine HB.qu [28,29,30,31,32] 3 ?_
 refine gQ ?_
 refine HQ.Aa rfl ?_
 refine HB.ev 33 ?_
 refine gC ?_
 refine H.on0 rfl ?_
 refine HB.qu [34,35] 0 ?_
 refine gQ ?_
 refine HQ.Aa rfl ?_
 refine HB.dn ?_
 refine gD ?_
 exact qa):p:=k
theorem qah(k:p:=by
 skip
 refine Fn.e1 func31 ntmps31 fun base=>?_
 repeat(first|(refine gh ?_)|(refine H.box (ls:=r.vals) rfl rfl rfl rfl fun xb=>?_))
 refine H.Ac (.here _ _) ?_
 refine H.Ae rfl rfl iD ⟨?_,rfl,rfl⟩
 rw[decide_eq_false]
 unfold Req.asked
 omega):p:=k
theorem qai(k:p:=by
 refine gA ?_
 refine H.box (ls:=m.vals q qc) rfl rfl rfl rfl fun mb=>?_
 refine gI ?_
 refine H.dq ?_
 refine gZ ?_
 refine gD ?_
 refine H.Ac (.here _ _) ?_
 refine H.Ae rfl rfl iD ⟨?_,rfl,rfl⟩
 simp[Msg.outer, *]):p:=k
theorem qaj(k:p:=by
 exact H.rt ⟨rfl,rfl,rfl⟩):p:=k
theorem qak(k:p:=by
 refine H.on0 rfl ?_
 refine HB.qu [31,32] 0 ?_
 refine gQ ?_
 refine HQ.Aa rfl ?_
 refine HB.dn ?_
 refine gD ?_
 refine H.pf (x:=mp X.hb _ _) ?_
 refine H.pf (x:=slc X.np _ X.nc _ _ _) ?_
 refine H.pf (x:=slc X.lp _ X.lc _ _ _) ?_
 refine H.pf (x:=row X.b _ _) ?_
 refine H.imp (zcd (x:=X)) ?_
 refine H.pf (x:=lst ((V.map PV.own).set j emp)) ?_
 refine H.pf (x:=X.own) ?_
 refine H.Cl jH ?_
 refine H.pd (x:=row mb _ _) ?_
 refine H.pd (x:=row qb _ _) ?_
 exact qaa):p:=k
theorem qal(k:p:=by
 obtain⟨hi,htk⟩:i≤l.length∧l.take i=m.take i:=hi
 by_cases hlt:i<l.length
 ·have hx:l[i]?=some l[i]:=lgE hlt
  have hy:m[i]?=some (m[i]' jA):=lgE jA
  generalize l[i]=x at hx
  generalize m[i]' jA=y at hy
  obtain⟨b,off,cs,T,fr,rfl,hfb,hcs⟩:=hp i x hx
  obtain⟨b2,off2,cs2,T2,fr2,rfl,hfb2,hcs2⟩:=hr i y hy
  have rd:∀A,Rd f A b (off+i*2) (pairV x):=fun A=>Rd.imm hfb hcs
  have rd2:∀A,Rd f A b2 (off2+i*2) (pairV y):=fun A=>Rd.imm hfb2 hcs2
  refine gG ?_
  refine H.dq ?_
  refine gB ?_
  refine HQ.Ak rfl rfl rfl rfl hlt rfl ?_
  refine HQ.Ad (ls:=pairV x) rfl rfl rfl (rd _) rfl rfl ?_
  refine gB ?_
  refine HQ.Ak rfl rfl rfl rfl jA rfl ?_
  refine HQ.Ad (ls:=pairV y) rfl rfl rfl (rd2 _) rfl rfl ?_
  refine HQ.aggNe (D:=4) (b:=!decide (x=y)) rfl rfl rfl rfl jE jE jE jE jC (by rw[eqC_pair]) rfl ?_
  by_cases hxy:x=y
  ·rw[decide_eq_true hxy]
   refine gK ?_
   refine gW ?_
   exact H.ag (i+1) ⟨by show i+1≤l.length;omega,take_eq_succ htk hx hy hxy⟩ jg
  ·rw[decide_eq_false hxy]
   refine gK ?_
   refine gD ?_
   refine H.Ae rfl rfl iD ⟨?_,rfl,rfl⟩
   rw[decide_eq_false]
   rintro rfl
   rw[hx]at hy
   exact hxy (Option.some.inj hy)
 ·have:i=l.length:=jA
  subst this
  refine gc ?_
  refine H.Ae rfl rfl iD ⟨?_,rfl,rfl⟩
  rw[decide_eq_true]
  rwa [List.take_length,hlen',List.take_length]at htk):p:=k
theorem qam(k:p:=by
 refine Fn.e3 func94 ntmps94 fun base=>?_
 refine gA ?_
 refine H.box (ls:=x.vals) rfl rfl rfl rfl fun mb=>?_
 refine gF ?_
 refine H.Bm (enc:=keyU) (k:=x.m.body.view) rfl rfl rfl jB rfl hget rfl ?_
 refine gI ?_
 refine H.pf (x:=row lb _ _) ?_
 refine H.cr (hprim _) ?_
 refine gI ?_
 refine H.pf (x:=row mb _ _) ?_
 refine H.db (S:=[_]) rfl ?_
 refine HB.qu [0,1,2,3,4,5,6,7,8,9,10,11,12,13,14,15,16,17,18,19] 4 ?_
 refine gZ ?_
 refine HQ.Aa rfl ?_
 refine HB.ev 20 ?_
 refine gC ?_
 refine H.on0 rfl ?_
 refine HB.ev 21 ?_
 refine gC ?_
 refine H.on0 rfl ?_
 refine HB.qu [22,23] 0 ?_
 refine gQ ?_
 refine HQ.Aa rfl ?_
 refine HB.dn ?_
 refine gT ?_
 refine H.pd (x:=row mb _ _) ?_
 exact qaa):p:=k
theorem qan(k:p:=by
 refine H.pd (x:=row xb _ _) ?_
 refine H.pd (x:=row zb _ _) ?_
 refine H.pf (x:=slc dp _ _ 49 _ _) ?_
 refine H.pf (x:=plogH _ lg _) ?_
 refine H.pf (x:=loreH _ lo _ _) ?_
 refine H.pf (x:=slc fp _ _ 68 _ _) ?_
 refine H.pf (x:=slc vp _ _ 56 _ _) ?_
 refine H.pf (x:=plogH _ lb _) ?_
 refine H.pf (x:=mp mb _ _) ?_
 refine H.pf (x:=slc _ _ _ 3 _ _) ?_
 refine H.pf (x:=row ab _ _) ?_
 exact H.Ar (k+1) (by show k+1≤A.tk.length;omega) (by show A.tk.length-(k+1)<A.tk.length-k;omega) ⟨rfl,rfl,rfl,rfl,rfl,rfl,rfl,rfl,trivial⟩ rfl (by show _=row ab _ _::slc _ _ _ _ 1 _::mp mb keyIn (vtV ml (votTo n (ml.map MV.m) A.tk v t (k+1)).2)::plogH f2 lb (votTo n (ml.map MV.m) A.tk v t (k+1)).1::_;rw[hvs])):p:=k
theorem qao(k:p:=by
 refine HB.ev 11 ?_
 refine H.Av (m:=1) (xs:=bytesV acc) rfl rfl rfl rfl rfl (fun p' c'=>jB) (Src.slice (Rd.ofRow jB) rfl) (zaj _) rfl jA jA fun p2 c2=>?_
 have e2:(acc++[m.body.kind]).length=acc.length+1:=by rw[lnA];rfl
 have e3:bytesV (acc++[m.body.kind])=bytesV acc++bytesV [m.body.kind]:=zaf _ _
 rw[←e3,←e2]
 generalize acc++[m.body.kind]=acc2 at e2⊢
 refine H.pd (x:=row tb2 _ _) ?_
 refine gA ?_
 refine H.pf (x:=mp _ _ _) ?_
 refine H.pf (x:=row mb _ _) ?_
 refine H.on0 rfl ?_
 refine HB.ev 14 ?_
 refine H.pf (x:=slc p2 _ _ _ _ _) ?_
 refine H.Au (.here _ _ _) jA fun b1 hp=>?_
 subst hp
 refine H.callVE2 (fs:=[]) (cs:=[]) (vs:=[.slice (some ⟨b1,0,none⟩) acc2.length c2,.agg (m.body.vals q qc).toArray]) rfl rfl rfl rfl (hput f _ m.body q qc _ c2 acc2 (Src.slcS (.here _ _ _) jG) (fun h=>by cases h) hq hm hl jA) fun p3 c3=>?_
 refine gA ?_
 refine H.pf (x:=mp _ _ _) ?_
 refine H.pf (x:=row mb _ _) ?_
 refine H.on0 rfl ?_
 refine HB.qu [15] 0 ?_
 refine gB ?_
 refine HQ.Aa rfl ?_
 refine HB.dn ?_
 refine gT ?_
 refine H.pd (x:=row mb _ _) ?_
 refine H.pd (x:=mp _ _ _) ?_
 refine H.pd (x:=slc (some ⟨b1,0,none⟩) _ _ _ _ _) ?_
 exact H.r1 ⟨p3,c3,rfl,rfl,rfl⟩):p:=k
theorem qap(k:p:=by
 repeat(first|(refine gh ?_)|(refine H.box (ls:=a.vals p c) rfl rfl rfl rfl fun ab=>?_)|(refine H.box (ls:=b.vals r d) rfl rfl rfl rfl fun bb=>?_))
 refine H.Ac (.here _ _) ?_
 refine H.Ac (.here _ _) ?_
 refine H.Ae rfl rfl iD ⟨?_,rfl,rfl⟩
 simp[Bod.eqB, *]):p:=k
theorem qaq(k:p:=by
 exact H.Ar (k+1) (by show k+1≤ml.length;omega) jS ⟨rfl,rfl,rfl,rfl,rfl,trivial⟩ rfl (by show _=auH fl ab n _ ml.length c _ vc (A.siftTo n (ml.map MV.m) (k+1)).1::mp mb encAu (sfV (A.siftTo n (ml.map MV.m) (k+1)).2)::F;rw[hps])):p:=k
theorem qar(k:p:=by
 refine H.pf (x:=slc qp _ qc _ _ _) ?_
 refine H.pf (x:=chFam l cs r) ?_
 refine H.pf (x:=row xb _ _) ?_
 refine H.Ar (i+1,qp,qc) (by show i+1≤(l.ch r).length;omega) jT ⟨rfl,rfl,?_,rfl,rfl,rfl,rfl,rfl,rfl,trivial⟩ rfl ?_
 ·show some (Value.slice qp _ qc)=some (Value.slice qp _ qc)
  rw[hnx]
 ·show _::_::slc qp _ qc _ 2 _::_=_::_::slc qp _ qc _ 2 _::_
  rw[hnx]):p:=k
theorem qas(k:p:=by
 refine H.pf (x:=row lb _ _) ?_
 refine H.pf (x:=row wb _ _) ?_
 refine H.dc [0,1,2,3,4,5,6] (S:=[_,_]) rfl ?_
 refine HB.qu [0,1,2,3,4,5,6] 1 ?_
 refine gP ?_
 refine HQ.Ad (ls:=NV.vals) rfl rfl rfl (Rd.ofRow (.here _ _ _)) rfl rfl ?_
 refine HQ.Ah (i:=k) rfl rfl rfl rfl jA rfl ?_
 refine HQ.Aa rfl ?_
 refine HB.nx [] (S':=[]) rfl ?_
 refine HB.ev 7 ?_
 refine H.storeE (vals:=VV.vals) (xs:=V.take k++y::V.drop k) (i:=k) (z:=NV) VV.len jC (zaa rfl) rfl rfl rfl jA jB ?_
 rw[ins_last hk]
 refine gA ?_
 refine H.on0 rfl ?_
 refine HB.dn ?_
 refine gT ?_
 refine H.pd (x:=row wb _ _) ?_
 refine H.pd (x:=row bb _ _) ?_
 refine H.imp (hfin _ hk hins2) ?_
 exact H.Ae rfl rfl iD ⟨g,hd,by rw[hbeg1],rfl,rfl⟩):p:=k
theorem qat(k:p:=by
 have e:s.commitOk v k most=false:=by simp[PM.commitOk];omega
 clear hopen
 refine Fn.e4 func111 ntmps111 fun base=>?_
 refine gI ?_
 refine H.draw ((0,false)::(1,false)::(2,true)::qt 30 3) jE jL jF (S:=[_,_]) rfl ?_
 refine gB ?_
 refine HQ.event ?_
 refine H.Ap rfl rfl rfl (pst_open_o f F b s eb ec hn v) fun _ _ _ hR=>?_
 obtain⟨rfl,rfl,rfl⟩:=hR
 rw[ho]
 refine gA ?_
 refine H.back (A:=[_,_]) rfl ?_
 refine gV ?_
 refine HQ.Ah rfl rfl rfl rfl jA rfl ?_
 refine gP ?_
 refine HQ.Ab rfl rfl rfl (.at0 (Rd.ofSlc jB jA) (votes_ln s)) rfl ?_
 refine gZ ?_
 refine gD ?_
 exact H.Ae rfl rfl zay ⟨by rw[e],rfl,by simp[PM.commit,e]⟩):p:=k
theorem qau(k:p:=by
 refine gX ?_
 refine H.Ad (ls:=(⟨5,1,0,Req.zero,[],noTag⟩:Bod).vals none 0) rfl rfl rfl (Rd.ofRow (.here _ _ _)) rfl rfl ?_
 refine H.Ag (ls:=(Bod.zero 0).vals none 0) (vs:=(⟨5,1,0,Req.zero,[],noTag⟩:Bod).vals none 0) (ls':=(⟨5,1,0,Req.zero,[],noTag⟩:Bod).vals none 0) rfl rfl rfl (zaa rfl) rfl rfl (Nat.le_refl 76) jB ?_
 refine gT ?_
 refine H.pd (x:=row bb _ _) ?_
 refine H.pd (x:=row xb _ _) ?_
 refine H.pf (x:=row kb _ _) ?_
 refine H.pf (x:=row wb _ _) ?_
 refine H.pf (x:=logsH _ _ _) ?_
 refine H.pf (x:=row ob _ _) ?_
 exact H.Ax (ls:=(⟨5,1,0,Req.zero,[],noTag⟩:Bod).vals none 0) rfl rfl rfl (Rd.ofRow (.here _ _ _)) rfl (fun _ s=>s.drop (.here _ _)) ⟨nil0,none,0,rfl,QAt.nil _ _,Dj.nil _,(un_nil _).symm,rfl⟩):p:=k
theorem qav(k:p:=by
 clear hno
 refine Fn.e3 func132 ntmps132 fun base=>?_
 refine gU ?_
 refine H.Ap rfl rfl rfl (last_fn f F b s jA) fun _ _ _ hR=>?_
 obtain⟨rfl,rfl,rfl⟩:=hR
 refine gg ?_
 refine H.unfold iD fun⟨eb,ec,mb⟩=>?_
 show H _ _ _ _ _ (row _ _ _::slc _ _ _ _ _ _::mp _ _ _::F) _
 refine gg ?_
 exact H.Ae rfl rfl zbb ⟨rfl,rfl,rfl⟩):p:=k
theorem qaw(k:p:=by
 refine gX ?_
 refine H.Ad (ls:=(⟨4,1,0,Req.zero,Q,noTag⟩:Bod).vals qp qc) rfl rfl rfl (Rd.ofRow (.here _ _ _)) rfl rfl ?_
 refine H.Ag (ls:=(Bod.zero 0).vals none 0) (vs:=(⟨4,1,0,Req.zero,Q,noTag⟩:Bod).vals qp qc) (ls':=(⟨4,1,0,Req.zero,Q,noTag⟩:Bod).vals qp qc) rfl rfl rfl (zaa rfl) rfl rfl (Nat.le_refl 76) jB ?_
 refine gT ?_
 refine H.pd (x:=row bb _ _) ?_
 refine H.pd (x:=row xb _ _) ?_
 refine H.pf (x:=row kb _ _) ?_
 refine H.pf (x:=row wb _ _) ?_
 refine H.pf (x:=logsH _ _ _) ?_
 refine H.pf (x:=row ob _ _) ?_
 exact H.Ax (ls:=(⟨4,1,0,Req.zero,Q,noTag⟩:Bod).vals qp qc) rfl rfl rfl (Rd.ofRow (.here _ _ _)) rfl (fun _ s=>s.drop (.here _ _)) ⟨g,qp,qc,rfl,hqa,hd,rfl,rfl⟩):p:=k
theorem qax(k:p:=by
 clear hno
 refine Fn.e3 func106 ntmps106 fun base=>?_
 refine gI ?_
 refine H.Ap rfl rfl rfl (pst_last_o f F b s eb ec jA) fun _ _ _ hR=>?_
 obtain⟨rfl,rfl,rfl⟩:=hR
 refine gg ?_
 exact H.Ae rfl rfl zay ⟨rfl,rfl,rfl⟩):p:=k
theorem qay(k:p:=by
 refine H.Ac (.here _ _) ?_
 refine H.Ae rfl rfl iD ⟨?_,rfl,rfl⟩
 simp[Bod.mayK, *]):p:=k
theorem qaz(k:p:=by
 refine gA ?_
 refine H.on0 rfl ?_
 refine HB.qu [9] 0 ?_
 refine gB ?_
 refine HQ.Aa rfl ?_
 refine HB.dn ?_
 refine H.Ac (.there _ (.here _ _)) ?_
 refine H.Ao (.there _ (.here _ _)) ?_
 exact H.Bc vb trivial ⟨rfl,rfl,rfl,trivial⟩ rfl rfl):p:=k
theorem qaA(k:p:=by
 refine H.Ak (i:=k) rfl rfl rfl rfl jA rfl ?_
 refine H.Az rfl rfl rfl rfl jB (by rw[Nat.zero_add];exact vd_set (vd:=B.1.vd) (i:=k) jA 1) ?_
 refine gW ?_
 refine H.pd (x:=row xb _ _) ?_
 refine H.pf (x:=mp mb _ _) ?_
 refine H.pf (x:=plogH _ lg _) ?_
 refine H.pf (x:=loreH _ lo _ _) ?_
 refine H.pf (x:=slc tp _ _ 3 _ _) ?_
 refine H.pf (x:=slc fp2 _ _ 68 _ _) ?_
 refine H.pf (x:=slc _ _ _ 56 _ _) ?_
 refine H.pf (x:=row ab _ _) ?_
 have hle:B.1.vd.length=(B.1.vd.set k 1).length:=by rw[List.length_set]
 rw[hle]
 refine H.imp (zce (A:={B.1 with vd:=B.1.vd.set k 1}) ⟨lo,lg,L,fp2,fc,tp,tc⟩ hj) ?_
 exact qaq):p:=k
theorem qaB(k:p:=by
 refine H.Ac (.here _ _) ?_
 refine H.Ac (.here _ _) ?_
 refine H.Ae rfl rfl iD ⟨?_,rfl,rfl⟩
 simp[Bod.eqB, *]):p:=k
theorem qaC(k:p:=by
 refine HB.ev 27 ?_
 refine H.Ag (ls:=msgZ.vals none 0) (vs:=(W.next n o x).vals qp qc) (ls':=(W.next n o x).vals qp qc) rfl rfl rfl (zaa rfl) rfl rfl (Nat.le_refl 121) jB ?_
 refine gA ?_
 refine H.on0 rfl ?_
 refine HB.dn ?_
 refine H.pf (x:=slc ap _ ac _ _ _) ?_
 refine H.pf (x:=logsH _ _ _) ?_
 refine H.pf (x:=row kb _ _) ?_
 refine H.pf (x:=row wb _ _) ?_
 refine H.pf (x:=row ob _ _) ?_
 refine H.pf (x:=row mb _ _) ?_
 refine H.pf (x:=row xb _ _) ?_
 exact H.Bc (g,qp,qc,mb) ⟨hqat,hd⟩ ⟨rfl,rfl,rfl,rfl,trivial⟩ rfl rfl):p:=k
theorem qaD(k:p:=by
 refine gI ?_
 have h1:(l++be 2 (s.size:Nat)).length=l.length+2:=by rw[lnA,be_len]
 refine H.Av rfl rfl rfl rfl rfl (fun p' c'=>.here _ _ _) Src.string (zaj _) rfl jA jA fun p2 c2=>?_
 refine gT ?_
 have h2:(l++textB s).length=(l++be 2 (s.size:Nat)).length+s.size:=by
  unfold textB;rw[←List.append_assoc,lnA,zbu]
 have h3:bytesV (l++textB s)=bytesV (l++be 2 (s.size:Nat))++bytesV s.data.toList:=by
  unfold textB;rw[←List.append_assoc,zaf]
 refine H.Bb rfl rfl rfl iD ⟨p2,c2,?_,rfl,?_⟩
 ·rw[h2]
 ·rw[h2,h3]):p:=k
theorem qaE(k:p:=by
 refine gT ?_
 refine H.pd (x:=row bb _ _) ?_
 refine H.pd (x:=row mb _ _) ?_
 refine H.pf (x:=fam (chFam l cs) _) ?_
 refine H.pf (x:=slc cp _ cc _ _ _) ?_
 refine H.pf (x:=fam (fun r=>pstH _ _) _) ?_
 refine H.pf (x:=lst (V.map VV.own)) ?_
 refine H.pf (x:=slc vp _ vc _ _ _) ?_
 refine H.pf (x:=row lb _ _) ?_
 refine H.imp (zai (l:=l.doPast r _) ⟨V,vp,vc,pp,pc,cp,cc,pb,cs⟩ ⟨hiF.vs,hiF.s,hiF.p⟩) ?_
 exact H.Ae rfl rfl iD (LgP.yes rfl)):p:=k
theorem qaF(k:p:=by
 refine H.Ac (.here _ _) ?_
 exact qaj):p:=k
theorem qaG(k:p:=by
 refine H.pd (x:=row xb _ _) ?_
 refine H.pf (x:=fam (chFam l cs) _) ?_
 refine H.pf (x:=slc cp _ cc _ _ _) ?_
 refine H.pf (x:=fam (fun r=>pstH _ _) _) ?_
 refine H.pf (x:=lst (V.map VV.own)) ?_
 refine H.pf (x:=slc vp _ vc _ _ _) ?_
 refine H.pf (x:=row lb _ _) ?_
 refine H.imp (zai ⟨V,vp,vc,pp,pc,cp,cc,pb,cs⟩ hi) ?_
 refine H.pf (x:=slc qp _ qc _ _ _) ?_
 have hqs:x.qs n l.ch (kv o) v=acc r:=by unfold A15.qs;rw[hqe,if_pos (.inl h0)]
 rw[hqs]
 exact H.r1 ⟨(qp,qc),rfl,rfl,rfl⟩):p:=k
theorem qaH(k:p:=by
 refine gL ?_
 exact H.Ar (k+1,un g g2) ⟨by show k+1≤ml.length;omega,Dj.un3' hd hd2⟩ jS ⟨rfl,rfl,jh,(by show _=some (Value.bool (A.passTo n (ml.map MV.m) (k+1)).2);rw[hb2];rfl),rfl,trivial⟩ (zbc _ _ _) (by show auH (un (un f g) g2) ab n ap ml.length c (some ⟨sv,0,none⟩) vc C.1::F=auH (un f (un g g2)) ab n ap ml.length c (some ⟨sv,0,none⟩) vc (A.passTo n (ml.map MV.m) (k+1)).1::F;rw[zbc,hps])):p:=k
theorem qaI(k:p:=by
 refine H.pd (x:=row wb _ _) ?_
 exact H.Bb rfl rfl rfl iD ⟨x,_,by omega,by omega,rfl,rfl,rfl⟩):p:=k
theorem qaJ(k:p:=by
 refine H.pd (x:=row xb _ _) ?_
 refine H.pf (x:=fam (chFam l cs) _) ?_
 refine H.pf (x:=slc cp _ cc _ _ _) ?_
 refine H.pf (x:=fam (fun r=>pstH _ _) _) ?_
 refine H.pf (x:=lst (V.map VV.own)) ?_
 refine H.pf (x:=slc vp _ vc _ _ _) ?_
 refine H.pf (x:=row lb _ _) ?_
 refine H.imp (zai ⟨V,vp,vc,pp,pc,cp,cc,pb,cs⟩ hi) ?_
 refine H.pf (x:=slc qp _ qc _ _ _) ?_
 exact H.r1 ⟨(qp,qc),rfl,rfl,rfl⟩):p:=k
theorem qaK(k:p:=by
 refine H.on0 rfl ?_
 refine HB.qu [10,11] 0 ?_
 refine gQ ?_
 refine HQ.Aa rfl ?_
 refine HB.dn ?_
 refine gD ?_
 refine H.pd (x:=row mb _ _) ?_
 refine H.pf (x:=fam (pcFam l cs) _) ?_
 refine H.pf (x:=slc cp _ cc _ _ _) ?_
 refine H.pf (x:=fam (fun r=>pastH _ _) _) ?_
 refine H.pf (x:=lst (V.map PV.own)) ?_
 refine H.pf (x:=mp vb _ _) ?_
 refine H.pf (x:=row lb _ _) ?_
 refine H.imp (zam ⟨V,vb,pp,pc,cp,cc,pb,cs⟩ hiF) ?_
 exact H.retM rfl rfl iD ⟨rfl,rfl,rfl⟩):p:=k
theorem qaL(k:p:=by
 refine gA ?_
 refine H.box (ls:=m.vals q qc) rfl rfl rfl rfl fun mb=>?_
 refine gI ?_
 refine H.dq ?_
 repeat(first|(refine gi ?_)|(refine HQ.Al (i:=(m.origin.toNat-1)) rfl rfl rfl jA jA rfl ?_)|(refine HQ.Ab rfl rfl rfl (.of (zaz jB) kQ) rfl ?_))
 refine gG ?_
 refine H.Ac (.here _ _) ?_
 refine H.Ae rfl rfl iD ⟨?_,rfl,rfl⟩
 simp[Msg.outer, *]):p:=k
theorem qaM(k:p:=by
 refine gT ?_
 refine H.Ac (.here _ _) ?_
 refine H.Ac (.there _ (.here _ _)) ?_
 exact qae):p:=k
theorem qaN(k:p:=by
 refine gX ?_
 refine H.pd (x:=row wb _ _) ?_
 exact H.ag (k+1,u2,long2) ⟨by show k+1≤(l.past r).all.length;omega,hbo⟩ jR):p:=k
theorem qaO(k:p:=by
 repeat(first|(refine gh ?_)|(refine H.box (ls:=a.vals p c) rfl rfl rfl rfl fun ab=>?_)|(refine H.box (ls:=b.vals r d) rfl rfl rfl rfl fun bb=>?_)|(refine H.Ad (ls:=a.req.vals) rfl rfl rfl (zbw jB) rfl rfl ?_)|(refine H.Ad (ls:=b.req.vals) rfl rfl rfl (zbw jB) rfl rfl ?_)|(refine H.aggEq (xs:=a.req.vals) (ys:=b.req.vals) (D:=4) rfl rfl rfl rfl jE jE jE jE jC rfl rfl ?_))
 exact qaB):p:=k
theorem qaP(k:p:=by
 refine gc ?_
 refine H.pf (x:=slc vp _ vc _ _ _) ?_
 refine H.pf (x:=row lb _ _) ?_
 refine H.pf (x:=row mb _ _) ?_
 refine H.pf (x:=row bb _ _) ?_
 refine H.db (S:=[_,_,_,_]) rfl ?_
 refine HB.qu [0,1,2,3,4,5,6,7,8] 27 ?_
 refine gQ ?_
 refine HQ.Aa rfl ?_
 refine HB.ev 9 ?_
 refine gC ?_
 exact qag):p:=k
theorem qaQ(k:p:=by
 refine Fn.e2 func210 ntmps210 fun base=>?_
 refine gU ?_
 refine H.imp (zbm hb hc) ?_
 refine H.Af rfl rfl rfl hh ?_
 refine gU ?_
 refine H.cutOpen fun p2 c2 hb2 hc2=>?_
 refine gX ?_
 refine H.imp (zbm hb2 hc2) ?_
 refine H.Af rfl rfl rfl (take_no f F cb (.inl rfl)) ?_
 refine gF ?_
 refine H.cutOpen fun p4 c4 hb4 hc4=>?_
 refine gR ?_
 exact H.Ae rfl rfl (fin ht) ⟨rfl,rfl,rfl⟩):p:=k
theorem qaR(k:p:=by
 exact H.end0 rfl iD ⟨rfl,rfl,rfl⟩):p:=k
theorem qaS(k:p:=by
 refine H.pd (x:=slc _ _ _ 35 _ _) ?_
 refine H.pf (x:=slc dp _ _ 49 _ _) ?_
 refine H.pf (x:=plogH _ lg _) ?_
 refine H.pf (x:=loreH _ lo _ _) ?_
 refine H.pf (x:=slc tp _ _ 3 _ _) ?_
 refine H.pf (x:=slc fp _ _ 68 _ _) ?_
 refine H.pf (x:=slc vp _ _ 56 _ _) ?_
 refine H.pf (x:=row ab _ _) ?_
 refine H.imp (auD_fold (A:=A) ⟨⟨lo,lg,L,fp,fc,tp,tc⟩,dp,dc⟩ hq) ?_
 exact qaj):p:=k
theorem qaT(k:p:=by
 obtain⟨b,off,h1,rd⟩:=ListAt.all (vals:=addrV) (sz:=1) (fun _=>rfl) jC h.p (by rw[List.length_map,List.length_range];exact hn)
 refine⟨b,off,h1,fun {e A r} he hr=>?_⟩
 have h2:=rd e A r (i.pb r) he (by rw[List.getElem?_map,List.getElem?_range hr];rfl)
 have h3:=Rd1.of (i:=0) h2 (v:=.pointer (some ⟨i.pb r,0,none⟩)) rfl
 rw[Nat.mul_one,Nat.add_zero]at h3
 exact h3):p:=k
theorem qaU(k:p:=by
 refine H.pd (x:=row mb _ _) ?_
 refine H.pf (x:=fam (pcFam l cs) _) ?_
 refine H.pf (x:=slc cp _ cc _ _ _) ?_
 refine H.pf (x:=fam (fun r=>pastH _ _) _) ?_
 refine H.pf (x:=lst (V.map PV.own)) ?_
 refine H.pf (x:=mp vb _ _) ?_
 refine H.pf (x:=row lb _ _) ?_
 refine H.imp (zam (l:=l.doPast r _) ⟨V,vb,pp,pc,cp,cc,pb,cs⟩ ⟨hiF.vs,hiF.p⟩) ?_
 exact qaj):p:=k
theorem qaV(k:p:=by
 exact H.Bb rfl rfl rfl iD ⟨rfl,rfl,rfl⟩):p:=k
theorem qaW(k:p:=by
 by_cases h:j=r
 ·subst h
  rw[zae]
  show _=slc (updF cs j (p,c) j).1 (updF l.ch j _ j).length (updF cs j (p,c) j).2 _ 2 ((updF l.ch j _ j).flatMap chV)
  rw[zae,zae,lnA,List.flatMap_append]
  simp
 ·rw[zag _ _ h]
  show _=slc (updF cs r (p,c) j).1 (updF l.ch r _ j).length (updF cs r (p,c) j).2 _ 2 ((updF l.ch r _ j).flatMap chV)
  rw[zag _ _ h,zag _ _ h]):p:=k
theorem qaX(k:p:=by
 repeat(first|(refine gh ?_)|(refine H.Ad (ls:=x.vals q qc) rfl rfl rfl (Rd.ofRow jB) rfl rfl ?_)|(refine H.callVR (fs:=[]) (cs:=[]) (vs:=[.agg (x.vals q qc).toArray]) rfl rfl rfl rfl (hm _) ?_))
 refine H.Ac (.here _ _) ?_
 refine H.Ac (.here _ _) ?_
 refine H.Ae rfl rfl iD ⟨?_,rfl,rfl⟩
 simp[Bod.mayP, *]):p:=k
theorem qaY(k:p:=by
 refine gc ?_
 exact H.Ar (k+1) (by show k+1≤vs.length;omega) kK ⟨rfl,rfl,rfl,(by show _=some (Value.int .i64 (((bestC (cmt l) (vs.take (k+1)) (0,0)).2:Nat):Int));rw[hsn];rfl),(by show _=some (Value.int .u64 (bestC (cmt l) (vs.take (k+1)) (0,0)).1);rw[hsn];rfl),rfl,rfl,trivial⟩ rfl rfl):p:=k
theorem qaZ(k:p:=by
 refine gU ?_
 refine H.Am rfl rfl rfl (zcb (l:=l0) f _ (Src.slcS jB jG) jA) fun p3 c3=>?_
 refine H.pd (x:=slc p2 _ c2 _ _ _) ?_
 refine gM ?_
 refine H.pd (x:=row yb _ _) ?_
 refine H.pd (x:=row mb _ _) ?_
 exact H.r1 ⟨p3,c3,rfl,rfl,rfl⟩):p:=k
theorem qba(k:p:=by
 refine H.pf (x:=slc p2 _ c2 _ _ _) ?_
 refine H.pf (x:=row lb _ _) ?_
 refine H.Ar (i+1,p2,c2,updF pb i b) (by show i+1≤n;omega) (by show n-(i+1)<n-i;omega) ⟨rfl,rfl,rfl,trivial⟩ rfl ?_
 show _::slc p2 (i+1) c2 _ 1 _::_=_::slc p2 (i+1) c2 _ 1 (((List.range (i+1)).map (updF pb i b)).flatMap addrV)::_
 rw[pbs_snoc]):p:=k
theorem qbb(k:p:=by
 refine gA ?_
 refine H.Aj (ls:=List.replicate 8 (.int .u32 0)) rfl rfl rfl fun kb=>?_
 refine gA ?_
 refine H.buildA (out:=Sha.start.vals) rfl rfl rfl rfl rfl ?_
 refine H.Ag (ls:=List.replicate 8 (.int .u32 0)) (vs:=Sha.start.vals) (ls':=Sha.start.vals) rfl rfl rfl (zaa rfl) rfl rfl (Nat.le_refl 8) jB ?_
 refine gT ?_
 exact qae):p:=k
theorem qbc(k:p:=by
 refine gT ?_
 exact H.r1 ⟨p1,c1,rfl,rfl,rfl⟩):p:=k
theorem qbd(k:p:=by
 skip
 try simp only[Bool.not_eq_true]at *
 refine Fn.e1 func49 ntmps49 fun base=>?_
 exact qai):p:=k
theorem qbe(k:p:=by
 exact SetV.mid (l:=x.vals qp qc) (l':=({x with view:=(s.num 8:Nat)}:Bod).vals qp qc) (i:=1) jJ pre post):p:=k
theorem qbf(k:p:=by
 refine H.Ae rfl rfl iD ⟨?_,rfl,rfl⟩
 simp[fewZ, *]):p:=k
theorem qbg(k:p:=by
 refine H.ag (i+1) ⟨by show i+1≤x.m.body.q.length;omega,fun j y hj hy=>?_⟩ jW
 by_cases e:j=i
 ·subst e;rw[hp]at hy;cases hy;exact⟨by rw[←hre];exact h1,hcb⟩
 ·exact hb j y jA hy):p:=k
theorem qbh(k:p:=by
 exact H.Bc () trivial ⟨rfl,rfl,rfl,rfl,rfl,trivial⟩ rfl rfl):p:=k
theorem qbi(k:p:=by
 refine H.Bv (i:=i) rfl rfl rfl rfl jA rfl ?_
 refine H.Az (xs':=(bytesV T).take (i+1)++(bytesV K).drop (i+1)) rfl rfl rfl rfl (.here _ _ _) (by rw[Nat.zero_add];exact hset) ?_
 refine gW ?_
 exact H.ag (i+1) jv jf):p:=k
theorem qbj(k:p:=by
 refine H.on0 rfl ?_
 refine HB.qu [26,27] 0 ?_
 refine gQ ?_
 refine HQ.Aa rfl ?_
 refine HB.dn ?_
 refine gD ?_
 refine H.pd (x:=row ab _ _) ?_
 refine H.pd (x:=row mb _ _) ?_
 refine H.Ae rfl rfl iD ⟨?_,rfl,rfl⟩
 rw[hqo]
 rfl):p:=k
theorem qbk(k:p:=by
 exact H.ag (i+1,d) ⟨by show i+1≤n+1;omega,hd,hR⟩ (by show b-(i+1)<b-i;omega)):p:=k
theorem qbl(k:p:=by
 refine Fn.e1 func52 ntmps52 fun base=>?_
 refine gY ?_
 exact qaj):p:=k
theorem qbm(k:p:=by
 refine gW ?_
 exact H.Bc () trivial ⟨by rw[←hs];rfl,rfl,rfl,rfl,trivial⟩ rfl rfl):p:=k
theorem qbn(k:p:=by
 skip
 refine gc ?_
 refine H.ag (i+1) ⟨by show i+1≤11;omega,fun j hj=>?_⟩ jU
 by_cases e:j=i
 ·rw[e];exact hdt
 ·exact hdn j jA):p:=k
theorem qbo(k:p:=by
 have h:=hfz.2.2
 rw[show(2:Int)=((2:Nat):Int)from rfl,tmod64]at h
 omega):p:=k
theorem qbp(k:p:=by
 refine Fn.e1 func171 ntmps171 fun base=>?_
 refine gA ?_
 refine H.box (ls:=x.vals q qc) rfl rfl rfl rfl fun xb=>?_
 refine gg ?_
 refine H.Ac (.here _ _) ?_
 exact H.Ae rfl rfl iD ⟨by simp[h1],rfl,rfl⟩):p:=k
theorem qbq(k:p:=by
 refine H.Ac (.here _ _) ?_
 refine H.Ac (.here _ _) ?_
 refine H.Ag (ls:=zb 32) (vs:=b32 (Sha.hmac key l1)) (ls':=b32 (Sha.hmac key l1)) rfl rfl rfl (zaa rfl) rfl rfl (Nat.le_refl 32) jB ?_
 refine gT ?_
 exact qae):p:=k
theorem qbr(k:p:=by
 refine HB.ev 8 ?_
 refine H.Ag (ls:=[.nilFunc,.nilFunc,.nilFunc]) (vs:=[.nilFunc,.nilFunc,.nilFunc]) (ls':=[.nilFunc,.nilFunc,.nilFunc]) rfl rfl rfl (zaa rfl) rfl rfl (Nat.le_refl 3) jB ?_
 exact qaz):p:=k
theorem qbs(k:p:=by
 exact H.Ax rfl rfl rfl (Rd.ofRow jB) rfl (fun _ s=>s.drop (.there _ (.here _ _))) ⟨rfl,rfl,rfl⟩):p:=k
theorem qbt(k:p:=by
 refine gX ?_
 refine H.pd (x:=row wb _ _) ?_
 exact H.ag (k+1,w.1,w.2) ⟨by show k+1≤(l.past r).all.length;omega,hbo⟩ jR):p:=k
theorem qbu(k:p:=by
 refine gW ?_
 refine H.Ac (.here _ _) ?_
 refine H.Ae rfl rfl iD ⟨?_,rfl,rfl⟩
 rw[hchk,if_neg jA,if_neg hc4,if_neg (by rintro(h|h);omega;rw[hab]at h;cases h)]):p:=k
theorem qbv(k:p:=by
 refine H.sb [(108,.int .i64 (0:Nat)),(107,.int .i64 (R.tk.length:Nat)),(106,.slice tp R.tk.length tc),(11,.pointer (some ⟨nb,0,none⟩)),(6,.slice none 0 0),(1,.slice ap ml.length c)] ?_
 exact tail trivial):p:=k
theorem qbw(k:p:=by
 skip
 try simp only[Bool.not_eq_true]at *
 refine Fn.e2 func127 ntmps127 fun base=>?_
 exact qap):p:=k
theorem qbx(k:p:=by
 skip
 try simp only[Bool.not_eq_true]at *
 refine Fn.e2 func30 ntmps30 fun base=>?_
 exact qap):p:=k
theorem qby(k:p:=by
 refine gQ ?_
 refine HQ.Aa rfl ?_
 refine HB.dn ?_
 refine gT ?_
 exact qaF):p:=k
theorem qbz(k:p:=by
 refine gQ ?_
 refine HQ.Aa rfl ?_
 refine HB.dn ?_
 refine gD ?_
 exact qa):p:=k
theorem qbA(k:p:=by
 refine HB.ev 8 ?_
 refine H.Ag (ls:=[.nilFunc,.nilFunc,.nilFunc]) (vs:=codecCells f1 f2 f3) (ls':=codecCells f1 f2 f3) rfl rfl rfl (zaa rfl) rfl rfl (Nat.le_refl 3) jB ?_
 exact qaz):p:=k
theorem qbB(k:p:=by
 exact⟨m1,m2,d,e,row_slc kI jC a,r⟩):p:=k
theorem qbC(k:p:=by
 skip
 refine Fn.e1 func27 ntmps27 fun base=>?_
 exact qai):p:=k
theorem qbD(k:p:=by
 refine Fn.e2 func128 ntmps128 fun base=>?_
 refine gX ?_
 have e:s.changeOk v=false:=by simp[PM.changeOk];omega
 exact H.Ae rfl rfl zbb ⟨by rw[e],rfl,by simp[PM.change,e]⟩):p:=k
theorem qbE(k:p:=by
 unfold Sha.turn
 rw[List.getD_eq_getElem?_getD,List.getElem?_map,lgE (by rw[hfl];exact hi),List.getD_eq_getElem?_getD,lgE (by rw[hfl];exact hi)]
 rfl):p:=k
theorem qbF(k:p:=by
 rw[e]at h1
 exact h1.sub rfl):p:=k
theorem qbG(k:p:=by
 refine gG ?_
 refine H.Ae rfl rfl iD ⟨?_,rfl,rfl⟩
 simp):p:=k
theorem qbH(k:p:=by
 refine H.on0 rfl ?_
 refine HB.qu [13,14,15,16,17,18,19,20,21,22,23,24,25,26,27,28,29] 3 ?_
 refine gQ ?_
 refine HQ.Aa rfl ?_
 refine HB.ev 30 ?_
 refine gC ?_
 exact qak):p:=k
theorem qbI(k:p:=by
 exact H.Ax rfl rfl rfl (Rd.ofRow (.here _ _ _)) rfl (fun _ s=>s.drop (.here _ _)) ⟨rfl,rfl,rfl⟩):p:=k
theorem qbJ(k:p:=by
 refine gD ?_
 refine H.Ac (.here _ _) ?_
 refine H.Ae rfl rfl iD ⟨?_,rfl,rfl⟩
 rw[hchk,if_neg jA,if_neg hc4,if_pos (.inr hab)]):p:=k
theorem qbK(k:p:=by
 rcases Nat.lt_or_ge b w.heap.size with h|h
 ·exact h
 ·simp[Array.getElem?_eq_none h]at hb):p:=k
theorem qbL(k:p:=by
 have h1:=lgsOf_known hW1 (sub k all).length (Nat.le_refl _)
 rw[List.take_length]at h1
 rw[h1]
 show((cnt (sub k all) i:Nat):Int)=k i
 rw[cnt_sub h0 all hW i,minU_all hk]):p:=k
theorem qbM(k:p:=by
 rw[h 0 jC,h 1 jC,h 2 jC,h 3 jC,h 4 jC,h 5 jC,h 6 jC,h 7 jC,h 8 jC,h 9 jC,h 10 jC]):p:=k
theorem qbN(k:p:=by
 obtain⟨j,hj⟩:=List.getElem?_of_mem hp
 have hjl:=(List.getElem?_eq_some_iff.1 hj).1
 obtain⟨h1,h2⟩:=hb j p jA hj
 rw[decide_eq_true h1,h2]
 rfl):p:=k
theorem qbO(k:p:=by
 refine H.pf (x:=lst (V.map PV.own)) ?_
 refine H.pf (x:=mp vb _ _) ?_
 refine H.pf (x:=row lb _ _) ?_
 refine H.imp (zam ⟨V,vb,pp,pc,cp,cc,pb,cs⟩ hi) ?_
 exact qaV):p:=k
theorem qbP(k:p:=by
 refine Fn.e2 func137 ntmps137 fun base=>?_
 refine gF ?_
 refine H.cr (hbs _) ?_
 refine gR ?_
 refine H.Ae rfl rfl iD ⟨?_,rfl,rfl⟩
 congr 1):p:=k
theorem qbQ(k:p:=by
 refine H.on0 rfl ?_
 refine HB.qu [10] 0 ?_
 refine gB ?_
 refine HQ.Aa rfl ?_
 refine HB.dn ?_
 exact H.Bc (p3,c3) trivial ⟨rfl,rfl,trivial⟩ rfl rfl):p:=k
theorem qbR(k:p:=by
 have hlen:(⟨v,s.all,v,k⟩:PM).init.length=s.init.length+1:=by simp[PM.all]
 rw[hvw,hlen]at hf
 exact H.Ae rfl rfl hf ⟨rfl,rfl,rfl⟩):p:=k
theorem qbS(k:p:=by
 exact H.ag (i+1) ki kG):p:=k
theorem qbT(k:p:=by
 exact H.Ar (k+1) (by show k+1≤ml.length;omega) jS ⟨rfl,rfl,rfl,rfl,trivial⟩ rfl (by rw[hws])):p:=k
theorem qbU(k:p:=by
 refine H.pd (x:=row mb _ _) ?_
 exact qaj):p:=k
theorem qbV(k:p:=by
 rw[e]
 refine H.Ac (.here _ _) ?_
 refine H.By hr ?_
 refine H.pf (x:=slc _ _ _ _ _ _) ?_
 refine H.pf (x:=row lb _ _) ?_
 exact qaj):p:=k
theorem qbW(k:p:=by
 obtain⟨x,hx,e⟩:=lastD_mem hp
 rw[e]
 unfold strm at hx
 rw[List.mem_filter]at hx
 exact hok.mono x hx.1 (of_decide_eq_true hx.2) i hi):p:=k
theorem qbX(k:p:=by
 unfold Instr.keyThatStays
 rw[List.getElem?_toArray,hei]
 simp only[Option.map_some,Option.getD_some,entOf,hk.same,if_true,Sem.run_pure]):p:=k
theorem qbY(k:p:=by
 unfold hRow
 have hl:(s.vals++bytesV part).length=72:=by rw[lnA,zac,h];rfl
 rw[List.getElem?_append_right jA,hl]
 rfl):p:=k
theorem qbZ(k:p:=by
 refine gG ?_
 refine H.Ae rfl rfl iD ⟨?_,rfl,rfl⟩
 rw[←h1]):p:=k
theorem qca(k:p:=by
 rw[List.take_of_length_le (by rw[zac,htl];exact Nat.le_refl _),List.drop_eq_nil_of_le (by rw[zac,hfl];exact Nat.le_refl _),List.append_nil]):p:=k
theorem qcb(k:p:=by
 exact H.Ae rfl rfl iD ⟨by rw[e],rfl,by simp[PM.commit,e]⟩):p:=k
theorem qcc(k:p:=by
 unfold splice
 rw[Nat.zero_add,←hl,List.take_left,List.drop_eq_nil_of_le (by rw[lnA];exact Nat.le_refl _),List.append_nil]):p:=k
theorem qcd(k:p:=by
 have hm:=hp.mem_iff.1 (List.getElem_mem hlt)
 obtain⟨r,hr,e⟩:=List.mem_map.1 hm
 rw[←e]
 exact hnn r (List.mem_range.1 hr)):p:=k
theorem qce(k:p:=by
 have:f b=none:=by
  rcases hd b with h|h
  ·exact h
  ·rw[hg]at h
   simp[sing]at h
 unfold un
 rw[this,hg]
 simp[sing]):p:=k
theorem qcf(k:p:=by
 simp only[execOp,resolve,invoke,builtin,Sem.run_bind,Sem.run_pure,Result.andThen_ok,List.map_toArray,List.map_cons,List.map_nil,h]):p:=k
theorem qcg(k:p:=by
 refine gA ?_
 refine H.box (ls:=pairV x) rfl rfl rfl rfl fun qb=>?_
 refine gI ?_
 refine H.dq ?_
 refine gV ?_
 refine gT ?_
 exact qaF):p:=k
theorem qch(k:p:=by
 rcases Nat.lt_or_ge p (strm W.all (orgI x)).length with h|h
 ·exact h
 ·rw[List.getElem?_eq_none h]at hp;cases hp):p:=k
theorem qci(k:p:=by
 exact H.Ae rfl rfl iD ⟨by simp[PM.isOpen,hv],rfl,rfl⟩):p:=k
theorem qcj(k:p:=by
 unfold Lgs.take
 rw[if_neg hno,if_neg (by rintro(h|h);exact h kd;rw[hdin]at h;cases h)]):p:=k
theorem qck(k:p:=by
 obtain⟨rfl,rfl,rfl⟩:=hR
 rw[ho]
 refine gY ?_
 exact H.Ae rfl rfl iD ⟨rfl,rfl,by simp[PM.prepare,ho]⟩):p:=k
theorem qcl(k:p:=by
 refine gW ?_
 exact H.ag (j,swp d (j+1) j) ⟨by show j≤i;omega,by rw[zbl];exact hd,hr⟩ kO):p:=k
theorem qcm(k:p:=by
 obtain⟨x,hx,rfl⟩:=List.mem_map.1 hm
 exact(hg x hx).2.2.1.1):p:=k
theorem qcn(k:p:=by
 have e:s.changeOk v=false:=by simp[PM.changeOk];omega
 exact H.Ae rfl rfl zay ⟨by rw[e],rfl,by simp[PM.change,e]⟩):p:=k
theorem qco(k:p:=by
 exact H.r1 ⟨none,0,rfl,rfl,rfl⟩):p:=k
theorem qcp(k:p:=by
 exact H.Ae rfl rfl iD ⟨p3,c3,by rw[e3,lnA];rfl,rfl,by rw[e3,lnA,zaf];rfl⟩):p:=k
theorem qcq(k:p:=by
 unfold callFunc
 simp only[Sem.run_bind,run_program,Result.andThen_ok,h1,h2,h3,Bool.false_eq_true,if_false,Sem.run_pure]):p:=k
theorem qcr(k:p:=by
 by_cases h1:1≤x.k
 ·skip
  refine gX ?_
  exact qay
 ·skip
  refine gX ?_
  exact qay):p:=k
theorem qct(k:p:=by
 exact H.r1 ⟨p',c',rfl,rfl,rfl⟩):p:=k
theorem qcu(k:p:=by
 rcases Nat.eq_or_lt_of_le hge with e|e
 ·exact e.symm
 ·rw[List.getElem?_eq_none je]at hj;cases hj):p:=k
theorem qcv(k:p:=by
 refine H.Ac (.here _ _) ?_
 refine H.Ae rfl rfl iD ⟨?_,rfl,rfl⟩
 simp[Msg.outer, *]):p:=k
theorem qcw(k:p:=by
 refine gG ?_
 refine H.Ae rfl rfl iD ⟨?_,rfl,rfl⟩
 rw[decide_eq_false]
 rintro rfl
 exact hlen rfl):p:=k
theorem qcx(k:p:=by
 by_cases c:k=k'
 ·simp[c]
 ·simp only[c,if_false,List.map_cons,ih,List.mem_cons,false_or]
  split<;>simp):p:=k
theorem qcy(k:p:=by
 skip
 exact H.Bc false (fun e=>by cases e) ⟨rfl,rfl,rfl,rfl,rfl,rfl,rfl,rfl,rfl,trivial⟩ rfl rfl):p:=k
theorem qcz(k:p:=by
 show _=_::slc p1 (B0++depsB m.deps (i+1)).length c1 _ 1 (bytesV (B0++depsB m.deps (i+1)))::F
 rw[e1]):p:=k
theorem qcA(k:p:=by
 rw[UInt8.toNat_ofNat']
 omega):p:=k
theorem qcB(k:p:=by
 by_cases e:j=i
 ·subst e;rw[hx]at hy;cases hy;exact fun h=>h2 h.2
 ·exact hb j y jA hy):p:=k
theorem qcC(k:p:=by
 refine Fn.e2 func208 ntmps208 fun base=>?_
 refine gX ?_
 exact H.Ae rfl rfl fin ⟨rfl,rfl,rfl⟩):p:=k
theorem qcD(k:p:=by
 left
 refine⟨?_,by rw[e];decide⟩
 unfold AuM.meet
 rw[h.st,e,if_neg jC,if_neg jC]):p:=k
theorem qcE(k:p:=by
 refine gS ?_
 exact H.Bc false trivial ⟨rfl,rfl,rfl,rfl,rfl,rfl,rfl,rfl,rfl,trivial⟩ rfl rfl):p:=k
theorem qcF(k:p:=by
 unfold dmOf
 rw[←hL.mark]
 have:mk? (envOf 0 args)=none:=lk_envOf args 0 _ jA
 rw[this]):p:=k
theorem qcG(k:p:=by
 by_cases e:j=i
 ·subst e;rw[hx]at hy;cases hy;exact fun h=>h1 h.1
 ·exact hb j y jA hy):p:=k
theorem qcH(k:p:=by
 rw[show viewsV ({s with ln:=s.ln+1}:PM).all=viewsV s.all by simp[viewsV,PM.all]]at hf
 exact hf):p:=k
theorem qcI(k:p:=by
 rw[h]
 exact⟨nil0,Dj.nil _,rfl,(un_nil f).symm,rfl⟩):p:=k
theorem qcJ(k:p:=by
 repeat(first|(refine H.rem (z:=z.tmod 2) rfl rfl rfl jC rfl rfl ?_)|(refine gh ?_))
 exact qbf):p:=k
theorem qcK(k:p:=by
 rw[hl,if_pos jC]at hs
 rw[←hs]
 refine gL ?_
 exact qbh):p:=k
theorem qcL(k:p:=by
 rcases Nat.lt_or_ge j xs.length with h|h
 ·exact h
 ·simp[List.getElem?_eq_none h]at hj):p:=k
theorem qcM(k:p:=by
 rcases Nat.lt_or_ge i xs.length with h'|h'
 ·exact h'
 ·rw[List.getElem?_eq_none h']at hx;cases hx):p:=k
theorem qcN(k:p:=by
 rintro(h|h|h)
 ·rw[hm]at h;cases h
 ·exact ho h
 ·rw[hqin]at h;cases h):p:=k
theorem qcO(k:p:=by
 rcases Nat.lt_or_ge i xs.length with h'|h'
 ·exact h'
 ·rw[List.getElem?_eq_none h']at h;cases h):p:=k
theorem qcP(k:p:=by
 refine gW ?_
 exact H.ag (i+1) (by show i+1≤32;omega) (by show 32-(i+1)<32-i;omega)):p:=k
theorem qcQ(k:p:=by
 refine gW ?_
 exact H.Bc () trivial ⟨by rw[←hs];rfl,rfl,rfl,rfl,rfl,trivial⟩ rfl rfl):p:=k
theorem qcR(k:p:=by
 show some (Value.slice _ 1 1)=some (Value.slice _ (B0++[]).length 1)
 rw[List.append_nil,hB0l]):p:=k
theorem qcS(k:p:=by
 refine H.rem (z:=((primI n v:Nat):Int)) rfl rfl rfl jA e rfl ?_
 refine gW ?_
 exact qaj):p:=k
theorem qcT(k:p:=by
 refine H.Ac (.here _ _) ?_
 exact qaF):p:=k
theorem qcU(k:p:=by
 have h1:x.m.body.view % (l.n:Int)<l.n:=Int.emod_lt_of_pos _ jA
 unfold primI;omega):p:=k
theorem qcV(k:p:=by
 have h2:=hfin _ h1.1 h1.2
 exact H.ret0 rfl iD ⟨_,h2.1,h2.2,rfl,rfl,rfl⟩):p:=k
theorem qcW(k:p:=by
 show _=_::slc _ (B0++[]).length 1 _ 1 (bytesV (B0++[]))::F
 rw[List.append_nil,hB0l]):p:=k
theorem qcX(k:p:=by
 show(if decide (primZ l.n m.body.view=m.origin)=true then _ else _)=_
 split<;>rfl):p:=k
theorem qcY(k:p:=by
 exact H.r1 ⟨g,hdj,rfl,hf2,rfl⟩):p:=k
theorem qcZ(k:p:=by
 rw[List.length_cons,show pre.length+1+i=pre.length+i+1 by omega]
 exact .there _ ih):p:=k
theorem qd(k:p:=by
 by_cases e2:j<i
 ·rw[if_pos e2,if_pos jA]
 ·rw[if_neg e2,if_neg jA]):p:=k
theorem qda(k:p:=by
 split<;>exact⟨rfl,rfl⟩):p:=k
theorem qdb(k:p:=by
 refine Nat.le_trans (List.length_filter_le _ _) ?_
 rw[List.length_take]
 omega):p:=k
theorem qdc(k:p:=by
 exact Src.append (Src.slcS jB jG)):p:=k
theorem qdd(k:p:=by
 skip
 refine Fn.e1 func71 ntmps71 fun base=>?_
 refine gg ?_
 exact qbf):p:=k
theorem qde(k:p:=by
 skip
 refine Fn.e1 func70 ntmps70 fun base=>?_
 refine gg ?_
 exact qbf):p:=k
theorem qdf(k:p:=by
 refine gT ?_
 exact H.r1 ⟨p,c,rfl,rfl,rfl⟩):p:=k
theorem qdg(k:p:=by
 exact H.endRound ⟨rfl,rfl,rfl⟩):p:=k
theorem qdh(k:p:=by
 clear hquo hw
 refine gg ?_
 exact qaF):p:=k
theorem qdi(k:p:=by
 refine gQ ?_
 refine HQ.Aa rfl ?_
 refine HB.dn ?_
 refine gW ?_
 exact qbk):p:=k
theorem qdj(k:p:=by
 refine H.on0 rfl ?_
 refine HB.qu [34,35] 0 ?_
 exact qbz):p:=k
theorem qdk(k:p:=by
 show some _=some (Value.slice p1 (B0++depsB m.deps (i+1)).length c1)
 rw[e1]):p:=k
theorem qdl(k:p:=by
 by_cases e:i=orgI m
 ·rw[e,zae];rw[e]at this;omega
 ·rw[zag _ _ e];omega):p:=k
theorem qdm(k:p:=by
 refine gT ?_
 refine H.pd (x:=row db _ _) ?_
 exact H.r1 ⟨p4,c4,rfl,rfl,rfl⟩):p:=k
theorem qdn(k:p:=by
 exact H.Ae rfl rfl iD ⟨congrArg Value.bool je,rfl,rfl⟩):p:=k
theorem qdo(k:p:=by
 exact H.Ae rfl rfl iD (LgP.yes rfl)):p:=k
theorem qdp(k:p:=by
 rintro x ⟨m1,m2,d,e,a,r⟩
 exact qbB):p:=k
theorem qdq(k:p:=by
 obtain⟨_,_,_,_,⟨k1,k2⟩,k3,k4⟩:=ha
 rw[Req.bytes_len];omega):p:=k
theorem qdr(k:p:=by
 exact H.retMk rfl rfl rfl (.there _ (.here _ _)) iD ⟨rfl,rfl,rfl⟩):p:=k
theorem qds(k:p:=by
 refine H.pd (x:=row mb _ _) ?_
 exact qaa):p:=k
theorem qdt(k:p:=by
 rw[List.map_append,←List.append_assoc]
 exact List.prefix_append _ _):p:=k
theorem qdu(k:p:=by
 exact H.Bc () trivial ⟨by rw[hce];rfl,rfl,rfl,rfl,rfl,trivial⟩ rfl rfl):p:=k
theorem qdv(k:p:=by
 show(match(ml.map MV.m)[k]? with|none=>_|some m=>_)=_
 rw[hxm]):p:=k
theorem qdw(k:p:=by
 refine H.Af rfl rfl rfl (works29_fn f _ htab) ?_
 refine gT ?_
 exact qaj):p:=k
theorem qdx(k:p:=by
 unfold Lgs.take;rw[if_neg hno,if_pos (.inl kd)]):p:=k
theorem qdy(k:p:=by
 rw[if_neg jq]at hs
 exact qbm):p:=k
theorem qdz(k:p:=by
 exact H.Ae rfl rfl iD ⟨p',c',by rw[e9],rfl,by rw[e9]⟩):p:=k
theorem qdA(k:p:=by
 rw[List.length_take]at this
 omega):p:=k
theorem qdB(k:p:=by
 rcases hf with hf|hf
 ·exact .inl jA
 ·exact .inr hf):p:=k
theorem qdC(k:p:=by
 refine gQ ?_
 refine HQ.Aa rfl ?_
 refine HB.dn ?_
 exact qbm):p:=k
theorem qdD(k:p:=by
 rw[List.getElem_map,List.getElem_map,h1.2,h2.2]at this
 omega):p:=k
theorem qdE(k:p:=by
 have e2:e'.2.2=e.2.2:=e2
 omega):p:=k
theorem qdF(k:p:=by
 rcases dj k with e|e
 ·simp[un,e,hk]
 ·rw[e]at hk;cases hk):p:=k
theorem qdG(k:p:=by
 rw[List.length_drop]at h4
 simp[Cs.tok,h2,hk,h3];omega):p:=k
theorem qdH(k:p:=by
 rename_i c
 cases b<;>cases c<;>simp at hw<;>simp[this]):p:=k
theorem qdI(k:p:=by
 split at h
 ·cases h;exact .inl rfl
 ·cases h):p:=k
theorem qdJ(k:p:=by
 exact H.Bb rfl rfl rfl iD ⟨g,lb,hd,rfl,rfl,rfl⟩):p:=k
theorem qdK(k:p:=by
 rw[decide_eq_true h,decide_eq_true (Int.le_trans h (hle _))];rfl):p:=k
theorem qdL(k:p:=by
 exact H.Ae rfl rfl zay ⟨by rw[e],rfl,by simp[PM.commit,e]⟩):p:=k
theorem qdM(k:p:=by
 rw[e3,lnA,zaf];rfl):p:=k
theorem qdN(k:p:=by
 rw[if_neg hlt]at hR
 rw[←hR]
 refine gc ?_
 exact qaR):p:=k
theorem qdO(k:p:=by
 refine Fn.e1 func222 ntmps222 fun base=>?_
 exact qbG):p:=k
theorem qdP(k:p:=by
 rw[e]
 refine gN ?_
 exact qaj):p:=k
theorem qdQ(k:p:=by
 rw[zag _ _ e];exact Int.le_refl _):p:=k
theorem qdR(k:p:=by
 rw[←hget i hli]
 exact fill_set (zcf jA) hTK):p:=k
theorem qdS(k:p:=by
 rw[hl,List.append_nil,List.append_nil]at this
 exact this):p:=k
theorem qdT(k:p:=by
 obtain⟨rfl,rfl,rfl⟩:=hR
 refine gY ?_
 exact qci):p:=k
theorem qdU(k:p:=by
 exact H.end0 rfl iD ⟨(qp,qc),rfl,rfl,rfl⟩):p:=k
theorem qdV(k:p:=by
 rw[e]
 exact⟨rfl,Cs.num8_be hv,rfl,rfl,rfl,rfl⟩):p:=k
theorem qdW(k:p:=by
 unfold primI
 rw[Int.tmod_eq_emod_of_nonneg hv]
 omega):p:=k
theorem qdX(k:p:=by
 rw[if_neg h2]
 refine gc ?_
 exact qbh):p:=k
theorem qdY(k:p:=by
 refine H.on0 rfl ?_
 refine HB.qu [8,9] 0 ?_
 exact qby):p:=k
theorem qdZ(k:p:=by
 refine RunF.app.2 ⟨hr1,?_⟩
 rw[zbo n]
 exact hr2):p:=k
theorem qe(k:p:=by
 rw[putE_absent enc hno]
 congr 2
 simp[entOf]):p:=k
theorem qea(k:p:=by
 rw[he]
 exact congrArg _ (doPast_self l _)):p:=k
theorem qeb(k:p:=by
 refine H.slc0 5 1 ?_
 exact qco):p:=k
theorem qec(k:p:=by
 exact H.Bb rfl rfl rfl zay ⟨by rw[e];rfl,rfl,rfl⟩):p:=k
theorem qed(k:p:=by
 rw[e3,lnA];rfl):p:=k
theorem qee(k:p:=by
 refine gT ?_
 refine H.Ac (.here _ _) ?_
 exact qbs):p:=k
theorem qef(k:p:=by
 rw[decide_eq_true h,decide_eq_false jA];rfl):p:=k
variable {q:Prop}
theorem qeg(h:q)(k:Bx q→p:=by intro Z;refine gA ?_;refine qeS ?_;exact Z.o):p:=k ⟨h⟩
theorem qeh(h:q)(k:Bx q→p:=by intro Z;refine qhW ?_;refine qfe ?_;refine qfI ?_;exact Z.o):p:=k ⟨h⟩
theorem qei(h:q)(k:Bx q→p:=by intro Z;refine gF ?_;refine H.rem rfl rfl rfl jC hk6 rfl ?_;refine gH ?_;refine H.rem (z:=((x.view.toNat % 6:Nat):Int)) rfl rfl rfl jC (zal (b:=6) rfl) rfl ?_;refine gH ?_;refine H.rem (z:=((x.k.toNat % 6:Nat):Int)) rfl rfl rfl jC (zal (b:=6) rfl) rfl ?_;exact Z.o):p:=k ⟨h⟩
theorem qej(h:q)(k:Bx q→p:=by intro Z;refine HQ.Ab rfl rfl rfl (Rd.arr (.here _ _ _) jA) rfl ?_;exact Z.o):p:=k ⟨h⟩
theorem qek(h:q)(k:Bx q→p:=by intro Z;refine qex ?_;refine qgy ?_;refine qj ?_;refine H.db (S:=[_,_,_,_,_]) rfl ?_;refine HB.qu [0,1,3,4] 29 ?_;refine qfw ?_;refine HB.ev 2 ?_;refine qew ?_;refine H.cr (hprim _) ?_;refine gA ?_;refine qgy ?_;exact Z.o):p:=k ⟨h⟩
theorem qel(h:q)(k:Bx q→p:=by intro Z;refine gT ?_;refine H.pd (x:=row bb _ _) ?_;refine qgW ?_;refine qeI ?_;refine qhr ?_;refine qkN ?_;exact Z.o):p:=k ⟨h⟩
theorem qem(h:q)(k:Bx q→p:=by intro Z;refine gA ?_;exact qjg Z.o):p:=k ⟨h⟩
theorem qen(h:q)(k:Bx q→p:=by intro Z;show Fn _ _ _ f (row lb 124 (plC l.n l.known vb pp pc cp cc)::mp vb keyU (V.map PV.ent)::lst (V.map PV.own)::fam (fun r=>pastH (pb r) (l.past r)) l.n::slc cp l.n cc 226 1 (chRow l cs)::fam (pcFam l cs) l.n::F) _;exact Z.o):p:=k ⟨h⟩
theorem qeo(h:q)(k:Bx q→p:=by intro Z;refine HQ.Aa rfl ?_;exact Z.o):p:=k ⟨h⟩
theorem qep(h:q)(k:Bx q→p:=by intro Z;refine qfI ?_;refine qeu ?_;refine qfF ?_;exact Z.o):p:=k ⟨h⟩
theorem qeq(h:q)(k:Bx q→p:=by intro Z;refine H.Az rfl rfl rfl rfl (.here _ _ _) (zar (by rw[Array.size_setIfInBounds];omega) _) ?_;refine qeR ?_;exact Z.o):p:=k ⟨h⟩
theorem qer(h:q)(k:Bx q→p:=by intro Z;refine HN.move (i:=2) jE rfl rfl rfl rfl ?_;refine HN.move (i:=3) jE rfl rfl rfl rfl ?_;exact Z.o):p:=k ⟨h⟩
theorem qes(h:q)(k:Bx q→p:=by intro Z;refine gI ?_;refine qg ?_;refine qhr ?_;refine H.cr (hgr _) ?_;refine qfm ?_;refine qfF ?_;exact Z.o):p:=k ⟨h⟩
theorem qet(h:q)(k:Bx q→p:=by intro Z;refine gU ?_;refine qfq ?_;refine qew ?_;refine H.Af rfl rfl rfl hfits ?_;refine qhb ?_;refine gW ?_;refine qhc ?_;refine H.Af rfl rfl rfl hright ?_;refine qhb ?_;exact Z.o):p:=k ⟨h⟩
theorem qeu(h:q)(k:Bx q→p:=by intro Z;refine H.pf (x:=row mb _ _) ?_;exact Z.o):p:=k ⟨h⟩
theorem qev(h:q)(k:Bx q→p:=by intro Z;refine qfM ?_;refine HB.qu [7] 1 ?_;refine gB ?_;refine qeo ?_;refine HB.ev 8 ?_;refine H.Ag (ls:=Req.zero.vals) (vs:=x.m.body.req.vals) (ls':=x.m.body.req.vals) rfl rfl rfl (zaa rfl) rfl rfl (Nat.le_refl 40) (.there _ (.here _ _ _)) ?_;refine qeR ?_;refine qfx ?_;refine qhV ?_;exact Z.o):p:=k ⟨h⟩
theorem qew(h:q)(k:Bx q→p:=by intro Z;refine H.pf (x:=row lb _ _) ?_;exact Z.o):p:=k ⟨h⟩
theorem qex(h:q)(k:Bx q→p:=by intro Z;show H _ _ _ _ _ (row X.b _ (vwC X.w.num X.w.s.length X.lp X.w.all.length X.lc X.np X.w.p.length X.nc X.hb)::slc X.lp X.w.all.length X.lc _ 40 (X.w.all.flatMap Req.vals)::slc X.np X.w.p.length X.nc _ 1 (X.w.p.flatMap numV)::mp X.hb encA (heldKV X.w.all)::lst ((V.map PV.own).set j emp)::_) _;exact Z.o):p:=k ⟨h⟩
theorem qey(h:q)(k:Bx q→p:=by intro Z;refine qeo ?_;refine HB.dn ?_;exact Z.o):p:=k ⟨h⟩
theorem qez(h:q)(k:Bx q→p:=by intro Z;refine qgl ?_;refine qis ?_;refine qhD ?_;refine HQ.Ah (i:=i2) rfl rfl rfl jA jA rfl ?_;refine qiK ?_;refine HB.qu [12] 3 ?_;refine HQ.Ah (i:=i2) rfl rfl rfl jA jA rfl ?_;refine qjZ ?_;refine qis ?_;exact Z.o):p:=k ⟨h⟩
theorem qeA(h:q)(k:Bx q→p:=by intro Z;refine qeo ?_;refine HB.nx [] (S':=[]) rfl ?_;exact Z.o):p:=k ⟨h⟩
theorem qeB(h:q)(k:Bx q→p:=by intro Z;exact H.Aj (ls:=(Bod.zero 0).vals none 0) rfl rfl rfl Z.o):p:=k ⟨h⟩
theorem qeC(h:q)(k:Bx q→p:=by intro Z;refine H.Ao (.there _ (.here _ _)) ?_;exact Z.o):p:=k ⟨h⟩
theorem qeD(h:q)(k:Bx q→p:=by intro Z;refine H.pf (x:=mp X.hb _ _) ?_;refine H.pf (x:=slc X.np _ X.nc _ _ _) ?_;refine H.pf (x:=slc X.lp _ X.lc _ _ _) ?_;refine qic ?_;refine H.imp (zcd (x:=X)) ?_;refine H.pf (x:=lst ((V.map PV.own).set j emp)) ?_;refine H.pf (x:=X.own) ?_;exact Z.o):p:=k ⟨h⟩
theorem qeE(h:q)(k:Bx q→p:=by intro Z;refine qjI ?_;refine qhN ?_;exact Z.o):p:=k ⟨h⟩
theorem qeF(h:q)(k:Bx q→p:=by intro Z;refine HQ.Bt (lo:=none) (hi:=none) (mx:=none) (lv:=0) (hv:=32) (mv:=32) rfl rfl rfl rfl rfl (fun h=>by cases h) jC jC jC rfl ?_;exact Z.o):p:=k ⟨h⟩
theorem qeG(h:q)(k:Bx q→p:=by intro Z;refine HN.ar (i:=4) (z:=((y:Nat):Int)) jE rfl rfl rfl rfl rfl jY rfl ?_;refine qfV ?_;refine qiw ?_;refine qhD ?_;refine qhd ?_;refine qiK ?_;refine HB.qu [14] 3 ?_;refine qhd ?_;refine qix ?_;refine qeL ?_;refine HB.qu [16] 1 ?_;refine qiw ?_;exact Z.o):p:=k ⟨h⟩
theorem qeH(h:q)(k:Bx q→p:=by intro Z;refine H.pd (x:=row mb _ _) ?_;exact Z.o):p:=k ⟨h⟩
theorem qeI(h:q)(k:Bx q→p:=by intro Z;refine H.pf (x:=row kb _ _) ?_;refine qg ?_;exact Z.o):p:=k ⟨h⟩
theorem qeJ(h:q)(k:Bx q→p:=by intro Z;refine H.db (S:=[_]) rfl ?_;exact Z.o):p:=k ⟨h⟩
theorem qeK(h:q)(k:Bx q→p:=by intro Z;refine H.Ac (.here _ _) ?_;exact Z.o):p:=k ⟨h⟩
theorem qeL(h:q)(k:Bx q→p:=by intro Z;refine H.Az rfl rfl rfl rfl (.here _ _ _) (zar jA _) ?_;refine qeg ?_;exact Z.o):p:=k ⟨h⟩
theorem qeM(h:q)(k:Bx q→p:=by intro Z;refine gA ?_;exact H.box (ls:=r.vals) rfl rfl rfl rfl Z.o):p:=k ⟨h⟩
theorem qeN(h:q)(k:Bx q→p:=by intro Z;refine H.Ag (ls:=(Bod.zero 0).vals none 0) (vs:=(bodW 1 ((x.view.toNat % 6:Nat):Int) (1+((x.k.toNat % 6:Nat):Int))).vals none 0) (ls':=(bodW 1 ((x.view.toNat % 6:Nat):Int) (1+((x.k.toNat % 6:Nat):Int))).vals none 0) rfl rfl rfl (zaa rfl) rfl rfl (Nat.le_refl 76) (.here _ _ _) ?_;refine qes ?_;refine gR ?_;refine qhc ?_;refine H.cr (hask _) ?_;refine gH ?_;refine H.Ag (ls:=(bodW 1 ((x.view.toNat % 6:Nat):Int) 0).vals none 0) (vs:=rq.vals) (ls':=(⟨1,((x.view.toNat % 6:Nat):Int),0,rq,[],noTag⟩:Bod).vals none 0) rfl rfl rfl (zaa rfl) rfl rfl (show 3+40≤76 by decide) (.here _ _ _) ?_;refine gX ?_;exact Z.o):p:=k ⟨h⟩
theorem qeO(h:q)(k:Bx q→p:=by intro Z;refine H.pf (x:=fam (pcFam l cs) _) ?_;refine qkr ?_;refine qgc ?_;exact Z.o):p:=k ⟨h⟩
theorem qeP(h:q)(k:Bx q→p:=by intro Z;refine H.dq ?_;refine qga ?_;refine HQ.Ab rfl rfl rfl (Rd1.at0 (Rd.ofRow jB) kX) rfl ?_;refine gK ?_;refine gN ?_;exact Z.o):p:=k ⟨h⟩
theorem qeQ(h:q)(k:Bx q→p:=by intro Z;refine qik ?_;refine HB.qu [0,1,2,3,4,5] 3 ?_;refine gP ?_;refine HQ.Ad (ls:=x.m.body.req.vals) rfl rfl rfl (msg_req (.here _ _ _)) rfl rfl ?_;refine qjw ?_;exact qgN Z.o):p:=k ⟨h⟩
theorem qeR(h:q)(k:Bx q→p:=by intro Z;refine qeg ?_;refine HB.dn ?_;exact Z.o):p:=k ⟨h⟩
theorem qeS(h:q)(k:Bx q→p:=by intro Z;refine H.on0 rfl ?_;exact Z.o):p:=k ⟨h⟩
theorem qeT(h:q)(k:Bx q→p:=by intro Z;refine H.pf (x:=ordH l i) ?_;refine H.pf (x:=fam (strH l i) 11) ?_;refine qew ?_;refine H.imp (zby i hi) ?_;exact Z.o):p:=k ⟨h⟩
theorem qeU(h:q)(k:Bx q→p:=by intro Z;exact H.Aq rfl rfl rfl rfl jC jC rfl rfl Z.o):p:=k ⟨h⟩
theorem qeV(h:q)(k:Bx q→p:=by intro Z;refine H.pf (x:=row ab _ _) ?_;exact Z.o):p:=k ⟨h⟩
theorem qeW(h:q)(k:Bx q→p:=by intro Z;refine qkL ?_;refine qgV ?_;refine HB.qu [8,9] 1 ?_;refine qfw ?_;refine HB.ev 10 ?_;exact Z.o):p:=k ⟨h⟩
theorem qeX(h:q)(k:Bx q→p:=by intro Z;refine qgw ?_;refine qeg ?_;refine HB.qu [13,14,15,16,17,18,19,20,21,22,23,24,25,26,27,28,29] 3 ?_;refine gV ?_;refine HQ.Bm (enc:=encA) (k:=(x.m.body.req.client,x.m.body.req.time)) rfl rfl rfl jB rfl hheld rfl ?_;refine qhY ?_;refine HB.ev 30 ?_;exact Z.o):p:=k ⟨h⟩
theorem qeY(h:q)(k:Bx q→p:=by intro Z;refine H.dc [0,1,2,3,4,5,6,7,8] (S:=[_]) rfl ?_;refine HB.qu [0,1,2,3,4,5,6,7,8] 1 ?_;refine gP ?_;refine HQ.Bo rfl rfl rfl rfl jC rfl rfl ?_;refine HQ.Bf (op:=.xor) rfl rfl rfl rfl rfl rfl ?_;refine gB ?_;refine qeA ?_;refine HB.ev 9 ?_;refine H.Ba rfl rfl rfl rfl (.here _ _ _) (.here _ _ _) ?_;refine qeR ?_;exact Z.o):p:=k ⟨h⟩
theorem qeZ(h:q)(k:Bx q→p:=by intro Z;refine qgl ?_;refine qfH ?_;refine qhD ?_;refine qis ?_;refine qiK ?_;refine HB.qu [12] 3 ?_;refine qis ?_;refine qjZ ?_;refine qfH ?_;refine qix ?_;exact Z.o):p:=k ⟨h⟩
theorem qf(h:q)(k:Bx q→p:=by intro Z;refine H.Ag (ls:=msgZ.vals none 0) (vs:=x.vals) (ls':=x.vals) rfl rfl rfl (zaa rfl) rfl rfl (Nat.le_refl 121) jB ?_;exact Z.o):p:=k ⟨h⟩
theorem qfa(h:q)(k:Bx q→p:=by intro Z;refine qeT ?_;refine qeu ?_;refine qeJ ?_;refine HB.qu [0,1,2] 3 ?_;refine gP ?_;refine HQ.Ad (ls:=v11 x.m.deps) rfl rfl rfl (zaz (m:=x.m) (q:=x.qp) (qc:=x.qc) (.here _ _ _)) rfl rfl ?_;refine gB ?_;refine qeo ?_;refine HB.ev 3 ?_;refine H.pf (x:=loreH _ _ _ _) ?_;refine H.Af rfl rfl rfl (known_fn f _) ?_;refine qfM ?_;refine HB.ev 4 ?_;refine H.Af rfl rfl rfl (above_fn f _ _ _) ?_;refine qeg ?_;refine HB.qu [5] 0 ?_;exact Z.o):p:=k ⟨h⟩
theorem qfb(h:q)(k:Bx q→p:=by intro Z;refine H.imp (zai ⟨V,vp,vc,pp,pc,cp,cc,pb,cs⟩ hiF) ?_;exact Z.o):p:=k ⟨h⟩
theorem qfc(h:q)(k:Bx q→p:=by intro Z;refine qex ?_;refine qeu ?_;refine qic ?_;refine qgu ?_;refine HB.qu [0,1,2,3,4,5,6,7,8,11] 16 ?_;refine gZ ?_;refine qhH ?_;refine qew ?_;refine H.cr (hprim _) ?_;refine gA ?_;refine qeu ?_;refine qic ?_;refine qeS ?_;refine HB.qu [10,12,13,14,15,16,17,18,19,20,21,22] 3 ?_;refine gK ?_;refine HQ.Al (i:=primI l.n x.m.body.view) rfl rfl rfl hpz hpl rfl ?_;refine HQ.Ab rfl rfl rfl (by rw[Nat.mul_one];exact Rd1.of (zaz (m:=x.m) (q:=x.qp) (qc:=x.qc) (.there _ (.here _ _ _))) hvd) rfl ?_;exact Z.o):p:=k ⟨h⟩
theorem qfd(h:q)(k:Bx q→p:=by intro Z;refine qgA ?_;refine qiO ?_;exact Z.o):p:=k ⟨h⟩
theorem qfe(h:q)(k:Bx q→p:=by intro Z;refine qkr ?_;refine qfU ?_;refine qiX ?_;exact Z.o):p:=k ⟨h⟩
theorem qff(h:q)(k:Bx q→p:=by intro Z;refine gA ?_;exact H.box (ls:=x.vals q qc) rfl rfl rfl rfl Z.o):p:=k ⟨h⟩
theorem qfg(h:q)(k:Bx q→p:=by intro Z;refine HN.phase [0,1,4,5,6,7,8,9,10,11] (S:=[slc (some ⟨sb,0,none⟩) n c 35 1 (arr d0)]) rfl ?_;refine HB.qu [0,1,4,5,6,7,8,9,10,11] 4 ?_;refine gB ?_;refine HQ.Ah (i:=pivot) rfl rfl rfl jA jA rfl ?_;refine qhD ?_;refine qfH ?_;refine qiK ?_;refine HB.qu [12] 3 ?_;refine qfH ?_;refine qjZ ?_;refine HQ.Ah (i:=pivot) rfl rfl rfl jA jA rfl ?_;refine qix ?_;exact Z.o):p:=k ⟨h⟩
theorem qfh(h:q)(k:Bx q→p:=by intro Z;refine gQ ?_;refine qey ?_;exact Z.o):p:=k ⟨h⟩
theorem qfi(h:q)(k:Bx q→p:=by intro Z;(repeat(first|(refine gi ?_)|(apply HQ.Bf;(iterate 3 exact rfl);(with_reducible exact zbt _ _);(iterate 2 exact rfl))));exact Z.o):p:=k ⟨h⟩
theorem qfj(h:q)(k:Bx q→p:=by intro Z;refine gG ?_;refine qeJ ?_;refine HB.qu [0,1,2,3,4,5,6,7,8] 2 ?_;refine gB ?_;refine qhd ?_;refine qej ?_;refine gK ?_;refine qiw ?_;refine qej ?_;refine qhH ?_;refine H.Af rfl rfl rfl (zcj f _ d[y+1]! d[y]!) ?_;refine qeg ?_;refine HB.qu [10] 0 ?_;refine qfh ?_;exact Z.o):p:=k ⟨h⟩
theorem qfk(h:q)(k:Bx q→p:=by intro Z;refine gI ?_;refine H.dq ?_;(repeat(first|(refine gi ?_)|(refine HQ.Al (i:=(m.origin.toNat-1)) rfl rfl rfl jA jA rfl ?_)|(refine HQ.Ab rfl rfl rfl (.of (zaz jB) kQ) rfl ?_)));exact Z.o):p:=k ⟨h⟩
theorem qfl(h:q)(k:Bx q→p:=by intro Z;exact H.Aj (ls:=msgZ.vals none 0) rfl rfl rfl Z.o):p:=k ⟨h⟩
theorem qfm(h:q)(k:Bx q→p:=by intro Z;refine H.pf (x:=row xb _ _) ?_;exact Z.o):p:=k ⟨h⟩
theorem qfn(h:q)(k:Bx q→p:=by intro Z;refine gI ?_;refine qke ?_;refine HB.qu [0] 11 ?_;refine qgI ?_;refine qio ?_;refine H.cr (hmay _) ?_;refine qeg ?_;refine HB.qu [2,3,4,5,6,7,8,9,10,11] 0 ?_;exact Z.o):p:=k ⟨h⟩
theorem qfo(h:q)(k:Bx q→p:=by intro Z;refine HQ.Ad (ls:=r.vals) rfl rfl rfl (Rd.ofRow (.here _ _ _)) rfl rfl ?_;exact Z.o):p:=k ⟨h⟩
theorem qfp(h:q)(k:Bx q→p:=by intro Z;refine qkJ ?_;refine qew ?_;refine qeu ?_;exact Z.o):p:=k ⟨h⟩
theorem qfq(h:q)(k:Bx q→p:=by intro Z;refine H.Ad (ls:=x.vals) rfl rfl rfl (Rd.ofRow (.here _ _ _)) rfl rfl ?_;exact Z.o):p:=k ⟨h⟩
theorem qfs(h:q)(k:Bx q→p:=by intro Z;show Fn _ _ _ f (row lb 152 (lgC l.n l.known vp V.length vc pp pc cp cc)::slc vp V.length vc 147 4 (V.flatMap VV.vals)::lst (V.map VV.own)::fam (fun r=>pstH (pb r) (l.past r)) l.n::slc cp l.n cc 195 1 (chRow l cs)::fam (chFam l cs) l.n::F) _;exact Z.o):p:=k ⟨h⟩
theorem qft(h:q)(k:Bx q→p:=by intro Z;refine H.Ag (ls:=(Bod.zero 0).vals none 0) (vs:=(bodW 4 ((x.view.toNat % 6:Nat):Int) (1+((x.k.toNat % 6:Nat):Int))).vals none 0) (ls':=(bodW 4 ((x.view.toNat % 6:Nat):Int) (1+((x.k.toNat % 6:Nat):Int))).vals none 0) rfl rfl rfl (zaa rfl) rfl rfl (Nat.le_refl 76) (.here _ _ _) ?_;refine qes ?_;refine gR ?_;refine qhc ?_;refine gI ?_;refine qeI ?_;refine qhr ?_;exact H.ce (hq15 _) Z.o):p:=k ⟨h⟩
theorem qfu(h:q)(k:Bx q→p:=by intro Z;refine gP ?_;refine qkV ?_;refine HB.ev 5 ?_;exact Z.o):p:=k ⟨h⟩
theorem qfv(h:q)(k:Bx q→p:=by intro Z;refine gA ?_;refine qeC ?_;refine qeS ?_;exact Z.o):p:=k ⟨h⟩
theorem qfw(h:q)(k:Bx q→p:=by intro Z;refine gP ?_;refine qeo ?_;exact Z.o):p:=k ⟨h⟩
theorem qfx(h:q)(k:Bx q→p:=by intro Z;refine gF ?_;refine H.Bm (enc:=keyU) (k:=x.m.body.view) rfl rfl rfl jB rfl hget rfl ?_;refine gI ?_;exact Z.o):p:=k ⟨h⟩
theorem qfy(h:q)(k:Bx q→p:=by intro Z;refine H.Ao (.there _ (.there _ (.here _ _))) ?_;exact Z.o):p:=k ⟨h⟩
theorem qfz(h:q)(k:Bx q→p:=by intro Z;refine H.Ag (ls:=msgZ.vals none 0) (vs:=msgZ.vals none 0) (ls':=msgZ.vals none 0) rfl rfl rfl (zaa rfl) rfl rfl (Nat.le_refl 121) jB ?_;exact Z.o):p:=k ⟨h⟩
theorem qfA(h:q)(k:Bx q→p:=by intro Z;refine qiZ ?_;refine gJ ?_;refine qgI ?_;refine qhH ?_;refine H.pf (x:=fam (pcFam l cs) _) ?_;refine qkr ?_;refine qew ?_;refine H.cr (hqu _) ?_;refine gA ?_;exact Z.o):p:=k ⟨h⟩
theorem qfB(h:q)(k:Bx q→p:=by intro Z;exact H.Au (p:=p) (n0:=n) (c:=c) (T:=35) (sz:=1) (xs:=arr d) (.here _ _ _) jA Z.o):p:=k ⟨h⟩
theorem qfC(h:q)(k:Bx q→p:=by intro Z;show H _ _ _ _ _ (row ab 82 (auCD n ap ml.length c lo lg vp R.vd.length ml.length fp R.fk.length fc (knownS (strm R.M)) dp (decL R.l).length dc (decB R.l).1 tp R.tk.length tc)::slc vp R.vd.length ml.length 56 1 (R.vd.flatMap vdV)::slc fp R.fk.length fc 68 4 (R.fk.flatMap fkV)::slc tp R.tk.length tc 3 1 (R.tk.flatMap nV)::loreH f2 lo n L::plogH f2 lg R.l::slc dp (decL R.l).length dc 49 40 ((decL R.l).flatMap Req.vals)::_) _;exact Z.o):p:=k ⟨h⟩
theorem qfD(h:q)(k:Bx q→p:=by intro Z;refine H.drawT 16 jE jL ?_;refine gE ?_;refine HS.Ah rfl rfl rfl rfl jA rfl ?_;refine gE ?_;refine HS.Ab rfl rfl rfl (.at0 (Rd.ofSlc jB jA) (votes_ln s)) rfl ?_;refine gE ?_;refine HS.Ah rfl rfl rfl rfl jA rfl ?_;refine gE ?_;refine H.Az rfl rfl rfl rfl jB (votes_bump s) ?_;refine gT ?_;exact Z.o):p:=k ⟨h⟩
theorem qfE(h:q)(k:Bx q→p:=by intro Z;refine qeH ?_;refine H.pd (x:=row lv _ _) ?_;refine qkK ?_;exact Z.o):p:=k ⟨h⟩
theorem qfF(h:q)(k:Bx q→p:=by intro Z;refine H.pf (x:=row bb _ _) ?_;exact Z.o):p:=k ⟨h⟩
theorem qfG(h:q)(k:Bx q→p:=by intro Z;refine qkY ?_;refine qjI ?_;refine H.pf (x:=slc fp2 _ _ 68 _ _) ?_;refine H.pf (x:=slc _ _ _ 56 _ _) ?_;refine qeV ?_;exact Z.o):p:=k ⟨h⟩
theorem qfH(h:q)(k:Bx q→p:=by intro Z;refine HQ.Ah (i:=a) rfl rfl rfl jA jA rfl ?_;exact Z.o):p:=k ⟨h⟩
theorem qfI(h:q)(k:Bx q→p:=by intro Z;refine H.pf (x:=slc vp _ vc _ _ _) ?_;refine qew ?_;exact Z.o):p:=k ⟨h⟩
theorem qfJ(h:q)(k:Bx q→p:=by intro Z;refine gA ?_;exact H.box (ls:=m.vals q qc) rfl rfl rfl rfl Z.o):p:=k ⟨h⟩
theorem qfK(h:q)(k:Bx q→p:=by intro Z;refine HQ.Ak (b:=vb) (off:=0) (i:=i) rfl (by rw[←hvb];rfl) rfl rfl hilt rfl ?_;exact Z.o):p:=k ⟨h⟩
theorem qfL(h:q)(k:Bx q→p:=by intro Z;refine qet ?_;refine gW ?_;refine qeP ?_;refine qgu ?_;refine HB.qu [0,1,2,3,4,5,6,7,8,9,10,11,12,13,14,15,16,17] 3 ?_;refine gZ ?_;refine qkD ?_;refine qgH ?_;refine HB.qu [19,20] 0 ?_;refine qfh ?_;refine gN ?_;exact Z.o):p:=k ⟨h⟩
theorem qfM(h:q)(k:Bx q→p:=by intro Z;refine gA ?_;refine qiW ?_;exact Z.o):p:=k ⟨h⟩
theorem qfN(h:q)(k:Bx q→p:=by intro Z;exact H.Am rfl rfl rfl (zcb (l:=l0) f _ (Src.slcS jB jG) jA) Z.o):p:=k ⟨h⟩
theorem qfO(h:q)(k:Bx q→p:=by intro Z;refine gG ?_;refine qiR ?_;refine H.Ab rfl rfl rfl (by rw[Nat.zero_add];exact hrd) rfl ?_;exact Z.o):p:=k ⟨h⟩
theorem qfP(h:q)(k:Bx q→p:=by intro Z;exact H.Au (p:=vp) (n0:=V.length) (c:=vc) (T:=147) (sz:=4) (xs:=V.flatMap VV.vals) jB jA Z.o):p:=k ⟨h⟩
theorem qfQ(h:q)(k:Bx q→p:=by intro Z;refine HN.phase [0,1,6,7,8,9,10,11,12,13,14,15] (S:=[slc (some ⟨sb,0,none⟩) n c 35 1 (arr d)]) rfl ?_;refine HB.qu [0,1,6,7,8,9,10,11,12,13,14,15] 4 ?_;refine gK ?_;exact Z.o):p:=k ⟨h⟩
theorem qfR(h:q)(k:Bx q→p:=by intro Z;refine H.pd (x:=row bb _ _) ?_;refine qeH ?_;exact Z.o):p:=k ⟨h⟩
theorem qfS(h:q)(k:Bx q→p:=by intro Z;refine HQ.Ah (i:=j) rfl rfl rfl jA jA rfl ?_;exact Z.o):p:=k ⟨h⟩
theorem qfT(h:q)(k:Bx q→p:=by intro Z;refine qiM ?_;refine H.max2 (z:=if(r.val.size:Int)<r.old.size then(r.old.size:Int)else r.val.size) rfl rfl rfl rfl rfl ?_;refine gY ?_;refine qeK ?_;exact Z.o):p:=k ⟨h⟩
theorem qfU(h:q)(k:Bx q→p:=by intro Z;refine H.pf (x:=fam (fun r=>pstH _ _) _) ?_;exact Z.o):p:=k ⟨h⟩
theorem qfV(h:q)(k:Bx q→p:=by intro Z;refine HN.phase [0,1,5,6,7,8,9,10,11,12,13] (S:=[slc (some ⟨sb,0,none⟩) n c 35 1 (arr d)]) rfl ?_;refine HB.qu [0,1,5,6,7,8,9,10,11,12,13] 4 ?_;refine gK ?_;exact Z.o):p:=k ⟨h⟩
theorem qfW(h:q)(k:Bx q→p:=by intro Z;refine gA ?_;refine qew ?_;refine qeS ?_;refine HB.ev 7 ?_;exact H.Av (sz:=1) (p:=pp) (n0:=i) (c:=pc) (xs:=((List.range i).map pb).flatMap addrV) (m:=1) (news:=addrV b) rfl rfl rfl rfl rfl (fun p' c'=>jB) (Src.slice (Rd.ofRow jB) rfl) (zaa rfl) rfl jA jA Z.o):p:=k ⟨h⟩
theorem qfX(h:q)(k:Bx q→p:=by intro Z;refine H.Ag (ls:=(Bod.zero 0).vals none 0) (vs:=(bodW 2 ((x.view.toNat % 6:Nat):Int) (1+((x.k.toNat % 6:Nat):Int))).vals none 0) (ls':=(bodW 2 ((x.view.toNat % 6:Nat):Int) (1+((x.k.toNat % 6:Nat):Int))).vals none 0) rfl rfl rfl (zaa rfl) rfl rfl (Nat.le_refl 76) (.here _ _ _) ?_;refine qes ?_;refine gX ?_;exact Z.o):p:=k ⟨h⟩
theorem qfY(h:q)(k:Bx q→p:=by intro Z;refine H.Ad (ls:=x.vals) rfl rfl rfl (rdA _ _ _ _ (Le.refl _) hx) rfl rfl ?_;exact qfl Z.o):p:=k ⟨h⟩
theorem qfZ(h:q)(k:Bx q→p:=by intro Z;refine qer ?_;refine qez ?_;refine qix ?_;refine qeq ?_;show H _ _ _ _ f (slc (some ⟨sb,0,none⟩) n c _ 1 (arr (swp d (i2) (j2)))::_) _;exact Z.o):p:=k ⟨h⟩
theorem qg(h:q)(k:Bx q→p:=by intro Z;refine H.pf (x:=row wb _ _) ?_;exact Z.o):p:=k ⟨h⟩
theorem qga(h:q)(k:Bx q→p:=by intro Z;refine gV ?_;refine HQ.Al (i:=o) rfl rfl rfl hoz ho11 rfl ?_;exact Z.o):p:=k ⟨h⟩
theorem qgb(h:q)(k:Bx q→p:=by intro Z;refine gG ?_;refine qhx ?_;refine H.Ab rfl rfl rfl (Rd1.of (i:=0) rd rfl) rfl ?_;refine gO ?_;refine qhx ?_;refine H.Ab rfl rfl rfl (Rd1.of (i:=1) rd rfl) rfl ?_;refine gS ?_;exact Z.o):p:=k ⟨h⟩
theorem qgc(h:q)(k:Bx q→p:=by intro Z;refine H.pf (x:=fam (fun r=>pastH _ _) _) ?_;exact Z.o):p:=k ⟨h⟩
theorem qgd(h:q)(k:Bx q→p:=by intro Z;refine H.Ac (.there _ (.there _ (.here _ _))) ?_;exact Z.o):p:=k ⟨h⟩
theorem qge(h:q)(k:Bx q→p:=by intro Z;refine qhV ?_;refine qkf ?_;exact Z.o):p:=k ⟨h⟩
theorem qgf(h:q)(k:Bx q→p:=by intro Z;exact H.Av (m:=1) rfl rfl rfl rfl rfl (fun p' c'=>jB) (Src.slice (Rd.ofRow jB) rfl) (zaa rfl) rfl jA jA Z.o):p:=k ⟨h⟩
theorem qgg(h:q)(k:Bx q→p:=by intro Z;refine qik ?_;refine HB.qu [0,2] 8 ?_;refine qil ?_;refine qil ?_;refine qio ?_;exact H.callP rfl rfl rfl (own_fn f _ hq) Z.o):p:=k ⟨h⟩
theorem qgh(h:q)(k:Bx q→p:=by intro Z;refine H.Ag (ls:=(Bod.zero 0).vals none 0) (vs:=(bodW 5 ((x.view.toNat % 6:Nat):Int) (1+((x.k.toNat % 6:Nat):Int))).vals none 0) (ls':=(bodW 5 ((x.view.toNat % 6:Nat):Int) (1+((x.k.toNat % 6:Nat):Int))).vals none 0) rfl rfl rfl (zaa rfl) rfl rfl (Nat.le_refl 76) (.here _ _ _) ?_;refine qes ?_;exact Z.o):p:=k ⟨h⟩
theorem qgi(h:q)(k:Bx q→p:=by intro Z;refine gA ?_;exact H.box (ls:=[.pointer (some ⟨lb,0,none⟩)]) rfl rfl rfl rfl Z.o):p:=k ⟨h⟩
theorem qgj(h:q)(k:Bx q→p:=by intro Z;(repeat(first|(refine H.ar (op:=.sub) (p:=(b:Int)) (p2:=(a:Int)) (z:=(l:Int)) rfl rfl rfl rfl jp rfl ?_)|(refine gh ?_)));exact Z.o):p:=k ⟨h⟩
theorem qgk(h:q)(k:Bx q→p:=by intro Z;refine H.Ad (ls:=m.vals q qc) rfl rfl rfl (Rd.ofRow jB) rfl rfl ?_;refine H.cr (hmay _) ?_;exact Z.o):p:=k ⟨h⟩
theorem qgl(h:q)(k:Bx q→p:=by intro Z;refine HN.phase [0,1,4,5,6,7,8,9,10,11] (S:=[slc (some ⟨sb,0,none⟩) n c 35 1 (arr d)]) rfl ?_;refine HB.qu [0,1,4,5,6,7,8,9,10,11] 4 ?_;refine gB ?_;exact Z.o):p:=k ⟨h⟩
theorem qgm(h:q)(k:Bx q→p:=by intro Z;refine H.pd (x:=loreH _ lo _ _) ?_;refine H.pd (x:=plogH _ lg _) ?_;exact Z.o):p:=k ⟨h⟩
theorem qgn(h:q)(k:Bx q→p:=by intro Z;refine H.Ag (ls:=(Bod.zero 0).vals none 0) (vs:=(bodW 3 ((x.view.toNat % 6:Nat):Int) (1+((x.k.toNat % 6:Nat):Int))).vals none 0) (ls':=(bodW 3 ((x.view.toNat % 6:Nat):Int) (1+((x.k.toNat % 6:Nat):Int))).vals none 0) rfl rfl rfl (zaa rfl) rfl rfl (Nat.le_refl 76) (.here _ _ _) ?_;refine qes ?_;exact Z.o):p:=k ⟨h⟩
theorem qgo(h:q)(k:Bx q→p:=by intro Z;refine qhD ?_;refine qkF ?_;refine qiK ?_;refine HB.qu [16] 3 ?_;refine qkF ?_;refine qjd ?_;refine qeL ?_;refine HB.qu [18] 1 ?_;exact Z.o):p:=k ⟨h⟩
theorem qgp(h:q)(k:Bx q→p:=by intro Z;refine gY ?_;refine H.Ad (ls:=(v.add s).vals) rfl rfl rfl (Rd.ofRow jB) rfl rfl ?_;refine H.Ag (ls:=List.replicate 8 (.int .u32 0)) (vs:=(v.add s).vals) (ls':=(v.add s).vals) rfl rfl rfl (zaa rfl) rfl rfl (Nat.le_refl 8) jB ?_;refine gT ?_;exact Z.o):p:=k ⟨h⟩
theorem qgq(h:q)(k:Bx q→p:=by intro Z;exact H.Av (sz:=2) (p:=(cs r).1) (n0:=(l.ch r).length) (c:=(cs r).2) (xs:=(l.ch r).flatMap chV) (m:=1) (news:=chV (x.m.body.view,x.m.number)) rfl rfl rfl rfl rfl (fun p' c'=>.here _ _ _) (Src.slice (Rd.ofRow (.there _ (.there _ (.here _ _ _)))) rfl) (zaa rfl) rfl jA jA Z.o):p:=k ⟨h⟩
theorem qgr(h:q)(k:Bx q→p:=by intro Z;show Fn _ _ _ f (row ab 82 (auC n ap ml.length c lo lg vp A.vd.length vc fp A.fk.length fc tp A.tk.length tc)::slc vp A.vd.length vc 56 1 (A.vd.flatMap vdV)::slc fp A.fk.length fc 68 4 (A.fk.flatMap fkV)::slc tp A.tk.length tc 3 1 (A.tk.flatMap nV)::loreH fl lo n L::plogH fl lg A.l::F) _;exact Z.o):p:=k ⟨h⟩
theorem qgs(h:q)(k:Bx q→p:=by intro Z;refine gF ?_;refine qkO ?_;refine H.Ab rfl rfl rfl (Rd1.of (i:=3) jN rfl) rfl ?_;exact Z.o):p:=k ⟨h⟩
theorem qgt(h:q)(k:Bx q→p:=by intro Z;refine gG ?_;refine H.Ah (i:=k) rfl rfl rfl rfl jA rfl ?_;refine H.Ab rfl rfl rfl hrd rfl ?_;exact Z.o):p:=k ⟨h⟩
theorem qgu(h:q)(k:Bx q→p:=by intro Z;refine H.db (S:=[_,_]) rfl ?_;exact Z.o):p:=k ⟨h⟩
theorem qgv(h:q)(k:Bx q→p:=by intro Z;refine gB ?_;refine qey ?_;exact Z.o):p:=k ⟨h⟩
theorem qgw(h:q)(k:Bx q→p:=by intro Z;refine qkm ?_;refine HQ.Ad (ls:=x.m.body.req.vals) rfl rfl rfl (Rd.ofRow (.here _ _ _)) rfl rfl ?_;refine qhf ?_;refine H.cr (hau _) ?_;exact Z.o):p:=k ⟨h⟩
theorem qgx(h:q)(k:Bx q→p:=by intro Z;refine qkh ?_;refine gS ?_;refine H.Ck (enc:=keyIn) (k:=((k+1:Nat):Int)) rfl rfl rfl jB rfl hg1 hg2 rfl ?_;refine gO ?_;exact qfl Z.o):p:=k ⟨h⟩
theorem qgy(h:q)(k:Bx q→p:=by intro Z;refine H.pf (x:=mp X.hb _ _) ?_;refine qic ?_;refine qew ?_;refine qeu ?_;exact Z.o):p:=k ⟨h⟩
theorem qgz(h:q)(k:Bx q→p:=by intro Z;refine gA ?_;refine qeC ?_;refine H.on [_] (Le.refl _) rfl ?_;exact Z.o):p:=k ⟨h⟩
theorem qgA(h:q)(k:Bx q→p:=by intro Z;refine H.pf (x:=plogH _ lg _) ?_;exact Z.o):p:=k ⟨h⟩
theorem qgB(h:q)(k:Bx q→p:=by intro Z;exact H.Aj (ls:=zb 32) rfl rfl rfl Z.o):p:=k ⟨h⟩
theorem qgC(h:q)(k:Bx q→p:=by intro Z;exact Fn.e3 func36 ntmps36 Z.o):p:=k ⟨h⟩
theorem qgD(h:q)(k:Bx q→p:=by intro Z;refine H.Ad (ls:=d.vals none 0) rfl rfl rfl (Rd.ofRow (.here _ _ _)) rfl rfl ?_;refine H.Ad (ls:=p.vals none 0) rfl rfl rfl (Rd.ofRow (.there _ (.here _ _ _))) rfl rfl ?_;exact H.Aq (out:=d.vals none 0++p.vals none 0) rfl rfl rfl rfl jC jC rfl rfl Z.o):p:=k ⟨h⟩
theorem qgE(h:q)(k:Bx q→p:=by intro Z;refine gA ?_;refine H.back (A:=[_,_]) rfl ?_;refine gV ?_;refine HQ.Ah rfl rfl rfl rfl jA rfl ?_;refine gP ?_;refine HQ.Ab rfl rfl rfl (.at0 (Rd.ofSlc jB jA) (votes_ln s)) rfl ?_;refine gZ ?_;exact Z.o):p:=k ⟨h⟩
theorem qgF(h:q)(k:Bx q→p:=by intro Z;refine qik ?_;refine HB.qu [0] 13 ?_;(repeat((refine HQ.Ad (ls:=x.vals) rfl rfl rfl (Rd.ofRow jB) rfl rfl ?_)));refine qio ?_;refine H.cr (hmay _) ?_;refine qeg ?_;refine HB.qu [2,3,4,5,6,7,9,10] 4 ?_;exact Z.o):p:=k ⟨h⟩
theorem qgG(h:q)(k:Bx q→p:=by intro Z;show H _ _ _ _ _ (row lb 152 (lgC W.l.n W.l.known vp V.length vc pp pc cp cc)::slc vp V.length vc 147 4 (V.flatMap VV.vals)::lst (V.map VV.own)::fam (fun r=>pstH (pb r) (W.l.past r)) W.l.n::slc cp W.l.n cc 195 1 (chRow W.l cs)::fam (chFam W.l cs) W.l.n::_) _;exact Z.o):p:=k ⟨h⟩
theorem qgH(h:q)(k:Bx q→p:=by intro Z;refine gC ?_;refine qeS ?_;exact Z.o):p:=k ⟨h⟩
theorem qgI(h:q)(k:Bx q→p:=by intro Z;refine HQ.Ad (ls:=x.vals) rfl rfl rfl (Rd.ofRow (.here _ _ _)) rfl rfl ?_;exact Z.o):p:=k ⟨h⟩
theorem qgJ(h:q)(k:Bx q→p:=by intro Z;refine H.pd (x:=row eb _ _) ?_;exact Z.o):p:=k ⟨h⟩
theorem qgK(h:q)(k:Bx q→p:=by intro Z;refine H.Ak (i:=k) rfl rfl rfl rfl jA rfl ?_;exact Z.o):p:=k ⟨h⟩
theorem qgL(h:q)(k:Bx q→p:=by intro Z;refine gI ?_;exact H.Ap rfl rfl rfl (open_fn f F b s hn v) Z.o):p:=k ⟨h⟩
theorem qgM(h:q)(k:Bx q→p:=by intro Z;refine qer ?_;refine qeG ?_;refine qjd ?_;refine qeq ?_;show H _ _ _ _ f (slc (some ⟨sb,0,none⟩) n c _ 1 (arr (swp d (y+1) (y)))::_) _;refine gW ?_;exact Z.o):p:=k ⟨h⟩
theorem qgN(h:q)(k:Bx q→p:=by intro Z;exact H.Aj (ls:=Req.zero.vals) rfl rfl rfl Z.o):p:=k ⟨h⟩
theorem qgO(h:q)(k:Bx q→p:=by intro Z;(repeat(first|((apply H.Aw);(iterate 3 exact rfl))|(first|apply H.seq|apply H.Bg|apply H.nil|apply H.Bj)|((apply H.cmp);(iterate 5 exact rfl))|((apply H.ar;(iterate 4 exact rfl));(with_reducible apply wr_i64;omega);exact rfl)));exact Z.o):p:=k ⟨h⟩
theorem qgP(h:q)(k:Bx q→p:=by intro Z;refine HQ.Ak (b:=qb) (off:=qoff) (i:=i) rfl kH rfl rfl hlt rfl ?_;exact Z.o):p:=k ⟨h⟩
theorem qgQ(h:q)(k:Bx q→p:=by intro Z;(repeat(first|((first|apply H.Aw|apply H.Be);(iterate 3 exact rfl))|(first|apply H.seq|apply H.Bg|apply H.nil|apply H.Bj)|((apply H.sliceNil);(iterate 5 exact rfl))|(apply H.Cn;exact rfl)|(apply H.skip)));exact qeU Z.o):p:=k ⟨h⟩
theorem qgR(h:q)(k:Bx q→p:=by intro Z;(repeat(first|(refine H.quo (p:=(l:Int)) (z:=((l / 4:Nat):Int)) rfl rfl rfl jC hq rfl ?_)|(refine gh ?_)));exact Z.o):p:=k ⟨h⟩
theorem qgS(h:q)(k:Bx q→p:=by intro Z;refine qku ?_;refine HQ.Ab rfl rfl rfl (by rw[Nat.zero_add,Nat.mul_one];exact Rd1.at0 (Rd.ofSlc (.there _ (.there _ (.there _ (.here _ _ _)))) jA) (rngV_get _ hr)) rfl ?_;refine gV ?_;refine qeo ?_;exact Z.o):p:=k ⟨h⟩
theorem qgT(h:q)(k:Bx q→p:=by intro Z;show H _ _ _ _ _ (slc _ _ _ _ _ ((bytesV T).take i++(bytesV K).drop i)::_) _;refine gG ?_;refine H.Bv (i:=i) rfl rfl rfl rfl jA rfl ?_;refine H.Ab rfl rfl rfl (.of (Rd.ofSlc (.here _ _ _) jA) hg) rfl ?_;refine gI ?_;exact Z.o):p:=k ⟨h⟩
theorem qgU(h:q)(k:Bx q→p:=by intro Z;refine H.Bu ?_;refine H.inNil ?_;refine gW ?_;refine H.pf (x:=pastH (pb r) _) ?_;refine H.pf (x:=slc (some ⟨eb,0,none⟩) _ ec _ _ _) ?_;refine H.pf (x:=row b3 _ _) ?_;refine H.pf (x:=X _) ?_;exact Z.o):p:=k ⟨h⟩
theorem qgV(h:q)(k:Bx q→p:=by intro Z;refine qeS ?_;refine HB.nx [] (S':=[]) rfl ?_;exact Z.o):p:=k ⟨h⟩
theorem qgW(h:q)(k:Bx q→p:=by intro Z;refine H.pd (x:=row xb _ _) ?_;exact Z.o):p:=k ⟨h⟩
theorem qgX(h:q)(k:Bx q→p:=by intro Z;show H _ _ _ [(11,.int .i64 ((scanDown (fun x=>!ltInt x d[a]!) d i2 j:Nat):Int)),(10,.int .i64 (i2:Int)),(0,.slice (some ⟨sb,0,none⟩) n c),(1,.int .i64 (a:Int))] f (slc (some ⟨sb,0,none⟩) n c _ 1 (arr d)::F) _;exact Z.o):p:=k ⟨h⟩
theorem qgY(h:q)(k:Bx q→p:=by intro Z;refine gA ?_;refine qeJ ?_;exact Z.o):p:=k ⟨h⟩
theorem qgZ(h:q)(k:Bx q→p:=by intro Z;show H _ _ _ [(10,.int .i64 ((scanUp (fun x=>ltInt x d[a]!) d j i:Nat):Int)),(11,.int .i64 (j:Int)),(0,.slice (some ⟨sb,0,none⟩) n c),(1,.int .i64 (a:Int))] f (slc (some ⟨sb,0,none⟩) n c _ 1 (arr d)::F) _;exact Z.o):p:=k ⟨h⟩
theorem qh(h:q)(k:Bx q→p:=by intro Z;refine qfo ?_;refine qio ?_;refine H.cr (has _) ?_;refine qeg ?_;exact Z.o):p:=k ⟨h⟩
theorem qha(h:q)(k:Bx q→p:=by intro Z;refine qei ?_;(repeat(first|(refine H.Ay (t:=52) (out:=(bodW 5 ((x.view.toNat % 6:Nat):Int) (1+((x.k.toNat % 6:Nat):Int))).vals none 0) rfl rfl rfl jE rfl ?_)|(refine gh ?_)));exact qeB Z.o):p:=k ⟨h⟩
theorem qhb(h:q)(k:Bx q→p:=by intro Z;refine H.not (b:=_) (c:=_) rfl rfl rfl rfl ?_;exact Z.o):p:=k ⟨h⟩
theorem qhc(h:q)(k:Bx q→p:=by intro Z;refine H.Ad (ls:=x.vals) rfl rfl rfl (Rd.ofRow (.there _ (.here _ _ _))) rfl rfl ?_;exact Z.o):p:=k ⟨h⟩
theorem qhd(h:q)(k:Bx q→p:=by intro Z;refine HQ.Ah (i:=y+1) rfl rfl rfl jA jA rfl ?_;exact Z.o):p:=k ⟨h⟩
theorem qhe(h:q)(k:Bx q→p:=by intro Z;refine gV ?_;refine HQ.Al (i:=r) rfl rfl rfl hrz hr11 rfl ?_;refine HQ.Ab rfl rfl rfl (by rw[Nat.mul_one];exact Rd1.of (zaz (m:=x.m) (q:=x.qp) (qc:=x.qc) (.there _ (.here _ _ _))) (zau x.m.deps hr11)) rfl ?_;exact Z.o):p:=k ⟨h⟩
theorem qhf(h:q)(k:Bx q→p:=by intro Z;refine qeo ?_;refine HB.ev 12 ?_;exact Z.o):p:=k ⟨h⟩
theorem qhg(h:q)(k:Bx q→p:=by intro Z;refine qei ?_;(repeat(first|(refine H.Ay (t:=52) (out:=(bodW 4 ((x.view.toNat % 6:Nat):Int) (1+((x.k.toNat % 6:Nat):Int))).vals none 0) rfl rfl rfl jE rfl ?_)|(refine gh ?_)));exact qeB Z.o):p:=k ⟨h⟩
theorem qhh(h:q)(k:Bx q→p:=by intro Z;refine gT ?_;refine qeH ?_;exact Z.o):p:=k ⟨h⟩
theorem qhi(h:q)(k:Bx q→p:=by intro Z;refine gI ?_;refine H.Af rfl rfl rfl (word_cs f _ cb s jA) ?_;refine qjb ?_;exact Z.o):p:=k ⟨h⟩
theorem qhj(h:q)(k:Bx q→p:=by intro Z;refine gV ?_;refine qku ?_;refine HQ.Ab rfl rfl rfl (by rw[Nat.zero_add,Nat.mul_one];exact Rd1.at0 (Rd.ofSlc (.there _ (.there _ (.here _ _ _))) jA) (rngV_get _ hr)) rfl ?_;exact Z.o):p:=k ⟨h⟩
theorem qhk(h:q)(k:Bx q→p:=by intro Z;refine H.pd (x:=slc vp _ _ 56 _ _) ?_;refine H.pd (x:=slc fp _ _ 68 _ _) ?_;exact Z.o):p:=k ⟨h⟩
theorem qhl(h:q)(k:Bx q→p:=by intro Z;exact H.Aj (ls:=[.nilFunc,.nilFunc,.nilFunc]) rfl rfl rfl Z.o):p:=k ⟨h⟩
theorem qhm(h:q)(k:Bx q→p:=by intro Z;refine gc ?_;refine qep ?_;refine H.db (S:=[_,_,_,_]) rfl ?_;exact Z.o):p:=k ⟨h⟩
theorem qhn(h:q)(k:Bx q→p:=by intro Z;refine qei ?_;(repeat(first|(refine H.Ay (t:=52) (out:=(bodW 3 ((x.view.toNat % 6:Nat):Int) (1+((x.k.toNat % 6:Nat):Int))).vals none 0) rfl rfl rfl jE rfl ?_)|(refine gh ?_)));exact qeB Z.o):p:=k ⟨h⟩
theorem qho(h:q)(k:Bx q→p:=by intro Z;(repeat((apply HQ.Bf;(iterate 3 exact rfl);(with_reducible exact zbt _ _);(iterate 2 exact rfl))));refine qeo ?_;exact Z.o):p:=k ⟨h⟩
theorem qhp(h:q)(k:Bx q→p:=by intro Z;refine H.pf (x:=slc fp _ _ 68 _ _) ?_;refine H.pf (x:=slc vp _ _ 56 _ _) ?_;exact Z.o):p:=k ⟨h⟩
theorem qhq(h:q)(k:Bx q→p:=by intro Z;refine gA ?_;refine qeV ?_;refine H.dc [0,1,2,3,4,5,6,7,8,9,10,11,12] (S:=[_]) rfl ?_;refine HB.qu [0,1,2,3,4,5,6,7,8] 5 ?_;refine qfw ?_;refine HB.ev 9 ?_;refine qgA ?_;exact Z.o):p:=k ⟨h⟩
theorem qhr(h:q)(k:Bx q→p:=by intro Z;refine H.pf (x:=logsH _ _ _) ?_;exact Z.o):p:=k ⟨h⟩
theorem qhs(h:q)(k:Bx q→p:=by intro Z;exact Fn.enterM func91 rfl ntmps91 rfl (L:=[(0,_),(1,_),(2,_)]) ⟨rfl,rfl,rfl,trivial⟩ Z.o):p:=k ⟨h⟩
theorem qht(h:q)(k:Bx q→p:=by intro Z;refine qei ?_;(repeat(first|(refine H.Ay (t:=52) (out:=(bodW 2 ((x.view.toNat % 6:Nat):Int) (1+((x.k.toNat % 6:Nat):Int))).vals none 0) rfl rfl rfl jE rfl ?_)|(refine gh ?_)));exact qeB Z.o):p:=k ⟨h⟩
theorem qhu(h:q)(k:Bx q→p:=by intro Z;refine HQ.Bm (enc:=encU8) (k:=(kind:Int)) rfl rfl rfl jB hkv (hz _) rfl ?_;refine HQ.fieldV (xs:=codecCells f1 f2 f3) rfl rfl rfl inferInstance rfl rfl rfl ?_;refine qeo ?_;exact Z.o):p:=k ⟨h⟩
theorem qhv(h:q)(k:Bx q→p:=by intro Z;refine qfm ?_;refine qeV ?_;refine qeg ?_;exact Z.o):p:=k ⟨h⟩
theorem qhw(h:q)(k:Bx q→p:=by intro Z;refine H.dc [0,1,2,3,4,5,6,7] (S:=[_,_]) rfl ?_;refine HB.qu [0,1,2,3,4,5] 5 ?_;refine gP ?_;exact Z.o):p:=k ⟨h⟩
theorem qhx(h:q)(k:Bx q→p:=by intro Z;refine H.Ak (i:=i) rfl rfl rfl rfl hlt rfl ?_;refine gH ?_;exact Z.o):p:=k ⟨h⟩
theorem qhy(h:q)(k:Bx q→p:=by intro Z;refine H.Ak (i:=i) rfl rfl rfl rfl hin rfl ?_;refine H.Ab rfl rfl rfl (num_rd (.here _ _ _) hy) rfl ?_;exact Z.o):p:=k ⟨h⟩
theorem qhz(h:q)(k:Bx q→p:=by intro Z;refine qei ?_;(repeat(first|(refine H.Ay (t:=52) (out:=(bodW 1 ((x.view.toNat % 6:Nat):Int) (1+((x.k.toNat % 6:Nat):Int))).vals none 0) rfl rfl rfl jE rfl ?_)|(refine gh ?_)));exact qeB Z.o):p:=k ⟨h⟩
theorem qhA(h:q)(k:Bx q→p:=by intro Z;refine qeo ?_;refine HB.ev 13 ?_;exact Z.o):p:=k ⟨h⟩
theorem qhB(h:q)(k:Bx q→p:=by intro Z;refine H.famPut (g:=fun r=>pastH (pb r) (l.past r)) hr ?_;exact Z.o):p:=k ⟨h⟩
theorem qhC(h:q)(k:Bx q→p:=by intro Z;refine HB.ev 5 ?_;refine H.Ag (ls:=zb 32) (vs:=b32 (Sha.sum l4)) (ls':=b32 (Sha.sum l4)) rfl rfl rfl (zaa rfl) rfl rfl (Nat.le_refl 32) jB ?_;refine qeR ?_;refine gT ?_;exact Z.o):p:=k ⟨h⟩
theorem qhD(h:q)(k:Bx q→p:=by intro Z;refine qej ?_;refine gB ?_;exact Z.o):p:=k ⟨h⟩
theorem qhE(h:q)(k:Bx q→p:=by intro Z;refine gM ?_;refine qkw ?_;refine H.Ab rfl rfl rfl (.of (zaz jB) (by rw[Nat.mul_one];exact zau m.deps hlt)) rfl ?_;exact Z.o):p:=k ⟨h⟩
theorem qhF(h:q)(k:Bx q→p:=by intro Z;refine qkv ?_;refine HQ.Al (i:=o) rfl rfl rfl hoo ho11 rfl ?_;exact Z.o):p:=k ⟨h⟩
theorem qhG(h:q)(k:Bx q→p:=by intro Z;exact H.Au (p:=p) (n0:=n) (c:=c) (T:=35) (sz:=1) (xs:=arr d0) (.here _ _ _) jA Z.o):p:=k ⟨h⟩
theorem qhH(h:q)(k:Bx q→p:=by intro Z;refine qeo ?_;refine HB.ev 9 ?_;exact Z.o):p:=k ⟨h⟩
theorem qhI(h:q)(k:Bx q→p:=by intro Z;refine gB ?_;refine HQ.event ?_;exact H.Ap rfl rfl rfl (pst_open_o f F b s eb ec hn v) Z.o):p:=k ⟨h⟩
theorem qhJ(h:q)(k:Bx q→p:=by intro Z;refine H.pf (x:=fam (chFam W.l cs) _) ?_;refine qfe ?_;refine qfI ?_;refine H.imp (zai ⟨V,vp,vc,pp,pc,cp,cc,pb,cs⟩ hi1) ?_;refine qfm ?_;refine qfF ?_;exact Z.o):p:=k ⟨h⟩
theorem qhK(h:q)(k:Bx q→p:=by intro Z;refine H.Ag (ls:=(Bod.zero 0).vals none 0) (vs:=x.m.body.vals x.qp x.qc) (ls':=x.m.body.vals x.qp x.qc) rfl rfl rfl (zaa rfl) rfl rfl (Nat.le_refl 76) (.here _ _ _) ?_;refine gA ?_;exact Z.o):p:=k ⟨h⟩
theorem qhL(h:q)(k:Bx q→p:=by intro Z;exact Fn.e1 func168 ntmps168 Z.o):p:=k ⟨h⟩
theorem qhM(h:q)(k:Bx q→p:=by intro Z;refine H.Ag (ls:=List.replicate 64 (.int .u32 0)) (vs:=Sha.k.map w32) (ls':=Sha.k.map w32) rfl rfl rfl (zaa rfl) rfl rfl (Nat.le_refl 64) jB ?_;refine gT ?_;exact Z.o):p:=k ⟨h⟩
theorem qhN(h:q)(k:Bx q→p:=by intro Z;refine H.pf (x:=slc fp _ _ 68 _ _) ?_;refine H.pf (x:=slc _ _ _ 56 _ _) ?_;refine qeV ?_;exact Z.o):p:=k ⟨h⟩
theorem qhO(h:q)(k:Bx q→p:=by intro Z;refine H.not (b:=true) (c:=false) rfl rfl rfl rfl ?_;exact Z.o):p:=k ⟨h⟩
theorem qhP(h:q)(k:Bx q→p:=by intro Z;refine H.Ba (v:=w32 _) (ls':=wRow S (j+16+1)) rfl rfl rfl rfl jB jQ ?_;refine qje ?_;exact Z.o):p:=k ⟨h⟩
theorem qhQ(h:q)(k:Bx q→p:=by intro Z;refine qeh ?_;refine qeu ?_;refine qfF ?_;exact Z.o):p:=k ⟨h⟩
theorem qhR(h:q)(k:Bx q→p:=by intro Z;refine qeV ?_;refine qeg ?_;refine HB.qu [10,11,12] 1 ?_;refine gP ?_;refine qeA ?_;refine HB.ev 13 ?_;refine gR ?_;refine qeS ?_;refine HB.dn ?_;exact Z.o):p:=k ⟨h⟩
theorem qhS(h:q)(k:Bx q→p:=by intro Z;refine HQ.Ak (b:=pbb) (off:=poff) (i:=r) rfl ke rfl hrz hr rfl ?_;refine HQ.Ab rfl rfl rfl (by rw[Nat.mul_one];exact rdp hr) rfl ?_;refine gK ?_;exact Z.o):p:=k ⟨h⟩
theorem qhT(h:q)(k:Bx q→p:=by intro Z;(repeat(first|(refine H.Ay (t:=54) (out:=msgZ.vals none 0) rfl rfl rfl jE rfl ?_)|(refine gh ?_)));refine qfz ?_;refine gT ?_;refine qgW ?_;exact Z.o):p:=k ⟨h⟩
theorem qhU(h:q)(k:Bx q→p:=by intro Z;exact H.Av (m:=1) (xs:=bytesV acc) rfl rfl rfl rfl rfl (fun p' c'=>jB) (Src.slice (Rd.ofRow (.here _ _ _)) rfl) (zaj _) rfl jA jA Z.o):p:=k ⟨h⟩
theorem qhV(h:q)(k:Bx q→p:=by intro Z;refine H.pf (x:=lst (V.map PV.own)) ?_;exact Z.o):p:=k ⟨h⟩
theorem qhW(h:q)(k:Bx q→p:=by intro Z;refine H.pf (x:=fam (chFam l cs) _) ?_;exact Z.o):p:=k ⟨h⟩
theorem qhX(h:q)(k:Bx q→p:=by intro Z;(repeat(first|(refine H.Ab rfl rfl rfl (.at0 (Rd.ofRow jB) (hRow_n s0 part0 n0 _ hi1.len)) rfl ?_)|(refine gh ?_)));refine H.imp (hashH_fold hi1) ?_;exact Z.o):p:=k ⟨h⟩
theorem qhY(h:q)(k:Bx q→p:=by intro Z;refine gQ ?_;refine qeo ?_;exact Z.o):p:=k ⟨h⟩
theorem qhZ(h:q)(k:Bx q→p:=by intro Z;exact Fn.e1 func97 ntmps97 Z.o):p:=k ⟨h⟩
theorem qia(h:q)(k:Bx q→p:=by intro Z;show Fn _ _ _ f (row _ _ _::slc _ _ _ _ _ _::F) _;exact Z.o):p:=k ⟨h⟩
theorem qib(h:q)(k:Bx q→p:=by intro Z;refine gP ?_;refine qeF ?_;refine qeo ?_;refine HB.ev 3 ?_;exact Z.o):p:=k ⟨h⟩
theorem qic(h:q)(k:Bx q→p:=by intro Z;refine H.pf (x:=row X.b _ _) ?_;exact Z.o):p:=k ⟨h⟩
theorem qid(h:q)(k:Bx q→p:=by intro Z;exact H.callE rfl rfl rfl (codecs_fn f _) Z.o):p:=k ⟨h⟩
theorem qie(h:q)(k:Bx q→p:=by intro Z;refine HQ.Ah (i:=j+1) rfl rfl rfl jA jA rfl ?_;exact Z.o):p:=k ⟨h⟩
theorem qif(h:q)(k:Bx q→p:=by intro Z;refine HQ.Ab rfl rfl rfl (Rd.arrI (.here _ _ _) jA) rfl ?_;exact Z.o):p:=k ⟨h⟩
theorem qig(h:q)(k:Bx q→p:=by intro Z;exact H.Aq (out:=bytesV [m.body.kind]) rfl rfl rfl rfl jC jC rfl rfl Z.o):p:=k ⟨h⟩
theorem qih(h:q)(k:Bx q→p:=by intro Z;exact H.Av (m:=2) rfl rfl rfl rfl rfl (fun p' c'=>jB) (Src.slice (Rd.ofRow jB) rfl) (zaa rfl) rfl jA jA Z.o):p:=k ⟨h⟩
theorem qii(h:q)(k:Bx q→p:=by intro Z;exact H.Aj (ls:=List.replicate 8 (.int .u32 0)) rfl rfl rfl Z.o):p:=k ⟨h⟩
theorem qij(h:q)(k:Bx q→p:=by intro Z;exact H.Av (m:=1) rfl rfl rfl rfl rfl (fun p' c'=>jB) (Src.slice (Rd.ofRow (.there _ (.here _ _ _))) rfl) (zaj _) rfl jA jA Z.o):p:=k ⟨h⟩
theorem qik(h:q)(k:Bx q→p:=by intro Z;refine gI ?_;refine qeJ ?_;exact Z.o):p:=k ⟨h⟩
theorem qil(h:q)(k:Bx q→p:=by intro Z;refine HQ.Ad (ls:=x.vals q qc) rfl rfl rfl (Rd.ofRow jB) rfl rfl ?_;exact Z.o):p:=k ⟨h⟩
theorem qim(h:q)(k:Bx q→p:=by intro Z;refine H.Bt (lo:=none) (hi:=none) (mx:=none) (lv:=0) (hv:=32) (mv:=32) rfl rfl rfl rfl rfl (fun h=>by cases h) jC jC jC rfl ?_;exact Z.o):p:=k ⟨h⟩
theorem qin(h:q)(k:Bx q→p:=by intro Z;refine H.pd (x:=row ab _ _) ?_;exact Z.o):p:=k ⟨h⟩
theorem qio(h:q)(k:Bx q→p:=by intro Z;refine qeo ?_;refine HB.ev 1 ?_;exact Z.o):p:=k ⟨h⟩
theorem qip(h:q)(k:Bx q→p:=by intro Z;refine gB ?_;refine HQ.Ak (i:=i) rfl rfl rfl rfl hlt rfl ?_;exact Z.o):p:=k ⟨h⟩
theorem qiq(h:q)(k:Bx q→p:=by intro Z;refine H.dc [0,1,2,3,4,5,6,7,8,9,10,11,12,13] (S:=[_,_]) rfl ?_;refine HB.qu [0,1,2,3,4,5,6,7,8,9,10,11,12,13] 1 ?_;refine gV ?_;exact Z.o):p:=k ⟨h⟩
theorem qir(h:q)(k:Bx q→p:=by intro Z;refine qeH ?_;refine H.pd (x:=row ub _ _) ?_;refine H.pd (x:=row nb _ _) ?_;refine H.pf (x:=pts D _) ?_;refine qeO ?_;exact Z.o):p:=k ⟨h⟩
theorem qis(h:q)(k:Bx q→p:=by intro Z;refine HQ.Ah (i:=j2) rfl rfl rfl jA jA rfl ?_;exact Z.o):p:=k ⟨h⟩
theorem qit(h:q)(k:Bx q→p:=by intro Z;refine H.Ag (ls:=zb 32) (vs:=b32 (Sha.sum (T++b))) (ls':=b32 (Sha.sum (T++b))) rfl rfl rfl (zaa rfl) rfl rfl (Nat.le_refl 32) jB ?_;exact Z.o):p:=k ⟨h⟩
theorem qiu(h:q)(k:Bx q→p:=by intro Z;refine gA ?_;refine qfy ?_;refine qfy ?_;exact Z.o):p:=k ⟨h⟩
theorem qiv(h:q)(k:Bx q→p:=by intro Z;exact H.Au (.there _ (.here _ _ _)) jA Z.o):p:=k ⟨h⟩
theorem qiw(h:q)(k:Bx q→p:=by intro Z;refine HQ.Ah (i:=y) rfl rfl rfl jA jA rfl ?_;exact Z.o):p:=k ⟨h⟩
theorem qix(h:q)(k:Bx q→p:=by intro Z;refine qeo ?_;refine HB.ev 15 ?_;exact Z.o):p:=k ⟨h⟩
theorem qiy(h:q)(k:Bx q→p:=by intro Z;refine gA ?_;refine qfF ?_;refine qeu ?_;refine qew ?_;refine qeS ?_;refine HB.qu [13] 0 ?_;refine qfh ?_;exact Z.o):p:=k ⟨h⟩
theorem qiz(h:q)(k:Bx q→p:=by intro Z;refine H.Bm (enc:=keyU) (k:=v) rfl rfl rfl jB rfl hget rfl ?_;exact Z.o):p:=k ⟨h⟩
theorem qiA(h:q)(k:Bx q→p:=by intro Z;refine HQ.Al (i:=i) rfl rfl rfl rfl hi11 rfl ?_;exact Z.o):p:=k ⟨h⟩
theorem qiB(h:q)(k:Bx q→p:=by intro Z;exact H.Am rfl rfl rfl (zck (l:=l1) f _ (Src.slcS (.there _ (.here _ _ _)) jG) (fun h=>by cases h) jA) Z.o):p:=k ⟨h⟩
theorem qiC(h:q)(k:Bx q→p:=by intro Z;refine H.Ad (ls:=r.vals) rfl rfl rfl (Rd.ofRow (.there _ (.here _ _ _))) rfl rfl ?_;exact Z.o):p:=k ⟨h⟩
theorem qiD(h:q)(k:Bx q→p:=by intro Z;refine qer ?_;refine qeZ ?_;refine qeq ?_;show H _ _ _ _ f (slc (some ⟨sb,0,none⟩) n c _ 1 (arr (swp d (j2) (a)))::_) _;refine gT ?_;exact Z.o):p:=k ⟨h⟩
theorem qiE(h:q)(k:Bx q→p:=by intro Z;exact H.Au (p:=(cs r).1) (n0:=(l.ch r).length) (c:=(cs r).2) (T:=197) (sz:=2) (xs:=(l.ch r).flatMap chV) (.there _ (.here _ _ _)) jA Z.o):p:=k ⟨h⟩
theorem qiF(h:q)(k:Bx q→p:=by intro Z;refine gA ?_;refine qeK ?_;refine qep ?_;refine qeS ?_;refine HB.qu [28,29,30,31,32] 3 ?_;exact Z.o):p:=k ⟨h⟩
theorem qiG(h:q)(k:Bx q→p:=by intro Z;refine qga ?_;refine HQ.Ab rfl rfl rfl (by rw[Nat.mul_one];exact Rd1.of (plC_kn (.there _ (.there _ (.here _ _ _)))) (zau l.known ho11)) rfl ?_;exact Z.o):p:=k ⟨h⟩
theorem qiH(h:q)(k:Bx q→p:=by intro Z;refine gF ?_;refine H.Ck (enc:=keyIn) (k:=x.m.origin) rfl rfl rfl jB rfl hg1 hg2 rfl ?_;refine gO ?_;exact qfl Z.o):p:=k ⟨h⟩
theorem qiI(h:q)(k:Bx q→p:=by intro Z;refine H.famPut (g:=fun r=>pstH (pb r) (l.past r)) hr ?_;exact Z.o):p:=k ⟨h⟩
theorem qiJ(h:q)(k:Bx q→p:=by intro Z;refine H.callVR (fs:=[]) (cs:=cs) rfl rfl rfl rfl hcx ?_;exact Z.o):p:=k ⟨h⟩
theorem qiK(h:q)(k:Bx q→p:=by intro Z;refine qej ?_;refine qeA ?_;exact Z.o):p:=k ⟨h⟩
theorem qiL(h:q)(k:Bx q→p:=by intro Z;refine H.Bm rfl rfl rfl jB rfl hgk rfl ?_;refine gH ?_;refine H.mapUpdate rfl rfl rfl rfl jB rfl ?_;exact Z.o):p:=k ⟨h⟩
theorem qiM(h:q)(k:Bx q→p:=by intro Z;refine gg ?_;refine H.max2 (z:=if(r.key.size:Int)<r.to.size then(r.to.size:Int)else r.key.size) rfl rfl rfl rfl rfl ?_;refine gg ?_;exact Z.o):p:=k ⟨h⟩
theorem qiN(h:q)(k:Bx q→p:=by intro Z;refine gA ?_;refine H.pf (x:=row ib _ _) ?_;refine qeS ?_;exact Z.o):p:=k ⟨h⟩
theorem qiO(h:q)(k:Bx q→p:=by intro Z;refine H.pf (x:=loreH _ lo _ _) ?_;exact Z.o):p:=k ⟨h⟩
theorem qiP(h:q)(k:Bx q→p:=by intro Z;exact H.Aq (out:=bytesV [0]) rfl rfl rfl rfl jC jC rfl rfl Z.o):p:=k ⟨h⟩
theorem qiQ(h:q)(k:Bx q→p:=by intro Z;refine gG ?_;refine H.Bv (i:=i) rfl rfl rfl rfl jA rfl ?_;refine H.Ab rfl rfl rfl (.of (Rd.ofRow jB) hv) rfl ?_;exact Z.o):p:=k ⟨h⟩
theorem qiR(h:q)(k:Bx q→p:=by intro Z;refine H.Ak (i:=k) rfl rfl rfl rfl hkl rfl ?_;exact Z.o):p:=k ⟨h⟩
theorem qiS(h:q)(k:Bx q→p:=by intro Z;refine qeE ?_;refine H.imp (zce (A:=A) ⟨lo,lg,L,fp,fc,tp,tc⟩ hi) ?_;exact Z.o):p:=k ⟨h⟩
theorem qiT(h:q)(k:Bx q→p:=by intro Z;exact Fn.e2 func47 ntmps47 Z.o):p:=k ⟨h⟩
theorem qiU(h:q)(k:Bx q→p:=by intro Z;refine HN.move (i:=4) jE rfl rfl rfl rfl ?_;exact Z.o):p:=k ⟨h⟩
theorem qiV(h:q)(k:Bx q→p:=by intro Z;exact H.Am rfl rfl rfl (zck f _ hs.cons hn jA) Z.o):p:=k ⟨h⟩
theorem qiW(h:q)(k:Bx q→p:=by intro Z;refine qeu ?_;refine qeS ?_;exact Z.o):p:=k ⟨h⟩
theorem qiX(h:q)(k:Bx q→p:=by intro Z;refine H.pf (x:=lst (V.map VV.own)) ?_;exact Z.o):p:=k ⟨h⟩
theorem qiY(h:q)(k:Bx q→p:=by intro Z;refine gT ?_;refine qeK ?_;exact Z.o):p:=k ⟨h⟩
theorem qiZ(h:q)(k:Bx q→p:=by intro Z;refine HB.qu [0,1,3,4] 8 ?_;refine qfw ?_;refine HB.ev 2 ?_;refine qew ?_;refine H.cr (hprim _) ?_;refine qfM ?_;refine HB.qu [5,6,7,8] 3 ?_;exact Z.o):p:=k ⟨h⟩
theorem qj(h:q)(k:Bx q→p:=by intro Z;refine H.pf (x:=row qb _ _) ?_;exact Z.o):p:=k ⟨h⟩
theorem qja(h:q)(k:Bx q→p:=by intro Z;refine H.pd (x:=row tb _ _) ?_;exact Z.o):p:=k ⟨h⟩
theorem qjb(h:q)(k:Bx q→p:=by intro Z;(repeat(((apply H.Aw);(iterate 3 exact rfl))));exact Z.o):p:=k ⟨h⟩
theorem qjc(h:q)(k:Bx q→p:=by intro Z;refine qer ?_;refine HN.ar (i:=4) (z:=((j:Nat):Int)) jE rfl rfl rfl rfl rfl jY rfl ?_;exact Z.o):p:=k ⟨h⟩
theorem qjd(h:q)(k:Bx q→p:=by intro Z;refine qeo ?_;refine HB.ev 17 ?_;exact Z.o):p:=k ⟨h⟩
theorem qje(h:q)(k:Bx q→p:=by intro Z;refine qeR ?_;refine gW ?_;exact Z.o):p:=k ⟨h⟩
theorem qjf(h:q)(k:Bx q→p:=by intro Z;refine gA ?_;refine qew ?_;refine qeS ?_;refine HB.ev 6 ?_;exact H.Aq (out:=addrV b) rfl rfl rfl rfl jC jC rfl rfl Z.o):p:=k ⟨h⟩
theorem qjg(h:q)(k:Bx q→p:=by intro Z;exact H.box (ls:=x.vals) rfl rfl rfl rfl Z.o):p:=k ⟨h⟩
theorem qjh(h:q)(k:Bx q→p:=by intro Z;refine H.By (g:=fun r=>pastH (pb r) (l.past r)) hr ?_;exact Z.o):p:=k ⟨h⟩
theorem qji(h:q)(k:Bx q→p:=by intro Z;refine H.Bf (op:=.xor) rfl rfl rfl (zbt _ _) rfl rfl ?_;exact Z.o):p:=k ⟨h⟩
theorem qjj(h:q)(k:Bx q→p:=by intro Z;refine qeK ?_;refine qeK ?_;exact Z.o):p:=k ⟨h⟩
theorem qjk(h:q)(k:Bx q→p:=by intro Z;refine HB.qu [0,1,2,3,4,5,6,7,8,9,10,11] 3 ?_;refine gJ ?_;refine qhf ?_;refine qgH ?_;refine HB.qu [13,14] 0 ?_;exact Z.o):p:=k ⟨h⟩
theorem qjl(h:q)(k:Bx q→p:=by intro Z;refine gI ?_;refine H.Ad (ls:=x.vals) rfl rfl rfl (Rd.ofRow jB) rfl rfl ?_;refine H.cr (hmay _) ?_;refine gY ?_;exact Z.o):p:=k ⟨h⟩
theorem qjm(h:q)(k:Bx q→p:=by intro Z;exact H.Bw (.here _ _) Z.o):p:=k ⟨h⟩
theorem qjn(h:q)(k:Bx q→p:=by intro Z;exact H.Aj (ls:=repZ) rfl rfl rfl Z.o):p:=k ⟨h⟩
theorem qjo(h:q)(k:Bx q→p:=by intro Z;refine gP ?_;refine HQ.Ab rfl rfl rfl (Rd1.of (i:=0) (rd _) rfl) rfl ?_;exact Z.o):p:=k ⟨h⟩
theorem qjp(h:q)(k:Bx q→p:=by intro Z;refine H.not (b:=false) (c:=true) rfl rfl rfl rfl ?_;exact Z.o):p:=k ⟨h⟩
theorem qjq(h:q)(k:Bx q→p:=by intro Z;(repeat(first|(apply H.seq)|(apply H.Bl)));exact Z.o):p:=k ⟨h⟩
theorem qjr(h:q)(k:Bx q→p:=by intro Z;refine qeR ?_;refine gA ?_;exact Z.o):p:=k ⟨h⟩
theorem qjs(h:q)(k:Bx q→p:=by intro Z;refine gG ?_;refine H.dc [0,1,2,3,4,5,6,7] (S:=[_]) rfl ?_;refine HB.qu [0,1,2,3,4] 6 ?_;refine qfw ?_;refine HB.ev 5 ?_;exact Z.o):p:=k ⟨h⟩
theorem qjt(h:q)(k:Bx q→p:=by intro Z;refine HB.qu [0,1,2,3,4,5,6,7,8,9,10,11] 2 ?_;exact Z.o):p:=k ⟨h⟩
theorem qju(h:q)(k:Bx q→p:=by intro Z;refine gZ ?_;refine qey ?_;exact Z.o):p:=k ⟨h⟩
theorem qjv(h:q)(k:Bx q→p:=by intro Z;refine gI ?_;refine H.Bf (op:=.and) rfl rfl rfl (u32_and _ _) rfl rfl ?_;exact Z.o):p:=k ⟨h⟩
theorem qjw(h:q)(k:Bx q→p:=by intro Z;refine qeo ?_;refine HB.ev 6 ?_;exact Z.o):p:=k ⟨h⟩
theorem qjx(h:q)(k:Bx q→p:=by intro Z;exact H.Au (p:=vp) (n0:=B.1.vd.length) (c:=vc) (T:=56) (sz:=1) (xs:=B.1.vd.flatMap vdV) jB jA Z.o):p:=k ⟨h⟩
theorem qjy(h:q)(k:Bx q→p:=by intro Z;refine gW ?_;refine H.pd (x:=row kb _ _) ?_;refine qgW ?_;exact Z.o):p:=k ⟨h⟩
theorem qjz(h:q)(k:Bx q→p:=by intro Z;refine H.pf (x:=row yb _ _) ?_;refine qeS ?_;exact Z.o):p:=k ⟨h⟩
theorem qjA(h:q)(k:Bx q→p:=by intro Z;refine H.Ck (enc:=encAu) (k:=(x.m.origin,x.m.number)) rfl rfl rfl jB rfl hg1 hg2 rfl ?_;refine gY ?_;exact Z.o):p:=k ⟨h⟩
theorem qjB(h:q)(k:Bx q→p:=by intro Z;refine gA ?_;refine qeu ?_;refine qeV ?_;exact Z.o):p:=k ⟨h⟩
theorem qjC(h:q)(k:Bx q→p:=by intro Z;refine gG ?_;refine H.Ak rfl rfl rfl rfl hlt rfl ?_;exact Z.o):p:=k ⟨h⟩
theorem qjD(h:q)(k:Bx q→p:=by intro Z;refine qer ?_;refine qfg ?_;refine qeq ?_;show H _ _ _ _ f (slc (some ⟨sb,0,none⟩) n c _ 1 (arr (swp d0 (a) (pivot)))::_) _;exact Z.o):p:=k ⟨h⟩
theorem qjE(h:q)(k:Bx q→p:=by intro Z;refine HQ.Ah (i:=first+root) rfl rfl rfl jA jA rfl ?_;exact Z.o):p:=k ⟨h⟩
theorem qjF(h:q)(k:Bx q→p:=by intro Z;refine gT ?_;refine H.pd (x:=row yb _ _) ?_;refine qeH ?_;exact Z.o):p:=k ⟨h⟩
theorem qjG(h:q)(k:Bx q→p:=by intro Z;refine H.Ac (.there _ (.here _ _)) ?_;exact Z.o):p:=k ⟨h⟩
theorem qjH(h:q)(k:Bx q→p:=by intro Z;exact H.Cm (.here _ _ _) Z.o):p:=k ⟨h⟩
theorem qjI(h:q)(k:Bx q→p:=by intro Z;refine qfd ?_;refine H.pf (x:=slc tp _ _ 3 _ _) ?_;exact Z.o):p:=k ⟨h⟩
theorem qjJ(h:q)(k:Bx q→p:=by intro Z;refine gI ?_;exact H.makeS (m:=n) (zs:=[.slice none 0 0]) rfl rfl rfl rfl rfl rfl rfl jC jA jA rfl Z.o):p:=k ⟨h⟩
theorem qjK(h:q)(k:Bx q→p:=by intro Z;refine qeO ?_;refine qge ?_;refine H.imp (zam ⟨V,vb,pp,pc,cp,cc,pb,cs⟩ hi) ?_;refine H.pf (x:=slc p2 _ c2 _ _ _) ?_;exact Z.o):p:=k ⟨h⟩
theorem qjL(h:q)(k:Bx q→p:=by intro Z;refine gU ?_;refine H.imp (zbm hb hc) ?_;refine H.Af rfl rfl rfl hh ?_;refine gU ?_;exact H.cutOpen Z.o):p:=k ⟨h⟩
theorem qjM(h:q)(k:Bx q→p:=by intro Z;refine H.pf (x:=fam (updF (strH l i) o emp) 11) ?_;refine H.pf (x:=strH l i o) ?_;refine H.By ho11 ?_;exact Z.o):p:=k ⟨h⟩
theorem qjN(h:q)(k:Bx q→p:=by intro Z;refine H.Ad (ls:=v11 x.m.deps) rfl rfl rfl (zaz (m:=x.m) (q:=x.qp) (qc:=x.qc) (.here _ _ _)) rfl rfl ?_;refine gT ?_;exact Z.o):p:=k ⟨h⟩
theorem qjO(h:q)(k:Bx q→p:=by intro Z;refine HQ.Ah (i:=first+ch) rfl rfl rfl jA jA rfl ?_;exact Z.o):p:=k ⟨h⟩
theorem qjP(h:q)(k:Bx q→p:=by intro Z;refine gW ?_;refine H.Bh (d:=5) (u:=.int .i64 (7-((i+1:Nat):Int))) rfl (congrArg (Value.int .i64) jA) ?_;exact Z.o):p:=k ⟨h⟩
theorem qjQ(h:q)(k:Bx q→p:=by intro Z;refine gS ?_;refine H.quo (z:=(((n-1) / 2:Nat):Int)) rfl rfl rfl jC (by rw[hquo,wr_i64 jA]) rfl ?_;exact Z.o):p:=k ⟨h⟩
theorem qjR(h:q)(k:Bx q→p:=by intro Z;(repeat(first|(refine H.quo (p:=(l:Int)) (z:=((l / 8:Nat):Int)) rfl rfl rfl jC hq rfl ?_)|(refine gh ?_)));exact Z.o):p:=k ⟨h⟩
theorem qjS(h:q)(k:Bx q→p:=by intro Z;refine H.Ag (ls:=pairV (0,0)) (vs:=pairV p) (ls':=pairV p) rfl rfl rfl (zaa rfl) rfl rfl (Nat.le_refl 2) (.here _ _ _) ?_;exact Z.o):p:=k ⟨h⟩
theorem qjT(h:q)(k:Bx q→p:=by intro Z;refine H.Ag (ls:=Req.zero.vals) (vs:=r.vals) (ls':=r.vals) rfl rfl rfl (zaa rfl) rfl rfl (Nat.le_refl 40) (.here _ _ _) ?_;exact Z.o):p:=k ⟨h⟩
theorem qjU(h:q)(k:Bx q→p:=by intro Z;refine qew ?_;refine H.pf (x:=row b3 _ _) ?_;refine H.pf (x:=row b2 _ _) ?_;refine H.pf (x:=row b1 _ _) ?_;exact Z.o):p:=k ⟨h⟩
theorem qjV(h:q)(k:Bx q→p:=by intro Z;refine HQ.Ck (enc:=encU8) (k:=(x.kind.toNat:Int)) rfl rfl rfl jB rfl hz hi rfl ?_;refine qhY ?_;exact Z.o):p:=k ⟨h⟩
theorem qjW(h:q)(k:Bx q→p:=by intro Z;refine H.Ao (.there _ (.there _ (.there _ (.there _ (.here _ _))))) ?_;exact Z.o):p:=k ⟨h⟩
theorem qjX(h:q)(k:Bx q→p:=by intro Z;exact Fn.unpack Z.o):p:=k ⟨h⟩
theorem qjY(h:q)(k:Bx q→p:=by intro Z;refine H.pf (x:=row nb _ _) ?_;exact Z.o):p:=k ⟨h⟩
theorem qjZ(h:q)(k:Bx q→p:=by intro Z;refine qhA ?_;refine qeL ?_;refine HB.qu [14] 1 ?_;exact Z.o):p:=k ⟨h⟩
theorem qk(h:q)(k:Bx q→p:=by intro Z;refine H.pf (x:=row hb _ _) ?_;refine H.pf (x:=row zb _ _) ?_;refine H.pf (x:=slc bp _ _ _ _ _) ?_;exact Z.o):p:=k ⟨h⟩
theorem qka(h:q)(k:Bx q→p:=by intro Z;refine gI ?_;refine qfq ?_;refine H.pf (x:=loreH _ _ _ _) ?_;refine H.Af rfl rfl rfl (lcheck_fn f _ htab hx) ?_;exact Z.o):p:=k ⟨h⟩
theorem qkb(h:q)(k:Bx q→p:=by intro Z;refine gA ?_;refine qeI ?_;refine qfm ?_;exact Z.o):p:=k ⟨h⟩
theorem qkc(h:q)(k:Bx q→p:=by intro Z;refine gP ?_;refine HQ.Ak (i:=j) rfl rfl rfl rfl hjl rfl ?_;exact Z.o):p:=k ⟨h⟩
theorem qkd(h:q)(k:Bx q→p:=by intro Z;refine HQ.Ck (enc:=encU8) (k:=(kind:Int)) rfl rfl rfl jB hkv (hz _) hi rfl ?_;refine qhY ?_;exact Z.o):p:=k ⟨h⟩
theorem qke(h:q)(k:Bx q→p:=by intro Z;refine H.db (S:=[_,_,_]) rfl ?_;exact Z.o):p:=k ⟨h⟩
theorem qkf(h:q)(k:Bx q→p:=by intro Z;refine H.pf (x:=mp vb _ _) ?_;refine qew ?_;exact Z.o):p:=k ⟨h⟩
theorem qkg(h:q)(k:Bx q→p:=by intro Z;refine H.Ad (ls:=[.int .i64 x.m.origin,.int .u64 x.m.number]) rfl rfl rfl (Rd.ofRow jB) rfl rfl ?_;exact Z.o):p:=k ⟨h⟩
theorem qkh(h:q)(k:Bx q→p:=by intro Z;refine gO ?_;refine H.quo (z:=((n / 2:Nat):Int)) rfl rfl rfl jC (by rw[hq2,wr_i64 jA]) rfl ?_;exact Z.o):p:=k ⟨h⟩
theorem qki(h:q)(k:Bx q→p:=by intro Z;exact H.Au (p:=cp) (n0:=l.n) (c:=cc) (T:=226) (sz:=1) (xs:=chRow l cs) jB jA Z.o):p:=k ⟨h⟩
theorem qkj(h:q)(k:Bx q→p:=by intro Z;exact H.Au (p:=cp) (n0:=l.n) (c:=cc) (T:=195) (sz:=1) (xs:=chRow l cs) jB jA Z.o):p:=k ⟨h⟩
theorem qkk(h:q)(k:Bx q→p:=by intro Z;refine qgc ?_;refine H.Bq hr ?_;exact Z.o):p:=k ⟨h⟩
theorem qkl(h:q)(k:Bx q→p:=by intro Z;refine gF ?_;refine H.Ad (ls:=x.m.body.vals x.qp x.qc) rfl rfl rfl (msg_body (.here _ _ _)) rfl rfl ?_;exact qeB Z.o):p:=k ⟨h⟩
theorem qkm(h:q)(k:Bx q→p:=by intro Z;refine H.ownOpen ?_;refine qek ?_;refine qj ?_;refine qeS ?_;refine HB.qu [5,6,7,8,9,10,11] 21 ?_;refine gZ ?_;exact Z.o):p:=k ⟨h⟩
theorem qkn(h:q)(k:Bx q→p:=by intro Z;show H _ _ _ _ _ (row _ _ _::slc _ _ _ _ _ _::mp _ _ _::F) _;exact Z.o):p:=k ⟨h⟩
theorem qko(h:q)(k:Bx q→p:=by intro Z;refine H.pf (x:=plogH _ lb _) ?_;exact Z.o):p:=k ⟨h⟩
theorem qkp(h:q)(k:Bx q→p:=by intro Z;refine gR ?_;refine H.Ad (ls:=m.body.vals q qc) rfl rfl rfl (msg_body jB) rfl rfl ?_;exact Z.o):p:=k ⟨h⟩
theorem qkq(h:q)(k:Bx q→p:=by intro Z;refine gI ?_;refine H.Af rfl rfl rfl hfew ?_;refine qhb ?_;exact Z.o):p:=k ⟨h⟩
theorem qkr(h:q)(k:Bx q→p:=by intro Z;refine H.pf (x:=slc cp _ cc _ _ _) ?_;exact Z.o):p:=k ⟨h⟩
theorem qks(h:q)(k:Bx q→p:=by intro Z;refine gG ?_;refine H.dq ?_;exact Z.o):p:=k ⟨h⟩
theorem qkt(h:q)(k:Bx q→p:=by intro Z;refine gA ?_;refine qep ?_;refine qeS ?_;exact Z.o):p:=k ⟨h⟩
theorem qku(h:q)(k:Bx q→p:=by intro Z;refine HQ.Ak (i:=r) rfl rfl rfl hrz hr rfl ?_;exact Z.o):p:=k ⟨h⟩
theorem qkv(h:q)(k:Bx q→p:=by intro Z;refine HQ.Ak (i:=o) rfl rfl rfl hoo ho rfl ?_;exact Z.o):p:=k ⟨h⟩
theorem qkw(h:q)(k:Bx q→p:=by intro Z;refine H.Al (i:=i) rfl rfl rfl rfl hlt rfl ?_;exact Z.o):p:=k ⟨h⟩
theorem qkx(h:q)(k:Bx q→p:=by intro Z;refine qfU ?_;refine H.Bq hr ?_;exact Z.o):p:=k ⟨h⟩
theorem qky(h:q)(k:Bx q→p:=by intro Z;refine H.pf (x:=slc p2 _ _ _ _ _) ?_;exact Z.o):p:=k ⟨h⟩
theorem qkz(h:q)(k:Bx q→p:=by intro Z;refine gP ?_;refine qfK ?_;refine gP ?_;exact Z.o):p:=k ⟨h⟩
theorem qkA(h:q)(k:Bx q→p:=by intro Z;refine HQ.Ay (t:=54) (out:=(W.next n o x).vals qp qc) rfl rfl rfl jE rfl ?_;refine qeo ?_;exact Z.o):p:=k ⟨h⟩
theorem qkB(h:q)(k:Bx q→p:=by intro Z;refine H.Az rfl rfl rfl rfl jB (by rw[Nat.zero_add,Nat.mul_one];exact rngV_set _ _ hr) ?_;exact Z.o):p:=k ⟨h⟩
theorem qkC(h:q)(k:Bx q→p:=by intro Z;refine gA ?_;refine qhQ ?_;refine qeS ?_;refine HB.qu [27,28] 0 ?_;refine qfh ?_;exact Z.o):p:=k ⟨h⟩
theorem qkD(h:q)(k:Bx q→p:=by intro Z;refine qeo ?_;refine HB.ev 18 ?_;exact Z.o):p:=k ⟨h⟩
theorem qkE(h:q)(k:Bx q→p:=by intro Z;refine qeC ?_;refine H.back (A:=[_]) rfl ?_;exact Z.o):p:=k ⟨h⟩
theorem qkF(h:q)(k:Bx q→p:=by intro Z;refine HQ.Ah (i:=x) rfl rfl rfl jA jA rfl ?_;exact Z.o):p:=k ⟨h⟩
theorem qkG(h:q)(k:Bx q→p:=by intro Z;refine H.pf (x:=row cb _ _) ?_;refine H.asSlc (k:=i) (sz:=1) (by rw[zeros_length];rfl) jA ?_;exact Z.o):p:=k ⟨h⟩
theorem qkH(h:q)(k:Bx q→p:=by intro Z;refine H.dq ?_;refine gV ?_;exact Z.o):p:=k ⟨h⟩
theorem qkI(h:q)(k:Bx q→p:=by intro Z;refine H.pd (x:=slc _ _ _ _ _ _) ?_;exact Z.o):p:=k ⟨h⟩
theorem qkJ(h:q)(k:Bx q→p:=by intro Z;refine H.pf (x:=slc (some ⟨cb,0,none⟩) _ cc _ _ _) ?_;exact Z.o):p:=k ⟨h⟩
theorem qkK(h:q)(k:Bx q→p:=by intro Z;refine H.imp (zam ⟨V,vb,pp,pc,cp,cc,pb,cs⟩ hiF) ?_;exact Z.o):p:=k ⟨h⟩
theorem qkL(h:q)(k:Bx q→p:=by intro Z;refine gA ?_;refine qgJ ?_;exact Z.o):p:=k ⟨h⟩
theorem qkM(h:q)(k:Bx q→p:=by intro Z;refine qfh ?_;refine gT ?_;exact Z.o):p:=k ⟨h⟩
theorem qkN(h:q)(k:Bx q→p:=by intro Z;refine H.pf (x:=row ob _ _) ?_;exact Z.o):p:=k ⟨h⟩
theorem qkO(h:q)(k:Bx q→p:=by intro Z;refine H.Ak (b:=vb) (off:=0) (i:=i) rfl (by rw[←hvb];rfl) rfl rfl hilt rfl ?_;refine gH ?_;exact Z.o):p:=k ⟨h⟩
theorem qkP(h:q)(k:Bx q→p:=by intro Z;refine H.Ad (ls:=pairV p) rfl rfl rfl (rd _) rfl rfl ?_;exact H.Aj (ls:=pairV (0,0)) rfl rfl rfl Z.o):p:=k ⟨h⟩
theorem qkQ(h:q)(k:Bx q→p:=by intro Z;show H _ _ _ [_,(12,.int .i64 (so:Nat)),_,_,_,_,_,_] f3 (row nb _ (v11 nd)::_::_::_::F) _;exact Z.o):p:=k ⟨h⟩
theorem qkR(h:q)(k:Bx q→p:=by intro Z;refine H.dc [0,1,2,3,4,5,6,7,8] (S:=[_,_]) rfl ?_;exact Z.o):p:=k ⟨h⟩
theorem qkS(h:q)(k:Bx q→p:=by intro Z;refine HQ.Ak (b:=sb) (off:=0) (i:=i) rfl (by rw[←hp];rfl) rfl rfl hlt rfl ?_;refine gP ?_;exact Z.o):p:=k ⟨h⟩
theorem qkT(h:q)(k:Bx q→p:=by intro Z;refine qfu ?_;refine qgA ?_;refine H.cr (htake _) ?_;refine qeu ?_;refine qeV ?_;exact Z.o):p:=k ⟨h⟩
theorem qkU(h:q)(k:Bx q→p:=by intro Z;refine qeJ ?_;refine HB.qu [0,1,2,3,4,5,6,7,8,9,10,11,12,13,14,15,16,17] 2 ?_;refine gZ ?_;exact Z.o):p:=k ⟨h⟩
theorem qkV(h:q)(k:Bx q→p:=by intro Z;refine HQ.Ad (ls:=x.vals) rfl rfl rfl (Rd.ofRow (.there _ (.here _ _ _))) rfl rfl ?_;refine qeo ?_;exact Z.o):p:=k ⟨h⟩
theorem qkW(h:q)(k:Bx q→p:=by intro Z;refine H.Ad (ls:=(W.next n o x).vals qp qc) rfl rfl rfl (Rd.ofRow (.there _ (.here _ _ _))) rfl rfl ?_;exact Z.o):p:=k ⟨h⟩
theorem qkX(h:q)(k:Bx q→p:=by intro Z;show bestOf bv (updF l.past (orgI m) _ (orgI m)).all a=_;exact Z.o):p:=k ⟨h⟩
theorem qkY(h:q)(k:Bx q→p:=by intro Z;refine H.pf (x:=mp mb _ _) ?_;exact Z.o):p:=k ⟨h⟩
theorem qkZ(h:q)(k:Bx q→p:=by intro Z;exact H.Av rfl rfl rfl rfl rfl (fun p' c'=>.here _ _ _) hs.cons (zaj l) rfl jA jA Z.o):p:=k ⟨h⟩
theorem ql(h:q)(k:Bx q→p:=by intro Z;exact H.Aq (out:=chV (x.m.body.view,x.m.number)) rfl rfl rfl rfl jC jC rfl rfl Z.o):p:=k ⟨h⟩
theorem gA(h:q)(k:Bx q→p:=by intro x;(repeat(first|(first|apply H.seq|apply H.Bg|apply H.nil|apply H.Bj)));exact x.o):p:=k ⟨h⟩
theorem gB(h:q)(k:Bx q→p:=by intro x;(repeat(first|((first|apply HQ.Aw|apply HQ.Be|apply HQ.Bd|apply HQ.Bi);(iterate 3 exact rfl))));exact x.o):p:=k ⟨h⟩
theorem gC(h:q)(k:Bx q→p:=by intro x;(repeat(first|(first|apply H.seq|apply H.Bg|apply H.nil|apply H.Bj)|(apply H.pass;(iterate 2 exact rfl))));exact x.o):p:=k ⟨h⟩
theorem gD(h:q)(k:Bx q→p:=by intro x;(repeat(first|((first|apply H.Aw|apply H.Be|apply H.Bd|apply H.Bi|apply H.Bs|apply H.Br);(iterate 3 exact rfl))|(first|apply H.seq|apply H.Bg|apply H.nil|apply H.Bj)|(apply H.Co;exact rfl)|(first|apply H.skip|apply H.ret|apply H.Ce|apply H.Cf|apply H.exit|apply H.Bl|apply H.Bp|apply H.Ca|apply H.Cb|apply H.Cd|apply H.Cc)));exact x.o):p:=k ⟨h⟩
theorem gE(h:q)(k:Bx q→p:=by intro x;(repeat(first|((first|apply HS.Aw|apply HS.Bd|apply HS.Bi);(iterate 3 exact rfl))|(apply HS.Bn;(iterate 3 exact rfl);exact inferInstance;exact rfl)|(apply HS.Ab;(iterate 3 exact rfl);apply Rd1.ofRow;(repeat(first|exact .here _ _ _|apply At.there));(iterate 2 exact rfl))|apply HS.done|((first|(apply HS.ar;(iterate 4 exact rfl))|(apply HS.conv_int;(iterate 2 exact rfl)));(first|(with_reducible apply zbe;omega)|(with_reducible apply zbf;omega)|(with_reducible apply zbd;omega)|(with_reducible apply wr_i64;omega)|(with_reducible apply wr_u64;omega)|(with_reducible apply wr_u8;omega)|(with_reducible apply wr_u16;omega)|rfl);exact rfl)));exact x.o):p:=k ⟨h⟩
theorem gF(h:q)(k:Bx q→p:=by intro x;(repeat(first|((first|apply H.Aw|apply H.Be|apply H.Bd|apply H.Bi|apply H.Bs|apply H.Br);(iterate 3 exact rfl))|(apply H.Bn;(iterate 3 exact rfl);exact inferInstance;exact rfl)|(apply H.Ab;(iterate 3 exact rfl);apply Rd1.ofRow;(repeat(first|exact .here _ _ _|apply At.there));(iterate 2 exact rfl))|(first|apply H.seq|apply H.Bg|apply H.nil|apply H.Bj)));exact x.o):p:=k ⟨h⟩
theorem gG(h:q)(k:Bx q→p:=by intro x;(repeat(first|((first|apply H.Aw|apply H.Be|apply H.Bd|apply H.Bi|apply H.Bs|apply H.Br);(iterate 3 exact rfl))|(first|apply H.seq|apply H.Bg|apply H.nil|apply H.Bj)|((first|apply H.cmp|apply H.Ay);(iterate 5 exact rfl))|(first|apply H.skip|apply H.ret|apply H.Ce|apply H.Cf|apply H.exit|apply H.Bl|apply H.Bp|apply H.Ca|apply H.Cb|apply H.Cd|apply H.Cc)|(apply H.Ch;exact rfl;(first|assumption|omega))));exact x.o):p:=k ⟨h⟩
theorem gH(h:q)(k:Bx q→p:=by intro x;(repeat(first|(apply H.Bn;(iterate 3 exact rfl);exact inferInstance;exact rfl)|(apply H.Ab;(iterate 3 exact rfl);apply Rd1.ofRow;(repeat(first|exact .here _ _ _|apply At.there));(iterate 2 exact rfl))|((first|(apply H.ar;(iterate 4 exact rfl))|(apply H.Bk;(iterate 2 exact rfl)));(first|(with_reducible apply zbe;omega)|(with_reducible apply zbf;omega)|(with_reducible apply zbd;omega)|(with_reducible apply wr_i64;omega)|(with_reducible apply wr_u64;omega)|(with_reducible apply wr_u8;omega)|(with_reducible apply wr_u16;omega)|rfl);exact rfl)));exact x.o):p:=k ⟨h⟩
theorem gI(h:q)(k:Bx q→p:=by intro x;(repeat(first|((first|apply H.Aw|apply H.Be|apply H.Bd|apply H.Bi|apply H.Bs|apply H.Br);(iterate 3 exact rfl))|(first|apply H.seq|apply H.Bg|apply H.nil|apply H.Bj)));exact x.o):p:=k ⟨h⟩
theorem gJ(h:q)(k:Bx q→p:=by intro x;(repeat(first|((first|apply HQ.Aw|apply HQ.Be|apply HQ.Bd|apply HQ.Bi);(iterate 3 exact rfl))|((first|apply HQ.cmp|apply HQ.Ay);(iterate 5 exact rfl))|(apply HQ.pass;(iterate 2 exact rfl))|(apply HQ.gyes;(iterate 3 exact rfl);(first|assumption|omega))|(apply HQ.gno;(iterate 3 exact rfl);(first|assumption|omega))));exact x.o):p:=k ⟨h⟩
theorem gK(h:q)(k:Bx q→p:=by intro x;(repeat(first|((first|apply HQ.Aw|apply HQ.Be|apply HQ.Bd|apply HQ.Bi);(iterate 3 exact rfl))|((first|apply HQ.done0|apply HQ.done);exact rfl)|((first|(apply HQ.ar;(iterate 4 exact rfl))|(apply HQ.Bk;(iterate 2 exact rfl)));(first|(with_reducible apply zbe;omega)|(with_reducible apply zbf;omega)|(with_reducible apply zbd;omega)|(with_reducible apply wr_i64;omega)|(with_reducible apply wr_u64;omega)|(with_reducible apply wr_u8;omega)|(with_reducible apply wr_u16;omega)|rfl);exact rfl)));exact x.o):p:=k ⟨h⟩
theorem gL(h:q)(k:Bx q→p:=by intro x;(repeat(first|((first|apply H.Aw|apply H.Be|apply H.Bd|apply H.Bi|apply H.Bs|apply H.Br);(iterate 3 exact rfl))|(first|apply H.seq|apply H.Bg|apply H.nil|apply H.Bj)|((first|(apply H.ar;(iterate 4 exact rfl))|(apply H.Bk;(iterate 2 exact rfl)));(first|(with_reducible apply zbe;omega)|(with_reducible apply zbf;omega)|(with_reducible apply zbd;omega)|(with_reducible apply wr_i64;omega)|(with_reducible apply wr_u64;omega)|(with_reducible apply wr_u8;omega)|(with_reducible apply wr_u16;omega)|rfl);exact rfl)|(apply H.pickT;(iterate 4 exact rfl))|(apply H.Co;exact rfl)|(apply H.Cn;exact rfl)|(first|apply H.skip|apply H.ret|apply H.Ce|apply H.Cf|apply H.exit|apply H.Bl|apply H.Bp|apply H.Ca|apply H.Cb|apply H.Cd|apply H.Cc)|(apply H.in_miss;exact rfl)));exact x.o):p:=k ⟨h⟩
theorem gM(h:q)(k:Bx q→p:=by intro x;(repeat(first|((first|apply H.Aw|apply H.Be|apply H.Bd|apply H.Bi|apply H.Bs|apply H.Br);(iterate 3 exact rfl))|(apply H.Bn;(iterate 3 exact rfl);exact inferInstance;exact rfl)|(apply H.Ab;(iterate 3 exact rfl);apply Rd1.ofRow;(repeat(first|exact .here _ _ _|apply At.there));(iterate 2 exact rfl))|(first|apply H.seq|apply H.Bg|apply H.nil|apply H.Bj)|((first|apply H.cmp|apply H.Ay);(iterate 5 exact rfl))|(first|apply H.skip|apply H.ret|apply H.Ce|apply H.Cf|apply H.exit|apply H.Bl|apply H.Bp|apply H.Ca|apply H.Cb|apply H.Cd|apply H.Cc)|(apply H.Ch;exact rfl;(first|assumption|omega))|(apply H.Cj;exact rfl;(first|assumption|omega))));exact x.o):p:=k ⟨h⟩
theorem gN(h:q)(k:Bx q→p:=by intro x;(repeat(first|((first|apply H.Aw|apply H.Be|apply H.Bd|apply H.Bi|apply H.Bs|apply H.Br);(iterate 3 exact rfl))|(apply H.Bn;(iterate 3 exact rfl);exact inferInstance;exact rfl)|(apply H.Ab;(iterate 3 exact rfl);apply Rd1.ofRow;(repeat(first|exact .here _ _ _|apply At.there));(iterate 2 exact rfl))|(first|apply H.seq|apply H.Bg|apply H.nil|apply H.Bj)|((first|apply H.cmp|apply H.Ay);(iterate 5 exact rfl))|((first|(apply H.ar;(iterate 4 exact rfl))|(apply H.Bk;(iterate 2 exact rfl)));(first|(with_reducible apply zbe;omega)|(with_reducible apply zbf;omega)|(with_reducible apply zbd;omega)|(with_reducible apply wr_i64;omega)|(with_reducible apply wr_u64;omega)|(with_reducible apply wr_u8;omega)|(with_reducible apply wr_u16;omega)|rfl);exact rfl)|((first|apply H.pickF|apply H.Cg|apply H.not|apply H.Cp);(iterate 4 exact rfl))|(apply H.Cn;exact rfl)|(first|apply H.skip|apply H.ret|apply H.Ce|apply H.Cf|apply H.exit|apply H.Bl|apply H.Bp|apply H.Ca|apply H.Cb|apply H.Cd|apply H.Cc)|(apply H.in_miss;exact rfl)|(apply H.Ch;exact rfl;(first|assumption|omega))|(apply H.Cj;exact rfl;(first|assumption|omega))));exact x.o):p:=k ⟨h⟩
theorem gO(h:q)(k:Bx q→p:=by intro x;(repeat(first|((first|apply H.Aw|apply H.Be|apply H.Bd|apply H.Bi|apply H.Bs|apply H.Br);(iterate 3 exact rfl))|(first|apply H.seq|apply H.Bg|apply H.nil|apply H.Bj)|((first|apply H.cmp|apply H.Ay);(iterate 5 exact rfl))|((first|apply H.pickF|apply H.Cg|apply H.not|apply H.Cp);(iterate 4 exact rfl))|(apply H.gyes;(iterate 3 exact rfl);(first|assumption|omega))));exact x.o):p:=k ⟨h⟩
theorem gP(h:q)(k:Bx q→p:=by intro x;(repeat(first|((first|apply HQ.Aw|apply HQ.Be|apply HQ.Bd|apply HQ.Bi);(iterate 3 exact rfl))|(apply HQ.Bn;(iterate 3 exact rfl);exact inferInstance;exact rfl)|(apply HQ.Ab;(iterate 3 exact rfl);apply Rd1.ofRow;(repeat(first|exact .here _ _ _|apply At.there));(iterate 2 exact rfl))));exact x.o):p:=k ⟨h⟩
theorem gQ(h:q)(k:Bx q→p:=by intro x;(repeat(first|((first|apply HQ.Aw|apply HQ.Be|apply HQ.Bd|apply HQ.Bi);(iterate 3 exact rfl))|(apply HQ.pass;(iterate 2 exact rfl))|(apply HQ.pickT;(iterate 4 exact rfl))|((first|apply HQ.pickF|apply HQ.Cg|apply HQ.not);(iterate 4 exact rfl))));exact x.o):p:=k ⟨h⟩
theorem gR(h:q)(k:Bx q→p:=by intro x;(repeat(first|((first|apply H.Aw|apply H.Be|apply H.Bd|apply H.Bi|apply H.Bs|apply H.Br);(iterate 3 exact rfl))|(apply H.Bn;(iterate 3 exact rfl);exact inferInstance;exact rfl)|(apply H.Ab;(iterate 3 exact rfl);apply Rd1.ofRow;(repeat(first|exact .here _ _ _|apply At.there));(iterate 2 exact rfl))|(first|apply H.seq|apply H.Bg|apply H.nil|apply H.Bj)|((first|apply H.cmp|apply H.Ay);(iterate 5 exact rfl))|((first|(apply H.ar;(iterate 4 exact rfl))|(apply H.Bk;(iterate 2 exact rfl)));(first|(with_reducible apply zbe;omega)|(with_reducible apply zbf;omega)|(with_reducible apply zbd;omega)|(with_reducible apply wr_i64;omega)|(with_reducible apply wr_u64;omega)|(with_reducible apply wr_u8;omega)|(with_reducible apply wr_u16;omega)|rfl);exact rfl)|((first|apply H.pickF|apply H.Cg|apply H.not|apply H.Cp);(iterate 4 exact rfl))|(apply H.Ba;(iterate 4 exact rfl);(repeat(first|exact .here _ _ _|apply At.there));(repeat(first|exact .here _ _ _|apply SetV.there)))|(apply H.Co;exact rfl)|(apply H.Cn;exact rfl)|(first|apply H.skip|apply H.ret|apply H.Ce|apply H.Cf|apply H.exit|apply H.Bl|apply H.Bp|apply H.Ca|apply H.Cb|apply H.Cd|apply H.Cc)));exact x.o):p:=k ⟨h⟩
theorem gS(h:q)(k:Bx q→p:=by intro x;(repeat(first|((first|apply H.Aw|apply H.Be|apply H.Bd|apply H.Bi|apply H.Bs|apply H.Br);(iterate 3 exact rfl))|(first|apply H.seq|apply H.Bg|apply H.nil|apply H.Bj)|((first|apply H.cmp|apply H.Ay);(iterate 5 exact rfl))|((first|(apply H.ar;(iterate 4 exact rfl))|(apply H.Bk;(iterate 2 exact rfl)));(first|(with_reducible apply zbe;omega)|(with_reducible apply zbf;omega)|(with_reducible apply zbd;omega)|(with_reducible apply wr_i64;omega)|(with_reducible apply wr_u64;omega)|(with_reducible apply wr_u8;omega)|(with_reducible apply wr_u16;omega)|rfl);exact rfl)|(apply H.pass;(iterate 2 exact rfl))|(apply H.pickT;(iterate 4 exact rfl))|((first|apply H.pickF|apply H.Cg|apply H.not|apply H.Cp);(iterate 4 exact rfl))|((first|apply H.ptrNil|apply H.sliceNil);(iterate 5 exact rfl))|(apply H.Co;exact rfl)|(first|apply H.skip|apply H.ret|apply H.Ce|apply H.Cf|apply H.exit|apply H.Bl|apply H.Bp|apply H.Ca|apply H.Cb|apply H.Cd|apply H.Cc)|(apply H.gyes;(iterate 3 exact rfl);(first|assumption|omega))|(apply H.Ch;exact rfl;(first|assumption|omega))|(apply H.Cj;exact rfl;(first|assumption|omega))));exact x.o):p:=k ⟨h⟩
theorem gT(h:q)(k:Bx q→p:=by intro x;(repeat(first|((first|apply H.Aw|apply H.Be|apply H.Bd|apply H.Bi|apply H.Bs|apply H.Br);(iterate 3 exact rfl))|(first|apply H.seq|apply H.Bg|apply H.nil|apply H.Bj)|(first|apply H.skip|apply H.ret|apply H.Ce|apply H.Cf|apply H.exit|apply H.Bl|apply H.Bp|apply H.Ca|apply H.Cb|apply H.Cd|apply H.Cc)));exact x.o):p:=k ⟨h⟩
theorem gU(h:q)(k:Bx q→p:=by intro x;(repeat(first|((first|apply H.Aw|apply H.Be|apply H.Bd|apply H.Bi|apply H.Bs|apply H.Br);(iterate 3 exact rfl))|(apply H.Bn;(iterate 3 exact rfl);exact inferInstance;exact rfl)|(apply H.Ab;(iterate 3 exact rfl);apply Rd1.ofRow;(repeat(first|exact .here _ _ _|apply At.there));(iterate 2 exact rfl))|(first|apply H.seq|apply H.Bg|apply H.nil|apply H.Bj)|((first|(apply H.ar;(iterate 4 exact rfl))|(apply H.Bk;(iterate 2 exact rfl)));(first|(with_reducible apply zbe;omega)|(with_reducible apply zbf;omega)|(with_reducible apply zbd;omega)|(with_reducible apply wr_i64;omega)|(with_reducible apply wr_u64;omega)|(with_reducible apply wr_u8;omega)|(with_reducible apply wr_u16;omega)|rfl);exact rfl)|((first|apply H.ptrNil|apply H.sliceNil);(iterate 5 exact rfl))|(apply H.Co;exact rfl)|(apply H.Cn;exact rfl)|(first|apply H.skip|apply H.ret|apply H.Ce|apply H.Cf|apply H.exit|apply H.Bl|apply H.Bp|apply H.Ca|apply H.Cb|apply H.Cd|apply H.Cc)));exact x.o):p:=k ⟨h⟩
theorem gV(h:q)(k:Bx q→p:=by intro x;(repeat(first|((first|apply HQ.Aw|apply HQ.Be|apply HQ.Bd|apply HQ.Bi);(iterate 3 exact rfl))|(apply HQ.Bn;(iterate 3 exact rfl);exact inferInstance;exact rfl)|(apply HQ.Ab;(iterate 3 exact rfl);apply Rd1.ofRow;(repeat(first|exact .here _ _ _|apply At.there));(iterate 2 exact rfl))|((first|apply HQ.done0|apply HQ.done);exact rfl)|((first|apply HQ.cmp|apply HQ.Ay);(iterate 5 exact rfl))|((first|(apply HQ.ar;(iterate 4 exact rfl))|(apply HQ.Bk;(iterate 2 exact rfl)));(first|(with_reducible apply zbe;omega)|(with_reducible apply zbf;omega)|(with_reducible apply zbd;omega)|(with_reducible apply wr_i64;omega)|(with_reducible apply wr_u64;omega)|(with_reducible apply wr_u8;omega)|(with_reducible apply wr_u16;omega)|rfl);exact rfl)|((first|apply HQ.pickF|apply HQ.Cg|apply HQ.not);(iterate 4 exact rfl))));exact x.o):p:=k ⟨h⟩
theorem gW(h:q)(k:Bx q→p:=by intro x;(repeat(first|((first|apply H.Aw|apply H.Be|apply H.Bd|apply H.Bi|apply H.Bs|apply H.Br);(iterate 3 exact rfl))|(first|apply H.seq|apply H.Bg|apply H.nil|apply H.Bj)|((first|(apply H.ar;(iterate 4 exact rfl))|(apply H.Bk;(iterate 2 exact rfl)));(first|(with_reducible apply zbe;omega)|(with_reducible apply zbf;omega)|(with_reducible apply zbd;omega)|(with_reducible apply wr_i64;omega)|(with_reducible apply wr_u64;omega)|(with_reducible apply wr_u8;omega)|(with_reducible apply wr_u16;omega)|rfl);exact rfl)|(apply H.Cn;exact rfl)|(first|apply H.skip|apply H.ret|apply H.Ce|apply H.Cf|apply H.exit|apply H.Bl|apply H.Bp|apply H.Ca|apply H.Cb|apply H.Cd|apply H.Cc)));exact x.o):p:=k ⟨h⟩
theorem gX(h:q)(k:Bx q→p:=by intro x;(repeat(first|((first|apply H.Aw|apply H.Be|apply H.Bd|apply H.Bi|apply H.Bs|apply H.Br);(iterate 3 exact rfl))|(apply H.Bn;(iterate 3 exact rfl);exact inferInstance;exact rfl)|(apply H.Ab;(iterate 3 exact rfl);apply Rd1.ofRow;(repeat(first|exact .here _ _ _|apply At.there));(iterate 2 exact rfl))|(first|apply H.seq|apply H.Bg|apply H.nil|apply H.Bj)|((first|apply H.cmp|apply H.Ay);(iterate 5 exact rfl))|((first|(apply H.ar;(iterate 4 exact rfl))|(apply H.Bk;(iterate 2 exact rfl)));(first|(with_reducible apply zbe;omega)|(with_reducible apply zbf;omega)|(with_reducible apply zbd;omega)|(with_reducible apply wr_i64;omega)|(with_reducible apply wr_u64;omega)|(with_reducible apply wr_u8;omega)|(with_reducible apply wr_u16;omega)|rfl);exact rfl)|(apply H.pass;(iterate 2 exact rfl))|(apply H.pickT;(iterate 4 exact rfl))|((first|apply H.pickF|apply H.Cg|apply H.not|apply H.Cp);(iterate 4 exact rfl))|((first|apply H.ptrNil|apply H.sliceNil);(iterate 5 exact rfl))|(apply H.Ba;(iterate 4 exact rfl);(repeat(first|exact .here _ _ _|apply At.there));(repeat(first|exact .here _ _ _|apply SetV.there)))|(apply H.Co;exact rfl)|(apply H.Cn;exact rfl)|(first|apply H.skip|apply H.ret|apply H.Ce|apply H.Cf|apply H.exit|apply H.Bl|apply H.Bp|apply H.Ca|apply H.Cb|apply H.Cd|apply H.Cc)|(apply H.gyes;(iterate 3 exact rfl);(first|assumption|omega))|(apply H.gno;(iterate 3 exact rfl);(first|assumption|omega))|(apply H.Ch;exact rfl;(first|assumption|omega))|(apply H.Cj;exact rfl;(first|assumption|omega))|(apply H.cond_t;exact rfl;assumption)|(apply H.cond_f;exact rfl;assumption)));exact x.o):p:=k ⟨h⟩
theorem gY(h:q)(k:Bx q→p:=by intro x;(repeat(first|((first|apply H.Aw|apply H.Be|apply H.Bd|apply H.Bi|apply H.Bs|apply H.Br);(iterate 3 exact rfl))|(first|apply H.seq|apply H.Bg|apply H.nil|apply H.Bj)|((first|apply H.cmp|apply H.Ay);(iterate 5 exact rfl))|(apply H.pickT;(iterate 4 exact rfl))|((first|apply H.pickF|apply H.Cg|apply H.not|apply H.Cp);(iterate 4 exact rfl))|(apply H.Co;exact rfl)|(apply H.Cn;exact rfl)|(first|apply H.skip|apply H.ret|apply H.Ce|apply H.Cf|apply H.exit|apply H.Bl|apply H.Bp|apply H.Ca|apply H.Cb|apply H.Cd|apply H.Cc)));exact x.o):p:=k ⟨h⟩
theorem gZ(h:q)(k:Bx q→p:=by intro x;(repeat(first|((first|apply HQ.Aw|apply HQ.Be|apply HQ.Bd|apply HQ.Bi);(iterate 3 exact rfl))|(apply HQ.Bn;(iterate 3 exact rfl);exact inferInstance;exact rfl)|(apply HQ.Ab;(iterate 3 exact rfl);apply Rd1.ofRow;(repeat(first|exact .here _ _ _|apply At.there));(iterate 2 exact rfl))|((first|apply HQ.done0|apply HQ.done);exact rfl)|((first|apply HQ.cmp|apply HQ.Ay);(iterate 5 exact rfl))|((first|(apply HQ.ar;(iterate 4 exact rfl))|(apply HQ.Bk;(iterate 2 exact rfl)));(first|(with_reducible apply zbe;omega)|(with_reducible apply zbf;omega)|(with_reducible apply zbd;omega)|(with_reducible apply wr_i64;omega)|(with_reducible apply wr_u64;omega)|(with_reducible apply wr_u8;omega)|(with_reducible apply wr_u16;omega)|rfl);exact rfl)|(apply HQ.pass;(iterate 2 exact rfl))|(apply HQ.pickT;(iterate 4 exact rfl))|((first|apply HQ.pickF|apply HQ.Cg|apply HQ.not);(iterate 4 exact rfl))|((first|apply HQ.ptrNil);(iterate 5 exact rfl))|(apply HQ.gyes;(iterate 3 exact rfl);(first|assumption|omega))|(apply HQ.gno;(iterate 3 exact rfl);(first|assumption|omega))));exact x.o):p:=k ⟨h⟩
theorem gc(h:q)(k:Bx q→p:=by intro x;(repeat(first|((first|apply H.Aw|apply H.Be|apply H.Bd|apply H.Bi|apply H.Bs|apply H.Br);(iterate 3 exact rfl))|(first|apply H.seq|apply H.Bg|apply H.nil|apply H.Bj)|((first|apply H.cmp|apply H.Ay);(iterate 5 exact rfl))|((first|(apply H.ar;(iterate 4 exact rfl))|(apply H.Bk;(iterate 2 exact rfl)));(first|(with_reducible apply zbe;omega)|(with_reducible apply zbf;omega)|(with_reducible apply zbd;omega)|(with_reducible apply wr_i64;omega)|(with_reducible apply wr_u64;omega)|(with_reducible apply wr_u8;omega)|(with_reducible apply wr_u16;omega)|rfl);exact rfl)|(first|apply H.skip|apply H.ret|apply H.Ce|apply H.Cf|apply H.exit|apply H.Bl|apply H.Bp|apply H.Ca|apply H.Cb|apply H.Cd|apply H.Cc)|(apply H.Ch;exact rfl;(first|assumption|omega))|(apply H.Cj;exact rfl;(first|assumption|omega))));exact x.o):p:=k ⟨h⟩
theorem gg(h:q)(k:Bx q→p:=by intro x;(repeat(first|((first|apply H.Aw|apply H.Be|apply H.Bd|apply H.Bi|apply H.Bs|apply H.Br);(iterate 3 exact rfl))|(apply H.Bn;(iterate 3 exact rfl);exact inferInstance;exact rfl)|(apply H.Ab;(iterate 3 exact rfl);apply Rd1.ofRow;(repeat(first|exact .here _ _ _|apply At.there));(iterate 2 exact rfl))|(first|apply H.seq|apply H.Bg|apply H.nil|apply H.Bj)|((first|apply H.cmp|apply H.Ay);(iterate 5 exact rfl))|(apply H.pass;(iterate 2 exact rfl))|(apply H.pickT;(iterate 4 exact rfl))|((first|apply H.pickF|apply H.Cg|apply H.not|apply H.Cp);(iterate 4 exact rfl))|(apply H.Co;exact rfl)|(first|apply H.skip|apply H.ret|apply H.Ce|apply H.Cf|apply H.exit|apply H.Bl|apply H.Bp|apply H.Ca|apply H.Cb|apply H.Cd|apply H.Cc)|(apply H.gyes;(iterate 3 exact rfl);(first|assumption|omega))|(apply H.gno;(iterate 3 exact rfl);(first|assumption|omega))|(apply H.Ch;exact rfl;(first|assumption|omega))|(apply H.Cj;exact rfl;(first|assumption|omega))));exact x.o):p:=k ⟨h⟩
theorem gh(h:q)(k:Bx q→p:=by intro x;(first|((first|apply H.Aw|apply H.Be|apply H.Bd|apply H.Bi|apply H.Bs|apply H.Br);(iterate 3 exact rfl))|(apply H.Bn;(iterate 3 exact rfl);exact inferInstance;exact rfl)|(apply H.Ab;(iterate 3 exact rfl);apply Rd1.ofRow;(repeat(first|exact .here _ _ _|apply At.there));(iterate 2 exact rfl))|(first|apply H.seq|apply H.Bg|apply H.nil|apply H.Bj)|((first|apply H.cmp|apply H.Ay);(iterate 5 exact rfl))|((first|(apply H.ar;(iterate 4 exact rfl))|(apply H.Bk;(iterate 2 exact rfl)));(first|(with_reducible apply zbe;omega)|(with_reducible apply zbf;omega)|(with_reducible apply zbd;omega)|(with_reducible apply wr_i64;omega)|(with_reducible apply wr_u64;omega)|(with_reducible apply wr_u8;omega)|(with_reducible apply wr_u16;omega)|rfl);exact rfl)|(apply H.pass;(iterate 2 exact rfl))|(apply H.pickT;(iterate 4 exact rfl))|((first|apply H.pickF|apply H.Cg|apply H.not|apply H.Cp);(iterate 4 exact rfl))|((first|apply H.ptrNil|apply H.sliceNil);(iterate 5 exact rfl))|(apply H.Ba;(iterate 4 exact rfl);(repeat(first|exact .here _ _ _|apply At.there));(repeat(first|exact .here _ _ _|apply SetV.there)))|(apply H.Co;exact rfl)|(apply H.Cn;exact rfl)|(first|apply H.skip|apply H.ret|apply H.Ce|apply H.Cf|apply H.exit|apply H.Bl|apply H.Bp|apply H.Ca|apply H.Cb|apply H.Cd|apply H.Cc)|(apply H.gyes;(iterate 3 exact rfl);(first|assumption|omega))|(apply H.gno;(iterate 3 exact rfl);(first|assumption|omega))|(apply H.Ch;exact rfl;(first|assumption|omega))|(apply H.Cj;exact rfl;(first|assumption|omega))|((first|apply H.gtrue);(iterate 3 exact rfl);assumption)|(apply H.gfalse;(iterate 3 exact rfl);assumption));exact x.o):p:=k ⟨h⟩
theorem gi(h:q)(k:Bx q→p:=by intro x;(first|((first|apply HQ.Aw|apply HQ.Be|apply HQ.Bd|apply HQ.Bi);(iterate 3 exact rfl))|(apply HQ.Bn;(iterate 3 exact rfl);exact inferInstance;exact rfl)|(apply HQ.Ab;(iterate 3 exact rfl);apply Rd1.ofRow;(repeat(first|exact .here _ _ _|apply At.there));(iterate 2 exact rfl))|((first|apply HQ.done0|apply HQ.done);exact rfl)|((first|apply HQ.cmp|apply HQ.Ay);(iterate 5 exact rfl))|((first|(apply HQ.ar;(iterate 4 exact rfl))|(apply HQ.Bk;(iterate 2 exact rfl)));(first|(with_reducible apply zbe;omega)|(with_reducible apply zbf;omega)|(with_reducible apply zbd;omega)|(with_reducible apply wr_i64;omega)|(with_reducible apply wr_u64;omega)|(with_reducible apply wr_u8;omega)|(with_reducible apply wr_u16;omega)|rfl);exact rfl)|(apply HQ.pass;(iterate 2 exact rfl))|(apply HQ.pickT;(iterate 4 exact rfl))|((first|apply HQ.pickF|apply HQ.Cg|apply HQ.not);(iterate 4 exact rfl))|(apply HQ.gyes;(iterate 3 exact rfl);(first|assumption|omega))|(apply HQ.gno;(iterate 3 exact rfl);(first|assumption|omega)));exact x.o):p:=k ⟨h⟩
abbrev Env:=List (Nat×Value)
def lk:Env→Nat→Option Value
 | [],_=>none
 | (j, v) :: r, i => match Nat.beq j i with
  |true=>some v
  |false=>lk r i
def look?(L:Env)(i:Nat):Option Value:=match Nat.ble 1000003 i with
 |true=>none
 |false=>lk L i
def mk?(L:Env):Option Value:=lk L 1000003
def dmOf(L:Env):List Deferred:=match mk? L with
 |some (.pointer (some p))=>[{target:=.collected p.block,args:=#[]}]
 |_=>[]
structure Fr(n:Nat)(a:Act)(L:Env):Prop where
 size:a.tmps.size=n
 small:n≤1000003
 defers:a.defers=dmOf L
 get:∀i v,look? L i=some v→a.tmps[i]?=some v
theorem lk_cons(j:Nat)(v:Value)(r:Env)(i:Nat):lk ((j,v)::r) i=if j=i then some v else lk r i:=by
 simp only[lk];by_cases h:j=i
 ·subst h;simp
 ·have:Nat.beq j i=false:=by
   cases e:Nat.beq j i with
   |false=>rfl
   |true=>exact absurd (Nat.eq_of_beq_eq_true e) h
  simp[this,h]
variable {L:Env} {v:Value}
theorem look?_lt{i:Nat}(h:look? L i=some v):i<1000003:=by
 unfold look? at h
 cases e:Nat.ble 1000003 i with
 |true=>rw[e]at h;cases h
 | false =>
  rcases Nat.lt_or_ge i 1000003 with h'|h'
  ·exact h'
  ·rw[Nat.ble_eq_true_of_le h']at e;cases e
theorem look?_eq{i:Nat}(h:i<1000003):look? L i=lk L i:=by
 unfold look?
 cases e:Nat.ble 1000003 i with
 |true=>have:=Nat.le_of_ble_eq_true e;omega
 |false=>rfl
variable {j:Nat}
theorem look?_cons{r:Env}{i:Nat}(h:i<1000003):look? ((j,v)::r) i=if j=i then some v else look? r i:=by
 rw[look?_eq h,look?_eq h,lk_cons]
theorem Fr.put{n:Nat}{a:Act}{L:Env}(h:Fr n a L){d:Nat}(hd:d<n)(v:Value):Fr n (a.put (some d) v) ((d,v)::L):=by
 have hm:=h.small;refine⟨by simp[Act.put,h.size],h.small,h.defers.trans kL,fun i u hi=>?_⟩
 rw[look?_cons (look?_lt hi)]at hi;by_cases e:d=i
 ·subst e;simp at hi;subst hi;simp[Act.put,h.size,hd]
 ·simp[e]at hi
  have:=h.get i u hi;simp only[Act.put]
  rw[Array.getElem?_setIfInBounds_ne e];exact h.get i u hi
variable {n:Nat} {a:Act}
theorem Fr.know(h:Fr n a L){d:Nat}{u:Value}(hv:look? L d=some v)(e:v=u):Fr n a ((d,u)::L):=by
 subst e;have hd:=look?_lt hv;refine⟨h.size,h.small,h.defers.trans kL,fun i x hi=>h.get i x ?_⟩
 rw[look?_cons (look?_lt hi)]at hi;by_cases c:d=i
 ·subst c;rw[if_pos rfl]at hi;rw[hv];exact hi
 ·rwa [if_neg c]at hi
def MarkE(L L':Env):Prop:=match mk? L,mk? L' with
 |none,none=>True
 |some a,some b=>a=b
 |_,_=>False
def SubF(L L0:Env):Env→Prop
 | []=>MarkE L L0
 |(i,v)::r=>lk L i=some v∧SubF L L0 r
def SubE(L L':Env):Prop:=SubF L L' L'
theorem SubF.get{L L0:Env}:∀ {L':Env},SubF L L0 L'→∀i v,look? L' i=some v→look? L i=some v
 | [],_,i,v,h=>by rw[look?_eq (look?_lt h)]at h;simp[lk]at h
 | (j, u) :: r, hs, i, v, h => by
  have hl:=look?_lt h
  rw[look?_cons hl]at h
  by_cases e:j=i
  ·subst e;simp at h;subst h;rw[look?_eq hl];exact hs.1
  ·simp[e]at h;exact hs.2.get i v h
theorem SubF.mark{L L0:Env}:∀ {L':Env},SubF L L0 L'→MarkE L L0
 | [],h=>h
 |_::_,h=>h.2.mark
theorem SubE.get{L L':Env}(h:SubE L L'):∀i v,look? L' i=some v→look? L i=some v:=SubF.get h
theorem SubE.mark{L L':Env}(h:SubE L L'):mk? L=mk? L':=by
 have:=SubF.mark h;unfold MarkE at this
 cases h1:mk? L<;>cases h2:mk? L'<;>rw[h1,h2]at this
 ·exact this.elim
 ·exact this.elim
 ·rw[this]
theorem Fr.sub{L':Env}(h:Fr n a L)(hs:SubE L L'):Fr n a L':=
 ⟨h.size,h.small,h.defers.trans (by unfold dmOf;rw[hs.mark]),fun i v hi=>h.get i v (hs.get i v hi)⟩
theorem Fr.bare(h:Fr n a L)(hk:mk? L=none):a.defers=[]:=h.defers.trans (by unfold dmOf;rw[hk])
def ev?(L:Env):Operand→Option Value
 | .tmp t=>look? L t
 | .const v=>some v
 | .global g=>some (.pointer (some ⟨g,0,none⟩))
 | .func f=>some (.func (.func f) #[] #[])
theorem Fr.eval{n:Nat}{a:Act}{L:Env}(h:Fr n a L){x:Operand}{v:Value}(hx:ev? L x=some v):a.eval x=v:=by
 cases x with
 | tmp t =>
  have:=h.get t v hx;simp[Act.eval,this]
 |const u=>simpa [ev?,Act.eval]using hx
 |global g=>simpa [ev?,Act.eval]using hx
 |func g=>simpa [ev?,Act.eval]using hx
def evs?(L:Env):List Operand→Option (List Value)
 | []=>some []
 |x::xs=>(ev? L x).bind fun v=>(evs? L xs).bind fun vs=>some (v::vs)
theorem Fr.evals{n:Nat}{a:Act}{L:Env}(h:Fr n a L):∀ {xs:List Operand} {vs:List Value},evs? L xs=some vs→xs.map a.eval=vs
 | [],vs,hx=>by simp[evs?]at hx;simp[←hx]
 | x :: xs, vs, hx => by
  simp only[evs?,Option.bind_eq_some_iff,Option.some.injEq]at hx
  obtain⟨v,hv,us,hus,rfl⟩:=hx
  simp[h.eval hv,h.evals hus]
def getO:List Oper→Nat→Option Oper
 | [],_=>none
 |o::_,0=>some o
 |_::r,i+1=>getO r i
theorem getO_eq:∀(l:List Oper) (i:Nat),getO l i=l[i]?
 | [],i=>by simp[getO]
 |o::r,0=>by simp[getO]
 |o::r,i+1=>by simp[getO,getO_eq r i]
def isB(b:Bool):Option Value→Bool
 | some (.bool c) => match b, c with
  |true,true=>true
  |false,false=>true
  |_,_=>false
 |_=>false
def isU:Option Value→Bool
 |some (.tuple _)=>true
 |_=>false
def want?(l:List Oper)(L:Env):Option (Nat×Bool)→Bool
 |none=>true
 | some (j, b) => match getO l j with
  |some ⟨some d,_,_,_,_,_⟩=>isB b (look? L d)
  |_=>false
def skip?(l:List Oper)(L:Env):Option (Nat×Bool)→Bool
 |none=>false
 | some (j, b) => match getO l j with
  |some ⟨some d,_,_,_,_,_⟩=>isB (!b) (look? L d)||isU (look? L d)
  |_=>false
theorem Fr.want{n:Nat}{a:Act}{L:Env}(h:Fr n a L){l:List Oper}{o:Oper}(hw:want? l L o.guard=true):Region.wanted o (yielded l.toArray a.tmps)=true:=by
 unfold Region.wanted
 cases hg:o.guard with
 |none=>rfl
 | some gb =>
  obtain⟨j,b⟩:=gb;rw[hg]at hw;simp only[want?]at hw;rw[getO_eq]at hw;split at hw
  ·rename_i d _ _ _ _ _ ho
   unfold yielded;simp only[List.getElem?_toArray,ho,Option.bind_some]
   cases hl:look? L d with
   |none=>simp[hl,isB]at hw
   | some v =>
    have:=h.get d v hl;rw[hl]at hw
    cases v<;>simp[isB]at hw
    exact qdH
  ·simp at hw
theorem Fr.skip{n:Nat}{a:Act}{L:Env}(h:Fr n a L){l:List Oper}{o:Oper}(hw:skip? l L o.guard=true):Region.wanted o (yielded l.toArray a.tmps)=false:=by
 unfold Region.wanted
 cases hg:o.guard with
 |none=>rw[hg]at hw;simp[skip?]at hw
 | some gb =>
  obtain⟨j,b⟩:=gb;rw[hg]at hw;simp only[skip?]at hw;rw[getO_eq]at hw;split at hw
  ·rename_i d _ _ _ _ _ ho
   unfold yielded;simp only[List.getElem?_toArray,ho,Option.bind_some]
   cases hl:look? L d with
   |none=>simp[hl,isB,isU]at hw
   | some v =>
    have:=h.get d v hl;rw[hl]at hw
    cases v<;>simp[isB,isU]at hw
    ·exact qdH
    ·simp[this]
  ·simp at hw
/-! ### Heap predicates -/
abbrev Frag:=Nat→Option Obj
abbrev HP:=Frag→Prop
def Dj(f g:Frag):Prop:=∀k,f k=none∨g k=none
def un(f g:Frag):Frag:=fun k=>(f k).or (g k)
def nil0:Frag:=fun _=>none
def sing(b:Nat)(o:Obj):Frag:=fun k=>if k=b then some o else none
theorem Dj.symm{f g:Frag}(h:Dj f g):Dj g f:=fun k=>(h k).symm
variable {f g:Frag}
theorem un_comm(h:Dj f g):un f g=un g f:=by
 funext k;unfold un;rcases h k with e|e<;>simp[e]
theorem zbc(f g h:Frag):un (un f g) h=un f (un g h):=by
 funext k;unfold un;cases f k<;>simp
theorem un_nil(f:Frag):un f nil0=f:=by funext k;simp[un,nil0]
theorem nil_un(f:Frag):un nil0 f=f:=by funext k;simp[un,nil0]
theorem Dj.nil(f:Frag):Dj f nil0:=fun _=>.inr rfl
variable {h:Frag}
theorem Dj.un_left:Dj (un f g) h↔Dj f h∧Dj g h:=by
 constructor
 ·intro H;refine⟨fun k=>?_,fun k=>?_⟩
  ·rcases H k with e|e
   ·simp[un]at e;exact .inl e.1
   ·exact .inr e
  ·rcases H k with e|e
   ·simp[un]at e;exact .inl e.2
   ·exact .inr e
 ·rintro⟨h1,h2⟩ k;rcases h1 k with e|e
  ·rcases h2 k with e'|e'
   ·exact .inl (by simp[un,e,e'])
   ·exact .inr e'
  ·exact .inr e
theorem Dj.un_right:Dj f (un g h)↔Dj f g∧Dj f h:=by
 constructor
 ·intro H;have:=Dj.un_left.1 H.symm;exact⟨this.1.symm,this.2.symm⟩
 ·rintro⟨a,b⟩;exact(Dj.un_left.2 ⟨a.symm,b.symm⟩).symm
def pts(b:Nat)(o:Obj):HP:=fun h=>h=sing b o
def star(p q:HP):HP:=fun h=>∃h1 h2,Dj h1 h2∧h=un h1 h2∧p h1∧q h2
def emp:HP:=fun h=>h=nil0
def fact(φ:Prop):HP:=fun h=>φ∧h=nil0
def ex{α:Type}(q:α→HP):HP:=fun h=>∃x,q x h
theorem star_comm(p q:HP):star p q=star q p:=by
 funext h;apply propext;constructor<;>(rintro⟨h1,h2,d,rfl,a,b⟩;exact⟨h2,h1,d.symm,un_comm d,b,a⟩)
theorem zbz(p q r:HP):star (star p q) r=star p (star q r):=by
 funext h;apply propext;constructor
 ·rintro⟨_,h3,d,rfl,⟨h1,h2,d',rfl,a,b⟩,c⟩
  have:=Dj.un_left.1 d;exact⟨h1,un h2 h3,Dj.un_right.2 ⟨d',this.1⟩,zbc _ _ _,a,h2,h3,this.2,rfl,b,c⟩
 ·rintro⟨h1,_,d,rfl,a,h2,h3,d',rfl,b,c⟩
  have:=Dj.un_right.1 d;exact⟨un h1 h2,h3,Dj.un_left.2 ⟨this.2,d'⟩,(zbc _ _ _).symm,⟨h1,h2,this.1,rfl,a,b⟩,c⟩
theorem zbs(p q r:HP):star p (star q r)=star q (star p r):=by
 rw[←zbz,star_comm p q,zbz]
theorem zcl(p:HP):star emp p=p:=by
 funext h;apply propext;constructor
 ·rintro⟨_,h2,_,rfl,rfl,b⟩;rw[nil_un];exact b
 ·intro b;exact⟨nil0,h,(Dj.nil h).symm,(nil_un h).symm,rfl,b⟩
theorem star_emp(p:HP):star p emp=p:=by rw[star_comm,zcl]
def stars:List HP→HP
 | []=>emp
 |p::ps=>star p (stars ps)
inductive At:List HP→HP→List HP→HP→Prop where
 |here (t:List HP) (x y:HP):At (x::t) x (y::t) y
 |there (z:HP) {A A':List HP} {x y:HP} (h:At A x A' y):At (z::A) x (z::A') y
theorem aP0{A:List HP}{x z:HP}:At (x::A) x (z::A) z:=.here _ _ _
theorem at1{A:List HP}{x z y0:HP}:At (y0::x::A) x (y0::z::A) z:=.there _ (.here _ _ _)
theorem at2{A:List HP}{x z y0 y1:HP}:At (y0::y1::x::A) x (y0::y1::z::A) z:=.there _ (.there _ (.here _ _ _))
theorem at3{A:List HP}{x z y0 y1 y2:HP}:At (y0::y1::y2::x::A) x (y0::y1::y2::z::A) z:=.there _ (.there _ (.there _ (.here _ _ _)))
theorem at4{A:List HP}{x z y0 y1 y2 y3:HP}:At (y0::y1::y2::y3::x::A) x (y0::y1::y2::y3::z::A) z:=.there _ (.there _ (.there _ (.there _ (.here _ _ _))))
variable {A A':List HP}
theorem At.split{x y:HP}(h:At A x A' y):∃R,stars A=star x R∧stars A'=star y R:=by
 induction h with
 |here t x y=>exact⟨stars t,rfl,rfl⟩
 | there z h ih =>
  obtain⟨R,h1,h2⟩:=ih;exact⟨star z R,by simp only[stars,h1];rw[zbs],by simp only[stars,h2];rw[zbs]⟩
inductive Pull:List HP→HP→List HP→Prop where
 |here (t:List HP) (x:HP):Pull (x::t) x t
 |there (z:HP) {A A':List HP} {x:HP} (h:Pull A x A'):Pull (z::A) x (z::A')
theorem Pull.eq{x:HP}(h:Pull A x A'):stars A=star x (stars A'):=by
 induction h with
 |here t x=>rfl
 |there z h ih=>simp only[stars,ih];rw[zbs]
structure Sat(base w:World)(f:Frag)(A:List HP):Prop where
 os:w.os=base.os
 tape:w.tape=base.tape
 output:w.output=base.output
 size:base.heap.size≤w.heap.size
 imm:∀k o,f k=some o→w.heap[k]?=some o
 mem:∃h,stars A h∧Dj f h∧∀k o,h k=some o→w.heap[k]?=some o
variable {base w:World}
theorem Sat.conv(s:Sat base w f A)(h:stars A=stars A'):Sat base w f A':=by
 obtain⟨a,b,c,d,e,m⟩:=s;rw[h]at m;exact⟨a,b,c,d,e,m⟩
theorem Sat.imp(s:Sat base w f A)(h:∀x,stars A x→stars A' x):Sat base w f A':=by
 obtain⟨a,b,c,d,e,x,hx,hd,hm⟩:=s;exact⟨a,b,c,d,e,x,h x hx,hd,hm⟩
variable {b:Nat}
theorem Sat.got{o:Obj}{y:HP}(s:Sat base w f A)(h:At A (pts b o) A' y):w.heap[b]?=some o:=by
 obtain⟨R,h1,_⟩:=h.split;obtain⟨m,hm,_,hw⟩:=s.mem;rw[h1]at hm;obtain⟨m1,m2,_,rfl,rfl,_⟩:=hm;exact hw b o jr
variable {w':World} {o':Obj}
theorem Sat.set{o:Obj}(s:Sat base w f A)(h:At A (pts b o) A' (pts b o'))
  (hos:w'.os=w.os) (ht:w'.tape=w.tape) (ho:w'.output=w.output) (hh:w'.heap=w.heap.setIfInBounds b o'):Sat base w' f A':=by
 have hb:=s.got h;obtain⟨R,h1,h2⟩:=h.split
 obtain⟨m,hm,hd,hw⟩:=s.mem;rw[h1]at hm;obtain⟨m1,m2,d,rfl,rfl,hr⟩:=hm
 have hlt:b<w.heap.size:=qbK
 have hd':=Dj.un_right.1 hd
 have hfb:f b=none:=by
  rcases hd'.1 b with e|e
  ·exact e
  ·simp[sing]at e
 have hmb:m2 b=none:=by
  rcases d b with e|e
  ·simp[sing]at e
  ·exact e
 refine⟨hos.trans s.os,ht.trans s.tape,ho.trans s.output,by rw[hh];simpa using s.size,fun k x hk=>?_,un (sing b o') m2,?_,?_,fun k x hk=>?_⟩
 ·have:b≠k:=by rintro rfl;rw[hfb]at hk;cases hk
  rw[hh,Array.getElem?_setIfInBounds_ne this];exact s.imm k x hk
 ·rw[h2];refine⟨_,m2,fun k=>?_,rfl,rfl,hr⟩;by_cases e:k=b
  ·subst e;exact .inr hmb
  ·exact .inl kq
 ·refine Dj.un_right.2 ⟨fun k=>?_,hd'.2⟩;by_cases e:k=b
  ·subst e;exact .inl hfb
  ·exact .inr kq
 ·by_cases e:k=b
  ·subst e;simp[un,sing]at hk;subst hk;rw[hh];simp[hlt]
  ·have e':b≠k:=fun h=>e h.symm;simp[un,sing,e]at hk
   rw[hh,Array.getElem?_setIfInBounds_ne e'];exact hw k x (by simp[un,sing,e,hk])
theorem Sat.alloc{o:Obj}(s:Sat base w f A)
  (hos:w'.os=w.os) (ht:w'.tape=w.tape) (ho:w'.output=w.output) (hh:w'.heap=w.heap.push o):Sat base w' f (pts w.heap.size o::A):=by
 obtain⟨m,hm,hd,hw⟩:=s.mem
 have hlt:∀k x,w.heap[k]?=some x→k<w.heap.size:=fun k x hk=>by
  rcases Nat.lt_or_ge k w.heap.size with h|h
  ·exact h
  ·simp[Array.getElem?_eq_none h]at hk
 have hmn:m w.heap.size=none:=by
  cases e:m w.heap.size with
  |none=>rfl
  |some x=>exact absurd (hlt _ _ (hw _ _ e)) (Nat.lt_irrefl _)
 have hfn:f w.heap.size=none:=by
  cases e:f w.heap.size with
  |none=>rfl
  |some x=>exact absurd (hlt _ _ (s.imm _ _ e)) (Nat.lt_irrefl _)
 have hold:∀k x,w.heap[k]?=some x→w'.heap[k]?=some x:=fun k x hk=>by
  have:=hlt k x hk;rw[hh,Array.getElem?_push,if_neg jA]
  exact hk
 refine⟨hos.trans s.os,ht.trans s.tape,ho.trans s.output,by rw[hh];simp;have:=s.size;omega,fun k x hk=>hold k x (s.imm k x hk),un (sing w.heap.size o) m,?_,?_,fun k x hk=>?_⟩
 ·refine⟨_,m,fun k=>?_,rfl,rfl,hm⟩;by_cases e:k=w.heap.size
  ·rw[e];exact .inr hmn
  ·exact .inl kq
 ·refine Dj.un_right.2 ⟨fun k=>?_,hd⟩;by_cases e:k=w.heap.size
  ·rw[e];exact .inl hfn
  ·exact .inr kq
 ·by_cases e:k=w.heap.size
  ·rw[e]at hk⊢;simp[un,sing]at hk;subst hk;rw[hh];simp
  ·simp[un,sing,e]at hk;exact hold k x (hw k x hk)
theorem Sat.same(s:Sat base w f A)
  (hos:w'.os=w.os) (ht:w'.tape=w.tape) (ho:w'.output=w.output) (hh:w'.heap=w.heap):Sat base w' f A:=
 ⟨hos.trans s.os,ht.trans s.tape,ho.trans s.output,by rw[hh];exact s.size,by rw[hh];exact s.imm,by rw[hh];exact s.mem⟩
theorem Sat.front{x:HP}(s:Sat base w f A)(h:Pull A x A'):Sat base w f (x::A'):=s.conv h.eq
theorem Sat.drop{x:HP}(s:Sat base w f A)(h:Pull A x A'):Sat base w f A':=by
 obtain⟨a,b,c,d,e,m,hm,hd,hw⟩:=s;rw[h.eq]at hm;obtain⟨m1,m2,dj,rfl,_,h2⟩:=hm;have hd':=Dj.un_right.1 hd;refine⟨a,b,c,d,e,m2,h2,hd'.2,fun k o hk=>hw k o ?_⟩
 exact qdF
def Le(f g:Frag):Prop:=∀k o,f k=some o→g k=some o
theorem Le.refl(f:Frag):Le f f:=fun _ _ h=>h
theorem Le.trans(a:Le f g)(b:Le g h):Le f h:=fun k o e=>b k o (a k o e)
theorem Sat.freeze{x:HP}(s:Sat base w f A)(h:Pull A x A'):∃g,x g∧Dj f g∧Sat base w (un f g) A':=by
 obtain⟨a,b,c,d,e,m,hm,hd,hw⟩:=s;rw[h.eq]at hm;obtain⟨m1,m2,dj,rfl,h1,h2⟩:=hm;have hd':=Dj.un_right.1 hd;refine⟨m1,h1,hd'.1,a,b,c,d,fun k o hk=>?_,m2,h2,Dj.un_left.2 ⟨hd'.2,dj⟩,fun k o hk=>hw k o ?_⟩
 ·unfold un at hk
  cases hf:f k with
  |none=>rw[hf]at hk;exact hw k o (by simp at hk;simp[un,hk])
  |some y=>rw[hf]at hk;simp at hk;subst hk;exact e k y hf
 ·exact qdF
theorem Sat.thaw{x:HP}(s:Sat base w (un f g) A)(hx:x g)(hd:Dj f g):Sat base w f (x::A):=by
 obtain⟨a,b,c,d,e,m,hm,hdm,hw⟩:=s;have h2:=Dj.un_left.1 hdm;refine⟨a,b,c,d,fun k o hk=>e k o (by simp[un,hk]),un g m,⟨g,m,h2.2,rfl,hx,hm⟩,Dj.un_right.2 ⟨hd,h2.1⟩,fun k o hk=>?_⟩
 unfold un at hk
 cases hg:g k with
 |none=>rw[hg]at hk;simp at hk;exact hw k o hk
 | some y =>
  rw[hg]at hk;simp at hk;subst hk;refine e k y ?_;rcases hd k with h|h
  ·simp[un,h,hg]
  ·rw[h]at hg;cases hg
/-! ### The judgement -/
inductive Post where
 |seq (y:Code) (q:Post)
 |block (id:Nat) (q:Post)
 |loop (I:Act→World→Prop) (q:Post)
 |fn (R:Exit→Act→World→Prop)
def Post.den(P:Program):Post→Exit→Act→World→Prop
 | .seq y q=>Exit.then (y.wp P (q.den P)) (q.den P)
 | .block id q=>Exit.inBlock id (q.den P)
 | .loop I q=>Exit.then I (q.den P)
 | .fn R=>R
inductive Kont where
 |code (c:Code) (q:Post)
 |ops (l rest:List Oper) (q:Post)
 |out (e:Exit) (q:Post)
def Kont.den(P:Program):Kont→Act→World→Prop
 | .code c q=>c.wp P (q.den P)
 | .ops l rest q=>wpList P l.toArray (q.den P) rest
 | .out e q=>q.den P e
structure H(P:Program)(base:World)(n:Nat)(L:Env)(f:Frag)(A:List HP)(K:Kont):Prop where
 out:∀a w,Fr n a L→Sat base w f A→K.den P a w
variable {α ι:Type} {id id':Nat} {I:Act→World→Prop}
section rules
variable {P:Program} {base:World} {n:Nat} {L:Env} {f:Frag} {A:List HP} {q:Post} {K:Kont}
theorem H.sub{L':Env}(hs:SubE L L')(h:H P base n L' f A K):H P base n L f A K:=.mk fun a w hf s=>h.out a w (hf.sub hs) s
theorem H.Ao{x:HP}(hp:Pull A x A')(h:H P base n L f (x::A') K):H P base n L f A K:=.mk fun a w hf s=>h.out a w hf (s.front hp)
theorem H.Ac{x:HP}(hp:Pull A x A')(h:H P base n L f A' K):H P base n L f A K:=.mk fun a w hf s=>h.out a w hf (s.drop hp)
theorem H.conv{A':List HP}(he:stars A=stars A')(h:H P base n L f A' K):H P base n L f A K:=.mk fun a w hf s=>h.out a w hf (s.conv he)
theorem foldr_star(B:List HP)(y:HP):star (stars B) y=List.foldr star y B:=by
 induction B with
 |nil=>exact zcl y
 |cons p B ih=>simp only[stars,List.foldr];rw[zbz,ih]
theorem zcg(B A:List HP):stars (B++A)=star (stars B) (stars A):=by
 rw[foldr_star]
 induction B with
 |nil=>rfl
 |cons p B ih=>simp only[List.cons_append,stars,List.foldr,ih]
theorem H.imp{A':List HP}(hx:∀h,stars A h→stars A' h)(h:H P base n L f A' K):H P base n L f A K:=.mk fun a w hf s=>h.out a w hf (s.imp hx)
theorem H.ex{g:α→HP}(h:∀x,H P base n L f (g x::A) K):H P base n L f (ex g::A) K:=.mk fun a w hf s=>by
 obtain⟨m,⟨m1,m2,d,e,⟨x,hx⟩,h2⟩,hd,hw⟩:=s.mem
 exact(h x).out a w hf ⟨s.os,s.tape,s.output,s.size,s.imm,m,⟨m1,m2,d,e,hx,h2⟩,hd,hw⟩
theorem H.Bw{x:HP}(hp:Pull A x A')(h:∀g,x g→Dj f g→H P base n L (un f g) A' K):H P base n L f A K:=.mk fun a w hf s=>by
 obtain⟨g,hx,hd,s'⟩:=s.freeze hp
 exact(h g hx hd).out a w hf s'
theorem H.thaw{g:Frag}{x:HP}(hx:x g)(hd:Dj f g)(h:H P base n L f (x::A) K):H P base n L (un f g) A K:=.mk fun a w hf s=>
 h.out a w hf (s.thaw hx hd)
theorem H.Bh{d:Nat}{u:Value}(hv:look? L d=some v)(e:v=u)(h:H P base n ((d,u)::L) f A K):H P base n L f A K:=.mk fun a w hf s=>by
 exact h.out a w (hf.know hv e) s
/-! code -/
theorem H.seq{x y:Code}(h:H P base n L f A (.code x (.seq y q))):H P base n L f A (.code (.seq x y) q):=.mk fun a w hf s=>wp_seq (h.out a w hf s)
theorem H.skip(h:H P base n L f A (.out .normal q)):H P base n L f A (.code .skip q):=.mk fun a w hf s=>wp_skip (h.out a w hf s)
theorem H.exit(h:H P base n L f A (.out (.exit id) q)):H P base n L f A (.code (.exit id) q):=.mk fun a w hf s=>wp_exit (h.out a w hf s)
theorem H.ret(h:H P base n L f A (.out .ret q)):H P base n L f A (.code .ret q):=.mk fun a w hf s=>wp_ret (h.out a w hf s)
theorem H.Bl{c:Code}(h:H P base n L f A (.code c (.block id q))):H P base n L f A (.code (.block id c) q):=.mk fun a w hf s=>wp_block (h.out a w hf s)
theorem H.Bg{l:List Oper}(h:H P base n L f A (.ops l l q)):H P base n L f A (.code (.region id l.toArray false) q):=.mk fun a w hf s=>wp_region_lit (h.out a w hf s)
theorem H.nil{l:List Oper}(h:H P base n L f A (.out .normal q)):H P base n L f A (.ops l [] q):=.mk h.out
theorem H.cond{c:Operand}{x y:Code}{t:Bool}(hc:ev? L c=some (.bool t))(ht:t=true→H P base n L f A (.code x q))(hf':t=false→H P base n L f A (.code y q)):H P base n L f A (.code (.cond c x y) q):=.mk fun a w hf s=>wp_cond_split (hf.eval hc) (fun e=>(ht e).out a w hf s) (fun e=>(hf' e).out a w hf s)
theorem H.cond_dec{c:Operand}{x y:Code}{_:Decidable p}(hc:ev? L c=some (.bool (decide p)))(ht:p→H P base n L f A (.code x q))(hf':¬p→H P base n L f A (.code y q)):H P base n L f A (.code (.cond c x y) q):=H.cond hc (fun e=>ht (of_decide_eq_true e)) (fun e=>hf' (of_decide_eq_false e))
theorem H.Co{c:Operand}{x y:Code}(hc:ev? L c=some (.bool true))(ht:H P base n L f A (.code x q)):H P base n L f A (.code (.cond c x y) q):=.mk fun a w hf s=>wp_cond_true (hf.eval hc) (ht.out a w hf s)
theorem H.Cn{c:Operand}{x y:Code}(hc:ev? L c=some (.bool false))(ht:H P base n L f A (.code y q)):H P base n L f A (.code (.cond c x y) q):=.mk fun a w hf s=>wp_cond_false (hf.eval hc) (ht.out a w hf s)
theorem H.Bj{y:Code}(h:H P base n L f A (.code y q)):H P base n L f A (.out .normal (.seq y q)):=.mk h.out
theorem H.Ce{y:Code}(h:H P base n L f A (.out .ret q)):H P base n L f A (.out .ret (.seq y q)):=.mk h.out
theorem H.Cf{y:Code}(h:H P base n L f A (.out (.exit id) q)):H P base n L f A (.out (.exit id) (.seq y q)):=.mk h.out
theorem H.Cd(h:H P base n L f A (.out .ret q)):H P base n L f A (.out .ret (.loop I q)):=.mk h.out
theorem H.Cc(h:H P base n L f A (.out (.exit id) q)):H P base n L f A (.out (.exit id) (.loop I q)):=.mk h.out
theorem H.Bp(h:H P base n L f A (.out .normal q)):H P base n L f A (.out .normal (.block id q)):=.mk h.out
theorem H.Ca(h:H P base n L f A (.out .ret q)):H P base n L f A (.out .ret (.block id q)):=.mk h.out
theorem H.in_exit(h:H P base n L f A (match Nat.beq id' id with|true=>.out .normal q|false=>.out (.exit id') q)):H P base n L f A (.out (.exit id') (.block id q)):=.mk fun a w hf s=>by
 have h1:=h.out a w hf s
 show Exit.inBlock id (q.den P) (.exit id') a w
 cases hb:Nat.beq id' id with
 | true =>
  have e:id'=id:=Nat.eq_of_beq_eq_true hb
  rw[hb]at h1
  simp only[Exit.inBlock,e,if_true];exact h1
 | false =>
  have e:id'≠id:=by rintro rfl;simp[Nat.beq_refl]at hb
  rw[hb]at h1
  simp only[Exit.inBlock,if_neg e];exact h1
theorem H.Cb(h:H P base n L f A (.out .normal q)):H P base n L f A (.out (.exit id) (.block id q)):=H.in_exit (by rw[Nat.beq_refl];exact h)
theorem H.in_miss(hne:Nat.beq id' id=false)(h:H P base n L f A (.out (.exit id') q)):H P base n L f A (.out (.exit id') (.block id q)):=H.in_exit (by rw[hne];exact h)
def Again(base:World)(n:Nat){ι:Type}(St:ι→Env)(Sf:ι→Frag)(SA:ι→List HP)(Φ:ι→Prop)(μ:ι→Nat)(i:ι)(a:Act)(w:World):Prop:=
 ∃j,Φ j∧μ j<μ i∧Fr n a (St j)∧Sat base w (Sf j) (SA j)
theorem H.loop{c:Code}(St:ι→Env)(Sf:ι→Frag)(SA:ι→List HP)(Φ:ι→Prop)(μ:ι→Nat)(i:ι)(hΦ:Φ i)(hs:SubE L (St i))(hf:f=Sf i)(hA:A=SA i)
  (round:∀i,Φ i→H P base n (St i) (Sf i) (SA i) (.code c (.loop (Again base n St Sf SA Φ μ i) q))):H P base n L f A (.code (.loop c) q):=by
 subst hf;subst hA;refine .mk fun a w hf s b k cs=>?_
 have key:∀m i a w,μ i=m→Φ i→Fr n a (St i)→Sat base w (Sf i) (SA i)→
   ∃e a' w',q.den P e a' w'∧Arrives P (lone (b.at a (.code c::.inLoop c::k)) cs w) b k cs e a' w':=by
  intro m
  induction m using Nat.strongRecOn with
  | _ m ih =>
   intro i a w hm hΦ hf s
   obtain⟨e,a₁,w₁,hq,harr⟩:=(round i hΦ).out a w hf s b (.inLoop c::k) cs
   cases e with
   | normal =>
    obtain⟨j,hΦ',hlt,hf',s'⟩:=hq
    obtain⟨e₂,a₂,w₂,hq₂,harr₂⟩:=ih (μ j) (hm▸hlt) j a₁ w₁ rfl hΦ' hf' s'
    exact⟨e₂,a₂,w₂,hq₂,.of_steps (Steps.trans harr (.one step_inLoop)) harr₂⟩
   |exit id=>exact⟨_,a₁,w₁,hq,.pass (x:=.inLoop c) rfl (fun _ _=>.inl jK) harr⟩
   |goto l=>exact⟨_,a₁,w₁,hq,.pass (x:=.inLoop c) rfl (fun _ _=>.inl jK) harr⟩
   |ret=>exact⟨_,a₁,w₁,hq,.pass (x:=.inLoop c) rfl (fun _ _=>.inl jK) harr⟩
   |panic ch=>exact⟨_,a₁,w₁,hq,.pass (x:=.inLoop c) rfl (fun _ _=>.inl jK) harr⟩
   |outgrown=>exact⟨_,a₁,w₁,hq,.pass (x:=.inLoop c) rfl (fun _ _=>.inl jK) harr⟩
 obtain⟨e,a',w',hq,harr⟩:=key _ i a w rfl hΦ (hf.sub hs) s;exact⟨e,a',w',hq,.of_steps (.one step_loop) harr⟩
theorem H.Ar{St:ι→Env}{Sf:ι→Frag}{SA:ι→List HP}{Φ:ι→Prop}{μ:ι→Nat}{i:ι}(j:ι)(hΦ:Φ j)(hμ:μ j<μ i)(hs:SubE L (St j))(hf:f=Sf j)(hA:A=SA j):H P base n L f A (.out .normal (.loop (Again base n St Sf SA Φ μ i) q)):=.mk fun _ _ h s=>⟨j,hΦ,hμ,h.sub hs,hf▸hA▸s⟩
theorem H.cut{c:Code}(St:ι→Env)(Sf:ι→Frag)(SA:ι→List HP)(Φ:ι→Prop)(y:Code)
  (rest:∀i,Φ i→H P base n (St i) (Sf i) (SA i) (.code y q))
  (h:H P base n L f A (.code c (.loop (fun a w=>∃j,Φ j∧Fr n a (St j)∧Sat base w (Sf j) (SA j)) q))):H P base n L f A (.code c (.seq y q)):=.mk fun a w hf s=>
 wp_mono (h.out a w hf s) fun e a w he=>by
  cases e with
  |normal=>obtain⟨j,hj,hf,s⟩:=he;exact(rest j hj).out a w hf s
  |exit id=>exact he
  |goto l=>exact he
  |ret=>exact he
  |panic ch=>exact he
  |outgrown=>exact he
theorem H.Bc{St:ι→Env}{Sf:ι→Frag}{SA:ι→List HP}{Φ:ι→Prop}(j:ι)(hΦ:Φ j)(hs:SubE L (St j))(hf:f=Sf j)(hA:A=SA j):H P base n L f A (.out .normal (.loop (fun a w=>∃j,Φ j∧Fr n a (St j)∧Sat base w (Sf j) (SA j)) q)):=.mk fun _ _ h s=>⟨j,hΦ,h.sub hs,hf▸hA▸s⟩
end rules
class Und (P:Program) (t:TypeId) (d:outParam TypeDesc):Prop where
 eq:P.underlying t=some d
class Siz (P:Program) (t:TypeId) (n:outParam Nat):Prop where
 eq:(P.info? t).map (·.size)=some n
class Zer (P:Program) (t:TypeId) (v:outParam Value):Prop where
 eq:(P.info? t).map (·.zero)=some (some v)
class Fun (P:Program) (f:FuncId):Prop where
 eq : ∃ fn, P.funcs[f]? = some fn ∧ (fn.name == "runtime.NumGoroutine") = false ∧ fn.body.isNone = false
variable {d:TypeDesc} {P:Program} {t:TypeId}
theorem Und.run(h:Und P t d)(w:World):(underlying t).run P w= .ok d w:=by
 unfold underlying;simp[h.eq]
theorem Siz.run(h:Siz P t n)(w:World):(sizeOf t).run P w= .ok n w:=by
 have:=h.eq;unfold sizeOf typeInfo
 cases hi:P.info? t with
 |none=>rw[hi]at this;cases this
 |some i=>rw[hi]at this;simp at this;simp[hi,this]
theorem Zer.run(h:Zer P t v)(w:World):(zeroValue t).run P w= .ok v w:=by
 have:=h.eq;unfold zeroValue typeInfo
 cases hi:P.info? t with
 |none=>rw[hi]at this;cases this
 |some i=>rw[hi]at this;simp at this;simp[hi,this]
def aggD:TypeDesc→Bool
 | .struct _| .array _ _=>true
 |_=>false
theorem run_isAgg(h:Und P t d)(w:World):(isAgg t).run P w= .ok (aggD d) w:=by
 unfold isAgg;simp only[Sem.run_bind,h.run,Result.andThen_ok];cases d<;>rfl
variable {e:TypeId}
theorem run_equal_pn(hu:Und P t (.pointer e))(p:Option Addr)(w:World):(Op.equal t (.pointer p) (.pointer none)).run P w= .ok p.isNone w:=by
 have h:∀d,(Op.equalIn (d+1) t (.pointer p) (.pointer none)).run P w= .ok p.isNone w:=fun d=>by
  cases p<;>simp[Op.equalIn,hu.run]
 exact h 9999
variable {x y:Operand} {op:BinOp} {xt yt ty:TypeId} {pos:String} {af:Array Edge} {gd:Option (Nat × Bool)}
theorem run_bin(ρ:Operand→Value){dd:Option Tmp}
  (h1:(eqGuard op xt x y (ρ x) (ρ y)).run P w= .ok () w) (h2:(binOp op xt (ρ x) (ρ y)).run P w= .ok v w) :
  (execOp ρ ⟨dd,.binOp op xt x y yt,ty,pos,af,gd⟩).run P w= .ok (.value v) w:=by
 show Sem.run P ((do eqGuard op xt x y (ρ x) (ρ y);binOp op xt (ρ x) (ρ y)) >>= fun a=>pure (Next.value a)) w=_;simp only[Sem.run_bind,h1,h2,Result.andThen_ok,Sem.run_pure]
theorem run_guard_ptr(op:BinOp)(t:TypeId)(x y:Operand)(p q:Option Addr)(w:World):(eqGuard op t x y (.pointer p) (.pointer q)).run P w= .ok () w:=by
 cases op<;>rfl
variable {fid:FuncId} {vs:List Value} {ats:Array TypeId}
theorem run_enter[hfun:Fun P fid](a:Act){dd:Option Tmp}{xs:List Operand}(hargs:xs.map a.eval=vs):(execOp a.eval ⟨dd,.call ⟨.value (.func fid),xs.toArray,ats⟩,ty,pos,af,gd⟩).run P w= .ok (.enter fid vs.toArray) w:=by
 obtain⟨fn,h1,h2,h3⟩:=hfun.eq;have e1:(#[]++Array.map a.eval xs.toArray:Array Value)++ #[]=vs.toArray:=by simp[hargs]
 show Sem.run P (callFunc fid ((#[]++Array.map a.eval xs.toArray)++ #[])) w=_;rw[e1];exact qcq
variable {o:Oper} {p2 r z:Int} {ds:TypeDesc} {p1:Op} {q1:String} {a1:Array Edge} {g1:Option (Nat × Bool)} {R:Value→Frag→List HP→Prop} {fn:Func} {m:Nat}
section rules
variable {P:Program} {base:World} {n:Nat} {L:Env} {f:Frag} {A:List HP} {q:Post}
variable {l rest:List Oper} {d:Nat} {ty:TypeId} {pos:String} {af:Array Edge} {gd:Option (Nat × Bool)}
theorem H.opV{op:Op}(hw:want? l L gd=true)(hd:Nat.ble (d+1) n=true)
  (hx:∀a w,Fr n a L→Sat base w f A→(execOp a.eval ⟨some d,op,ty,pos,af,gd⟩).run P w= .ok (.value v) w)
  (k:H P base n ((d,v)::L) f A (.ops l rest q)):H P base n L f A (.ops l (⟨some d,op,ty,pos,af,gd⟩::rest) q):=.mk fun a w hf s=>by
 show wpList P l.toArray (q.den P) _ a w
 unfold wpList
 rw[if_pos (hf.want (o:=⟨some d,op,ty,pos,af,gd⟩) hw)]
 refine .inl ?_
 simp only[Oper.wp,hx a w hf s,Oper.upon]
 exact k.out _ _ (hf.put (Nat.le_of_ble_eq_true hd) v) s
theorem H.pass{op:Op}(hw:skip? l L gd=true)(hd:Nat.ble (d+1) n=true)
  (k:H P base n ((d,.tuple #[])::L) f A (.ops l rest q)):H P base n L f A (.ops l (⟨some d,op,ty,pos,af,gd⟩::rest) q):=.mk fun a w hf s=>by
 show wpList P l.toArray (q.den P) _ a w
 unfold wpList
 rw[if_neg (by rw[hf.skip (o:=⟨some d,op,ty,pos,af,gd⟩) hw];simp)]
 exact k.out _ _ (hf.put (Nat.le_of_ble_eq_true hd) _) s
theorem H.pass0{op:Op}(hw:skip? l L gd=true)
  (k:H P base n L f A (.ops l rest q)):H P base n L f A (.ops l (⟨none,op,ty,pos,af,gd⟩::rest) q):=.mk fun a w hf s=>by
 show wpList P l.toArray (q.den P) _ a w
 unfold wpList
 rw[if_neg (by rw[hf.skip (o:=⟨none,op,ty,pos,af,gd⟩) hw];simp)]
 exact k.out _ _ hf s
theorem H.opE{op:Op}{ι:Sort _}(V:ι→Value)(F:ι→Frag)(AA:ι→List HP)(Φ:ι→Prop)(hw:want? l L gd=true)(hd:Nat.ble (d+1) n=true)
  (hx:∀a w,Fr n a L→Sat base w f A→∃i w',Φ i∧(execOp a.eval ⟨some d,op,ty,pos,af,gd⟩).run P w= .ok (.value (V i)) w'∧Sat base w' (F i) (AA i))
  (k:∀i,Φ i→H P base n ((d,V i)::L) (F i) (AA i) (.ops l rest q)):H P base n L f A (.ops l (⟨some d,op,ty,pos,af,gd⟩::rest) q):=.mk fun a w hf s=>by
 show wpList P l.toArray (q.den P) _ a w
 unfold wpList
 rw[if_pos (hf.want (o:=⟨some d,op,ty,pos,af,gd⟩) hw)]
 refine .inl ?_
 obtain⟨i,w',hφ,hr,s'⟩:=hx a w hf s
 simp only[Oper.wp,hr,Oper.upon]
 exact(k i hφ).out _ _ (hf.put (Nat.le_of_ble_eq_true hd) _) s'
theorem H.opS{op:Op}(hw:want? l L gd=true)
  (hx:∀a w,Fr n a L→Sat base w f A→∃w',(execOp a.eval ⟨none,op,ty,pos,af,gd⟩).run P w= .ok .skip w'∧Sat base w' f A')
  (k:H P base n L f A' (.ops l rest q)):H P base n L f A (.ops l (⟨none,op,ty,pos,af,gd⟩::rest) q):=.mk fun a w hf s=>by
 show wpList P l.toArray (q.den P) _ a w
 unfold wpList
 rw[if_pos (hf.want (o:=⟨none,op,ty,pos,af,gd⟩) hw)]
 refine .inl ?_
 obtain⟨w',hr,s'⟩:=hx a w hf s
 simp only[Oper.wp,hr,Oper.upon]
 exact k.out _ _ hf s'
theorem H.Aw(hw:want? l L gd=true)(hx:ev? L x=some v)(hd:Nat.ble (d+1) n=true)
  (k:H P base n ((d,v)::L) f A (.ops l rest q)):H P base n L f A (.ops l (⟨some d,.move x,ty,pos,af,gd⟩::rest) q):=
 H.opV hw hd (fun a w hf _=>by simp[execOp,hf.eval hx]) k
theorem H.Be(hw:want? l L gd=true)(hx:ev? L x=some v)(hd:Nat.ble (d+1) n=true)
  (k:H P base n ((d,v)::L) f A (.ops l rest q)):H P base n L f A (.ops l (⟨some d,.assign x,ty,pos,af,gd⟩::rest) q):=
 H.opV hw hd (fun a w hf _=>by simp[execOp,hf.eval hx]) k
theorem H.pickT{c:Operand}(hw:want? l L gd=true)(hc:ev? L c=some (.bool true))(hx:ev? L x=some v)(hd:Nat.ble (d+1) n=true)
  (k:H P base n ((d,v)::L) f A (.ops l rest q)):H P base n L f A (.ops l (⟨some d,.pick c x y,ty,pos,af,gd⟩::rest) q):=
 H.opV hw hd (fun a w hf _=>by simp[execOp,hf.eval hx,hf.eval hc,asBool]) k
theorem H.pickF{c:Operand}(hw:want? l L gd=true)(hc:ev? L c=some (.bool false))(hx:ev? L y=some v)(hd:Nat.ble (d+1) n=true)
  (k:H P base n ((d,v)::L) f A (.ops l rest q)):H P base n L f A (.ops l (⟨some d,.pick c x y,ty,pos,af,gd⟩::rest) q):=
 H.opV hw hd (fun a w hf _=>by simp[execOp,hf.eval hx,hf.eval hc,asBool]) k
theorem H.Bd{p:Addr}(hw:want? l L gd=true)(hx:ev? L x=some (.pointer (some p)))(hd:Nat.ble (d+1) n=true)
  (k:H P base n ((d,.pointer (some p))::L) f A (.ops l rest q)):H P base n L f A (.ops l (⟨some d,.nilCheck x,ty,pos,af,gd⟩::rest) q):=
 H.opV hw hd (fun a w hf _=>by simp[execOp,hf.eval hx]) k
def cmpP:BinOp→Int→Int→Option Bool
 | .eql,x,y=>some (decide (x=y))
 | .neq,x,y=>some (decide (¬x=y))
 | .lss,x,y=>some (decide (x<y))
 | .leq,x,y=>some (decide (x≤y))
 | .gtr,x,y=>some (decide (y<x))
 | .geq,x,y=>some (decide (y≤x))
 |_,_,_=>none
theorem H.cmp{k:IntKind}{p:Int}{b:Bool}(hw:want? l L gd=true)(hx:ev? L x=some (.int k p))(hy:ev? L y=some (.int k p2))(hc:cmpP op p p2=some b)(hd:Nat.ble (d+1) n=true)
  (kk:H P base n ((d,.bool b)::L) f A (.ops l rest q)):H P base n L f A (.ops l (⟨some d,.binOp op xt x y yt,ty,pos,af,gd⟩::rest) q):=
 H.opV hw hd (fun a w hf _=>by
  cases op<;>simp only[cmpP,Option.some.injEq,reduceCtorEq]at hc<;>subst hc<;>
   simp[execOp,eqGuard,binOp,Op.intCmp,hf.eval hx,hf.eval hy]<;>by_cases e:p=p2<;>simp[e]) kk
def arP:BinOp→IntKind→Int→Int→Option Int
 | .add,k,x,y=>some (k.wrap (x+y))
 | .sub,k,x,y=>some (k.wrap (x-y))
 | .mul,k,x,y=>some (k.wrap (x*y))
 |_,_,_,_=>none
theorem H.ar{k:IntKind}{p:Int}(hw:want? l L gd=true)(hx:ev? L x=some (.int k p))(hy:ev? L y=some (.int k p2))(hc:arP op k p p2=some r)(hz:r=z)(hd:Nat.ble (d+1) n=true)
  (kk:H P base n ((d,.int k z)::L) f A (.ops l rest q)):H P base n L f A (.ops l (⟨some d,.binOp op xt x y yt,ty,pos,af,gd⟩::rest) q):=
 H.opV hw hd (fun a w hf _=>by
  cases op<;>simp only[arP,Option.some.injEq,reduceCtorEq]at hc<;>subst hc<;>subst hz<;>
   simp[execOp,eqGuard,binOp,Op.intArith,hf.eval hx,hf.eval hy]) kk
theorem H.quo{k:IntKind}{p:Int}(hw:want? l L gd=true)(hx:ev? L x=some (.int k p))(hy:ev? L y=some (.int k p2))(h0:p2≠0)(hz:k.wrap (p.tdiv p2)=z)(hd:Nat.ble (d+1) n=true)
  (kk:H P base n ((d,.int k z)::L) f A (.ops l rest q)):H P base n L f A (.ops l (⟨some d,.binOp .quo xt x y yt,ty,pos,af,gd⟩::rest) q):=
 H.opV hw hd (fun a w hf _=>by subst hz;simp[execOp,eqGuard,binOp,Op.intDiv,hf.eval hx,hf.eval hy,h0]) kk
theorem H.rem{k:IntKind}{p:Int}(hw:want? l L gd=true)(hx:ev? L x=some (.int k p))(hy:ev? L y=some (.int k p2))(h0:p2≠0)(hz:p.tmod p2=z)(hd:Nat.ble (d+1) n=true)
  (kk:H P base n ((d,.int k z)::L) f A (.ops l rest q)):H P base n L f A (.ops l (⟨some d,.binOp .rem xt x y yt,ty,pos,af,gd⟩::rest) q):=
 H.opV hw hd (fun a w hf _=>by subst hz;simp[execOp,eqGuard,binOp,Op.intDiv,hf.eval hx,hf.eval hy,h0]) kk
def nilP:BinOp→Option Addr→Option Bool
 | .eql,none=>some true
 | .eql,some _=>some false
 | .neq,none=>some false
 | .neq,some _=>some true
 |_,_=>none
theorem H.ptrNil{p:Option Addr}{b:Bool}[hu:Und P xt (.pointer e)](hw:want? l L gd=true)(hx:ev? L x=some (.pointer p))(hy:ev? L y=some (.pointer none))(hb:nilP op p=some b)(hd:Nat.ble (d+1) n=true)
  (kk:H P base n ((d,.bool b)::L) f A (.ops l rest q)):H P base n L f A (.ops l (⟨some d,.binOp op xt x y yt,ty,pos,af,gd⟩::rest) q):=
 H.opV hw hd (fun a w hf _=>by
  refine run_bin _ ?_ ?_
  ·rw[hf.eval hx,hf.eval hy];exact run_guard_ptr _ _ _ _ _ _ _
  ·rw[hf.eval hx,hf.eval hy]
   have e1:Sem.run P (do pure (Value.bool (←Op.equal xt (.pointer p) (.pointer none)))) w= .ok (.bool p.isNone) w:=by simp[run_equal_pn hu]
   have e2:Sem.run P (do pure (Value.bool (!(←Op.equal xt (.pointer p) (.pointer none))))) w= .ok (.bool (!p.isNone)) w:=by simp[run_equal_pn hu]
   cases op<;>cases p<;>simp only[nilP,Option.some.injEq,reduceCtorEq]at hb<;>subst hb<;>first|exact e1|exact e2) kk
theorem H.not{b c:Bool}(hw:want? l L gd=true)(hx:ev? L x=some (.bool b))(hb:(!b)=c)(hd:Nat.ble (d+1) n=true)
  (k:H P base n ((d,.bool c)::L) f A (.ops l rest q)):H P base n L f A (.ops l (⟨some d,.unOp .not xt x,ty,pos,af,gd⟩::rest) q):=
 H.opV hw hd (fun a w hf _=>by subst hb;simp[execOp,Op.unary,hf.eval hx]) k
theorem H.Bk{s:TypeId}{i j:IntKind}{p:Int}[hs:Und P s ds][ht:Und P t (.int j)](hw:want? l L gd=true)(hx:ev? L x=some (.int i p))(hz:j.wrap p=z)(hd:Nat.ble (d+1) n=true)
  (k:H P base n ((d,.int j z)::L) f A (.ops l rest q)):H P base n L f A (.ops l (⟨some d,.convert s t x,ty,pos,af,gd⟩::rest) q):=
 H.opV hw hd (fun a w hf _=>by
  subst hz
  have h1:=hs.run w
  have h2:=ht.run w
  simp only[execOp,convert,hf.eval hx,Sem.run_bind,h1,h2,Result.andThen_ok]
  cases ds<;>simp[Conv.intToInt]) k
def nthV:List Value→Nat→Option Value
 | [],_=>none
 |v::_,0=>some v
 |_::r,i+1=>nthV r i
theorem nthV_eq:∀(l:List Value) (i:Nat),nthV l i=l[i]?
 | [],i=>by simp[nthV]
 |o::r,0=>by simp[nthV]
 |o::r,i+1=>by simp[nthV,nthV_eq r i]
theorem H.Cg{i:Nat}(hw:want? l L gd=true)(hx:ev? L x=some (.tuple vs.toArray))(hv:nthV vs i=some v)(hd:Nat.ble (d+1) n=true)
  (k:H P base n ((d,v)::L) f A (.ops l rest q)):H P base n L f A (.ops l (⟨some d,.extract x i,ty,pos,af,gd⟩::rest) q):=
 H.opV hw hd (fun a w hf _=>by
  rw[nthV_eq]at hv
  simp[execOp,Instr.extract,hf.eval hx,hv]) k
theorem H.gset{b:Bool}{c:Bool}{e:Nat}{t1:TypeId}(hg:o.guard=some (j,b))(hj:getO l j=some ⟨some e,p1,t1,q1,a1,g1⟩)(hv:look? L e=some (.bool c))(ht:c=true→H P base n ((e,.bool true)::L) f A (.ops l (o::rest) q))
  (hf:c=false→H P base n ((e,.bool false)::L) f A (.ops l (o::rest) q)):H P base n L f A (.ops l (o::rest) q):=by
 have _:=hg;have _:=hj
 cases c with
 |true=>exact H.Bh hv rfl (ht rfl)
 |false=>exact H.Bh hv rfl (hf rfl)
theorem H.gdec{b:Bool}{e:Nat}{t1:TypeId}{_:Decidable p}(hg:o.guard=some (j,b))(hj:getO l j=some ⟨some e,p1,t1,q1,a1,g1⟩)(hv:look? L e=some (.bool (decide p)))
  (ht:p→H P base n ((e,.bool true)::L) f A (.ops l (o::rest) q)) (hf:¬p→H P base n ((e,.bool false)::L) f A (.ops l (o::rest) q)):H P base n L f A (.ops l (o::rest) q):=
 H.gset hg hj hv (fun h=>ht (of_decide_eq_true h)) (fun h=>hf (of_decide_eq_false h))
theorem H.gyes{b:Bool}{e:Nat}{t1:TypeId}{_:Decidable p}(hg:o.guard=some (j,b))(hj:getO l j=some ⟨some e,p1,t1,q1,a1,g1⟩)(hv:look? L e=some (.bool (decide p)))
  (hp:p) (ht:H P base n ((e,.bool true)::L) f A (.ops l (o::rest) q)):H P base n L f A (.ops l (o::rest) q):=
 H.gdec hg hj hv (fun _=>ht) (fun h=>absurd hp h)
theorem H.gno{b:Bool}{e:Nat}{t1:TypeId}{_:Decidable p}(hg:o.guard=some (j,b))(hj:getO l j=some ⟨some e,p1,t1,q1,a1,g1⟩)(hv:look? L e=some (.bool (decide p)))
  (hp:¬p) (hf:H P base n ((e,.bool false)::L) f A (.ops l (o::rest) q)):H P base n L f A (.ops l (o::rest) q):=
 H.gdec hg hj hv (fun h=>absurd h hp) (fun _=>hf)
theorem H.gtrue{b:Bool}{c:Bool}{e:Nat}{t1:TypeId}(hg:o.guard=some (j,b))(hj:getO l j=some ⟨some e,p1,t1,q1,a1,g1⟩)(hv:look? L e=some (.bool c))
  (hp:c=true) (ht:H P base n ((e,.bool true)::L) f A (.ops l (o::rest) q)):H P base n L f A (.ops l (o::rest) q):=
 H.gset hg hj hv (fun _=>ht) (fun h=>by rw[hp]at h;cases h)
theorem H.gfalse{b:Bool}{c:Bool}{e:Nat}{t1:TypeId}(hg:o.guard=some (j,b))(hj:getO l j=some ⟨some e,p1,t1,q1,a1,g1⟩)(hv:look? L e=some (.bool c))
  (hp:c=false) (ht:H P base n ((e,.bool false)::L) f A (.ops l (o::rest) q)):H P base n L f A (.ops l (o::rest) q):=
 H.gset hg hj hv (fun h=>by rw[hp]at h;cases h) (fun _=>ht)
theorem H.Ch{c:Operand}{x y:Code}{_:Decidable p}(hc:ev? L c=some (.bool (decide p)))(hp:p)(ht:H P base n L f A (.code x q)):H P base n L f A (.code (.cond c x y) q):=
 H.cond_dec hc (fun _=>ht) (fun h=>absurd hp h)
theorem H.Cj{c:Operand}{x y:Code}{_:Decidable p}(hc:ev? L c=some (.bool (decide p)))(hp:¬p)(ht:H P base n L f A (.code y q)):H P base n L f A (.code (.cond c x y) q):=
 H.cond_dec hc (fun h=>absurd h hp) (fun _=>ht)
theorem H.cond_t{c:Operand}{x y:Code}{b:Bool}(hc:ev? L c=some (.bool b))(hp:b=true)(ht:H P base n L f A (.code x q)):H P base n L f A (.code (.cond c x y) q):=
 H.cond hc (fun _=>ht) (fun h=>by rw[hp]at h;cases h)
theorem H.cond_f{c:Operand}{x y:Code}{b:Bool}(hc:ev? L c=some (.bool b))(hp:b=false)(ht:H P base n L f A (.code y q)):H P base n L f A (.code (.cond c x y) q):=
 H.cond hc (fun h=>by rw[hp]at h;cases h) (fun _=>ht)
/-! A call, by its contract. -/
def Fn(P:Program)(fid:FuncId)(args:List Value)(f:Frag)(A:List HP)(R:Value→Frag→List HP→Prop):Prop:=
 ∀base w,Sat base w f A→Calls P fid args.toArray w fun e w'=>∃v f' A',e= .returned v∧R v f' A'∧Sat base w' f' A'
theorem Fn.mono{fid:FuncId}{args:List Value}{R R':Value→Frag→List HP→Prop}(h:Fn P fid args f A R)(hr:∀v f' A',R v f' A'→R' v f' A'):Fn P fid args f A R':=
 fun base w s=>(h base w s).mono fun _ _ ⟨v,f',A',e,r,s'⟩=>⟨v,f',A',e,hr _ _ _ r,s'⟩
theorem H.Ap{xs:List Operand}[hfun:Fun P fid](hw:want? l L gd=true)(hd:Nat.ble (d+1) n=true)
  (hx:evs? L xs=some vs) (hc:Fn P fid vs f A R)
  (k:∀v f' A',R v f' A'→H P base n ((d,v)::L) f' A' (.ops l rest q)) :
  H P base n L f A (.ops l (⟨some d,.call ⟨.value (.func fid),xs.toArray,ats⟩,ty,pos,af,gd⟩::rest) q):=.mk fun a w hf s=>by
 show wpList P l.toArray (q.den P) _ a w
 unfold wpList
 rw[if_pos (hf.want (o:=⟨some d,_,ty,pos,af,gd⟩) hw)]
 refine .inl ?_
 have hrun:=run_enter (P:=P) (dd:=some d) (ats:=ats) (ty:=ty) (pos:=pos) (af:=af) (gd:=gd) (w:=w) a (fid:=fid) (hf.evals hx)
 simp only[Oper.wp,hrun,Oper.upon]
 refine(hc base w s).mono ?_
 rintro e w' ⟨v,f',A',rfl,hr,s'⟩
 exact(k v f' A' hr).out _ _ (hf.put (Nat.le_of_ble_eq_true hd) v) s'
/-! A body. -/
def FnPost(P:Program)(fn:Func)(base:World)(R:Value→Frag→List HP→Prop):Exit→Act→World→Prop:=
 bodyPost P fn fun e w'=>∃v f' A',e= .returned v∧R v f' A'∧Sat base w' f' A'
def envOf:Nat→List Value→Env
 |_,[]=>[]
 |i,v::r=>(i,v)::envOf (i+1) r
theorem look?_envOf:∀(vs:List Value) (k i:Nat) (v:Value),look? (envOf k vs) i=some v→k≤i∧vs[i-k]?=some v
 | [],k,i,v,h=>by rw[look?_eq (look?_lt h)]at h;simp[envOf,lk]at h
 | u :: r, k, i, v, h => by
  simp only[envOf]at h
  rw[look?_cons (look?_lt h)]at h
  by_cases e:k=i
  ·subst e;simp at h;subst h;simp
  ·simp[e]at h
   obtain⟨h1,h2⟩:=look?_envOf r (k+1) i v h
   refine⟨by omega,?_⟩
   have:i-k=(i-(k+1))+1:=jA
   rw[this];simpa using h2
theorem lk_envOf:∀(vs:List Value) (k i:Nat),k+vs.length≤i→lk (envOf k vs) i=none
 | [],k,i,h=>rfl
 | u :: r, k, i, h => by
  simp only[List.length_cons]at h
  simp only[envOf]
  rw[lk_cons,if_neg jA]
  exact lk_envOf r (k+1) i jA
theorem Fn.enter{c:Code}{args:List Value}(hf:P.funcs[fid]?=some fn)(hb:fn.body=some c)(hn:fn.ntmps=m)(hl:Nat.ble args.length m=true)(hL:SubE (envOf 0 args) L)
  (h:∀base,H P base m L f A (.code c (.fn (FnPost P fn base R)))) (hsm:Nat.ble m 1000003=true:=by exact rfl):Fn P fid args f A R:=fun base w s=>by
 have hl':=Nat.le_of_ble_eq_true hl
 have hsm':=Nat.le_of_ble_eq_true hsm
 refine calls_of_wp hf hb ?_
 have hmk:dmOf L=[]:=qcF
 refine(h base).out _ w ⟨by simp[hn];omega,hsm',hmk.symm,fun i v hi=>?_⟩ s
 obtain⟨_,h2⟩:=look?_envOf args 0 i v (hL.get i v hi)
 simp only[Nat.sub_zero]at h2
 have hlt:i<args.length:=by
  rcases Nat.lt_or_ge i args.length with h|h
  ·exact h
  ·simp[List.getElem?_eq_none h]at h2
 rw[Array.getElem?_append_left (by simpa using hlt)]
 simpa using h2
theorem H.Ae{t:Nat}(hr:fn.results= #[.tmp t])(hv:look? L t=some v)(hA:∀x,stars A x→stars A' x)(h:R v f A')(hmk:mk? L=none:=by exact rfl):H P base n L f A (.out .ret (.fn (FnPost P fn base R))):=.mk fun a w hf s=>by
 show bodyPost P fn (fun e w'=>∃v f' A',e= .returned v∧R v f' A'∧Sat base w' f' A') .ret a w
 exact bodyPost_ret (by rw[results_tmp hr]) (hf.bare hmk) ⟨v,f,A',by simp[hf.get t v hv],h,s.imp hA⟩
theorem H.Bb{t u:Nat}{x:Value}(hr:fn.results= #[.tmp t,.tmp u])(hv:look? L t=some v)(hx:look? L u=some x)(hA:∀x,stars A x→stars A' x)(h:R (.tuple #[v,x]) f A')(hmk:mk? L=none:=by exact rfl):H P base n L f A (.out .ret (.fn (FnPost P fn base R))):=.mk fun a w hf s=>by
 show bodyPost P fn (fun e w'=>∃v f' A',e= .returned v∧R v f' A'∧Sat base w' f' A') .ret a w
 exact bodyPost_ret (by rw[results_tmp2 hr]) (hf.bare hmk) ⟨_,f,A',by simp[hf.get t v hv,hf.get u x hx],h,s.imp hA⟩
theorem H.ret0(hr:fn.results= #[])(hA:∀x,stars A x→stars A' x)(h:R (.tuple #[]) f A')(hmk:mk? L=none:=by exact rfl):H P base n L f A (.out .ret (.fn (FnPost P fn base R))):=.mk fun a w hf s=>by
 show bodyPost P fn (fun e w'=>∃v f' A',e= .returned v∧R v f' A'∧Sat base w' f' A') .ret a w
 exact bodyPost_ret (by rw[results_none hr]) (hf.bare hmk) ⟨_,f,A',rfl,h,s.imp hA⟩
theorem H.end0(hr:fn.results= #[])(hA:∀x,stars A x→stars A' x)(h:R (.tuple #[]) f A')(hmk:mk? L=none:=by exact rfl):H P base n L f A (.out .normal (.fn (FnPost P fn base R))):=.mk fun a w hf s=>by
 show bodyPost P fn (fun e w'=>∃v f' A',e= .returned v∧R v f' A'∧Sat base w' f' A') .normal a w
 exact bodyPost_end (by rw[results_none hr]) (hf.bare hmk) ⟨_,f,A',rfl,h,s.imp hA⟩
end rules
theorem Fun.i {i : FuncId} (h : P.funcs[i]? = some fn) (a : (fn.name == "runtime.NumGoroutine") = false := by kernel_rfl) (b : fn.body.isNone = false := by kernel_rfl) : Fun P i := ⟨fn, h, a, b⟩
variable {K:Kont}
theorem H.pf{x:HP}(h:H P base n L f (x::A') K)(hp:Pull A x A':=by repeat constructor):H P base n L f A K:=H.Ao hp h
theorem H.pd{x:HP}(h:H P base n L f A' K)(hp:Pull A x A':=by repeat constructor):H P base n L f A K:=H.Ac hp h
theorem H.rt{t:Nat}(h:R v f A)(hr:fn.results= #[.tmp t]:=by exact rfl)(hv:look? L t=some v:=by exact rfl)(hmk:mk? L=none:=by exact rfl):H P base m L f A (.out .ret (.fn (FnPost P fn base R))):=H.Ae hr hv iD h hmk
theorem H.ag{q:Post}{St:ι→Env}{Sf:ι→Frag}{SA:ι→List HP}{Φ:ι→Prop}{μ:ι→Nat}{i:ι}(j:ι)(hΦ:Φ j)(hμ:μ j<μ i)(hs:SubE L (St j):=by(repeat(first|exact trivial|refine⟨rfl,?_⟩)))(hf:f=Sf j:=by exact rfl)(hA:A=SA j:=by exact rfl):H P base n L f A (.out .normal (.loop (Again base n St Sf SA Φ μ i) q)):=H.Ar j hΦ hμ hs hf hA
theorem H.lo{q:Post}{c:Code}(St:ι→Env)(Sf:ι→Frag)(SA:ι→List HP)(Φ:ι→Prop)(μ:ι→Nat)(j:ι)(hΦ:Φ j)(round:∀i,Φ i→H P base n (St i) (Sf i) (SA i) (.code c (.loop (Again base n St Sf SA Φ μ i) q)))(hs:SubE L (St j):=by(repeat(first|exact trivial|refine⟨rfl,?_⟩)))(hf:f=Sf j:=by exact rfl)(hA:A=SA j:=by exact rfl):H P base n L f A (.code (.loop c) q):=H.loop St Sf SA Φ μ j hΦ hs hf hA round
theorem H.sb(M:Env)(h:H P base n M f A K)(hs:SubE L M:=by(repeat(first|exact trivial|refine⟨rfl,?_⟩))):H P base n L f A K:=H.sub hs h
theorem H.r1{t:Nat}(h:R v f A)(hr:fn.results= #[.tmp t]:=by exact rfl)(hv:look? L t=some v:=by exact rfl)(hmk:mk? L=none:=by exact rfl):H P base m L f A (.out .ret (.fn (FnPost P fn base R))):=H.Ae hr hv iD h hmk
theorem H.cl{q:Post}{l rest:List Oper}{d:Nat}{xs:List Operand}[hfun:Fun P fid](hc:Fn P fid vs f A R)(k:∀v g B,R v g B→H P base n ((d,v)::L) g B (.ops l rest q))(hw:want? l L gd=true:=by exact rfl)(hd:Nat.ble (d+1) n=true:=by exact rfl)(hx:evs? L xs=some vs:=by exact rfl):H P base n L f A (.ops l (⟨some d,.call ⟨.value (.func fid),xs.toArray,ats⟩,ty,pos,af,gd⟩::rest) q):=H.Ap hw hd hx hc k
theorem Fn.e0{c:Code}(hf:P.funcs[fid]?=some fn)(hn:fn.ntmps=m)(h:∀base,H P base m [] f A (.code c (.fn (FnPost P fn base R))))(hb:fn.body=some c:=by exact rfl)(hl:Nat.ble 0 m=true:=by exact rfl)(hsm:Nat.ble m 1000003=true:=by exact rfl):Fn P fid [] f A R:=Fn.enter hf hb hn hl (L:=[]) trivial h hsm
variable {a0:Value}
theorem Fn.e1{c:Code}(hf:P.funcs[fid]?=some fn)(hn:fn.ntmps=m)(h:∀base,H P base m [(0,a0)] f A (.code c (.fn (FnPost P fn base R))))(hb:fn.body=some c:=by exact rfl)(hl:Nat.ble 1 m=true:=by exact rfl)(hsm:Nat.ble m 1000003=true:=by exact rfl):Fn P fid [a0] f A R:=Fn.enter hf hb hn hl (L:=[(0,a0)]) ⟨rfl,trivial⟩ h hsm
theorem Fn.e2{c:Code}{a1:Value}(hf:P.funcs[fid]?=some fn)(hn:fn.ntmps=m)(h:∀base,H P base m [(0,a0),(1,a1)] f A (.code c (.fn (FnPost P fn base R))))(hb:fn.body=some c:=by exact rfl)(hl:Nat.ble 2 m=true:=by exact rfl)(hsm:Nat.ble m 1000003=true:=by exact rfl):Fn P fid [a0,a1] f A R:=Fn.enter hf hb hn hl (L:=[(0,a0),(1,a1)]) ⟨rfl,rfl,trivial⟩ h hsm
variable {a2:Value}
theorem Fn.e3{c:Code}{a1:Value}(hf:P.funcs[fid]?=some fn)(hn:fn.ntmps=m)(h:∀base,H P base m [(0,a0),(1,a1),(2,a2)] f A (.code c (.fn (FnPost P fn base R))))(hb:fn.body=some c:=by exact rfl)(hl:Nat.ble 3 m=true:=by exact rfl)(hsm:Nat.ble m 1000003=true:=by exact rfl):Fn P fid [a0,a1,a2] f A R:=Fn.enter hf hb hn hl (L:=[(0,a0),(1,a1),(2,a2)]) ⟨rfl,rfl,rfl,trivial⟩ h hsm
variable {a3:Value}
theorem Fn.e4{c:Code}{a1:Value}(hf:P.funcs[fid]?=some fn)(hn:fn.ntmps=m)(h:∀base,H P base m [(0,a0),(1,a1),(2,a2),(3,a3)] f A (.code c (.fn (FnPost P fn base R))))(hb:fn.body=some c:=by exact rfl)(hl:Nat.ble 4 m=true:=by exact rfl)(hsm:Nat.ble m 1000003=true:=by exact rfl):Fn P fid [a0,a1,a2,a3] f A R:=Fn.enter hf hb hn hl (L:=[(0,a0),(1,a1),(2,a2),(3,a3)]) ⟨rfl,rfl,rfl,rfl,trivial⟩ h hsm
theorem Fn.e5{c:Code}{a1 a4:Value}(hf:P.funcs[fid]?=some fn)(hn:fn.ntmps=m)(h:∀base,H P base m [(0,a0),(1,a1),(2,a2),(3,a3),(4,a4)] f A (.code c (.fn (FnPost P fn base R))))(hb:fn.body=some c:=by exact rfl)(hl:Nat.ble 5 m=true:=by exact rfl)(hsm:Nat.ble m 1000003=true:=by exact rfl):Fn P fid [a0,a1,a2,a3,a4] f A R:=Fn.enter hf hb hn hl (L:=[(0,a0),(1,a1),(2,a2),(3,a3),(4,a4)]) ⟨rfl,rfl,rfl,rfl,rfl,trivial⟩ h hsm
def row(b:Nat)(T:TypeId)(l:List Value):HP:=pts b (.cells l.toArray T (0,0))
def World.putRow'(w:World)(b:Nat)(T:TypeId)(l:List Value):World:={w with heap:=w.heap.setIfInBounds b (.cells l.toArray T (0,0))}
theorem zba(b o k:Nat):(⟨b,o,none⟩:Addr).add k=⟨b,o+k,none⟩:=by
 unfold Addr.add;split
 ·rename_i h;subst h;rfl
 ·rfl
def RowAt(w:World)(b off:Nat)(l:List Value):Prop:=∃cs t fr,w.heap[b]?=some (.cells cs t fr)∧∀i,i<l.length→cs[off+i]?=l[i]?
theorem RowAt.cell{w:World}{b off:Nat}{l:List Value}(h:RowAt w b off l){i:Nat}{v:Value}(hv:l[i]?=some v):w.cell? ⟨b,off+i,none⟩=some v:=by
 obtain⟨cs,t,fr,h1,h2⟩:=h
 have hi:i<l.length:=by
  rcases Nat.lt_or_ge i l.length with h|h
  ·exact h
  ·simp[List.getElem?_eq_none h]at hv
 simp[World.cell?,h1,h2 i hi,hv]
def Rd(f:Frag)(A:List HP)(b off:Nat)(l:List Value):Prop:=∀base w,Sat base w f A→RowAt w b off l
def Rd1(f:Frag)(A:List HP)(b off:Nat)(v:Value):Prop:=∀base w,Sat base w f A→w.cell? ⟨b,off,none⟩=some v
variable {l:List Value} {off:Nat} {T:TypeId}
theorem Rd1.ofRow(h:At A (row b T l) A' (row b T l))(hv:nthV l off=some v):Rd1 f A b off v:=fun base w s=>by
 have:=s.got h
 rw[nthV_eq]at hv
 simp[World.cell?,this,hv]
theorem Rd1.imm{f:Frag}{A:List HP}{b off:Nat}{T:TypeId}{cs:Array Value}{fr:Nat×Nat}{v:Value}(h:f b=some (.cells cs T fr))(hv:cs[off]?=some v):Rd1 f A b off v:=fun base w s=>by
 have:=s.imm _ _ h
 simp[World.cell?,this,hv]
theorem Rd1.of{i:Nat}(h:Rd f A b off l)(hv:l[i]?=some v):Rd1 f A b (off+i) v:=fun base w s=>(h base w s).cell hv
theorem Rd1.at0{i:Nat}(h:Rd f A b 0 l)(hv:l[i]?=some v):Rd1 f A b i v:=fun base w s=>by
 have:=(h base w s).cell hv
 rwa [Nat.zero_add]at this
theorem Rd.ofRow(h:At A (row b T l) A' (row b T l)):Rd f A b 0 l:=fun _ _ s=>
 ⟨_,_,_,s.got h,fun i _=>by simp⟩
theorem Rd.sub{k:Nat}{pre post:List Value}(h:Rd f A b off (pre++l++post))(hk:pre.length=k):Rd f A b (off+k) l:=fun base w s=>by
 obtain⟨cs,t,fr,h1,h2⟩:=h base w s
 refine⟨cs,t,fr,h1,fun i hi=>?_⟩
 subst hk
 have:=h2 (pre.length+i) je
 rw[Nat.add_assoc,this,List.getElem?_append_left je,List.getElem?_append_right jA]
 simp
theorem Rd.imm{f:Frag}{A:List HP}{b off:Nat}{T:TypeId}{cs:Array Value}{fr:Nat×Nat}{l:List Value}(h:f b=some (.cells cs T fr))(hv:∀i,i<l.length→cs[off+i]?=l[i]?):Rd f A b off l:=fun _ _ s=>
 ⟨_,_,_,s.imm _ _ h,hv⟩
theorem run_loadAt1(hu:Und P t d)(hd:aggD d=false)(h:w.cell? ⟨b,off,none⟩=some v):(Instr.loadAt t (.pointer (some ⟨b,off,none⟩))).run P w= .ok v w:=by
 unfold Instr.loadAt Instr.sureAddr loadVar;simp[run_isAgg hu,hd,h]
theorem run_loadAtN(hu:Und P t d)(hd:aggD d=true)(hs:Siz P t m)(h:RowAt w b off l)(hm:l.length=m):(Instr.loadAt t (.pointer (some ⟨b,off,none⟩))).run P w= .ok (.agg l.toArray) w:=by
 unfold Instr.loadAt Instr.sureAddr loadVar;have h2:=run_loadCells_list (P:=P) (w:=w) ⟨b,off,none⟩ l (fun j v hj=>by rw[zba];exact h.cell hj);rw[hm]at h2
 simp[run_isAgg hu,hd,hs.run,h2]
def one:Value→Bool
 | .agg _| .tuple _=>false
 |_=>true
theorem run_store_row{i:Nat}(hb:w.heap[b]?=some (.cells l.toArray T (0,0)))(hi:i<l.length)(hv:one v=true):(store ⟨b,i,none⟩ v).run P w= .ok () (World.putRow' w b T (l.set i v)):=by
 have hc:w.cell? ⟨b,i,none⟩=some l[i]:=by simp[World.cell?,hb,hi]
 have hf:w.frozen? ⟨b,i,none⟩=false:=by simp[World.frozen?,hb]
 have hw:w.setCell ⟨b,i,none⟩ v=World.putRow' w b T (l.set i v):=by
  unfold World.setCell World.putRow';congr 1;apply Array.ext_getElem?;intro k;rw[Array.getElem?_modify];by_cases e:b=k
  ·subst e
   have hlt:b<w.heap.size:=qbK
   rw[hb];simp[hlt]
  ·simp[e,Array.getElem?_setIfInBounds_ne e]
 unfold store;cases v<;>simp only[one,Bool.false_eq_true]at hv<;>simp only[Sem.run,hc,hf,hw,Bool.false_eq_true,if_false]
theorem putRow'_heap(w:World)(b:Nat)(T:TypeId)(l:List Value){o:Obj}(hb:w.heap[b]?=some o):(World.putRow' w b T l).heap[b]?=some (.cells l.toArray T (0,0)):=by
 have hlt:b<w.heap.size:=qbK
 simp[World.putRow',hlt]
theorem putRow'_putRow'(w:World)(b:Nat)(T:TypeId)(l l':List Value):World.putRow' (World.putRow' w b T l) b T l'=World.putRow' w b T l':=by
 simp[World.putRow']
def splice(l:List Value)(off:Nat)(vs:List Value):List Value:=l.take off++vs++l.drop (off+vs.length)
theorem splice_nil(l:List Value)(off:Nat):splice l off []=l:=by simp[splice]
theorem splice_cons(l:List Value)(off:Nat)(v:Value)(vs:List Value)(h:off<l.length):splice (l.set off v) (off+1) vs=splice l off (v::vs):=by
 unfold splice;apply List.ext_getElem?;intro i;simp only[List.getElem?_append,List.length_take,List.length_set,List.getElem?_take,List.getElem?_set,lnA,List.length_cons,List.getElem?_drop];have e1:min (off+1) l.length=off+1:=jA
 have e2:min off l.length=off:=jA
 rw[e1,e2];by_cases c1:i<off
 ·simp[show i<off+1+vs.length by omega,show i<off+(vs.length+1) by omega,show i<off+1 by omega,c1,show off≠i by omega]
 ·by_cases c2 : i = off
  ·subst c2;simp[h];intro;omega
  ·by_cases c3:i<off+1+vs.length
   ·have e3:i-off=(i-(off+1))+1:=jA
    simp[c3,show i<off+(vs.length+1) by omega,show¬i<off+1 by omega,c1,e3]
   ·have e4:off+1+vs.length+(i-(off+1+vs.length))=off+(vs.length+1)+(i-(off+(vs.length+1))):=jA
    have e5:off+1+vs.length+(i-(off+1+vs.length))≠off:=jA
    rw[if_neg c3,if_neg (show¬i<off+(vs.length+1) by omega),if_neg (fun h=>e5 h.symm),e4]
theorem run_storeCells{P:Program}{b off:Nat}{T:TypeId}:∀(vs:List Value) (l:List Value) (i:Nat) (w:World),w.heap[b]?=some (.cells l.toArray T (0,0))→
  (∀v∈vs,one v=true)→off+i+vs.length≤l.length→(storeCells ⟨b,off,none⟩ vs i).run P w= .ok () (if vs=[]then w else World.putRow' w b T (splice l (off+i) vs))
 | [],l,i,w,hb,hv,hl=>by simp[storeCells]
 | v :: vs, l, i, w, hb, hv, hl => by
  simp only[List.length_cons]at hl
  have h1:=run_store_row (P:=P) hb (i:=off+i) jA (hv v jK)
  have h2:=run_storeCells (P:=P) (off:=off) (T:=T) vs (l.set (off+i) v) (i+1) (World.putRow' w b T (l.set (off+i) v)) (putRow'_heap _ _ _ _ hb) (fun u hu=>hv u (by simp[hu])) je
  unfold storeCells
  rw[zba,Sem.run_bind,h1,Result.andThen_ok,h2]
  have e0:(if v::vs=[]then w else World.putRow' w b T (splice l (off+i) (v::vs)))=World.putRow' w b T (splice l (off+i) (v::vs)):=if_neg jK
  rw[e0]
  by_cases e:vs=[]
  ·subst e
   rw[if_pos rfl,←splice_cons _ _ _ _ jA,splice_nil]
  ·rw[if_neg e,putRow'_putRow',←Nat.add_assoc,splice_cons _ _ _ _ jA]
variable {c fo bo sz:Nat} {dd:TypeDesc} {s:ByteArray} {l' ls ls':List Value} {st ft:TypeId} {fs:List Field} {nm tg pk:String} {em:Bool} {ik:IntKind}
section rules
variable {P:Program} {base:World} {n:Nat} {L:Env} {f:Frag} {A:List HP} {q:Post}
variable {l rest:List Oper} {d:Nat} {ty:TypeId} {pos:String} {af:Array Edge} {gd:Option (Nat × Bool)}
theorem Sat.putRow{l:List Value}(s:Sat base w f A)(h:At A (row b T l) A' (row b T l')):Sat base (World.putRow' w b T l') f A':=
 s.set h rfl rfl rfl rfl
def nthF:List Field→Nat→Option Field
 | [],_=>none
 |v::_,0=>some v
 |_::r,i+1=>nthF r i
theorem nthF_eq:∀(l:List Field) (i:Nat),nthF l i=l[i]?
 | [],i=>by simp[nthF]
 |o::r,0=>by simp[nthF]
 |o::r,i+1=>by simp[nthF,nthF_eq r i]
theorem H.Bn{i:Nat}[hu:Und P st (.struct fs.toArray)](hw:want? l L gd=true)
  (hx:ev? L x=some (.pointer (some ⟨b,off,none⟩))) (hf:nthF fs i=some ⟨nm,ft,fo,em,tg,pk,bo⟩) (hs:Siz P ft (m+1)) (hd:Nat.ble (d+1) n=true)
  (k:H P base n ((d,.pointer (some ⟨b,off+fo,none⟩))::L) f A (.ops l rest q)):H P base n L f A (.ops l (⟨some d,.fieldAddr st x i,ty,pos,af,gd⟩::rest) q):=
 H.opV hw hd (fun a w hfr _=>by
  rw[nthF_eq]at hf
  simp[execOp,Instr.fieldAt,hfr.eval hx,hu.run,hf,Instr.sureAddr,fieldPlace,hs.run,zba]) k
theorem H.Ab[hu:Und P t dd](hw:want? l L gd=true)(hx:ev? L x=some (.pointer (some ⟨b,off,none⟩)))(ha:aggD dd=false)
  (hr:Rd1 f A b off v) (hd:Nat.ble (d+1) n=true)
  (k:H P base n ((d,v)::L) f A (.ops l rest q)):H P base n L f A (.ops l (⟨some d,.load t x,ty,pos,af,gd⟩::rest) q):=
 H.opV hw hd (fun a w hfr s=>by simp[execOp,hfr.eval hx,run_loadAt1 hu ha (hr base w s)]) k
theorem H.Ad[hu:Und P t dd][hs:Siz P t m](hw:want? l L gd=true)(hx:ev? L x=some (.pointer (some ⟨b,off,none⟩)))(ha:aggD dd=true)
  (hr:Rd f A b off ls) (hm:ls.length=m) (hd:Nat.ble (d+1) n=true)
  (k:H P base n ((d,.agg ls.toArray)::L) f A (.ops l rest q)):H P base n L f A (.ops l (⟨some d,.load t x,ty,pos,af,gd⟩::rest) q):=
 H.opV hw hd (fun a w hfr s=>by simp[execOp,hfr.eval hx,run_loadAtN hu ha hs (hr base w s) hm]) k
inductive SetV:List Value→Nat→Value→List Value→Prop where
 |here (x v:Value) (t:List Value):SetV (x::t) 0 v (v::t)
 |there (x:Value) {t t':List Value} {i:Nat} {v:Value} (h:SetV t i v t'):SetV (x::t) (i+1) v (x::t')
theorem SetV.eq{l:List Value}{i:Nat}(h:SetV l i v l'):l'=l.set i v∧i<l.length:=by
 induction h with
 |here=>simp
 |there x h ih=>simp[ih.1];exact ih.2
theorem SetV.mk{l:List Value}{i:Nat}(v:Value)(h:i<l.length):SetV l i v (l.set i v):=by
 induction l generalizing i with
 |nil=>simp at h
 | cons x t ih =>
  cases i with
  |zero=>exact .here _ _ _
  |succ i=>exact .there _ (ih jx)
theorem H.Ba[hs:Siz P t 1](hw:want? l L gd=true)(hx:ev? L x=some (.pointer (some ⟨b,off,none⟩)))(hy:ev? L y=some v)(hv:one v=true)
  (hA:At A (row b T ls) A' (row b T ls')) (hset:SetV ls off v ls')
  (k:H P base n L f A' (.ops l rest q)):H P base n L f A (.ops l (⟨none,.store t x y,ty,pos,af,gd⟩::rest) q):=
 H.opS hw (fun a w hfr s=>by
  obtain⟨e1,e2⟩:=hset.eq
  subst e1
  refine⟨_,?_,s.putRow hA⟩
  have hb:=s.got hA
  have hc:v.cells= #[v]:=by cases v<;>simp_all [one,Value.cells]
  have h1:=run_store_row (P:=P) hb e2 hv
  simp only[execOp,hfr.eval hx,hfr.eval hy,Instr.storeAt,Instr.sureAddr,storeVar,storeCells,hc,Sem.run_bind,Sem.run_pure,Result.andThen_ok,hs.run]
  simp[zba,h1]) k
theorem H.Ag[hs:Siz P t m](hw:want? l L gd=true)(hx:ev? L x=some (.pointer (some ⟨b,off,none⟩)))(hy:ev? L y=some (.agg vs.toArray))(hv:∀v∈vs,one v=true)(hm:vs.length=m)
  (hset:splice ls off vs=ls') (hle:off+vs.length≤ls.length) (hA:At A (row b T ls) A' (row b T ls'))
  (k:H P base n L f A' (.ops l rest q)):H P base n L f A (.ops l (⟨none,.store t x y,ty,pos,af,gd⟩::rest) q):=
 H.opS hw (fun a w hfr s=>by
  subst hset
  have hb:=s.got hA
  have h1:=run_storeCells (P:=P) (off:=off) vs ls 0 w hb hv hle
  have hr:(execOp a.eval ⟨none,.store t x y,ty,pos,af,gd⟩).run P w= .ok .skip (if vs=[]then w else World.putRow' w b T (splice ls (off+0) vs)):=by
   simp only[execOp,hfr.eval hx,hfr.eval hy,Instr.storeAt,Instr.sureAddr,storeVar,Value.cells,Sem.run_bind,Sem.run_pure,Result.andThen_ok,hs.run,List.size_toArray,hm]
   simp[h1]
  rw[hr]
  by_cases e:vs=[]
  ·subst e
   rw[splice_nil]at hA
   refine⟨w,by simp,s.conv ?_⟩
   obtain⟨R,a1,a2⟩:=hA.split
   rw[a1,a2]
  ·rw[if_neg e]
   exact⟨_,rfl,s.putRow hA⟩) k
theorem H.box{t:TypeId}{x:Operand}{v:Value}{ls:List Value}(hw:want? l L gd=true)(hx:ev? L x=some v)(hv:v.cells=ls.toArray)(hd:Nat.ble (d+1) n=true)
  (k:∀b,H P base n ((d,.pointer (some ⟨b,0,none⟩))::L) f (row b t ls::A) (.ops l rest q)):H P base n L f A (.ops l (⟨some d,.box t x,ty,pos,af,gd⟩::rest) q):=
 H.opE (fun b=>.pointer (some ⟨b,0,none⟩)) (fun _=>f) (fun b=>row b t ls::A) (fun _=>True) hw hd (fun a w hfr s=>by
  refine⟨w.heap.size,w.alloc (.cells ls.toArray t (0,0)),trivial,?_,s.alloc rfl rfl rfl rfl⟩
  simp[execOp,Instr.box,newVar,newRow,hfr.eval hx,hv]) (fun b _=>k b)
theorem H.Aj{z:Value}[hz:Zer P t z](hw:want? l L gd=true)(hv:z.cells=ls.toArray)(hd:Nat.ble (d+1) n=true)
  (k:∀b,H P base n ((d,.pointer (some ⟨b,0,none⟩))::L) f (row b t ls::A) (.ops l rest q)):H P base n L f A (.ops l (⟨some d,.alloc t,ty,pos,af,gd⟩::rest) q):=
 H.opE (fun b=>.pointer (some ⟨b,0,none⟩)) (fun _=>f) (fun b=>row b t ls::A) (fun _=>True) hw hd (fun a w hfr s=>by
  refine⟨w.heap.size,w.alloc (.cells ls.toArray t (0,0)),trivial,?_,s.alloc rfl rfl rfl rfl⟩
  simp[execOp,Instr.alloc,newVar,newRow,hz.run,hv]) (fun b _=>k b)
theorem H.Bi{p:Option Addr}[hu:Und P t (.slice e)](hw:want? l L gd=true)(hx:ev? L x=some (.slice p m c))(hd:Nat.ble (d+1) n=true)
  (k:H P base n ((d,.int .i64 (m:Nat))::L) f A (.ops l rest q)):H P base n L f A (.ops l (⟨some d,.call ⟨.builtin .len,#[x],#[t]⟩,ty,pos,af,gd⟩::rest) q):=
 H.opV hw hd (fun a w hfr _=>by
  simp[execOp,resolve,invoke,builtin,Builtin.len_,hfr.eval hx,hu.run,goInt]) k
theorem H.Bs[hu:Und P t .string](hw:want? l L gd=true)(hx:ev? L x=some (.string s))(hd:Nat.ble (d+1) n=true)
  (k:H P base n ((d,.int .i64 (s.size:Nat))::L) f A (.ops l rest q)):H P base n L f A (.ops l (⟨some d,.call ⟨.builtin .len,#[x],#[t]⟩,ty,pos,af,gd⟩::rest) q):=
 H.opV hw hd (fun a w hfr _=>by
  simp[execOp,resolve,invoke,builtin,Builtin.len_,hfr.eval hx,hu.run,goInt]) k
theorem H.Ak{i:Nat}[hu:Und P t (.slice e)][hs:Siz P e sz](hw:want? l L gd=true)
  (hx:ev? L x=some (.slice (some ⟨b,off,none⟩) m c)) (hy:ev? L y=some (.int ik z)) (hq:z=(i:Nat)) (hi:i<m) (hd:Nat.ble (d+1) n=true)
  (k:H P base n ((d,.pointer (some ⟨b,off+i*sz,none⟩))::L) f A (.ops l rest q)):H P base n L f A (.ops l (⟨some d,.indexAddr t x y,ty,pos,af,gd⟩::rest) q):=
 H.opV hw hd (fun a w hfr _=>by
  subst hq
  simp only[execOp,Instr.indexAt,hfr.eval hx,hfr.eval hy,Sem.run_bind,asIntOf,Sem.run_pure,Result.andThen_ok,hu.run]
  simp[hi,hs.run,zba]) k
theorem H.Al{i:Nat}[hu:Und P t (.array m e)][hs:Siz P e sz](hw:want? l L gd=true)
  (hx:ev? L x=some (.pointer (some ⟨b,off,none⟩))) (hy:ev? L y=some (.int ik z)) (hq:z=(i:Nat)) (hi:i<m) (hd:Nat.ble (d+1) n=true)
  (k:H P base n ((d,.pointer (some ⟨b,off+i*sz,none⟩))::L) f A (.ops l rest q)):H P base n L f A (.ops l (⟨some d,.indexAddr t x y,ty,pos,af,gd⟩::rest) q):=
 H.opV hw hd (fun a w hfr _=>by
  subst hq
  simp only[execOp,Instr.indexAt,hfr.eval hx,hfr.eval hy,Sem.run_bind,asIntOf,Sem.run_pure,Result.andThen_ok,hu.run,Instr.sureAddr]
  simp[hi,hs.run,zba]) k
end rules
class Byt (P:Program) (t:TypeId) (n:outParam Nat):Prop where
 eq:(P.info? t).map (·.bytes)=some n
def slc(p:Option Addr)(n c:Nat)(T:TypeId)(sz:Nat)(xs:List Value):HP:=fun h=>
 xs.length=n*sz∧c≤9223372036854775807∧((n=0∧c=0∧h=nil0)∨∃b sp,p=some ⟨b,0,none⟩∧n≤c∧(xs++sp).length=c*sz∧h=sing b (.cells (xs++sp).toArray T (0,0)))
theorem slc_nil(p:Option Addr)(T:TypeId)(sz:Nat):slc p 0 0 T sz [] nil0:=⟨by simp,by omega,.inl ⟨rfl,rfl,rfl⟩⟩
theorem row_slc(hl:l.length=n*sz)(hn:n≤9223372036854775807)(hr:row b T l h):slc (some ⟨b,0,none⟩) n n T sz l h:=
 ⟨hl,hn,.inr ⟨b,[],rfl,Nat.le_refl _,by simpa using hl,by rw[List.append_nil];exact hr⟩⟩
variable {xs:List Value}
theorem Sat.slc_at{p:Option Addr}{y:HP}(s:Sat base w f A)(h:At A (slc p n c T sz xs) A' y):xs.length=n*sz∧c≤9223372036854775807∧((n=0∧c=0)∨∃b sp,p=some ⟨b,0,none⟩∧n≤c∧(xs++sp).length=c*sz∧w.heap[b]?=some (.cells (xs++sp).toArray T (0,0))):=by
 obtain⟨R,h1,_⟩:=h.split;obtain⟨m,hm,_,hw⟩:=s.mem;rw[h1]at hm;obtain⟨m1,m2,_,rfl,⟨a1,a2,a3⟩,_⟩:=hm;refine⟨a1,a2,?_⟩;rcases a3 with⟨e2,e3,_⟩|⟨b,sp,e1,e2,e3,rfl⟩
 ·exact .inl ⟨e2,e3⟩
 ·exact .inr ⟨b,sp,e1,e2,e3,hw b _ jr⟩
theorem Rd.ofSlc(h:At A (slc (some ⟨b,0,none⟩) n c T sz xs) A' (slc (some ⟨b,0,none⟩) n c T sz xs))(h0:0<n):Rd f A b 0 xs:=fun base w s=>by
 obtain⟨_,_,h3⟩:=s.slc_at h
 rcases h3 with⟨e,_⟩|⟨b',sp,e,_,_,hw⟩
 ·omega
 ·cases e
  exact⟨_,_,_,hw,fun i hi=>by simp only[Nat.zero_add,List.getElem?_toArray];exact List.getElem?_append_left hi⟩
theorem Sat.fresh{x y:HP}{o:Obj}(s:Sat base w f A)(h:At A x A' y)
  (hos:w'.os=w.os) (ht:w'.tape=w.tape) (ho:w'.output=w.output) (hh:w'.heap=w.heap.push o) (hy:y (sing w.heap.size o)):Sat base w' f A':=by
 obtain⟨R,h1,h2⟩:=h.split;have s1:=s.alloc hos ht ho hh;have s2:Sat base w' f [pts w.heap.size o,x,R]:=s1.conv (by simp only[stars,h1,star_emp])
 have s3:=s2.drop (.there _ (.here _ _));refine s3.imp fun m hm=>?_
 rw[h2];simp only[stars,star_emp]at hm;obtain⟨m1,m2,d,rfl,rfl,hr⟩:=hm;exact⟨_,m2,d,rfl,hy,hr⟩
theorem Sat.turnRow{x y:HP}(s:Sat base w f A)(h:At A x A' y)
  (hx:∀m,x m→∃o,m=sing b o) (hos:w'.os=w.os) (ht:w'.tape=w.tape) (ho:w'.output=w.output) (hh:w'.heap=w.heap.setIfInBounds b o') (hy:y (sing b o')):Sat base w' f A':=by
 obtain⟨R,h1,h2⟩:=h.split
 obtain⟨o,s1⟩:∃o,Sat base w f [pts b o,R]:=by
  obtain⟨a1,a2,a3,a4,a5,m,hm,hd,hw⟩:=s;rw[h1]at hm;obtain⟨m1,m2,d,e,a,r⟩:=hm;obtain⟨o,ho⟩:=hx m1 a;refine⟨o,a1,a2,a3,a4,a5,m,?_,hd,hw⟩;simp only[stars,star_emp];exact⟨m1,m2,d,e,ho,r⟩
 have s2:=s1.set (.here _ _ (pts b o')) hos ht ho hh;refine s2.imp fun m hm=>?_
 rw[h2];simp only[stars,star_emp]at hm;obtain⟨m1,m2,d,e,a,r⟩:=hm;exact⟨m1,m2,d,e,by rw[a];exact hy,r⟩
structure Src(P:Program)(f:Frag)(A:List HP)(x:Value)(sz m:Nat)(news:List Value):Prop where
 len:∀w,(Builtin.lenOf x).run P w= .ok m w
 cells:∀base w,Sat base w f A→(Builtin.firstCells sz m x).run P w= .ok news.toArray w
 size:news.length=m*sz
variable {news:List Value}
theorem Src.slice(h:Rd f A b off news)(hl:news.length=m*sz):Src P f A (.slice (some ⟨b,off,none⟩) m c) sz m news:=
 ⟨fun w=>rfl,fun base w s=>run_firstCells_some w sz m ⟨b,off,none⟩ m c news hl (fun j v hj=>by rw[zba];exact(h base w s).cell hj),hl⟩
theorem Src.nil:Src P f A (.slice none 0 0) sz 0 []:=
 ⟨fun w=>rfl,fun base w s=>run_firstCells_none w sz 0 0 0,by simp⟩
def bytesV(l:List UInt8):List Value:=l.map fun b=>.int .u8 (b.toNat:Nat)
theorem Src.string:Src P f A (.string s) 1 s.size (bytesV s.data.toList):=
 ⟨fun w => rfl, fun base w _ => by
  have:(s.extract 0 s.size)=s:=by
   have:=ByteArray.extract_zero_size (b:=s)
   exact this
  show Result.ok _ w=_
  rw[this]
  congr 1
  unfold bytesV
  rw[←List.map_toArray,Array.toArray_toList]
  ,by unfold bytesV;rw[List.length_map,Array.length_toList,Nat.mul_one];rfl⟩
theorem Src.slcS{p:Option Addr}(h:At A (slc p n c T sz xs) A' (slc p n c T sz xs))(hl:xs.length=n*sz):Src P f A (.slice p n c) sz n xs:=
 ⟨fun w => rfl, fun base w s => by
  obtain⟨_,_,h3⟩:=s.slc_at h
  by_cases h0:0<n
  ·rcases h3 with⟨e,_⟩|⟨b,sp,rfl,_,_,_⟩
   ·omega
   ·exact(Src.slice (P:=P) (c:=c) (Rd.ofSlc h h0) hl).cells base w s
  ·have h1:n=0:=jA
   subst h1
   have:xs=[]:=List.eq_nil_of_length_eq_zero kj
   subst this
   cases p with
   |none=>exact run_firstCells_none w sz 0 0 c
   |some a=>exact run_firstCells_some w sz 0 a 0 c [] jK jK,hl⟩
def allOne:List Value→Bool
 | []=>true
 |v::r=>one v&&allOne r
theorem zaa:∀ {l:List Value},allOne l=true→∀v∈l,one v=true
 | [],_,v,h=>by simp at h
 | u :: r, h, v, hv => by
  simp only[allOne,Bool.and_eq_true]at h
  simp only[List.mem_cons]at hv
  rcases hv with rfl|hv
  ·exact h.1
  ·exact zaa h.2 v hv
theorem one_eq(v:Value):v.oneCell'=one v:=by cases v<;>rfl
def srcD:TypeDesc→Bool
 | .slice _| .string=>true
 |_=>false
theorem srcD_cases(h:srcD d=true):(∃e,d= .slice e)∨d= .string:=by cases d<;>simp[srcD]at h<;>simp
variable {u:TypeId} {cur:Array Value} {du:TypeDesc} {n0:Nat}
section rules
variable {P:Program} {base:World} {n:Nat} {L:Env} {f:Frag} {A:List HP} {q:Post}
variable {l rest:List Oper} {d:Nat} {ty:TypeId} {pos:String} {af:Array Edge} {gd:Option (Nat × Bool)}
theorem info_of{bytes:Nat}{z:Value}(hs:Siz P t sz)(hb:Byt P t bytes)(hz:Zer P t z):∃i,P.info? t=some i∧i.size=sz∧i.bytes=bytes∧i.zero=some z:=by
 have h1:=hs.eq;have h2:=hb.eq;have h3:=hz.eq
 cases hi:P.info? t with
 |none=>rw[hi]at h1;cases h1
 | some i =>
  rw[hi]at h1 h2 h3;simp at h1 h2 h3;exact⟨i,rfl,h1,h2,h3⟩
theorem setRow_is{cs:Array Value}(hg:w.heap[b]?=some (.cells cur T (0,0))):(w.setRow b cs).heap=w.heap.setIfInBounds b (.cells cs T (0,0)):=by
 unfold World.setRow;apply Array.ext_getElem?;intro k;rw[Array.getElem?_modify]
 have hlt:b<w.heap.size:=by
  rcases Nat.lt_or_ge b w.heap.size with h|h
  ·exact h
  ·simp[Array.getElem?_eq_none h]at hg
 by_cases e:b=k
 ·subst e;rw[hg];simp[hlt]
 ·simp[e,Array.getElem?_setIfInBounds_ne e]
theorem run_append_in{x:Value}{i:TypeInfo}
  (hu:Und P t (.slice e)) (hu2:Und P u du) (hdu:srcD du=true) (hi:P.info? e=some i) (hg:w.heap[b]?=some (.cells cur e (0,0)))
  (hlen:(Builtin.lenOf x).run P w= .ok m w) (hcells:(Builtin.firstCells i.size m x).run P w= .ok news.toArray w) (hroom:n+m≤c) (hfit:n*i.size+news.length≤cur.size) (h1:∀v∈news,v.oneCell'=true) :
  (Builtin.append_ #[t, u] ty #[.slice (some ⟨b, 0, none⟩) n c, x]).run P w =
   .ok (.slice (some ⟨b,0,none⟩) (n+m) c) (w.setRow b (cur.toList.take (n*i.size)++news++cur.toList.drop (n*i.size+news.length)).toArray):=by
 have hst:=run_storeCells_at P b (n*i.size) e news 0 cur w hg (by simpa using hfit) h1;simp only[Nat.add_zero]at hst
 rcases srcD_cases hdu with⟨e',rfl⟩|rfl<;>
  simp[Builtin.append_,run_underlying hu.eq,run_underlying hu2.eq,sizeOf,typeInfo,hi,hlen,hcells,hroom,Addr.add_lit,hst]
theorem run_append_out{p:Option Addr}{x z:Value}{i:TypeInfo}{olds:List Value}
  (hu:Und P t (.slice e)) (hu2:Und P u du) (hdu:srcD du=true) (hi:P.info? e=some i) (hz:i.zero=some z)
  (hlen:(Builtin.lenOf x).run P w= .ok m w) (hold:(Builtin.firstCells i.size n (.slice p n c)).run P w.drew= .ok olds.toArray w.drew) (hcells:(Builtin.firstCells i.size m x).run P w.drew= .ok news.toArray w.drew)
  (hg:c<n+m) (h63:n+m≤9223372036854775807) (hfit:Builtin.nextslicecap (n+m) c*i.bytes≤281474976710656) :
  (Builtin.append_ #[t, u] ty #[.slice p n c, x]).run P w =
   .ok (.slice (some ⟨w.heap.size,0,none⟩) (n+m) (grownCap w (n+m) c e)) (w.drew.alloc (.cells (olds.toArray++news.toArray++Builtin.zeroCells z.cells (grownCap w (n+m) c e-(n+m))) e)):=by
 have hn:¬(n+m≤c):=jA
 have h63':¬(9223372036854775807<((n:Int)+(m:Int))):=jA
 have h48':¬(281474976710656<Builtin.nextslicecap (n+m) c*i.bytes):=jA
 rcases srcD_cases hdu with⟨e',rfl⟩|rfl<;>
  simp[Builtin.append_,run_underlying hu.eq,run_underlying hu2.eq,sizeOf,typeInfo,zeroValue,hi,hz,hlen,hold,hcells,hn,h63',h48',Question.forced,newRow,grownCap]<;>
  rw[←Array.append_assoc,List.append_toArray olds news]
theorem run_append_slc{A':Option Addr→Nat→List HP}{p:Option Addr}{bytes:Nat}{x z:Value}
  (hu:Und P t (.slice e)) (hu2:Und P u du) (hs:Siz P e sz) (hb:Byt P e bytes) (hz:Zer P e z) (hdu:srcD du=true)
  (s:Sat base w f A) (hA:∀p' c',At A (slc p n c e sz xs) (A' p' c') (slc p' (n+m) c' e sz (xs++news)))
  (hsrc:Src P f A x sz m news) (h1:∀v∈news,one v=true) (hzs:z.cells.size=sz) (h63:n+m≤9223372036854775807) (hby:(n+m)*bytes≤140737488355328) :
  ∃p' c' w',(Builtin.append_ #[t,u] ty #[.slice p n c,x]).run P w= .ok (.slice p' (n+m) c') w'∧Sat base w' f (A' p' c'):=by
 obtain⟨i,hi,rfl,rfl,hiz⟩:=info_of hs hb hz;obtain⟨hl,hc,h3⟩:=s.slc_at (hA none 0);have hlen:(xs++news).length=(n+m)*i.size:=by rw[lnA,hl,hsrc.size,Nat.add_mul]
 have h1':∀v∈news,v.oneCell'=true:=fun v hv=>by rw[one_eq];exact h1 v hv
 have hlx:(Builtin.lenOf x).run P w= .ok m w:=hsrc.len w
 have grown:∀olds:List Value,olds=xs→(Builtin.firstCells i.size n (.slice p n c)).run P w.drew= .ok olds.toArray w.drew→c<n+m→
   ∃p' c' w',(Builtin.append_ #[t,u] ty #[.slice p n c,x]).run P w= .ok (.slice p' (n+m) c') w'∧Sat base w' f (A' p' c'):=by
  intro olds ho hold hg
  subst ho
  have hcells:=hsrc.cells base w.drew (s.same rfl rfl rfl rfl)
  have hr:=run_append_out (ty:=ty) hu hu2 hdu hi hiz hlx hold hcells hg h63 (growslice_fits hg hby)
  refine⟨_,_,_,hr,s.fresh (hA _ _) rfl rfl rfl rfl ⟨hlen,?_,.inr ⟨_,(Builtin.zeroCells z.cells (grownCap w (n+m) c e-(n+m))).toList,rfl,grownCap_ge _ _ _ _,?_,?_⟩⟩⟩
  ·have:=grownCap_le_maxLen w (n+m) c e (by unfold maxLen;omega)
   unfold maxLen at this;omega
  ·have hge:=grownCap_ge w (n+m) c e
   rw[lnA,hlen,Array.length_toList,size_zeroCells,hzs,←Nat.add_mul];congr 1;omega
  ·congr 2
   rw[←List.append_toArray,←List.append_toArray,Array.toArray_toList]
 by_cases h00:n=0∧c=0
 ·obtain⟨rfl,rfl⟩:=h00;clear h3;have hx:xs=[]:=List.eq_nil_of_length_eq_zero kj;subst hx
  by_cases hm:m=0
  ·subst hm;have hn:news=[]:=List.eq_nil_of_length_eq_zero (by simpa using hsrc.size);subst hn
   refine⟨p,0,w,?_,?_⟩
   ·have hf:=hsrc.cells base w s
    rcases srcD_cases hdu with⟨e',rfl⟩|rfl<;>cases p<;>
     simp[storeCells,Builtin.append_,run_underlying hu.eq,run_underlying hu2.eq,sizeOf,typeInfo,hi,hlx,hf]
   ·obtain⟨R,e1,e2⟩:=(hA p 0).split;exact s.conv (by rw[e1,e2];simp)
  ·refine grown [] rfl ?_ jA
   cases p with
   |none=>exact run_firstCells_none w.drew i.size 0 0 0
   |some a=>exact run_firstCells_some w.drew i.size 0 a 0 0 [] jK jK
 ·obtain⟨b,sp,rfl,hnc,hcs,hw⟩:=h3.resolve_left h00;by_cases hroom:n+m≤c
  ·have hfit:n*i.size+news.length≤(xs++sp).toArray.size:=by rw[List.size_toArray,hsrc.size,hcs,←Nat.add_mul];exact Nat.mul_le_mul_right _ hroom
   have hr:=run_append_in (ty:=ty) hu hu2 hdu hi hw hlx (hsrc.cells base w s) hroom hfit h1';have hsz:news.length≤sp.length:=by simp[hl]at hfit;exact hfit
   have e1:(xs++sp).toArray.toList.take (n*i.size)++news++(xs++sp).toArray.toList.drop (n*i.size+news.length)=xs++news++sp.drop news.length:=by
    simp only[←hl];rw[List.take_left,List.drop_append,List.drop_eq_nil_of_le jA,List.nil_append];congr 2;omega
   rw[e1]at hr;refine⟨some ⟨b,0,none⟩,c,_,hr,s.turnRow (hA (some ⟨b,0,none⟩) c) (b:=b) (o':=.cells (xs++news++(sp.drop news.length)).toArray e (0,0)) ?_ rfl rfl rfl ?_ ?_⟩
   ·rintro m1 ⟨_,_,h⟩;rcases h with⟨h,h',_⟩|⟨b',sp',h,_,hcs',rfl⟩
    ·exact absurd ⟨h,h'⟩ h00
    ·cases h;exact⟨_,rfl⟩
   ·exact setRow_is hw
   ·refine⟨hlen,hc,.inr ⟨b,sp.drop news.length,rfl,hroom,?_,rfl⟩⟩;simp only[lnA,List.length_drop]at hcs⊢;omega
  ·have hf:=run_firstCells_some (P:=P) w.drew i.size n ⟨b,0,none⟩ n c xs hl (fun j v hj=>by
    rw[zba]
    have:j<xs.length:=qcL
    simp[World.cell?,show w.drew.heap=w.heap from rfl,hw,List.getElem?_append_left this,hj])
   exact grown xs rfl hf jA
theorem run_builtin_append{dd:Option Tmp}(h:(Builtin.append_ #[t,u] ty #[a.eval x,a.eval y]).run P w= .ok v w'):(execOp a.eval ⟨dd,.call ⟨.builtin .append,#[x,y],#[t,u]⟩,ty,pos,af,gd⟩).run P w= .ok (.value v) w':=by
 exact qcf
theorem H.Av{A':Option Addr→Nat→List HP}{p:Option Addr}{bytes:Nat}{xv z:Value}
  [hu:Und P t (.slice e)] [hu2:Und P u du] [hs:Siz P e sz] [hb:Byt P e bytes] [hz:Zer P e z] (hw:want? l L gd=true) (hd:Nat.ble (d+1) n=true) (hx:ev? L x=some (.slice p n0 c)) (hy:ev? L y=some xv) (hdu:srcD du=true)
  (hA:∀p' c',At A (slc p n0 c e sz xs) (A' p' c') (slc p' (n0+m) c' e sz (xs++news)))
  (hsrc:Src P f A xv sz m news) (h1:∀v∈news,one v=true) (hzs:z.cells.size=sz) (h63:n0+m≤9223372036854775807) (hby:(n0+m)*bytes≤140737488355328)
  (k:∀p' c',H P base n ((d,.slice p' (n0+m) c')::L) f (A' p' c') (.ops l rest q)) :
  H P base n L f A (.ops l (⟨some d,.call ⟨.builtin .append,#[x,y],#[t,u]⟩,ty,pos,af,gd⟩::rest) q):=
 H.opE (ι:=Option Addr×Nat) (fun i=>.slice i.1 (n0+m) i.2) (fun _=>f) (fun i=>A' i.1 i.2) (fun _=>True) hw hd (fun a w hfr s=>by
  obtain⟨p',c',w',hr,s'⟩:=run_append_slc (ty:=ty) hu hu2 hs hb hz hdu s hA hsrc h1 hzs h63 hby
  exact⟨(p',c'),w',trivial,run_builtin_append jm,s'⟩) (fun i _=>k i.1 i.2)
theorem H.Au{p:Option Addr}(h:At A (slc p n0 c T sz xs) A' (slc p n0 c T sz xs))(h0:0<n0)
  (k:∀b,p=some ⟨b,0,none⟩→H P base n L f A K):H P base n L f A K:=.mk fun a w hf s=>by
 obtain⟨_,_,h3⟩:=s.slc_at h
 rcases h3 with⟨e,_⟩|⟨b,sp,e,_⟩
 ·omega
 ·exact(k b e).out a w hf s
theorem H.Bv{i:Nat}[hu:Und P t (.slice e)][hs:Siz P e 1](hw:want? l L gd=true)
  (hx:ev? L x=some (.slice (some ⟨b,off,none⟩) m c)) (hy:ev? L y=some (.int ik z)) (hq:z=(i:Nat)) (hi:i<m) (hd:Nat.ble (d+1) n=true)
  (k:H P base n ((d,.pointer (some ⟨b,off+i,none⟩))::L) f A (.ops l rest q)):H P base n L f A (.ops l (⟨some d,.indexAddr t x y,ty,pos,af,gd⟩::rest) q):=
 H.opV hw hd (fun a w hfr _=>by
  subst hq
  simp only[execOp,Instr.indexAt,hfr.eval hx,hfr.eval hy,Sem.run_bind,asIntOf,Sem.run_pure,Result.andThen_ok,hu.run]
  simp[hi,hs.run,zba]) k
theorem H.Ah{i:Nat}[hu:Und P t (.slice e)][hs:Siz P e sz](hw:want? l L gd=true)
  (hx:ev? L x=some (.slice (some ⟨b,0,none⟩) m c)) (hy:ev? L y=some (.int ik z)) (hq:z=(i:Nat)) (hi:i<m) (hd:Nat.ble (d+1) n=true)
  (k:H P base n ((d,.pointer (some ⟨b,i*sz,none⟩))::L) f A (.ops l rest q)):H P base n L f A (.ops l (⟨some d,.indexAddr t x y,ty,pos,af,gd⟩::rest) q):=
 H.opV hw hd (fun a w hfr _=>by
  subst hq
  simp only[execOp,Instr.indexAt,hfr.eval hx,hfr.eval hy,Sem.run_bind,asIntOf,Sem.run_pure,Result.andThen_ok,hu.run]
  simp[hi,hs.run,zba]) k
theorem H.Az{xs':List Value}[hs:Siz P t 1](hw:want? l L gd=true)(hx:ev? L x=some (.pointer (some ⟨b,off,none⟩)))(hy:ev? L y=some v)(hv:one v=true)
  (hA:At A (slc (some ⟨b,0,none⟩) n0 c T sz xs) A' (slc (some ⟨b,0,none⟩) n0 c T sz xs')) (hset:SetV xs off v xs')
  (k:H P base n L f A' (.ops l rest q)):H P base n L f A (.ops l (⟨none,.store t x y,ty,pos,af,gd⟩::rest) q):=
 H.opS hw (fun a w hfr s=>by
  obtain⟨e1,e2⟩:=hset.eq
  subst e1
  obtain⟨hl,hc,h3⟩:=s.slc_at hA
  rcases h3 with⟨e,_⟩|⟨b',sp,e,hn,hcs,hb⟩
  ·subst e;simp at hl;subst hl;simp at e2
  ·cases e
   have hcv:v.cells= #[v]:=by cases v<;>simp_all [one,Value.cells]
   have h1:=run_store_row (P:=P) (i:=off) hb je hv
   refine⟨World.putRow' w b T ((xs++sp).set off v),?_,s.turnRow hA (b:=b) (o':=.cells (xs.set off v++sp).toArray T (0,0)) ?_ rfl rfl rfl ?_ ?_⟩
   ·simp only[execOp,hfr.eval hx,hfr.eval hy,Instr.storeAt,Instr.sureAddr,storeVar,storeCells,hcv,Sem.run_bind,Sem.run_pure,Result.andThen_ok,hs.run]
    simp[zba,h1]
   ·rintro m1 ⟨_,_,h⟩
    rcases h with⟨h,_⟩|⟨b',sp',h,_,hcs',rfl⟩
    ·subst h;simp at hl;subst hl;simp at e2
    ·cases h;exact⟨_,rfl⟩
   ·show(World.putRow' w b T ((xs++sp).set off v)).heap=_
    rw[List.set_append_left _ _ e2];rfl
   ·exact⟨by simpa using hl,hc,.inr ⟨b,sp,rfl,hn,by simpa using hcs,rfl⟩⟩) k
end rules
class KeyT (P:Program) (kt:TypeId) {κ:Type} [DecidableEq κ] (enc:κ→Value):Prop where
 chk:∀(k:κ) (e:Bool) (w:World),(Instr.checkKey e 10000 kt (enc k)).run P w= .ok () w
 fnd:∀(k:κ) (es:List MapEntry) (ks:List κ) (w:World),es.map (·.key)=ks.map enc→(Instr.findKey kt (enc k) es).run P w= .ok ((ks.findIdx? (k= ·)).bind fun i=>(es[i]?).map fun e=>(i,e.val)) w
 same:∀k:κ,Instr.sameBits 10000 (enc k) (enc k)=true
def getKV{κ:Type}[DecidableEq κ]:List (κ×Value)→κ→Option Value
 | [],_=>none
 |(k',v)::r,k=>if k=k' then some v else getKV r k
def putKV{κ:Type}[DecidableEq κ]:List (κ×Value)→κ→Value→List (κ×Value)
 | [],k,v=>[(k,v)]
 |(k',u)::r,k,v=>if k=k' then(k,v)::r else(k',u)::putKV r k v
variable {clock:Nat}
section
variable {κ:Type} [DecidableEq κ]
theorem getKV_idx(m:List (κ×Value))(k:κ):getKV m k=((m.map (·.1)).findIdx? (k= ·)).bind fun i=>(m[i]?).map (·.2):=by
 induction m with
 |nil=>simp[getKV]
 | cons x r ih =>
  obtain⟨k',v⟩:=x;simp only[getKV,List.map_cons,List.findIdx?_cons];by_cases e:k=k'
  ·simp[e]
  ·simp only[e,if_false,decide_false,Bool.false_eq_true];rw[ih];cases(r.map (·.1)).findIdx? (k= ·)<;>simp
theorem getKV_put_same(m:List (κ×Value))(k:κ)(v:Value):getKV (putKV m k v) k=some v:=by
 induction m with
 |nil=>simp[putKV,getKV]
 | cons x r ih =>
  obtain⟨k',u⟩:=x;simp only[putKV];by_cases e:k=k'
  ·simp[e,getKV]
  ·simp[e,getKV,ih]
theorem getKV_put_ne(m:List (κ×Value))(k j:κ)(v:Value)(h:j≠k):getKV (putKV m k v) j=getKV m j:=by
 induction m with
 |nil=>simp[putKV,getKV,h]
 | cons x r ih =>
  obtain⟨k',u⟩:=x;simp only[putKV];by_cases e:k=k'
  ·subst e;simp[getKV,h]
  ·simp only[e,if_false,getKV,ih]
theorem getKV_none(m:List (κ×Value))(k:κ):getKV m k=none↔k∉m.map (·.1):=by
 induction m with
 |nil=>simp[getKV]
 | cons x r ih =>
  obtain⟨k',u⟩:=x;simp only[getKV];by_cases e:k=k'
  ·simp[e]
  ·simp[e,ih]
def entOf(enc:κ→Value)(e:κ×Value×Nat):MapEntry:=⟨enc e.1,e.2.1,e.2.2⟩
def kvOf(e:κ×Value×Nat):κ×Value:=(e.1,e.2.1)
def mp(b:Nat)(enc:κ→Value)(m:List (κ×Value)):HP:=fun h=>
 ∃(es:List (κ×Value×Nat)) (clock:Nat),es.map kvOf=m∧(es.map (·.1)).Nodup∧(es.map (·.2.2)).Nodup∧(∀e∈es,e.2.2<clock)∧h=sing b (.map (es.map (entOf enc)).toArray clock)
def mpAt(b:Nat)(enc:κ→Value)(m:List (κ×Value))(k:κ)(s:Nat):HP:=fun h=>
 ∃(es:List (κ×Value×Nat)) (clock:Nat),es.map kvOf=m∧(es.map (·.1)).Nodup∧(es.map (·.2.2)).Nodup∧(∀e∈es,e.2.2<clock)∧(∃v,(k,v,s)∈es)∧h=sing b (.map (es.map (entOf enc)).toArray clock)
def putE(k:κ)(v:Value)(clock:Nat):List (κ×Value×Nat)→List (κ×Value×Nat)
 | []=>[(k,v,clock)]
 |e::r=>if k=e.1 then(k,v,e.2.2)::r else e::putE k v clock r
theorem putE_kv(k:κ)(v:Value)(clock:Nat)(es:List (κ×Value×Nat)):(putE k v clock es).map kvOf=putKV (es.map kvOf) k v:=by
 induction es with
 |nil=>rfl
 | cons e r ih =>
  obtain⟨k',u,s⟩:=e;simp only[putE,List.map_cons,kvOf,putKV];by_cases c:k=k'
  ·simp[c,kvOf]
  ·simp only[c,if_false,List.map_cons,kvOf];rw[←ih]
theorem putE_keys(k:κ)(v:Value)(clock:Nat)(es:List (κ×Value×Nat)):(putE k v clock es).map (·.1)=if k∈es.map (·.1)then es.map (·.1)else es.map (·.1)++[k]:=by
 induction es with
 |nil=>simp[putE]
 | cons e r ih =>
  obtain⟨k',u,s⟩:=e;simp only[putE];exact qcx
theorem putE_borns(k:κ)(v:Value)(clock:Nat)(es:List (κ×Value×Nat)):(putE k v clock es).map (·.2.2)=if k∈es.map (·.1)then es.map (·.2.2)else es.map (·.2.2)++[clock]:=by
 induction es with
 |nil=>simp[putE]
 | cons e r ih =>
  obtain⟨k',u,s⟩:=e;simp only[putE];exact qcx
theorem nodup_snoc{l:List α}{x:α}(h:l.Nodup)(hx:x∉l):(l++[x]).Nodup:=by
 rw[List.nodup_append];exact⟨h,by simp,fun a ha b hb=>by simp at hb;subst hb;rintro rfl;exact hx ha⟩
theorem mem_keys_iff(es:List (κ×Value×Nat))(k:κ):(es.map (·.1)).findIdx? (k= ·)=none↔k∉es.map (·.1):=by
 rw[List.findIdx?_eq_none_iff];constructor
 ·intro h hk;have:=h k hk;simp at this
 ·intro h x hx;simp;rintro rfl;exact h hx
theorem putE_found(enc:κ→Value){k:κ}{v:Value}{clock i:Nat}:∀ {es:List (κ×Value×Nat)},(es.map (·.1)).findIdx? (k= ·)=some i→
  (∃u s,es[i]?=some (k,u,s))∧(putE k v clock es).map (entOf enc)=(es.map (entOf enc)).modify i fun e=>{e with key:=enc k,val:=v}
 | [],h=>by simp at h
 | (k', u, s) :: r, h => by
  simp only[List.map_cons,List.findIdx?_cons]at h
  by_cases c:k=k'
  ·subst c
   simp at h;subst h
   simp[putE,entOf]
  ·simp only[c,decide_false,Bool.false_eq_true,if_false,Option.map_eq_some_iff]at h
   obtain⟨j,hj,rfl⟩:=h
   obtain⟨h1,h2⟩:=putE_found enc (v:=v) (clock:=clock) hj
   refine⟨by simpa using h1,?_⟩
   simp only[putE,c,if_false,List.map_cons,h2,List.modify_succ_cons]
theorem putE_absent(enc:κ→Value){k:κ}{v:Value}{clock:Nat}:∀ {es:List (κ×Value×Nat)},k∉es.map (·.1)→
  putE k v clock es=es++[(k,v,clock)]
 | [],_=>rfl
 | (k', u, s) :: r, h => by
  have c:¬k=k':=fun e=>h (by simp[e])
  have:=putE_absent enc (v:=v) (clock:=clock) (es:=r) (fun e=>h jn)
  simp[putE,c,this]
theorem mp_putE{enc:κ→Value}{b:Nat}{k:κ}{es:List (κ×Value×Nat)}(h1:(es.map (·.1)).Nodup)(h2:(es.map (·.2.2)).Nodup)(h3:∀e∈es,e.2.2<clock):((putE k v clock es).map (·.1)).Nodup∧((putE k v clock es).map (·.2.2)).Nodup∧∀e∈putE k v clock es,e.2.2<clock+1:=by
 have _:=b;have _:=enc
 rw[putE_keys,putE_borns];by_cases c:k∈es.map (·.1)
 ·rw[if_pos c,if_pos c];refine⟨h1,h2,fun e he=>?_⟩
  have:=List.mem_map_of_mem (f:=fun e:κ×Value×Nat=>e.2.2) he;rw[putE_borns,if_pos c]at this
  obtain⟨e',he',e2⟩:=List.mem_map.1 this
  have:=h3 e' he';exact qdE
 ·rw[if_neg c,if_neg c];refine⟨nodup_snoc h1 c,nodup_snoc h2 fun hx=>?_,fun e he=>?_⟩
  ·obtain⟨e',he',e2⟩:=List.mem_map.1 hx
   have:=h3 e' he';omega
  ·rw[putE_absent enc c]at he;simp at he;rcases he with he|rfl
   ·have:=h3 e he;omega
   ·simp
end
variable {es:Array MapEntry} {kt et:TypeId} {zz:Operand}
section rules
variable {P:Program} {base:World} {n:Nat} {L:Env} {f:Frag} {A:List HP} {q:Post}
variable {l rest:List Oper} {d:Nat} {ty:TypeId} {pos:String} {af:Array Edge} {gd:Option (Nat × Bool)}
variable {κ:Type} [DecidableEq κ] {enc:κ→Value}
theorem Sat.mp_at{m:List (κ×Value)}{y:HP}(s:Sat base w f A)(h:At A (mp b enc m) A' y):∃(es:List (κ×Value×Nat)) (clock:Nat),es.map kvOf=m∧(es.map (·.1)).Nodup∧(es.map (·.2.2)).Nodup∧(∀e∈es,e.2.2<clock)∧w.heap[b]?=some (.map (es.map (entOf enc)).toArray clock):=by
 obtain⟨R,h1,_⟩:=h.split;obtain⟨x,hm,_,hw⟩:=s.mem;rw[h1]at hm;obtain⟨m1,m2,_,rfl,⟨es,clock,a1,a2,a3,a4,rfl⟩,_⟩:=hm;exact⟨es,clock,a1,a2,a3,a4,hw b _ jr⟩
theorem Sat.mpAt_at{m:List (κ×Value)}{k:κ}{st:Nat}{y:HP}(s:Sat base w f A)(h:At A (mpAt b enc m k st) A' y):∃(es:List (κ×Value×Nat)) (clock:Nat),es.map kvOf=m∧(es.map (·.1)).Nodup∧(es.map (·.2.2)).Nodup∧(∀e∈es,e.2.2<clock)∧(∃v,(k,v,st)∈es)∧w.heap[b]?=some (.map (es.map (entOf enc)).toArray clock):=by
 obtain⟨R,h1,_⟩:=h.split;obtain⟨x,hm,_,hw⟩:=s.mem;rw[h1]at hm;obtain⟨m1,m2,_,rfl,⟨es,clock,a1,a2,a3,a4,a5,rfl⟩,_⟩:=hm;exact⟨es,clock,a1,a2,a3,a4,a5,hw b _ jr⟩
theorem run_getMap(h:w.heap[b]?=some (.map es clock)):(getObj b).run P w= .ok (.map es clock) w:=by
 simp[getObj,Sem.run,h]
theorem run_setMap{o:Obj}(h:w.heap[b]?=some (.map es clock)):(setObj b o).run P w= .ok () {w with heap:=w.heap.setIfInBounds b o}:=by
 simp[setObj,Sem.run,h]
theorem keys_entOf(es:List (κ×Value×Nat)):(es.map (entOf enc)).map (·.key)=(es.map (·.1)).map enc:=by
 simp[entOf,Function.comp_def]
theorem found_get(m:List (κ×Value))(es:List (κ×Value×Nat))(hm:es.map kvOf=m)(k:κ):getKV m k=((es.map (·.1)).findIdx? (k= ·)).bind fun i=>((es.map (entOf enc))[i]?).map (·.val):=by
 rw[getKV_idx,←hm];have e1:(es.map kvOf).map (·.1)=es.map (·.1):=by simp[kvOf,Function.comp_def]
 rw[e1];congr 1;funext i;simp[kvOf,entOf,Function.comp_def]
theorem run_lookup_mp{m:List (κ×Value)}{k:κ}{z:Value}{c:Bool}(hu:Und P t (.map kt et))(hk:KeyT P kt enc)(hz:Zer P et z)
  (s:Sat base w f A) (hA:At A (mp b enc m) A' (mp b enc m)) :
  (Instr.lookup t (.map (some b)) (enc k) c).run P w= .ok (if c then .tuple #[(getKV m k).getD z,.bool (getKV m k).isSome]else(getKV m k).getD z) w:=by
 obtain⟨es,clock,hm,_,_,_,hb⟩:=s.mp_at hA;have hf:=hk.fnd k (es.map (entOf enc)) (es.map (·.1)) w (keys_entOf es);have hg:=found_get (enc:=enc) m es hm k
 unfold Instr.lookup;simp only[Sem.run_bind,hu.run,Result.andThen_ok,run_getMap hb,Sem.run_pure,hk.chk,List.toList_toArray,hf];rw[hg]
 cases(es.map (·.1)).findIdx? (k= ·)with
 |none=>simp[hz.run]
 | some i =>
  cases hi:(es.map (entOf enc))[i]? with
  | none =>
   simp only[Option.bind_some,hi,Option.map_none,Sem.run_bind,hz.run,Result.andThen_ok,Sem.run_pure,Option.getD_none,Option.isSome_none]
  |some e=>simp only[Option.bind_some,hi,Option.map_some,Sem.run_pure,Result.andThen_ok,Option.getD_some,Option.isSome_some];rfl
theorem H.Bm{m:List (κ×Value)}{k:κ}{z kv:Value}[hu:Und P t (.map kt et)][hk:KeyT P kt enc][hz:Zer P et z](hw:want? l L gd=true)
  (hx:ev? L x=some (.map (some b))) (hy:ev? L y=some kv) (hA:At A (mp b enc m) A' (mp b enc m)) (hkv:kv=enc k) (hv:(getKV m k).getD z=v) (hd:Nat.ble (d+1) n=true)
  (kk:H P base n ((d,v)::L) f A (.ops l rest q)):H P base n L f A (.ops l (⟨some d,.lookup t x y false,ty,pos,af,gd⟩::rest) q):=
 H.opV hw hd (fun a w hfr s=>by
  subst hv;subst hkv
  have h:=run_lookup_mp (c:=false) (k:=k) hu hk hz s hA
  simp only[execOp,hfr.eval hx,hfr.eval hy,Sem.run_bind,h,Result.andThen_ok,Sem.run_pure]
  rfl) kk
theorem H.Ck{m:List (κ×Value)}{k:κ}{z kv:Value}{i:Bool}[hu:Und P t (.map kt et)][hk:KeyT P kt enc][hz:Zer P et z](hw:want? l L gd=true)
  (hx:ev? L x=some (.map (some b))) (hy:ev? L y=some kv) (hA:At A (mp b enc m) A' (mp b enc m)) (hkv:kv=enc k) (hv:(getKV m k).getD z=v) (hi:(getKV m k).isSome=i) (hd:Nat.ble (d+1) n=true)
  (kk:H P base n ((d,.tuple #[v,.bool i])::L) f A (.ops l rest q)):H P base n L f A (.ops l (⟨some d,.lookup t x y true,ty,pos,af,gd⟩::rest) q):=
 H.opV hw hd (fun a w hfr s=>by
  subst hv;subst hkv;subst hi
  have h:=run_lookup_mp (c:=true) (k:=k) hu hk hz s hA
  simp only[execOp,hfr.eval hx,hfr.eval hy,Sem.run_bind,h,Result.andThen_ok,Sem.run_pure]
  rfl) kk
theorem H.makeMap{t:TypeId}(enc:κ→Value)(hw:want? l L gd=true)(hd:Nat.ble (d+1) n=true)
  (k:∀b,H P base n ((d,.map (some b))::L) f (mp b enc []::A) (.ops l rest q)):H P base n L f A (.ops l (⟨some d,.makeMap t none,ty,pos,af,gd⟩::rest) q):=
 H.opE (fun b=>.map (some b)) (fun _=>f) (fun b=>mp b enc []::A) (fun _=>True) hw hd (fun a w hfr s=>by
  have s':Sat base (w.alloc (.map #[] 0)) f (pts w.heap.size (.map #[] 0)::A):=s.alloc rfl rfl rfl rfl
  refine⟨w.heap.size,w.alloc (.map #[] 0),trivial,?_,s'.imp ?_⟩
  ·simp[execOp,Instr.makeMap]
  ·rintro m ⟨m1,m2,dj,e,a,r⟩
   exact⟨m1,m2,dj,e,⟨[],0,rfl,by simp,by simp,by simp,a⟩,r⟩) (fun b _=>k b)
theorem run_update_mp{m:List (κ×Value)}{k:κ}(hu:Und P t (.map kt et))(hk:KeyT P kt enc)
  (s:Sat base w f A) (hA:At A (mp b enc m) A' (mp b enc (putKV m k v))) :
  ∃w',(Instr.mapUpdate t (.map (some b)) (enc k) v).run P w= .ok () w'∧Sat base w' f A':=by
 obtain⟨es,clock,hm,h1,h2,h3,hb⟩:=s.mp_at hA;have hf:=hk.fnd k (es.map (entOf enc)) (es.map (·.1)) w (keys_entOf es);obtain⟨g1,g2,g3⟩:=mp_putE (enc:=enc) (b:=b) (k:=k) (v:=v) h1 h2 h3
 have hx:∀x,mp b enc m x→∃o,x=sing b o:=by rintro x ⟨_,_,_,_,_,_,rfl⟩;exact⟨_,rfl⟩
 cases hi:(es.map (·.1)).findIdx? (k= ·)with
 | none =>
  have hno:=(mem_keys_iff es k).1 hi;refine⟨{w with heap:=w.heap.setIfInBounds b (.map ((es.map (entOf enc)).toArray.push ⟨enc k,v,clock⟩) (clock+1))},?_,s.turnRow hA hx rfl rfl rfl rfl ?_⟩
  ·unfold Instr.mapUpdate;simp only[Sem.run_bind,hu.run,Result.andThen_ok,run_getMap hb,hk.chk,List.toList_toArray,hf,hi,Option.bind_none,run_setMap hb]
  ·refine⟨putE k v clock es,clock+1,by rw[putE_kv,hm],g1,g2,g3,?_⟩;exact qe
 | some i =>
  obtain⟨⟨u,st,hes⟩,hmod⟩:=putE_found enc (v:=v) (clock:=clock) hi;have hei:(es.map (entOf enc))[i]?=some (entOf enc (k,u,st)):=by simp[hes]
  have g3':∀e∈putE k v clock es,e.2.2<clock:=fun e he=>by
   have hin:k∈es.map (·.1):=by
    have:=List.mem_of_getElem? hes;exact List.mem_map.2 ⟨_,this,rfl⟩
   have:=List.mem_map_of_mem (f:=fun e:κ×Value×Nat=>e.2.2) he;rw[putE_borns,if_pos hin]at this
   obtain⟨e',he',e2⟩:=List.mem_map.1 this
   have:=h3 e' he';exact qdE
  refine⟨{w with heap:=w.heap.setIfInBounds b (.map ((es.map (entOf enc)).toArray.modify i fun e=>{e with key:=enc k,val:=v}) clock)},?_,s.turnRow hA hx rfl rfl rfl rfl ?_⟩
  ·unfold Instr.mapUpdate;simp only[Sem.run_bind,hu.run,Result.andThen_ok,run_getMap hb,hk.chk,List.toList_toArray,hf,hi,Option.bind_some,hei,Option.map_some]
   have hks:(Instr.keyThatStays (((es.map (entOf enc)).toArray[i]?).map (·.key) |>.getD (enc k)) (enc k)).run P w= .ok (enc k) w:=qbX
   simp only[hks,Result.andThen_ok,run_setMap hb]
  ·refine⟨putE k v clock es,clock,by rw[putE_kv,hm],g1,g2,g3',?_⟩;rw[hmod];congr 2;simp
theorem H.mapUpdate{m:List (κ×Value)}{k:κ}{kv:Value}[hu:Und P t (.map kt et)][hk:KeyT P kt enc](hw:want? l L gd=true)
  (hx:ev? L x=some (.map (some b))) (hy:ev? L y=some kv) (hz:ev? L zz=some v) (hA:At A (mp b enc m) A' (mp b enc (putKV m k v))) (hkv:kv=enc k)
  (kk:H P base n L f A' (.ops l rest q)):H P base n L f A (.ops l (⟨none,.mapUpdate t x y zz,ty,pos,af,gd⟩::rest) q):=
 H.opS hw (fun a w hfr s=>by
  subst hkv
  obtain⟨w',h1,h2⟩:=run_update_mp hu hk s hA
  exact⟨w',by simp only[execOp,hfr.eval hx,hfr.eval hy,hfr.eval hz,Sem.run_bind,h1,Result.andThen_ok,Sem.run_pure],h2⟩) kk
theorem H.mapInsert{m:List (κ×Value)}{k:κ}{kv:Value}[hu:Und P t (.map kt et)][hk:KeyT P kt enc](hw:want? l L gd=true)
  (hx:ev? L x=some (.map (some b))) (hy:ev? L y=some kv) (hz:ev? L zz=some v) (hA:At A (mp b enc m) A' (mp b enc (putKV m k v))) (hkv:kv=enc k)
  (kk:H P base n L f A' (.ops l rest q)):H P base n L f A (.ops l (⟨none,.insert t x y zz,ty,pos,af,gd⟩::rest) q):=
 H.opS hw (fun a w hfr s=>by
  subst hkv
  obtain⟨w',h1,h2⟩:=run_update_mp hu hk s hA
  exact⟨w',by simp only[execOp,hfr.eval hx,hfr.eval hy,hfr.eval hz,Sem.run_bind,h1,Result.andThen_ok,Sem.run_pure],h2⟩) kk
theorem run_entry_mp{A':Nat→List HP}{m:List (κ×Value)}{k:κ}{z:Value}(hu:Und P t (.map kt et))(hk:KeyT P kt enc)(hz:Zer P et z)
  (s:Sat base w f A) (hA:∀st,At A (mp b enc m) (A' st) (mpAt b enc (putKV m k ((getKV m k).getD z)) k st)) :
  ∃st w',(Instr.mapEntry t (.map (some b)) (enc k)).run P w= .ok (.tuple #[(getKV m k).getD z,.int .i64 (st:Nat)]) w'∧Sat base w' f (A' st):=by
 obtain⟨es,clock,hm,h1,h2,h3,hb⟩:=s.mp_at (hA 0);have hf:=hk.fnd k (es.map (entOf enc)) (es.map (·.1)) w (keys_entOf es);have hg:=found_get (enc:=enc) m es hm k
 obtain⟨g1,g2,g3⟩:=mp_putE (enc:=enc) (b:=b) (k:=k) (v:=(getKV m k).getD z) h1 h2 h3;have hx:∀x,mp b enc m x→∃o,x=sing b o:=by rintro x ⟨_,_,_,_,_,_,rfl⟩;exact⟨_,rfl⟩
 cases hi:(es.map (·.1)).findIdx? (k= ·)with
 | none =>
  have hno:=(mem_keys_iff es k).1 hi;rw[hi]at hg
  simp only[Option.bind_none]at hg;rw[hg]at g1 g2 g3⊢;rw[hg]at hA;refine⟨clock,{w with heap:=w.heap.setIfInBounds b (.map ((es.map (entOf enc)).toArray.push ⟨enc k,z,clock⟩) (clock+1))},?_,s.turnRow (hA clock) hx rfl rfl rfl rfl ?_⟩
  ·unfold Instr.mapEntry;simp only[Sem.run_bind,hu.run,Result.andThen_ok,run_getMap hb,hk.chk,List.toList_toArray,hf,hi,Option.bind_none,hz.run,run_setMap hb,Sem.run_pure,goInt,Option.getD_none]
  ·refine⟨putE k z clock es,clock+1,by rw[putE_kv,hm];rfl,g1,g2,g3,⟨z,?_⟩,?_⟩
   ·rw[putE_absent enc hno];simp
   ·exact qe
 | some i =>
  obtain⟨⟨u,st,hes⟩,_⟩:=putE_found enc (v:=z) (clock:=clock) hi;have hei:(es.map (entOf enc))[i]?=some (entOf enc (k,u,st)):=by simp[hes]
  have hgu:(getKV m k).getD z=u:=by rw[hg,hi];simp[hes,entOf]
  obtain⟨_,hmod⟩:=putE_found enc (v:=u) (clock:=clock) hi;rw[hgu]at g1 g2 g3⊢;rw[hgu]at hA;have hin:k∈es.map (·.1):=List.mem_map.2 ⟨_,List.mem_of_getElem? hes,rfl⟩
  have g3':∀e∈putE k u clock es,e.2.2<clock:=fun e he=>by
   have:=List.mem_map_of_mem (f:=fun e:κ×Value×Nat=>e.2.2) he;rw[putE_borns,if_pos hin]at this
   obtain⟨e',he',e2⟩:=List.mem_map.1 this
   have:=h3 e' he';exact qdE
  have hmem:∀(es:List (κ×Value×Nat)) (i:Nat),es[i]?=some (k,u,st)→(es.map (·.1)).findIdx? (k= ·)=some i→(k,u,st)∈putE k u clock es:=by
   intro es
   induction es with
   |nil=>intro i h;simp at h
   | cons e r ih =>
    intro i h hi;obtain⟨k',u',s'⟩:=e;simp only[List.map_cons,List.findIdx?_cons]at hi;by_cases c:k=k'
    ·subst c;simp at hi;subst hi;simp at h;simp[putE,h.2]
    ·simp only[c,decide_false,Bool.false_eq_true,if_false,Option.map_eq_some_iff]at hi;obtain⟨j,hj,rfl⟩:=hi
     have:=ih j jx hj;simp[putE,c,this]
  refine⟨st,{w with heap:=w.heap.setIfInBounds b (.map ((es.map (entOf enc)).toArray.modify i fun e=>{e with key:=enc k}) clock)},?_,s.turnRow (hA st) hx rfl rfl rfl rfl ?_⟩
  ·unfold Instr.mapEntry;simp only[Sem.run_bind,hu.run,Result.andThen_ok,run_getMap hb,hk.chk,List.toList_toArray,hf,hi,Option.bind_some,hei,Option.map_some]
   have hks:(Instr.keyThatStays (((es.map (entOf enc)).toArray[i]?).map (·.key) |>.getD (enc k)) (enc k)).run P w= .ok (enc k) w:=qbX
   have hks2:(Instr.keyThatStays (enc k) (enc k)).run P w= .ok (enc k) w:=by
    unfold Instr.keyThatStays;simp only[hk.same,if_true,Sem.run_pure]
   have _:=hks;simp only[Result.andThen_ok,Sem.run_pure,goInt,List.getElem?_toArray,hei,Option.map_some,Option.getD_some,entOf,hks2]
   rw[run_setMap hb];rfl
  ·refine⟨putE k u clock es,clock,by rw[putE_kv,hm],g1,g2,g3',⟨u,hmem es i hes hi⟩,?_⟩;rw[hmod];congr 2;rw[List.modify_toArray];congr 1;apply List.ext_getElem?;intro j;simp only[List.getElem?_modify];by_cases c:i=j
   ·subst c;simp[hei,entOf]
   ·simp[c]
theorem H.mapEntry{m:List (κ×Value)}{k:κ}{z kv:Value}{A':Nat→List HP}[hu:Und P t (.map kt et)][hk:KeyT P kt enc][hz:Zer P et z](hw:want? l L gd=true)
  (hx:ev? L x=some (.map (some b))) (hy:ev? L y=some kv) (hA:∀st,At A (mp b enc m) (A' st) (mpAt b enc (putKV m k ((getKV m k).getD z)) k st)) (hkv:kv=enc k) (hd:Nat.ble (d+1) n=true)
  (kk:∀st:Nat,H P base n ((d,.tuple #[(getKV m k).getD z,.int .i64 st])::L) f (A' st) (.ops l rest q)):H P base n L f A (.ops l (⟨some d,.mapEntry t x y,ty,pos,af,gd⟩::rest) q):=
 H.opE (fun st=>.tuple #[(getKV m k).getD z,.int .i64 (st:Nat)]) (fun _=>f) A' (fun _=>True) hw hd (fun a w hfr s=>by
  subst hkv
  obtain⟨st,w',h1,h2⟩:=run_entry_mp hu hk hz s hA
  exact⟨st,w',trivial,by simp only[execOp,hfr.eval hx,hfr.eval hy,Sem.run_bind,h1,Result.andThen_ok,Sem.run_pure],h2⟩) (fun st _=>kk st)
theorem findIdx_born(enc:κ→Value)(st:Nat)(k:κ):∀(es:List (κ×Value×Nat)),(es.map (·.1)).Nodup→(es.map (·.2.2)).Nodup→(∃v,(k,v,st)∈es)→
  (es.map (entOf enc)).findIdx? (fun e=>(e.born:Int) == (st:Int))=(es.map (·.1)).findIdx? (k= ·)
 | [],_,_,h=>by obtain⟨v,h⟩:=h;simp at h
 | (k', u, s') :: r, h1, h2, h => by
  obtain⟨v,h⟩:=h
  simp only[List.map_cons,List.nodup_cons]at h1 h2
  simp only[List.map_cons,List.findIdx?_cons,entOf]
  by_cases c:k=k'
  ·subst c
   have:s'=st:=by
    simp only[List.mem_cons,Prod.mk.injEq,true_and]at h;rcases h with h|h
    ·exact h.2.symm
    ·exact absurd (List.mem_map.2 ⟨_,h,rfl⟩) h1.1
   subst this
   simp
  ·have h':(k,v,st)∈r:=by
    simp only[List.mem_cons,Prod.mk.injEq]at h
    rcases h with h|h
    ·exact absurd h.1 c
    ·exact h
   have c2:¬s'=st:=by
    rintro rfl
    exact h2.1 (List.mem_map.2 ⟨_,h',rfl⟩)
   have c3:((s':Int) == (st:Int))=false:=by
    rw[beq_eq_false_iff_ne];omega
   rw[findIdx_born enc st k r h1.2 h2.2 ⟨v,h'⟩]
   simp[c,c3]
theorem H.entryStore{t:TypeId}{x y zz:Operand}{b st:Nat}{m:List (κ×Value)}{k:κ}{v:Value}{A':List HP}(hw:want? l L gd=true)
  (hx:ev? L x=some (.map (some b))) (hy:ev? L y=some (.int .i64 (st:Nat))) (hz:ev? L zz=some v) (hA:At A (mpAt b enc m k st) A' (mp b enc (putKV m k v)))
  (kk:H P base n L f A' (.ops l rest q)):H P base n L f A (.ops l (⟨none,.entryStore t x y zz,ty,pos,af,gd⟩::rest) q):=
 H.opS hw (fun a w hfr s=>by
  obtain⟨es,clock,hm,h1,h2,h3,h4,hb⟩:=s.mpAt_at hA
  have hfi:=findIdx_born enc st k es h1 h2 h4
  have hxx:∀x,mpAt b enc m k st x→∃o,x=sing b o:=by rintro x ⟨_,_,_,_,_,_,_,rfl⟩;exact⟨_,rfl⟩
  cases hi:(es.map (·.1)).findIdx? (k= ·)with
  | none =>
   obtain⟨u,hu⟩:=h4
   exact absurd (List.mem_map.2 ⟨_,hu,rfl⟩) ((mem_keys_iff es k).1 hi)
  | some i =>
   obtain⟨⟨u,st',hes⟩,hmod⟩:=putE_found enc (v:=v) (clock:=clock) hi
   have hei:(es.map (entOf enc))[i]?=some (entOf enc (k,u,st')):=by simp[hes]
   have hin:k∈es.map (·.1):=List.mem_map.2 ⟨_,List.mem_of_getElem? hes,rfl⟩
   obtain⟨g1,g2,_⟩:=mp_putE (enc:=enc) (b:=b) (k:=k) (v:=v) h1 h2 h3
   have g3':∀e∈putE k v clock es,e.2.2<clock:=fun e he=>by
    have:=List.mem_map_of_mem (f:=fun e:κ×Value×Nat=>e.2.2) he
    rw[putE_borns,if_pos hin]at this
    obtain⟨e',he',e2⟩:=List.mem_map.1 this
    have:=h3 e' he'
    have e2:e'.2.2=e.2.2:=e2
    omega
   refine⟨{w with heap:=w.heap.setIfInBounds b (.map ((es.map (entOf enc)).toArray.modify i fun e=>{e with val:=v}) clock)},?_,s.turnRow hA hxx rfl rfl rfl rfl ?_⟩
   ·rw[hi]at hfi
    have hfi':Array.findIdx? (fun e:MapEntry=>(e.born:Int) == (st:Int)) (es.map (entOf enc)).toArray=some i:=by simpa using hfi
    simp only[execOp,hfr.eval hx,hfr.eval hy,hfr.eval hz,Instr.entryStore,Sem.run_bind,run_getMap hb,asInt,asIntOf,Result.andThen_ok,Sem.run_pure,hfi',run_setMap hb]
   ·refine⟨putE k v clock es,clock,by rw[putE_kv,hm],g1,g2,g3',?_⟩
    rw[hmod]
    congr 2
    rw[List.modify_toArray]
    congr 1
    apply List.ext_getElem?
    intro j
    simp only[List.getElem?_modify]
    by_cases c:i=j
    ·subst c;simp[hei,entOf]
    ·simp[c]) kk
theorem keyT_int(hu:Und P kt (.int ik)):KeyT P kt (fun k:Int=>Value.int ik k) where
 chk:=fun k e w=>by
  have h:∀m,(Instr.checkKey e (m+1) kt (.int ik k)).run P w= .ok () w:=fun m=>by
   simp[Instr.checkKey,hu.run]
  exact h 9999
 same:=fun k=>by
  have:∀m,Instr.sameBits m (.int ik k) (.int ik k)=true:=fun m=>by cases m<;>simp[Instr.sameBits]
  exact this 10000
 fnd:=fun k es ks w h=>by
  have key:∀(es:List MapEntry) (ks:List Int) (j:Nat),es.map (·.key)=ks.map (fun k:Int=>Value.int ik k)→
    Instr.findNow (.int ik) (.int ik k) es j=some ((ks.findIdx? (k= ·)).bind fun i=>(es[i]?).map fun e=>(j+i,e.val)):=by
   intro es
   induction es with
   |nil=>intro ks j h;cases ks<;>simp at h;simp[Instr.findNow]
   | cons e r ih =>
    intro ks j h
    cases ks with
    |nil=>simp at h
    | cons k' ks =>
     simp only[List.map_cons,List.cons.injEq]at h;simp only[Instr.findNow,h.1,Instr.sameNow,if_true,List.findIdx?_cons];by_cases c:k=k'
     ·simp[c]
     ·have:(k == k')=false:=by simpa using c
      simp only[this,ih ks (j+1) h.2,c,decide_false,Bool.false_eq_true,if_false]
      cases ks.findIdx? (k= ·)with
      |none=>simp
      |some i=>simp[Nat.add_assoc,Nat.add_comm 1]
  unfold Instr.findKey
  have:=key es ks 0 h
  simp only[Nat.zero_add]at this
  simp only[Sem.run_bind,hu.run,Result.andThen_ok,this,Sem.run_pure]
end rules
variable {oi:Oper} {ops:Array Oper} {listed:Array Bool} {fuel:Nat}
section
variable {P:Program} {ops:Array Oper} {Q:Exit→Act→World→Prop} {C:World→Prop}
def wpAnyC(P:Program)(C:World→Prop)(ops:Array Oper)(Q:Exit→Act→World→Prop)(cut:Array Bool):Nat→Array Bool→Act→World→Prop
 |0,listed,a,w=>C w∧Region.ready .any ops listed=[]∧Q .normal a w
 | fuel + 1, listed, a, w => C w ∧ if listed = cut then wpAny P .any ops Q (fuel + 1) listed a w else ((Region.ready .any ops listed = [] → Q .normal a w) ∧
  ∀i∈Region.ready .any ops listed,wpOp P ops Q i (wpAnyC P C ops Q cut fuel (listed.setIfInBounds i true)) a w)
theorem wpAnyC.any{cut:Array Bool}:∀(fuel:Nat) (listed:Array Bool) (a:Act) (w:World),wpAnyC P C ops Q cut fuel listed a w→wpAny P .any ops Q fuel listed a w
 |0,_,_,_,h=>h.2
 | fuel + 1, listed, _, _, h => by
  have h2:=h.2
  split at h2
  ·exact h2
  ·exact⟨h2.1,fun i hi=>wpOp_mono (fun a w=>wpAnyC.any fuel _ a w) (h2.2 i hi)⟩
def YieldsC(P:Program)(C:World→Prop)(ops:Array Oper)(o:Oper)(v:Value)(a:Act):Prop:=
 (Region.wanted o (yielded ops a.tmps)=true∧∀w,C w→(execOp a.eval o).run P w= .ok (.value v) w)∨
 (Region.wanted o (yielded ops a.tmps)=false∧v=undef)
theorem YieldsC.wpOp{i:Nat}{o:Oper}{v:Value}{a:Act}(hi:ops[i]?=some o)(hy:YieldsC P C ops o v a)
  {K:Act→World→Prop} {w:World} (hc:C w) (h:K (a.put o.dst v) w):wpOp P ops Q i K a w:=by
 unfold Go.wpOp;simp only[hi];rcases hy with⟨hw,hv⟩|⟨hw,rfl⟩
 ·simp only[hw,if_true,Oper.wp,hv w hc,Oper.upon];exact .inl h
 ·simp only[hw,Bool.false_eq_true,if_false];exact h
theorem YieldsC.of_same{a':Act}(hy:YieldsC P C ops o v a)(he:execOp a'.eval o=execOp a.eval o)
  (hw:Region.wanted o (yielded ops a'.tmps)=Region.wanted o (yielded ops a.tmps)):YieldsC P C ops o v a':=by
 unfold YieldsC at *;rw[he,hw];exact hy
theorem wpOp_putC{oj:Oper}(hj:ops[j]?=some oj)(hap:oi.apart ops oj=true)
  (hsi:∀cs b,oi.op≠ .select cs b) (hsj:∀cs b,oj.op≠ .select cs b)
  (hQ:∀c a w,Q (.panic c) (a.put oi.dst v) w→Q (.panic c) a w) {K:Act→World→Prop}
  (hy:YieldsC P C ops oi v a) (h:wpOp P ops Q j K (a.put oi.dst v) w) :
  wpOp P ops Q j (fun a' w'=>YieldsC P C ops oi v a'∧K (a'.put oi.dst v) w') a w:=by
 obtain⟨h1,h2,h3⟩:=Oper.apart_spec hap
 have keep:∀(a:Act),YieldsC P C ops oi v a→∀u,YieldsC P C ops oi v (a.put oj.dst u):=fun a hy u=>
  hy.of_same (execOp_put oi hsi a oj.dst u h3) (wanted_put oi a oj.dst u h3)
 have keepD:∀d,YieldsC P C ops oi v {a with defers:=d::a.defers}:=fun d=>hy.of_same rfl rfl;unfold wpOp at *
 simp only[hj]at *;rw[wanted_put oj a oi.dst v h1]at h;split
 ·rename_i hw
  simp only[hw,if_true]at h;rcases h with h|⟨hasks,hlets⟩;case inr=>exact .inr ⟨by unfold Oper.asks at *;rw[execOp_put oj hsj a oi.dst v h1]at hasks;exact hasks,hlets⟩
  refine .inl ?_;unfold Oper.wp at *;rw[execOp_put oj hsj a oi.dst v h1]at h;generalize(execOp a.eval oj).run P w=r at *
  cases r with
  | ok n w' =>
   cases n<;>simp only[Oper.upon]at h⊢
   case value u=>exact⟨keep a hy u,by rw[←Act.put_comm a v u h2];exact h⟩
   case skip=>exact⟨keep a hy _,by rw[←Act.put_comm a v undef h2];exact h⟩
   case defer d=>
    refine⟨keep _ (keepD d) _,?_⟩;rw[←Act.put_comm _ v undef h2,←Act.put_defers];exact h
   case enter f args=>
    refine Calls.mono h fun e w'' he=>?_
    cases e with
    |returned u=>exact⟨keep a hy u,by rw[←Act.put_comm a v u h2];exact he⟩
    |panicked c=>exact hQ _ _ _ he
    |outgrown=>exact he
   case row row args=>exact Rows.mono h fun u w'' he=>⟨keep a hy u,by rw[←Act.put_comm a v u h2];exact he⟩
  | halt x w' =>
   cases x<;>simp only[Oper.upon]at h⊢
   case panic u=>exact hQ _ _ _ h
 ·rename_i hw
  simp only[hw]at h;exact⟨keep a hy _,by rw[←Act.put_comm a v undef h2];exact h⟩
def closedB(ops:Array Oper)(listed:Array Bool):Bool:=(List.range ops.size).all fun k=>!listed.getD k false||match ops[k]? with
 |some o=>o.after.all fun e=>!Region.binds .any e||listed.getD e.on false
 |none=>true
def Closed(ops:Array Oper)(listed:Array Bool):Prop:=∀(k:Nat) (o:Oper),ops[k]?=some o→listed.getD k false=true→∀e∈o.after,Region.binds .any e=true→listed.getD e.on false=true
theorem closed_of(h:closedB ops listed=true):Closed ops listed:=fun k o ho hk e he hb=>by
 have hlt:k<ops.size:=(Array.getElem?_eq_some_iff.1 ho).1
 have:=List.all_eq_true.1 h k (List.mem_range.2 hlt)
 rw[ho,hk]at this
 simp only[Bool.not_true,Bool.false_or,Array.all_eq_true_iff_forall_mem]at this
 have h2:=this e he
 rw[hb]at h2
 simpa using h2
theorem Closed.put(h:Closed ops listed)(hj:j∈Region.ready .any ops listed):Closed ops (listed.setIfInBounds j true):=fun k o ho hk e he hb=>by
 obtain⟨hjun,oj,hoj,hall⟩:=mem_ready.1 hj
 have key:∀m,listed.getD m false=true→(listed.setIfInBounds j true).getD m false=true:=fun m hm=>by
  by_cases c:j=m
  ·subst c
   have:j<listed.size:=by
    rcases Nat.lt_or_ge j listed.size with h'|h'
    ·exact h'
    ·simp[Array.getElem?_eq_none h']at hm
   simp[this]
  ·rw[getD_set_ne false c];exact hm
 by_cases c:j=k
 ·subst c
  rw[hoj]at ho
  cases ho
  exact key _ (hall e he hb)
 ·rw[getD_set_ne false c]at hk
  exact key _ (h k o ho hk e he hb)
def barB(ops:Array Oper)(cut:Array Bool)(i:Nat):Bool:=
 cut.size == 0||(cut.getD i false&&(((List.range ops.size).any fun k=>!(k == i)&&cut.getD k false&&match ops[k]? with
  |some o=>o.after.any fun e=>Region.binds .any e&&e.on == i
  |none=>false)||(Region.ready .any ops (cut.setIfInBounds i false)).all fun j=>j == i||cut.getD j false))
theorem ready_false{i:Nat}(hi:i∈Region.ready .any ops listed):listed.getD i true=false:=(mem_ready.1 hi).1
theorem getD_both{l:Array Bool}{i:Nat}(h:l.getD i true=false):i<l.size∧l.getD i false=false:=by
 rcases Nat.lt_or_ge i l.size with h'|h'
 ·exact⟨h',by simpa [h']using h⟩
 ·simp[Array.getElem?_eq_none h']at h
theorem barB_ne{cut:Array Bool}{i:Nat}(h:barB ops cut i=true)(hi:i∈Region.ready .any ops listed):listed≠cut:=by
 rintro rfl;have h1:=getD_both (ready_false hi);unfold barB at h
 rw[h1.2]at h;simp at h
 have:=h1.1;rw[h]at this
 simp at this
theorem barB_two{cut:Array Bool}{i:Nat}(h:barB ops cut i=true)(hcl:Closed ops listed)(hi:i∈Region.ready .any ops listed)(hj:j∈Region.ready .any ops listed)(hji:j≠i):listed.setIfInBounds i true≠cut:=by
 intro e;have h1:=getD_both (ready_false hi);have h2:=getD_both (ready_false hj)
 have e2:cut.setIfInBounds i false=listed:=by
  rw[←e];apply Array.ext_getElem?;intro k;by_cases hk:i=k
  ·subst hk
   have:=h1.1;have h3:=h1.2
   simp[this]at h3;simp[this,h3]
  ·rw[Array.getElem?_setIfInBounds_ne hk,Array.getElem?_setIfInBounds_ne hk]
 unfold barB at h;rw[e2]at h;have hs:cut.size=listed.size:=by rw[←e];simp
 have h4:(cut.size == 0)=false:=by
  have:=h1.1;rw[beq_eq_false_iff_ne];omega
 rw[h4,Bool.false_or,Bool.and_eq_true,Bool.or_eq_true]at h;rcases h.2 with hdep|h7
 ·obtain⟨k,hk,hk2⟩:=List.any_eq_true.1 hdep;simp only[Bool.and_eq_true,Bool.not_eq_true',beq_eq_false_iff_ne]at hk2;obtain⟨⟨hki,hck⟩,hm⟩:=hk2
  have hlk:listed.getD k false=true:=by
   rw[←e,getD_set_ne false (Ne.symm hki)]at hck;exact hck
  cases ho:ops[k]? with
  |none=>rw[ho]at hm;cases hm
  | some o =>
   rw[ho]at hm;obtain⟨x,hx,hx2⟩:=Array.any_eq_true'.1 hm;simp only[Bool.and_eq_true,beq_iff_eq]at hx2
   have:=hcl k o ho hlk x hx hx2.1;rw[hx2.2,h1.2]at this
   cases this
 have h5:=List.all_eq_true.1 h7 j hj
 have h6:cut.getD j false=false:=by
  rw[←e,getD_set_ne false (Ne.symm hji)];exact h2.2
 rw[h6]at h5;simp at h5;exact hji h5
theorem wpAnyC_first{cut:Array Bool}{i:Nat}(hi:ops[i]?=some oi)(hsel:∀(j:Nat) (o:Oper) cs b,ops[j]?=some o→o.op≠ .select cs b)
  (hQ:∀c a w,Q (.panic c) (a.put oi.dst v) w→Q (.panic c) a w) (hbar:barB ops cut i=true) :
  ∀(fuel:Nat) (listed:Array Bool) (a:Act) (w:World),
   (∀j oj,ops[j]?=some oj→j≠i→listed.getD j true=false→(∀e∈oj.after,Region.binds .any e=true→e.on≠i)→oi.apart ops oj=true)→
   i∈Region.ready .any ops listed→Closed ops listed→YieldsC P C ops oi v a→
   wpAnyC P C ops Q cut fuel (listed.setIfInBounds i true) (a.put oi.dst v) w→wpAnyC P C ops Q cut (fuel+1) listed a w:=by
 intro fuel
 induction fuel with
 | zero =>
  intro listed a w _ hr hcl hy H;refine⟨H.1,?_⟩;rw[if_neg (barB_ne hbar hr)];refine⟨fun h=>(by rw[h]at hr;cases hr),fun j hj=>?_⟩;by_cases hji:j=i
  ·subst hji;exact hy.wpOp hi H.1 H
  ·have:=ready_mono hj hji;rw[H.2.1]at this
   cases this
 | succ fuel ih =>
  intro listed a w hfree hr hcl hy H;refine⟨H.1,?_⟩;rw[if_neg (barB_ne hbar hr)];refine⟨fun h=>(by rw[h]at hr;cases hr),fun j hj=>?_⟩;by_cases hji:j=i
  ·subst hji;exact hy.wpOp hi H.1 H
  ·have H2:=H.2;rw[if_neg (barB_two hbar hcl hr hj hji)]at H2
   have h1:=H2.2 j (ready_mono hj hji);obtain⟨hjun,oj,hoj,hall⟩:=mem_ready.1 hj
   have hnot:∀e∈oj.after,Region.binds .any e=true→e.on≠i:=fun e he hb heq=>by
    have h1:=hall e he hb;have h0:=(mem_ready.1 hr).1
    rw[heq]at h1;rcases Nat.lt_or_ge i listed.size with h'|h'
    ·simp[h']at h0 h1;rw[h0]at h1;cases h1
    ·simp[Array.getElem?_eq_none h']at h1
   have h2:=wpOp_putC hoj (hfree j oj hoj hji hjun hnot) (fun cs b=>hsel i oi cs b hi) (fun cs b=>hsel j oj cs b hoj) hQ hy h1
   have hfree':∀k ok,ops[k]?=some ok→k≠i→(listed.setIfInBounds j true).getD k true=false→
     (∀e∈ok.after,Region.binds .any e=true→e.on≠i)→oi.apart ops ok=true:=fun k ok hk hki hun hno=>by
    refine hfree k ok hk hki ?_ hno
    by_cases hjk:j=k
    ·subst hjk;exact hjun
    ·rw[getD_set_ne true hjk]at hun;exact hun
   refine wpOp_mono (fun a' w' h3=>ih (listed.setIfInBounds j true) a' w' hfree' (ready_mono hr (Ne.symm hji)) (hcl.put hj) h3.1 ?_) h2;rw[Array.setIfInBounds_comm _ _ hji];exact h3.2
theorem wpAnyC_take{cut:Array Bool}{i:Nat}(hi:ops[i]?=some oi)
  (hs:Region.noSelect ops=true) (hf:Region.free .any ops listed i=true) (hbar:barB ops cut i=true) (hcl:closedB ops listed=true) (hr:(Region.ready .any ops listed).contains i=true)
  (hQ:∀c a w,Q (.panic c) (a.put oi.dst v) w→Q (.panic c) a w) (hy:YieldsC P C ops oi v a)
  (h:wpAnyC P C ops Q cut fuel (listed.setIfInBounds i true) (a.put oi.dst v) w):wpAnyC P C ops Q cut (fuel+1) listed a w:=
 wpAnyC_first hi (Region.noSelect_spec hs) hQ hbar fuel listed a w (Region.free_spec hi hf) (by simpa using hr) (closed_of hcl) hy h
theorem wpAnyC_one{cut:Array Bool}{i:Nat}(hr:Region.ready .any ops listed=[i])(hne:listed≠cut)(hc:C w)
  (h:wpOp P ops Q i (wpAnyC P C ops Q cut fuel (listed.setIfInBounds i true)) a w):wpAnyC P C ops Q cut (fuel+1) listed a w:=by
 refine⟨hc,?_⟩;rw[if_neg hne];exact⟨(fun h0=>by rw[hr]at h0;simp at h0),(fun j hj=>by rw[hr]at hj;simp at hj;subst hj;exact h)⟩
end
structure Lst where
 a:Array Bool
 cut:Array Bool
 left:Nat
 /-- The rest is gone through otherwise. -/
 opn:Bool
def Lst.setIfInBounds(l:Lst)(i:Nat)(b:Bool):Lst:=⟨l.a.setIfInBounds i b,l.cut,l.left,l.opn⟩
def ordOK(ops:Array Oper):Lst→List (Nat×Bool)→Bool
 | listed, [] => match listed.opn with
  |true=>true
  | false => match listed.left with
   |0=>Region.ready .any ops listed.a == []
   |_+1=>listed.a == listed.cut
 |listed,(i,true)::r=>Region.ready .any ops listed.a == [i]&&(listed.a !=listed.cut)&&ordOK ops (listed.setIfInBounds i true) r
 |listed,(i,false)::r=>(Region.ready .any ops listed.a).contains i&&Region.free .any ops listed.a i&&barB ops listed.cut i&&closedB ops listed.a&&ordOK ops (listed.setIfInBounds i true) r
def pickOps(l:List Oper):List (Nat×Bool)→List Oper
 | []=>[]
 | (i, _) :: r => match getO l i with
  |some o=>o::pickOps l r
  |none=>[]
def Post.blind(P:Program)(q:Post):Prop:=∀(c:List PanicEntry) (a:Act) (dst:Option Tmp) (v:Value) (w:World),q.den P (.panic c) (a.put dst v) w→q.den P (.panic c) a w
structure Ext where
 listed:Lst
 todo:List (Nat×Bool)
structure HQ(V:List HP)(ξ:Ext)(P:Program)(base:World)(n:Nat)(L:Env)(f:Frag)(S:List HP)(K:Kont):Prop where
 out:∀l q,K= .ops l (pickOps l ξ.todo) q→Region.noSelect l.toArray=true→q.blind P→ordOK l.toArray ξ.listed ξ.todo=true→(∀t∈ξ.todo,(getO l t.1).isSome)→
  ∀a w,Fr n a L→Sat base w f (S++V)→wpAnyC P (fun w=>∃V,Sat base w f (S++V)) l.toArray (q.den P) ξ.listed.cut (ξ.todo.length+ξ.listed.left) ξ.listed.a a w
variable {B S V:List HP} {ti:Nat} {tt:List (Nat × Bool)}
section rules
variable {P:Program} {base:World} {n:Nat} {L:Env} {f:Frag} {A V:List HP} {q:Post} {ξ:Ext}
variable {l rest:List Oper} {d:Nat} {ty:TypeId} {pos:String} {af:Array Edge} {gd:Option (Nat × Bool)}
theorem sat_left(s:Sat base w f (A++B)):Sat base w f A:=by
 obtain⟨a1,a2,a3,a4,a5,m,hm,hd,hw⟩:=s;rw[zcg]at hm;obtain⟨m1,m2,dj,rfl,h1,_⟩:=hm;exact⟨a1,a2,a3,a4,a5,m1,h1,(Dj.un_right.1 hd).1,fun k o hk=>hw k o (by simp[un,hk])⟩
theorem HQ.opV{op:Op}(hw:want? l L gd=true)(hd:Nat.ble (d+1) n=true)
  (hx:∀a w,Fr n a L→Sat base w f A→(execOp a.eval ⟨some d,op,ty,pos,af,gd⟩).run P w= .ok (.value v) w)
  {ls:Lst}
  (k:HQ V ⟨ls.setIfInBounds ti true,tt⟩ P base n ((d,v)::L) f A (.ops l rest q)):HQ V ⟨ls,(ti,false)::tt⟩ P base n L f A (.ops l (⟨some d,op,ty,pos,af,gd⟩::rest) q):=.mk fun l' q' hK hs hb ho hg a w hf s=>by
 simp only[Kont.ops.injEq]at hK
 obtain⟨rfl,hp,rfl⟩:=hK
 have hgi:=hg (ti,false) jK
 cases hgo:getO l ti with
 |none=>simp[hgo]at hgi
 | some o =>
  simp only[pickOps,hgo,List.cons.injEq]at hp
  obtain⟨ho1,hp2⟩:=hp
  simp only[ordOK,Bool.and_eq_true]at ho
  have hk:=k.out l q (by rw[hp2]) hs hb ho.2 (fun t' ht=>hg t' kP) _ w (hf.put (Nat.le_of_ble_eq_true hd) v) s
  subst ho1
  rw[show((ti,false)::tt).length+ls.left=(tt.length+ls.left)+1 by simp only[List.length_cons];omega]
  exact wpAnyC_take (oi:=⟨some d,op,ty,pos,af,gd⟩) (v:=v) kD hs ho.1.1.1.2 ho.1.1.2 ho.1.2 ho.1.1.1.1 (fun c a w h=>hb c a _ _ w h) (.inl ⟨hf.want hw,fun w' ⟨V',s'⟩=>hx a w' hf (sat_left s')⟩) hk
theorem HQ.pass{op:Op}(hw:skip? l L gd=true)(hd:Nat.ble (d+1) n=true){ls:Lst}
  (k:HQ V ⟨ls.setIfInBounds ti true,tt⟩ P base n ((d,.tuple #[])::L) f A (.ops l rest q)):HQ V ⟨ls,(ti,false)::tt⟩ P base n L f A (.ops l (⟨some d,op,ty,pos,af,gd⟩::rest) q):=.mk fun l' q' hK hs hb ho hg a w hf s=>by
 simp only[Kont.ops.injEq]at hK
 obtain⟨rfl,hp,rfl⟩:=hK
 have hgi:=hg (ti,false) jK
 cases hgo:getO l ti with
 |none=>simp[hgo]at hgi
 | some o =>
  simp only[pickOps,hgo,List.cons.injEq]at hp
  obtain⟨ho1,hp2⟩:=hp
  simp only[ordOK,Bool.and_eq_true]at ho
  have hk:=k.out l q (by rw[hp2]) hs hb ho.2 (fun t' ht=>hg t' kP) _ w (hf.put (Nat.le_of_ble_eq_true hd) _) s
  subst ho1
  rw[show((ti,false)::tt).length+ls.left=(tt.length+ls.left)+1 by simp only[List.length_cons];omega]
  exact wpAnyC_take (oi:=⟨some d,op,ty,pos,af,gd⟩) (v:=undef) kD hs ho.1.1.1.2 ho.1.1.2 ho.1.2 ho.1.1.1.1 (fun c a w h=>hb c a _ _ w h) (.inr ⟨hf.skip hw,rfl⟩) hk
def backPost(P:Program)(base:World)(f:Frag)(S:List HP)(ξ:Ext)(l:List Oper)(q:Post):Exit→Act→World→Prop
 | .normal,a,w=>wpAnyC P (fun w=>∃V,Sat base w f (S++V)) l.toArray (q.den P) ξ.listed.cut (ξ.todo.length+ξ.listed.left) ξ.listed.a a w
 |e,a,w=>q.den P e a w
theorem upon_mono{K K':Act→World→Prop}{Q Q':Exit→Act→World→Prop}(h:∀a w,K a w→K' a w)(hq:∀c a w,Q (.panic c) a w→Q' (.panic c) a w)(ho:∀a w,Q .outgrown a w→Q' .outgrown a w)
  (hh:o.wp P a w K Q):o.wp P a w K' Q':=by
 unfold Oper.wp at *;generalize(execOp a.eval o).run P w=r at *
 cases r with
 | ok n w' =>
  cases n<;>simp only[Oper.upon]at hh⊢
  case value=>exact h _ _ hh
  case skip=>exact h _ _ hh
  case defer=>exact h _ _ hh
  case enter=>
   refine Calls.mono hh fun e w'' he=>?_
   cases e with
   |returned v=>exact h _ _ he
   |panicked c=>exact hq _ _ _ he
   |outgrown=>obtain⟨x,y,z⟩:=he;exact⟨x,y,ho _ _ z⟩
  case row=>exact Rows.mono hh fun _ _ he=>h _ _ he
 | halt x w' =>
  cases x<;>simp only[Oper.upon]at hh⊢
  exact hq _ _ _ hh
def evPost(P:Program)(base:World)(f:Frag)(S:List HP)(ξ:Ext)(l rest:List Oper)(q:Post)(e:Exit)(a:Act)(w:World):Prop:=
 Region.noSelect l.toArray=true→q.blind P→ordOK l.toArray ξ.listed ξ.todo=true→(∀t∈ξ.todo,(getO l t.1).isSome)→rest=pickOps l ξ.todo→backPost P base f S ξ l q e a w
theorem HQ.event{ls:Lst}{i:Nat}{t:List (Nat×Bool)}
  (k:H P base n L f (A++V) (.ops l [o] (.fn (evPost P base f A ⟨ls.setIfInBounds i true,t⟩ l rest q)))) :
  HQ V ⟨ls,(i,true)::t⟩ P base n L f A (.ops l (o::rest) q):=.mk fun l' q' hK hs hb ho hg a w hf s=>by
 simp only[Kont.ops.injEq]at hK
 obtain⟨rfl,hp,rfl⟩:=hK
 have hgi:=hg (i,true) jK
 cases hgo:getO l i with
 |none=>simp[hgo]at hgi
 | some o' =>
  simp only[pickOps,hgo,List.cons.injEq]at hp
  obtain⟨rfl,hp2⟩:=hp
  simp only[ordOK,Bool.and_eq_true]at ho
  have hk:=k.out a w hf s
  have hr:Region.ready .any l.toArray ls.a=[i]:=by simpa using ho.1.1
  have hne:ls.a≠ls.cut:=by simpa using ho.1.2
  rw[show((i,true)::t).length+ls.left=(t.length+ls.left)+1 by simp only[List.length_cons];omega]
  refine wpAnyC_one hr hne ⟨V,s⟩ ?_
  have h2:∀t'∈t,(getO l t'.1).isSome:=fun t' ht=>hg t' kP
  unfold wpOp
  rw[List.getElem?_toArray,←getO_eq,hgo]
  show if Region.wanted o (yielded l.toArray a.tmps)=true then _ else _
  have hk':wpList P l.toArray (evPost P base f A ⟨ls.setIfInBounds i true,t⟩ l rest q) [o] a w:=hk
  simp only[wpList]at hk'
  have e1:∀a w,evPost P base f A ⟨ls.setIfInBounds i true,t⟩ l rest q .normal a w→
    wpAnyC P (fun w=>∃V,Sat base w f (A++V)) l.toArray (q.den P) ls.cut (t.length+ls.left) (ls.a.setIfInBounds i true) a w:=fun a w h=>h hs hb ho.2 h2 hp2
  by_cases hw:Region.wanted o (yielded l.toArray a.tmps)=true
  ·rw[if_pos hw]at hk'⊢
   rcases hk' with h|⟨hasks,x,y,z⟩
   ·exact .inl (upon_mono e1 (fun c a w h=>h hs hb ho.2 h2 hp2) (fun a w h=>h hs hb ho.2 h2 hp2) h)
   ·exact .inr ⟨hasks,x,y,z hs hb ho.2 h2 hp2⟩
  ·rw[if_neg hw]at hk'⊢
   exact e1 _ _ hk'
theorem H.back{V':List HP}(hB:B=A++V')(k:HQ V' ξ P base n L f A (.ops l rest q)):H P base n L f B (.out .normal (.fn (evPost P base f A ξ l rest q))):=.mk fun a w hf s hs hb h1 h2 h3=>by
 subst hB;subst h3
 exact k.out l q rfl hs hb h1 h2 a w hf s
theorem HQ.nil{a cut:Array Bool}(k:H P base n L f (A++V) (.out .normal q)):HQ V ⟨⟨a,cut,0,false⟩,[]⟩ P base n L f A (.ops l [] q):=.mk fun l' q' hK hs hb ho hg a w hf s=>by
 simp only[Kont.ops.injEq]at hK
 obtain⟨rfl,hp,rfl⟩:=hK
 exact⟨⟨V,s⟩,by simpa [ordOK]using ho,k.out a w hf s⟩
theorem HQ.done{ls:Lst}(h0:(ls.left,ls.opn)=(0,false))(k:H P base n L f (A++V) (.out .normal q)):HQ V ⟨ls,[]⟩ P base n L f A (.ops l [] q):=by
 obtain⟨a,cut,left,opn⟩:=ls;simp only[Prod.mk.injEq]at h0;obtain⟨rfl,rfl⟩:=h0;exact HQ.nil k
def lstAfter(a:Array Bool)(t:List (Nat×Bool)):Array Bool:=t.foldl (fun a x=>a.setIfInBounds x.1 true) a
def cutOf(a:Array Bool)(t:List (Nat×Bool)):Nat→Array Bool
 |0=>#[]
 |_+1=>lstAfter a t
def qt:Nat→Nat→List (Nat×Bool)
 |0,_=>[]
 |n+1,k=>(k,false)::qt n (k+1)
theorem H.drawP(todo:List (Nat×Bool))(left:Nat)(hm:P.follows .mixedOrders=true)(hn:(Region.noSelect l.toArray&&ordOK l.toArray ⟨Array.replicate l.length false,cutOf (Array.replicate l.length false) todo left,left,false⟩ todo&&todo.all (fun t=>(getO l t.1).isSome)&&(todo.length+left == l.length))=true)(hb:q.blind P)(hB:B=S++V)(k:HQ V ⟨⟨Array.replicate l.length false,cutOf (Array.replicate l.length false) todo left,left,false⟩,todo⟩ P base n L f S (.ops l (pickOps l todo) q)):H P base n L f B (.code (.region id l.toArray true) q):=.mk fun a w hf s=>by
 simp only[Bool.and_eq_true,List.all_eq_true,beq_iff_eq]at hn
 obtain⟨⟨⟨h1,h2⟩,h3⟩,h4⟩:=hn
 refine wp_region_any hm ?_
 subst hB
 have s':Sat base {w with drawn:=w.drawn+1} f (S++V):=s.same rfl rfl rfl rfl
 have:=k.out l q rfl h1 hb h2 h3 a _ hf s'
 simp only[h4]at this
 simpa using wpAnyC.any _ _ _ _ this
theorem H.draw(todo:List (Nat×Bool))(hm:P.follows .mixedOrders=true)(hn:(Region.noSelect l.toArray&&ordOK l.toArray ⟨Array.replicate l.length false,#[],0,false⟩ todo&&todo.all (fun t=>(getO l t.1).isSome)&&(todo.length == l.length))=true)(hb:q.blind P)(hB:B=S++V)(k:HQ V ⟨⟨Array.replicate l.length false,#[],0,false⟩,todo⟩ P base n L f S (.ops l (pickOps l todo) q)):H P base n L f B (.code (.region id l.toArray true) q):=
 H.drawP todo 0 hm hn hb hB k
theorem H.drawQ(hm:P.follows .mixedOrders=true)(hn:(Region.noSelect l.toArray&&ordOK l.toArray ⟨Array.replicate l.length false,#[],0,false⟩ (qt l.length 0)&&(qt l.length 0).all (fun t=>(getO l t.1).isSome)&&((qt l.length 0).length == l.length))=true)(hb:q.blind P)
  (k:HQ [] ⟨⟨Array.replicate l.length false,#[],0,false⟩,qt l.length 0⟩ P base n L f A (.ops l (pickOps l (qt l.length 0)) q)):H P base n L f A (.code (.region id l.toArray true) q):=
 H.draw _ hm hn hb (List.append_nil A).symm k
theorem HQ.done0{ls:Lst}(h0:(ls.left,ls.opn)=(0,false))(k:H P base n L f A (.out .normal q)):HQ [] ⟨ls,[]⟩ P base n L f A (.ops l [] q):=HQ.done h0 (by rw[List.append_nil];exact k)
theorem zad:(Post.fn (FnPost P fn base R)).blind P:=fun c a dst v w h=>by
 obtain⟨h1,h2⟩:=h
 exact⟨by cases dst<;>simpa [Act.put]using h1,h2⟩
theorem zab{y:Code}(h:q.blind P):(Post.seq y q).blind P:=fun c a dst v w h'=>h c a dst v w h'
theorem zah(h:q.blind P):(Post.block id q).blind P:=fun c a dst v w h'=>h c a dst v w h'
theorem zak(h:q.blind P):(Post.loop I q).blind P:=fun c a dst v w h'=>h c a dst v w h'
structure HS(tl:List Oper)(P:Program)(base:World)(n:Nat)(L:Env)(f:Frag)(A:List HP)(K:Kont):Prop where
 out:∀l rest q,K= .ops l rest q→∀a w,Fr n a L→Sat base w f A→wpStill P l.toArray w (fun a'=>wpList P l.toArray (q.den P) tl a' w) rest a
variable {tl:List Oper}
theorem HS.opV{op:Op}(hw:want? l L gd=true)(hd:Nat.ble (d+1) n=true)
  (hx:∀a w,Fr n a L→Sat base w f A→(execOp a.eval ⟨some d,op,ty,pos,af,gd⟩).run P w= .ok (.value v) w)
  (k:HS tl P base n ((d,v)::L) f A (.ops l rest q)):HS tl P base n L f A (.ops l (⟨some d,op,ty,pos,af,gd⟩::rest) q):=.mk fun l' r' q' hK a w hf s=>by
 simp only[Kont.ops.injEq]at hK
 obtain⟨rfl,rfl,rfl⟩:=hK
 unfold wpStill
 rw[if_pos (hf.want (o:=⟨some d,op,ty,pos,af,gd⟩) hw)]
 unfold Oper.still
 rw[hx a w hf s]
 exact⟨rfl,k.out l rest q rfl _ _ (hf.put (Nat.le_of_ble_eq_true hd) v) s⟩
theorem HS.done(k:H P base n L f A (.ops l tl q)):HS tl P base n L f A (.ops l [] q):=.mk fun l' r' q' hK a w hf s=>by
 simp only[Kont.ops.injEq]at hK
 obtain⟨rfl,rfl,rfl⟩:=hK
 exact k.out a w hf s
def tk:Nat→List Oper→List Oper
 |0,_=>[]
 |_,[]=>[]
 |n+1,o::r=>o::tk n r
def dr:Nat→List Oper→List Oper
 |0,l=>l
 |_+1,[]=>[]
 |n+1,_::r=>dr n r
theorem tk_eq:∀(k:Nat) (l:List Oper),tk k l=l.take k
 |0,l=>by simp[tk]
 |k+1,[]=>by simp[tk]
 |k+1,o::r=>by simp[tk,tk_eq k r]
theorem dr_eq:∀(k:Nat) (l:List Oper),dr k l=l.drop k
 |0,l=>by simp[dr]
 |k+1,[]=>by simp[dr]
 |k+1,o::r=>by simp[dr,dr_eq k r]
theorem H.drawT(m:Nat)(hm:P.follows .mixedOrders=true)(hB:Region.lexTailB .any l.toArray m=true)
  (k:HS (dr m l) P base n L f A (.ops l (tk m l) q)):H P base n L f A (.code (.region id l.toArray true) q):=.mk fun a w hf s=>
 wp_region_still_tail m hm hB (by
  have:=k.out l (tk m l) q rfl a {w with drawn:=w.drawn+1} hf (s.same rfl rfl rfl rfl)
  rw[tk_eq,dr_eq]at this
  exact this)
variable {κ:Type} [DecidableEq κ] {enc:κ→Value}
theorem HQ.Bh{e:Nat}{u:Value}(hv:look? L e=some v)(he:v=u)(h:HQ V ξ P base n ((e,u)::L) f A K):HQ V ξ P base n L f A K:=.mk fun l q hK hs hb ho hg a w hf s=>by
 exact h.out l q hK hs hb ho hg a w (hf.know hv he) s
theorem HQ.gset{b:Bool}{c:Bool}{e:Nat}{t1:TypeId}(hg:o.guard=some (j,b))(hj:getO l j=some ⟨some e,p1,t1,q1,a1,g1⟩)(hv:look? L e=some (.bool c))(ht:c=true→HQ V ξ P base n ((e,.bool true)::L) f A (.ops l (o::rest) q))
  (hf:c=false→HQ V ξ P base n ((e,.bool false)::L) f A (.ops l (o::rest) q)):HQ V ξ P base n L f A (.ops l (o::rest) q):=by
 have _:=hg;have _:=hj
 cases c with
 |true=>exact HQ.Bh hv rfl (ht rfl)
 |false=>exact HQ.Bh hv rfl (hf rfl)
theorem HQ.Aw(hw:want? l L gd=true)(hx:ev? L x=some v)(hd:Nat.ble (d+1) n=true){lst:Lst}
  (k:HQ V ⟨lst.setIfInBounds ti true,tt⟩ P base n ((d,v)::L) f A (.ops l rest q)):HQ V ⟨lst,(ti,false)::tt⟩ P base n L f A (.ops l (⟨some d,.move x,ty,pos,af,gd⟩::rest) q):=
 HQ.opV hw hd (fun a w hf _=>by simp[execOp,hf.eval hx]) k
theorem HQ.Be(hw:want? l L gd=true)(hx:ev? L x=some v)(hd:Nat.ble (d+1) n=true){lst:Lst}
  (k:HQ V ⟨lst.setIfInBounds ti true,tt⟩ P base n ((d,v)::L) f A (.ops l rest q)):HQ V ⟨lst,(ti,false)::tt⟩ P base n L f A (.ops l (⟨some d,.assign x,ty,pos,af,gd⟩::rest) q):=
 HQ.opV hw hd (fun a w hf _=>by simp[execOp,hf.eval hx]) k
theorem HQ.pickT{c:Operand}(hw:want? l L gd=true)(hc:ev? L c=some (.bool true))(hx:ev? L x=some v)(hd:Nat.ble (d+1) n=true){lst:Lst}
  (k:HQ V ⟨lst.setIfInBounds ti true,tt⟩ P base n ((d,v)::L) f A (.ops l rest q)):HQ V ⟨lst,(ti,false)::tt⟩ P base n L f A (.ops l (⟨some d,.pick c x y,ty,pos,af,gd⟩::rest) q):=
 HQ.opV hw hd (fun a w hf _=>by simp[execOp,hf.eval hx,hf.eval hc,asBool]) k
theorem HQ.pickF{c:Operand}(hw:want? l L gd=true)(hc:ev? L c=some (.bool false))(hx:ev? L y=some v)(hd:Nat.ble (d+1) n=true){lst:Lst}
  (k:HQ V ⟨lst.setIfInBounds ti true,tt⟩ P base n ((d,v)::L) f A (.ops l rest q)):HQ V ⟨lst,(ti,false)::tt⟩ P base n L f A (.ops l (⟨some d,.pick c x y,ty,pos,af,gd⟩::rest) q):=
 HQ.opV hw hd (fun a w hf _=>by simp[execOp,hf.eval hx,hf.eval hc,asBool]) k
theorem HQ.Bd{p:Addr}(hw:want? l L gd=true)(hx:ev? L x=some (.pointer (some p)))(hd:Nat.ble (d+1) n=true){lst:Lst}
  (k:HQ V ⟨lst.setIfInBounds ti true,tt⟩ P base n ((d,.pointer (some p))::L) f A (.ops l rest q)):HQ V ⟨lst,(ti,false)::tt⟩ P base n L f A (.ops l (⟨some d,.nilCheck x,ty,pos,af,gd⟩::rest) q):=
 HQ.opV hw hd (fun a w hf _=>by simp[execOp,hf.eval hx]) k
theorem HQ.cmp{k:IntKind}{p:Int}{b:Bool}(hw:want? l L gd=true)(hx:ev? L x=some (.int k p))(hy:ev? L y=some (.int k p2))(hc:cmpP op p p2=some b)(hd:Nat.ble (d+1) n=true){lst:Lst}
  (kk:HQ V ⟨lst.setIfInBounds ti true,tt⟩ P base n ((d,.bool b)::L) f A (.ops l rest q)):HQ V ⟨lst,(ti,false)::tt⟩ P base n L f A (.ops l (⟨some d,.binOp op xt x y yt,ty,pos,af,gd⟩::rest) q):=
 HQ.opV hw hd (fun a w hf _=>by
  cases op<;>simp only[cmpP,Option.some.injEq,reduceCtorEq]at hc<;>subst hc<;>
   simp[execOp,eqGuard,binOp,Op.intCmp,hf.eval hx,hf.eval hy]<;>by_cases e:p=p2<;>simp[e]) kk
theorem HQ.ar{k:IntKind}{p:Int}(hw:want? l L gd=true)(hx:ev? L x=some (.int k p))(hy:ev? L y=some (.int k p2))(hc:arP op k p p2=some r)(hz:r=z)(hd:Nat.ble (d+1) n=true){lst:Lst}
  (kk:HQ V ⟨lst.setIfInBounds ti true,tt⟩ P base n ((d,.int k z)::L) f A (.ops l rest q)):HQ V ⟨lst,(ti,false)::tt⟩ P base n L f A (.ops l (⟨some d,.binOp op xt x y yt,ty,pos,af,gd⟩::rest) q):=
 HQ.opV hw hd (fun a w hf _=>by
  cases op<;>simp only[arP,Option.some.injEq,reduceCtorEq]at hc<;>subst hc<;>subst hz<;>
   simp[execOp,eqGuard,binOp,Op.intArith,hf.eval hx,hf.eval hy]) kk
theorem HQ.quo{k:IntKind}{p:Int}(hw:want? l L gd=true)(hx:ev? L x=some (.int k p))(hy:ev? L y=some (.int k p2))(h0:p2≠0)(hz:k.wrap (p.tdiv p2)=z)(hd:Nat.ble (d+1) n=true){lst:Lst}
  (kk:HQ V ⟨lst.setIfInBounds ti true,tt⟩ P base n ((d,.int k z)::L) f A (.ops l rest q)):HQ V ⟨lst,(ti,false)::tt⟩ P base n L f A (.ops l (⟨some d,.binOp .quo xt x y yt,ty,pos,af,gd⟩::rest) q):=
 HQ.opV hw hd (fun a w hf _=>by subst hz;simp[execOp,eqGuard,binOp,Op.intDiv,hf.eval hx,hf.eval hy,h0]) kk
theorem HQ.rem{k:IntKind}{p:Int}(hw:want? l L gd=true)(hx:ev? L x=some (.int k p))(hy:ev? L y=some (.int k p2))(h0:p2≠0)(hz:p.tmod p2=z)(hd:Nat.ble (d+1) n=true){lst:Lst}
  (kk:HQ V ⟨lst.setIfInBounds ti true,tt⟩ P base n ((d,.int k z)::L) f A (.ops l rest q)):HQ V ⟨lst,(ti,false)::tt⟩ P base n L f A (.ops l (⟨some d,.binOp .rem xt x y yt,ty,pos,af,gd⟩::rest) q):=
 HQ.opV hw hd (fun a w hf _=>by subst hz;simp[execOp,eqGuard,binOp,Op.intDiv,hf.eval hx,hf.eval hy,h0]) kk
theorem HQ.ptrNil{p:Option Addr}{b:Bool}[hu:Und P xt (.pointer e)](hw:want? l L gd=true)(hx:ev? L x=some (.pointer p))(hy:ev? L y=some (.pointer none))(hb:nilP op p=some b)(hd:Nat.ble (d+1) n=true){lst:Lst}
  (kk:HQ V ⟨lst.setIfInBounds ti true,tt⟩ P base n ((d,.bool b)::L) f A (.ops l rest q)):HQ V ⟨lst,(ti,false)::tt⟩ P base n L f A (.ops l (⟨some d,.binOp op xt x y yt,ty,pos,af,gd⟩::rest) q):=
 HQ.opV hw hd (fun a w hf _=>by
  refine run_bin _ ?_ ?_
  ·rw[hf.eval hx,hf.eval hy];exact run_guard_ptr _ _ _ _ _ _ _
  ·rw[hf.eval hx,hf.eval hy]
   have e1:Sem.run P (do pure (Value.bool (←Op.equal xt (.pointer p) (.pointer none)))) w= .ok (.bool p.isNone) w:=by simp[run_equal_pn hu]
   have e2:Sem.run P (do pure (Value.bool (!(←Op.equal xt (.pointer p) (.pointer none))))) w= .ok (.bool (!p.isNone)) w:=by simp[run_equal_pn hu]
   cases op<;>cases p<;>simp only[nilP,Option.some.injEq,reduceCtorEq]at hb<;>subst hb<;>first|exact e1|exact e2) kk
theorem HQ.not{b c:Bool}(hw:want? l L gd=true)(hx:ev? L x=some (.bool b))(hb:(!b)=c)(hd:Nat.ble (d+1) n=true){lst:Lst}
  (k:HQ V ⟨lst.setIfInBounds ti true,tt⟩ P base n ((d,.bool c)::L) f A (.ops l rest q)):HQ V ⟨lst,(ti,false)::tt⟩ P base n L f A (.ops l (⟨some d,.unOp .not xt x,ty,pos,af,gd⟩::rest) q):=
 HQ.opV hw hd (fun a w hf _=>by subst hb;simp[execOp,Op.unary,hf.eval hx]) k
theorem HQ.Bk{s:TypeId}{i j:IntKind}{p:Int}[hs:Und P s ds][ht:Und P t (.int j)](hw:want? l L gd=true)(hx:ev? L x=some (.int i p))(hz:j.wrap p=z)(hd:Nat.ble (d+1) n=true){lst:Lst}
  (k:HQ V ⟨lst.setIfInBounds ti true,tt⟩ P base n ((d,.int j z)::L) f A (.ops l rest q)):HQ V ⟨lst,(ti,false)::tt⟩ P base n L f A (.ops l (⟨some d,.convert s t x,ty,pos,af,gd⟩::rest) q):=
 HQ.opV hw hd (fun a w hf _=>by
  subst hz
  have h1:=hs.run w
  have h2:=ht.run w
  simp only[execOp,convert,hf.eval hx,Sem.run_bind,h1,h2,Result.andThen_ok]
  cases ds<;>simp[Conv.intToInt]) k
theorem HQ.Cg{i:Nat}(hw:want? l L gd=true)(hx:ev? L x=some (.tuple vs.toArray))(hv:nthV vs i=some v)(hd:Nat.ble (d+1) n=true){lst:Lst}
  (k:HQ V ⟨lst.setIfInBounds ti true,tt⟩ P base n ((d,v)::L) f A (.ops l rest q)):HQ V ⟨lst,(ti,false)::tt⟩ P base n L f A (.ops l (⟨some d,.extract x i,ty,pos,af,gd⟩::rest) q):=
 HQ.opV hw hd (fun a w hf _=>by
  rw[nthV_eq]at hv
  simp[execOp,Instr.extract,hf.eval hx,hv]) k
theorem HQ.gdec{b:Bool}{e:Nat}{t1:TypeId}{_:Decidable p}(hg:o.guard=some (j,b))(hj:getO l j=some ⟨some e,p1,t1,q1,a1,g1⟩)(hv:look? L e=some (.bool (decide p)))
  (ht:p→HQ V ξ P base n ((e,.bool true)::L) f A (.ops l (o::rest) q)) (hf:¬p→HQ V ξ P base n ((e,.bool false)::L) f A (.ops l (o::rest) q)):HQ V ξ P base n L f A (.ops l (o::rest) q):=
 HQ.gset hg hj hv (fun h=>ht (of_decide_eq_true h)) (fun h=>hf (of_decide_eq_false h))
theorem HQ.gyes{b:Bool}{e:Nat}{t1:TypeId}{_:Decidable p}(hg:o.guard=some (j,b))(hj:getO l j=some ⟨some e,p1,t1,q1,a1,g1⟩)(hv:look? L e=some (.bool (decide p)))
  (hp:p) (ht:HQ V ξ P base n ((e,.bool true)::L) f A (.ops l (o::rest) q)):HQ V ξ P base n L f A (.ops l (o::rest) q):=
 HQ.gdec hg hj hv (fun _=>ht) (fun h=>absurd hp h)
theorem HQ.gno{b:Bool}{e:Nat}{t1:TypeId}{_:Decidable p}(hg:o.guard=some (j,b))(hj:getO l j=some ⟨some e,p1,t1,q1,a1,g1⟩)(hv:look? L e=some (.bool (decide p)))
  (hp:¬p) (hf:HQ V ξ P base n ((e,.bool false)::L) f A (.ops l (o::rest) q)):HQ V ξ P base n L f A (.ops l (o::rest) q):=
 HQ.gdec hg hj hv (fun h=>absurd h hp) (fun _=>hf)
theorem HQ.Bn{i:Nat}[hu:Und P st (.struct fs.toArray)](hw:want? l L gd=true)
  (hx:ev? L x=some (.pointer (some ⟨b,off,none⟩))) (hf:nthF fs i=some ⟨nm,ft,fo,em,tg,pk,bo⟩) (hs:Siz P ft (m+1)) (hd:Nat.ble (d+1) n=true) {lst:Lst}
  (k:HQ V ⟨lst.setIfInBounds ti true,tt⟩ P base n ((d,.pointer (some ⟨b,off+fo,none⟩))::L) f A (.ops l rest q)):HQ V ⟨lst,(ti,false)::tt⟩ P base n L f A (.ops l (⟨some d,.fieldAddr st x i,ty,pos,af,gd⟩::rest) q):=
 HQ.opV hw hd (fun a w hfr _=>by
  rw[nthF_eq]at hf
  simp[execOp,Instr.fieldAt,hfr.eval hx,hu.run,hf,Instr.sureAddr,fieldPlace,hs.run,zba]) k
theorem HQ.Ab[hu:Und P t dd](hw:want? l L gd=true)(hx:ev? L x=some (.pointer (some ⟨b,off,none⟩)))(ha:aggD dd=false)
  (hr:Rd1 f A b off v) (hd:Nat.ble (d+1) n=true) {lst:Lst}
  (k:HQ V ⟨lst.setIfInBounds ti true,tt⟩ P base n ((d,v)::L) f A (.ops l rest q)):HQ V ⟨lst,(ti,false)::tt⟩ P base n L f A (.ops l (⟨some d,.load t x,ty,pos,af,gd⟩::rest) q):=
 HQ.opV hw hd (fun a w hfr s=>by simp[execOp,hfr.eval hx,run_loadAt1 hu ha (hr base w s)]) k
theorem HQ.Ad[hu:Und P t dd][hs:Siz P t m](hw:want? l L gd=true)(hx:ev? L x=some (.pointer (some ⟨b,off,none⟩)))(ha:aggD dd=true)
  (hr:Rd f A b off ls) (hm:ls.length=m) (hd:Nat.ble (d+1) n=true) {lst:Lst}
  (k:HQ V ⟨lst.setIfInBounds ti true,tt⟩ P base n ((d,.agg ls.toArray)::L) f A (.ops l rest q)):HQ V ⟨lst,(ti,false)::tt⟩ P base n L f A (.ops l (⟨some d,.load t x,ty,pos,af,gd⟩::rest) q):=
 HQ.opV hw hd (fun a w hfr s=>by simp[execOp,hfr.eval hx,run_loadAtN hu ha hs (hr base w s) hm]) k
theorem HQ.Bi{p:Option Addr}[hu:Und P t (.slice e)](hw:want? l L gd=true)(hx:ev? L x=some (.slice p m c))(hd:Nat.ble (d+1) n=true){lst:Lst}
  (k:HQ V ⟨lst.setIfInBounds ti true,tt⟩ P base n ((d,.int .i64 (m:Nat))::L) f A (.ops l rest q)):HQ V ⟨lst,(ti,false)::tt⟩ P base n L f A (.ops l (⟨some d,.call ⟨.builtin .len,#[x],#[t]⟩,ty,pos,af,gd⟩::rest) q):=
 HQ.opV hw hd (fun a w hfr _=>by
  simp[execOp,resolve,invoke,builtin,Builtin.len_,hfr.eval hx,hu.run,goInt]) k
theorem HQ.Ak{i:Nat}[hu:Und P t (.slice e)][hs:Siz P e sz](hw:want? l L gd=true)
  (hx:ev? L x=some (.slice (some ⟨b,off,none⟩) m c)) (hy:ev? L y=some (.int ik z)) (hq:z=(i:Nat)) (hi:i<m) (hd:Nat.ble (d+1) n=true) {lst:Lst}
  (k:HQ V ⟨lst.setIfInBounds ti true,tt⟩ P base n ((d,.pointer (some ⟨b,off+i*sz,none⟩))::L) f A (.ops l rest q)):HQ V ⟨lst,(ti,false)::tt⟩ P base n L f A (.ops l (⟨some d,.indexAddr t x y,ty,pos,af,gd⟩::rest) q):=
 HQ.opV hw hd (fun a w hfr _=>by
  subst hq
  simp only[execOp,Instr.indexAt,hfr.eval hx,hfr.eval hy,Sem.run_bind,asIntOf,Sem.run_pure,Result.andThen_ok,hu.run]
  simp[hi,hs.run,zba]) k
theorem HQ.Al{i:Nat}[hu:Und P t (.array m e)][hs:Siz P e sz](hw:want? l L gd=true)
  (hx:ev? L x=some (.pointer (some ⟨b,off,none⟩))) (hy:ev? L y=some (.int ik z)) (hq:z=(i:Nat)) (hi:i<m) (hd:Nat.ble (d+1) n=true) {lst:Lst}
  (k:HQ V ⟨lst.setIfInBounds ti true,tt⟩ P base n ((d,.pointer (some ⟨b,off+i*sz,none⟩))::L) f A (.ops l rest q)):HQ V ⟨lst,(ti,false)::tt⟩ P base n L f A (.ops l (⟨some d,.indexAddr t x y,ty,pos,af,gd⟩::rest) q):=
 HQ.opV hw hd (fun a w hfr _=>by
  subst hq
  simp only[execOp,Instr.indexAt,hfr.eval hx,hfr.eval hy,Sem.run_bind,asIntOf,Sem.run_pure,Result.andThen_ok,hu.run,Instr.sureAddr]
  simp[hi,hs.run,zba]) k
theorem HQ.Bv{i:Nat}[hu:Und P t (.slice e)][hs:Siz P e 1](hw:want? l L gd=true)
  (hx:ev? L x=some (.slice (some ⟨b,off,none⟩) m c)) (hy:ev? L y=some (.int ik z)) (hq:z=(i:Nat)) (hi:i<m) (hd:Nat.ble (d+1) n=true) {lst:Lst}
  (k:HQ V ⟨lst.setIfInBounds ti true,tt⟩ P base n ((d,.pointer (some ⟨b,off+i,none⟩))::L) f A (.ops l rest q)):HQ V ⟨lst,(ti,false)::tt⟩ P base n L f A (.ops l (⟨some d,.indexAddr t x y,ty,pos,af,gd⟩::rest) q):=
 HQ.opV hw hd (fun a w hfr _=>by
  subst hq
  simp only[execOp,Instr.indexAt,hfr.eval hx,hfr.eval hy,Sem.run_bind,asIntOf,Sem.run_pure,Result.andThen_ok,hu.run]
  simp[hi,hs.run,zba]) k
theorem HQ.Ah{i:Nat}[hu:Und P t (.slice e)][hs:Siz P e sz](hw:want? l L gd=true)
  (hx:ev? L x=some (.slice (some ⟨b,0,none⟩) m c)) (hy:ev? L y=some (.int ik z)) (hq:z=(i:Nat)) (hi:i<m) (hd:Nat.ble (d+1) n=true) {lst:Lst}
  (k:HQ V ⟨lst.setIfInBounds ti true,tt⟩ P base n ((d,.pointer (some ⟨b,i*sz,none⟩))::L) f A (.ops l rest q)):HQ V ⟨lst,(ti,false)::tt⟩ P base n L f A (.ops l (⟨some d,.indexAddr t x y,ty,pos,af,gd⟩::rest) q):=
 HQ.opV hw hd (fun a w hfr _=>by
  subst hq
  simp only[execOp,Instr.indexAt,hfr.eval hx,hfr.eval hy,Sem.run_bind,asIntOf,Sem.run_pure,Result.andThen_ok,hu.run]
  simp[hi,hs.run,zba]) k
theorem HQ.Bm{m:List (κ×Value)}{k:κ}{z kv:Value}[hu:Und P t (.map kt et)][hk:KeyT P kt enc][hz:Zer P et z](hw:want? l L gd=true)
  (hx:ev? L x=some (.map (some b))) (hy:ev? L y=some kv) (hA:At A (mp b enc m) A' (mp b enc m)) (hkv:kv=enc k) (hv:(getKV m k).getD z=v) (hd:Nat.ble (d+1) n=true) {lst:Lst}
  (kk:HQ V ⟨lst.setIfInBounds ti true,tt⟩ P base n ((d,v)::L) f A (.ops l rest q)):HQ V ⟨lst,(ti,false)::tt⟩ P base n L f A (.ops l (⟨some d,.lookup t x y false,ty,pos,af,gd⟩::rest) q):=
 HQ.opV hw hd (fun a w hfr s=>by
  subst hv;subst hkv
  have h:=run_lookup_mp (c:=false) (k:=k) hu hk hz s hA
  simp only[execOp,hfr.eval hx,hfr.eval hy,Sem.run_bind,h,Result.andThen_ok,Sem.run_pure]
  rfl) kk
theorem HQ.Ck{m:List (κ×Value)}{k:κ}{z kv:Value}{i:Bool}[hu:Und P t (.map kt et)][hk:KeyT P kt enc][hz:Zer P et z](hw:want? l L gd=true)
  (hx:ev? L x=some (.map (some b))) (hy:ev? L y=some kv) (hA:At A (mp b enc m) A' (mp b enc m)) (hkv:kv=enc k) (hv:(getKV m k).getD z=v) (hi:(getKV m k).isSome=i) (hd:Nat.ble (d+1) n=true) {lst:Lst}
  (kk:HQ V ⟨lst.setIfInBounds ti true,tt⟩ P base n ((d,.tuple #[v,.bool i])::L) f A (.ops l rest q)):HQ V ⟨lst,(ti,false)::tt⟩ P base n L f A (.ops l (⟨some d,.lookup t x y true,ty,pos,af,gd⟩::rest) q):=
 HQ.opV hw hd (fun a w hfr s=>by
  subst hv;subst hkv;subst hi
  have h:=run_lookup_mp (c:=true) (k:=k) hu hk hz s hA
  simp only[execOp,hfr.eval hx,hfr.eval hy,Sem.run_bind,h,Result.andThen_ok,Sem.run_pure]
  rfl) kk
theorem HS.Aw(hw:want? l L gd=true)(hx:ev? L x=some v)(hd:Nat.ble (d+1) n=true)
  (k:HS tl P base n ((d,v)::L) f A (.ops l rest q)):HS tl P base n L f A (.ops l (⟨some d,.move x,ty,pos,af,gd⟩::rest) q):=
 HS.opV hw hd (fun a w hf _=>by simp[execOp,hf.eval hx]) k
theorem HS.Bd{p:Addr}(hw:want? l L gd=true)(hx:ev? L x=some (.pointer (some p)))(hd:Nat.ble (d+1) n=true)
  (k:HS tl P base n ((d,.pointer (some p))::L) f A (.ops l rest q)):HS tl P base n L f A (.ops l (⟨some d,.nilCheck x,ty,pos,af,gd⟩::rest) q):=
 HS.opV hw hd (fun a w hf _=>by simp[execOp,hf.eval hx]) k
theorem HS.ar{k:IntKind}{p:Int}(hw:want? l L gd=true)(hx:ev? L x=some (.int k p))(hy:ev? L y=some (.int k p2))(hc:arP op k p p2=some r)(hz:r=z)(hd:Nat.ble (d+1) n=true)
  (kk:HS tl P base n ((d,.int k z)::L) f A (.ops l rest q)):HS tl P base n L f A (.ops l (⟨some d,.binOp op xt x y yt,ty,pos,af,gd⟩::rest) q):=
 HS.opV hw hd (fun a w hf _=>by
  cases op<;>simp only[arP,Option.some.injEq,reduceCtorEq]at hc<;>subst hc<;>subst hz<;>
   simp[execOp,eqGuard,binOp,Op.intArith,hf.eval hx,hf.eval hy]) kk
theorem HS.Bn{i:Nat}[hu:Und P st (.struct fs.toArray)](hw:want? l L gd=true)
  (hx:ev? L x=some (.pointer (some ⟨b,off,none⟩))) (hf:nthF fs i=some ⟨nm,ft,fo,em,tg,pk,bo⟩) (hs:Siz P ft (m+1)) (hd:Nat.ble (d+1) n=true)
  (k:HS tl P base n ((d,.pointer (some ⟨b,off+fo,none⟩))::L) f A (.ops l rest q)):HS tl P base n L f A (.ops l (⟨some d,.fieldAddr st x i,ty,pos,af,gd⟩::rest) q):=
 HS.opV hw hd (fun a w hfr _=>by
  rw[nthF_eq]at hf
  simp[execOp,Instr.fieldAt,hfr.eval hx,hu.run,hf,Instr.sureAddr,fieldPlace,hs.run,zba]) k
theorem HS.Ab[hu:Und P t dd](hw:want? l L gd=true)(hx:ev? L x=some (.pointer (some ⟨b,off,none⟩)))(ha:aggD dd=false)
  (hr:Rd1 f A b off v) (hd:Nat.ble (d+1) n=true)
  (k:HS tl P base n ((d,v)::L) f A (.ops l rest q)):HS tl P base n L f A (.ops l (⟨some d,.load t x,ty,pos,af,gd⟩::rest) q):=
 HS.opV hw hd (fun a w hfr s=>by simp[execOp,hfr.eval hx,run_loadAt1 hu ha (hr base w s)]) k
theorem HS.Bi{p:Option Addr}[hu:Und P t (.slice e)](hw:want? l L gd=true)(hx:ev? L x=some (.slice p m c))(hd:Nat.ble (d+1) n=true)
  (k:HS tl P base n ((d,.int .i64 (m:Nat))::L) f A (.ops l rest q)):HS tl P base n L f A (.ops l (⟨some d,.call ⟨.builtin .len,#[x],#[t]⟩,ty,pos,af,gd⟩::rest) q):=
 HS.opV hw hd (fun a w hfr _=>by
  simp[execOp,resolve,invoke,builtin,Builtin.len_,hfr.eval hx,hu.run,goInt]) k
theorem HS.Ah{i:Nat}[hu:Und P t (.slice e)][hs:Siz P e sz](hw:want? l L gd=true)
  (hx:ev? L x=some (.slice (some ⟨b,0,none⟩) m c)) (hy:ev? L y=some (.int ik z)) (hq:z=(i:Nat)) (hi:i<m) (hd:Nat.ble (d+1) n=true)
  (k:HS tl P base n ((d,.pointer (some ⟨b,i*sz,none⟩))::L) f A (.ops l rest q)):HS tl P base n L f A (.ops l (⟨some d,.indexAddr t x y,ty,pos,af,gd⟩::rest) q):=
 HS.opV hw hd (fun a w hfr _=>by
  subst hq
  simp only[execOp,Instr.indexAt,hfr.eval hx,hfr.eval hy,Sem.run_bind,asIntOf,Sem.run_pure,Result.andThen_ok,hu.run]
  simp[hi,hs.run,zba]) k
end rules
theorem H.dq{q:Post}{l:List Oper}(k:HQ [] ⟨⟨Array.replicate l.length false,#[],0,false⟩,qt l.length 0⟩ P base n L f A (.ops l (pickOps l (qt l.length 0)) q))(hm:P.follows .mixedOrders=true:=by kernel_rfl)(hn:(Region.noSelect l.toArray&&ordOK l.toArray ⟨Array.replicate l.length false,#[],0,false⟩ (qt l.length 0)&&(qt l.length 0).all (fun t=>(getO l t.1).isSome)&&((qt l.length 0).length == l.length))=true:=by decide+kernel)(hb:q.blind P:=by with_reducible (repeat(first|exact zad|refine zab ?_|refine zah ?_|refine zak ?_))):H P base n L f A (.code (.region id l.toArray true) q):=H.drawQ hm hn hb k
def cellsL:Value→List Value
 | .agg cs=>cs.toList
 |v=>[v]
def spl:List Value→Nat→List Value→List Value
 |cs,0,[]=>cs
 |_::cs,0,v::vs=>v::spl cs 0 vs
 |c::cs,n+1,vs=>c::spl cs n vs
 | [],_,_=>[]
def fillL(place:Nat→Option (Nat×Nat)):List Value→List (Nat×Value)→Option (List Value)
 |cs,[]=>some cs
 | cs, (i, v) :: r => match place i with
  |none=>none
  | some (off, size) => match Nat.beq (cellsL v).length size && Nat.ble (off + size) cs.length with
   |true=>fillL place (spl cs off (cellsL v)) r
   |false=>none
theorem cellsL_eq(v:Value):v.cells.toList=cellsL v:=by cases v<;>rfl
theorem spl_get:∀(cs:List Value) (off:Nat) (vs:List Value),off+vs.length≤cs.length→∀i,(spl cs off vs)[i]?=if off≤i∧i<off+vs.length then vs[i-off]? else cs[i]?
 | [], off, vs, h, i => by
  have h':off+vs.length≤0:=h
  have h1:off=0:=jA
  have h2:vs=[]:=List.eq_nil_of_length_eq_zero jA
  subst h1;subst h2;simp[spl]
 |c::cs,0,[],_,i=>by simp[spl]
 | c :: cs, 0, v :: vs, h, i => by
  simp only[List.length_cons]at h
  cases i with
  |zero=>simp[spl]
  | succ i =>
   simp only[spl,List.getElem?_cons_succ]
   rw[spl_get cs 0 vs jA i]
   simp
 | c :: cs, off + 1, vs, h, i => by
  simp only[List.length_cons]at h
  cases i with
  |zero=>simp[spl]
  | succ i =>
   simp only[spl,List.getElem?_cons_succ]
   rw[spl_get cs off vs jA i]
   have e1:(off+1≤i+1∧i+1<off+1+vs.length)↔(off≤i∧i<off+vs.length):=jA
   simp only[e1,Nat.reduceSubDiff]
theorem spl_splice(cs:List Value)(off:Nat)(vs:List Value)(h:off+vs.length≤cs.length):spl cs off vs=splice cs off vs:=by
 apply List.ext_getElem?;intro i;rw[spl_get cs off vs h];unfold splice;simp only[List.getElem?_append,lnA,List.length_take,List.getElem?_take,List.getElem?_drop];have e:min off cs.length=off:=jA
 rw[e];by_cases c1:i<off
 ·simp[c1,show¬off≤i by omega,show i<off+vs.length by omega]
 ·by_cases c2:i<off+vs.length
  ·simp[c1,c2,show off≤i by omega]
  ·have:off+vs.length+(i-(off+vs.length))=i:=jA
   simp[c2,this]
theorem fold_spl(off:Nat):∀(vs:List Value) (k:Nat) (cs:List Value),off+k+vs.length≤cs.length→
  (vs.zipIdx k).foldl (fun(cs:Array Value) (x:Value×Nat)=>cs.setIfInBounds (off+x.2) x.1) cs.toArray=(splice cs (off+k) vs).toArray
 | [],k,cs,_=>by simp[splice_nil]
 | v :: vs, k, cs, h => by
  simp only[List.length_cons]at h
  simp only[List.zipIdx_cons,List.foldl_cons]
  have e:(cs.toArray.setIfInBounds (off+k) v)=(cs.set (off+k) v).toArray:=by simp
  rw[e,fold_spl off vs (k+1) _ je,←splice_cons cs (off+k) v vs jA]
  rfl
theorem fill_eq(place:Nat→Option (Nat×Nat)):∀(parts:List (Nat×Value)) (cs out:List Value),fillL place cs parts=some out→
  Instr.fill place cs.toArray parts=some out.toArray
 | [],cs,out,h=>by simp[fillL]at h;simp[Instr.fill,h]
 | (i, v) :: r, cs, out, h => by
  simp only[fillL]at h
  unfold Instr.fill
  cases hp:place i with
  |none=>rw[hp]at h;cases h
  | some os =>
   obtain⟨off,size⟩:=os
   rw[hp]at h
   simp only at h⊢
   split at h
   ·rename_i hb
    simp only[Bool.and_eq_true]at hb
    have h1:(cellsL v).length=size:=Nat.eq_of_beq_eq_true hb.1
    have h2:off+size≤cs.length:=Nat.le_of_ble_eq_true hb.2
    have h3:v.cells.size=size:=by rw[←h1,←cellsL_eq];simp
    have hc:¬(v.cells.size≠size∨off+v.cells.size>cs.toArray.size):=by rw[h3];simp;omega
    simp only[Bool.or_eq_true,decide_eq_true_eq,ne_eq,hc,if_false]
    have hf:v.cells.zipIdx.foldl (fun(cs:Array Value) (x:Value×Nat)=>cs.setIfInBounds (off+x.2) x.1) cs.toArray=(spl cs off (cellsL v)).toArray:=by
     rw[spl_splice _ _ _ jA,←cellsL_eq];have e:=fold_spl off v.cells.toList 0 cs (by simp[h3];omega);rw[Nat.add_zero]at e
     rw[←e,←Array.foldl_toList];congr 1;rw[Array.toList_zipIdx]
    have e2:∀(a:Array Value),(v.cells.zipIdx.foldl (fun cs (x:Value×Nat)=>match x with|(c,j)=>cs.setIfInBounds (off+j) c) a)=v.cells.zipIdx.foldl (fun(cs:Array Value) (x:Value×Nat)=>cs.setIfInBounds (off+x.2) x.1) a:=fun a=>rfl
    rw[e2,hf]
    exact fill_eq place r _ _ h
   ·cases h
class Plc (P:Program) (t:TypeId) (pl:outParam (List (Nat×Nat))):Prop where
 eq:∀(fs:Array Field) (w:World),P.underlying t=some (.struct fs)→(fs.mapM fun(f:Field)=>do pure (f.offset,←sizeOf f.type)).run P w= .ok pl.toArray w
def nthP:List (Nat×Nat)→Nat→Option (Nat×Nat)
 | [],_=>none
 |v::_,0=>some v
 |_::r,i+1=>nthP r i
theorem nthP_eq:∀(l:List (Nat×Nat)) (i:Nat),nthP l i=l[i]?
 | [],i=>by simp[nthP]
 |o::r,0=>by simp[nthP]
 |o::r,i+1=>by simp[nthP,nthP_eq r i]
def evP(L:Env):List (Nat×Operand)→Option (List (Nat×Value))
 | []=>some []
 |(i,x)::r=>(ev? L x).bind fun v=>(evP L r).bind fun vs=>some ((i,v)::vs)
theorem Fr.evP{n:Nat}{a:Act}{L:Env}(h:Fr n a L):∀ {xs:List (Nat×Operand)} {vs:List (Nat×Value)},evP L xs=some vs→xs.map (fun p=>(p.1,a.eval p.2))=vs
 | [],vs,hx=>by simp[Proofs.YtkaknokcbhiigaaGreatDoor.evP]at hx;simp[hx]
 | (i, x) :: xs, vs, hx => by
  simp only[Proofs.YtkaknokcbhiigaaGreatDoor.evP,Option.bind_eq_some_iff,Option.some.injEq]at hx
  obtain⟨v,hv,us,hus,rfl⟩:=hx
  simp[h.eval hv,h.evP hus]
def zeros(z:List Value):Nat→List Value
 |0=>[]
 |n+1=>z++zeros z n
theorem zeros_length(z:List Value)(n:Nat):(zeros z n).length=n*z.length:=by
 induction n with
 |zero=>simp[zeros]
 |succ n ih=>simp[zeros,ih,Nat.add_mul,Nat.add_comm]
theorem zeros_get(z:List Value):∀(n i:Nat),i<n*z.length→(zeros z n)[i]?=z[i % z.length]?
 |0,i,h=>by simp at h
 | n + 1, i, h => by
  simp only[zeros]
  by_cases c:i<z.length
  ·rw[List.getElem?_append_left c,Nat.mod_eq_of_lt c]
  ·rw[List.getElem?_append_right jA,zeros_get z n _ (by rw[Nat.add_mul,Nat.one_mul]at h;omega),Nat.mod_eq_sub_mod (a:=i) jA]
theorem zeros_array(z:List Value)(n:Nat)(hz:0<z.length):((Array.range (n*z.length)).map (z.toArray[· % z.toArray.size]!))=(zeros z n).toArray:=by
 apply Array.ext_getElem?;intro i;by_cases h:i<n*z.length
 ·have:=Nat.mod_lt i hz;simp[h,zeros_get z n i h,this]
 ·simp[h,List.getElem?_eq_none (show(zeros z n).length≤i by rw[zeros_length];omega)]
variable {zs:List Value} {hi mx:Option Operand} {lv hv mv:Nat}
section rules
variable {P:Program} {base:World} {n:Nat} {L:Env} {f:Frag} {A:List HP} {q:Post}
variable {l rest:List Oper} {d:Nat} {ty:TypeId} {pos:String} {af:Array Edge} {gd:Option (Nat × Bool)}
theorem H.Ay{ps:List (Nat×Operand)}{vs:List (Nat×Value)}{pl:List (Nat×Nat)}{z:Value}{out:List Value}[hu:Und P t (.struct fs.toArray)][hpl:Plc P t pl][hz:Zer P t z](hw:want? l L gd=true)
  (hx:evP L ps=some vs) (hzs:cellsL z=zs) (ho:fillL (nthP pl) zs vs=some out) (hd:Nat.ble (d+1) n=true)
  (k:H P base n ((d,.agg out.toArray)::L) f A (.ops l rest q)):H P base n L f A (.ops l (⟨some d,.build t ps.toArray,ty,pos,af,gd⟩::rest) q):=
 H.opV hw hd (fun a w hfr _=>by
  subst hzs
  have h1:=hpl.eq fs.toArray w hu.eq
  have h2:=fill_eq _ _ _ _ ho
  have h3:(fun i=>pl.toArray[i]?)=nthP pl:=by funext i;rw[nthP_eq];simp
  have h4:z.cells=(cellsL z).toArray:=by rw[←cellsL_eq]
  have h5:(ps.toArray.map fun x:Nat×Operand=>(x.1,a.eval x.2)).toList=vs:=by rw[List.map_toArray];exact hfr.evP hx
  show Sem.run P (Instr.build t (ps.toArray.map fun x=>(x.1,a.eval x.2)) >>= fun v=>pure (Next.value v)) w=_
  unfold Instr.build
  simp only[Sem.run_bind,hz.run,Result.andThen_ok,hu.run,h1,h3,h4,h5,h2,Sem.run_pure]) k
theorem H.buildA{len:Nat}{ps:List (Nat×Operand)}{vs:List (Nat×Value)}{z:Value}{out:List Value}[hu:Und P t (.array len e)][hsz:Siz P e sz][hz:Zer P t z](hw:want? l L gd=true)
  (hx:evP L ps=some vs) (hzs:cellsL z=zs) (ho:fillL (fun i=>some (i*sz,sz)) zs vs=some out) (hd:Nat.ble (d+1) n=true)
  (k:H P base n ((d,.agg out.toArray)::L) f A (.ops l rest q)):H P base n L f A (.ops l (⟨some d,.build t ps.toArray,ty,pos,af,gd⟩::rest) q):=
 H.opV hw hd (fun a w hfr _=>by
  subst hzs
  have h2:=fill_eq _ _ _ _ ho
  have h4:z.cells=(cellsL z).toArray:=by rw[←cellsL_eq]
  have h5:(ps.toArray.map fun x:Nat×Operand=>(x.1,a.eval x.2)).toList=vs:=by rw[List.map_toArray];exact hfr.evP hx
  show Sem.run P (Instr.build t (ps.toArray.map fun x=>(x.1,a.eval x.2)) >>= fun v=>pure (Next.value v)) w=_
  unfold Instr.build
  simp only[Sem.run_bind,hz.run,Result.andThen_ok,hu.run,hsz.run,h4,h5,h2,Sem.run_pure]) k
theorem H.Aq{len:Nat}{ps:List (Nat×Operand)}{vs:List (Nat×Value)}{z:Value}{out:List Value}[hu:Und P t (.slice e)][hsz:Siz P e sz][hz:Zer P e z](hw:want? l L gd=true)
  (hx:evP L ps=some vs) (hzs:cellsL z=zs) (h0:zs.length=sz) (h1:0<sz) (hlen:len*sz≤16777216) (ho:fillL (fun i=>some (i*sz,sz)) (zeros zs len) vs=some out) (hd:Nat.ble (d+1) n=true)
  (k:∀b,H P base n ((d,.slice (some ⟨b,0,none⟩) len len)::L) f (row b e out::A) (.ops l rest q)):H P base n L f A (.ops l (⟨some d,.buildSlice t len ps.toArray,ty,pos,af,gd⟩::rest) q):=
 H.opE (fun b=>.slice (some ⟨b,0,none⟩) len len) (fun _=>f) (fun b=>row b e out::A) (fun _=>True) hw hd (fun a w hfr s=>by
  subst hzs;subst h0
  have h2:=fill_eq _ _ _ _ ho
  have h4:z.cells=(cellsL z).toArray:=by rw[←cellsL_eq]
  have h5:(ps.toArray.map fun x:Nat×Operand=>(x.1,a.eval x.2)).toList=vs:=by rw[List.map_toArray];exact hfr.evP hx
  have h6:¬(len*(cellsL z).length>2 ^ 24):=jA
  refine⟨w.heap.size,w.alloc (.cells out.toArray e (0,0)),trivial,?_,s.alloc rfl rfl rfl rfl⟩
  show Sem.run P (Instr.buildSlice t len (ps.toArray.map fun x=>(x.1,a.eval x.2)) >>= fun v=>pure (Next.value v)) w=_
  unfold Instr.buildSlice newRow
  by_cases c:len*(cellsL z).length=0
  ·have c0:len=0:=by
    rcases Nat.mul_eq_zero.1 c with h|h
    ·exact h
    ·omega
   subst c0
   have e0:(Array.range (0*(cellsL z).length)).map ((#[]:Array Value)[· % (#[]:Array Value).size]!)=(zeros (cellsL z) 0).toArray:=by simp[zeros]
   simp only[Sem.run_bind,hu.run,hsz.run,Result.andThen_ok,if_neg h6,if_pos c,Sem.run_pure,e0,h5,h2,run_newObj]
   rfl
  ·have e1:=zeros_array (cellsL z) len h1
   simp only[Sem.run_bind,hu.run,hsz.run,hz.run,Result.andThen_ok,if_neg h6,if_neg c,Sem.run_pure,h4,e1,h5,h2,run_newObj]
   rfl) (fun b _=>k b)
def slP(p:Option Addr)(l m sz:Nat):Option Addr:=if m=l then p else p.map (·.add (l*sz))
def bnd(L:Env)(o:Option Operand)(i dflt:Nat):Prop:=match o with
 |none=>i=dflt
 |some x=>∃k z,ev? L x=some (.int k z)∧z=(i:Nat)
theorem zci{k:IntKind}{i y:Nat}{c:BoundsCode}(h:i≤y):(Instr.sliceBound (.int k (i:Nat)) y c).run P w= .ok i w:=by
 unfold Instr.sliceBound;have:(0:Int)≤i∧(i:Int)≤y:=jA
 simp[asIntOf,h]
theorem run_bounds(hfr:Fr n a L){lo:Option Operand}{len cap:Nat}{isS:Bool}(h1:bnd L lo lv 0)(h2:bnd L hi hv len)(h3:bnd L mx mv cap)(hmx:mx.isSome→hi.isSome)
  (a1:lv≤hv) (a2:hv≤mv) (a3:mv≤cap):(Instr.sliceBounds isS len cap (lo.map a.eval) (hi.map a.eval) (mx.map a.eval)).run P w= .ok (lv,hv,mv) w:=by
 unfold Instr.sliceBounds
 cases lo with
 | none =>
  cases hi with
  | none =>
   cases mx with
   |none=>simp only[bnd]at h1 h2 h3;subst h1;subst h2;subst h3;simp
   |some m=>simp at hmx
  | some hh =>
   obtain⟨kh,zh,eh,rfl⟩:=h2;simp only[bnd]at h1;subst h1
   cases mx with
   |none=>simp only[bnd]at h3;subst h3;simp[hfr.eval eh,zci a2]
   | some m =>
    obtain⟨km,zm,em,rfl⟩:=h3;simp[hfr.eval eh,hfr.eval em,zci a2,zci a3]
 | some ll =>
  obtain⟨kl,zl,el,rfl⟩:=h1
  cases hi with
  | none =>
   cases mx with
   |none=>simp only[bnd]at h2 h3;subst h2;subst h3;simp[hfr.eval el,zci a1]
   |some m=>simp at hmx
  | some hh =>
   obtain⟨kh,zh,eh,rfl⟩:=h2
   cases mx with
   |none=>simp only[bnd]at h3;subst h3;simp[hfr.eval eh,hfr.eval el,zci a2,zci a1]
   | some m =>
    obtain⟨km,zm,em,rfl⟩:=h3;simp[hfr.eval eh,hfr.eval em,hfr.eval el,zci a2,zci a3,zci a1]
theorem H.slice{t e:TypeId}{x:Operand}{lo hi mx:Option Operand}{p:Option Addr}{len cap lv hv mv sz:Nat}[hu:Und P t (.slice e)][hs:Siz P e sz](hw:want? l L gd=true)
  (hx:ev? L x=some (.slice p len cap)) (h1:bnd L lo lv 0) (h2:bnd L hi hv len) (h3:bnd L mx mv cap) (hmx:mx.isSome→hi.isSome) (a1:lv≤hv) (a2:hv≤mv) (a3:mv≤cap) (hd:Nat.ble (d+1) n=true)
  (k:H P base n ((d,.slice (slP p lv mv sz) (hv-lv) (mv-lv))::L) f A (.ops l rest q)):H P base n L f A (.ops l (⟨some d,.slice t x lo hi mx,ty,pos,af,gd⟩::rest) q):=
 H.opV hw hd (fun a w hfr _=>by
  have hb:=run_bounds (P:=P) (w:=w) (isS:=true) hfr h1 h2 h3 hmx a1 a2 a3
  show Sem.run P (Instr.sliceAt t (a.eval x) (lo.map a.eval) (hi.map a.eval) (mx.map a.eval) >>= fun v=>pure (Next.value v)) w=_
  unfold Instr.sliceAt Instr.slice
  simp only[Sem.run_bind,hu.run,Result.andThen_ok,hfr.eval hx,hb,hs.run,Sem.run_pure,slP]) k
theorem H.Bt{lo:Option Operand}{len:Nat}[hu:Und P t (.array len e)][hs:Siz P e sz](hw:want? l L gd=true)
  (hx:ev? L x=some (.pointer (some ⟨b,off,none⟩))) (h1:bnd L lo lv 0) (h2:bnd L hi hv len) (h3:bnd L mx mv len) (hmx:mx.isSome→hi.isSome) (a1:lv≤hv) (a2:hv≤mv) (a3:mv≤len) (hd:Nat.ble (d+1) n=true)
  (k:H P base n ((d,.slice (slP (some ⟨b,off,none⟩) lv mv sz) (hv-lv) (mv-lv))::L) f A (.ops l rest q)):H P base n L f A (.ops l (⟨some d,.slice t x lo hi mx,ty,pos,af,gd⟩::rest) q):=
 H.opV hw hd (fun a w hfr _=>by
  have hb:=run_bounds (P:=P) (w:=w) (isS:=false) hfr h1 h2 h3 hmx a1 a2 a3
  show Sem.run P (Instr.sliceAt t (a.eval x) (lo.map a.eval) (hi.map a.eval) (mx.map a.eval) >>= fun v=>pure (Next.value v)) w=_
  unfold Instr.sliceAt
  simp only[Sem.run_bind,hu.run,Result.andThen_ok,hfr.eval hx,hb,hs.run,Sem.run_pure,slP,Instr.sureAddr]
  split<;>rfl) k
theorem run_equal_sn(hu:Und P t (.slice e))(p:Option Addr)(m c:Nat)(w:World):(Op.equal t (.slice p m c) (.slice none 0 0)).run P w= .ok p.isNone w:=by
 have h:∀d,(Op.equalIn (d+1) t (.slice p m c) (.slice none 0 0)).run P w= .ok p.isNone w:=fun d=>by
  cases p<;>simp[Op.equalIn,hu.run]
 exact h 9999
theorem run_guard_slice(op:BinOp)(t:TypeId)(x y:Operand)(p:Option Addr)(m c:Nat)(w:World):(eqGuard op t x y (.slice p m c) (.slice none 0 0)).run P w= .ok () w:=by
 cases op<;>rfl
theorem H.sliceNil{p:Option Addr}{b:Bool}[hu:Und P xt (.slice e)](hw:want? l L gd=true)(hx:ev? L x=some (.slice p m c))(hy:ev? L y=some (.slice none 0 0))(hb:nilP op p=some b)(hd:Nat.ble (d+1) n=true)
  (kk:H P base n ((d,.bool b)::L) f A (.ops l rest q)):H P base n L f A (.ops l (⟨some d,.binOp op xt x y yt,ty,pos,af,gd⟩::rest) q):=
 H.opV hw hd (fun a w hf _=>by
  refine run_bin _ ?_ ?_
  ·rw[hf.eval hx,hf.eval hy];exact run_guard_slice _ _ _ _ _ _ _ _
  ·rw[hf.eval hx,hf.eval hy]
   have e1:Sem.run P (do pure (Value.bool (←Op.equal xt (.slice p m c) (.slice none 0 0)))) w= .ok (.bool p.isNone) w:=by simp[run_equal_sn hu]
   have e2:Sem.run P (do pure (Value.bool (!(←Op.equal xt (.slice p m c) (.slice none 0 0))))) w= .ok (.bool (!p.isNone)) w:=by simp[run_equal_sn hu]
   cases op<;>cases p<;>simp only[nilP,Option.some.injEq,reduceCtorEq]at hb<;>subst hb<;>first|exact e1|exact e2) kk
end rules
end Go.Proofs.YtkaknokcbhiigaaGreatDoor
