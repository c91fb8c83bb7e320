/- Parts of the proof. No conditions. -/
import Derived.Calls
import Derived.Tactics
import Derived.KernelRfl
import Derived.Below
set_option linter.unusedSectionVars false
set_option linter.unusedSimpArgs false
set_option linter.unusedVariables false
namespace Go.Proofs.YtdpgpmbebbaoiaaGreatDoor
open Go
structure Bx(q:Prop):Prop where
 o:q
theorem A0{p q:Prop}(k:Bx q→p)(h:q):p:=k ⟨h⟩
theorem iD{α:Type}{p:α→Prop}:∀x,p x→p x:=fun _ h=>h
theorem jA{p:Prop}(k:p:=by repeat constructor):p:=k
theorem jB{p:Prop}(k:p:=by omega):p:=k
theorem jC{p:Prop}(k:p:=by with_reducible (repeat(first|exact zaj|exact zai|exact zad|exact zac|refine zah ?_|refine zae ?_|refine zaf ?_|refine zag ?_|refine zal ?_))):p:=k
theorem jD{p:Prop}(k:p:=by kernel_rfl):p:=k
theorem jE{p:Prop}(k:p:=by decide):p:=k
theorem jF{p:Prop}(k:p:=by repeat(first|exact iD|(refine zan (by repeat constructor) ?_))):p:=k
theorem jG{p:Prop}(k:p:=by repeat(first|exact .here _ _ _|apply SetV.there)):p:=k
theorem jH{p:Prop}(k:p:=by rw[zab];exact(Nat.mul_one _).symm):p:=k
theorem jI{p:Prop}(k:p:=by simp):p:=k
theorem jJ{p:Prop}(k:p:=by decide+kernel):p:=k
theorem jK{p:Prop}(k:p:=by repeat(first|exact zaw|refine zaq ?_|refine zat ?_|refine zbh ?_)):p:=k
theorem jL{p:Prop}(k:p:=by with_reducible (repeat(first|exact blind_fnM|refine zaq ?_|refine zat ?_|refine zbh ?_))):p:=k
theorem jM{p:Prop}(k:p:=by with_reducible (repeat(first|exact blind_round|refine blind_seqR ?_|refine zat ?_))):p:=k
theorem jN{p:Prop}(k:p:=by first|(rw[dV_len,dV_len];decide)|exact Nat.le_refl 32):p:=k
theorem jO{p:Prop}(k:p:=by rw[zab,Nat.mul_one]):p:=k
theorem jP{p:Prop}(k:p:=by rw[List.length_replicate];decide):p:=k
theorem jQ{p:Prop}(k:p:=by rw[hfr.eval hx,hfr.eval hy];exact hr):p:=k
theorem jR{p:Prop}(k:p:=by rw[List.length_append];omega):p:=k
theorem jS{p:Prop}(k:p:=by rw[Nat.mul_one];exact Rd1.of (i:=o) (lgC_kn (Rd.ofRow (by repeat constructor))) (knV_at kn ho11)):p:=k
theorem jT{p:Prop}(k:p:=by simp;omega):p:=k
theorem jU{p:Prop}(k:p:=by show n-(r+1)<n-r;omega):p:=k
theorem jV{p:Prop}(k:p:=by rw[List.length_append,be_len];omega):p:=k
theorem jW{p:Prop}(k:p:=by simp[Bod.mayK]):p:=k
theorem jX{p:Prop}(k:p:=by simp[Array.getD_eq_getD_getElem?,hf.get t _ hv]):p:=k
theorem jY{p:Prop}(k:p:=by simpa using h3):p:=k
theorem jZ{p:Prop}(k:p:=by rfl):p:=k
theorem ja{p:Prop}(k:p:=by first|rw[dV_len,dV_len]|rfl):p:=k
theorem jb{p:Prop}(k:p:=by show 11-(i+1)<11-i;omega):p:=k
theorem jc{p:Prop}(k:p:=by simpa using h):p:=k
theorem jd{p:Prop}(k:p:=by rw[map_inj (fun e:κ×Value×Nat=>e.2.2) ho.stamps he' he h]):p:=k
theorem je{p:Prop}(k:p:=by rw[show((n:Nat):Int).tdiv 2=((n / 2:Nat):Int)from rfl];omega):p:=k
theorem jf{p:Prop}(k:p:=by rw[Nat.mul_one,Nat.zero_add];exact hstr):p:=k
theorem jg{p:Prop}(k:p:=by rw[Nat.mul_one,Nat.zero_add];exact hset):p:=k
theorem jh{p:Prop}(k:p:=by have h2:(a:Int)=((j+1:Nat):Int):=congrArg Prod.fst h;omega):p:=k
theorem ji{p:Prop}(k:p:=by simp[un,sing]):p:=k
theorem jk{p:Prop}(k:p:=by rw[map_inj (fun e:κ×Value×Nat=>e.1) ho.keys he' he h]):p:=k
theorem jl{p:Prop}(k:p:=by rw[List.length_map];omega):p:=k
theorem jm{p:Prop}(k:p:=by show p.msgs.length-(i+1)<p.msgs.length-i;omega):p:=k
theorem jn{p:Prop}(k:p:=by rw[decide_eq_false (by omega),Bool.false_and];decide):p:=k
theorem jo{p:Prop}(k:p:=by rw[zam,zam];omega):p:=k
theorem jp{p:Prop}(k:p:=by rw[List.getElem?_toArray,←getO_eq];exact hgo):p:=k
theorem jq{p:Prop}(k:p:=by rw[List.length_append,List.length_take,h];omega):p:=k
theorem jr{p:Prop}(k:p:=by show k-(i+1)<k-i;omega):p:=k
theorem js{p:Prop}(k:p:=by show 8-(i+1)<8-i;omega):p:=k
theorem jt{p:Prop}(k:p:=by rw[hl1];exact Nat.le_refl 121):p:=k
theorem ju{p:Prop}(k:p:=by simpa using hfit):p:=k
theorem jv{p:Prop}(k:p:=by show n-(j+1)<n-j;omega):p:=k
theorem jw{p:Prop}(k:p:=by show n-(o+1)<n-o;omega):p:=k
theorem jx{p:Prop}(k:p:=by show 8-(k+1)<8-k;omega):p:=k
theorem jy{p:Prop}(k:p:=by rw[List.getElem?_toArray,←getO_eq];exact ho):p:=k
theorem jz{p:Prop}(k:p:=by unfold dmOf mk?;rw[lk_cons,if_neg (by omega)]):p:=k
theorem kA{p:Prop}(k:p:=by show ps.length-(i+1)<ps.length-i;omega):p:=k
theorem kB{p:Prop}(k:p:=by show pd.length-(j+1)<pd.length-j;omega):p:=k
theorem kC{p:Prop}(k:p:=by rw[zav];exact Nat.le_refl 5):p:=k
theorem kD{p:Prop}(k:p:=by simp at ht⊢;exact .inr ht):p:=k
theorem kE{p:Prop}(k:p:=by rw[zbu];exact Nat.le_refl _):p:=k
theorem kF{p:Prop}(k:p:=by show l.length-(i+1)<l.length-i;omega):p:=k
theorem kG{p:Prop}(k:p:=by show c.length-(m+k)<c.length-m;omega):p:=k
theorem kH{p:Prop}(k:p:=by show l.length-(k+1)<l.length-k;omega):p:=k
theorem kI{p:Prop}(k:p:=by rw[List.length_drop];omega):p:=k
theorem kJ{p:Prop}(k:p:=by rw[List.length_map];decide):p:=k
theorem kK{p:Prop}(k:p:=by show w1.heap.setIfInBounds _ _=_;rw[q1]):p:=k
theorem kL{p:Prop}(k:p:=by show i+1≤11;omega):p:=k
theorem kM{p:Prop}(k:p:=by show i+1≤k;omega):p:=k
theorem kN{p:Prop}(k:p:=by show i+1≤8;omega):p:=k
theorem kO{p:Prop}(k:p:=by show r+1≤n;omega):p:=k
theorem kP{p:Prop}(k:p:=by simpa using hl):p:=k
theorem kQ{p:Prop}(k:p:=by simpa using h1):p:=k
theorem kR{p:Prop}(k:p:=by simpa using hx):p:=k
theorem kS{p:Prop}(k:p:=by rw[zam];omega):p:=k
theorem kT{p:Prop}(k:p:=by rw[hls.len];decide):p:=k
theorem kU{p:Prop}(k:p:=by simp[sing,e]):p:=k
variable {p:Prop}
theorem qa(k:p:=by
 refine A9 func104 ntmps104 fun base=>?_
 apply (gA)
 refine H.box (ls:=_) rfl rfl rfl rfl fun yb=>?_
 apply (gR)
 apply A3 (row rb _ _)
 apply A3 (row yb _ _)
 refine H.db (S:=[_,_]) rfl ?_
 apply A6 [0,1,2,3,4] 2
 apply (gF)
 refine AH (ls:=_) rfl rfl rfl (Rd.ofRow jA) hvl rfl ?_
 refine An rfl ?_
 apply A7 5
 apply A3 (loQ _ _ _)
 apply A5 (hadd _)
 apply (gA)
 apply A3 (row rb _ _)
 apply A3 (row yb _ _)
 refine AR rfl ?_
 apply A6 [6] 0
 apply (gB)
 refine An rfl ?_
 refine AN ?_
 apply (gE)
 refine BY 5 jD jJ ?_
 apply (gH)
 refine C1 (ls:=_) rfl rfl rfl (Rd.ofRow jA) hvl rfl ?_
 apply (gI)
 apply A3 (lgH _ _ _ _ _ _)
 apply A5 (hlog _)
 apply (gA)
 refine BY 5 jD jJ ?_
 apply (gH)
 refine C1 (ls:=_) rfl rfl rfl (Rd.ofRow jA) hvl rfl ?_
 apply (gI)
 apply A3 (chkH _ _ _)
 apply A5 (hchk _)
 apply (gA)
 refine BB ?_
 apply (gQ)
 apply (gE)
 apply A4 (row yb _ _)
 apply A3 (chkH _ _ _)
 apply A3 (lgH _ _ _ _ _ _)
 apply A3 (waQ _ _)
 apply A3 (loQ _ _ _)
 apply A3 (row rb _ _)
 refine H.imp hfo ?_
 exact DK ⟨rfl,rfl,rfl⟩):p:=k
theorem qaa(k:p:=by
 skip
 skip
 apply A3 (row nb _ _)
 apply A3 (row tu _ _)
 apply A3 (row du _ _)
 refine H.db (S:=[_,_,_]) rfl ?_
 apply A6 [0,1,2,3,4] 7
 apply (gF)
 refine An rfl ?_
 refine B9 (i:=5) (j:=9) jD rfl rfl ?_ ?_
 ·skip
  apply A3 (repH _ _ _ _ _ _)
  apply A5 (hnx _)
  apply (gA)
  apply A3 (row nb _ _)
  apply A3 (row tu _ _)
  apply A3 (row du _ _)
  refine AR rfl ?_
  apply A6 [6,7,8] 3
  apply (gI)
  refine An rfl ?_
  apply A7 9
  refine AJ (ls:=msgZ.vals none 0) rfl rfl rfl fun qb=>?_
  apply (gA)
  apply A3 (row nb _ _)
  apply A3 (row tu _ _)
  apply A3 (row du _ _)
  refine AR rfl ?_
  apply A7 10
  refine AC (ls:=msgZ.vals none 0) (vs:=vs) (ls':=vs) rfl rfl rfl hv1 hvl (set121 rfl hvl) (by rw[hvl];exact Nat.le_refl 121) jA ?_
  apply (gA)
  apply A3 (row nb _ _)
  apply A3 (row tu _ _)
  apply A3 (row du _ _)
  refine AR rfl ?_
  apply A6 [11] 0
  apply (gB)
  refine An rfl ?_
  refine AN ?_
  skip
  apply A3 (diskH _ _ _)
  apply A3 (row bb _ _)
  apply A3 (row cb _ _)
  apply A3 (row ub _ _)
  apply A3 (repH _ _ _ _ _ _)
  apply A3 (row mb _ _)
  apply A3 (row eb _ _)
  apply A3 (row nb _ _)
  apply A3 (row tu _ _)
  apply A3 (row du _ _)
  apply A3 (row qb _ _)
  exact BR qb trivial ⟨rfl,rfl,rfl,rfl,rfl,trivial⟩ rfl rfl
 ·skip
  refine AJ (ls:=msgZ.vals none 0) rfl rfl rfl fun qb=>?_
  apply (gA)
  apply A3 (row nb _ _)
  apply A3 (row tu _ _)
  apply A3 (row du _ _)
  refine AR rfl ?_
  apply A7 5
  apply A3 (repH _ _ _ _ _ _)
  apply A5 (hnx _)
  apply (gA)
  apply A3 (row nb _ _)
  apply A3 (row tu _ _)
  apply A3 (row du _ _)
  refine AR rfl ?_
  apply A6 [6,7,8] 2
  apply (gI)
  refine An rfl ?_
  apply A7 10
  refine AC (ls:=msgZ.vals none 0) (vs:=vs) (ls':=vs) rfl rfl rfl hv1 hvl (set121 rfl hvl) (by rw[hvl];exact Nat.le_refl 121) jA ?_
  apply (gA)
  apply A3 (row nb _ _)
  apply A3 (row tu _ _)
  apply A3 (row du _ _)
  refine AR rfl ?_
  apply A6 [11] 0
  apply (gB)
  refine An rfl ?_
  refine AN ?_
  skip
  apply A3 (diskH _ _ _)
  apply A3 (row bb _ _)
  apply A3 (row cb _ _)
  apply A3 (row ub _ _)
  apply A3 (repH _ _ _ _ _ _)
  apply A3 (row mb _ _)
  apply A3 (row eb _ _)
  apply A3 (row nb _ _)
  apply A3 (row tu _ _)
  apply A3 (row du _ _)
  apply A3 (row qb _ _)
  exact BR qb trivial ⟨rfl,rfl,rfl,rfl,rfl,trivial⟩ rfl rfl):p:=k
theorem qab(k:p:=by
 subst hc
 by_cases c1:m.o=o+1
 ·skip
  refine A9 func104 ntmps104 fun base=>?_
  apply (gA)
  refine H.box (ls:=_) rfl rfl rfl rfl fun yb=>?_
  apply (gR)
  apply A3 (row rb _ _)
  apply A3 (row yb _ _)
  refine H.db (S:=[_,_]) rfl ?_
  apply A6 [0,1,2,3,4] 2
  apply (gF)
  refine AH (ls:=_) rfl rfl rfl (Rd.ofRow jA) hvl rfl ?_
  refine An rfl ?_
  apply A7 5
  apply A3 (loQ _ _ _)
  apply A5 (hadd _)
  apply (gA)
  apply A3 (row rb _ _)
  apply A3 (row yb _ _)
  refine AR rfl ?_
  apply A6 [6] 0
  apply (gB)
  refine An rfl ?_
  refine AN ?_
  apply (gE)
  refine BY 5 jD jJ ?_
  apply (gH)
  refine C1 (ls:=_) rfl rfl rfl (Rd.ofRow jA) hvl rfl ?_
  apply (gI)
  apply A3 (lgH _ _ _ _ _ _)
  apply A5 (hlog _)
  apply (gA)
  refine BY 5 jD jJ ?_
  apply (gH)
  refine C1 (ls:=_) rfl rfl rfl (Rd.ofRow jA) hvl rfl ?_
  apply (gI)
  apply A3 (chkH _ _ _)
  apply A5 (hchk _)
  apply (gA)
  refine BB ?_
  apply (gQ)
  apply (gE)
  apply A4 (row yb _ _)
  apply A3 (chkH _ _ _)
  apply A3 (lgH _ _ _ _ _ _)
  apply A3 (waQ _ _)
  apply A3 (loQ _ _ _)
  apply A3 (row rb _ _)
  refine H.imp hfo ?_
  exact DK ⟨rfl,rfl,rfl⟩
 ·skip
  refine A9 func104 ntmps104 fun base=>?_
  apply (gA)
  refine H.box (ls:=_) rfl rfl rfl rfl fun yb=>?_
  apply (gR)
  apply A3 (row rb _ _)
  apply A3 (row yb _ _)
  refine H.db (S:=[_,_]) rfl ?_
  apply A6 [0,1,2,3,4] 2
  apply (gF)
  refine AH (ls:=_) rfl rfl rfl (Rd.ofRow jA) hvl rfl ?_
  refine An rfl ?_
  apply A7 5
  apply A3 (loQ _ _ _)
  apply A5 (hadd _)
  apply (gA)
  apply A3 (row rb _ _)
  apply A3 (row yb _ _)
  refine AR rfl ?_
  apply A6 [6] 0
  apply (gB)
  refine An rfl ?_
  refine AN ?_
  apply (gE)
  refine BY 5 jD jJ ?_
  apply (gH)
  refine C1 (ls:=_) rfl rfl rfl (Rd.ofRow jA) hvl rfl ?_
  apply (gI)
  apply A3 (lgH _ _ _ _ _ _)
  apply A5 (hlog _)
  apply (gA)
  refine BY 5 jD jJ ?_
  apply (gH)
  refine C1 (ls:=_) rfl rfl rfl (Rd.ofRow jA) hvl rfl ?_
  apply (gI)
  apply A3 (chkH _ _ _)
  apply A5 (hchk _)
  apply (gA)
  refine BB ?_
  apply (gQ)
  apply (gE)
  apply A4 (row yb _ _)
  apply A3 (chkH _ _ _)
  apply A3 (lgH _ _ _ _ _ _)
  apply A3 (waQ _ _)
  apply A3 (loQ _ _ _)
  apply A3 (row rb _ _)
  refine H.imp hfo ?_
  exact DK ⟨rfl,rfl,rfl⟩):p:=k
theorem qac(k:p:=by
 refine An rfl ?_
 apply A7 6
 refine H.entryStore rfl rfl rfl rfl jA ?_
 apply (gA)
 refine AR rfl ?_
 refine AN ?_
 apply (gA)
 have hsum:=hV2 x
 rw[if_pos rfl]at hsum
 have hget2:(getKV (putKV (putKV V x (.int .i64 (c:Nat))) x (.int .i64 ((c+1:Nat):Int))) x).getD (.int .i64 0)= .int .i64 ((c+1:Nat):Int):=by rw[zbp];rfl
 generalize putKV (putKV V x (.int .i64 (c:Nat))) x (.int .i64 ((c+1:Nat):Int))=V2 at hV2 hget2⊢
 by_cases hgt:n / 2<c+1
 ·refine BB ?_
  repeat(first|(refine AH (ls:=dV x) rfl rfl rfl (Rd.ofRow jA) (dV_len x) rfl ?_)|(apply (gV))|(refine D4 (k:=x) rfl rfl rfl jA rfl hget2 rfl ?_)|(refine HQ.quo rfl rfl rfl jE hhalf rfl ?_))
  apply (gN)
  refine AD (ls:=dV x) rfl rfl rfl (Rd.ofRow jA) (dV_len x) rfl ?_
  refine AC (ls:=dV dZ) (vs:=dV x) (ls':=dV x) rfl rfl rfl (dV_one _) (dV_len _) (zbl ja) jN jA ?_
  apply (gK)
  apply A4 (row xb _ _)
  apply A4 (mp vb _ _)
  have hres:digR n (tells M k) (some x):=by
   show n / 2<cntD (tells M k) x n
   have h1:=cntD_le (tells M k) x (r+1) (n-(r+1))
   rw[show r+1+(n-(r+1))=n by omega]at h1
   have h2:cntD (tells M k) x (r+1)=c+1:=by
    show cntD (tells M k) x r+(if tells M k (r+1)=some x then 1 else 0)=c+1
    rw[if_pos hT,hc]
   omega
  exact B5 rfl rfl rfl rfl (Rd.ofRow jA) (dV_len x) (fun _ s=>s.drop (.here _ _)) ⟨some x,hres,rfl,rfl,rfl⟩
 ·refine BB ?_
  repeat(first|(refine AH (ls:=dV x) rfl rfl rfl (Rd.ofRow jA) (dV_len x) rfl ?_)|(apply (gV))|(refine D4 (k:=x) rfl rfl rfl jA rfl hget2 rfl ?_)|(refine HQ.quo rfl rfl rfl jE hhalf rfl ?_))
  apply (gP)
  apply A4 (row xb _ _)
  exact AX (r+1,V2) ⟨by show r+1≤n;omega,fun d=>by
    rw[hV2 d]
    show Value.int .i64 ((cntD (tells M k) d r+(if d=x then 1 else 0):Nat):Int)=Value.int .i64 ((cntD (tells M k) d r+(if tells M k (r+1)=some d then 1 else 0):Nat):Int)
    rw[hT]
    by_cases e:d=x
    ·subst e;simp
    ·rw[if_neg e,if_neg (fun h=>e (Option.some.inj h).symm)],fun d=>by
    show cntD (tells M k) d r+(if tells M k (r+1)=some d then 1 else 0)≤n / 2
    rw[hT]
    by_cases e:x=d
    ·subst e;rw[if_pos rfl,hc];omega
    ·rw[if_neg (fun h=>e (Option.some.inj h))];exact hle d⟩ jU ⟨rfl,rfl,rfl,rfl,rfl,rfl,trivial⟩ rfl rfl):p:=k
theorem qad(k:p:=by
 exact DK ⟨rfl,rfl,rfl⟩):p:=k
theorem qae(k:p:=by
 refine AG rfl rfl rfl (cloneQ_fn f _ hx.1 hx.2.1) fun qp qc=>?_
 apply (gL)
 refine H.freeze (x:=qs _ _ _) jA fun g hg hd=>?_
 apply A3 (row wb _ _)
 apply A3 (row kb _ _)
 apply A3 (row mb _ _)
 refine H.db (S:=[_,_,_]) rfl ?_
 apply A6 [0,1,2,3,4,5] 1
 apply (gF)
 refine AH (ls:=nmV (keyM x.m)) rfl rfl rfl (Rd.ofRow (.there _ (.here _ _ _))) rfl rfl ?_
 refine AH (ls:=x.m.vals qp qc) rfl rfl rfl (Rd.ofRow (.here _ _ _)) rfl rfl ?_
 refine An rfl ?_
 apply A7 6
 refine CN (enc:=nmE) (k:=keyM x.m) rfl rfl rfl rfl jA rfl ?_
 have hput:putKV (ws2.map entV) (keyM x.m) (.agg (x.m.vals qp qc).toArray)=(ws2++[(⟨x.m,qp,qc⟩:MV)]).map entV:=by
  rw[putKV_absent (by rw[ent_keys];exact hno),List.map_append];rfl
 have hlf:=Le.un f g
 have hog:(⟨x.m,qp,qc⟩:MV).Good (un f g):=⟨qs_qat hg hd,hx.2⟩
 have hφ:Waitφ (un f g) (ws2++[(⟨x.m,qp,qc⟩:MV)]):=⟨fun y hy=>by
   rcases List.mem_append.1 hy with h|h
   ·exact(hw2.g y h).mono (he.trans hlf)
   ·rw[List.mem_singleton.1 h];exact hog,fun y hy=>by
   rcases List.mem_append.1 hy with h|h
   ·exact hw2.pos y h
   ·rw[List.mem_singleton.1 h];exact hnum,by
   rw[List.map_append]
   exact hw2.ku.snoc fun y hy e2=>hno (by show keyM x.m∈_;rw[←show keyM y=keyM x.m from e2];exact List.mem_map_of_mem hy),by
   rw[List.length_append];show ws2.length+1≤_;omega⟩
 rw[hput]
 apply (gA)
 refine AR rfl ?_
 refine AN ?_
 apply (gK)
 apply A4 (row gb _ _)
 apply A4 (row kb _ _)
 apply A4 (row mb _ _)
 apply A3 (loreH _ _ _ _)
 apply A3 (mp _ _ _)
 apply A3 (row wb _ _)
 refine H.imp (wait_fold b hφ) ?_
 exact AE rfl rfl iD ⟨g,0,_,hR _ (by rw[List.map_append];exact List.Perm.refl _),by rw[List.length_append];show ws2.length+1≤_;omega,hd,rfl,rfl,rfl⟩):p:=k
theorem qaf(k:p:=by
 apply (gA)
 apply A3 (row nb _ _)
 refine AR rfl ?_
 apply A7 8
 apply (gC)
 apply A3 (row nb _ _)
 refine AR rfl ?_
 refine AN ?_
 skip
 apply A3 (row wc _ _)
 apply A3 (runH _ _ _)
 apply A3 (waQ _ _)
 apply A3 (row rb _ _)
 apply A3 (row pb _ _)
 apply A3 (row nb _ _)
 exact BR (rb,pb,wt,rn,wc) trivial ⟨rfl,rfl,rfl,rfl,rfl,trivial⟩ rfl rfl):p:=k
theorem qag(k:p:=by
 refine H.know (d:=9) (u:=.int .i64 ((jj:Nat):Int)) rfl (by subst hjj;rfl) ?_
 skip
 refine H.know (d:=36) (u:=.int .i64 ((jj:Nat):Int)) rfl (by subst hjj;rfl) ?_
 refine CO met_less rfl rfl rfl rfl rfl (Rd1.ofRow (.there _ (.here _ _ _)) rfl) (nless_fn f _ h3 (i:=jj) (j:=i) jB jB) ?_
 by_cases hlt:(nmAt s jj).1<(nmAt s i).1
 ·refine E5 rfl rfl hlt rfl ?_
  apply (gE)
  refine CO met_swap rfl rfl rfl rfl rfl (Rd1.ofRow (.there _ (.here _ _ _)) rfl) (nswap_fn f _ h3 (i:=i) (j:=jj) jB jB) ?_
  apply (gK)
  exact AI (swp s i jj,jj) ⟨by show jj≤m;omega,by show(swp s i jj).length=n;rw[swp_len];exact h3,by show nmAt (swp s i jj) m=_;rw[swp_at jB jB,if_neg jB,if_neg jB];exact h4⟩ (by show m-jj<m-i;omega)
 ·refine E6 rfl rfl hlt rfl ?_
  apply (gS)
  exact AU ⟨_,s,h3,h4,rfl,rfl,rfl⟩):p:=k
theorem qah(k:p:=by
 apply (gA)
 apply A3 (row du _ _)
 apply A3 (row tb _ _)
 refine AR rfl ?_
 apply A7 6
 refine Co (p:=p2) (l:=bs) (c:=c2) (sz:=1) (T:=5) (xs:=bytesV bs) jA fun hnil=>?_
 apply A3 (diskH _ _ _)
 apply A3 (row cb _ _)
 apply A3 (row ub _ _)
 refine AV rfl rfl rfl (unext_fn f _ htab (n:=qnth r.kn o) jB jB jB hw (Src.slcS jA jH) hnil jB jB) fun v f' A' hr=>?_
 obtain⟨sv',csv',m',rfl,hff,rfl⟩:=hr
 rw[hff,hτ]
 clear hff
 apply (gA)
 apply A3 (row du _ _)
 apply A3 (row tb _ _)
 refine AR rfl ?_
 apply A6 [7,8,9,10,12] 2
 apply (gI)
 refine An rfl ?_
 apply A7 13
 refine AC (ls:=zb 32) (vs:=b32 τ) (ls':=b32 τ) rfl rfl rfl (zaa rfl) rfl rfl (Nat.le_refl 32) jA ?_
 apply (gA)
 apply A3 (row du _ _)
 apply A3 (row tb _ _)
 refine AR rfl ?_
 apply A6 [14] 0
 apply (gB)
 refine An rfl ?_
 refine AN ?_
 skip
 apply A4 (slc p2 _ _ 5 _ _)
 apply A3 (diskH _ _ _)
 apply A3 (row bb _ _)
 apply A3 (row cb _ _)
 apply A3 (row ub _ _)
 apply A3 (repH _ _ _ _ _ _)
 apply A3 (row du _ _)
 apply A3 (row ob _ _)
 apply A3 (row tb _ _)
 apply A3 (row tg _ _)
 exact BR (tg,sv',csv',m') trivial ⟨rfl,rfl,rfl,rfl,rfl,trivial⟩ rfl rfl):p:=k
theorem qai(k:p:=by
 apply A3 (row fb _ _)
 refine Dc jD jJ jM rfl jC (S:=[_]) rfl ?_
 apply A6 [0,2] 2
 apply (gB)
 refine AH (ls:=v11 (qnI (rF w.rs 0).kn)) rfl rfl rfl (Rd.ofRow jA) rfl rfl ?_
 refine An rfl ?_
 apply A7 1
 apply A3 (repH _ _ _ _ _ _)
 apply A5 (hkn _)
 apply (gA)
 apply A3 (row fb _ _)
 refine AR rfl ?_
 apply A6 [3] 0
 skip
 refine DL (xs:=v11 (qnI (rF w.rs o).kn)) (ys:=v11 (qnI (rF w.rs 0).kn)) (D:=4) (b:=false) rfl rfl rfl rfl jD jD jD jD jE (by rw[he];rfl) rfl ?_
 refine An rfl ?_
 refine AN ?_
 repeat(first|(first|(first|apply C2|apply D5)|(apply DN;exact rfl))|(apply BJ))
 apply A3 (repH _ _ _ _ _ _)
 apply A3 (lonH _ _ _ _ _ _ _ _)
 apply A3 (row eb _ _)
 apply A3 (row fb _ _)
 apply A3 (row nb _ _)
 apply A3 (pts D _)
 apply A3 (loopH _ _ _ _ _ _ _ _)
 exact Dd ⟨rfl,rfl,rfl⟩):p:=k
theorem qaj(k:p:=by
 apply A7 11
 refine AQ (m:=1) (xs:=bytesV acc) rfl rfl rfl rfl rfl (fun p' c'=>jA) (Src.slice (Rd.ofRow jA) rfl) (zao _) rfl jB jB fun p2 c2=>?_
 have e2:(acc++[m.body.kind]).length=acc.length+1:=by rw[List.length_append];rfl
 have e3:bytesV (acc++[m.body.kind])=bytesV acc++bytesV [m.body.kind]:=zak _ _
 rw[←e3,←e2]
 generalize acc++[m.body.kind]=acc2 at e2⊢
 apply A4 (row tb2 _ _)
 apply (gA)
 apply A3 (mp _ _ _)
 apply A3 (row mb _ _)
 refine AR rfl ?_
 apply A7 14
 apply A3 (slc p2 _ _ _ _ _)
 refine AO (.here _ _ _) jB fun b1 hp=>?_
 subst hp
 refine E7 (fs:=[]) (cs:=[]) (vs:=[.slice (some ⟨b1,0,none⟩) acc2.length c2,.agg (m.body.vals q qc).toArray]) rfl rfl rfl rfl (hput f _ m.body q qc _ c2 acc2 (Src.slcS (.here _ _ _) jH) (fun h=>by cases h) hq hm hl jB) fun p3 c3=>?_
 apply (gA)
 apply A3 (mp _ _ _)
 apply A3 (row mb _ _)
 refine AR rfl ?_
 apply A6 [15] 0
 apply (gB)
 refine An rfl ?_
 refine AN ?_
 apply (gK)
 apply A4 (row mb _ _)
 apply A4 (mp _ _ _)
 apply A4 (slc (some ⟨b1,0,none⟩) _ _ _ _ _)
 exact AU ⟨p3,c3,rfl,rfl,rfl⟩):p:=k
theorem qak(k:p:=by
 refine AR rfl ?_
 apply A7 3
 apply (gC)
 refine AR rfl ?_
 refine AN ?_
 apply (gK)
 apply A4 (row tu _ _)
 apply A4 (row qb _ _)
 apply A3 (diskH _ _ _)
 apply A3 (row bb _ _)
 apply A3 (row cb _ _)
 apply A3 (row ub _ _)
 apply A3 (repH _ _ _ _ _ _)
 apply A3 (row du _ _)
 refine H.imp (hfo _) ?_
 apply A3 (row ib _ _)
 apply A3 (row ob _ _)
 exact E8 (ls:=toldR a r.row) rfl rfl rfl rfl rfl (Rd.ofRow (.here _ _ _)) (zav _ _) (Rd1.ofRow (.there _ (.here _ _ _)) rfl) (fun _ s=>(s.drop (.here _ _)).drop (.here _ _)) ⟨rfl,rfl,rfl⟩):p:=k
theorem qal(k:p:=by
 refine AR rfl ?_
 apply A7 3
 apply (gC)
 refine AR rfl ?_
 refine AN ?_
 apply (gK)
 apply A4 (row tu _ _)
 apply A4 (row nb _ _)
 apply A3 (diskH _ _ _)
 apply A3 (row bb _ _)
 apply A3 (row cb _ _)
 apply A3 (row ub _ _)
 apply A3 (repH _ _ _ _ _ _)
 apply A3 (row du _ _)
 refine H.imp (hfo _) ?_
 apply A3 (row eb _ _)
 apply A3 (row mb _ _)
 exact E8 (ls:=ls) rfl rfl rfl rfl rfl (Rd.ofRow (.here _ _ _)) hl1 (Rd1.ofRow (.there _ (.here _ _ _)) rfl) (fun _ s=>(s.drop (.here _ _)).drop (.here _ _)) ⟨ls,hl1,hl2,rfl,rfl,rfl⟩):p:=k
theorem qam(k:p:=by
 apply (gS)
 refine AD (ls:=b128 (secZ ni)) rfl rfl rfl (Rd.ofRow jA) (zam _) rfl ?_
 refine A8 rfl rfl rfl (ccount_fn f _ (secZ ni)) ?_
 rw[hn]
 apply (gG)
 refine C4 (lo:=some (.const (.int .i64 8))) (hi:=none) (mx:=none) (lv:=8) (hv:=128) (mv:=128) rfl rfl ⟨_,_,rfl,rfl⟩ rfl rfl (fun h=>by cases h) jE jE (Nat.le_refl _) rfl ?_
 rw[slP_at (show(128:Nat)≠8 by decide)]
 refine AQ (p:=ap) (n0:=i*120) (c:=ac) (sz:=1) (xs:=bytesV (List.replicate (i*120) 0)) (m:=120) (news:=bytesV (List.replicate 120 0)) rfl rfl rfl rfl rfl (fun p' c'=>jA) (Src.slice (win0 f (Rd.ofRow jA)) (by rw[zab,List.length_replicate])) (zao _) rfl jB jB fun p2 c2=>?_
 apply (gD)
 rw[←zak,List.replicate_append_replicate,show i*120+120=(i+1)*120 by omega]
 apply A4 (row xb _ _)
 apply A3 (diskH _ _ _)
 apply A3 (slc _ _ _ _ _ _)
 apply A3 (row pb _ _)
 exact AI (i+1,p2,c2) (by show i+1≤10;omega) (by show 10-(i+1)<10-i;omega)):p:=k
theorem qan(k:p:=by
 exact BA rfl iD ⟨rfl,rfl,rfl⟩):p:=k
theorem qao(k:p:=by
 skip
 try simp only[Bool.not_eq_true]at *
 refine AB func163 ntmps163 fun base=>?_
 apply (gA)
 refine H.box (ls:=m.vals q qc) rfl rfl rfl rfl fun mb=>?_
 apply (gG)
 refine BB ?_
 apply (gQ)
 apply (gR)
 refine B4 (.here _ _) ?_
 refine AE rfl rfl iD ⟨?_,rfl,rfl⟩
 simp[Msg.outer, *]):p:=k
theorem qap(k:p:=by
 apply (gP)
 refine H.shift rfl rfl rfl rfl jB hsh rfl ?_
 refine BL rfl rfl (byteAt_wrap n (k-1-i)) rfl ?_
 refine AS rfl rfl rfl rfl jE jE rfl rfl fun tb=>?_
 refine AQ (m:=1) rfl rfl rfl rfl rfl (fun p' c'=>jA) (Src.slice (Rd.ofRow jA) rfl) (zaa rfl) rfl jB jB fun p'' c''=>?_
 apply (gD)
 refine B4 (.here _ _) ?_
 have e1:l++beTop k n (i+1)=acc++[byteAt n (k-1-i)]:=by rw[←hacc];simp[beTop]
 refine H.know (d:=8) (u:=.int .i64 ((k:Int)-1-((i+1:Nat):Int))) rfl (congrArg (Value.int .i64) jB) ?_
 refine AX (i+1,p'',c'') kM jr ⟨rfl,?_,rfl,trivial⟩ rfl ?_
 ·show some _=some (Value.slice p'' (l++beTop k n (i+1)).length c'')
  rw[e1,List.length_append]
  exact rfl
 ·show _=slc p'' (l++beTop k n (i+1)).length c'' _ 1 (bytesV (l++beTop k n (i+1)))::A
  rw[e1,List.length_append,zak]
  rfl):p:=k
theorem qaq(k:p:=by
 apply A7 11
 refine AC (ls:=rep0) (vs:=rep0) (ls':=rep0) rfl rfl rfl (zaa rfl) rfl rfl (Nat.le_refl 2) jA ?_
 apply (gA)
 apply A3 (row tb _ _)
 refine AR rfl ?_
 apply A6 [12] 0
 apply (gB)
 refine An rfl ?_
 refine AN ?_
 skip
 apply A3 (row (i.ca c) _ _)
 apply A3 (row cb _ _)
 apply A3 (row tb _ _)
 apply A3 (row ob _ _)
 exact BR ob trivial ⟨rfl,rfl,rfl,trivial⟩ rfl rfl):p:=k
theorem qar(k:p:=by
 apply (gS)
 apply A3 (row tb _ _)
 refine H.db (S:=[_]) rfl ?_
 apply A6 [0,1,3,4,5] 3
 apply (gF)
 refine AH (ls:=opL x y) rfl rfl rfl (Rd.ofRow jA) rfl rfl ?_
 apply (gB)
 refine An rfl ?_
 apply A7 2
 refine A8 rfl rfl rfl (lby_fn f _) ?_
 apply (gA)
 refine AR rfl ?_
 apply A7 6
 apply A3 (mp mb _ _)
 apply A3 (row lb _ _)
 refine BM (fs:=[]) (cs:=[]) rfl rfl rfl rfl (hp _ mb) ?_
 show H _ _ _ _ _ (row _ _ _::mp _ _ _::_) _
 apply (gA)
 apply A3 (row tb _ _)
 refine AR rfl ?_
 apply A7 7
 refine AC (ls:=rpl0) (vs:=rpl0) (ls':=rpl0) rfl rfl rfl (zaa rfl) rfl rfl (Nat.le_refl 2) jA ?_
 apply (gA)
 refine AR rfl ?_
 refine AN ?_
 apply (gK)
 apply A4 (row tb _ _)
 apply A3 (row rb _ _)
 exact BS (ls:=rpl0) rfl rfl rfl (Rd.ofRow (.here _ _ _)) rfl (fun _ s=>(s.drop (.here _ _)).imp (led_fold mb)) ⟨rfl,rfl,rfl⟩):p:=k
theorem qas(k:p:=by
 apply (gA)
 apply A3 (row tb 53 _)
 apply A3 (row wb _ _)
 apply A3 (row t2 _ _)
 refine AR rfl ?_
 apply A7 7
 refine AC (ls:=ansZ 0 none 0 0) (vs:=ls) (ls':=ls) rfl rfl rfl hls.one hls.len (by
  unfold splice
  rw[List.take_zero,List.drop_eq_nil_of_le (by rw[hls.len];exact Nat.le_refl 163)];simp) kT jA ?_
 apply (gA)
 apply A3 (row tb 53 _)
 apply A3 (row wb _ _)
 apply A3 (row t2 _ _)
 refine AR rfl ?_
 refine AN ?_
 skip
 apply A4 (row tb _ _)
 apply A3 (slc ap _ _ 80 _ _)
 apply A3 (slc lp _ _ 34 _ _)
 apply A3 (cluH _ _ _ _ _)
 apply A3 (accH p c _)
 apply A3 (row ob _ _)
 apply A3 (row eb _ _)
 apply A3 (row wb _ _)
 apply A3 (row t2 _ _)
 exact BR (ls,p,c,eb) hls ⟨rfl,rfl,rfl,trivial⟩ rfl rfl):p:=k
theorem qat(k:p:=by
 apply A7 13
 refine AC (ls:=msgZ.vals none 0) (vs:=nextV cu) (ls':=nextV cu) rfl rfl rfl (nextV_one cu) (zcd cu) (set121 rfl (zcd cu)) (by rw[zcd];exact Nat.le_refl 121) jA ?_
 apply (gA)
 refine AR rfl ?_
 apply A6 [14] 0
 apply (gB)
 refine An rfl ?_
 refine AN ?_
 skip
 apply A3 (slc _ _ _ 136 _ _)
 apply A3 (slc _ _ _ 34 _ _)
 apply A3 (row wc _ _)
 apply A3 (runH _ _ _)
 apply A3 (row pe _ _)
 apply A3 (chkH _ _ _)
 apply A3 (lgH _ _ _ _ _ _)
 apply A3 (waQ _ _)
 apply A3 (loQ _ _ _)
 apply A3 (row rb _ _)
 refine H.imp (zbb (r:={r with ks:=r.ks.set s qk}) ⟨⟨lr,wt,lg,ck,pe,rn,wc⟩,pp,pc,tp,tc⟩) ?_
 apply A3 (row ob _ _)
 exact BR (cu,ob) hcu ⟨rfl,rfl,rfl,rfl,trivial⟩ rfl rfl):p:=k
theorem qau(k:p:=by
 apply (gA)
 apply A3 (row nb _ _)
 refine AR rfl ?_
 apply A7 4
 refine AW rfl rfl rfl (watNew_fn f _) fun wc=>?_
 apply (gA)
 apply A3 (row nb _ _)
 refine AR rfl ?_
 apply A6 [5] 2
 apply (gM)
 refine An rfl ?_
 apply A7 6
 refine H.box (ls:=repN n o pn0 pn0 pn0 pn0 wt rn wc) rfl rfl rfl rfl fun rb=>?_
 exact qaf):p:=k
theorem qav(k:p:=by
 exact BS rfl rfl rfl (Rd.ofRow jA) rfl (fun _ s=>s.drop (.here _ _)) ⟨rfl,rfl,rfl⟩):p:=k
theorem qaw(k:p:=by
 apply A7 17
 refine AC (ls:=b128 fun _=>0) (vs:=b128 (dget m ((p+i:Nat):Int))) (ls':=b128 (dget m ((p+i:Nat):Int))) rfl rfl rfl (b128_one _) (zam _) (b128_store _ _) jo jA ?_
 apply (gA)
 apply A3 (row cb _ _)
 refine AR rfl ?_
 apply A6 [18] 0
 apply (gB)
 refine An rfl ?_
 refine AN ?_
 apply (gP)
 refine AD (ls:=b128 (dget m ((p+i:Nat):Int))) rfl rfl rfl (Rd.ofRow jA) (zam _) rfl ?_
 refine A8 rfl rfl rfl (ccount_fn f _ _) ?_
 refine H.max2 rfl rfl rfl rfl rfl ?_
 apply (gD)
 apply A4 (row xb _ _)
 apply A3 (row cb _ _)
 exact AI (i+1,_) (by show i+1≤20;omega) (by show 20-(i+1)<20-i;omega)):p:=k
theorem qax(k:p:=by
 refine AD (ls:=rep0) rfl rfl rfl (Rd.ofRow jA) rfl rfl ?_
 refine AC (ls:=rep0) (vs:=rep0) (ls':=rep0) rfl rfl rfl (zaa rfl) rfl rfl (Nat.le_refl 2) jA ?_
 apply (gK)
 apply A4 (row tb _ _)
 apply A3 (row rb _ _)
 exact B5 (ls:=rep0) rfl rfl rfl rfl (Rd.ofRow (.here _ _ _)) rfl (fun _ s=>s.drop (.here _ _)) ⟨rfl,rfl,rfl⟩):p:=k
theorem qay(k:p:=by
 skip
 try simp only[Bool.not_eq_true]at *
 refine A9 func281 ntmps281 fun base=>?_
 repeat(first|(apply (gU))|(refine H.box (ls:=a.vals p c) rfl rfl rfl rfl fun ab=>?_)|(refine H.box (ls:=b.vals r d) rfl rfl rfl rfl fun bb=>?_))
 refine B4 (.here _ _) ?_
 refine B4 (.here _ _) ?_
 refine AE rfl rfl iD ⟨?_,rfl,rfl⟩
 simp[Bod.eqB, *]):p:=k
theorem qaz(k:p:=by
 apply A7 11
 refine AC (ls:=Pkt.zero.vals) (vs:=p.vals) (ls':=p.vals) rfl rfl rfl (zaa rfl) rfl rfl (Nat.le_refl 14) jA ?_
 apply (gA)
 apply A3 (row tb _ _)
 apply A3 (row cb _ _)
 refine AR rfl ?_
 apply A6 [12] 0
 apply (gB)
 refine An rfl ?_
 refine AN ?_
 skip
 apply A3 (fam (cliF _ _ _ _ _) _)
 apply A3 (fam (siteF _ _ _ _) _)
 apply A3 (sitL _ _)
 apply A3 (row ab _ _)
 apply A3 (netH _ _ _)
 apply A3 (row tb _ _)
 apply A3 (row cb _ _)
 apply A3 (row pb _ _)
 exact BR (p,N',pb) ⟨hpc,hpg,hN'⟩ ⟨rfl,rfl,rfl,rfl,trivial⟩ rfl rfl):p:=k
theorem qaA(k:p:=by
 apply (gA)
 refine AR rfl ?_
 apply A6 [9] 0
 apply (gB)
 refine An rfl ?_
 refine AN ?_
 refine B4 (.there _ (.here _ _)) ?_
 refine CE (.there _ (.here _ _)) ?_
 exact BR vb trivial ⟨rfl,rfl,rfl,trivial⟩ rfl rfl):p:=k
theorem qaB(k:p:=by
 apply A7 5
 refine AC (ls:=doZ) (vs:=[.func (.func hid) #[] (cs b1 b2 b3).toArray,.bool whob,.bool ofb]) (ls':=[.func (.func hid) #[] (cs b1 b2 b3).toArray,.bool whob,.bool ofb]) rfl rfl rfl (zaa rfl) rfl rfl (Nat.le_refl 3) jA ?_
 apply (gA)
 apply A3 (row tb _ _)
 refine AR rfl ?_
 refine AN ?_
 skip
 apply A3 (row b3 _ _)
 apply A3 (row b2 _ _)
 apply A3 (row b1 _ _)
 apply A3 (cluH _ _ _ _ _)
 apply A3 (row ab _ _)
 apply A3 (row tb _ _)
 apply A3 (row eb _ _)
 exact BR (b1,b2,b3,eb) trivial ⟨rfl,rfl,rfl,rfl,trivial⟩ rfl rfl):p:=k
theorem qaC(k:p:=by
 apply A7 13
 refine AC (ls:=[.int .i64 0,.int .u64 0,.int .i64 0,.string .empty,.int .u64 0]) (vs:=ls) (ls':=ls) rfl rfl rfl hone hlen (hset _ rfl) (by rw[hlen];decide) jA ?_
 apply (gA)
 refine AR rfl ?_
 apply A6 [14] 0
 apply (gB)
 refine An rfl ?_
 refine AN ?_
 skip
 apply A3 (staH _ _ _)
 apply A3 (runH _ _ _)
 apply A3 (row rb _ _)
 apply A3 (row stb _ _)
 apply A3 (row tb _ _)
 apply A3 (row qb _ _)
 apply A3 (row ob _ _)
 exact BR ob trivial ⟨rfl,rfl,rfl,rfl,trivial⟩ rfl rfl):p:=k
theorem qaD(k:p:=by
 apply A7 9
 refine AC (ls:=[.int .i64 0,.int .u64 0,.int .i64 0,.string .empty,.int .u64 0]) (vs:=toldV ((J+1:Nat):Int)) (ls':=toldV ((J+1:Nat):Int)) rfl rfl rfl (zaa rfl) rfl rfl (Nat.le_refl 5) jA ?_
 apply (gA)
 refine AR rfl ?_
 refine AN ?_
 skip
 apply A4 (row ob _ _)
 apply A3 (row rb _ _)
 apply A3 (row qb _ _)
 apply A3 (row tb _ _)
 exact BR tb trivial ⟨rfl,rfl,rfl,rfl,rfl,rfl,rfl,rfl,rfl,trivial⟩ rfl rfl):p:=k
theorem qaE(k:p:=by
 apply A7 10
 refine AC (ls:=rpl0) (vs:=rpl0) (ls':=rpl0) rfl rfl rfl (zaa rfl) rfl rfl (Nat.le_refl 2) jA ?_
 apply (gA)
 refine AR rfl ?_
 apply A6 [11] 0
 apply (gB)
 refine An rfl ?_
 refine AN ?_
 skip
 apply A3 (staH _ _ _)
 apply A3 (slc rp2 _ _ _ _ _)
 apply A3 (row rb _ _)
 apply A3 (row qb _ _)
 apply A3 (row ob _ _)
 exact BR ob trivial ⟨rfl,rfl,rfl,rfl,rfl,rfl,rfl,rfl,rfl,rfl,trivial⟩ rfl rfl):p:=k
theorem qaF(k:p:=by
 refine An rfl ?_
 apply A7 33
 refine AC (ls:=bodZ) (vs:=bodK 2 (v+1)) (ls':=bodK 2 (v+1)) rfl rfl rfl (zbn _ _) rfl rfl (Nat.le_refl 76) jA ?_
 apply (gA)
 apply A3 (row xb _ _)
 refine AR rfl ?_
 apply A6 [34] 0
 apply (gB)
 refine An rfl ?_
 refine AN ?_
 apply (gK)
 apply A4 (slc ap _ _ _ _ _)
 apply A3 (row xb _ _)
 apply A3 (row ob _ _)
 exact B5 (ls:=bodK 2 (v+1)) rfl rfl rfl rfl (Rd.ofRow (.here _ _ _)) rfl (fun _ s=>s.drop (.here _ _)) ⟨rfl,rfl,rfl⟩):p:=k
theorem qaG(k:p:=by
 obtain⟨kk2,hkk⟩:∃kk2,kk2=k:=⟨_,rfl⟩
 apply (gT)
 rw[←hkk]at hgr2⊢
 apply A4 (row xb _ _)
 exact AX (x.m::ds,kk2) ⟨fun y hy=>by
   rcases List.mem_cons.1 hy with h|h
   ·rw[h];exact List.mem_map_of_mem hx
   ·exact hsub y h,List.nodup_cons.2 ⟨hns,hnd⟩,hgr2,by show ds.length+1+unsE es ((x.m::ds).map keyM)≤100000;omega⟩ hlt3 ⟨rfl,rfl,rfl,by show lk _ _=some (Value.int .i64 ((cntO (x.m::ds) o:Nat):Int));rw[hcn];rfl,rfl,trivial⟩ rfl rfl):p:=k
theorem qaH(k:p:=by
 exact AX (e.1::seen,kk,dd) ⟨hkd,by
   intro key hkey d' hd'
   rcases List.mem_cons.1 hkey with h|h
   ·rw[h]at hd'⊢
    exact hnew d' hd'
   ·exact hall key h d' hd'⟩ (unseen_lt he hns) ⟨rfl,rfl,rfl,rfl,trivial⟩ rfl rfl):p:=k
theorem qaI(k:p:=by
 refine B4 (.here _ _) ?_
 exact qad):p:=k
theorem qaJ(k:p:=by
 refine AX (i+1) kL jb ⟨rfl,rfl,?_,rfl,rfl,rfl,rfl,trivial⟩ rfl rfl
 rw[hnx];rfl):p:=k
theorem qaK(k:p:=by
 apply A3 (cluH _ _ _ _ _)
 apply A3 (row ab _ _)
 apply A3 (row tb _ _)
 apply A3 (row eb _ _)
 exact BR () trivial ⟨rfl,rfl,rfl,rfl,rfl,trivial⟩ rfl rfl):p:=k
theorem qaL(k:p:=by
 refine A9 func277 ntmps277 fun base=>?_
 apply (gT)
 refine H.imp (zax hb hc) ?_
 refine A8 rfl rfl rfl hh ?_
 apply (gL)
 refine D6 fun p2 c2 hb2 hc2=>?_
 apply (gS)
 refine H.imp (zax hb2 hc2) ?_
 refine A8 rfl rfl rfl (take_no f F cb (.inl rfl)) ?_
 apply (gO)
 refine D6 fun p4 c4 hb4 hc4=>?_
 apply (gS)
 exact AE rfl rfl (fin ht) ⟨rfl,rfl,rfl⟩):p:=k
theorem qaM(k:p:=by
 repeat(first|(apply (gU))|(refine AD (ls:=x.vals q qc) rfl rfl rfl (Rd.ofRow jA) rfl rfl ?_)|(refine BM (fs:=[]) (cs:=[]) (vs:=[.agg (x.vals q qc).toArray]) rfl rfl rfl rfl (hm _) ?_))
 refine B4 (.here _ _) ?_
 refine B4 (.here _ _) ?_
 refine AE rfl rfl iD ⟨?_,rfl,rfl⟩
 simp[Bod.mayP, *]):p:=k
theorem qaN(k:p:=by
 exact⟨m1,m2,h1,h2,h3,zap (φ:=fun M:List MV=>M.map MV.m=L.map MV.m) (B:=fun M=>[loreH nil0 lb n M]) L rfl _ h4⟩):p:=k
theorem qaO(k:p:=by
 exact BN rfl rfl rfl iD ⟨rfl,rfl,rfl⟩):p:=k
theorem qaP(k:p:=by
 apply (gA)
 apply A3 (row tb _ _)
 refine AR rfl ?_
 apply A7 6
 apply A3 (row (i.ca c) _ _)
 apply A5 (hhe _)
 apply (gA)
 apply A3 (row tb _ _)
 refine AR rfl ?_
 apply A6 [7,8,9] 2
 apply (gI)
 refine An rfl ?_
 exact qaq):p:=k
theorem qaQ(k:p:=by
 apply A3 (pts D _)
 apply A3 (loopH _ _ _ _ _ _ _ _)
 exact Dd ⟨rfl,rfl,rfl⟩):p:=k
theorem qaR(k:p:=by
 exact SetV.mid (l:=x.vals qp qc) (l':=({x with view:=(s.num 8:Nat)}:Bod).vals qp qc) (i:=1) jG pre post):p:=k
theorem qaS(k:p:=by
 apply A3 (row wb _ _)
 apply A3 (row nb _ _)
 apply A3 (row kb _ _)
 refine BM (fs:=[]) (cs:=[.pointer (some ⟨nb,0,none⟩),.pointer (some ⟨kb,0,none⟩)]) rfl rfl rfl rfl (watRun_fn f _ hn) ?_
 apply (gK)
 apply A4 (row kb _ _)
 apply A4 (row nb _ _)
 exact qad):p:=k
theorem qaT(k:p:=by
 apply (gA)
 refine H.box (ls:=x.vals) rfl rfl rfl rfl fun mb=>?_
 apply (gG)
 refine AD (ls:=x.vals) rfl rfl rfl (Rd.ofRow jA) rfl rfl ?_
 apply A5 (hmay _)
 apply (gR)
 apply A4 (row mb _ _)
 refine AY 5 1 ?_
 exact AU ⟨none,0,rfl,rfl,rfl⟩):p:=k
theorem qaU(k:p:=by
 refine Cp (enc:=key64) (k:=(0:Int)) (v:=.int .i64 (v:Nat)) rfl rfl rfl jA rfl rfl rfl ?_
 apply (gL)
 refine CN (enc:=key64) (k:=(0:Int)) rfl rfl rfl rfl jA rfl ?_
 apply (gK)
 exact AE rfl rfl (pst_fold (v:=v+1) (ep,ec,mb)) ⟨rfl,rfl,rfl⟩):p:=k
theorem qaV(k:p:=by
 apply A3 (row ob _ _)
 exact B5 (ls:=bodK 0 0) rfl rfl rfl rfl (Rd.ofRow (.here _ _ _)) rfl (fun _ s=>s.drop (.here _ _)) ⟨rfl,rfl,rfl⟩):p:=k
theorem qaW(k:p:=by
 exact AI (i+1,d) ⟨by show i+1≤n+1;omega,hd,hR⟩ (by show b-(i+1)<b-i;omega)):p:=k
theorem qaX(k:p:=by
 refine B4 (.here _ _) ?_
 refine B4 (.here _ _) ?_
 refine AE rfl rfl iD ⟨?_,rfl,rfl⟩
 simp[Bod.eqB, *]):p:=k
theorem qaY(k:p:=by
 have e:((List.range n).map sb).flatMap ptrV=(List.range n).map fun j=>.pointer (some ⟨sb j,0,none⟩):=by
  induction (List.range n)with
  |nil=>rfl
  |cons a l ih=>rw[List.map_cons,List.flatMap_cons,ih];rfl
 rw[e,List.getElem?_map,List.getElem?_range ho];rfl):p:=k
theorem qaZ(k:p:=by
 apply (gG)
 refine AQ (xs:=[]) (m:=m) (news:=ls) rfl rfl rfl rfl rfl (fun p' c'=>.here _ _ _) (Src.slcS (.there _ (.here _ _ _)) hls) h1 rfl jB jB fun p2 c2=>?_
 rw[Nat.zero_add,List.nil_append]
 apply (gK)
 exact AU ⟨p2,c2,rfl,rfl,rfl⟩):p:=k
theorem qba(k:p:=by
 apply A4 (row xb _ _)
 refine H.imp chkH_fold ?_
 exact qad):p:=k
theorem qbb(k:p:=by
 refine AR rfl ?_
 apply A7 2
 refine AC (ls:=toldR a r.row) (vs:=toldR a r.row) (ls':=toldR a r.row) rfl rfl rfl (toldR_one _ _) (zav _ _) (toldR_set _ _ (zav _ _)) kC jA ?_
 apply (gA)
 exact qak):p:=k
theorem qbc(k:p:=by
 unfold splice
 rw[List.take_zero,List.drop_eq_nil_of_le jB];simp):p:=k
theorem qbd(k:p:=by
 apply A4 (row yb _ _)
 apply A3 (chkH _ _ _)
 apply A3 (lgH _ _ _ _ _ _)
 apply A3 (waQ _ _)
 apply A3 (loQ _ _ _)
 apply A3 (row rb _ _)
 refine H.imp hfo ?_
 exact qad):p:=k
theorem qbe(k:p:=by
 rw[show(2:Int)=((2:Nat):Int)from rfl,tdiv64,wr_i64 jB]):p:=k
theorem qbf(k:p:=by
 exact AU ⟨p,c,rfl,rfl,rfl⟩):p:=k
theorem qbg(k:p:=by
 by_cases h3:keyM y.m∈seen
 ·rw[decide_eq_true h3,decide_eq_true (List.mem_cons_of_mem _ h3)]
 ·rw[decide_eq_false h3,decide_eq_false fun h4=>by
   rcases List.mem_cons.1 h4 with h5|h5
   ·exact e h5.symm
   ·exact h3 h5]):p:=k
theorem qbh(k:p:=by
 apply A3 (netQ _ _)
 apply A3 (fam (cliF _ _ _ _ _) _)
 apply A3 (fam (siteF _ _ _ _) _)
 apply A3 (sitL _ _)
 apply A3 (row cb _ _)
 refine H.imp (zbc (asked:=asked) (w:=w) i hw) ?_
 exact qan):p:=k
theorem qbi(k:p:=by
 exact AU ⟨p',c',rfl,rfl,rfl⟩):p:=k
theorem qbj(k:p:=by
 refine⟨?_,?_,rfl,trivial⟩
 ·show some (Value.int .i64 ((k:Int)-1))=some (Value.int .i64 ((k:Int)-1-((0:Nat):Int)))
  simp
 ·show some (Value.slice p2 l.length c2)=some (Value.slice p2 (l++[]).length c2)
  simp):p:=k
theorem qbk(k:p:=by
 refine AB func224 ntmps224 fun base=>?_
 apply (gA)
 refine H.box (ls:=x.vals q qc) rfl rfl rfl rfl fun xb=>?_
 apply (gS)
 refine B4 (.here _ _) ?_
 exact AE rfl rfl iD ⟨by simp[h1],rfl,rfl⟩):p:=k
theorem qbl(k:p:=by
 exact BS rfl rfl rfl (Rd.ofRow jA) rfl (fun _ s=>s.drop (.there _ (.here _ _))) ⟨rfl,rfl,rfl⟩):p:=k
theorem qbm(k:p:=by
 apply A7 8
 refine AC (ls:=[.nilFunc,.nilFunc,.nilFunc]) (vs:=[.nilFunc,.nilFunc,.nilFunc]) (ls':=[.nilFunc,.nilFunc,.nilFunc]) rfl rfl rfl (zaa rfl) rfl rfl (Nat.le_refl 3) jA ?_
 exact qaA):p:=k
theorem qbn(k:p:=by
 exact AI (i+1) kN js):p:=k
theorem qbo(k:p:=by
 apply (gE)
 refine B4 (.here _ _) ?_
 refine AE rfl rfl iD ⟨?_,rfl,rfl⟩
 rw[hchk,if_neg jB,if_neg hc4,if_neg (by rintro(h|h);omega;rw[hab]at h;cases h)]):p:=k
theorem qbp(k:p:=by
 refine B4 (.here _ _) ?_
 refine AE rfl rfl iD ⟨?_,rfl,rfl⟩
 simp[Msg.outer, *]):p:=k
theorem qbq(k:p:=by
 refine AR rfl ?_
 apply A7 2
 refine AC (ls:=ls) (vs:=ls) (ls':=ls) rfl rfl rfl hl2 hl1 (set121 hl1 hl1) jt jA ?_
 apply (gA)
 exact qal):p:=k
theorem qbr(k:p:=by
 apply A3 (row ob _ _)
 exact B5 (ls:=[.int .i64 0,.int .u64 0,.int .i64 0,.string .empty,.int .u64 0]) rfl rfl rfl rfl (Rd.ofRow (.here _ _ _)) rfl (fun _ s=>s.drop (.here _ _)) ⟨rfl,rfl,rfl⟩):p:=k
theorem qbs(k:p:=by
 apply A4 (row tb _ _)
 exact qad):p:=k
theorem qbt(k:p:=by
 apply A7 8
 refine AC (ls:=[.nilFunc,.nilFunc,.nilFunc]) (vs:=codecCells f1 f2 f3) (ls':=codecCells f1 f2 f3) rfl rfl rfl (zaa rfl) rfl rfl (Nat.le_refl 3) jA ?_
 exact qaA):p:=k
theorem qbu(k:p:=by
 apply (gP)
 refine A8 rfl rfl rfl hi ?_
 apply (gK)
 exact Cq rfl iD ⟨rfl,rfl,rfl⟩):p:=k
theorem qbv(k:p:=by
 rcases Nat.lt_or_ge i xs.length with h'|h'
 ·exact h'
 ·rw[List.getElem?_eq_none h']at h;cases h):p:=k
theorem qbw(k:p:=by
 exact BS rfl rfl rfl (Rd.ofRow (.here _ _ _)) rfl (fun _ s=>s.drop (.here _ _)) ⟨rfl,rfl,rfl⟩):p:=k
theorem qbx(k:p:=by
 obtain⟨a,b,c,d,e,m,hm,hd,hw⟩:=s
 obtain⟨m1,m2,dj,rfl,⟨fn,tmps,h1,h2,h3⟩,h4⟩:=hm
 exact⟨fn,tmps,h1,h2,a,b,c,d,e,_,⟨m1,m2,dj,rfl,h3,h4⟩,hd,hw⟩):p:=k
theorem qby(k:p:=by
 apply (gR)
 refine B4 (.here _ _) ?_
 refine AE rfl rfl iD ⟨?_,rfl,rfl⟩
 rw[hchk,if_neg jB,if_neg hc4,if_pos (.inr hab)]):p:=k
theorem qbz(k:p:=by
 rcases Nat.lt_or_ge b w.heap.size with h|h
 ·exact h
 ·simp[Array.getElem?_eq_none h]at hb):p:=k
theorem qbA(k:p:=by
 rw[h 0 jE,h 1 jE,h 2 jE,h 3 jE,h 4 jE,h 5 jE,h 6 jE,h 7 jE,h 8 jE,h 9 jE,h 10 jE]):p:=k
theorem qbB(k:p:=by
 intro h
 obtain⟨k,v⟩:=e
 have h1:=h (k,v) List.mem_cons_self
 unfold putKV
 rw[if_neg (fun e=>h1 e.symm),ih (fun e he=>h e (List.mem_cons_of_mem _ he))];rfl):p:=k
theorem qbC(k:p:=by
 apply (gG)
 refine H.cl (h _) fun v f' A' hr=>?_
 obtain⟨m',h1,h2,rfl,hff,rfl⟩:=hr
 rw[hff]
 clear hff
 apply (gK)
 exact AU ⟨m',h1,h2,rfl,rfl,rfl⟩):p:=k
theorem qbD(k:p:=by
 apply (gK)
 exact AU ⟨p1,c1,rfl,rfl,rfl⟩):p:=k
theorem qbE(k:p:=by
 obtain⟨a,b,c,d,e,m,hm,hd,hw⟩:=s
 obtain⟨m1,m2,dj,rfl,h3,h4⟩:=hm
 exact⟨a,b,c,d,e,_,⟨m1,m2,dj,rfl,⟨fn,tmps,h1,h2,h3⟩,h4⟩,hd,hw⟩):p:=k
theorem qbF(k:p:=by
 apply (gA)
 apply A3 (row nb _ _)
 refine AR rfl ?_
 apply A7 3
 refine AW rfl rfl rfl (runNew_fn f _ x) fun rn=>?_
 exact qau):p:=k
theorem qbG(k:p:=by
 refine AR rfl ?_
 apply A6 [10] 0
 apply (gB)
 refine An rfl ?_
 refine AN ?_
 exact BR (p3,c3) trivial ⟨rfl,rfl,trivial⟩ rfl rfl):p:=k
theorem qbH(k:p:=by
 unfold cF
 rw[List.getD_eq_getElem?_getD]
 show((List.replicate 8 (false,List.replicate 11 false))[j]?).getD _=_
 rw[List.getElem?_replicate,if_pos hj];rfl):p:=k
theorem qbI(k:p:=by
 apply A3 (cluH _ _ _ _ _)
 refine AW rfl rfl rfl (clclientH_fn f _ hk8) fun s2=>?_
 unfold pv
 apply (gL)
 exact qaK):p:=k
theorem qbJ(k:p:=by
 exact AU ⟨none,0,rfl,rfl,rfl⟩):p:=k
theorem qbK(k:p:=by
 unfold un
 rcases hd k with e|e
 ·rw[e];exact hk
 ·rw[e]at hk;cases hk):p:=k
theorem qbL(k:p:=by
 rw[e]at h1
 exact h1.sub rfl):p:=k
theorem qbM(k:p:=by
 refine AC (ls:=bodZ) (vs:=bodK 0 0) (ls':=bodK 0 0) rfl rfl rfl (zbn _ _) rfl rfl (Nat.le_refl 76) jA ?_
 apply (gK)
 exact qaV):p:=k
theorem qbN(k:p:=by
 skip
 refine AB func138 ntmps138 fun base=>?_
 apply (gS)
 refine AE rfl rfl iD ⟨?_,rfl,rfl⟩
 simp[fewZ, *]):p:=k
theorem qbO(k:p:=by
 apply A3 (repH _ _ _ _ _ _)
 apply A3 (lonH _ _ _ _ _ _ _ _)
 apply A3 (row t2 _ _)
 exact qaQ):p:=k
theorem qbP(k:p:=by
 unfold Instr.keyThatStays
 rw[List.getElem?_toArray,hei]
 simp only[Option.map_some,Option.getD_some,entOf,hk.same,if_true,Sem.run_pure]):p:=k
theorem qbQ(k:p:=by
 refine cutH_open fun p c hb hc=>?_
 refine AB func97 ntmps97 fun base=>?_
 apply (gT)
 exact AE rfl rfl (zax hb hc) ⟨rfl,rfl,rfl⟩):p:=k
theorem qbR(k:p:=by
 unfold hRow
 have hl:(s.vals++bytesV part).length=72:=by rw[List.length_append,zab,h];rfl
 rw[List.getElem?_append_right jB,hl]
 rfl):p:=k
theorem qbS(k:p:=by
 refine AB func256 ntmps256 fun base=>?_
 apply (gD)
 apply A5 (hl _)
 skip
 apply A5 (hs _ _)
 apply (gA)
 exact qan):p:=k
theorem qbT(k:p:=by
 exact E9 (b:=eb) (off:=0) rfl rfl rfl rfl (.here _ _) (Rd1.ofRow (.here _ _ _) rfl) (fun _ s=>s.drop (.here _ _)) ⟨rfl,rfl,rfl⟩):p:=k
theorem qbU(k:p:=by
 have:f b=none:=by
  rcases hd b with h|h
  ·exact h
  ·rw[hg]at h
   simp[sing]at h
 unfold un
 rw[this,hg]
 simp[sing]):p:=k
theorem qbV(k:p:=by
 exact BA rfl iD ⟨lb,rfl,rfl,rfl⟩):p:=k
theorem qbW(k:p:=by
 simp only[execOp,resolve,invoke,builtin,Sem.run_bind,Sem.run_pure,Result.andThen_ok,List.map_toArray,List.map_cons,List.map_nil,h]):p:=k
theorem qbX(k:p:=by
 apply (gD)
 exact AI (j,swp d (j+1) j) ⟨by show j≤i;omega,by rw[swp_size];exact hd,hr⟩ (by show j<j+1;omega)):p:=k
theorem qbY(k:p:=by
 apply (gN)
 refine AE rfl rfl iD ⟨?_,rfl,rfl⟩
 simp):p:=k
theorem qbZ(k:p:=by
 refine H.imp (lg_fold (n:=n) (kn:=kn) (lg:=lg) (vt:=vt) (x:=x) ⟨vb,pp,pc,cp,wb,lp,lc,np,nc,hb,pb⟩) ?_
 exact qad):p:=k
theorem qca(k:p:=by
 exact⟨⟨Int.le_refl _,z0⟩,⟨show(0:Int)≤(a:Int) by omega,show(a:Int)≤18446744073709551615 by omega⟩,hr⟩):p:=k
theorem qcb(k:p:=by
 exact AI 1 (Nat.le_refl 1) (Nat.lt_succ_self 0)):p:=k
theorem qcc(k:p:=by
 exact AE rfl rfl iD ⟨p3,c3,by rw[e3,List.length_append];rfl,rfl,by rw[e3,List.length_append,zak];rfl⟩):p:=k
theorem qcd(k:p:=by
 unfold callFunc
 simp only[Sem.run_bind,run_program,Result.andThen_ok,h1,h2,h3,Bool.false_eq_true,if_false,Sem.run_pure]):p:=k
theorem qce(k:p:=by
 refine B4 (.here _ _) ?_
 exact qaI):p:=k
theorem qcf(k:p:=by
 clear hquo hw
 apply (gS)
 exact qaI):p:=k
theorem qcg(k:p:=by
 by_cases c:k=k'
 ·simp[c]
 ·simp only[c,if_false,List.map_cons,ih,List.mem_cons,false_or]
  split<;>simp):p:=k
theorem qch(k:p:=by
 apply A4 (row mb _ _)
 exact qad):p:=k
theorem qci(k:p:=by
 exact B5 (ls:=q.vals) rfl rfl rfl rfl (Rd.ofRow (.here _ _ _)) rfl (fun _ s=>s.drop (.here _ _)) ⟨rfl,rfl,rfl⟩):p:=k
theorem qcj(k:p:=by
 show(kRow 11 vv)[t]?=(kRow 11 (updF vv i v))[t]?
 rw[kRow_at jB,kRow_at jB,zcf _ _ jB]):p:=k
theorem qck(k:p:=by
 unfold qdels at h
 rw[hn]at h
 have h:some w=some w1:=h
 injection h with h;exact⟨rfl,h.symm⟩):p:=k
theorem qcl(k:p:=by
 rw[List.getD_eq_getElem?_getD,List.getElem?_eq_getElem h];rfl):p:=k
theorem qcm(k:p:=by
 refine An rfl ?_
 refine AN ?_
 apply (gK)
 exact qbs):p:=k
theorem qcn(k:p:=by
 refine A9 func144 ntmps144 fun base=>?_
 apply (gS)
 exact AE rfl rfl fin ⟨rfl,rfl,rfl⟩):p:=k
theorem qco(k:p:=by
 exact BN rfl rfl rfl iD ⟨lb,rfl,rfl,rfl⟩):p:=k
theorem qcp(k:p:=by
 exact BN rfl rfl rfl iD ⟨cb,rfl,rfl,rfl⟩):p:=k
theorem qcq(k:p:=by
 exact AE rfl rfl iD ⟨by rw[←h],rfl,rfl⟩):p:=k
theorem qcr(k:p:=by
 unfold splice
 rw[List.take_zero,List.drop_eq_nil_of_le (by rw[Nat.zero_add,hsl];exact Nat.le_refl 76)];simp):p:=k
theorem qcs(k:p:=by
 unfold dmOf
 rw[←hL.mark]
 have:mk? (envOf 0 args)=none:=lk_envOf args 0 _ jB
 rw[this]):p:=k
theorem qct(k:p:=by
 refine AE rfl rfl iD ⟨?_,rfl,rfl⟩
 congr 1
 rw[decide_eq_false (by unfold pairP;omega)]):p:=k
theorem qcu(k:p:=by
 exact De rfl rfl rfl (Rd1.ofRow (.here _ _ _) rfl) (fun _ s=>s.drop (.here _ _)) ⟨p,c,rfl,rfl,rfl⟩):p:=k
theorem qcv(k:p:=by
 rw[if_neg e,List.getD_eq_getElem?_getD,List.getD_eq_getElem?_getD,List.getElem?_set_ne (fun h=>e h.symm)]):p:=k
theorem qcw(k:p:=by
 rcases Nat.lt_or_ge j xs.length with h|h
 ·exact h
 ·simp[List.getElem?_eq_none h]at hj):p:=k
theorem qcx(k:p:=by
 rcases Nat.lt_or_ge i xs.length with h'|h'
 ·exact h'
 ·rw[List.getElem?_eq_none h']at hx;cases hx):p:=k
theorem qcy(k:p:=by
 show slc p2 l.length c2 _ 1 (bytesV l)::A=slc p2 (l++[]).length c2 _ 1 (bytesV (l++[]))::A
 simp):p:=k
theorem qcz(k:p:=by
 skip
 apply (gS)
 obtain⟨jj,hjj⟩:∃jj,jj=2*i+1:=⟨_,rfl⟩
 exact qag):p:=k
theorem qcA(k:p:=by
 rw[List.length_take,hall,Nat.min_eq_left jB,Nat.zero_add]at h1
 rw[Nat.mul_one];exact h1):p:=k
theorem qcB(k:p:=by
 exact key _ rfl rfl (decide_eq_true (show 1≤(a:Int)∧(a:Int)≤4611686018427387904 by omega))):p:=k
theorem qcC(k:p:=by
 repeat(first|(refine H.not (b:=true) (c:=false) rfl rfl rfl rfl ?_)|(apply (gU)))
 exact qad):p:=k
theorem qcD(k:p:=by
 subst e
 apply (gN)
 refine AE rfl rfl iD ⟨?_,rfl,rfl⟩
 rw[idxI_none hb]):p:=k
theorem qcE(k:p:=by
 apply (gR)
 refine AE rfl rfl iD ⟨?_,rfl,rfl⟩
 rw[idxI_at hx hp hb]):p:=k
theorem qcF(k:p:=by
 intro h
 have h2:((i+1:Nat):Int)=((j+1:Nat):Int):=congrArg Prod.fst h
 omega):p:=k
theorem qcG(k:p:=by
 rw[List.length_cons,show pre.length+1+i=pre.length+i+1 by omega]
 exact .there _ ih):p:=k
theorem qcH(k:p:=by
 exact⟨y,hy,e,hc,List.mem_cons_of_mem _ hs⟩):p:=k
theorem qcI(k:p:=by
 repeat(first|(refine H.rem rfl rfl rfl jE hr rfl ?_)|(apply (gU)))
 exact qad):p:=k
theorem qcJ(k:p:=by
 exact Src.append (Src.slcS jA jH)):p:=k
theorem qcK(k:p:=by
 rw[List.getElem?_map,List.getElem?_range h];rfl):p:=k
theorem qcL(k:p:=by
 refine AO (p:=none) (n0:=m) (c:=c) (.here _ _ _) h0 fun sb hp=>?_
 cases hp):p:=k
theorem qcM(k:p:=by
 have:i=k:=jB
 subst this
 subst hacc
 apply (gN)
 exact qbi):p:=k
theorem qcN(k:p:=by
 generalize k=kk at hkd hall hnew⊢
 generalize d=dd at hkd⊢
 exact qaH):p:=k
theorem qcO(k:p:=by
 exact AI (i+1) (by show i+1≤10;omega) (by show 10-(i+1)<10-i;omega)):p:=k
theorem qcP(k:p:=by
 exact AE rfl rfl iD ⟨congrArg Value.bool jT,rfl,rfl⟩):p:=k
theorem qcQ(k:p:=by
 subst e
 rw[if_pos rfl,List.getD_eq_getElem?_getD,List.getElem?_set_self h];rfl):p:=k
theorem qcR(k:p:=by
 exact AI (r+1) kO jU):p:=k
theorem qcS(k:p:=by
 obtain⟨e,he,h2⟩:=List.mem_map.1 h1
 exact⟨e,he,congrArg (·.1) h2⟩):p:=k
theorem qcT(k:p:=by
 apply (gN)
 refine AE rfl rfl iD ⟨?_,rfl,rfl⟩
 rw[←h1]):p:=k
theorem qcU(k:p:=by
 obtain⟨x,_,hx⟩:=hv
 exact zaa (show allOne x.vals=true from rfl) v hx):p:=k
theorem qcV(k:p:=by
 refine AB func214 ntmps214 fun base=>?_
 apply (gP)
 exact qad):p:=k
theorem qcW(k:p:=by
 have hnx:qtr g (i+1)=qtr g i+1:=hnx
 apply (gP)
 exact qaJ):p:=k
theorem qcX(k:p:=by
 apply A4 (row kb _ _)
 apply A4 (row nb _ _)
 exact qad):p:=k
theorem qcY(k:p:=by
 rw[UInt8.toNat_ofNat']
 omega):p:=k
theorem qcZ(k:p:=by
 have hnx:qtr g (i+1)=qtr g i:=hnx
 apply (gT)
 exact qaJ):p:=k
theorem qd(k:p:=by
 have:i=1:=by simp only[oc]at hlt hi;omega
 subst this;rfl):p:=k
theorem qda(k:p:=by
 rw[List.getD_eq_getElem?_getD,List.getElem?_eq_getElem jB];rfl):p:=k
theorem qdb(k:p:=by
 refine An rfl ?_
 refine AN ?_
 apply (gT)
 exact qaW):p:=k
theorem qdc(k:p:=by
 rw[List.getD_eq_getElem?_getD,List.getElem?_replicate]
 split<;>rfl):p:=k
theorem qdd(k:p:=by
 have e2:e'.2.2=e.2.2:=e2
 omega):p:=k
theorem qde(k:p:=by
 refine An rfl ?_
 refine AN ?_
 apply (gR)
 exact qba):p:=k
theorem qdf(k:p:=by
 rcases dj k with e|e
 ·simp[un,e,hk]
 ·rw[e]at hk;cases hk):p:=k
theorem qdg(k:p:=by
 rw[List.length_drop]at h4
 simp[Cs.tok,h2,hk,h3];omega):p:=k
theorem qdh(k:p:=by
 rename_i c
 cases b<;>cases c<;>simp at hw<;>simp[this]):p:=k
theorem qdi(k:p:=by
 refine An rfl ?_
 refine AN ?_
 apply (gK)
 exact qaI):p:=k
theorem qdj(k:p:=by
 simp[Builtin.copy_,run_underlying hu.eq,hlen,hs.run,hcs,hst]):p:=k
theorem qdk(k:p:=by
 apply (gK)
 refine B4 (.there _ (.here _ _)) ?_
 exact qbw):p:=k
theorem qdl(k:p:=by
 rw[if_neg hlt]at hR
 rw[←hR]
 apply (gN)
 exact qan):p:=k
theorem qdm(k:p:=by
 rw[e]
 apply (gT)
 exact qad):p:=k
theorem qdn(k:p:=by
 apply (gD)
 apply A4 (row ib _ _)
 exact qcb):p:=k
theorem qdo(k:p:=by
 rw[hl,List.append_nil,List.append_nil]at this
 exact this):p:=k
theorem qdp(k:p:=by
 rw[e]
 exact⟨rfl,Cs.num8_be hv,rfl,rfl,rfl,rfl⟩):p:=k
theorem qdq(k:p:=by
 apply (gS)
 apply A3 (row b _ _)
 exact qad):p:=k
theorem qdr(k:p:=by
 exact BA rfl iD ⟨(qp,qc),rfl,rfl,rfl⟩):p:=k
theorem qds(k:p:=by
 simp[World.cell?,hw,List.getElem?_append_left this,hj]):p:=k
theorem qdt(k:p:=by
 rw[e]
 exact⟨rfl,rfl,rfl,rfl,rfl,trivial⟩):p:=k
theorem qdu(k:p:=by
 apply (gK)
 apply A4 (hashH _ _)
 exact qav):p:=k
theorem qdv(k:p:=by
 rw[putE_absent enc hno]
 congr 2
 simp[entOf]):p:=k
theorem qdw(k:p:=by
 exact BA rfl iD ⟨ap,ac,rfl,rfl,rfl⟩):p:=k
theorem qdx(k:p:=by
 unfold Instr.loadAt Instr.sureAddr at h3
 simpa using h3):p:=k
theorem qdy(k:p:=by
 rw[←Int.natCast_mul]
 omega):p:=k
theorem qdz(k:p:=by
 apply (gK)
 refine B4 (.here _ _) ?_
 exact qbl):p:=k
theorem qdA(k:p:=by
 rw[(List.mem_replicate.1 hy).2];exact Nat.zero_le _):p:=k
theorem qdB(k:p:=by
 refine AR rfl ?_
 refine AN ?_
 skip
 exact qan):p:=k
variable {q:Prop}
theorem qdC(k:Bx q→p:=by intro Y;apply A3 (row wc _ _);apply (qgB);apply A3 (row pe _ _);apply (qjt);apply (qiW);exact Y.o):q→p:=A0 k
theorem qdD(k:Bx q→p:=by intro Y;apply A3 (slc lp _ _ 34 _ _);apply (qdW);refine H.imp (zau hl lp lc) ?_;apply (qfb);apply A3 (accH _ _ _);apply (qfA);exact Y.o):q→p:=A0 k
theorem qdE(k:Bx q→p:=by intro Y;apply (gA);apply (qdO);exact Y.o):q→p:=A0 k
theorem qdF(k:Bx q→p:=by intro Y;apply A3 (row tb _ _);exact Y.o):q→p:=A0 k
theorem qdG(k:Bx q→p:=by intro Y;refine An rfl ?_;exact Y.o):q→p:=A0 k
theorem qdH(k:Bx q→p:=by intro Y;apply A3 (row rb _ _);exact Y.o):q→p:=A0 k
theorem qdI(k:Bx q→p:=by intro Y;(repeat(first|(refine H.not (b:=true) (c:=false) rfl rfl rfl rfl ?_)|(apply (gU))));exact Y.o):q→p:=A0 k
theorem qdJ(k:Bx q→p:=by intro Y;apply (gR);apply (qfH);apply (qeh);refine A8 rfl rfl rfl hfits ?_;apply (qiu);apply (gE);refine AD (ls:=x.vals) rfl rfl rfl (Rd.ofRow (.there _ (.here _ _ _))) rfl rfl ?_;refine A8 rfl rfl rfl hright ?_;apply (qiu);exact Y.o):q→p:=A0 k
theorem qdK(k:Bx q→p:=by intro Y;show Fn _ _ _ f (row lb _ (lgC n kn vb pp n pc cp)::mp vb _ _::row wb _ (vwC 0 0 lp lg lc np lg nc hb)::slc lp lg lc _ _ _::mp hb _ _::slc np lg nc _ _ _::slc pp n pc _ _ (((List.range n).map pb).flatMap ptrV)::fam (fun o=>pst0 (pb o) (vt o)) n::slc cp n n _ _ _::F) _;exact Y.o):q→p:=A0 k
theorem qdL(k:Bx q→p:=by intro Y;apply A3 (row cb _ _);exact Y.o):q→p:=A0 k
theorem qdM(k:Bx q→p:=by intro Y;apply A3 (row nb _ _);exact Y.o):q→p:=A0 k
theorem qdN(k:Bx q→p:=by intro Y;show Fn _ _ _ f (row rb _ (repC n o _ pp r.pd.length pc tp r.td.length tc r.ck)::loQ lr n _::waQ wt ws::lgH lg n _ _ _ x::chkH ck n _::row pe _ _::runH rn _ x::row wc _ _::slc pp _ pc _ _ _::slc tp _ tc _ _ _::F) _;exact Y.o):q→p:=A0 k
theorem qdO(k:Bx q→p:=by intro Y;refine AR rfl ?_;exact Y.o):q→p:=A0 k
theorem qdP(k:Bx q→p:=by intro Y;apply (qgK);refine AN ?_;exact Y.o):q→p:=A0 k
theorem qdQ(k:Bx q→p:=by intro Y;(repeat(first|(apply BT;exact rfl;exact jC)|(first|((apply BE);(iterate 3 exact rfl))|(apply H.nil))));refine DO ?_;exact Y.o):q→p:=A0 k
theorem qdR(k:Bx q→p:=by intro Y;apply A3 (row qb _ _);exact Y.o):q→p:=A0 k
theorem qdS(k:Bx q→p:=by intro Y;apply (qfp);apply (qec);apply (qeY);exact Y.o):q→p:=A0 k
theorem qdT(k:Bx q→p:=by intro Y;apply (gG);apply (qex);apply A6 [0,1,2,3] 18;apply (qjE);apply (qdG);apply A7 4;apply A5 (hmay _);apply (qdE);apply A6 [5,6,7,8,9,10,11,12,13,14,15,16,17,18,19,20,21] 0;exact Y.o):q→p:=A0 k
theorem qdU(k:Bx q→p:=by intro Y;apply (qeD);apply (qeS);exact Y.o):q→p:=A0 k
theorem qdV(k:Bx q→p:=by intro Y;apply (gT);refine H.min2 (z:=(now:Nat)) rfl rfl rfl (if_neg jB) rfl ?_;apply (gC);apply (qhz);apply (gA);apply (qef);apply (qea);apply A6 [0,1,2,3,4,5] 4;apply (qdX);apply A7 6;apply (gC);apply (qdO);apply A6 [7,8] 1;apply (qdX);apply (qkF);exact Y.o):q→p:=A0 k
theorem qdW(k:Bx q→p:=by intro Y;apply A3 (row wb _ _);exact Y.o):q→p:=A0 k
theorem qdX(k:Bx q→p:=by intro Y;apply (gF);apply (qdG);exact Y.o):q→p:=A0 k
theorem qdY(k:Bx q→p:=by intro Y;apply (qfO);apply (qjH);apply (qdR);apply (qhm);apply (qdM);exact Y.o):q→p:=A0 k
theorem qdZ(k:Bx q→p:=by intro Y;apply (gA);exact (qkj) Y.o):q→p:=A0 k
theorem qe(k:Bx q→p:=by intro Y;apply A3 (row pb _ _);exact Y.o):q→p:=A0 k
theorem qea(k:Bx q→p:=by intro Y;refine H.db (S:=[_]) rfl ?_;exact Y.o):q→p:=A0 k
theorem qeb(k:Bx q→p:=by intro Y;refine AC (ls:=[.int .i64 0,.int .u64 0,.int .i64 0,.string .empty,.int .u64 0]) (vs:=[.int .i64 0,.int .u64 0,.int .i64 0,.string .empty,.int .u64 0]) (ls':=[.int .i64 0,.int .u64 0,.int .i64 0,.string .empty,.int .u64 0]) rfl rfl rfl (zaa rfl) rfl rfl (Nat.le_refl 5) jA ?_;exact Y.o):q→p:=A0 k
theorem qec(k:Bx q→p:=by intro Y;apply A3 (repH _ _ _ _ _ _);exact Y.o):q→p:=A0 k
theorem qed(k:Bx q→p:=by intro Y;apply A3 (row ob _ _);exact Y.o):q→p:=A0 k
theorem qee(k:Bx q→p:=by intro Y;refine CE (.there _ (.here _ _)) ?_;exact Y.o):q→p:=A0 k
theorem qef(k:Bx q→p:=by intro Y;apply A3 (row kb _ _);exact Y.o):q→p:=A0 k
theorem qeg(k:Bx q→p:=by intro Y;apply A3 (row tu _ _);apply (qeY);exact Y.o):q→p:=A0 k
theorem qeh(k:Bx q→p:=by intro Y;apply A3 (row lb _ _);exact Y.o):q→p:=A0 k
theorem qei(k:Bx q→p:=by intro Y;apply (gA);apply (qe);apply (qdM);apply (qdO);apply A6 [3,4,5,6,7] 2;apply (qgO);apply A7 8;apply (gC);apply (qe);apply (qdM);apply (qdO);apply (qkF);apply (gC);apply (qe);apply (qdM);apply (qhG);exact Y.o):q→p:=A0 k
theorem qej(k:Bx q→p:=by intro Y;apply (qhB);apply (qhK);exact Y.o):q→p:=A0 k
theorem qek(k:Bx q→p:=by intro Y;refine AC (ls:=saidV 0 false) (vs:=saidV a true) (ls':=saidV a true) rfl rfl rfl (zaa rfl) rfl rfl (Nat.le_refl 6) (.here _ _ _) ?_;apply (gA);refine BY 7 jD jJ ?_;apply (gH);refine C1 (ls:=saidV a true) rfl rfl rfl (Rd.ofRow jA) rfl rfl ?_;apply (gH);refine Df (i:=j) rfl rfl rfl jB jB rfl ?_;apply (gI);refine AC (ls:=cliC n a 1 true q h) (vs:=saidV a true) (ls':=cliC n a 1 true q (h.set j true)) rfl rfl rfl (zaa rfl) rfl (cliC_set true jB) (by rw[cliC_len hl];show 0+44+j*6+6≤110;omega) jA ?_;apply (gO);refine AD (ls:=(h.set j true).flatMap (saidV a)) rfl rfl rfl (cliC_said (Rd.ofRow jA)) (by rw[zar (saidV_len a),List.length_set,hl]) rfl ?_;exact Y.o):q→p:=A0 k
theorem qel(k:Bx q→p:=by intro Y;apply A3 (row eb _ _);exact Y.o):q→p:=A0 k
theorem qem(k:Bx q→p:=by intro Y;apply (qhz);refine BO (i:=o) rfl rfl rfl hoz ho11 rfl ?_;refine B6 rfl rfl rfl (Rd1.at0 (Rd.ofRow jA) jf) rfl ?_;apply (gQ);apply (gT);exact Y.o):q→p:=A0 k
theorem qen(k:Bx q→p:=by intro Y;apply (qdQ);(repeat(first|(first|(first|apply H.seqR|apply C2|apply D5|apply CP)|(apply BT;exact rfl;exact jC)|(apply EA;exact rfl;(omega)))|(first|(apply AL;(iterate 3 exact rfl);apply Rd1.ofRow;(repeat(first|exact .here _ _ _|apply At.there));(iterate 2 exact rfl))|(apply H.nil)|((apply BU);(iterate 5 exact rfl))|((apply BC;(iterate 4 exact rfl));(with_reducible apply zay;omega);exact rfl)|(apply AZ;(iterate 4 exact rfl);(repeat(first|exact .here _ _ _|apply At.there))))));exact Y.o):q→p:=A0 k
theorem qeo(k:Bx q→p:=by intro Y;exact AJ (ls:=[.int .i64 0,.int .u64 0,.int .i64 0,.string .empty,.int .u64 0]) rfl rfl rfl Y.o):q→p:=A0 k
theorem qep(k:Bx q→p:=by intro Y;apply (gA);apply (qdR);apply (qdH);apply (qdO);exact Y.o):q→p:=A0 k
theorem qeq(k:Bx q→p:=by intro Y;apply A3 (ordH l i);apply A3 (fam (strH l i) 11);apply (qeh);refine H.imp (zbi i hi) ?_;exact Y.o):q→p:=A0 k
theorem qer(k:Bx q→p:=by intro Y;refine AC (ls:=[.int .i64 0,.int .u64 0]) (vs:=[.int .i64 x.m.origin,.int .u64 x.m.body.k]) (ls':=[.int .i64 x.m.origin,.int .u64 x.m.body.k]) rfl rfl rfl (zaa rfl) rfl rfl (Nat.le_refl 2) jA ?_;apply (gA);refine H.db (S:=[_,_,_,_]) rfl ?_;apply A6 [0,1,2,3,4,5,6,7,8] 3;(repeat(first|(refine AH (ls:=[.int .i64 x.m.origin,.int .u64 x.m.body.k]) rfl rfl rfl (Rd.ofRow jA) rfl rfl ?_)|(apply (gV))|(refine D7 (k:=(x.m.origin,x.m.body.k)) rfl rfl rfl jA rfl hg1 hg2 rfl ?_)));apply (qdG);apply (qkF);exact (qhi) Y.o):q→p:=A0 k
theorem qes(k:Bx q→p:=by intro Y;show H _ _ _ _ f (row wb _ (worC n cb lp u.lon lc ap u.acc.length ac)::slc lp u.lon lc _ 40 _::accH ap ac u.acc::cluH cb n asked x u::_) _;exact Y.o):q→p:=A0 k
theorem qet(k:Bx q→p:=by intro Y;refine B4 (.here _ _) ?_;exact Y.o):q→p:=A0 k
theorem qeu(k:Bx q→p:=by intro Y;apply A3 (slc np _ _ _ _ _);apply (qhH);apply (qj);apply (qgr);exact Y.o):q→p:=A0 k
theorem qev(k:Bx q→p:=by intro Y;apply A3 (lgH _ _ _ _ _ _);exact Y.o):q→p:=A0 k
theorem qew(k:Bx q→p:=by intro Y;apply (qeq);apply (qfo);apply (qea);apply A6 [0,1,2] 3;apply (gF);refine AH (ls:=v11 x.m.deps) rfl rfl rfl (msg_deps (m:=x.m) (q:=x.qp) (qc:=x.qc) (.here _ _ _)) rfl rfl ?_;apply (qgK);apply A7 3;apply (qiP);refine A8 rfl rfl rfl (known_fn f _) ?_;apply (qhw);apply A7 4;refine A8 rfl rfl rfl (above_fn f _ _ _) ?_;apply (qdE);apply A6 [5] 0;exact Y.o):q→p:=A0 k
theorem qex(k:Bx q→p:=by intro Y;refine H.db (S:=[_,_]) rfl ?_;exact Y.o):q→p:=A0 k
theorem qey(k:Bx q→p:=by intro Y;(repeat(first|(first|(first|apply H.seqR|apply C2)|(apply BT;exact rfl;exact jC))|(first|((apply BE);(iterate 3 exact rfl))|(apply H.nil))));exact Y.o):q→p:=A0 k
theorem qez(k:Bx q→p:=by intro Y;apply (gG);apply (qgs);apply A6 [0] 11;refine AH (ls:=x.vals) rfl rfl rfl (Rd.ofRow (.here _ _ _)) rfl rfl ?_;apply (qhL);apply A5 (hmay _);apply (qdE);apply A6 [2,3,4,5,6,7,8,9,10,11] 0;apply (qgO);refine AN ?_;exact Y.o):q→p:=A0 k
theorem qeA(k:Bx q→p:=by intro Y;refine H.imp zbx ?_;apply A3 (fam (updF (siteF _ _ _ _) _ _) _);apply A3 (siteH _ _ _ _ _);exact Y.o):q→p:=A0 k
theorem qeB(k:Bx q→p:=by intro Y;apply A3 (row yb _ _);apply (qdO);apply A6 [6] 0;apply (qdP);apply (gE);apply (qkE);apply (qev);apply A5 (hlog _);apply (gA);apply (qkE);apply (qjt);apply A5 (hchk _);exact Y.o):q→p:=A0 k
theorem qeC(k:Bx q→p:=by intro Y;refine EB (lo:=none) (hi:=none) (mx:=none) (lv:=0) (hv:=32) (mv:=32) rfl rfl rfl rfl rfl (fun h=>by cases h) jE jE jE rfl ?_;exact Y.o):q→p:=A0 k
theorem qeD(k:Bx q→p:=by intro Y;apply A3 (diskH _ _ _);exact Y.o):q→p:=A0 k
theorem qeE(k:Bx q→p:=by intro Y;apply (qiV);apply (gA);apply (qg);apply (qdW);apply (qef);apply (qgs);apply A6 [0,1,2,3,4,5,6,7,8] 3;(repeat(first|(refine AH (ls:=nmV (keyM x.m)) rfl rfl rfl (Rd.ofRow (.here _ _ _)) rfl rfl ?_)|(apply (gV))|(refine D7 (enc:=nmE) (k:=keyM x.m) rfl rfl rfl jA rfl hg1 hg2 rfl ?_)));apply (qdG);apply (qkF);exact (qfm) Y.o):q→p:=A0 k
theorem qeF(k:Bx q→p:=by intro Y;refine Cp (enc:=key64) (k:=(0:Int)) (v:=.pointer (some ⟨wb,0,none⟩)) rfl rfl rfl jA rfl rfl rfl ?_;exact Y.o):q→p:=A0 k
theorem qeG(k:Bx q→p:=by intro Y;apply A4 (row tb _ _);exact Y.o):q→p:=A0 k
theorem qeH(k:Bx q→p:=by intro Y;apply A3 (slc _ _ _ 136 _ _);apply A3 (slc _ _ _ 34 _ _);apply (qdC);exact Y.o):q→p:=A0 k
theorem qeI(k:Bx q→p:=by intro Y;apply (gC);apply (qhG);exact Y.o):q→p:=A0 k
theorem qeJ(k:Bx q→p:=by intro Y;refine HB.nx [] (S':=[]) rfl ?_;exact Y.o):q→p:=A0 k
theorem qeK(k:Bx q→p:=by intro Y;show H _ _ _ _ f (lonH wb n cb x u.lon ap u.acc.length ac::accH ap ac u.acc::cluH cb n asked x u::_) _;exact AM Y.o):q→p:=A0 k
theorem qeL(k:Bx q→p:=by intro Y;apply (qgv);apply (qdO);exact Y.o):q→p:=A0 k
theorem qeM(k:Bx q→p:=by intro Y;apply (gG);refine BB ?_;(repeat(first|(apply (gV))|(refine BO (i:=(m.origin.toNat-1)) rfl rfl rfl jB jB rfl ?_)|(refine B6 rfl rfl rfl (.of (msg_deps jA) (by rw[Nat.mul_one];exact zbq m.deps jB)) rfl ?_)));exact Y.o):q→p:=A0 k
theorem qeN(k:Bx q→p:=by intro Y;(repeat(first|(refine H.not (b:=false) (c:=true) rfl rfl rfl rfl ?_)|(apply (gU))));exact Y.o):q→p:=A0 k
theorem qeO(k:Bx q→p:=by intro Y;apply A3 (slc _ _ _ _ _ _);exact Y.o):q→p:=A0 k
theorem qeP(k:Bx q→p:=by intro Y;apply (gR);apply (qdR);apply (qdH);apply (qex);apply (qhr);apply (qgB);apply A5 (hrp _);apply (qep);apply A6 [9,10,11] 2;apply (qjG);exact Y.o):q→p:=A0 k
theorem qeQ(k:Bx q→p:=by intro Y;apply (gA);exact H.box (ls:=r.vals) rfl rfl rfl rfl Y.o):q→p:=A0 k
theorem qeR(k:Bx q→p:=by intro Y;apply A3 (row ab _ _);exact Y.o):q→p:=A0 k
theorem qeS(k:Bx q→p:=by intro Y;apply A3 (row bb _ _);exact Y.o):q→p:=A0 k
theorem qeT(k:Bx q→p:=by intro Y;apply (gA);exact H.box (ls:=x.vals q qc) rfl rfl rfl rfl Y.o):q→p:=A0 k
theorem qeU(k:Bx q→p:=by intro Y;apply (gR);apply (qfH);apply (qiP);apply A5 (hck _);apply (gG);refine A8 rfl rfl rfl (wopen_fn f _) ?_;apply (qiu);exact Y.o):q→p:=A0 k
theorem qeV(k:Bx q→p:=by intro Y;apply A3 (durH _ _ _ _ _ _);exact Y.o):q→p:=A0 k
theorem qeW(k:Bx q→p:=by intro Y;apply (qdF);apply (qdO);exact Y.o):q→p:=A0 k
theorem qeX(k:Bx q→p:=by intro Y;apply (qdE);refine AN ?_;exact Y.o):q→p:=A0 k
theorem qeY(k:Bx q→p:=by intro Y;apply A3 (row du _ _);exact Y.o):q→p:=A0 k
theorem qeZ(k:Bx q→p:=by intro Y;apply A4 (row eb _ _);exact Y.o):q→p:=A0 k
theorem qf(k:Bx q→p:=by intro Y;refine AC (ls:=saidV 0 false) (vs:=saidV a x) (ls':=saidV a x) rfl rfl rfl (zaa rfl) rfl rfl (Nat.le_refl 6) (.here _ _ _) ?_;apply (gA);refine AD (ls:=saidV a x) rfl rfl rfl (Rd.ofRow jA) rfl rfl ?_;refine AD (ls:=saidV a true) rfl rfl rfl (Rd.ofRow jA) rfl rfl ?_;refine Cr (D:=6) (b:=x) rfl rfl rfl rfl jD jD jD jD jE (saidEq a x) rfl ?_;apply (qhZ);exact Y.o):q→p:=A0 k
theorem qfa(k:Bx q→p:=by intro Y;apply (gI);apply (qdG);exact Y.o):q→p:=A0 k
theorem qfb(k:Bx q→p:=by intro Y;apply A3 (cluH _ _ _ _ _);exact Y.o):q→p:=A0 k
theorem qfc(k:Bx q→p:=by intro Y;refine CE (.there _ (.there _ (.here _ _))) ?_;exact Y.o):q→p:=A0 k
theorem qfd(k:Bx q→p:=by intro Y;apply (gT);apply (qfO);apply (qdH);apply (qfN);apply (qgy);exact Y.o):q→p:=A0 k
theorem qfe(k:Bx q→p:=by intro Y;apply (qgS);apply (gE);refine AD (ls:=toldV a) rfl rfl rfl (Rd.ofRow jA) rfl rfl ?_;refine AT (t:=138) (out:=saidV a true) rfl rfl rfl jD rfl ?_;exact AJ (ls:=saidV 0 false) rfl rfl rfl Y.o):q→p:=A0 k
theorem qff(k:Bx q→p:=by intro Y;apply (gR);apply (qdH);apply A3 (row yb _ _);apply (qex);apply A6 [0,1,2,3,4] 2;apply (gF);refine AH (ls:=_) rfl rfl rfl (Rd.ofRow jA) hvl rfl ?_;apply (qhC);apply (qgy);apply A5 (hadd _);apply (qgv);apply (qeB);apply (gA);refine BB ?_;apply (gQ);exact Y.o):q→p:=A0 k
theorem qfg(k:Bx q→p:=by intro Y;refine AC (ls:=hd0) (vs:=hd0) (ls':=hd0) rfl rfl rfl (zaa rfl) rfl rfl (Nat.le_refl 4) jA ?_;exact Y.o):q→p:=A0 k
theorem qfh(k:Bx q→p:=by intro Y;exact AJ (ls:=Req.zero.vals) rfl rfl rfl Y.o):q→p:=A0 k
theorem qfi(k:Bx q→p:=by intro Y;apply (gA);apply (qee);apply (qdO);exact Y.o):q→p:=A0 k
theorem qfj(k:Bx q→p:=by intro Y;apply (qep);apply (qkF);apply A3 (staH sb _ _);apply A5 (hlt _ _);apply (qep);apply A6 [10,11,12,13,14,15,16,17] 11;apply (qgO);apply A7 18;apply (qiZ);apply (qdR);apply A5 (hhas _ _);apply (qep);apply A6 [19,20,21,22,23,24,25,26,27,28] 0;apply (qgO);refine AN ?_;exact Y.o):q→p:=A0 k
theorem qfk(k:Bx q→p:=by intro Y;apply (qdD);refine H.imp (zba (w:=u) hwa cb ap ac) ?_;exact Y.o):q→p:=A0 k
theorem qfl(k:Bx q→p:=by intro Y;apply A3 (row xb _ _);exact Y.o):q→p:=A0 k
theorem qfm(k:Bx q→p:=by intro Y;exact AJ (ls:=msgZ.vals none 0) rfl rfl rfl Y.o):q→p:=A0 k
theorem qfn(k:Bx q→p:=by intro Y;apply (qii);refine CH (g:=siteF n x i.sb w.rs) hlt ?_;apply (qej);refine H.imp (zbc (asked:=asked) (w:=w) i hw) ?_;apply (qfb);apply (qfA);apply (qe);exact Y.o):q→p:=A0 k
theorem qfo(k:Bx q→p:=by intro Y;apply A3 (row mb _ _);exact Y.o):q→p:=A0 k
theorem qfp(k:Bx q→p:=by intro Y;apply A3 (row ub _ _);exact Y.o):q→p:=A0 k
theorem qfq(k:Bx q→p:=by intro Y;apply (gM);apply (qdG);exact Y.o):q→p:=A0 k
theorem qfr(k:Bx q→p:=by intro Y;apply (gS);refine B7 (i:=j) rfl rfl rfl rfl hin rfl ?_;refine AL rfl rfl rfl (by rw[Nat.mul_one];exact Rd1.of (i:=j) (off:=0) (Rd.ofSlc (.here _ _ _) jB) (numsV_at hin)) rfl ?_;exact Y.o):q→p:=A0 k
theorem qfs(k:Bx q→p:=by intro Y;apply A4 (row qb _ _);exact Y.o):q→p:=A0 k
theorem qft(k:Bx q→p:=by intro Y;show Fn _ _ _ f (row du _ (durC n o rb ub bb)::repH rb n o x r []::row ub _ _::row cb _ _::row bb _ _::diskH db z m::F) _;exact Y.o):q→p:=A0 k
theorem qfu(k:Bx q→p:=by intro Y;exact B2 Y.o):q→p:=A0 k
theorem qfv(k:Bx q→p:=by intro Y;exact AJ (ls:=zb 32) rfl rfl rfl Y.o):q→p:=A0 k
theorem qfw(k:Bx q→p:=by intro Y;exact AJ (ls:=b128 fun _=>0) rfl rfl jD Y.o):q→p:=A0 k
theorem qfx(k:Bx q→p:=by intro Y;apply (qdJ);apply (gE);apply (qem);apply (qex);apply A6 [0,1,2,3,4,5,6,7,8,9,10,11,12,13,14,15,16,17] 3;apply (qgO);apply A7 18;apply (qjQ);apply A6 [19,20] 0;apply (qfa);refine AN ?_;exact Y.o):q→p:=A0 k
theorem qfy(k:Bx q→p:=by intro Y;apply A3 (row ib _ _);exact Y.o):q→p:=A0 k
theorem qfz(k:Bx q→p:=by intro Y;apply A4 (row mb _ _);exact Y.o):q→p:=A0 k
theorem qfA(k:Bx q→p:=by intro Y;apply A3 (lonH _ _ _ _ _ _ _ _);exact Y.o):q→p:=A0 k
theorem qfB(k:Bx q→p:=by intro Y;refine AH (ls:=(qS x a).vals) rfl rfl rfl (Rd.ofRow jA) rfl rfl ?_;exact Y.o):q→p:=A0 k
theorem qfC(k:Bx q→p:=by intro Y;apply (qiE);apply A3 (row (i.ca k) 141 _);exact Y.o):q→p:=A0 k
theorem qfD(k:Bx q→p:=by intro Y;show Fn _ _ _ f (row wb _ (worC n cb lp w.lon lc ap w.acc.length ac)::slc lp w.lon lc _ 40 _::slc ap w.acc.length ac _ 5 (toldC w.acc)::cluH cb n asked x w::F) _;exact Y.o):q→p:=A0 k
theorem qfE(k:Bx q→p:=by intro Y;apply (qji);apply (gS);refine H.max2 (z:=if(r.val.size:Int)<r.old.size then(r.old.size:Int)else r.val.size) rfl rfl rfl rfl rfl ?_;apply (gJ);apply (qet);exact Y.o):q→p:=A0 k
theorem qfF(k:Bx q→p:=by intro Y;apply (qhv);refine AD (ls:=itV x y) rfl rfl rfl (Rd.slcElem (sz:=2) (vals:=itV x) (xs:=[y]) (i:=0) (x:=y) (fun _=>rfl) jE jA rfl) rfl rfl ?_;exact AJ (ls:=[.string .empty,.string .empty]) rfl rfl rfl Y.o):q→p:=A0 k
theorem qfG(k:Bx q→p:=by intro Y;apply (qiZ);apply (qeh);refine A8 rfl rfl rfl (lgpast_fn f _ (pb:=pb) h11 ho) ?_;exact Y.o):q→p:=A0 k
theorem qfH(k:Bx q→p:=by intro Y;refine AD (ls:=x.vals) rfl rfl rfl (Rd.ofRow (.here _ _ _)) rfl rfl ?_;exact Y.o):q→p:=A0 k
theorem qfI(k:Bx q→p:=by intro Y;apply (gA);exact H.box (ls:=[.pointer (some ⟨wb,0,none⟩)]) rfl rfl rfl rfl Y.o):q→p:=A0 k
theorem qfJ(k:Bx q→p:=by intro Y;show H _ _ _ _ _ (row cb _ (chkRow n mb)::mp mb encN (mpV M)::F) _;exact (qdZ) Y.o):q→p:=A0 k
theorem qfK(k:Bx q→p:=by intro Y;apply (qdG);apply A7 6;exact Y.o):q→p:=A0 k
theorem qfL(k:Bx q→p:=by intro Y;apply (qhp);apply (qhK);exact Y.o):q→p:=A0 k
theorem qfM(k:Bx q→p:=by intro Y;apply A3 (mpS _ _ _ _);refine H.imp mpS_fold ?_;exact Y.o):q→p:=A0 k
theorem qfN(k:Bx q→p:=by intro Y;apply (qel);apply (qe);apply (qdM);exact Y.o):q→p:=A0 k
theorem qfO(k:Bx q→p:=by intro Y;apply A3 (row sb _ _);exact Y.o):q→p:=A0 k
theorem qfP(k:Bx q→p:=by intro Y;apply A4 (row pb _ _);exact Y.o):q→p:=A0 k
theorem qfQ(k:Bx q→p:=by intro Y;refine AL rfl rfl rfl (Rd1.ofRow jA rfl) rfl ?_;exact Y.o):q→p:=A0 k
theorem qfR(k:Bx q→p:=by intro Y;refine AD (ls:=x.vals) rfl rfl rfl (Rd.ofRow jA) rfl rfl ?_;exact Y.o):q→p:=A0 k
theorem qfS(k:Bx q→p:=by intro Y;apply (gG);refine D8 ?_;exact Y.o):q→p:=A0 k
theorem qfT(k:Bx q→p:=by intro Y;apply (gK);apply A4 (row bb _ _);apply (qkv);apply A3 (slc tp _ _ 136 _ _);apply A3 (slc pp _ _ 34 _ _);apply (qdC);refine H.imp (zbb (r:=r2) ⟨⟨lr,wt,lg,ck,pe,rn,wc⟩,pp,pc,tp,tc⟩) ?_;apply (qed);exact Y.o):q→p:=A0 k
theorem qfU(k:Bx q→p:=by intro Y;refine H.dc [0,1,2,3,4,5,6,7] (S:=[_,_]) rfl ?_;apply A6 [0,1,2,3,4,5] 5;apply (gF);exact Y.o):q→p:=A0 k
theorem qfV(k:Bx q→p:=by intro Y;apply (gA);exact AJ (ls:=bodZ) rfl rfl rfl Y.o):q→p:=A0 k
theorem qfW(k:Bx q→p:=by intro Y;exact AJ (ls:=[.int .i64 0]) rfl rfl rfl Y.o):q→p:=A0 k
theorem qfX(k:Bx q→p:=by intro Y;(repeat(first|(refine BL (z:=((k+1:Nat):Int)) rfl rfl hu8.1 rfl ?_)|(refine BC (z:=(((yv (k+1)).toNat:Nat):Int)) rfl rfl rfl rfl hu8.2 rfl ?_)|(apply (gU))));exact AS (out:=bytesV [yv (k+1)]) rfl rfl rfl rfl jE jE jD rfl Y.o):q→p:=A0 k
theorem qfY(k:Bx q→p:=by intro Y;apply (gA);apply (qee);refine H.on [_] (Le.refl _) rfl ?_;exact Y.o):q→p:=A0 k
theorem qfZ(k:Bx q→p:=by intro Y;apply (qhh);apply (qdW);apply (qdM);apply A3 (mpS _ _ _ _);apply A3 (itr _ _ _ _ _);exact Y.o):q→p:=A0 k
theorem qg(k:Bx q→p:=by intro Y;apply A3 (mp _ _ _);exact Y.o):q→p:=A0 k
theorem qga(k:Bx q→p:=by intro Y;apply (qkq);apply A6 [0] 13;(repeat((refine AH (ls:=x.vals) rfl rfl rfl (Rd.ofRow jA) rfl rfl ?_)));apply (qhL);apply A5 (hmay _);apply (qdE);apply A6 [2,3,4,5,6,7,9,10] 4;exact Y.o):q→p:=A0 k
theorem qgb(k:Bx q→p:=by intro Y;apply (qdR);apply (qdO);exact Y.o):q→p:=A0 k
theorem qgc(k:Bx q→p:=by intro Y;apply (qkm);refine AD (ls:=lastV (decide (i<j))) rfl rfl rfl (by rw[Nat.zero_add];exact Rd.slcElem (sz:=3) (vals:=lastV) (xs:=tabL j) lastV_len jE jA (tabL_at j hlt)) rfl rfl ?_;exact Y.o):q→p:=A0 k
theorem qgd(k:Bx q→p:=by intro Y;apply (gA);apply (qdM);apply (qdO);exact Y.o):q→p:=A0 k
theorem qge(k:Bx q→p:=by intro Y;apply (qdT);(repeat(first|(refine HQ.not (c:=false) rfl rfl rfl rfl ?_)|(apply (gV))));apply (qdG);refine AN ?_;exact Y.o):q→p:=A0 k
theorem qgf(k:Bx q→p:=by intro Y;show Fn _ _ _ f (row cb _ (cluC n i w.now)::sitL n i::fam (siteF n x i.sb w.rs) n::fam (cliF n x i.ca asked w.cl) 8::netQ i.nb _::F) _;exact Y.o):q→p:=A0 k
theorem qgg(k:Bx q→p:=by intro Y;refine H.not (b:=true) (c:=false) rfl rfl rfl rfl ?_;exact Y.o):q→p:=A0 k
theorem qgh(k:Bx q→p:=by intro Y;apply (qdW);apply A3 (row t2 _ _);exact Y.o):q→p:=A0 k
theorem qgi(k:Bx q→p:=by intro Y;apply (gF);refine B6 (v:=.int .i64 ((o+1:Nat):Int)) rfl rfl rfl (Rd1.of (i:=0) (Rd.ofRow jA) hL0) rfl ?_;exact Y.o):q→p:=A0 k
theorem qgj(k:Bx q→p:=by intro Y;apply (qeJ);apply A6 [8,9] 1;apply (qdX);apply (qke);exact Y.o):q→p:=A0 k
theorem qgk(k:Bx q→p:=by intro Y;apply (gK);refine H.sb [(75,.int .i64 0),(74,.agg (g.flatMap (saidV a)).toArray),(9,.int .i64 0),(8,.pointer (some ⟨mb,0,none⟩)),(6,.pointer (some ⟨rb,0,none⟩)),(5,.pointer (some ⟨tb,0,none⟩)),(0,.pointer (some ⟨cb,0,none⟩))] ?_;exact Y.o):q→p:=A0 k
theorem qgl(k:Bx q→p:=by intro Y;refine AC (ls:=msgZ.vals none 0) (vs:=y.vals) (ls':=y.vals) rfl rfl rfl (zaa rfl) rfl rfl (Nat.le_refl 121) (.here _ _ _) ?_;apply (gA);exact Y.o):q→p:=A0 k
theorem qgm(k:Bx q→p:=by intro Y;apply (qe);apply (qdM);apply (qex);apply A6 [0,1] 8;apply (qdX);apply A7 2;exact Y.o):q→p:=A0 k
theorem qgn(k:Bx q→p:=by intro Y;refine AD (ls:=msgZ.vals none 0) rfl rfl rfl (Rd.ofRow jA) rfl rfl ?_;refine AC (ls:=msgZ.vals none 0) (vs:=msgZ.vals none 0) (ls':=msgZ.vals none 0) rfl rfl rfl (zaa rfl) rfl rfl (Nat.le_refl 121) jA ?_;exact Y.o):q→p:=A0 k
theorem qgo(k:Bx q→p:=by intro Y;apply (gR);refine H.entry rfl rfl jA jA he rfl ?_;exact Y.o):q→p:=A0 k
theorem qgp(k:Bx q→p:=by intro Y;refine CC (i:=j) rfl rfl rfl jB jB rfl ?_;exact Y.o):q→p:=A0 k
theorem qgq(k:Bx q→p:=by intro Y;apply (qjW);refine Eo (i:=4) (z:=((j:Nat):Int)) jD rfl rfl rfl rfl rfl (by rw[wr_i64 jB];omega) rfl ?_;exact Y.o):q→p:=A0 k
theorem qgr(k:Bx q→p:=by intro Y;apply (qdW);apply A3 (mp vb _ _);apply (qeh);exact Y.o):q→p:=A0 k
theorem qgs(k:Bx q→p:=by intro Y;refine H.db (S:=[_,_,_]) rfl ?_;exact Y.o):q→p:=A0 k
theorem qgt(k:Bx q→p:=by intro Y;show YieldFn _ _ _ _ (loopH _ _ _ _ _ _ _ _::_) _;exact (qjo) Y.o):q→p:=A0 k
theorem qgu(k:Bx q→p:=by intro Y;(repeat(first|(refine HQ.not (b:=true) (c:=false) rfl rfl rfl rfl ?_)|(apply (gV))));exact Y.o):q→p:=A0 k
theorem qgv(k:Bx q→p:=by intro Y;apply (gA);apply (qdH);exact Y.o):q→p:=A0 k
theorem qgw(k:Bx q→p:=by intro Y;apply A3 (fam (siteF _ _ _ _) _);exact Y.o):q→p:=A0 k
theorem qgx(k:Bx q→p:=by intro Y;refine Fn.front (x:=waitH nil0 wb W) (.there _ (.here _ _)) ?_;refine Dg (wput_fn f F htab (e:=nil0) (el:=nil0) (le_nil f) (lb:=lb) (n:=n) (l:=L) (good_nil f hyq hyo) (by have:=hW.length_eq;rw[List.length_map]at this;omega)) ?_;exact Y.o):q→p:=A0 k
theorem qgy(k:Bx q→p:=by intro Y;apply A3 (loQ _ _ _);exact Y.o):q→p:=A0 k
theorem qgz(k:Bx q→p:=by intro Y;apply (qkq);apply A6 [0] 9;apply (qjb);apply (qhL);apply A5 (has _);apply (qdE);apply A6 [2,3,4,5] 4;exact Y.o):q→p:=A0 k
theorem qgA(k:Bx q→p:=by intro Y;apply (qfz);apply (qiP);apply (qg);apply (qdW);refine H.imp (wait_fold b hbf) ?_;exact Y.o):q→p:=A0 k
theorem qgB(k:Bx q→p:=by intro Y;apply A3 (runH _ _ _);exact Y.o):q→p:=A0 k
theorem qgC(k:Bx q→p:=by intro Y;apply (qiX);apply (qiZ);exact Y.o):q→p:=A0 k
theorem qgD(k:Bx q→p:=by intro Y;apply (gA);apply (qeW);exact Y.o):q→p:=A0 k
theorem qgE(k:Bx q→p:=by intro Y;refine H.imp (lg_fold (n:=n) (kn:=kn) (lg:=lg) (vt:=vt) (x:=x) ⟨vb,pp,pc,cp,wb,lp,lc,np,nc,hb,pb⟩) ?_;exact Y.o):q→p:=A0 k
theorem qgF(k:Bx q→p:=by intro Y;exact AJ (ls:=nmV (0,0)) rfl rfl rfl Y.o):q→p:=A0 k
theorem qgG(k:Bx q→p:=by intro Y;exact AJ (ls:=[.pointer none]) rfl rfl rfl Y.o):q→p:=A0 k
theorem qgH(k:Bx q→p:=by intro Y;refine AC (ls:=rpl0) (vs:=rpl0) (ls':=rpl0) rfl rfl rfl (zaa rfl) rfl rfl (Nat.le_refl 2) jA ?_;exact Y.o):q→p:=A0 k
theorem qgI(k:Bx q→p:=by intro Y;show Fn _ _ _ f (lonH wb n cb x w.lon ap w.acc.length ac::accH ap ac w.acc::cluH cb n asked x w::F) _;exact (qfu) Y.o):q→p:=A0 k
theorem qgJ(k:Bx q→p:=by intro Y;apply (qdP);apply (gK);exact Y.o):q→p:=A0 k
theorem qgK(k:Bx q→p:=by intro Y;apply (gB);apply (qdG);exact Y.o):q→p:=A0 k
theorem qgL(k:Bx q→p:=by intro Y;apply (gA);exact H.box (ls:=p.vals) rfl rfl rfl rfl Y.o):q→p:=A0 k
theorem qgM(k:Bx q→p:=by intro Y;apply A4 (slc _ _ _ _ _ _);exact Y.o):q→p:=A0 k
theorem qgN(k:Bx q→p:=by intro Y;refine AD (ls:=r.vals) rfl rfl rfl (Rd.ofRow (.there _ (.here _ _ _))) rfl rfl ?_;exact Y.o):q→p:=A0 k
theorem qgO(k:Bx q→p:=by intro Y;apply (gQ);apply (qdG);exact Y.o):q→p:=A0 k
theorem qgP(k:Bx q→p:=by intro Y;apply (qdV);apply (qeI);apply (gS);apply (qea);apply A6 [0,1,2,3] 4;apply (qdX);apply A7 4;apply (gC);apply (qdO);apply A6 [5,6] 1;apply (qdX);apply A7 7;apply (qeI);exact Y.o):q→p:=A0 k
theorem qgQ(k:Bx q→p:=by intro Y;apply (gG);refine A8 rfl rfl rfl (word_cs f _ cb s jB) ?_;(repeat(((apply B3);(iterate 3 exact rfl))));exact Y.o):q→p:=A0 k
theorem qgR(k:Bx q→p:=by intro Y;apply (gA);apply (qfl);apply (qdO);apply A6 [9,10,11,12,13] 0;apply (qfa);refine AN ?_;apply (qkJ);apply A6 [0,1,2,3,4,5,6,7,8,9,10,11,12,13,14,15,16,17,18,19,20] 14;apply (qfq);apply A7 21;exact Y.o):q→p:=A0 k
theorem qgS(k:Bx q→p:=by intro Y;apply (gG);refine BB ?_;apply (gQ);refine BO (i:=j) rfl rfl rfl jB jB rfl ?_;apply (gF);refine B6 rfl rfl rfl (Rd1.of (cliC_at (Rd.ofRow jA) hh) rfl) rfl ?_;apply (gQ);exact Y.o):q→p:=A0 k
theorem qgT(k:Bx q→p:=by intro Y;apply A4 (row ob _ _);exact Y.o):q→p:=A0 k
theorem qgU(k:Bx q→p:=by intro Y;exact AJ (ls:=[.nilFunc,.nilFunc,.nilFunc]) rfl rfl rfl Y.o):q→p:=A0 k
theorem qgV(k:Bx q→p:=by intro Y;apply (qeD);refine A8 rfl rfl rfl (dread_fn f _ jB jB) ?_;exact Y.o):q→p:=A0 k
theorem qgW(k:Bx q→p:=by intro Y;refine D4 (enc:=encU8) (k:=(kind:Int)) rfl rfl rfl jA hkv (hz _) rfl ?_;refine Dh (xs:=codecCells f1 f2 f3) rfl rfl rfl inferInstance rfl rfl rfl ?_;apply (qdG);exact Y.o):q→p:=A0 k
theorem qgX(k:Bx q→p:=by intro Y;apply (gA);exact H.box (ls:=[.pointer (some ⟨lb,0,none⟩)]) rfl rfl rfl rfl Y.o):q→p:=A0 k
theorem qgY(k:Bx q→p:=by intro Y;apply (qef);apply (qdO);exact Y.o):q→p:=A0 k
theorem qgZ(k:Bx q→p:=by intro Y;exact H.box (ls:=[.int .u64 (now:Nat)]) rfl rfl rfl rfl Y.o):q→p:=A0 k
theorem qha(k:Bx q→p:=by intro Y;apply (gG);refine AD (ls:=pndV x (k+1)) rfl rfl rfl (Rd.ofRow jA) rfl rfl ?_;apply (qeV);apply A5 (hak _);apply (gO);exact AJ (ls:=told0) rfl rfl rfl Y.o):q→p:=A0 k
theorem qhb(k:Bx q→p:=by intro Y;apply (gT);apply (qeD);apply (qec);apply (qdL);apply (qfp);apply (qeS);apply (qdY);exact Y.o):q→p:=A0 k
theorem qhc(k:Bx q→p:=by intro Y;apply A3 (slc lp w.lon lc 34 _ _);apply (qdW);refine H.imp (zau hl lp lc) ?_;apply (qfb);apply A3 (slc ap w.acc.length ac 80 _ _);apply (qfA);refine H.imp (zba hw cb ap ac) ?_;exact Y.o):q→p:=A0 k
theorem qhd(k:Bx q→p:=by intro Y;exact AS rfl rfl rfl rfl jE jE rfl rfl Y.o):q→p:=A0 k
theorem qhe(k:Bx q→p:=by intro Y;exact AJ (ls:=[.slice none 0 0]) rfl rfl rfl Y.o):q→p:=A0 k
theorem qhf(k:Bx q→p:=by intro Y;apply (qdU);apply (qdL);apply (qdS);exact Y.o):q→p:=A0 k
theorem qhg(k:Bx q→p:=by intro Y;apply (gA);exact H.box (ls:=[pv du]) rfl rfl rfl rfl Y.o):q→p:=A0 k
theorem qhh(k:Bx q→p:=by intro Y;apply A4 (row kb _ _);exact Y.o):q→p:=A0 k
theorem qhi(k:Bx q→p:=by intro Y;exact AJ (ls:=dV dZ) rfl rfl rfl Y.o):q→p:=A0 k
theorem qhj(k:Bx q→p:=by intro Y;apply (qeP);apply (qeb);apply (qep);apply (qkb);apply (gR);apply (qdR);apply (qdH);apply (qex);apply A6 [0] 28;exact Y.o):q→p:=A0 k
theorem qhk(k:Bx q→p:=by intro Y;refine BB ?_;(repeat(first|(refine B6 (v:=.int .u64 0) rfl rfl rfl (Rd1.of (i:=0) (tabC_at (Rd.ofRow jA) hj) (by rw[hat];rfl)) rfl ?_)|(apply (gV))));apply (gE);exact Y.o):q→p:=A0 k
theorem qhl(k:Bx q→p:=by intro Y;refine Fn.front (x:=loQ lb n ms) (.there _ (.here _ _)) ?_;exact (qfu) Y.o):q→p:=A0 k
theorem qhm(k:Bx q→p:=by intro Y;apply (qdF);apply (qef);apply (qfy);exact Y.o):q→p:=A0 k
theorem qhn(k:Bx q→p:=by intro Y;apply (qeH);refine H.imp (zbb (r:=r) ⟨⟨lr,wt,lg,ck,pe,rn,wc⟩,pp,pc,tp,tc⟩) ?_;exact Y.o):q→p:=A0 k
theorem qho(k:Bx q→p:=by intro Y;apply (gA);exact H.box (ls:=reqL x a (qS x a).tag) rfl rfl rfl rfl Y.o):q→p:=A0 k
theorem qhp(k:Bx q→p:=by intro Y;apply A3 (row (i.sb o) _ _);exact Y.o):q→p:=A0 k
theorem qhq(k:Bx q→p:=by intro Y;exact AJ (ls:=Pkt.zero.vals) rfl rfl rfl Y.o):q→p:=A0 k
theorem qhr(k:Bx q→p:=by intro Y;apply A6 [0,1,2,3,4,5,6,7] 6;apply (qdX);apply A7 8;exact Y.o):q→p:=A0 k
theorem qhs(k:Bx q→p:=by intro Y;refine AC (ls:=(⟨0,0,fun _=>0,Bod.zero 0,noTag⟩:Msg).vals none 0) (vs:=x.vals) (ls':=x.vals) rfl rfl rfl (zaa rfl) rfl rfl (Nat.le_refl 121) jA ?_;exact Y.o):q→p:=A0 k
theorem qht(k:Bx q→p:=by intro Y;exact AB func221 ntmps221 Y.o):q→p:=A0 k
theorem qhu(k:Bx q→p:=by intro Y;apply (qdG);apply (qeJ);apply A6 [14] 3;apply (qjO);apply (qdG);apply A7 15;exact Y.o):q→p:=A0 k
theorem qhv(k:Bx q→p:=by intro Y;apply (gP);refine B7 (i:=0) rfl rfl rfl rfl jE rfl ?_;exact Y.o):q→p:=A0 k
theorem qhw(k:Bx q→p:=by intro Y;apply (gA);apply (qfo);apply (qdO);exact Y.o):q→p:=A0 k
theorem qhx(k:Bx q→p:=by intro Y;refine AC (ls:=Req.zero.vals) (vs:=(qP x b k).vals) (ls':=(qP x b k).vals) rfl rfl rfl (zaa rfl) rfl rfl (Nat.le_refl 40) (.here _ _ _) ?_;apply (gG);apply (qfs);exact Y.o):q→p:=A0 k
theorem qhy(k:Bx q→p:=by intro Y;apply A3 (slc (some ⟨ob,0,none⟩) _ co _ _ _);apply A3 (fam _ 11);exact Y.o):q→p:=A0 k
theorem qhz(k:Bx q→p:=by intro Y;refine BB ?_;apply (gM);exact Y.o):q→p:=A0 k
theorem qhA(k:Bx q→p:=by intro Y;refine A8 rfl rfl rfl (hcl cb lp u.lon lc ap u.acc.length ac _) ?_;exact Y.o):q→p:=A0 k
theorem qhB(k:Bx q→p:=by intro Y;apply (qjk);apply A3 (fam (cliF _ _ _ _ _) _);apply (qgw);exact Y.o):q→p:=A0 k
theorem qhC(k:Bx q→p:=by intro Y;apply (qdG);apply A7 5;exact Y.o):q→p:=A0 k
theorem qhD(k:Bx q→p:=by intro Y;apply (gN);refine B7 rfl rfl rfl rfl hlt rfl ?_;exact Y.o):q→p:=A0 k
theorem qhE(k:Bx q→p:=by intro Y;(repeat(first|(refine AL rfl rfl rfl (.at0 (Rd.ofRow jA) (hRow_n s0 part0 n0 _ hi1.len)) rfl ?_)|(apply (gU))));refine H.imp (hashH_fold hi1) ?_;exact Y.o):q→p:=A0 k
theorem qhF(k:Bx q→p:=by intro Y;apply (gA);exact H.box (ls:=m.vals q qc) rfl rfl rfl rfl Y.o):q→p:=A0 k
theorem qhG(k:Bx q→p:=by intro Y;apply (qdO);refine AN ?_;exact Y.o):q→p:=A0 k
theorem qhH(k:Bx q→p:=by intro Y;apply A3 (mp hb _ _);exact Y.o):q→p:=A0 k
theorem qhI(k:Bx q→p:=by intro Y;refine AC (ls:=b128 fun _=>0) (vs:=b128 (secZ ni)) (ls':=b128 (secZ ni)) rfl rfl rfl (b128_one _) (zam _) (b128_store _ _) jo (.here _ _ _) ?_;exact Y.o):q→p:=A0 k
theorem qhJ(k:Bx q→p:=by intro Y;exact H.range rfl rfl jA rfl Y.o):q→p:=A0 k
theorem qhK(k:Bx q→p:=by intro Y;apply A3 (sitL _ _);apply (qdL);exact Y.o):q→p:=A0 k
theorem qhL(k:Bx q→p:=by intro Y;apply (qdG);apply A7 1;exact Y.o):q→p:=A0 k
theorem qhM(k:Bx q→p:=by intro Y;refine B6 rfl rfl rfl (Rd.arrI (.here _ _ _) jB) rfl ?_;exact Y.o):q→p:=A0 k
theorem qhN(k:Bx q→p:=by intro Y;refine BY 5 jD jJ ?_;apply (gH);exact Y.o):q→p:=A0 k
theorem qhO(k:Bx q→p:=by intro Y;apply (gN);refine Ep (i:=i) (ls:=saidV a x) rfl rfl rfl rfl hlt rfl (flat_win (saidV_len a) hx) rfl ?_;exact AJ (ls:=saidV 0 false) rfl rfl rfl Y.o):q→p:=A0 k
theorem qhP(k:Bx q→p:=by intro Y;exact AJ (ls:=rep0) rfl rfl rfl Y.o):q→p:=A0 k
theorem qhQ(k:Bx q→p:=by intro Y;apply (gA);exact H.box (ls:=stpL d cl0 ((o+1:Nat):Int) nn opZ) rfl rfl rfl rfl Y.o):q→p:=A0 k
theorem qhR(k:Bx q→p:=by intro Y;refine B6 rfl rfl rfl (Rd.arr (.here _ _ _) jB) rfl ?_;exact Y.o):q→p:=A0 k
theorem qhS(k:Bx q→p:=by intro Y;exact AQ (m:=1) rfl rfl rfl rfl rfl (fun p' c'=>jA) (Src.slice (Rd.ofRow (.there _ (.here _ _ _))) rfl) (zao _) rfl jB jB Y.o):q→p:=A0 k
theorem qhT(k:Bx q→p:=by intro Y;apply (gS);apply (qet);exact Y.o):q→p:=A0 k
theorem qhU(k:Bx q→p:=by intro Y;apply (qeX);apply (gK);exact Y.o):q→p:=A0 k
theorem qhV(k:Bx q→p:=by intro Y;apply (qeJ);apply A6 [7,8] 1;apply (qdX);apply (qkF);apply (qeI);exact Y.o):q→p:=A0 k
theorem qhW(k:Bx q→p:=by intro Y;apply (qdL);apply (qdO);exact Y.o):q→p:=A0 k
theorem qhX(k:Bx q→p:=by intro Y;apply (qdF);apply (qfy);apply (qdM);exact Y.o):q→p:=A0 k
theorem qhY(k:Bx q→p:=by intro Y;apply (gN);refine B7 (i:=j) rfl rfl rfl rfl hlt rfl ?_;exact Y.o):q→p:=A0 k
theorem qhZ(k:Bx q→p:=by intro Y;apply A4 (row xb _ _);exact Y.o):q→p:=A0 k
theorem qi(k:Bx q→p:=by intro Y;refine H.not (b:=false) (c:=true) rfl rfl rfl rfl ?_;apply (qkA);exact Y.o):q→p:=A0 k
theorem qia(k:Bx q→p:=by intro Y;refine AC (ls:=msgZ.vals none 0) (vs:=y.vals) (ls':=y.vals) rfl rfl rfl (zaa rfl) rfl rfl (Nat.le_refl 121) (.there _ (.there _ (.there _ (.here _ _ _)))) ?_;exact Y.o):q→p:=A0 k
theorem qib(k:Bx q→p:=by intro Y;refine AC (ls:=[.string .empty,.string .empty]) (vs:=itV x y) (ls':=itV x y) rfl rfl rfl (zaa rfl) rfl rfl (Nat.le_refl 2) (.here _ _ _) ?_;apply (gO);exact Y.o):q→p:=A0 k
theorem qic(k:Bx q→p:=by intro Y;apply (gR);exact AS (out:=[]) rfl rfl rfl rfl jE jE rfl rfl Y.o):q→p:=A0 k
theorem qid(k:Bx q→p:=by intro Y;apply (qdR);apply (qeg);exact Y.o):q→p:=A0 k
theorem qie(k:Bx q→p:=by intro Y;apply (gG);refine A8 rfl rfl rfl ho ?_;show H _ _ _ _ _ (row _ _ [_,.slice ep 1 ec,.map (some mb)]::slc ep 1 ec _ _ _::mp mb _ _::F) _;apply (qdI);exact Y.o):q→p:=A0 k
theorem qif(k:Bx q→p:=by intro Y;refine H.bits (op:=.xor) rfl rfl rfl (u32_xor _ _) rfl rfl ?_;exact Y.o):q→p:=A0 k
theorem qig(k:Bx q→p:=by intro Y;apply (gP);refine CD (i:=1) rfl rfl rfl rfl jE rfl ?_;apply (qfQ);exact Y.o):q→p:=A0 k
theorem qih(k:Bx q→p:=by intro Y;refine H.dc [0,1,2,3,4,5,6] (S:=[_,_]) rfl ?_;apply A6 [0,1,2,3,4,5] 4;exact Y.o):q→p:=A0 k
theorem qii(k:Bx q→p:=by intro Y;apply (qjY);refine H.imp (zbt (r:=rF w.rs o) ⟨rb,ub,kb,bb,sv,csv,wk,z,nx,life,m⟩ hφ) ?_;apply (qhp);apply (qeA);exact Y.o):q→p:=A0 k
theorem qij(k:Bx q→p:=by intro Y;apply (gA);apply (qeZ);apply (qdO);exact Y.o):q→p:=A0 k
theorem qik(k:Bx q→p:=by intro Y;apply (gP);refine CD (i:=0) rfl rfl rfl rfl jE rfl ?_;apply (qfQ);exact Y.o):q→p:=A0 k
theorem qil(k:Bx q→p:=by intro Y;apply (gO);refine Di rfl rfl rfl rfl ?_;apply (gO);apply (qfb);exact AW rfl rfl rfl (clsiteH_fn f _ h11 ho) Y.o):q→p:=A0 k
theorem qim(k:Bx q→p:=by intro Y;show Fn _ _ _ f (row lb _ _::mp vb _ _::row wb _ (vwC 0 0 lp lg lc np lg nc hb)::slc lp lg lc _ _ _::mp hb _ _::slc np lg nc _ _ _::pst0 pb v::F) _;exact Y.o):q→p:=A0 k
theorem qin(k:Bx q→p:=by intro Y;(repeat(first|(apply (gU))|(refine Er (k:=(((r+1:Nat):Int),k)) rfl rfl rfl jA rfl hg1 hg2 rfl ?_)));exact (qhi) Y.o):q→p:=A0 k
theorem qio(k:Bx q→p:=by intro Y;exact AO (.there _ (.here _ _ _)) jB Y.o):q→p:=A0 k
theorem qip(k:Bx q→p:=by intro Y;refine AC (ls:=told0) (vs:=toldV ((k+1:Nat):Int)) (ls':=toldV ((k+1:Nat):Int)) rfl rfl rfl (zaa rfl) rfl rfl (Nat.le_refl 5) (.here _ _ _) ?_;exact Y.o):q→p:=A0 k
theorem qiq(k:Bx q→p:=by intro Y;(repeat(first|(apply (gU))|(refine H.min2 (z:=min i j) rfl rfl rfl (min2z i j) rfl ?_)|(refine H.max2 (z:=max i j) rfl rfl rfl (max2z i j) rfl ?_)));exact Y.o):q→p:=A0 k
theorem qir(k:Bx q→p:=by intro Y;exact AW rfl rfl rfl (codecs_fn f _) Y.o):q→p:=A0 k
theorem qis(k:Bx q→p:=by intro Y;exact A9 func211 ntmps211 Y.o):q→p:=A0 k
theorem qit(k:Bx q→p:=by intro Y;apply (gA);refine B4 (.there _ (.there _ (.here _ _))) ?_;exact Y.o):q→p:=A0 k
theorem qiu(k:Bx q→p:=by intro Y;refine H.not (b:=_) (c:=_) rfl rfl rfl rfl ?_;exact Y.o):q→p:=A0 k
theorem qiv(k:Bx q→p:=by intro Y;exact AS (out:=[.int .u64 0]) rfl rfl rfl rfl jE jE rfl rfl Y.o):q→p:=A0 k
theorem qiw(k:Bx q→p:=by intro Y;exact AG rfl rfl rfl (zbj (l:=l1) f _ (Src.slcS (.there _ (.here _ _ _)) jH) (fun h=>by cases h) jB) Y.o):q→p:=A0 k
theorem qix(k:Bx q→p:=by intro Y;refine AD (ls:=opL x y) rfl rfl rfl (Rd.ofRow jA) rfl rfl ?_;exact Y.o):q→p:=A0 k
theorem qiy(k:Bx q→p:=by intro Y;apply A3 (staH sb _ _);refine A8 rfl rfl rfl (staDo_fn f _ (τ:=(qS x (J+1)).tag) hJ8) ?_;apply (qgv);apply (qgb);exact Y.o):q→p:=A0 k
theorem qiz(k:Bx q→p:=by intro Y;refine AD (ls:=y.vals) rfl rfl rfl (Rd.ofRow jA) rfl rfl ?_;exact Y.o):q→p:=A0 k
theorem qiA(k:Bx q→p:=by intro Y;refine AD (ls:=p.vals) rfl rfl rfl (Rd.ofRow jA) rfl rfl ?_;exact Y.o):q→p:=A0 k
theorem qiB(k:Bx q→p:=by intro Y;show H _ _ _ _ f (row (i.sb o) _ [pv db,pv du]::durH du db n o x _::fam (updF (siteF n x i.sb w.rs) o emp) n::_) _;apply (qeV);exact AM Y.o):q→p:=A0 k
theorem qiC(k:Bx q→p:=by intro Y;apply (gA);apply (qfc);apply (qfc);exact Y.o):q→p:=A0 k
theorem qiD(k:Bx q→p:=by intro Y;apply (qdE);apply A6 [11] 0;apply (qdP);exact Y.o):q→p:=A0 k
theorem qiE(k:Bx q→p:=by intro Y;apply A3 (accH _ _ _);apply (qeR);exact Y.o):q→p:=A0 k
theorem qiF(k:Bx q→p:=by intro Y;refine BM (fs:=[]) (cs:=cs) rfl rfl rfl rfl (hcx _) ?_;exact Y.o):q→p:=A0 k
theorem qiG(k:Bx q→p:=by intro Y;apply (gN);refine CD (i:=i) rfl rfl rfl rfl jB rfl ?_;refine AL rfl rfl rfl (.of (Rd.ofRow jA) hv) rfl ?_;exact Y.o):q→p:=A0 k
theorem qiH(k:Bx q→p:=by intro Y;(repeat(first|(apply (gV))|(apply HQ.bits;(iterate 3 exact rfl);(with_reducible exact u32_xor _ _);(iterate 2 exact rfl))));apply (qdG);exact Y.o):q→p:=A0 k
theorem qiI(k:Bx q→p:=by intro Y;exact AG rfl rfl rfl (zbj f _ hs.cons hn jB) Y.o):q→p:=A0 k
theorem qiJ(k:Bx q→p:=by intro Y;apply (gA);exact H.box (ls:=toldV a) rfl rfl rfl rfl Y.o):q→p:=A0 k
theorem qiK(k:Bx q→p:=by intro Y;apply (gN);refine AC (ls:=bodZ) (vs:=bodK 0 0) (ls':=bodK 0 0) rfl rfl rfl (zbn _ _) rfl rfl (Nat.le_refl 76) jA ?_;exact Y.o):q→p:=A0 k
theorem qiL(k:Bx q→p:=by intro Y;(repeat(first|(refine AH (ls:=dV x) rfl rfl rfl (Rd.ofRow jA) (dV_len x) rfl ?_)|(apply (gV))));apply (qdG);exact Y.o):q→p:=A0 k
theorem qiM(k:Bx q→p:=by intro Y;apply A3 (staH _ _ _);exact Y.o):q→p:=A0 k
theorem qiN(k:Bx q→p:=by intro Y;apply A3 (row db _ _);exact Y.o):q→p:=A0 k
theorem qiO(k:Bx q→p:=by intro Y;apply A4 (row nb _ _);exact Y.o):q→p:=A0 k
theorem qiP(k:Bx q→p:=by intro Y;apply A3 (loreH _ _ _ _);exact Y.o):q→p:=A0 k
theorem qiQ(k:Bx q→p:=by intro Y;apply A3 (bufH bb _);refine BM (fs:=[]) (cs:=[.pointer (some ⟨bb,0,none⟩)]) rfl rfl rfl rfl (snum_fn f _ jB) ?_;exact Y.o):q→p:=A0 k
theorem qiR(k:Bx q→p:=by intro Y;apply (gG);refine H.bits (op:=.and) rfl rfl rfl (u32_and _ _) rfl rfl ?_;exact Y.o):q→p:=A0 k
theorem qiS(k:Bx q→p:=by intro Y;exact AJ (ls:=rpl0) rfl rfl rfl Y.o):q→p:=A0 k
theorem qiT(k:Bx q→p:=by intro Y;apply (gA);apply (qeY);apply (qeW);exact Y.o):q→p:=A0 k
theorem qiU(k:Bx q→p:=by intro Y;refine BM (fs:=[]) (cs:=cs) rfl rfl rfl rfl hcx ?_;exact Y.o):q→p:=A0 k
theorem qiV(k:Bx q→p:=by intro Y;refine AC (ls:=nmV (0,0)) (vs:=nmV (keyM x.m)) (ls':=nmV (keyM x.m)) rfl rfl rfl (nmV_one _) rfl rfl (Nat.le_refl 2) (.here _ _ _) ?_;exact Y.o):q→p:=A0 k
theorem qiW(k:Bx q→p:=by intro Y;apply (qev);apply A3 (waQ _ _);apply (qgy);apply (qdH);exact Y.o):q→p:=A0 k
theorem qiX(k:Bx q→p:=by intro Y;apply A3 (fam _ _);exact Y.o):q→p:=A0 k
theorem qiY(k:Bx q→p:=by intro Y;show Fn _ _ _ f (row _ _ (staR lb tb j)::row tb _ _::ledH lb _ _::F) _;exact Y.o):q→p:=A0 k
theorem qiZ(k:Bx q→p:=by intro Y;apply A3 (slc pp _ _ _ _ _);exact Y.o):q→p:=A0 k
theorem qj(k:Bx q→p:=by intro Y;apply A3 (slc lp _ _ _ _ _);exact Y.o):q→p:=A0 k
theorem qja(k:Bx q→p:=by intro Y;refine AC (ls:=Req.zero.vals) (vs:=q.vals) (ls':=q.vals) rfl rfl rfl (zaa rfl) rfl rfl (Nat.le_refl 40) jA ?_;exact Y.o):q→p:=A0 k
theorem qjb(k:Bx q→p:=by intro Y;refine AH (ls:=r.vals) rfl rfl rfl (Rd.ofRow (.here _ _ _)) rfl rfl ?_;exact Y.o):q→p:=A0 k
theorem qjc(k:Bx q→p:=by intro Y;apply (qfq);refine AN ?_;exact Y.o):q→p:=A0 k
theorem qjd(k:Bx q→p:=by intro Y;apply (gA);apply (qdF);exact Y.o):q→p:=A0 k
theorem qje(k:Bx q→p:=by intro Y;apply A3 (fam (updF (strH l i) o emp) 11);apply A3 (strH l i o);refine CH ho11 ?_;exact Y.o):q→p:=A0 k
theorem qjf(k:Bx q→p:=by intro Y;apply (qhL);apply A5 (hau _);apply (qep);apply A6 [2,3,4,5,6,8] 21;apply (gF);apply (qfB);exact Y.o):q→p:=A0 k
theorem qjg(k:Bx q→p:=by intro Y;refine AC (ls:=dV dZ) (vs:=dV dZ) (ls':=dV dZ) rfl rfl rfl (dV_one _) rfl (zbl rfl) (Nat.le_refl 32) jA ?_;exact Y.o):q→p:=A0 k
theorem qjh(k:Bx q→p:=by intro Y;refine AC (ls:=bodZ) (vs:=sv) (ls':=sv) rfl rfl rfl hso hsl hset (by rw[hsl];exact Nat.le_refl 76) jA ?_;exact Y.o):q→p:=A0 k
theorem qji(k:Bx q→p:=by intro Y;apply (gS);refine H.max2 (z:=if(r.key.size:Int)<r.to.size then(r.to.size:Int)else r.key.size) rfl rfl rfl rfl rfl ?_;exact Y.o):q→p:=A0 k
theorem qjj(k:Bx q→p:=by intro Y;apply (qdU);apply (qdL);apply (qfp);apply (qec);apply (qfo);apply (qel);apply (qdM);apply (qeg);exact Y.o):q→p:=A0 k
theorem qjk(k:Bx q→p:=by intro Y;apply A3 (netQ _ _);exact Y.o):q→p:=A0 k
theorem qjl(k:Bx q→p:=by intro Y;apply (gT);refine H.imp (zax hb hc) ?_;refine A8 rfl rfl rfl hh ?_;apply (gL);exact D6 Y.o):q→p:=A0 k
theorem qjm(k:Bx q→p:=by intro Y;apply (gA);exact H.box (ls:=stpL d cl who nn opZ) rfl rfl rfl rfl Y.o):q→p:=A0 k
theorem qjn(k:Bx q→p:=by intro Y;exact A9 func153 ntmps153 Y.o):q→p:=A0 k
theorem qjo(k:Bx q→p:=by intro Y;exact YieldFn.of rfl rfl rfl rfl Y.o):q→p:=A0 k
theorem qjp(k:Bx q→p:=by intro Y;apply A3 (worH _ _ _ _ _);exact Y.o):q→p:=A0 k
theorem qjq(k:Bx q→p:=by intro Y;apply (qfZ);refine H.imp (imp_first (itr_weak (es':=es2) fun _ h=>h)) ?_;apply (qeO);apply (qed);exact Y.o):q→p:=A0 k
theorem qjr(k:Bx q→p:=by intro Y;apply (qet);apply (qet);exact Y.o):q→p:=A0 k
theorem qjs(k:Bx q→p:=by intro Y;refine D7 (enc:=encU8) (k:=(x.kind.toNat:Int)) rfl rfl rfl jA rfl hz hi rfl ?_;apply (qfa);exact Y.o):q→p:=A0 k
theorem qjt(k:Bx q→p:=by intro Y;apply A3 (chkH _ _ _);exact Y.o):q→p:=A0 k
theorem qju(k:Bx q→p:=by intro Y;refine CE (.there _ (.there _ (.there _ (.there _ (.here _ _))))) ?_;exact Y.o):q→p:=A0 k
theorem qjv(k:Bx q→p:=by intro Y;apply (gG);exact AG rfl rfl rfl (treplica_fn f _ htab h1 h2) Y.o):q→p:=A0 k
theorem qjw(k:Bx q→p:=by intro Y;apply (gA);apply (qed);apply (qgb);exact Y.o):q→p:=A0 k
theorem qjx(k:Bx q→p:=by intro Y;refine C4 (lv:=0) (hv:=8) (mv:=8) rfl rfl rfl rfl rfl (fun h=>by cases h) jE jE jE rfl ?_;exact Y.o):q→p:=A0 k
theorem qjy(k:Bx q→p:=by intro Y;apply (gO);apply (qdH);apply (qfN);exact Y.o):q→p:=A0 k
theorem qjz(k:Bx q→p:=by intro Y;refine D9 (bs:=[yv (k+1)]) rfl rfl (Src.slice (Rd.ofRow jA) rfl) (fun h=>by cases h) rfl ?_;exact Y.o):q→p:=A0 k
theorem qjA(k:Bx q→p:=by intro Y;exact AO (p:=p2) (n0:=l2.length) (c:=c2) (T:=5) (sz:=1) (xs:=bytesV l2) jA jB Y.o):q→p:=A0 k
theorem qjB(k:Bx q→p:=by intro Y;exact AJ (ls:=ansZ 0 none 0 0) rfl rfl rfl Y.o):q→p:=A0 k
theorem qjC(k:Bx q→p:=by intro Y;refine D7 (enc:=encU8) (k:=(kind:Int)) rfl rfl rfl jA hkv (hz _) hi rfl ?_;apply (qfa);exact Y.o):q→p:=A0 k
theorem qjD(k:Bx q→p:=by intro Y;refine AD (ls:=toldV ((k+1:Nat):Int)) rfl rfl rfl (Rd.ofRow jA) rfl rfl ?_;apply (qgT);exact Y.o):q→p:=A0 k
theorem qjE(k:Bx q→p:=by intro Y;(repeat(first|(refine AH (ls:=x.vals) rfl rfl rfl (Rd.ofRow jA) rfl rfl ?_)|(apply (gV))));exact Y.o):q→p:=A0 k
theorem qjF(k:Bx q→p:=by intro Y;apply (gA);apply (qg);apply (qdL);apply (qfl);apply (qgY);apply (qke);exact Y.o):q→p:=A0 k
theorem qjG(k:Bx q→p:=by intro Y;apply (qfa);apply A7 12;exact Y.o):q→p:=A0 k
theorem qjH(k:Bx q→p:=by intro Y;apply (qeY);apply (qel);exact Y.o):q→p:=A0 k
theorem qjI(k:Bx q→p:=by intro Y;refine Es (xs:=doiC b1 b2 b3) (i:=d) rfl rfl rfl rfl jB rfl (hent b1 b2 b3) rfl ?_;apply (qdG);exact Y.o):q→p:=A0 k
theorem qjJ(k:Bx q→p:=by intro Y;exact AJ (ls:=v11 fun _=>0) rfl rfl rfl Y.o):q→p:=A0 k
theorem qjK(k:Bx q→p:=by intro Y;refine A8 rfl rfl rfl (duprim_fn f _ h3 h11) ?_;exact Y.o):q→p:=A0 k
theorem qjL(k:Bx q→p:=by intro Y;refine D8 ?_;refine EC ?_;exact Y.o):q→p:=A0 k
theorem qjM(k:Bx q→p:=by intro Y;apply (gG);apply (qfH);apply (qiP);refine A8 rfl rfl rfl (lcheck_fn f _ htab hx) ?_;apply (gN);exact Y.o):q→p:=A0 k
theorem qjN(k:Bx q→p:=by intro Y;refine BY 8 jD jJ ?_;apply (gH);exact Y.o):q→p:=A0 k
theorem qjO(k:Bx q→p:=by intro Y;refine CC (i:=j+1) rfl rfl rfl jB jB rfl ?_;exact Y.o):q→p:=A0 k
theorem qjP(k:Bx q→p:=by intro Y;apply (qgv);apply (qdF);apply (qgb);exact Y.o):q→p:=A0 k
theorem qjQ(k:Bx q→p:=by intro Y;apply (gJ);apply (qdO);exact Y.o):q→p:=A0 k
theorem qjR(k:Bx q→p:=by intro Y;apply (gG);apply (qfl);apply (qea);apply (qhr);apply (qev);exact AG rfl rfl rfl (lglog_fn f _ hlg) Y.o):q→p:=A0 k
theorem qjS(k:Bx q→p:=by intro Y;apply A3 (ledH _ _ _);apply (qdF);apply (qfO);exact Y.o):q→p:=A0 k
theorem qjT(k:Bx q→p:=by intro Y;exact DA (.here _ _ _) Y.o):q→p:=A0 k
theorem qjU(k:Bx q→p:=by intro Y;apply (qgy);apply A3 (waQ _ _);exact Y.o):q→p:=A0 k
theorem qjV(k:Bx q→p:=by intro Y;apply (gA);exact H.box (ls:=placeC db p) rfl rfl rfl rfl Y.o):q→p:=A0 k
theorem qjW(k:Bx q→p:=by intro Y;refine HN.move (i:=2) jD rfl rfl rfl rfl ?_;refine HN.move (i:=3) jD rfl rfl rfl rfl ?_;exact Y.o):q→p:=A0 k
theorem qjX(k:Bx q→p:=by intro Y;refine AH (ls:=hd0) rfl rfl rfl (Rd.ofRow jA) rfl rfl ?_;apply (qgK);apply A7 2;exact Y.o):q→p:=A0 k
theorem qjY(k:Bx q→p:=by intro Y;apply (qdU);apply (qef);apply (qdS);exact Y.o):q→p:=A0 k
theorem qjZ(k:Bx q→p:=by intro Y;refine CI (i:=i) rfl rfl rfl rfl hlt rfl ?_;exact Y.o):q→p:=A0 k
theorem qka(k:Bx q→p:=by intro Y;apply (qex);apply A6 [0,1,2,3,4] 1;exact Y.o):q→p:=A0 k
theorem qkb(k:Bx q→p:=by intro Y;apply A6 [13] 0;apply (qdP);exact Y.o):q→p:=A0 k
theorem qkc(k:Bx q→p:=by intro Y;show LeavesInM Fence.wide 3 P fn a.tmps R a.defers .returning w;exact Y.o):q→p:=A0 k
theorem qkd(k:Bx q→p:=by intro Y;apply (gR);apply (qea);apply A6 [0,1,2,3,4,5,6,7] 2;apply (qdX);apply A7 8;apply (qev);exact Y.o):q→p:=A0 k
theorem qke(k:Bx q→p:=by intro Y;apply A7 10;exact Y.o):q→p:=A0 k
theorem qkf(k:Bx q→p:=by intro Y;apply A3 (slc np2 _ _ _ _ _);apply (qhH);apply A3 (slc lp2 _ _ _ _ _);apply (qgr);exact Y.o):q→p:=A0 k
theorem qkg(k:Bx q→p:=by intro Y;refine H.dc [0,1,2,3,4,5,6,7,8,9] (S:=[_,_]) rfl ?_;exact Y.o):q→p:=A0 k
theorem qkh(k:Bx q→p:=by intro Y;apply (gO);apply (qec);exact Y.o):q→p:=A0 k
theorem qki(k:Bx q→p:=by intro Y;refine AH (ls:=reqL x (J+1) (qS x (J+1)).tag) rfl rfl rfl (Rd.ofRow jA) rfl rfl ?_;exact Y.o):q→p:=A0 k
theorem qkj(k:Bx q→p:=by intro Y;exact H.box (ls:=x.vals) rfl rfl rfl rfl Y.o):q→p:=A0 k
theorem qkk(k:Bx q→p:=by intro Y;exact AJ (ls:=lastV false) rfl rfl rfl Y.o):q→p:=A0 k
theorem qkl(k:Bx q→p:=by intro Y;apply (qdE);apply A6 [16] 1;apply (qgp);apply (qdG);apply A7 17;exact Y.o):q→p:=A0 k
theorem qkm(k:Bx q→p:=by intro Y;apply (gN);refine B7 (i:=i) rfl rfl rfl rfl hlt rfl ?_;exact Y.o):q→p:=A0 k
theorem qkn(k:Bx q→p:=by intro Y;apply (qeO);apply (qeR);apply (qdM);apply (qef);exact Y.o):q→p:=A0 k
theorem qko(k:Bx q→p:=by intro Y;apply A3 (pts D _);exact Y.o):q→p:=A0 k
theorem qkp(k:Bx q→p:=by intro Y;apply A3 (slc p _ c _ _ _);exact Y.o):q→p:=A0 k
theorem qkq(k:Bx q→p:=by intro Y;apply (gG);apply (qea);exact Y.o):q→p:=A0 k
theorem qkr(k:Bx q→p:=by intro Y;apply (gA);exact H.box (ls:=opL x y) rfl rfl rfl rfl Y.o):q→p:=A0 k
theorem qks(k:Bx q→p:=by intro Y;exact AJ (ls:=[.int .i64 0,.int .u64 0]) rfl rfl rfl Y.o):q→p:=A0 k
theorem qkt(k:Bx q→p:=by intro Y;show H _ _ _ _ f (lonH wb n cb x w.lon ap w.acc.length ac::accH ap ac w.acc::cluH cb n asked x w::_) _;exact Y.o):q→p:=A0 k
theorem qku(k:Bx q→p:=by intro Y;apply A3 (row vb _ _);exact Y.o):q→p:=A0 k
theorem qkv(k:Bx q→p:=by intro Y;apply A4 (row vb _ _);exact Y.o):q→p:=A0 k
theorem qkw(k:Bx q→p:=by intro Y;apply A4 (row sb _ _);exact Y.o):q→p:=A0 k
theorem qkx(k:Bx q→p:=by intro Y;show Fn _ _ _ f (row _ _ (runR j i)::slc _ _ _ _ _ _::staH _ _ _::slc _ _ _ _ _ _::mp _ _ _::F) _;exact Y.o):q→p:=A0 k
theorem qky(k:Bx q→p:=by intro Y;(repeat(first|(apply (gU))|(refine A8 rfl rfl rfl (pair_fn f _ p.src p.dst) ?_)));apply (qet);exact Y.o):q→p:=A0 k
theorem qkz(k:Bx q→p:=by intro Y;apply (gT);apply (qfb);refine A8 rfl rfl rfl (hpe cb _) ?_;apply (gO);exact (qfh) Y.o):q→p:=A0 k
theorem qkA(k:Bx q→p:=by intro Y;apply (gA);refine D8 ?_;exact Y.o):q→p:=A0 k
theorem qkB(k:Bx q→p:=by intro Y;refine Ct (out:=toldV ((J+1:Nat):Int)) rfl rfl rfl jD rfl ?_;apply (qdG);exact Y.o):q→p:=A0 k
theorem qkC(k:Bx q→p:=by intro Y;apply A3 (pkM _);apply A3 (psl _ _ _);exact Y.o):q→p:=A0 k
theorem qkD(k:Bx q→p:=by intro Y;apply A4 (slc (some ⟨b2,0,none⟩) _ _ _ _ _);exact Y.o):q→p:=A0 k
theorem qkE(k:Bx q→p:=by intro Y;apply (qhN);refine C1 (ls:=_) rfl rfl rfl (Rd.ofRow jA) hvl rfl ?_;apply (gI);exact Y.o):q→p:=A0 k
theorem qkF(k:Bx q→p:=by intro Y;apply A7 9;exact Y.o):q→p:=A0 k
theorem qkG(k:Bx q→p:=by intro Y;apply (gG);apply A3 (netH h nb N);refine A8 rfl rfl rfl (netHas_fn f _ h nb N k) ?_;exact Y.o):q→p:=A0 k
theorem qkH(k:Bx q→p:=by intro Y;apply A3 (row b3 _ _);apply A3 (row b2 _ _);apply A3 (row b1 _ _);exact Y.o):q→p:=A0 k
theorem qkI(k:Bx q→p:=by intro Y;apply (qeS);apply (qdM);apply (qgY);exact Y.o):q→p:=A0 k
theorem qkJ(k:Bx q→p:=by intro Y;apply (gA);apply (qea);exact Y.o):q→p:=A0 k
theorem gA(k:Bx q→p:=by intro x;(repeat(first|(first|apply H.seq|apply BD|apply H.nil|apply BF)));exact x.o):q→p:=A0 k
theorem gB(k:Bx q→p:=by intro x;(repeat(first|((first|apply Cu|apply Cv|apply Cw|apply Cx);(iterate 3 exact rfl))));exact x.o):q→p:=A0 k
theorem gC(k:Bx q→p:=by intro x;(repeat(first|(first|apply H.seq|apply BD|apply H.nil|apply BF)|(apply AZ;(iterate 4 exact rfl);(repeat(first|exact .here _ _ _|apply At.there));(repeat(first|exact .here _ _ _|apply SetV.there)))));exact x.o):q→p:=A0 k
theorem gD(k:Bx q→p:=by intro x;(repeat(first|((first|apply B3|apply BE|apply B8|apply BG|apply BV|apply BW);(iterate 3 exact rfl))|(first|apply H.seq|apply BD|apply H.nil|apply BF)|((first|(apply BC;(iterate 4 exact rfl))|(apply BL;(iterate 2 exact rfl)));(first|(with_reducible apply zbm;omega)|(with_reducible apply zay;omega)|(with_reducible apply zbk;omega)|(with_reducible apply wr_i64;omega)|(with_reducible apply wr_u64;omega)|(with_reducible apply wr_u8;omega)|(with_reducible apply wr_u16;omega)|rfl);exact rfl)|(first|apply H.skip|apply H.ret|apply C5|apply C6|apply H.exit|apply H.block|apply BJ|apply BZ|apply C7|apply C8|apply C9)));exact x.o):q→p:=A0 k
theorem gE(k:Bx q→p:=by intro x;(repeat(first|((first|apply B3|apply BE|apply B8|apply BG|apply BV|apply BW);(iterate 3 exact rfl))|(first|apply H.seq|apply BD|apply H.nil|apply BF)|((first|apply BU|apply AT);(iterate 5 exact rfl))|(apply CF;exact rfl)|(first|apply H.skip|apply H.ret|apply C5|apply C6|apply H.exit|apply H.block|apply BJ|apply BZ|apply C7|apply C8|apply C9)));exact x.o):q→p:=A0 k
theorem gF(k:Bx q→p:=by intro x;(repeat(first|((first|apply Cu|apply Cv|apply Cw|apply Cx);(iterate 3 exact rfl))|(apply DP;(iterate 3 exact rfl);exact inferInstance;exact rfl)|(apply B6;(iterate 3 exact rfl);apply Rd1.ofRow;(repeat(first|exact .here _ _ _|apply At.there));(iterate 2 exact rfl))));exact x.o):q→p:=A0 k
theorem gG(k:Bx q→p:=by intro x;(repeat(first|((first|apply B3|apply BE|apply B8|apply BG|apply BV|apply BW);(iterate 3 exact rfl))|(first|apply H.seq|apply BD|apply H.nil|apply BF)));exact x.o):q→p:=A0 k
theorem gH(k:Bx q→p:=by intro x;(repeat(first|((first|apply Et|apply Eu);(iterate 3 exact rfl))|(apply Ev;(iterate 3 exact rfl);exact inferInstance;exact rfl)|(apply Dk;(iterate 3 exact rfl);apply Rd1.ofRow;(repeat(first|exact .here _ _ _|apply At.there));(iterate 2 exact rfl))|apply HS.done|((first|apply ED);(iterate 5 exact rfl))|((first|(apply Ew;(iterate 4 exact rfl))|(apply HS.conv_int;(iterate 2 exact rfl)));(first|(with_reducible apply zbm;omega)|(with_reducible apply zay;omega)|(with_reducible apply zbk;omega)|(with_reducible apply wr_i64;omega)|(with_reducible apply wr_u64;omega)|(with_reducible apply wr_u8;omega)|(with_reducible apply wr_u16;omega)|rfl);exact rfl)));exact x.o):q→p:=A0 k
theorem gI(k:Bx q→p:=by intro x;(repeat(first|((first|apply Cu|apply Cv|apply Cw|apply Cx);(iterate 3 exact rfl))|((first|apply Dl|apply Dm|apply HQ.not);(iterate 4 exact rfl))|apply HS.done));exact x.o):q→p:=A0 k
theorem gJ(k:Bx q→p:=by intro x;(repeat(first|((first|apply B3|apply BE|apply B8|apply BG|apply BV|apply BW);(iterate 3 exact rfl))|(first|apply H.seq|apply BD|apply H.nil|apply BF)|((first|apply BU|apply AT);(iterate 5 exact rfl))|(apply H.pass;(iterate 2 exact rfl))|(apply CZ;(iterate 4 exact rfl))|(first|apply H.skip|apply H.ret|apply C5|apply C6|apply H.exit|apply H.block|apply BJ|apply BZ|apply C7|apply C8|apply C9)|(apply Cy;(iterate 3 exact rfl);(first|assumption|omega))));exact x.o):q→p:=A0 k
theorem gK(k:Bx q→p:=by intro x;(repeat(first|((first|apply B3|apply BE|apply B8|apply BG|apply BV|apply BW);(iterate 3 exact rfl))|(first|apply H.seq|apply BD|apply H.nil|apply BF)|(first|apply H.skip|apply H.ret|apply C5|apply C6|apply H.exit|apply H.block|apply BJ|apply BZ|apply C7|apply C8|apply C9)));exact x.o):q→p:=A0 k
theorem gL(k:Bx q→p:=by intro x;(repeat(first|((first|apply B3|apply BE|apply B8|apply BG|apply BV|apply BW);(iterate 3 exact rfl))|(apply BH;(iterate 3 exact rfl);exact inferInstance;exact rfl)|(apply AL;(iterate 3 exact rfl);apply Rd1.ofRow;(repeat(first|exact .here _ _ _|apply At.there));(iterate 2 exact rfl))|(first|apply H.seq|apply BD|apply H.nil|apply BF)|((first|(apply BC;(iterate 4 exact rfl))|(apply BL;(iterate 2 exact rfl)));(first|(with_reducible apply zbm;omega)|(with_reducible apply zay;omega)|(with_reducible apply zbk;omega)|(with_reducible apply wr_i64;omega)|(with_reducible apply wr_u64;omega)|(with_reducible apply wr_u8;omega)|(with_reducible apply wr_u16;omega)|rfl);exact rfl)|(apply CZ;(iterate 4 exact rfl))|((first|apply CJ|apply CQ|apply H.not|apply CR);(iterate 4 exact rfl))|((first|apply CK|apply CG);(iterate 5 exact rfl))|(apply AZ;(iterate 4 exact rfl);(repeat(first|exact .here _ _ _|apply At.there));(repeat(first|exact .here _ _ _|apply SetV.there)))|(apply CS;exact rfl)));exact x.o):q→p:=A0 k
theorem gM(k:Bx q→p:=by intro x;(repeat(first|((first|apply Cu|apply Cv|apply Cw|apply Cx);(iterate 3 exact rfl))|(apply DP;(iterate 3 exact rfl);exact inferInstance;exact rfl)|(apply B6;(iterate 3 exact rfl);apply Rd1.ofRow;(repeat(first|exact .here _ _ _|apply At.there));(iterate 2 exact rfl))|((first|apply Dn|apply HQ.done);exact rfl)|((first|apply Do|apply Ct);(iterate 5 exact rfl))|((first|(apply DQ;(iterate 4 exact rfl))|(apply Dp;(iterate 2 exact rfl)));(first|(with_reducible apply zbm;omega)|(with_reducible apply zay;omega)|(with_reducible apply zbk;omega)|(with_reducible apply wr_i64;omega)|(with_reducible apply wr_u64;omega)|(with_reducible apply wr_u8;omega)|(with_reducible apply wr_u16;omega)|rfl);exact rfl)|(apply Dq;(iterate 4 exact rfl))));exact x.o):q→p:=A0 k
theorem gN(k:Bx q→p:=by intro x;(repeat(first|((first|apply B3|apply BE|apply B8|apply BG|apply BV|apply BW);(iterate 3 exact rfl))|(first|apply H.seq|apply BD|apply H.nil|apply BF)|((first|apply BU|apply AT);(iterate 5 exact rfl))|(first|apply H.skip|apply H.ret|apply C5|apply C6|apply H.exit|apply H.block|apply BJ|apply BZ|apply C7|apply C8|apply C9)|(apply CT;exact rfl;(first|assumption|omega))|(apply CU;exact rfl;(first|assumption|omega))));exact x.o):q→p:=A0 k
theorem gO(k:Bx q→p:=by intro x;(repeat(first|((first|apply B3|apply BE|apply B8|apply BG|apply BV|apply BW);(iterate 3 exact rfl))|(apply BH;(iterate 3 exact rfl);exact inferInstance;exact rfl)|(apply AL;(iterate 3 exact rfl);apply Rd1.ofRow;(repeat(first|exact .here _ _ _|apply At.there));(iterate 2 exact rfl))|(first|apply H.seq|apply BD|apply H.nil|apply BF)|((first|apply CJ|apply CQ|apply H.not|apply CR);(iterate 4 exact rfl))));exact x.o):q→p:=A0 k
theorem gP(k:Bx q→p:=by intro x;(repeat(first|((first|apply B3|apply BE|apply B8|apply BG|apply BV|apply BW);(iterate 3 exact rfl))|(first|apply H.seq|apply BD|apply H.nil|apply BF)|((first|apply BU|apply AT);(iterate 5 exact rfl))|((first|(apply BC;(iterate 4 exact rfl))|(apply BL;(iterate 2 exact rfl)));(first|(with_reducible apply zbm;omega)|(with_reducible apply zay;omega)|(with_reducible apply zbk;omega)|(with_reducible apply wr_i64;omega)|(with_reducible apply wr_u64;omega)|(with_reducible apply wr_u8;omega)|(with_reducible apply wr_u16;omega)|rfl);exact rfl)|((first|apply CK|apply CG);(iterate 5 exact rfl))|(apply CS;exact rfl)|(apply CF;exact rfl)|(first|apply H.skip|apply H.ret|apply C5|apply C6|apply H.exit|apply H.block|apply BJ|apply BZ|apply C7|apply C8|apply C9)|(apply CT;exact rfl;(first|assumption|omega))|(apply CU;exact rfl;(first|assumption|omega))));exact x.o):q→p:=A0 k
theorem gQ(k:Bx q→p:=by intro x;(repeat(first|((first|apply Cu|apply Cv|apply Cw|apply Cx);(iterate 3 exact rfl))|(apply DP;(iterate 3 exact rfl);exact inferInstance;exact rfl)|(apply B6;(iterate 3 exact rfl);apply Rd1.ofRow;(repeat(first|exact .here _ _ _|apply At.there));(iterate 2 exact rfl))|((first|apply Dn|apply HQ.done);exact rfl)|((first|apply Do|apply Ct);(iterate 5 exact rfl))|((first|(apply DQ;(iterate 4 exact rfl))|(apply Dp;(iterate 2 exact rfl)));(first|(with_reducible apply zbm;omega)|(with_reducible apply zay;omega)|(with_reducible apply zbk;omega)|(with_reducible apply wr_i64;omega)|(with_reducible apply wr_u64;omega)|(with_reducible apply wr_u8;omega)|(with_reducible apply wr_u16;omega)|rfl);exact rfl)|(apply HQ.pass;(iterate 2 exact rfl))|(apply Dq;(iterate 4 exact rfl))|((first|apply Dl|apply Dm|apply HQ.not);(iterate 4 exact rfl))|((first|apply EE);(iterate 5 exact rfl))|(apply EF;(iterate 3 exact rfl);(first|assumption|omega))|(apply EG;(iterate 3 exact rfl);(first|assumption|omega))));exact x.o):q→p:=A0 k
theorem gR(k:Bx q→p:=by intro x;(repeat(first|((first|apply B3|apply BE|apply B8|apply BG|apply BV|apply BW);(iterate 3 exact rfl))|(first|apply H.seq|apply BD|apply H.nil|apply BF)|((first|apply CJ|apply CQ|apply H.not|apply CR);(iterate 4 exact rfl))|((first|apply CK|apply CG);(iterate 5 exact rfl))|(apply CS;exact rfl)|(apply CF;exact rfl)|(first|apply H.skip|apply H.ret|apply C5|apply C6|apply H.exit|apply H.block|apply BJ|apply BZ|apply C7|apply C8|apply C9)));exact x.o):q→p:=A0 k
theorem gS(k:Bx q→p:=by intro x;(repeat(first|((first|apply B3|apply BE|apply B8|apply BG|apply BV|apply BW);(iterate 3 exact rfl))|(apply BH;(iterate 3 exact rfl);exact inferInstance;exact rfl)|(apply AL;(iterate 3 exact rfl);apply Rd1.ofRow;(repeat(first|exact .here _ _ _|apply At.there));(iterate 2 exact rfl))|(first|apply H.seq|apply BD|apply H.nil|apply BF)|((first|apply BU|apply AT);(iterate 5 exact rfl))|((first|(apply BC;(iterate 4 exact rfl))|(apply BL;(iterate 2 exact rfl)));(first|(with_reducible apply zbm;omega)|(with_reducible apply zay;omega)|(with_reducible apply zbk;omega)|(with_reducible apply wr_i64;omega)|(with_reducible apply wr_u64;omega)|(with_reducible apply wr_u8;omega)|(with_reducible apply wr_u16;omega)|rfl);exact rfl)|(apply H.pass;(iterate 2 exact rfl))|(apply CZ;(iterate 4 exact rfl))|((first|apply CJ|apply CQ|apply H.not|apply CR);(iterate 4 exact rfl))|((first|apply CK|apply CG);(iterate 5 exact rfl))|(apply AZ;(iterate 4 exact rfl);(repeat(first|exact .here _ _ _|apply At.there));(repeat(first|exact .here _ _ _|apply SetV.there)))|(apply CS;exact rfl)|(apply CF;exact rfl)|(first|apply H.skip|apply H.ret|apply C5|apply C6|apply H.exit|apply H.block|apply BJ|apply BZ|apply C7|apply C8|apply C9)|(apply DB;exact rfl)|(apply Cy;(iterate 3 exact rfl);(first|assumption|omega))|(apply DC;(iterate 3 exact rfl);(first|assumption|omega))|(apply CT;exact rfl;(first|assumption|omega))|(apply CU;exact rfl;(first|assumption|omega))));exact x.o):q→p:=A0 k
theorem gT(k:Bx q→p:=by intro x;(repeat(first|((first|apply B3|apply BE|apply B8|apply BG|apply BV|apply BW);(iterate 3 exact rfl))|(apply BH;(iterate 3 exact rfl);exact inferInstance;exact rfl)|(apply AL;(iterate 3 exact rfl);apply Rd1.ofRow;(repeat(first|exact .here _ _ _|apply At.there));(iterate 2 exact rfl))|(first|apply H.seq|apply BD|apply H.nil|apply BF)|((first|apply BU|apply AT);(iterate 5 exact rfl))|((first|(apply BC;(iterate 4 exact rfl))|(apply BL;(iterate 2 exact rfl)));(first|(with_reducible apply zbm;omega)|(with_reducible apply zay;omega)|(with_reducible apply zbk;omega)|(with_reducible apply wr_i64;omega)|(with_reducible apply wr_u64;omega)|(with_reducible apply wr_u8;omega)|(with_reducible apply wr_u16;omega)|rfl);exact rfl)|((first|apply CK|apply CG);(iterate 5 exact rfl))|(apply CF;exact rfl)|(first|apply H.skip|apply H.ret|apply C5|apply C6|apply H.exit|apply H.block|apply BJ|apply BZ|apply C7|apply C8|apply C9)|(apply CT;exact rfl;(first|assumption|omega))|(apply CU;exact rfl;(first|assumption|omega))));exact x.o):q→p:=A0 k
theorem gU(k:Bx q→p:=by intro x;(first|((first|apply B3|apply BE|apply B8|apply BG|apply BV|apply BW);(iterate 3 exact rfl))|(apply BH;(iterate 3 exact rfl);exact inferInstance;exact rfl)|(apply AL;(iterate 3 exact rfl);apply Rd1.ofRow;(repeat(first|exact .here _ _ _|apply At.there));(iterate 2 exact rfl))|(first|apply H.seq|apply BD|apply H.nil|apply BF)|((first|apply BU|apply AT);(iterate 5 exact rfl))|((first|(apply BC;(iterate 4 exact rfl))|(apply BL;(iterate 2 exact rfl)));(first|(with_reducible apply zbm;omega)|(with_reducible apply zay;omega)|(with_reducible apply zbk;omega)|(with_reducible apply wr_i64;omega)|(with_reducible apply wr_u64;omega)|(with_reducible apply wr_u8;omega)|(with_reducible apply wr_u16;omega)|rfl);exact rfl)|(apply H.pass;(iterate 2 exact rfl))|(apply CZ;(iterate 4 exact rfl))|((first|apply CJ|apply CQ|apply H.not|apply CR);(iterate 4 exact rfl))|((first|apply CK|apply CG);(iterate 5 exact rfl))|(apply AZ;(iterate 4 exact rfl);(repeat(first|exact .here _ _ _|apply At.there));(repeat(first|exact .here _ _ _|apply SetV.there)))|(apply CS;exact rfl)|(apply CF;exact rfl)|(first|apply H.skip|apply H.ret|apply C5|apply C6|apply H.exit|apply H.block|apply BJ|apply BZ|apply C7|apply C8|apply C9)|(apply Cy;(iterate 3 exact rfl);(first|assumption|omega))|(apply DC;(iterate 3 exact rfl);(first|assumption|omega))|(apply CT;exact rfl;(first|assumption|omega))|(apply CU;exact rfl;(first|assumption|omega))|((first|apply DR);(iterate 3 exact rfl);assumption)|(apply DS;(iterate 3 exact rfl);assumption));exact x.o):q→p:=A0 k
theorem gV(k:Bx q→p:=by intro x;(first|((first|apply Cu|apply Cv|apply Cw|apply Cx);(iterate 3 exact rfl))|(apply DP;(iterate 3 exact rfl);exact inferInstance;exact rfl)|(apply B6;(iterate 3 exact rfl);apply Rd1.ofRow;(repeat(first|exact .here _ _ _|apply At.there));(iterate 2 exact rfl))|((first|apply Dn|apply HQ.done);exact rfl)|((first|apply Do|apply Ct);(iterate 5 exact rfl))|((first|(apply DQ;(iterate 4 exact rfl))|(apply Dp;(iterate 2 exact rfl)));(first|(with_reducible apply zbm;omega)|(with_reducible apply zay;omega)|(with_reducible apply zbk;omega)|(with_reducible apply wr_i64;omega)|(with_reducible apply wr_u64;omega)|(with_reducible apply wr_u8;omega)|(with_reducible apply wr_u16;omega)|rfl);exact rfl)|(apply HQ.pass;(iterate 2 exact rfl))|(apply Dq;(iterate 4 exact rfl))|((first|apply Dl|apply Dm|apply HQ.not);(iterate 4 exact rfl))|((first|apply EE);(iterate 5 exact rfl))|(apply EF;(iterate 3 exact rfl);(first|assumption|omega))|(apply EG;(iterate 3 exact rfl);(first|assumption|omega)));exact x.o):q→p:=A0 k
abbrev Env:=List (Nat×Value)
def lk:Env→Nat→Option Value
 | [],_=>none
 | (j, v) :: r, i => match Nat.beq j i with
  |true=>some v
  |false=>lk r i
def look?(L:Env)(i:Nat):Option Value:=match Nat.ble 1000003 i with
 |true=>none
 |false=>lk L i
def mk?(L:Env):Option Value:=lk L 1000003
def dmOf(L:Env):List Deferred:=match mk? L with
 |some (.pointer (some p))=>[{target:=.collected p.block,args:=#[]}]
 |_=>[]
structure Fr(n:Nat)(a:Act)(L:Env):Prop where
 size:a.tmps.size=n
 small:n≤1000003
 defers:a.defers=dmOf L
 get:∀i v,look? L i=some v→a.tmps[i]?=some v
theorem lk_cons(j:Nat)(v:Value)(r:Env)(i:Nat):lk ((j,v)::r) i=if j=i then some v else lk r i:=by
 simp only[lk];by_cases h:j=i
 ·subst h;simp
 ·have:Nat.beq j i=false:=by
   cases e:Nat.beq j i with
   |false=>rfl
   |true=>exact absurd (Nat.eq_of_beq_eq_true e) h
  simp[this,h]
variable {L:Env} {v:Value}
theorem look?_lt{i:Nat}(h:look? L i=some v):i<1000003:=by
 unfold look? at h
 cases e:Nat.ble 1000003 i with
 |true=>rw[e]at h;cases h
 | false =>
  rcases Nat.lt_or_ge i 1000003 with h'|h'
  ·exact h'
  ·rw[Nat.ble_eq_true_of_le h']at e;cases e
theorem look?_eq{i:Nat}(h:i<1000003):look? L i=lk L i:=by
 unfold look?
 cases e:Nat.ble 1000003 i with
 |true=>have:=Nat.le_of_ble_eq_true e;omega
 |false=>rfl
theorem look?_cons{j:Nat}{r:Env}{i:Nat}(h:i<1000003):look? ((j,v)::r) i=if j=i then some v else look? r i:=by
 rw[look?_eq h,look?_eq h,lk_cons]
theorem Fr.put{n:Nat}{a:Act}{L:Env}(h:Fr n a L){d:Nat}(hd:d<n)(v:Value):Fr n (a.put (some d) v) ((d,v)::L):=by
 have hm:=h.small;refine⟨by simp[Act.put,h.size],h.small,h.defers.trans jz,fun i u hi=>?_⟩
 rw[look?_cons (look?_lt hi)]at hi;by_cases e:d=i
 ·subst e;simp at hi;subst hi;simp[Act.put,h.size,hd]
 ·simp[e]at hi
  have:=h.get i u hi;simp only[Act.put]
  rw[Array.getElem?_setIfInBounds_ne e];exact h.get i u hi
variable {n:Nat} {a:Act}
theorem Fr.know(h:Fr n a L){d:Nat}{u:Value}(hv:look? L d=some v)(e:v=u):Fr n a ((d,u)::L):=by
 subst e;have hd:=look?_lt hv;refine⟨h.size,h.small,h.defers.trans jz,fun i x hi=>h.get i x ?_⟩
 rw[look?_cons (look?_lt hi)]at hi;by_cases c:d=i
 ·subst c;rw[if_pos rfl]at hi;rw[hv];exact hi
 ·rwa [if_neg c]at hi
def MarkE(L L':Env):Prop:=match mk? L,mk? L' with
 |none,none=>True
 |some a,some b=>a=b
 |_,_=>False
def SubF(L L0:Env):Env→Prop
 | []=>MarkE L L0
 |(i,v)::r=>lk L i=some v∧SubF L L0 r
def SubE(L L':Env):Prop:=SubF L L' L'
theorem SubF.get{L L0:Env}:∀ {L':Env},SubF L L0 L'→∀i v,look? L' i=some v→look? L i=some v
 | [],_,i,v,h=>by rw[look?_eq (look?_lt h)]at h;simp[lk]at h
 | (j, u) :: r, hs, i, v, h => by
  have hl:=look?_lt h
  rw[look?_cons hl]at h
  by_cases e:j=i
  ·subst e;simp at h;subst h;rw[look?_eq hl];exact hs.1
  ·simp[e]at h;exact hs.2.get i v h
theorem SubF.mark{L L0:Env}:∀ {L':Env},SubF L L0 L'→MarkE L L0
 | [],h=>h
 |_::_,h=>h.2.mark
theorem SubE.get{L L':Env}(h:SubE L L'):∀i v,look? L' i=some v→look? L i=some v:=SubF.get h
theorem SubE.mark{L L':Env}(h:SubE L L'):mk? L=mk? L':=by
 have:=SubF.mark h;unfold MarkE at this
 cases h1:mk? L<;>cases h2:mk? L'<;>rw[h1,h2]at this
 ·exact this.elim
 ·exact this.elim
 ·rw[this]
theorem Fr.sub{L':Env}(h:Fr n a L)(hs:SubE L L'):Fr n a L':=
 ⟨h.size,h.small,h.defers.trans (by unfold dmOf;rw[hs.mark]),fun i v hi=>h.get i v (hs.get i v hi)⟩
theorem Fr.bare(h:Fr n a L)(hk:mk? L=none):a.defers=[]:=h.defers.trans (by unfold dmOf;rw[hk])
def ev?(L:Env):Operand→Option Value
 | .tmp t=>look? L t
 | .const v=>some v
 | .global g=>some (.pointer (some ⟨g,0,none⟩))
 | .func f=>some (.func (.func f) #[] #[])
theorem Fr.eval{n:Nat}{a:Act}{L:Env}(h:Fr n a L){x:Operand}{v:Value}(hx:ev? L x=some v):a.eval x=v:=by
 cases x with
 | tmp t =>
  have:=h.get t v hx;simp[Act.eval,this]
 |const u=>simpa [ev?,Act.eval]using hx
 |global g=>simpa [ev?,Act.eval]using hx
 |func g=>simpa [ev?,Act.eval]using hx
def evs?(L:Env):List Operand→Option (List Value)
 | []=>some []
 |x::xs=>(ev? L x).bind fun v=>(evs? L xs).bind fun vs=>some (v::vs)
theorem Fr.evals{n:Nat}{a:Act}{L:Env}(h:Fr n a L):∀ {xs:List Operand} {vs:List Value},evs? L xs=some vs→xs.map a.eval=vs
 | [],vs,hx=>by simp[evs?]at hx;simp[←hx]
 | x :: xs, vs, hx => by
  simp only[evs?,Option.bind_eq_some_iff,Option.some.injEq]at hx
  obtain⟨v,hv,us,hus,rfl⟩:=hx
  simp[h.eval hv,h.evals hus]
def getO:List Oper→Nat→Option Oper
 | [],_=>none
 |o::_,0=>some o
 |_::r,i+1=>getO r i
theorem getO_eq:∀(l:List Oper) (i:Nat),getO l i=l[i]?
 | [],i=>by simp[getO]
 |o::r,0=>by simp[getO]
 |o::r,i+1=>by simp[getO,getO_eq r i]
def isB(b:Bool):Option Value→Bool
 | some (.bool c) => match b, c with
  |true,true=>true
  |false,false=>true
  |_,_=>false
 |_=>false
def isU:Option Value→Bool
 |some (.tuple _)=>true
 |_=>false
def want?(l:List Oper)(L:Env):Option (Nat×Bool)→Bool
 |none=>true
 | some (j, b) => match getO l j with
  |some ⟨some d,_,_,_,_,_⟩=>isB b (look? L d)
  |_=>false
def skip?(l:List Oper)(L:Env):Option (Nat×Bool)→Bool
 |none=>false
 | some (j, b) => match getO l j with
  |some ⟨some d,_,_,_,_,_⟩=>isB (!b) (look? L d)||isU (look? L d)
  |_=>false
theorem Fr.want{n:Nat}{a:Act}{L:Env}(h:Fr n a L){l:List Oper}{o:Oper}(hw:want? l L o.guard=true):Region.wanted o (yielded l.toArray a.tmps)=true:=by
 unfold Region.wanted
 cases hg:o.guard with
 |none=>rfl
 | some gb =>
  obtain⟨j,b⟩:=gb;rw[hg]at hw;simp only[want?]at hw;rw[getO_eq]at hw;split at hw
  ·rename_i d _ _ _ _ _ ho
   unfold yielded;simp only[List.getElem?_toArray,ho,Option.bind_some]
   cases hl:look? L d with
   |none=>simp[hl,isB]at hw
   | some v =>
    have:=h.get d v hl;rw[hl]at hw
    cases v<;>simp[isB]at hw
    exact qdh
  ·simp at hw
theorem Fr.skip{n:Nat}{a:Act}{L:Env}(h:Fr n a L){l:List Oper}{o:Oper}(hw:skip? l L o.guard=true):Region.wanted o (yielded l.toArray a.tmps)=false:=by
 unfold Region.wanted
 cases hg:o.guard with
 |none=>rw[hg]at hw;simp[skip?]at hw
 | some gb =>
  obtain⟨j,b⟩:=gb;rw[hg]at hw;simp only[skip?]at hw;rw[getO_eq]at hw;split at hw
  ·rename_i d _ _ _ _ _ ho
   unfold yielded;simp only[List.getElem?_toArray,ho,Option.bind_some]
   cases hl:look? L d with
   |none=>simp[hl,isB,isU]at hw
   | some v =>
    have:=h.get d v hl;rw[hl]at hw
    cases v<;>simp[isB,isU]at hw
    ·exact qdh
    ·simp[this]
  ·simp at hw
/-! ### Heap predicates -/
abbrev Frag:=Nat→Option Obj
abbrev HP:=Frag→Prop
def Dj(f g:Frag):Prop:=∀k,f k=none∨g k=none
def un(f g:Frag):Frag:=fun k=>(f k).or (g k)
def nil0:Frag:=fun _=>none
def sing(b:Nat)(o:Obj):Frag:=fun k=>if k=b then some o else none
theorem Dj.symm{f g:Frag}(h:Dj f g):Dj g f:=fun k=>(h k).symm
variable {f g:Frag}
theorem un_comm(h:Dj f g):un f g=un g f:=by
 funext k;unfold un;rcases h k with e|e<;>simp[e]
theorem un_assoc(f g h:Frag):un (un f g) h=un f (un g h):=by
 funext k;unfold un;cases f k<;>simp
theorem un_nil(f:Frag):un f nil0=f:=by funext k;simp[un,nil0]
theorem nil_un(f:Frag):un nil0 f=f:=by funext k;simp[un,nil0]
theorem Dj.nil(f:Frag):Dj f nil0:=fun _=>.inr rfl
variable {h:Frag}
theorem Dj.un_left:Dj (un f g) h↔Dj f h∧Dj g h:=by
 constructor
 ·intro H;refine⟨fun k=>?_,fun k=>?_⟩
  ·rcases H k with e|e
   ·simp[un]at e;exact .inl e.1
   ·exact .inr e
  ·rcases H k with e|e
   ·simp[un]at e;exact .inl e.2
   ·exact .inr e
 ·rintro⟨h1,h2⟩ k;rcases h1 k with e|e
  ·rcases h2 k with e'|e'
   ·exact .inl (by simp[un,e,e'])
   ·exact .inr e'
  ·exact .inr e
theorem Dj.un_right:Dj f (un g h)↔Dj f g∧Dj f h:=by
 constructor
 ·intro H;have:=Dj.un_left.1 H.symm;exact⟨this.1.symm,this.2.symm⟩
 ·rintro⟨a,b⟩;exact(Dj.un_left.2 ⟨a.symm,b.symm⟩).symm
def pts(b:Nat)(o:Obj):HP:=fun h=>h=sing b o
def star(p q:HP):HP:=fun h=>∃h1 h2,Dj h1 h2∧h=un h1 h2∧p h1∧q h2
def emp:HP:=fun h=>h=nil0
def fact(φ:Prop):HP:=fun h=>φ∧h=nil0
theorem star_comm(p q:HP):star p q=star q p:=by
 funext h;apply propext;constructor<;>(rintro⟨h1,h2,d,rfl,a,b⟩;exact⟨h2,h1,d.symm,un_comm d,b,a⟩)
theorem star_assoc(p q r:HP):star (star p q) r=star p (star q r):=by
 funext h;apply propext;constructor
 ·rintro⟨_,h3,d,rfl,⟨h1,h2,d',rfl,a,b⟩,c⟩
  have:=Dj.un_left.1 d;exact⟨h1,un h2 h3,Dj.un_right.2 ⟨d',this.1⟩,un_assoc _ _ _,a,h2,h3,this.2,rfl,b,c⟩
 ·rintro⟨h1,_,d,rfl,a,h2,h3,d',rfl,b,c⟩
  have:=Dj.un_right.1 d;exact⟨un h1 h2,h3,Dj.un_left.2 ⟨this.2,d'⟩,(un_assoc _ _ _).symm,⟨h1,h2,this.1,rfl,a,b⟩,c⟩
theorem star_left_comm(p q r:HP):star p (star q r)=star q (star p r):=by
 rw[←star_assoc,star_comm p q,star_assoc]
theorem emp_star(p:HP):star emp p=p:=by
 funext h;apply propext;constructor
 ·rintro⟨_,h2,_,rfl,rfl,b⟩;rw[nil_un];exact b
 ·intro b;exact⟨nil0,h,(Dj.nil h).symm,(nil_un h).symm,rfl,b⟩
theorem star_emp(p:HP):star p emp=p:=by rw[star_comm,emp_star]
def stars:List HP→HP
 | []=>emp
 |p::ps=>star p (stars ps)
inductive At:List HP→HP→List HP→HP→Prop where
 |here (t:List HP) (x y:HP):At (x::t) x (y::t) y
 |there (z:HP) {A A':List HP} {x y:HP} (h:At A x A' y):At (z::A) x (z::A') y
theorem aP0{A:List HP}{x z:HP}:At (x::A) x (z::A) z:=.here _ _ _
theorem aP1{A:List HP}{x z y0:HP}:At (y0::x::A) x (y0::z::A) z:=.there _ (.here _ _ _)
theorem at2{A:List HP}{x z y0 y1:HP}:At (y0::y1::x::A) x (y0::y1::z::A) z:=.there _ (.there _ (.here _ _ _))
theorem at3{A:List HP}{x z y0 y1 y2:HP}:At (y0::y1::y2::x::A) x (y0::y1::y2::z::A) z:=.there _ (.there _ (.there _ (.here _ _ _)))
variable {A A':List HP} {x:HP}
theorem At.split{y:HP}(h:At A x A' y):∃R,stars A=star x R∧stars A'=star y R:=by
 induction h with
 |here t x y=>exact⟨stars t,rfl,rfl⟩
 | there z h ih =>
  obtain⟨R,h1,h2⟩:=ih;exact⟨star z R,by simp only[stars,h1];rw[star_left_comm],by simp only[stars,h2];rw[star_left_comm]⟩
inductive Pull:List HP→HP→List HP→Prop where
 |here (t:List HP) (x:HP):Pull (x::t) x t
 |there (z:HP) {A A':List HP} {x:HP} (h:Pull A x A'):Pull (z::A) x (z::A')
theorem Pull.eq(h:Pull A x A'):stars A=star x (stars A'):=by
 induction h with
 |here t x=>rfl
 |there z h ih=>simp only[stars,ih];rw[star_left_comm]
structure Sat(base w:World)(f:Frag)(A:List HP):Prop where
 os:w.os=base.os
 tape:w.tape=base.tape
 output:w.output=base.output
 size:base.heap.size≤w.heap.size
 imm:∀k o,f k=some o→w.heap[k]?=some o
 mem:∃h,stars A h∧Dj f h∧∀k o,h k=some o→w.heap[k]?=some o
variable {base w:World}
theorem Sat.conv(s:Sat base w f A)(h:stars A=stars A'):Sat base w f A':=by
 obtain⟨a,b,c,d,e,m⟩:=s;rw[h]at m;exact⟨a,b,c,d,e,m⟩
theorem Sat.imp(s:Sat base w f A)(h:∀x,stars A x→stars A' x):Sat base w f A':=by
 obtain⟨a,b,c,d,e,x,hx,hd,hm⟩:=s;exact⟨a,b,c,d,e,x,h x hx,hd,hm⟩
variable {b:Nat} {o:Obj}
theorem Sat.got{y:HP}(s:Sat base w f A)(h:At A (pts b o) A' y):w.heap[b]?=some o:=by
 obtain⟨R,h1,_⟩:=h.split;obtain⟨m,hm,_,hw⟩:=s.mem;rw[h1]at hm;obtain⟨m1,m2,_,rfl,rfl,_⟩:=hm;exact hw b o ji
variable {w':World}
theorem Sat.set{o':Obj}(s:Sat base w f A)(h:At A (pts b o) A' (pts b o'))
  (hos:w'.os=w.os) (ht:w'.tape=w.tape) (ho:w'.output=w.output) (hh:w'.heap=w.heap.setIfInBounds b o'):Sat base w' f A':=by
 have hb:=s.got h;obtain⟨R,h1,h2⟩:=h.split
 obtain⟨m,hm,hd,hw⟩:=s.mem;rw[h1]at hm;obtain⟨m1,m2,d,rfl,rfl,hr⟩:=hm
 have hlt:b<w.heap.size:=qbz
 have hd':=Dj.un_right.1 hd
 have hfb:f b=none:=by
  rcases hd'.1 b with e|e
  ·exact e
  ·simp[sing]at e
 have hmb:m2 b=none:=by
  rcases d b with e|e
  ·simp[sing]at e
  ·exact e
 refine⟨hos.trans s.os,ht.trans s.tape,ho.trans s.output,by rw[hh];simpa using s.size,fun k x hk=>?_,un (sing b o') m2,?_,?_,fun k x hk=>?_⟩
 ·have:b≠k:=by rintro rfl;rw[hfb]at hk;cases hk
  rw[hh,Array.getElem?_setIfInBounds_ne this];exact s.imm k x hk
 ·rw[h2];refine⟨_,m2,fun k=>?_,rfl,rfl,hr⟩;by_cases e:k=b
  ·subst e;exact .inr hmb
  ·exact .inl kU
 ·refine Dj.un_right.2 ⟨fun k=>?_,hd'.2⟩;by_cases e:k=b
  ·subst e;exact .inl hfb
  ·exact .inr kU
 ·by_cases e:k=b
  ·subst e;simp[un,sing]at hk;subst hk;rw[hh];simp[hlt]
  ·have e':b≠k:=fun h=>e h.symm;simp[un,sing,e]at hk
   rw[hh,Array.getElem?_setIfInBounds_ne e'];exact hw k x (by simp[un,sing,e,hk])
theorem Sat.alloc(s:Sat base w f A)
  (hos:w'.os=w.os) (ht:w'.tape=w.tape) (ho:w'.output=w.output) (hh:w'.heap=w.heap.push o):Sat base w' f (pts w.heap.size o::A):=by
 obtain⟨m,hm,hd,hw⟩:=s.mem
 have hlt:∀k x,w.heap[k]?=some x→k<w.heap.size:=fun k x hk=>by
  rcases Nat.lt_or_ge k w.heap.size with h|h
  ·exact h
  ·simp[Array.getElem?_eq_none h]at hk
 have hmn:m w.heap.size=none:=by
  cases e:m w.heap.size with
  |none=>rfl
  |some x=>exact absurd (hlt _ _ (hw _ _ e)) (Nat.lt_irrefl _)
 have hfn:f w.heap.size=none:=by
  cases e:f w.heap.size with
  |none=>rfl
  |some x=>exact absurd (hlt _ _ (s.imm _ _ e)) (Nat.lt_irrefl _)
 have hold:∀k x,w.heap[k]?=some x→w'.heap[k]?=some x:=fun k x hk=>by
  have:=hlt k x hk;rw[hh,Array.getElem?_push,if_neg jB]
  exact hk
 refine⟨hos.trans s.os,ht.trans s.tape,ho.trans s.output,by rw[hh];simp;have:=s.size;omega,fun k x hk=>hold k x (s.imm k x hk),un (sing w.heap.size o) m,?_,?_,fun k x hk=>?_⟩
 ·refine⟨_,m,fun k=>?_,rfl,rfl,hm⟩;by_cases e:k=w.heap.size
  ·rw[e];exact .inr hmn
  ·exact .inl kU
 ·refine Dj.un_right.2 ⟨fun k=>?_,hd⟩;by_cases e:k=w.heap.size
  ·rw[e];exact .inl hfn
  ·exact .inr kU
 ·by_cases e:k=w.heap.size
  ·rw[e]at hk⊢;simp[un,sing]at hk;subst hk;rw[hh];simp
  ·simp[un,sing,e]at hk;exact hold k x (hw k x hk)
theorem Sat.same(s:Sat base w f A)
  (hos:w'.os=w.os) (ht:w'.tape=w.tape) (ho:w'.output=w.output) (hh:w'.heap=w.heap):Sat base w' f A:=
 ⟨hos.trans s.os,ht.trans s.tape,ho.trans s.output,by rw[hh];exact s.size,by rw[hh];exact s.imm,by rw[hh];exact s.mem⟩
theorem Sat.front(s:Sat base w f A)(h:Pull A x A'):Sat base w f (x::A'):=s.conv h.eq
theorem Sat.drop(s:Sat base w f A)(h:Pull A x A'):Sat base w f A':=by
 obtain⟨a,b,c,d,e,m,hm,hd,hw⟩:=s;rw[h.eq]at hm;obtain⟨m1,m2,dj,rfl,_,h2⟩:=hm;have hd':=Dj.un_right.1 hd;refine⟨a,b,c,d,e,m2,h2,hd'.2,fun k o hk=>hw k o ?_⟩
 exact qdf
def Le(f g:Frag):Prop:=∀k o,f k=some o→g k=some o
theorem Le.refl(f:Frag):Le f f:=fun _ _ h=>h
theorem Le.trans(a:Le f g)(b:Le g h):Le f h:=fun k o e=>b k o (a k o e)
theorem Sat.freeze(s:Sat base w f A)(h:Pull A x A'):∃g,x g∧Dj f g∧Sat base w (un f g) A':=by
 obtain⟨a,b,c,d,e,m,hm,hd,hw⟩:=s;rw[h.eq]at hm;obtain⟨m1,m2,dj,rfl,h1,h2⟩:=hm;have hd':=Dj.un_right.1 hd;refine⟨m1,h1,hd'.1,a,b,c,d,fun k o hk=>?_,m2,h2,Dj.un_left.2 ⟨hd'.2,dj⟩,fun k o hk=>hw k o ?_⟩
 ·unfold un at hk
  cases hf:f k with
  |none=>rw[hf]at hk;exact hw k o (by simp at hk;simp[un,hk])
  |some y=>rw[hf]at hk;simp at hk;subst hk;exact e k y hf
 ·exact qdf
theorem Sat.thaw(s:Sat base w (un f g) A)(hx:x g)(hd:Dj f g):Sat base w f (x::A):=by
 obtain⟨a,b,c,d,e,m,hm,hdm,hw⟩:=s;have h2:=Dj.un_left.1 hdm;refine⟨a,b,c,d,fun k o hk=>e k o (by simp[un,hk]),un g m,⟨g,m,h2.2,rfl,hx,hm⟩,Dj.un_right.2 ⟨hd,h2.1⟩,fun k o hk=>?_⟩
 unfold un at hk
 cases hg:g k with
 |none=>rw[hg]at hk;simp at hk;exact hw k o hk
 | some y =>
  rw[hg]at hk;simp at hk;subst hk;refine e k y ?_;rcases hd k with h|h
  ·simp[un,h,hg]
  ·rw[h]at hg;cases hg
/-! ### The judgement -/
inductive Post where
 |seq (y:Code) (q:Post)
 |block (id:Nat) (q:Post)
 |loop (I:Act→World→Prop) (q:Post)
 |fn (R:Exit→Act→World→Prop)
def Post.den(P:Program):Post→Exit→Act→World→Prop
 | .seq y q=>Exit.then (y.wp P (q.den P)) (q.den P)
 | .block id q=>Exit.inBlock id (q.den P)
 | .loop I q=>Exit.then I (q.den P)
 | .fn R=>R
inductive Kont where
 |code (c:Code) (q:Post)
 |ops (l rest:List Oper) (q:Post)
 |out (e:Exit) (q:Post)
def Kont.den(P:Program):Kont→Act→World→Prop
 | .code c q=>c.wp P (q.den P)
 | .ops l rest q=>wpList P l.toArray (q.den P) rest
 | .out e q=>q.den P e
structure H(P:Program)(base:World)(n:Nat)(L:Env)(f:Frag)(A:List HP)(K:Kont):Prop where
 out:∀a w,Fr n a L→Sat base w f A→K.den P a w
variable {y:Code} {id id':Nat} {c:Operand} {l:List Oper} {I:Act→World→Prop} {ι:Type}
section rules
variable {P:Program} {base:World} {n:Nat} {L:Env} {f:Frag} {A:List HP} {q:Post} {K:Kont}
theorem H.sub{L':Env}(hs:SubE L L')(h:H P base n L' f A K):H P base n L f A K:=.mk fun a w hf s=>h.out a w (hf.sub hs) s
theorem CE(hp:Pull A x A')(h:H P base n L f (x::A') K):H P base n L f A K:=.mk fun a w hf s=>h.out a w hf (s.front hp)
theorem B4(hp:Pull A x A')(h:H P base n L f A' K):H P base n L f A K:=.mk fun a w hf s=>h.out a w hf (s.drop hp)
theorem H.conv{A':List HP}(he:stars A=stars A')(h:H P base n L f A' K):H P base n L f A K:=.mk fun a w hf s=>h.out a w hf (s.conv he)
theorem foldr_star(B:List HP)(y:HP):star (stars B) y=List.foldr star y B:=by
 induction B with
 |nil=>exact emp_star y
 |cons p B ih=>simp only[stars,List.foldr];rw[star_assoc,ih]
theorem zbz(B A:List HP):stars (B++A)=star (stars B) (stars A):=by
 rw[foldr_star]
 induction B with
 |nil=>rfl
 |cons p B ih=>simp only[List.cons_append,stars,List.foldr,ih]
theorem H.imp{A':List HP}(hx:∀h,stars A h→stars A' h)(h:H P base n L f A' K):H P base n L f A K:=.mk fun a w hf s=>h.out a w hf (s.imp hx)
theorem H.freeze{A':List HP}{x:HP}(hp:Pull A x A')(h:∀g,x g→Dj f g→H P base n L (un f g) A' K):H P base n L f A K:=.mk fun a w hf s=>by
 obtain⟨g,hx,hd,s'⟩:=s.freeze hp
 exact(h g hx hd).out a w hf s'
theorem H.thaw{g:Frag}{x:HP}(hx:x g)(hd:Dj f g)(h:H P base n L f (x::A) K):H P base n L (un f g) A K:=.mk fun a w hf s=>
 h.out a w hf (s.thaw hx hd)
theorem H.know{d:Nat}{v u:Value}(hv:look? L d=some v)(e:v=u)(h:H P base n ((d,u)::L) f A K):H P base n L f A K:=.mk fun a w hf s=>by
 exact h.out a w (hf.know hv e) s
/-! code -/
theorem H.seq{x:Code}(h:H P base n L f A (.code x (.seq y q))):H P base n L f A (.code (.seq x y) q):=.mk fun a w hf s=>wp_seq (h.out a w hf s)
theorem H.skip(h:H P base n L f A (.out .normal q)):H P base n L f A (.code .skip q):=.mk fun a w hf s=>wp_skip (h.out a w hf s)
theorem H.exit(h:H P base n L f A (.out (.exit id) q)):H P base n L f A (.code (.exit id) q):=.mk fun a w hf s=>wp_exit (h.out a w hf s)
theorem H.ret(h:H P base n L f A (.out .ret q)):H P base n L f A (.code .ret q):=.mk fun a w hf s=>wp_ret (h.out a w hf s)
theorem H.block{c:Code}(h:H P base n L f A (.code c (.block id q))):H P base n L f A (.code (.block id c) q):=.mk fun a w hf s=>wp_block (h.out a w hf s)
theorem BD(h:H P base n L f A (.ops l l q)):H P base n L f A (.code (.region id l.toArray false) q):=.mk fun a w hf s=>wp_region_lit (h.out a w hf s)
theorem H.nil(h:H P base n L f A (.out .normal q)):H P base n L f A (.ops l [] q):=.mk h.out
theorem H.cond{x:Code}{t:Bool}(hc:ev? L c=some (.bool t))(ht:t=true→H P base n L f A (.code x q))(hf':t=false→H P base n L f A (.code y q)):H P base n L f A (.code (.cond c x y) q):=.mk fun a w hf s=>wp_cond_split (hf.eval hc) (fun e=>(ht e).out a w hf s) (fun e=>(hf' e).out a w hf s)
theorem EH{x:Code}{_:Decidable p}(hc:ev? L c=some (.bool (decide p)))(ht:p→H P base n L f A (.code x q))(hf':¬p→H P base n L f A (.code y q)):H P base n L f A (.code (.cond c x y) q):=H.cond hc (fun e=>ht (of_decide_eq_true e)) (fun e=>hf' (of_decide_eq_false e))
theorem CS{x:Code}(hc:ev? L c=some (.bool true))(ht:H P base n L f A (.code x q)):H P base n L f A (.code (.cond c x y) q):=.mk fun a w hf s=>wp_cond_true (hf.eval hc) (ht.out a w hf s)
theorem CF{x:Code}(hc:ev? L c=some (.bool false))(ht:H P base n L f A (.code y q)):H P base n L f A (.code (.cond c x y) q):=.mk fun a w hf s=>wp_cond_false (hf.eval hc) (ht.out a w hf s)
theorem BF(h:H P base n L f A (.code y q)):H P base n L f A (.out .normal (.seq y q)):=.mk h.out
theorem C5(h:H P base n L f A (.out .ret q)):H P base n L f A (.out .ret (.seq y q)):=.mk h.out
theorem C6(h:H P base n L f A (.out (.exit id) q)):H P base n L f A (.out (.exit id) (.seq y q)):=.mk h.out
theorem C8(h:H P base n L f A (.out .ret q)):H P base n L f A (.out .ret (.loop I q)):=.mk h.out
theorem C9(h:H P base n L f A (.out (.exit id) q)):H P base n L f A (.out (.exit id) (.loop I q)):=.mk h.out
theorem BJ(h:H P base n L f A (.out .normal q)):H P base n L f A (.out .normal (.block id q)):=.mk h.out
theorem BZ(h:H P base n L f A (.out .ret q)):H P base n L f A (.out .ret (.block id q)):=.mk h.out
theorem EI(h:H P base n L f A (match Nat.beq id' id with|true=>.out .normal q|false=>.out (.exit id') q)):H P base n L f A (.out (.exit id') (.block id q)):=.mk fun a w hf s=>by
 have h1:=h.out a w hf s
 show Exit.inBlock id (q.den P) (.exit id') a w
 cases hb:Nat.beq id' id with
 | true =>
  have e:id'=id:=Nat.eq_of_beq_eq_true hb
  rw[hb]at h1
  simp only[Exit.inBlock,e,if_true];exact h1
 | false =>
  have e:id'≠id:=by rintro rfl;simp[Nat.beq_refl]at hb
  rw[hb]at h1
  simp only[Exit.inBlock,if_neg e];exact h1
theorem C7(h:H P base n L f A (.out .normal q)):H P base n L f A (.out (.exit id) (.block id q)):=EI (by rw[Nat.beq_refl];exact h)
theorem DB(hne:Nat.beq id' id=false)(h:H P base n L f A (.out (.exit id') q)):H P base n L f A (.out (.exit id') (.block id q)):=EI (by rw[hne];exact h)
def Again(base:World)(n:Nat){ι:Type}(St:ι→Env)(Sf:ι→Frag)(SA:ι→List HP)(Φ:ι→Prop)(μ:ι→Nat)(i:ι)(a:Act)(w:World):Prop:=
 ∃j,Φ j∧μ j<μ i∧Fr n a (St j)∧Sat base w (Sf j) (SA j)
theorem H.loop{c:Code}(St:ι→Env)(Sf:ι→Frag)(SA:ι→List HP)(Φ:ι→Prop)(μ:ι→Nat)(i:ι)(hΦ:Φ i)(hs:SubE L (St i))(hf:f=Sf i)(hA:A=SA i)
  (round:∀i,Φ i→H P base n (St i) (Sf i) (SA i) (.code c (.loop (Again base n St Sf SA Φ μ i) q))):H P base n L f A (.code (.loop c) q):=by
 subst hf;subst hA;refine .mk fun a w hf s b k cs=>?_
 have key:∀m i a w,μ i=m→Φ i→Fr n a (St i)→Sat base w (Sf i) (SA i)→
   ∃e a' w',q.den P e a' w'∧Arrives P (lone (b.at a (.code c::.inLoop c::k)) cs w) b k cs e a' w':=by
  intro m
  induction m using Nat.strongRecOn with
  | _ m ih =>
   intro i a w hm hΦ hf s
   obtain⟨e,a₁,w₁,hq,harr⟩:=(round i hΦ).out a w hf s b (.inLoop c::k) cs
   cases e with
   | normal =>
    obtain⟨j,hΦ',hlt,hf',s'⟩:=hq
    obtain⟨e₂,a₂,w₂,hq₂,harr₂⟩:=ih (μ j) (hm▸hlt) j a₁ w₁ rfl hΦ' hf' s'
    exact⟨e₂,a₂,w₂,hq₂,.of_steps (Steps.trans harr (.one step_inLoop)) harr₂⟩
   |exit id=>exact⟨_,a₁,w₁,hq,.pass (x:=.inLoop c) rfl (fun _ _=>.inl jI) harr⟩
   |goto l=>exact⟨_,a₁,w₁,hq,.pass (x:=.inLoop c) rfl (fun _ _=>.inl jI) harr⟩
   |ret=>exact⟨_,a₁,w₁,hq,.pass (x:=.inLoop c) rfl (fun _ _=>.inl jI) harr⟩
   |panic ch=>exact⟨_,a₁,w₁,hq,.pass (x:=.inLoop c) rfl (fun _ _=>.inl jI) harr⟩
   |outgrown=>exact⟨_,a₁,w₁,hq,.pass (x:=.inLoop c) rfl (fun _ _=>.inl jI) harr⟩
 obtain⟨e,a',w',hq,harr⟩:=key _ i a w rfl hΦ (hf.sub hs) s;exact⟨e,a',w',hq,.of_steps (.one step_loop) harr⟩
theorem AX{St:ι→Env}{Sf:ι→Frag}{SA:ι→List HP}{Φ:ι→Prop}{μ:ι→Nat}{i:ι}(j:ι)(hΦ:Φ j)(hμ:μ j<μ i)(hs:SubE L (St j))(hf:f=Sf j)(hA:A=SA j):H P base n L f A (.out .normal (.loop (Again base n St Sf SA Φ μ i) q)):=.mk fun _ _ h s=>⟨j,hΦ,hμ,h.sub hs,hf▸hA▸s⟩
theorem H.cut{c:Code}(St:ι→Env)(Sf:ι→Frag)(SA:ι→List HP)(Φ:ι→Prop)(y:Code)
  (rest:∀i,Φ i→H P base n (St i) (Sf i) (SA i) (.code y q))
  (h:H P base n L f A (.code c (.loop (fun a w=>∃j,Φ j∧Fr n a (St j)∧Sat base w (Sf j) (SA j)) q))):H P base n L f A (.code c (.seq y q)):=.mk fun a w hf s=>
 wp_mono (h.out a w hf s) fun e a w he=>by
  cases e with
  |normal=>obtain⟨j,hj,hf,s⟩:=he;exact(rest j hj).out a w hf s
  |exit id=>exact he
  |goto l=>exact he
  |ret=>exact he
  |panic ch=>exact he
  |outgrown=>exact he
theorem BR{St:ι→Env}{Sf:ι→Frag}{SA:ι→List HP}{Φ:ι→Prop}(j:ι)(hΦ:Φ j)(hs:SubE L (St j))(hf:f=Sf j)(hA:A=SA j):H P base n L f A (.out .normal (.loop (fun a w=>∃j,Φ j∧Fr n a (St j)∧Sat base w (Sf j) (SA j)) q)):=.mk fun _ _ h s=>⟨j,hΦ,h.sub hs,hf▸hA▸s⟩
end rules
end Go.Proofs.YtdpgpmbebbaoiaaGreatDoor

namespace Go.Proofs.YtdpgpmbebbaoiaaGreatDoor
structure QM where
 o:Nat
 num:Nat
 k:Nat
 a:Nat
 d:List Nat
structure QR where
 l:List QM
 kn:List Nat
 lg:Nat
 vt:List Nat
 cm:Nat
 ks:List (List Nat)
 row:Nat
 pd:List Nat
 td:List Nat
 ck:Nat
 runs:Bool
 fin:Nat
 done:Nat
structure QP where
 src:Nat
 to:Nat
 kn:List Nat
 ms:List QM
structure QW where
 n:Nat
 now:Nat
 rs:List QR
 cl:List (Bool×List Bool)
 net:List QP
 lon:Nat
 acc:List Nat
def qnth(l:List Nat)(i:Nat):Nat:=l.getD i 0
def qinc:List Nat→Nat→List Nat
 | [],_=>[]
 |x::r,0=>(x+1)::r
 |x::r,i+1=>x::qinc r i
def qle:List Nat→List Nat→Bool
 |x::a,y::b=>Nat.ble x y&&qle a b
 |_,_=>true
def qlast(l:List QM)(o:Nat):List Nat:=l.foldl (fun d m=>bif m.o == o then m.d else d) []
def QM.ok(n:Nat)(m:QM):Bool:=Nat.ble 1 m.o&&Nat.ble m.o n&&m.d.length == n&&m.d.all (fun x=>Nat.ble x 1000)&&m.num == qnth m.d (m.o-1)+1&&Nat.ble 1 m.a&&Nat.ble m.a 8&&(m.k == 1||m.k == 2||m.k == 6)
def qchk(r:QR)(m:QM):Nat:=
 bif Nat.ble m.num (qnth r.kn (m.o-1))then 13
 else bif m.num == qnth r.kn (m.o-1)+1&& !(qle (qlast r.l m.o) m.d)then 1
 else bif Nat.blt (qnth r.kn (m.o-1)+1) m.num|| !(qle m.d r.kn)then 12
 else 0
def qcnt(p:Nat→Bool):List Nat→Nat
 | []=>0
 |x::r=>bif p x then qcnt p r+1 else qcnt p r
def qcom(n:Nat)(vt:List Nat):Nat→Nat
 |0=>0
 |k+1=>bif Nat.blt (n / 2) (qcnt (Nat.ble (k+1)) vt)then k+1 else qcom n vt k
def qtake(n i:Nat)(r:QR)(m:QM):Option QR:=
 bif qchk r m == 0&&m.ok n&&Nat.blt r.l.length 1000 then
  bif m.k == 1 then
   bif m.o == 1&&m.num == r.lg+1&&m.a == r.lg+1 then
    some {r with l:=r.l++[m],kn:=qinc r.kn 0,lg:=r.lg+1,vt:=qinc r.vt 0,cm:=qcom n (qinc r.vt 0) (r.lg+1)}
   else none
  else bif m.k == 2 then
   bif !(m.o == 1)&&m.a == qnth r.vt (m.o-1)+1&&Nat.ble m.a (qnth m.d 0)&&Nat.ble m.a r.lg then
    some {r with l:=r.l++[m],kn:=qinc r.kn (m.o-1),vt:=qinc r.vt (m.o-1),cm:=qcom n (qinc r.vt (m.o-1)) r.lg}
   else none
  else some {r with l:=r.l++[m],kn:=qinc r.kn (m.o-1),ck:=bif m.o == i&&m.a == r.ck+4 then m.a else r.ck}
 else none
def qopen(e:Nat):Bool:=e == 0||e == 12
def qdrain(n i:Nat):List QM→QR→Option QR
 | [],r=>some r
 | m :: ws, r =>
  bif ws.all (fun x=>qopen (qchk r x)&&(Nat.blt m.o x.o|| !(qchk r x == 0)))then
   match qtake n i r m with
   |none=>none
   |some r'=>qdrain n i ws r'
  else none
def qhear(n:Nat)(p:QP)(r:QR):Option QR:=
 bif p.ms.all (fun m=>!(qchk r m == 1)&&m.ok n&& !(m.o == p.to&&qopen (qchk r m)))&&Nat.ble p.ms.length 8&&Nat.ble 1 p.to&&Nat.ble 1 p.src&&Nat.ble p.src n&& !(p.src == p.to)&&p.kn.length == n&&r.ks.length == n then
  qdrain n p.to (p.ms.filter fun m=>qopen (qchk r m)) {r with ks:=r.ks.set (p.src-1) p.kn}else none
def qup(r:QR):QR:=
 {r with row:=r.cm,td:=r.td++(List.range (r.cm-r.row)).map (fun j=>r.row+1+j),pd:=r.pd.filter fun c=>Nat.blt r.cm c}
def qlook(now:Nat)(r:QR):Option QR:=
 bif r.pd.isEmpty then some {r with done:=r.row,runs:=false}
 else bif Nat.blt r.done r.row|| !r.runs then some {r with done:=r.row,runs:=true,fin:=now+16}
 else bif Nat.ble r.fin now then none
 else some {r with done:=r.row}
def qbody(i:Nat)(r:QR):Option (Nat×Nat):=
 bif Nat.ble (r.ck+4) r.row then some (6,r.ck+4)
 else bif i == 1 then
  match r.pd.find? fun c=>Nat.blt r.lg c with
  |some c=>some (1,c)
  |none=>none
 else bif Nat.blt (qnth r.vt (i-1)) r.lg then some (2,qnth r.vt (i-1)+1)
 else none
def qsay(n now i:Nat)(r:QR):Option (Bool×QR):=
 bif Nat.ble r.row r.cm then
  match qlook now (qup r)with
  |none=>none
  | some r =>
   match qbody i r with
   |none=>some (false,r)
   | some (k, a) =>
    match qtake n i r {o:=i,num:=qnth r.kn (i-1)+1,k:=k,a:=a,d:=r.kn}with
    |none=>none
    |some r'=>some (true,r')
 else none
def qsince(v:List Nat)(l:List QM):List QM:=(l.filter fun m=>Nat.blt (qnth v (m.o-1)) m.num).take 8
def qtrue:List Bool→Nat
 | []=>0
 |b::r=>bif b then qtrue r+1 else qtrue r
def qhearC(n i c:Nat)(cl:List (Bool×List Bool)):List (Bool×List Bool)×Bool:=
 match cl.getD (c-1) (false,[])with
 |(false,_)=>(cl,false)
 | (true, h) =>
  bif h.getD (i-1) true then(cl,false)
  else(cl.set (c-1) (Nat.ble (qtrue (h.set (i-1) true)) (n / 2),h.set (i-1) true),Nat.blt (n / 2) (qtrue (h.set (i-1) true)))
def qhearCs(n i:Nat):List Nat→List (Bool×List Bool)×List Nat→List (Bool×List Bool)×List Nat
 | [],s=>s
 |c::cs,s=>qhearCs n i cs ((qhearC n i c s.1).1,bif (qhearC n i c s.1).2 then s.2++[c]else s.2)
def QW.fin(w:QW):QW:={w with lon:=w.rs.foldl (fun m r=>max m r.cm) w.lon}
def QW.put(w:QW)(i:Nat)(r:QR):QW:={w with rs:=w.rs.set (i-1) r}
def qdoSay(i:Nat)(w:QW):Option (Bool×QW):=
 match w.rs[i-1]? with
 |none=>none
 | some r => match qsay w.n w.now i r with
  |none=>none
  |some (b,r')=>some (b,(w.put i r').fin)
def qdoSend(i c:Nat)(w:QW):Option QW:=
 match w.rs[i-1]? with
 |none=>none
 | some r =>
  bif Nat.ble c r.row then bif Nat.ble w.acc.length 100 then some ({w with cl:=(qhearCs w.n i [c] (w.cl,w.acc)).1,acc:=(qhearCs w.n i [c] (w.cl,w.acc)).2}:QW).fin else none
  else bif r.pd.elem c then some w.fin
  else bif Nat.blt r.pd.length 20 then some (w.put i {r with pd:=r.pd++[c]}).fin else none
def qout(n i:Nat)(r:QR):List QP:=((List.range n).filter fun j=>!(j+1 == i)).map fun j=>{src:=i,to:=j+1,kn:=r.kn,ms:=qsince (r.ks.getD j []) r.l}
def qdoTell(i:Nat)(w:QW):Option QW:=
 match w.rs[i-1]? with
 |none=>none
 |some r=>bif Nat.ble w.net.length 100&&Nat.ble w.acc.length 100 then some ({w with net:=w.net++qout w.n i r,cl:=(qhearCs w.n i r.td (w.cl,w.acc)).1,acc:=(qhearCs w.n i r.td (w.cl,w.acc)).2}.put i {r with td:=[]}).fin else none
def qdoDel(w:QW):Option QW:=
 match w.net with
 | []=>none
 | p :: ps => match w.rs[p.to - 1]? with
  |none=>none
  | some r => match qhear w.n p r with
   |none=>none
   |some r'=>some ({w with net:=ps}.put p.to r').fin
def qdels:Nat→QW→Option QW
 |0,w=>bif w.net.isEmpty then some w else none
 | k + 1, w => bif w.net.isEmpty then some w else match qdoDel w with
  |none=>none
  |some w=>qdels k w
def qsays(i:Nat):Nat→QW→Option QW
 |0,_=>none
 | k + 1, w => match qdoSay i w with
  |none=>none
  |some (true,w)=>qsays i k w
  |some (false,w)=>some w
def qsends(i:Nat):List Nat→QW→Option QW
 | [],w=>some w
 | c :: cs, w => bif (w.cl.getD (c - 1) (false, [])).1 then
   match qdoSend i c w with
   |none=>none
   |some w=>qsends i cs w
  else qsends i cs w
def qturn(w:QW)(i:Nat):Option QW:=match qsends i [1,2,3,4,5,6,7,8] w with
 |none=>none
 | some w => match qsays i 60 w with
  |none=>none
  | some w => match qdoTell i w with
   |none=>none
   |some w=>qdels 20 w
def qturns:List Nat→QW→Option QW
 | [],w=>some w
 | i :: r, w => match qturn w i with
  |none=>none
  |some w=>qturns r w
def qup1(n:Nat):List Nat:=(List.range n).map (· +1)
def qround(w:QW):Option QW:=bif Nat.ble w.now 100000 then qturns (qup1 w.n) ({w with now:=w.now+8}:QW).fin else none
def qrests(w:QW):Bool:=w.cl.all (fun x=>!x.1)&&w.rs.all fun x=>x.kn == (w.rs.headD x).kn
def qrounds:Nat→QW→Option QW
 |0,_=>none
 | k + 1, w => match qround w with
  |none=>none
  |some w=>bif qrests w then some w else qrounds k w
def qwakes:List Nat→QW→Option QW
 | [],w=>some w
 | i :: r, w => match qdoSay i w with
  |some (false,w)=>qwakes r w
  |_=>none
def qcalm(k:Nat)(w:QW):Option QW:=match qwakes (qup1 w.n) w.fin with
 |none=>none
 |some w=>qrounds k w
def qrep(n:Nat):QR:={l:=[],kn:=List.replicate n 0,lg:=0,vt:=List.replicate n 0,cm:=0,ks:=List.replicate n (List.replicate n 0),row:=0,pd:=[],td:=[],ck:=0,runs:=false,fin:=0,done:=0}
def qnew(n:Nat):QW:={n:=n,now:=0,rs:=List.replicate n (qrep n),cl:=List.replicate 8 (false,List.replicate 11 false),net:=[],lon:=0,acc:=[]}
def qasks(c:Nat)(w:QW):QW:={w with cl:=(List.range 8).map fun j=>(Nat.blt j c,List.replicate 11 false)}
def qgood(n c:Nat):Bool:=match qcalm 60 (qasks c (qnew n))with
 |some w=>w.lon == c&&w.acc.length == c
 |none=>false
end Go.Proofs.YtdpgpmbebbaoiaaGreatDoor
