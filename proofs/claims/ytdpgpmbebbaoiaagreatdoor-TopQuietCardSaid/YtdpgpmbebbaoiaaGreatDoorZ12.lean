/- Parts of the proof. No conditions. -/
import Derived.Test.YtdpgpmbebbaoiaaGreatDoorZ11
set_option linter.unusedSectionVars false
set_option linter.unusedSimpArgs false
set_option linter.unusedVariables false
set_option maxHeartbeats 3200000
set_option maxRecDepth 20000
namespace Go.Proofs.YtdpgpmbebbaoiaaGreatDoor
open Go Go.Proofs.Tryz
variable {m:Nat} {xs ls:List Value} {de:TypeDesc}
section
variable {P:Program} {base:World} {n:Nat} {L:Env} {f:Frag} {A V:List HP} {q:Post} {l rest:List Oper} {d:Nat} {ty:TypeId} {pos:String} {af:Array Edge} {gd:Option (Nat × Bool)}
theorem Es{t e:TypeId}{i sz:Nat}{x y:Operand}{ik:IntKind}{z:Int}[hu:Und P t (.array m e)][he:Und P e de][hs:Siz P e sz](hw:want? l L gd=true)
  (hx:ev? L x=some (.agg xs.toArray)) (hy:ev? L y=some (.int ik z)) (hq:z=(i:Nat)) (hi:i<m) (ha:aggD de=true) (hv:(xs.drop (i*sz)).take sz=ls) (hd:Nat.ble (d+1) n=true) {lst:Lst} {ti:Nat} {tt:List (Nat×Bool)}
  (k:HQ V ⟨lst.setIfInBounds ti true,tt⟩ P base n ((d,.agg ls.toArray)::L) f A (.ops l rest q)):HQ V ⟨lst,(ti,false)::tt⟩ P base n L f A (.ops l (⟨some d,.index t x y,ty,pos,af,gd⟩::rest) q):=
 As hw hd (fun a w hf _=>by
  subst hq;subst hv
  have h1:=hu.run w
  have h2:=hs.run w
  have h3:=run_isAgg he w
  have hi2:(0:Int)≤(i:Int)∧(i:Int)<(m:Int):=⟨by omega,by omega⟩
  simp only[execOp,hf.eval hx,hf.eval hy,Instr.index,asIntOf,Sem.run_bind,Sem.run_pure,Result.andThen_ok,h1,hi2,if_true,h2,part,h3,ha,and_self]
  simp[h2,List.extract_eq_take_drop]) k
end
structure AnsOK(ls:List Value)(e:Int)(p:Option Addr)(k c:Nat):Prop where
 len:ls.length=163
 one:∀v∈ls,one v=true
 e:ls[0]?=some (.int .i64 e)
 a:ls[162]?=some (.slice p k c)
def doZ:List Value:=[.nilFunc,.bool false,.bool false]
variable {x:UInt8} {cb n o j d asked':Nat} {w w':QW} {who nn e:Int} {op:List Value} {acc:List Nat} {hid:FuncId}
section
variable (f:Frag) (F:List HP)
theorem clsiteH_fn{asked:Nat}(h11:n≤11)(ho:o<n):Fn prog 23 [pv cb,.int .i64 ((o+1:Nat):Int)] f (cluH cb n asked x w::F) (RetE (fun s:Nat=>pv s) f (fun _=>cluH cb n asked x w::F)):=by
 refine (qfu) fun i hw=>?_;refine Fn.monoA (clsite_fn f _ h11 ho) ?_;rintro v f' A' ⟨rfl,rfl,rfl⟩;exact⟨_,⟨i.sb o,rfl,rfl,rfl⟩,zbc i hw⟩
theorem clclientH_fn{asked:Nat}(hj:j<8):Fn prog 33 [pv cb,.int .i64 ((j+1:Nat):Int)] f (cluH cb n asked x w::F) (RetE (fun s:Nat=>pv s) f (fun _=>cluH cb n asked x w::F)):=by
 refine (qfu) fun i hw=>?_;refine Fn.monoA (clclient_fn f _ hj) ?_;rintro v f' A' ⟨rfl,rfl,rfl⟩;exact⟨_,⟨i.ca j,rfl,rfl,rfl⟩,zbc i hw⟩
theorem ptr_at{sb:Nat→Nat}(ho:o<n):(((List.range n).map sb).flatMap ptrV)[o]?=some (.pointer (some ⟨sb o,0,none⟩)):=by
 exact qaY
theorem stpL_len{cl:Int}(h:op.length=6):(stpL d cl who nn op).length=107:=by
 unfold stpL;simp only[List.length_append,h];rfl
theorem clDo_fn{asked:Nat}{cl:Int}[Fun prog hid]{cs:Nat→Nat→Nat→List Value}{whob ofb:Bool}(h11:n≤11)(hd:d≤16)(hop:op.length=6)(hop1:∀v∈stpL d cl who nn op,one v=true)
  (hent:∀b1 b2 b3,((doiC b1 b2 b3).drop (d*3)).take 3=[.func (.func hid) #[] (cs b1 b2 b3).toArray,.bool whob,.bool ofb])
  (hwho:whob=true→∃o,o<n∧who=((o+1:Nat):Int)) (hof:ofb=true→∃k,k<8∧cl=((k+1:Nat):Int))
  (hk:∀b1 b2 b3 ab G,Fn prog hid ([]++[pv cb,.agg (stpL d cl who nn op).toArray,pv ab]++cs b1 b2 b3) f (row ab 44 (ansZ 0 none 0 0)::cluH cb n asked x w::(upB b1 b2 b3++G)) (fun v g B=>∃(ls:List Value) (p:Option Addr) (c:Nat),AnsOK ls e p acc.length c∧g=f∧B=row ab 44 ls::accH p c acc::cluH cb n asked' x w'::(upB b1 b2 b3++G))) :
  Fn prog 15 [pv cb,.agg (stpL d cl who nn op).toArray] f (cluH cb n asked x w::F) (fun v g B=>∃(ls:List Value) (p:Option Addr) (c:Nat),AnsOK ls e p acc.length c∧v= .agg ls.toArray∧g=f∧B=accH p c acc::cluH cb n asked' x w'::F):=by
 have hstl:=stpL_len (d:=d) (cl:=cl) (who:=who) (nn:=nn) hop;unfold pv at hk⊢
 refine A9 func15 ntmps15 fun base=>?_;apply (gA);refine H.box (ls:=stpL d cl who nn op) rfl rfl rfl rfl fun tb=>?_;refine (qjB) fun ab=>?_;apply (gT)
 refine H.cut (ι:=Nat×Nat×Nat×Nat) (fun s=>[(5,pv s.2.2.2),(3,pv tb),(4,pv ab),(0,pv cb)]) (fun _=>f)
  (fun s=>row s.2.2.2 116 [.func (.func hid) #[] (cs s.1 s.2.1 s.2.2.1).toArray,.bool whob,.bool ofb]::row tb 53 (stpL d cl who nn op)::row ab 44 (ansZ 0 none 0 0)::cluH cb n asked x w::(upB s.1 s.2.1 s.2.2.1++F)) (fun _=>True) _ (fun s _=>?_) ?_
 ·obtain⟨b1,b2,b3,eb⟩:=s;show H _ _ _ [(5,.pointer (some ⟨eb,0,none⟩)),(3,.pointer (some ⟨tb,0,none⟩)),(4,.pointer (some ⟨ab,0,none⟩)),(0,.pointer (some ⟨cb,0,none⟩))] f (row eb _ _::row tb _ _::row ab _ _::cluH cb n asked x w::row b1 _ _::row b2 _ _::row b3 _ _::F) _
  iterate 2 ( first
   |((first|apply B3|apply BE|apply B8|apply BG|apply BV|apply BW);(iterate 3 exact rfl))
   |(apply BH;(iterate 3 exact rfl);exact inferInstance;exact rfl)
   |(apply AL;(iterate 3 exact rfl);apply Rd1.ofRow;(repeat(first|exact .here _ _ _|apply At.there));(iterate 2 exact rfl))
   |(first|apply H.seq|apply BD|apply H.nil|apply BF)
   |((first|apply BU|apply AT);(iterate 5 exact rfl))
   |((first|(apply BC;(iterate 4 exact rfl))|(apply BL;(iterate 2 exact rfl)));(first|(with_reducible apply zbm;omega)|(with_reducible apply zay;omega)|(with_reducible apply zbk;omega)|(with_reducible apply wr_i64;omega)|(with_reducible apply wr_u64;omega)|(with_reducible apply wr_u8;omega)|(with_reducible apply wr_u16;omega)|rfl);exact rfl)
   |(apply H.pass;(iterate 2 exact rfl))
   |(apply Dr;exact rfl)
   |(apply CZ;(iterate 4 exact rfl))
   |((first|apply CJ|apply CQ|apply H.not|apply CR);(iterate 4 exact rfl))
   |((first|apply CK|apply CG);(iterate 5 exact rfl))
   |(apply AZ;(iterate 4 exact rfl);(repeat(first|exact .here _ _ _|apply At.there));(repeat(first|exact .here _ _ _|apply SetV.there)))
   |(apply CS;exact rfl)
   |(apply CF;exact rfl)
   |(first|apply H.skip|apply H.ret|apply C5|apply C6|apply H.exit|apply H.block|apply BJ|apply BZ|apply C7|apply C8|apply C9)
   |(apply DB;exact rfl)
   |(apply Cy;(iterate 3 exact rfl);(first|assumption|omega))
   |(apply DC;(iterate 3 exact rfl);(first|assumption|omega))
   |(apply CT;exact rfl;(first|assumption|omega))
   |(apply CU;exact rfl;(first|assumption|omega))
   |((first|apply DR);(iterate 3 exact rfl);assumption)
   |(apply DS;(iterate 3 exact rfl);assumption)
   |(apply Dt;exact rfl;assumption)
   |(apply Du;exact rfl;assumption) )
  refine H.cut (ι:=Unit) (fun _=>[(43,.bool false),(5,pv eb),(3,pv tb),(4,pv ab),(0,pv cb)]) (fun _=>f)
   (fun _=>row eb 116 [.func (.func hid) #[] (cs b1 b2 b3).toArray,.bool whob,.bool ofb]::row tb 53 (stpL d cl who nn op)::row ab 44 (ansZ 0 none 0 0)::cluH cb n asked x w::row b1 uT [fnW 59]::row b2 uT [fnW 60]::row b3 uT [fnW 70]::F) (fun _=>True) _ (fun _ _=>?_) ?_
  ·show H _ _ _ [_,(5,.pointer (some ⟨eb,0,none⟩)),(3,.pointer (some ⟨tb,0,none⟩)),(4,.pointer (some ⟨ab,0,none⟩)),(0,.pointer (some ⟨cb,0,none⟩))] f _ _;apply (gT);refine AD (ls:=stpL d cl who nn op) rfl rfl rfl (Rd.ofRow jA) hstl rfl ?_;apply (qkH);apply (qfb);apply (qeR);refine BQ (fs:=[]) (cs:=cs b1 b2 b3) rfl rfl rfl rfl (hk b1 b2 b3 ab _) fun v f' A' hR=>?_;obtain⟨ls,p,c,hls,hff,rfl⟩:=hR;rw[hff];clear hff;apply (gO);apply (qfb);refine AM fun i hw=>?_;obtain⟨sp,sc,nb,sb,ca⟩:=i;show H _ _ _ _ f (row cb _ (cluC n ⟨sp,sc,nb,sb,ca⟩ w'.now)::slc sp n sc _ 1 _::fam (siteF n x sb w'.rs) n::fam (cliF n x ca asked' w'.cl) 8::netQ nb _::row ab _ ls::accH p c acc::row b1 _ _::row b2 _ _::row b3 _ _::row eb _ _::row tb _ _::F) _;apply (gT);apply A4 (row b1 _ _);apply A4 (row b2 _ _);apply A4 (row b3 _ _);apply (qeG);apply (qeZ)
   refine AF (ι:=Nat) (fun j=>[(55,.int .i64 (j:Nat)),(54,.int .i64 (n:Nat)),(53,.slice sp n sc),(4,.pointer (some ⟨ab,0,none⟩))]) (fun _=>f)
    (fun _=>row cb 107 (cluC n ⟨sp,sc,nb,sb,ca⟩ w'.now)::slc sp n sc 81 1 (((List.range n).map sb).flatMap ptrV)::fam (siteF n x sb w'.rs) n::fam (cliF n x ca asked' w'.cl) 8::netQ nb (w'.net.map (coreQ x))::row ab 44 ls::accH p c acc::F)
    (fun j=>j≤n) (fun j=>n-j) 0 (Nat.zero_le _) fun j hj=>?_
   have hj:j≤n:=hj;by_cases hlt:j<n
   ·have hat:=ptr_at (n:=n) (sb:=sb) hlt;refine AO (p:=sp) (n0:=n) (c:=sc) (T:=81) (sz:=1) jA jB fun pa hp=>?_
    subst hp;apply (qhY);refine AL (v:=.pointer (some ⟨sb j,0,none⟩)) rfl rfl rfl (by rw[Nat.mul_one];exact Rd1.of (i:=j) (off:=0) (Rd.ofSlc jA jB) hat) rfl ?_;apply (qgw);refine CA (i:=j) hlt ?_;rw[cF_site];refine AM fun⟨db,du⟩ _=>?_;show H _ _ _ _ _ (row (sb j) _ [pv db,pv du]::durH du db n j x _::fam (updF (siteF n x sb w'.rs) j emp) n::_) _;apply (qeV);refine AM fun kk hφ=>?_;obtain⟨rb,ub,kb,bb,sv,csv,wk,z,nx,life,m⟩:=kk;show H _ _ _ _ f (row du _ (durC n j rb ub bb)::repH rb n j x _ []::row ub _ _::row kb _ _::row bb _ _::diskH db z m::row (sb j) _ [.pointer (some ⟨db,0,none⟩),_]::_) _;have hpo:=fun G=>dpower_fn f G (db:=db) (z:=z) (m:=m);apply (gO)
    apply (qeD);apply A5 (hpo _);apply (qdI);apply (qeS);apply (qef);apply (qdS);apply (qjY);refine H.imp (zbt (r:=rF w'.rs j) ⟨rb,ub,kb,bb,sv,csv,wk,z,nx,life,m⟩ hφ) ?_;apply A3 (row (sb j) _ _);apply (qeA);refine CH (g:=siteF n x sb w'.rs) hlt ?_;apply A3 (slc _ _ _ 81 _ _);apply (qdL);exact AI (j+1) hlt jv
   ·obtain rfl:j=n:=jB
    apply (gN);refine AD (ls:=ls) rfl rfl rfl (Rd.ofRow jA) hls.len rfl ?_
    refine AC (ls:=ls) (vs:=ls) (ls':=ls) rfl rfl rfl hls.one hls.len (by
     unfold splice
     rw[List.take_zero,List.drop_eq_nil_of_le jB];simp) kT jA ?_
    apply (gK);apply A3 (accH _ _ _);apply (qhB);apply A3 (slc _ _ _ 81 _ _);apply (qdL);refine H.imp (zbc (asked:=asked') (w:=w') ⟨sp,sc,nb,sb,ca⟩ hw) ?_;apply (qiE);exact BS (ls:=ls) rfl rfl rfl (Rd.ofRow aP0) hls.len (fun _ s=>s.drop (.here _ _)) ⟨ls,p,c,hls,rfl,rfl,rfl⟩
  ·cases whob with
   | false =>
    cases ofb with
    | false =>
     apply (gO);refine Di rfl rfl rfl rfl ?_;apply (gS);exact BR () trivial ⟨rfl,rfl,rfl,rfl,rfl,trivial⟩ rfl rfl
    | true =>
     obtain⟨k,hk8,rfl⟩:=hof rfl;apply (gO);refine Di rfl rfl rfl rfl ?_;apply (gS);exact qbI
   | true =>
    obtain⟨o,ho,rfl⟩:=hwho rfl
    cases ofb with
    | false =>
     refine (qil) fun s=>?_;unfold pv;apply (gS);exact qaK
    | true =>
     obtain⟨k,hk8,rfl⟩:=hof rfl;refine (qil) fun s=>?_;unfold pv;apply (gL);exact qbI
 ·apply (qdF);apply (qea);apply A6 [1,2] 4;apply (qdX);refine B9 (i:=0) (j:=4) jD rfl rfl ?_ ?_
  ·refine AV rfl rfl rfl (doings_fn f _) fun v f' A' hr=>?_;obtain⟨b1,b2,b3,rfl,hff,rfl⟩:=hr;rw[hff];clear hff;show H _ _ _ _ _ (row b1 _ _::row b2 _ _::row b3 _ _::_) _;apply (qgD);apply A6 [3] 2;apply (qjI);apply A7 4;refine AJ (ls:=doZ) rfl rfl rfl fun eb=>?_;apply (qgD);exact qaB
  ·refine AJ (ls:=doZ) rfl rfl rfl fun eb=>?_;apply (qgD);apply A7 0;refine AV rfl rfl rfl (doings_fn f _) fun v f' A' hr=>?_;obtain⟨b1,b2,b3,rfl,hff,rfl⟩:=hr;rw[hff];clear hff;show H _ _ _ _ _ (row b1 _ _::row b2 _ _::row b3 _ _::_) _;apply (qgD);apply A6 [3] 1;apply (qjI);exact qaB
end
variable {A A':List HP}
theorem zan{B:List HP}{x:HP}(hp:Pull A x A')(k:∀z,stars A' z→stars B z):∀z,stars A z→stars (x::B) z:=fun z hz=>by
 rw[hp.eq]at hz
 obtain⟨m1,m2,h1,h2,h3,h4⟩:=hz
 exact⟨m1,m2,h1,h2,h3,k _ h4⟩
variable {P:Program} {args:List Value} {f:Frag} {R:Value→Frag→List HP→Prop}
theorem BI{fid:FuncId}(h:∀z,stars A z→stars A' z)(k:Fn P fid args f A' R):Fn P fid args f A R:=fun base w s=>k base w (s.imp h)
theorem acc_nil:∀z,stars A z→stars (accH none 0 []::A) z:=fun z hz=>⟨nil0,z,fun k=>.inl rfl,(nil_un z).symm,slc_nil _ _ _,hz⟩
theorem ansZ_ok(e:Int)(p:Option Addr)(k c:Nat):AnsOK (ansZ e p k c) e p k c:=⟨rfl,zaa rfl,rfl,rfl⟩
theorem ansM_ok(e:Int){l:List Value}(hl:l.length=121)(h1:∀v∈l,one v=true):AnsOK (ansM e l) e none 0 0:=by
 refine⟨?_,?_,rfl,?_⟩
 ·unfold ansM;simp only[List.length_append,hl];rfl
 ·unfold ansM;intro v hv;rcases List.mem_append.1 hv with h|h
  ·rcases List.mem_append.1 h with h|h
   ·exact zaa (l:=[.int .i64 e]++Req.zero.vals) rfl v h
   ·exact h1 v h
  ·exact zaa (l:=[.slice none 0 0]) rfl v h
 ·unfold ansM;rw[List.getElem?_append_right (by rw[List.length_append,hl];show 41+121≤162;decide),List.length_append,hl];rfl
def DoP(f:Frag)(F:List HP)(cb n asked:Nat)(x:UInt8)(w:QW)(e:Int)(acc:List Nat):Value→Frag→List HP→Prop:=fun v g B=>∃(ls:List Value) (p:Option Addr) (c:Nat),AnsOK ls e p acc.length c∧v= .agg ls.toArray∧g=f∧B=accH p c acc::cluH cb n asked x w::F
def HkP(f:Frag)(G:List HP)(ab cb n asked:Nat)(x:UInt8)(w:QW)(e:Int)(acc:List Nat):Value→Frag→List HP→Prop:=fun v g B=>∃(ls:List Value) (p:Option Addr) (c:Nat),AnsOK ls e p acc.length c∧g=f∧B=row ab 44 ls::accH p c acc::cluH cb n asked x w::G
variable {r r':QR} {g:Nat→HP} {b:Bool}
section
variable (f:Frag) (F:List HP)
theorem quietK{asked ab:Nat}(h:∀G,Fn prog hid args f (cluH cb n asked x w::G) (Ret (.tuple #[]) f (cluH cb n asked' x w'::G)))(G:List HP):Fn prog hid args f (row ab 44 (ansZ 0 none 0 0)::cluH cb n asked x w::G) (HkP f G ab cb n asked' x w' 0 []):=by
 refine Fn.front (x:=cluH _ _ _ _ _) (.there _ (.here _ _)) ?_;refine Fn.monoA (h _) ?_;rintro v f' A' ⟨rfl,rfl,rfl⟩;exact⟨_,⟨_,none,0,ansZ_ok 0 none 0 0,rfl,rfl⟩,fun z hz=>(show∀z,stars (accH none 0 []::cluH cb n asked' x w'::row ab 44 (ansZ 0 none 0 0)::G) z→stars (row ab 44 (ansZ 0 none 0 0)::accH none 0 []::cluH cb n asked' x w'::G) z from jF) z (acc_nil z hz)⟩
theorem stpL_one{cl:Int}(h:∀v∈op,one v=true):∀v∈stpL d cl who nn op,one v=true:=by
 intro v hv;unfold stpL at hv;simp only[List.append_assoc]at hv;rcases List.mem_append.1 hv with g|g
 ·exact zaa (l:=[.int .u8 (d:Nat),.int .i64 cl,.int .i64 who,.int .i64 0,.int .i64 0,.int .i64 nn]) rfl v g
 ·rcases List.mem_append.1 g with g|g
  ·exact h v g
  ·exact zaa (l:=bodZ++(Pkt.zero.vals++([.int .u64 0]++(rep0++[.int .u64 0,.slice none 0 0])))) rfl v g
theorem doHeal_fn{asked:Nat}(h11:n≤11):Fn prog 15 [pv cb,.agg (stpL 9 0 0 0 opZ).toArray] f (cluH cb n asked x w::F) (DoP f F cb n asked x w 0 []):=
 clDo_fn f F (d:=9) (hid:=65) (cs:=fun _ _ _=>[]) (whob:=false) (ofb:=false) h11 jB rfl (stpL_one (zaa rfl)) (fun _ _ _=>rfl) (fun h=>by cases h) (fun h=>by cases h) fun b1 b2 b3 ab G=>quietK f (fun G=>clheal_fn f G) _
theorem doTime_fn{asked:Nat}(h11:n≤11)(hnow:w.now≤100000):Fn prog 15 [pv cb,.agg (stpL 10 0 0 8 opZ).toArray] f (cluH cb n asked x w::F) (DoP f F cb n asked x {w with now:=w.now+8} 0 []):=
 clDo_fn f F (d:=10) (hid:=66) (cs:=fun _ _ _=>[]) (whob:=false) (ofb:=false) h11 jB rfl (stpL_one (zaa rfl)) (fun _ _ _=>rfl) (fun h=>by cases h) (fun h=>by cases h) fun b1 b2 b3 ab G=>quietK f (fun G=>cltime_fn f G hnow) _
theorem doFuse_fn{asked:Nat}(h11:n≤11)(ho:o<n):Fn prog 15 [pv cb,.agg (stpL 11 0 ((o+1:Nat):Int) (-1) opZ).toArray] f (cluH cb n asked x w::F) (DoP f F cb n asked x w 0 []):=
 clDo_fn f F (d:=11) (hid:=67) (cs:=fun _ _ _=>[]) (whob:=true) (ofb:=false) h11 jB rfl (stpL_one (zaa rfl)) (fun _ _ _=>rfl) (fun _=>⟨o,ho,rfl⟩) (fun h=>by cases h) fun b1 b2 b3 ab G=>quietK f (fun G=>clfuse_fn f G h11 ho) _
theorem doDel_fn(htab:TabAt f){asked:Nat}{q:QP}{ps:List QP}(h3:3≤n)(h11:n≤11)(hnet:w.net=q::ps)(hr:w.rs[q.to-1]?=some r)(hq:qhear n q r=some r'):Fn prog 15 [pv cb,.agg (stpL 5 0 0 0 opZ).toArray] f (cluH cb n asked x w::F) (DoP f F cb n asked x (({w with net:=ps}:QW).put q.to r') 0 []):=
 clDo_fn f F (d:=5) (hid:=61) (cs:=fun _ _ _=>[]) (whob:=false) (ofb:=false) h11 jB rfl (stpL_one (zaa rfl)) (fun _ _ _=>rfl) (fun h=>by cases h) (fun h=>by cases h) fun b1 b2 b3 ab G=>by
  refine Fn.monoA (cldel_fn f _ htab h3 h11 hnet hr hq) ?_
  rintro v f' A' ⟨rfl,rfl,rfl⟩
  exact⟨_,⟨_,none,0,ansZ_ok 0 none 0 0,rfl,rfl⟩,fun z hz=>(show∀z,stars (accH none 0 []::row ab 44 (ansZ 0 none 0 0)::cluH cb n asked x (({w with net:=ps}:QW).put q.to r')::(upB b1 b2 b3++G)) z→stars (row ab 44 (ansZ 0 none 0 0)::accH none 0 []::cluH cb n asked x (({w with net:=ps}:QW).put q.to r')::(upB b1 b2 b3++G)) z from jF) z (acc_nil z hz)⟩
theorem site_open{a b:HP}{R:List HP}(ho:o<n):∀z,stars (a::b::fam g n::R) z→stars (a::b::g o::fam (updF g o emp) n::R) z:=fun z hz=>by
 show star a (star b (stars _)) z
 rw[←fam_pullA R ho]
 exact hz
theorem site_close{asked db du:Nat}{i:CLI}{R:List HP}(ho:o<n)(hrl:w.rs.length=n)(hinv:CInv n asked (w.put (o+1) r')):∀z,stars (row (i.sb o) 86 [pv db,pv du]::durH du db n o x r'::fam (updF (siteF n x i.sb w.rs) o emp) n::row cb 107 (cluC n i w.now)::sitL n i::fam (cliF n x i.ca asked w.cl) 8::netQ i.nb (w.net.map (coreQ x))::R) z→stars (cluH cb n asked x (w.put (o+1) r')::R) z:=fun z hz=>by
 have h1:=zbx z hz
 rw[fam_putA _ ho,rF_set (by rw[hrl];exact ho)]at h1
 have h2:stars (row cb 107 (cluC n i w.now)::sitL n i::fam (siteF n x i.sb (w.rs.set o r')) n::fam (cliF n x i.ca asked w.cl) 8::netQ i.nb (w.net.map (coreQ x))::R) z:=(show∀z,stars (fam (siteF n x i.sb (w.rs.set o r')) n::row cb 107 (cluC n i w.now)::sitL n i::fam (cliF n x i.ca asked w.cl) 8::netQ i.nb (w.net.map (coreQ x))::R) z→stars (row cb 107 (cluC n i w.now)::sitL n i::fam (siteF n x i.sb (w.rs.set o r')) n::fam (cliF n x i.ca asked w.cl) 8::netQ i.nb (w.net.map (coreQ x))::R) z from jF) z h1
 exact zbc (w:=w.put (o+1) r') i hinv z h2
theorem CInv.put{asked:Nat}(h:CInv n asked w)(o:Nat)(r:QR):CInv n asked (w.put (o+1) r):=⟨h.wn,by show(w.rs.set o r).length=n;rw[List.length_set];exact h.rl,h.cl,h.ch,h.now⟩
theorem doSay_fn(htab:TabAt f){asked:Nat}(h3:3≤n)(h11:n≤11)(hodd:n % 2=1)(ho:o<n)(hr:w.rs[o]?=some r)(hs:qsay n w.now (o+1) r=some (b,r')):Fn prog 15 [pv cb,.agg (stpL 3 0 ((o+1:Nat):Int) 0 opZ).toArray] f (cluH cb n asked x w::F) (DoP f F cb n asked x (w.put (o+1) r') (sayE b) []):=
 clDo_fn f F (d:=3) (hid:=114) (cs:=fun b1 _ _=>[pv b1]) (whob:=true) (ofb:=false) h11 jB rfl (stpL_one (zaa rfl)) (fun _ _ _=>rfl) (fun _=>⟨o,ho,rfl⟩) (fun h=>by cases h) fun b1 b2 b3 ab G=>by
  refine Fn.front (x:=cluH _ _ _ _ _) (.there _ (.here _ _)) ?_
  refine B2 fun i hw=>?_
  refine BI (A':=row cb 107 (cluC n i w.now)::sitL n i::siteF n x i.sb w.rs o::fam (updF (siteF n x i.sb w.rs) o emp) n::fam (cliF n x i.ca asked w.cl) 8::netQ i.nb (w.net.map (coreQ x))::row ab 44 (ansZ 0 none 0 0)::(upB b1 b2 b3++G)) (site_open ho) ?_
  rw[cF_site,rF_get hr]
  refine Fn.front (x:=siteH _ _ _ _ _) (.there _ (.there _ (.here _ _))) ?_
  refine B2 fun⟨db,du⟩ _=>?_
  refine BI (A:=row (i.sb o) 86 [pv db,pv du]::durH du db n o x r::row cb 107 (cluC n i w.now)::sitL n i::fam (updF (siteF n x i.sb w.rs) o emp) n::fam (cliF n x i.ca asked w.cl) 8::netQ i.nb (w.net.map (coreQ x))::row ab 44 (ansZ 0 none 0 0)::row b1 uT [fnW 59]::row b2 uT [fnW 60]::row b3 uT [fnW 70]::G)
   (A':=row cb 107 (cluC n i w.now)::sitL n i::row (i.sb o) 86 [pv db,pv du]::row b1 uT [fnW 59]::durH du db n o x r::row ab 44 (ansZ 0 none 0 0)::fam (updF (siteF n x i.sb w.rs) o emp) n::fam (cliF n x i.ca asked w.cl) 8::netQ i.nb (w.net.map (coreQ x))::row b2 uT [fnW 60]::row b3 uT [fnW 70]::G) jF ?_
  refine Fn.monoA (clup_fn f _ (g:=59) (cs:=[]) h11 ho (BI (A':=row cb 107 (cluC n i w.now)::durH du db n o x r::row ab 44 (ansZ 0 none 0 0)::sitL n i::row (i.sb o) 86 [pv db,pv du]::row b1 uT [fnW 59]::fam (updF (siteF n x i.sb w.rs) o emp) n::fam (cliF n x i.ca asked w.cl) 8::netQ i.nb (w.net.map (coreQ x))::row b2 uT [fnW 60]::row b3 uT [fnW 70]::G) jF (clsay_fn f _ htab (ub:=0) h3 h11 hodd ho (by have:=hw.now;omega) hs))) ?_
  rintro v f' A' ⟨rfl,u,ls,hl1,hl2,_,rfl,rfl⟩
  refine⟨_,⟨ansM (sayE b) ls,none,0,ansM_ok _ hl1 hl2,rfl,rfl⟩,fun z hz=>?_⟩
  have h1:=(show∀z,stars (row cb 107 (cluC n i w.now)::durH du db n o x r'::row ab 44 (ansM (sayE b) ls)::sitL n i::row (i.sb o) 86 [pv db,pv du]::row b1 uT [fnW 59]::fam (updF (siteF n x i.sb w.rs) o emp) n::fam (cliF n x i.ca asked w.cl) 8::netQ i.nb (w.net.map (coreQ x))::row b2 uT [fnW 60]::row b3 uT [fnW 70]::G) z→stars (row (i.sb o) 86 [pv db,pv du]::durH du db n o x r'::fam (updF (siteF n x i.sb w.rs) o emp) n::row cb 107 (cluC n i w.now)::sitL n i::fam (cliF n x i.ca asked w.cl) 8::netQ i.nb (w.net.map (coreQ x))::row ab 44 (ansM (sayE b) ls)::row b1 uT [fnW 59]::row b2 uT [fnW 60]::row b3 uT [fnW 70]::G) z from jF) z hz
  have h2:=acc_nil z (site_close ho hw.rl (hw.put o r') z h1)
  exact(show∀z,stars (accH none 0 []::cluH cb n asked x (w.put (o+1) r')::row ab 44 (ansM (sayE b) ls)::row b1 uT [fnW 59]::row b2 uT [fnW 60]::row b3 uT [fnW 70]::G) z→stars (row ab 44 (ansM (sayE b) ls)::accH none 0 []::cluH cb n asked x (w.put (o+1) r')::row b1 uT [fnW 59]::row b2 uT [fnW 60]::row b3 uT [fnW 70]::G) z from jF) z h2
theorem ClOk.hears{asked n o:Nat}:∀ {cs:List Nat} {s:List (Bool×List Bool)×List Nat},ClOk asked s.1→(∀c∈cs,1≤c∧c≤8)→ClOk asked (qhearCs n (o+1) cs s).1
 | [],_,h,_=>h
 | c :: cs, s, h, hc => by
  obtain⟨k,rfl⟩:∃k,c=k+1:=⟨c-1,by have:=hc c List.mem_cons_self;omega⟩
  have hk:=hc (k+1) List.mem_cons_self
  exact ClOk.hears (cs:=cs) (s:=((qhearC n (o+1) (k+1) s.1).1,bif (qhearC n (o+1) (k+1) s.1).2 then s.2++[k+1]else s.2)) (h.hear n o jB) fun c hcc=>hc c (List.mem_cons_of_mem _ hcc)
theorem qhearCs_acc{n i:Nat}:∀(cs:List Nat) (cl:List (Bool×List Bool)) (a b:List Nat),qhearCs n i cs (cl,a++b)=((qhearCs n i cs (cl,b)).1,a++(qhearCs n i cs (cl,b)).2)
 | [],_,_,_=>rfl
 | c :: cs, cl, a, b => by
  show qhearCs n i cs ((qhearC n i c cl).1,bif (qhearC n i c cl).2 then(a++b)++[c]else a++b)=_
  rw[show(bif (qhearC n i c cl).2 then(a++b)++[c]else a++b)=a++(bif (qhearC n i c cl).2 then b++[c]else b) by cases(qhearC n i c cl).2<;>simp]
  exact qhearCs_acc cs _ a _
theorem CInv.ok{asked:Nat}(h:CInv n asked w):ClOk asked w.cl:=⟨h.cl,h.ch⟩
theorem doTell_fn{asked:Nat}(h11:n≤11)(ho:o<n)(hr:w.rs[o]?=some r)(hnet:w.net.length≤100)(hI:QInv n r):Fn prog 15 [pv cb,.agg (stpL 4 0 ((o+1:Nat):Int) 0 opZ).toArray] f (cluH cb n asked x w::F)
  (DoP f F cb n asked x (({w with net:=w.net++qout n (o+1) r,cl:=(qhearCs n (o+1) r.td (w.cl,[])).1}:QW).put (o+1) {r with td:=[]}) 0 (qhearCs n (o+1) r.td (w.cl,[])).2):=
 clDo_fn f F (d:=4) (hid:=114) (cs:=fun _ b2 _=>[pv b2]) (whob:=true) (ofb:=false) h11 jB rfl (stpL_one (zaa rfl)) (fun _ _ _=>rfl) (fun _=>⟨o,ho,rfl⟩) (fun h=>by cases h) fun b1 b2 b3 ab G=>by
  refine Fn.front (x:=cluH _ _ _ _ _) (.there _ (.here _ _)) ?_
  refine B2 fun i hw=>?_
  refine BI (A':=row cb 107 (cluC n i w.now)::sitL n i::siteF n x i.sb w.rs o::fam (updF (siteF n x i.sb w.rs) o emp) n::fam (cliF n x i.ca asked w.cl) 8::netQ i.nb (w.net.map (coreQ x))::row ab 44 (ansZ 0 none 0 0)::(upB b1 b2 b3++G)) (site_open ho) ?_
  rw[cF_site,rF_get hr]
  refine Fn.front (x:=siteH _ _ _ _ _) (.there _ (.there _ (.here _ _))) ?_
  refine B2 fun⟨db,du⟩ _=>?_
  have hcs:=hw.ok
  have hcl2:=ClOk.hears (n:=n) (o:=o) (s:=(w.cl,[])) hcs hI.tdb
  refine BI (A:=row (i.sb o) 86 [pv db,pv du]::durH du db n o x r::row cb 107 (cluC n i w.now)::sitL n i::fam (updF (siteF n x i.sb w.rs) o emp) n::fam (cliF n x i.ca asked w.cl) 8::netQ i.nb (w.net.map (coreQ x))::row ab 44 (ansZ 0 none 0 0)::row b1 uT [fnW 59]::row b2 uT [fnW 60]::row b3 uT [fnW 70]::G)
   (A':=accH none 0 []::row cb 107 (cluC n i w.now)::sitL n i::row (i.sb o) 86 [pv db,pv du]::row b2 uT [fnW 60]::durH du db n o x r::row ab 44 (ansZ 0 none 0 0)::fam (updF (siteF n x i.sb w.rs) o emp) n::fam (cliF n x i.ca asked w.cl) 8::netQ i.nb (w.net.map (coreQ x))::row b1 uT [fnW 59]::row b3 uT [fnW 70]::G) (fun z hz=>acc_nil z ((show∀z,stars (row (i.sb o) 86 [pv db,pv du]::durH du db n o x r::row cb 107 (cluC n i w.now)::sitL n i::fam (updF (siteF n x i.sb w.rs) o emp) n::fam (cliF n x i.ca asked w.cl) 8::netQ i.nb (w.net.map (coreQ x))::row ab 44 (ansZ 0 none 0 0)::row b1 uT [fnW 59]::row b2 uT [fnW 60]::row b3 uT [fnW 70]::G) z→stars (row cb 107 (cluC n i w.now)::sitL n i::row (i.sb o) 86 [pv db,pv du]::row b2 uT [fnW 60]::durH du db n o x r::row ab 44 (ansZ 0 none 0 0)::fam (updF (siteF n x i.sb w.rs) o emp) n::fam (cliF n x i.ca asked w.cl) 8::netQ i.nb (w.net.map (coreQ x))::row b1 uT [fnW 59]::row b3 uT [fnW 70]::G) z from jF) z hz)) ?_
  refine BI (A':=row cb 107 (cluC n i w.now)::sitL n i::row (i.sb o) 86 [pv db,pv du]::row b2 uT [fnW 60]::durH du db n o x r::row ab 44 (ansZ 0 none 0 0)::accH none 0 []::fam (cliF n x i.ca asked w.cl) 8::netQ i.nb (w.net.map (coreQ x))::fam (updF (siteF n x i.sb w.rs) o emp) n::row b1 uT [fnW 59]::row b3 uT [fnW 70]::G) jF ?_
  refine Fn.monoA (clup_fn f _ (g:=60) (cs:=[]) h11 ho (BI (A':=durH du db n o x r::row cb 107 (cluC n i w.now)::row ab 44 (ansZ 0 none 0 0)::accH none 0 []::fam (cliF n x i.ca asked w.cl) 8::netQ i.nb (w.net.map (coreQ x))::sitL n i::row (i.sb o) 86 [pv db,pv du]::row b2 uT [fnW 60]::fam (updF (siteF n x i.sb w.rs) o emp) n::row b1 uT [fnW 59]::row b3 uT [fnW 70]::G) jF (cltell_fn f _ h11 ho hcs (by rw[List.length_map];exact hnet)))) ?_
  rintro v f' A' ⟨rfl,u,ap,ac,_,rfl,rfl⟩
  generalize qhearCs n (o+1) r.td (w.cl,[])=qh at hcl2⊢
  obtain⟨cl',acc'⟩:=qh
  refine⟨_,⟨ansZ 0 ap acc'.length ac,ap,ac,ansZ_ok _ _ _ _,rfl,rfl⟩,fun z hz=>?_⟩
  have h1:=(show∀z,stars (durH du db n o x {r with td:=[]}::row cb 107 (cluC n i w.now)::row ab 44 (ansZ 0 ap acc'.length ac)::accH ap ac acc'::fam (cliF n x i.ca asked cl') 8::netQ i.nb (w.net.map (coreQ x)++(qout n (o+1) r).map (coreQ x))::sitL n i::row (i.sb o) 86 [pv db,pv du]::row b2 uT [fnW 60]::fam (updF (siteF n x i.sb w.rs) o emp) n::row b1 uT [fnW 59]::row b3 uT [fnW 70]::G) z→stars (row (i.sb o) 86 [pv db,pv du]::durH du db n o x {r with td:=[]}::fam (updF (siteF n x i.sb w.rs) o emp) n::row cb 107 (cluC n i w.now)::sitL n i::fam (cliF n x i.ca asked cl') 8::netQ i.nb (w.net.map (coreQ x)++(qout n (o+1) r).map (coreQ x))::row ab 44 (ansZ 0 ap acc'.length ac)::accH ap ac acc'::row b1 uT [fnW 59]::row b2 uT [fnW 60]::row b3 uT [fnW 70]::G) z from jF) z hz
  rw[←List.map_append]at h1
  have h2:=site_close (w:={w with net:=w.net++qout n (o+1) r,cl:=cl'}) ho hw.rl (CInv.put (w:={w with net:=w.net++qout n (o+1) r,cl:=cl'}) ⟨hw.wn,hw.rl,hcl2.1,hcl2.2,hw.now⟩ o {r with td:=[]}) z h1
  exact(show∀z,stars (cluH cb n asked x (({w with net:=w.net++qout n (o+1) r,cl:=cl'}:QW).put (o+1) {r with td:=[]})::row ab 44 (ansZ 0 ap acc'.length ac)::accH ap ac acc'::row b1 uT [fnW 59]::row b2 uT [fnW 60]::row b3 uT [fnW 70]::G) z→stars (row ab 44 (ansZ 0 ap acc'.length ac)::accH ap ac acc'::cluH cb n asked x (({w with net:=w.net++qout n (o+1) r,cl:=cl'}:QW).put (o+1) {r with td:=[]})::row b1 uT [fnW 59]::row b2 uT [fnW 60]::row b3 uT [fnW 70]::G) z from jF) z h2
end
theorem fam_open{R:List HP}(ho:o<n):∀z,stars (fam g n::R) z→stars (g o::fam (updF g o emp) n::R) z:=fun z hz=>by
 rw[←fam_pullA R ho]
 exact hz
theorem ansR_ok(e:Int){l:List Value}(hl:l.length=40)(h1:∀v∈l,one v=true):AnsOK (ansR e l) e none 0 0:=by
 have hz:∀v∈msgZ.vals none 0++[.slice none 0 0],one v=true:=zaa rfl;have hm:(msgZ.vals none 0).length=121:=rfl
 refine⟨?_,?_,rfl,?_⟩
 ·unfold ansR;simp only[List.length_append,hl,hm];rfl
 ·unfold ansR;intro v hv;rw[List.append_assoc]at hv;rcases List.mem_append.1 hv with h|h
  ·rcases List.mem_append.1 h with h|h
   ·exact zaa (l:=[.int .i64 e]) rfl v h
   ·exact h1 v h
  ·exact hz v h
 ·unfold ansR;rw[List.getElem?_append_right (by rw[List.length_append,List.length_append,hl,hm];show 1+40+121≤162;decide),List.length_append,List.length_append,hl,hm];rfl
theorem hearS_ok(n o k:Nat)(r:QR)(h:List Bool):(hearS n o k r h).2.1.length=h.length:=by
 unfold hearS;split
 ·exact(hearP_ok n o true h).1
 ·rfl
theorem CInv.setC{asked k:Nat}(h:CInv n asked w)(p:Bool){hs:List Bool}(hl:hs.length=11)(ha:p=true→k<asked):CInv n asked {w with cl:=w.cl.set k (p,hs)}:=by
 refine⟨h.wn,h.rl,by show(w.cl.set k (p,hs)).length=8;rw[List.length_set];exact h.cl,fun j hj=>?_,h.now⟩;show(cF (w.cl.set k (p,hs)) j).2.length=11∧((cF (w.cl.set k (p,hs)) j).1=true→j<asked);by_cases hk:k<w.cl.length
 ·rw[cF_set hk];split
  ·rename_i e;subst e;exact⟨hl,ha⟩
  ·exact h.ch j hj
 ·rw[List.set_eq_of_length_le jB];exact h.ch j hj
variable {h:List Bool} {ca:Nat→Nat}
section
variable (f:Frag) (F:List HP)
theorem doSend_fn(htab:TabAt f){asked k:Nat}(h3:3≤n)(h11:n≤11)(ho:o<n)(hk:k<8)(hr:w.rs[o]?=some r)(hc:cF w.cl k=(true,h))(hpd:¬(k+1≤r.row∨r.pd.elem (k+1)=true)→r.pd.length<20):Fn prog 15 [pv cb,.agg (stpL 2 ((k+1:Nat):Int) ((o+1:Nat):Int) 0 opZ).toArray] f (cluH cb n asked x w::F)
  (DoP f F cb n asked x (({w with cl:=w.cl.set k ((hearS n o k r h).1,(hearS n o k r h).2.1)}:QW).put (o+1) (askQ r (k+1))) 0 (if(hearS n o k r h).2.2=true then [k+1]else [])):=
 clDo_fn f F (d:=2) (hid:=57) (cs:=fun _ _ _=>[]) (whob:=true) (ofb:=true) h11 jB rfl (stpL_one (zaa rfl)) (fun _ _ _=>rfl) (fun _=>⟨o,ho,rfl⟩) (fun _=>⟨k,hk,rfl⟩) fun b1 b2 b3 ab G=>by
  refine Fn.front (x:=cluH _ _ _ _ _) (.there _ (.here _ _)) ?_
  refine B2 fun i hw=>?_
  refine BI (A':=row cb 107 (cluC n i w.now)::sitL n i::siteF n x i.sb w.rs o::fam (updF (siteF n x i.sb w.rs) o emp) n::fam (cliF n x i.ca asked w.cl) 8::netQ i.nb (w.net.map (coreQ x))::row ab 44 (ansZ 0 none 0 0)::(upB b1 b2 b3++G)) (site_open ho) ?_
  rw[cF_site,rF_get hr]
  refine Fn.front (x:=siteH _ _ _ _ _) (.there _ (.there _ (.here _ _))) ?_
  refine B2 fun⟨db,du⟩ _=>?_
  have hch:=hw.ch k hk
  rw[hc]at hch
  have hkl:k<w.cl.length:=by rw[hw.cl];exact hk
  have hcs:=cliF_set (n:=n) (x:=x) (ca:=i.ca) (asked:=asked) hkl (hearS n o k r h).1 (hearS n o k r h).2.1
  have hct:cliF n x i.ca asked w.cl k=row (i.ca k) 141 (cliC n ((k+1:Nat):Int) (tmF asked k) true (qP x true k) h):=by unfold cliF;rw[hc]
  have htm:tmF asked k=1:=by unfold tmF;rw[if_pos (hch.2 rfl)]
  have hsl:=hearS_ok n o k r h
  have hinv:=(hw.setC (k:=k) (hearS n o k r h).1 (hs:=(hearS n o k r h).2.1) (by rw[hsl];exact hch.1) (fun _=>hch.2 rfl)).put o (askQ r (k+1))
  refine Fn.front (x:=fam (cliF n x i.ca asked w.cl) 8) (.there _ (.there _ (.there _ (.there _ (.there _ (.here _ _)))))) ?_
  refine BI (fam_open hk) ?_
  rw[hct]
  refine BI (A:=row (i.ca k) 141 (cliC n ((k+1:Nat):Int) (tmF asked k) true (qP x true k) h)::fam (updF (cliF n x i.ca asked w.cl) k emp) 8::row (i.sb o) 86 [pv db,pv du]::durH du db n o x r::row cb 107 (cluC n i w.now)::sitL n i::fam (updF (siteF n x i.sb w.rs) o emp) n::netQ i.nb (w.net.map (coreQ x))::row ab 44 (ansZ 0 none 0 0)::(upB b1 b2 b3++G))
   (A':=accH none 0 []::row cb 107 (cluC n i w.now)::sitL n i::row (i.sb o) 86 [pv db,pv du]::durH du db n o x r::row (i.ca k) 141 (cliC n ((k+1:Nat):Int) (tmF asked k) true (qP x true k) h)::row ab 44 (ansZ 0 none 0 0)::fam (updF (cliF n x i.ca asked w.cl) k emp) 8::fam (updF (siteF n x i.sb w.rs) o emp) n::netQ i.nb (w.net.map (coreQ x))::(upB b1 b2 b3++G)) (fun z hz=>acc_nil z ((show∀z,stars (row (i.ca k) 141 (cliC n ((k+1:Nat):Int) (tmF asked k) true (qP x true k) h)::fam (updF (cliF n x i.ca asked w.cl) k emp) 8::row (i.sb o) 86 [pv db,pv du]::durH du db n o x r::row cb 107 (cluC n i w.now)::sitL n i::fam (updF (siteF n x i.sb w.rs) o emp) n::netQ i.nb (w.net.map (coreQ x))::row ab 44 (ansZ 0 none 0 0)::(upB b1 b2 b3++G)) z→stars (row cb 107 (cluC n i w.now)::sitL n i::row (i.sb o) 86 [pv db,pv du]::durH du db n o x r::row (i.ca k) 141 (cliC n ((k+1:Nat):Int) (tmF asked k) true (qP x true k) h)::row ab 44 (ansZ 0 none 0 0)::fam (updF (cliF n x i.ca asked w.cl) k emp) 8::fam (updF (siteF n x i.sb w.rs) o emp) n::netQ i.nb (w.net.map (coreQ x))::(upB b1 b2 b3++G)) z from jF) z hz)) ?_
  refine BI (A':=row cb 107 (cluC n i w.now)::sitL n i::row (i.sb o) 86 [pv db,pv du]::durH du db n o x r::row (i.ca k) 141 (cliC n ((k+1:Nat):Int) (tmF asked k) true (qP x true k) h)::row ab 44 (ansZ 0 none 0 0)::accH none 0 []::fam (updF (cliF n x i.ca asked w.cl) k emp) 8::fam (updF (siteF n x i.sb w.rs) o emp) n::netQ i.nb (w.net.map (coreQ x))::(upB b1 b2 b3++G)) jF ?_
  refine Fn.monoA (clsend_fn f _ htab h3 h11 ho hk hch.1 htm hpd) ?_
  generalize hearS n o k r h=hs at hcs hinv⊢
  obtain⟨p',h',b⟩:=hs
  rintro v f' A' ⟨ap,ac,rfl,rfl,rfl⟩
  generalize hacc:(if b=true then [k+1]else [])=acc'
  refine⟨_,⟨ansZ 0 ap acc'.length ac,ap,ac,ansZ_ok _ _ _ _,rfl,rfl⟩,fun z hz=>?_⟩
  have h1:stars (row cb 107 (cluC n i w.now)::sitL n i::row (i.sb o) 86 [pv db,pv du]::durH du db n o x (askQ r (k+1))::row (i.ca k) 141 (cliC n ((k+1:Nat):Int) (tmF asked k) p' (qP x p' k) h')::row ab 44 (ansZ 0 ap acc'.length ac)::accH ap ac acc'::fam (updF (cliF n x i.ca asked w.cl) k emp) 8::fam (updF (siteF n x i.sb w.rs) o emp) n::netQ i.nb (w.net.map (coreQ x))::(upB b1 b2 b3++G)) z:=hz
  have h2:=(show∀z,stars (row cb 107 (cluC n i w.now)::sitL n i::row (i.sb o) 86 [pv db,pv du]::durH du db n o x (askQ r (k+1))::row (i.ca k) 141 (cliC n ((k+1:Nat):Int) (tmF asked k) p' (qP x p' k) h')::row ab 44 (ansZ 0 ap acc'.length ac)::accH ap ac acc'::fam (updF (cliF n x i.ca asked w.cl) k emp) 8::fam (updF (siteF n x i.sb w.rs) o emp) n::netQ i.nb (w.net.map (coreQ x))::(upB b1 b2 b3++G)) z→stars (row (i.ca k) 141 (cliC n ((k+1:Nat):Int) (tmF asked k) p' (qP x p' k) h')::fam (updF (cliF n x i.ca asked w.cl) k emp) 8::row (i.sb o) 86 [pv db,pv du]::durH du db n o x (askQ r (k+1))::fam (updF (siteF n x i.sb w.rs) o emp) n::row cb 107 (cluC n i w.now)::sitL n i::netQ i.nb (w.net.map (coreQ x))::row ab 44 (ansZ 0 ap acc'.length ac)::accH ap ac acc'::(upB b1 b2 b3++G)) z from jF) z h1
  rw[fam_putA _ hk,hcs]at h2
  have h3:=(show∀z,stars (fam (cliF n x i.ca asked (w.cl.set k (p',h'))) 8::row (i.sb o) 86 [pv db,pv du]::durH du db n o x (askQ r (k+1))::fam (updF (siteF n x i.sb w.rs) o emp) n::row cb 107 (cluC n i w.now)::sitL n i::netQ i.nb (w.net.map (coreQ x))::row ab 44 (ansZ 0 ap acc'.length ac)::accH ap ac acc'::(upB b1 b2 b3++G)) z→stars (row (i.sb o) 86 [pv db,pv du]::durH du db n o x (askQ r (k+1))::fam (updF (siteF n x i.sb w.rs) o emp) n::row cb 107 (cluC n i w.now)::sitL n i::fam (cliF n x i.ca asked (w.cl.set k (p',h'))) 8::netQ i.nb (w.net.map (coreQ x))::row ab 44 (ansZ 0 ap acc'.length ac)::accH ap ac acc'::(upB b1 b2 b3++G)) z from jF) z h2
  have h4:=site_close (w:={w with cl:=w.cl.set k (p',h')}) ho hw.rl hinv z h3
  exact(show∀z,stars (cluH cb n asked x (({w with cl:=w.cl.set k (p',h')}:QW).put (o+1) (askQ r (k+1)))::row ab 44 (ansZ 0 ap acc'.length ac)::accH ap ac acc'::(upB b1 b2 b3++G)) z→stars (row ab 44 (ansZ 0 ap acc'.length ac)::accH ap ac acc'::cluH cb n asked x (({w with cl:=w.cl.set k (p',h')}:QW).put (o+1) (askQ r (k+1)))::(upB b1 b2 b3++G)) z from jF) z h4
theorem cliF_ask{k:Nat}{cl:List (Bool×List Bool)}(h:k<cl.length)(hs:List Bool):updF (cliF n x ca k cl) k (row (ca k) 141 (cliC n ((k+1:Nat):Int) 1 true (qS x (k+1)) hs))=cliF n x ca (k+1) (cl.set k (true,hs)):=by
 funext j;unfold updF cliF;rw[cF_set h];by_cases e:j=k
 ·subst e;rw[if_pos rfl,if_pos rfl,show tmF (j+1) j=1 from if_pos (Nat.lt_succ_self j)];rfl
 ·rw[if_neg e,if_neg e]
  have:tmF (k+1) j=tmF k j:=by
   unfold tmF;by_cases h1:j<k
   ·rw[if_pos h1,if_pos jB]
   ·rw[if_neg h1,if_neg jB]
  rw[this]
theorem doAsk_fn(htab:TabAt f){k:Nat}(h11:n≤11)(hk:k<8)(hc:cF w.cl k=(false,List.replicate 11 false)):Fn prog 15 [pv cb,.agg (stpL 1 ((k+1:Nat):Int) 0 0 (opL x (yv (k+1)))).toArray] f (cluH cb n k x w::F)
  (DoP f F cb n (k+1) x {w with cl:=w.cl.set k (true,List.replicate 11 false)} 0 []):=
 clDo_fn f F (d:=1) (hid:=56) (cs:=fun _ _ _=>[]) (whob:=false) (ofb:=true) h11 jB rfl (stpL_one (zaa rfl)) (fun _ _ _=>rfl) (fun h=>by cases h) (fun _=>⟨k,hk,rfl⟩) fun b1 b2 b3 ab G=>by
  refine Fn.front (x:=cluH _ _ _ _ _) (.there _ (.here _ _)) ?_
  refine B2 fun i hw=>?_
  have hkl:k<w.cl.length:=by rw[hw.cl];exact hk
  have hcs:=cliF_ask (n:=n) (x:=x) (ca:=i.ca) hkl (List.replicate 11 false)
  have hct:cliF n x i.ca k w.cl k=row (i.ca k) 141 (cliC n ((k+1:Nat):Int) 0 false Req.zero (List.replicate 11 false)):=by unfold cliF tmF;rw[hc,if_neg (Nat.lt_irrefl k)];rfl
  have hinv:CInv n (k+1) {w with cl:=w.cl.set k (true,List.replicate 11 false)}:=CInv.setC (w:=w) ⟨hw.wn,hw.rl,hw.cl,fun j hj=>⟨(hw.ch j hj).1,fun e=>by have:=(hw.ch j hj).2 e;omega⟩,hw.now⟩ true (hs:=List.replicate 11 false) rfl (fun _=>Nat.lt_succ_self k)
  refine BI (A:=row cb 107 (cluC n i w.now)::sitL n i::fam (siteF n x i.sb w.rs) n::fam (cliF n x i.ca k w.cl) 8::netQ i.nb (w.net.map (coreQ x))::row ab 44 (ansZ 0 none 0 0)::(upB b1 b2 b3++G))
   (A':=fam (cliF n x i.ca k w.cl) 8::row cb 107 (cluC n i w.now)::sitL n i::fam (siteF n x i.sb w.rs) n::netQ i.nb (w.net.map (coreQ x))::row ab 44 (ansZ 0 none 0 0)::(upB b1 b2 b3++G)) jF ?_
  refine BI (fam_open hk) ?_
  rw[hct]
  refine BI (A':=row cb 107 (cluC n i w.now)::row (i.ca k) 141 (cliC n ((k+1:Nat):Int) 0 false Req.zero (List.replicate 11 false))::row ab 44 (ansZ 0 none 0 0)::fam (updF (cliF n x i.ca k w.cl) k emp) 8::sitL n i::fam (siteF n x i.sb w.rs) n::netQ i.nb (w.net.map (coreQ x))::(upB b1 b2 b3++G)) jF ?_
  refine Fn.monoA (clask_fn f _ htab hk) ?_
  rintro v f' A' ⟨rfl,rfl,rfl⟩
  refine⟨_,⟨ansR 0 (qS x (k+1)).vals,none,0,ansR_ok 0 rfl (zaa rfl),rfl,rfl⟩,fun z hz=>?_⟩
  have h2:=(show∀z,stars (row cb 107 (cluC n i w.now)::row (i.ca k) 141 (cliC n ((k+1:Nat):Int) 1 true (qS x (k+1)) (List.replicate 11 false))::row ab 44 (ansR 0 (qS x (k+1)).vals)::fam (updF (cliF n x i.ca k w.cl) k emp) 8::sitL n i::fam (siteF n x i.sb w.rs) n::netQ i.nb (w.net.map (coreQ x))::(upB b1 b2 b3++G)) z→stars (row (i.ca k) 141 (cliC n ((k+1:Nat):Int) 1 true (qS x (k+1)) (List.replicate 11 false))::fam (updF (cliF n x i.ca k w.cl) k emp) 8::row cb 107 (cluC n i w.now)::sitL n i::fam (siteF n x i.sb w.rs) n::netQ i.nb (w.net.map (coreQ x))::row ab 44 (ansR 0 (qS x (k+1)).vals)::(upB b1 b2 b3++G)) z from jF) z hz
  rw[fam_putA _ hk,hcs]at h2
  have h3:=(show∀z,stars (fam (cliF n x i.ca (k+1) (w.cl.set k (true,List.replicate 11 false))) 8::row cb 107 (cluC n i w.now)::sitL n i::fam (siteF n x i.sb w.rs) n::netQ i.nb (w.net.map (coreQ x))::row ab 44 (ansR 0 (qS x (k+1)).vals)::(upB b1 b2 b3++G)) z→stars (row cb 107 (cluC n i w.now)::sitL n i::fam (siteF n x i.sb w.rs) n::fam (cliF n x i.ca (k+1) (w.cl.set k (true,List.replicate 11 false))) 8::netQ i.nb (w.net.map (coreQ x))::row ab 44 (ansR 0 (qS x (k+1)).vals)::(upB b1 b2 b3++G)) z from jF) z h2
  have h4:=acc_nil z (zbc (cb:=cb) (asked:=k+1) (x:=x) (w:={w with cl:=w.cl.set k (true,List.replicate 11 false)}) i hinv z h3)
  exact(show∀z,stars (accH none 0 []::cluH cb n (k+1) x {w with cl:=w.cl.set k (true,List.replicate 11 false)}::row ab 44 (ansR 0 (qS x (k+1)).vals)::(upB b1 b2 b3++G)) z→stars (row ab 44 (ansR 0 (qS x (k+1)).vals)::accH none 0 []::cluH cb n (k+1) x {w with cl:=w.cl.set k (true,List.replicate 11 false)}::(upB b1 b2 b3++G)) z from jF) z h4
def cluJ(j m:Nat)(i:CLI)(now:Nat):List Value:=[.slice i.sp m i.sc,if 0<j then pv (i.ca 0)else pn0,if 1<j then pv (i.ca 1)else pn0,if 2<j then pv (i.ca 2)else pn0,if 3<j then pv (i.ca 3)else pn0,if 4<j then pv (i.ca 4)else pn0,if 5<j then pv (i.ca 5)else pn0,if 6<j then pv (i.ca 6)else pn0,if 7<j then pv (i.ca 7)else pn0,pv i.nb,.int .u64 (now:Nat)]
theorem cluJ_set(hj:j<8)(m:Nat)(nb a now sc:Nat)(sp:Option Addr)(sb ca:Nat→Nat):SetV (cluJ j m ⟨sp,sc,nb,sb,ca⟩ now) (1+j) (.pointer (some ⟨a,0,none⟩)) (cluJ (j+1) m ⟨sp,sc,nb,sb,updF ca j a⟩ now):=by
 match j,hj with
 |0,_=>exact jG
 |1,_=>exact jG
 |2,_=>exact jG
 |3,_=>exact jG
 |4,_=>exact jG
 |5,_=>exact jG
 |6,_=>exact jG
 |7,_=>exact jG
def cliN(n:Nat)(ca:Nat→Nat)(j:Nat):HP:=row (ca j) 141 (cliC n ((j+1:Nat):Int) 0 false Req.zero (List.replicate 11 false))
theorem cliN_all:fam (cliN n ca) 8=fam (cliF n x ca 0 (qnew n).cl) 8:=fam_congr fun j hj=>by
 have e:cF (qnew n).cl j=(false,List.replicate 11 false):=qbH
 unfold cliN cliF
 rw[e,show tmF 0 j=0 from if_neg (Nat.not_lt_zero j)];rfl
theorem site_all{sb:Nat→Nat}:fam (fun o=>siteH (sb o) n o x (qrep n)) n=fam (siteF n x sb (qnew n).rs) n:=fam_congr fun o ho=>by
 unfold siteF rF
 rw[List.getD_eq_getElem?_getD]
 show _=siteH (sb o) n o x (((List.replicate n (qrep n))[o]?).getD _)
 rw[List.getElem?_replicate,if_pos ho];rfl
theorem qnew_inv(n:Nat):CInv n 0 (qnew n):=by
 refine⟨rfl,List.length_replicate,rfl,fun j hj=>?_,Nat.zero_le _⟩
 have e:cF (qnew n).cl j=(false,List.replicate 11 false):=qbH
 rw[e];exact⟨rfl,fun h=>by cases h⟩
theorem clnew_fn(htab:TabAt f)(x:UInt8)(h3:3≤n)(h11:n≤11)(hodd:n % 2=1):Fn prog 14 [.int .i64 (n:Nat)] f F
  (RetE (fun cb:Nat=>.tuple #[pv cb,.int .i64 0]) f (fun cb=>cluH cb n 0 x (qnew n)::F)):=by
 refine AB func14 ntmps14 fun base=>?_;apply (gG);refine AW rfl rfl rfl (netNew0_fn f _) fun nb=>?_;repeat((refine AT (out:=cluJ 0 0 ⟨none,0,nb,fun _=>0,fun _=>0⟩ 0) rfl rfl rfl jD rfl ?_))
 refine H.box (ls:=cluJ 0 0 ⟨none,0,nb,fun _=>0,fun _=>0⟩ 0) rfl rfl rfl rfl fun cb=>?_;apply (gK);refine H.conv (fam_zero (cliN n (fun _=>0)) _).symm ?_;apply (qjk);apply (qdL)
 refine AF (ι:=Nat×(Nat→Nat)) (fun s=>[(15,.int .i64 (s.1:Nat)),(4,pv cb),(0,.int .i64 (n:Nat))]) (fun _=>f)
  (fun s=>row cb 107 (cluJ s.1 0 ⟨none,0,nb,fun _=>0,s.2⟩ 0)::netQ nb []::fam (cliN n s.2) s.1::F)
  (fun s=>s.1≤8) (fun s=>8-s.1) (0,fun _=>0) (Nat.zero_le _) fun s hs=>?_
 obtain⟨j,ca⟩:=s;have hs:j≤8:=hs;show H _ _ _ [(15,.int .i64 (j:Nat)),(4,.pointer (some ⟨cb,0,none⟩)),_] f (row cb _ (cluJ j 0 ⟨none,0,nb,fun _=>0,ca⟩ 0)::_::fam (cliN n ca) j::F) _
 by_cases hlt:j<8
 ·have hcn:=fun G=>cliNew_fn f G (n:=n) (a:=((j+1:Nat):Int)) h3 h11 hodd jB jB;repeat(first|(refine C3 (hcn _) fun a=>?_)|(apply (gU)))
  refine CI (i:=j) rfl rfl rfl rfl hlt rfl ?_;apply (qdL);refine AZ (ls':=cluJ (j+1) 0 ⟨none,0,nb,fun _=>0,updF ca j a⟩ 0) rfl rfl rfl rfl aP0 (by rw[Nat.mul_one,Nat.zero_add];exact cluJ_set hlt 0 nb a 0 0 none (fun _=>0) ca) ?_;apply (gD);apply (qiX);apply A3 (row a _ _)
  have e1:fam (cliN n ca) j=fam (cliN n (updF ca j a)) j:=fam_congr fun k hk=>by
   unfold cliN;rw[zcf _ _ jB]
  have e2:row a 141 (cliC n ((j+1:Nat):Int) 0 false Req.zero (List.replicate 11 false))=cliN n (updF ca j a) j:=by unfold cliN;rw[zbg]
  rw[e1,e2];refine H.conv (fam_more (cliN n (updF ca j a)) j _) ?_;apply (qjk);apply (qdL);exact AI (j+1,updF ca j a) (show j+1≤8 from hlt) (show 8-(j+1)<8-j by omega)
 ·obtain rfl:j=8:=jB
  rw[cliN_all (x:=x)];apply (gE);refine H.conv (fam_zero (fun o=>siteH 0 n o x (qrep n)) _).symm ?_;refine AY 81 1 ?_;apply (qdL)
  refine AF (ι:=Nat×Option Addr×Nat×(Nat→Nat)) (fun s=>[(8,.int .i64 ((s.1+1:Nat):Int)),(4,pv cb),(0,.int .i64 (n:Nat))]) (fun _=>f)
   (fun s=>row cb 107 (cluC s.1 ⟨s.2.1,s.2.2.1,nb,s.2.2.2,ca⟩ 0)::slc s.2.1 s.1 s.2.2.1 81 1 (((List.range s.1).map s.2.2.2).flatMap ptrV)::fam (fun o=>siteH (s.2.2.2 o) n o x (qrep n)) s.1::netQ nb []::fam (cliF n x ca 0 (qnew n).cl) 8::F)
   (fun s=>s.1≤n) (fun s=>n-s.1) (0,none,0,fun _=>0) (Nat.zero_le _) fun s hs=>?_
  obtain⟨o,sp,sc,sb⟩:=s;have hs:o≤n:=hs;show H _ _ _ [(8,.int .i64 ((o+1:Nat):Int)),(4,.pointer (some ⟨cb,0,none⟩)),_] f (row cb _ (cluC o ⟨sp,sc,nb,sb,ca⟩ 0)::slc sp o sc _ 1 _::fam (fun o=>siteH (sb o) n o x (qrep n)) o::netQ nb []::fam _ 8::F) _
  by_cases hlo:o<n
  ·repeat(first|(refine AW rfl rfl rfl (dnew_fn f _) fun db=>?_)|(apply (gU)))
   have hfm:=fun G=>dformat_fn f G (db:=db);refine H.cl (hfm _) fun v f' A' hr=>?_
   obtain⟨m,hm0,hm20,hm40,rfl,hff,rfl⟩:=hr;rw[hff];clear hff hfm;have hdn:=fun G=>ddnew_fn f G htab (n:=n) (o:=o) (db:=db) (z:=0) (m:=m) x h3 h11 hodd hlo hm0 hm20 hm40 jB;unfold pv at hdn
   repeat(first|(refine C3 (hdn _) fun du=>?_)|(apply (gU)))
   unfold pv;refine H.box (ls:=[pv db,pv du]) rfl rfl rfl rfl fun a=>?_;refine AS (out:=ptrV a) rfl rfl rfl rfl jE jE jD rfl fun eb=>?_;refine AQ (sz:=1) (p:=sp) (n0:=o) (c:=sc) (xs:=((List.range o).map sb).flatMap ptrV) (m:=1) (news:=ptrV a) rfl rfl rfl rfl rfl (fun p' c'=>jA) (Src.slice (Rd.ofRow jA) rfl) (zaa rfl) rfl jB jB fun p2 c2=>?_;apply (gS);apply (qeZ);apply (qeV);apply A3 (row a _ _);refine H.imp zbx ?_;apply A3 (fam (fun o=>siteH _ _ _ _ _) _);apply A3 (siteH a _ _ _ _)
   have e1:fam (fun o=>siteH (sb o) n o x (qrep n)) o=fam (fun k=>siteH (updF sb o a k) n k x (qrep n)) o:=fam_congr fun k hk=>by
    show _=siteH (updF sb o a k) n k x (qrep n);rw[zcf _ _ jB]
   have e2:siteH a n o x (qrep n)=(fun k=>siteH (updF sb o a k) n k x (qrep n)) o:=by
    show _=siteH (updF sb o a o) n o x (qrep n);rw[zbg]
   rw[e1,e2];refine H.conv (fam_more (fun k=>siteH (updF sb o a k) n k x (qrep n)) o _) ?_;apply A3 (slc p2 _ _ _ _ _);apply (qdL);refine AX (o+1,p2,c2,updF sb o a) (show o+1≤n from hlo) (show n-(o+1)<n-o by omega) ⟨rfl,rfl,rfl,trivial⟩ rfl ?_;show _::slc p2 (o+1) c2 _ 1 _::_=row cb _ _::slc p2 (o+1) c2 _ 1 (((List.range (o+1)).map (updF sb o a)).flatMap ptrV)::_;rw[pbs_next];rfl
  ·obtain rfl:o=n:=jB
   rw[site_all];apply (gN);apply (qhB);apply A3 (slc _ _ _ 81 _ _);apply (qdL);refine H.imp (zbc (asked:=0) (w:=qnew o) ⟨sp,sc,nb,sb,ca⟩ (qnew_inv o)) ?_;exact qcp
end
def worC(n cb:Nat)(lp:Option Addr)(j lc:Nat)(ap:Option Addr)(na ac:Nat):List Value:=[.int .i64 (n:Nat),pv cb,.slice lp j lc,.bool false,.slice ap na ac]
def lonB(wb n cb:Nat)(x:UInt8)(j:Nat)(ap:Option Addr)(na ac:Nat)(s:Option Addr×Nat):List HP:=[row wb 68 (worC n cb s.1 j s.2 ap na ac),slc s.1 j s.2 34 40 ((qrow x j).flatMap Req.vals)]
def lonH(wb n cb:Nat)(x:UInt8)(j:Nat)(ap:Option Addr)(na ac:Nat):HP:=pack (fun _:Option Addr×Nat=>j≤8) (lonB wb n cb x j ap na ac)
variable {wb na ac:Nat} {ap:Option Addr} {F:List HP}
theorem zau(h:j≤8)(p:Option Addr)(c:Nat):∀z,stars (lonB wb n cb x j ap na ac (p,c)++F) z→stars (lonH wb n cb x j ap na ac::F) z:=zap (p,c) h
def worB(wb n asked:Nat)(x:UInt8)(w:QW)(s:Nat×Option Addr×Nat):List HP:=[lonH wb n s.1 x w.lon s.2.1 w.acc.length s.2.2,accH s.2.1 s.2.2 w.acc,cluH s.1 n asked x w]
def worH(wb n asked:Nat)(x:UInt8)(w:QW):HP:=pack (fun _:Nat×Option Addr×Nat=>w.acc.length≤120) (worB wb n asked x w)
theorem zba{asked:Nat}(h:w.acc.length≤120)(cb:Nat)(p:Option Addr)(c:Nat):∀z,stars (worB wb n asked x w (cb,p,c)++F) z→stars (worH wb n asked x w::F) z:=zap (cb,p,c) h
variable {c:Nat}
section
variable (f:Frag) (F:List HP)
theorem aclone_fn{p:Option Addr}(hls:ls.length=m*5)(h1:∀v∈ls,one v=true)(hm:m≤1000):Fn prog 22 [.slice p m c] f (slc p m c 80 5 ls::F)
   (fun v f' A'=>∃(p':Option Addr) (c':Nat),v= .slice p' m c'∧f'=f∧A'=slc p' m c' 80 5 ls::slc p m c 80 5 ls::F):=by
 cases p with
 | none =>
  by_cases h0:0<m
  ·refine AB func22 ntmps22 fun base=>?_;exact qcL
  ·obtain rfl:m=0:=jB
   obtain rfl:ls=[]:=List.eq_nil_of_length_eq_zero jB;refine AB func22 ntmps22 fun base=>?_;apply (gP);refine AY 80 5 ?_;exact qbJ
 | some a =>
  refine AB func22 ntmps22 fun base=>?_;refine (qic) fun eb=>?_;refine CB (k:=0) (sz:=5) rfl jE ?_;exact qaZ
theorem wnew_fn'(htab:TabAt f)(x:UInt8)(h3:3≤n)(h11:n≤11)(hodd:n % 2=1):Fn prog 5 [.int .i64 (n:Nat)] f F
  (RetE (fun wb:Nat=>.tuple #[pv wb,.int .i64 0]) f (fun wb=>worH wb n 0 x (qnew n)::F)):=by
 have hcl:=fun G=>clnew_fn f G htab (n:=n) x h3 h11 hodd;unfold pv at hcl
 refine AB func5 ntmps5 fun base=>?_;apply (gG);refine C3 (hcl _) fun cb=>?_;repeat(first|(refine AT (out:=worC n cb none 0 0 none 0 0) rfl rfl rfl jD rfl ?_)|(apply (gU)))
 refine H.box (ls:=worC n cb none 0 0 none 0 0) rfl rfl rfl rfl fun wb=>?_;apply (gK);refine AY 34 40 ?_;apply (qdW);refine H.imp (zau (j:=0) (x:=x) jB none 0) ?_;refine AY 80 5 ?_;apply (qfA);refine H.imp (zba (w:=qnew n) (by show 0≤120;omega) cb none 0) ?_;exact BN rfl rfl rfl iD ⟨wb,rfl,rfl,rfl⟩
theorem wclus_fn{asked:Nat}{x:UInt8}{w:QW}{lp:Option Addr}{lc:Nat}:Fn prog 6 [pv wb] f (row wb 68 (worC n cb lp j lc ap na ac)::F) (Ret (pv cb) f (row wb 68 (worC n cb lp j lc ap na ac)::F)):=by
 unfold pv;refine AB func6 ntmps6 fun base=>?_;apply (gT);exact qad
theorem wlong_fn{asked:Nat}:Fn prog 9 [pv wb] f (worH wb n asked x w::F)
  (fun v g B=>∃(p:Option Addr) (c:Nat),v= .slice p w.lon c∧g=f∧B=slc p w.lon c 34 40 ((qrow x w.lon).flatMap Req.vals)::worH wb n asked x w::F):=by
 refine (qfu) fun s hw=>?_;obtain⟨cb,ap,ac⟩:=s;refine (qgI) fun s hl=>?_;obtain⟨lp,lc⟩:=s;apply (qfD);unfold pv;refine AB func9 ntmps9 fun base=>?_;apply (gT);apply A3 (slc lp _ _ 34 _ _);refine AG rfl rfl rfl (rclone_fn f _ (by rw[zar req40,qrow_len]) (reqs_one _) jB) fun p c=>?_;apply (gK);apply (qhc);apply A3 (slc p w.lon c _ _ _);exact qbf
theorem wacc_fn{asked:Nat}:Fn prog 10 [pv wb] f (worH wb n asked x w::F)
  (fun v g B=>∃(p:Option Addr) (c:Nat),v= .slice p w.acc.length c∧g=f∧B=worH wb n asked x w::F):=by
 refine (qfu) fun s hw=>?_;obtain⟨cb,ap,ac⟩:=s;refine (qgI) fun s hl=>?_;obtain⟨lp,lc⟩:=s;apply (qfD);unfold pv;refine AB func10 ntmps10 fun base=>?_;apply (gT);apply A3 (slc ap _ _ 80 _ _);refine AG rfl rfl rfl (aclone_fn f _ (toldC_len _) (toldC_one _) jB) fun p c=>?_;apply (gK);refine B4 (x:=slc p w.acc.length c _ _ _) (.here _ _) ?_;apply (qhc);exact qbf
theorem wreps_fn:Fn prog 16 [pv wb] f F (RetE (fun pb:Nat=>.func (.func 35) #[] #[pv pb]) f (fun pb=>row pb 23 [pv wb]::F)):=by
 unfold pv;refine AB func16 ntmps16 fun base=>?_;apply (gA);refine H.box (ls:=[pv wb]) rfl rfl rfl rfl fun pb=>?_;apply (gR);exact AU ⟨pb,rfl,rfl,rfl⟩
end
variable {lp pb N:Nat}
section
variable (f:Frag) (F:List HP)
theorem wrep1_fn{asked:Nat}{jj:Nat→Nat}{X:Nat→HP}{E:HP}(h11:n≤11)(hN:N≤n)
  (hY:∀o,o<N→∀rb G,QInv n (rF w.rs o)→YieldFn prog lp [.int .i64 ((o+1:Nat):Int),pv rb] f (X o::lonH wb n cb x (jj o) ap na ac::repH rb n o x (rF w.rs o) []::G) (fun v g C=>v= .bool true∧g=f∧C=X (o+1)::lonH wb n cb x (jj (o+1)) ap na ac::repH rb n o x (rF w.rs o) []::G))
  (hE:N<n→∀rb G,QInv n (rF w.rs N)→YieldFn prog lp [.int .i64 ((N+1:Nat):Int),pv rb] f (X N::lonH wb n cb x (jj N) ap na ac::repH rb n N x (rF w.rs N) []::G) (fun v g C=>v= .bool false∧g=f∧C=E::lonH wb n cb x (jj N) ap na ac::repH rb n N x (rF w.rs N) []::G)) :
  Fn prog 35 ([]++[.func (.yield lp) #[] #[]]++[pv pb]) f (X 0::row pb 23 [pv wb]::lonH wb n cb x (jj 0) ap na ac::cluH cb n asked x w::F)
   (Ret (.tuple #[]) f ((if N<n then E else X N)::row pb 23 [pv wb]::lonH wb n cb x (jj N) ap na ac::cluH cb n asked x w::F)):=by
 unfold pv;refine A9 func35 ntmps35 fun base=>?_;apply (gK)
 refine AF (ι:=Nat) (fun o=>[(3,.int .i64 ((o+1:Nat):Int)),(0,.func (.yield lp) #[] #[]),(1,.pointer (some ⟨pb,0,none⟩))]) (fun _=>f)
  (fun o=>X o::row pb 23 [.pointer (some ⟨wb,0,none⟩)]::lonH wb n cb x (jj o) ap na ac::cluH cb n asked x w::F) (fun o=>o≤N) (fun o=>N-o) 0 (Nat.zero_le _) fun o ho=>?_
 have ho:o≤N:=ho;apply (qfA)
 refine AM fun s hj=>?_;obtain⟨lp2,lc⟩:=s;show H _ _ _ [(3,.int .i64 ((o+1:Nat):Int)),_,_] f (row wb _ [_,.pointer (some ⟨cb,0,none⟩),_,_,_]::slc lp2 (jj o) lc _ 40 _::X o::row pb _ _::cluH _ _ _ _ _::F) _;by_cases hlt:o<n
 ·apply (qfb);refine AM fun i hw=>?_;show H _ _ _ _ f (row cb _ (cluC n i w.now)::sitL n i::fam (siteF n x i.sb w.rs) n::fam (cliF n x i.ca asked w.cl) 8::netQ i.nb _::row wb _ _::_) _;apply (qgw);refine CA (i:=o) hlt ?_;rw[cF_site];refine AM fun⟨db,du⟩ _=>?_;refine (qiB) fun k hφ=>?_;have hI:=hφ.inv;have hrp:=fun G=>clrep_fn f G (cb:=cb) (now:=w.now) (db:=db) (du:=du) (x:=x) (r:=rF w.rs o) (i:=i) (k:=k) h11 hlt
  obtain⟨rb,ub,kb,bb,sv,csv,wk,z,nx,life,m⟩:=k;show H _ _ _ _ f (row du _ (durC n o rb ub bb)::repH rb n o x _ []::row ub _ _::row kb _ _::row bb _ _::diskH db z m::row (i.sb o) _ _::fam (updF (siteF n x i.sb w.rs) o emp) n::row cb _ _::sitL n i::fam (cliF n x i.ca asked w.cl) 8::netQ i.nb _::row wb _ _::_) _;unfold pv at hrp;apply (gT);apply (qfL);apply A5 (hrp _);show H _ _ _ _ f (row cb _ _::sitL n i::row (i.sb o) _ _::row du _ (durC n o rb ub bb)::repH rb n o x _ []::row ub _ _::row kb _ _::row bb _ _::diskH db z m::_) _;repeat(first|(refine DF ?_)|(apply (gU)))
  apply A3 (slc lp2 _ _ 34 _ _);apply (qdW);refine H.imp (zau hj lp2 lc) ?_;refine B1 jC ?_;apply (qfS);refine B1 jC ?_;apply (qfS);refine B1 jC ?_;apply (qfS);refine B1 jC ?_;apply (qfS);refine B1 jC ?_;apply (qfS);apply (qec);apply (qfA);apply A3 (X o);by_cases hln:o<N
  ·refine H.yield rfl rfl rfl rfl (hY o hln rb _ hI) fun v f' A' hR=>?_;obtain⟨rfl,hff,rfl⟩:=hR;rw[hff];clear hff;refine B1 jC ?_;apply (qgg);apply (qkA);refine B1 jC ?_;apply (gL);apply (qjL);apply (gT);apply (qfn);apply A3 (X (o+1));exact AI (o+1) (by show o+1≤N;omega) (by show N-(o+1)<N-o;omega)
  ·obtain rfl:o=N:=jB
   refine H.yield rfl rfl rfl rfl (hE hlt rb _ hI) fun v f' A' hR=>?_;obtain⟨rfl,hff,rfl⟩:=hR;rw[hff];clear hff;refine B1 jC ?_;apply (qi);refine B1 jC ?_;apply (gL);apply (qjL);apply (gR);apply (qfn);apply A3 E;rw[if_pos hlt];exact Cq rfl iD ⟨rfl,rfl,rfl⟩
 ·obtain rfl:o=N:=jB
  rw[if_neg hlt];apply (gT);apply A3 (slc lp2 _ _ 34 _ _);apply (qdW);refine H.imp (zau hj lp2 lc) ?_;apply (qe);apply A3 (X o);exact qan
end
variable {fn:Func} {t D off:Nat} {ty:TypeId} {dd:TypeDesc} {A'':List HP}
section
variable {P:Program} {base:World} {n:Nat} {L:Env} {f:Frag} {A:List HP}
theorem FT{b:Nat}[hu:Und P ty dd][hs:Siz P ty m](hr:fn.results= #[.cell t ty])(hv:look? L t=some (.pointer (some ⟨b,off,none⟩)))(ha:aggD dd=true)
  (hm:mk? L=some (.pointer (some ⟨D,0,none⟩))) (hD:Pull A (pts D (.deferred (some []))) A') (hrd:Rd f A' b off ls) (hlen:ls.length=m) (hA:∀w,Sat base w f A'→Sat base w f A'') (h:R (.agg ls.toArray) f A''):H P base n L f A (.out .ret (.fn (FnPostM P fn base R))):=
 E1 hm hD (fun a w hf s=>results_cell (b:=b) (off:=off) hr jX (loadVar_of ha hrd hlen s)) hA h
theorem FU{u:Nat}{ty2:TypeId}{dd2:TypeDesc}{b b2 off2:Nat}{x y:Value}[hu:Und P ty dd][hu2:Und P ty2 dd2](hr:fn.results= #[.cell t ty,.cell u ty2])(hv:look? L t=some (.pointer (some ⟨b,off,none⟩)))(hv2:look? L u=some (.pointer (some ⟨b2,off2,none⟩)))(ha:aggD dd=false)(ha2:aggD dd2=false)
  (hm:mk? L=some (.pointer (some ⟨D,0,none⟩))) (hD:Pull A (pts D (.deferred (some []))) A') (hrd:Rd1 f A' b off x) (hrd2:Rd1 f A' b2 off2 y) (hA:∀w,Sat base w f A'→Sat base w f A'') (h:R (.tuple #[x,y]) f A''):H P base n L f A (.out .ret (.fn (FnPostM P fn base R))):=
 E1 hm hD (fun a w hf s=>by
  have h3:=zaz (P:=P) hu ha (hrd base w s)
  have h4:=zaz (P:=P) hu2 ha2 (hrd2 base w s)
  unfold Instr.loadAt Instr.sureAddr at h3 h4
  exact results_cells (b:=b) (off:=off) (b2:=b2) (off2:=off2) hr jX (by simp[Array.getD_eq_getD_getElem?,hf.get u _ hv2]) jY (by simpa using h4)) hA h
end
def jjQ(rs:List QR)(lon o:Nat):Nat:=(rs.take o).foldl (fun m r=>max m r.cm) lon
theorem jjQ_zero(rs:List QR)(lon:Nat):jjQ rs lon 0=lon:=rfl
variable {rs:List QR} {lon:Nat}
theorem jjQ_next(h:o<rs.length):jjQ rs lon (o+1)=max (jjQ rs lon o) (rF rs o).cm:=by
 have e:rs[o]?=some (rF rs o):=by
  unfold rF;exact qcl
 unfold jjQ;rw[List.take_add_one,e,List.foldl_append];rfl
theorem jjQ_all(h:rs.length=o):jjQ rs lon o=rs.foldl (fun m r=>max m r.cm) lon:=by
 unfold jjQ;rw[←h,List.take_length]
theorem cluH_inv{asked:Nat}:∀h,cluH cb n asked x w h→CInv n asked w:=fun _ ⟨_,hi,_⟩=>hi
theorem cluH_upd{asked:Nat}(a:Nat)(b:List Nat):cluH cb n asked x {w with lon:=a,acc:=b}=cluH cb n asked x w:=by
 unfold cluH;congr 1;funext i;exact propext ⟨fun h=>⟨h.wn,h.rl,h.cl,h.ch,h.now⟩,fun h=>⟨h.wn,h.rl,h.cl,h.ch,h.now⟩⟩
def WoP(f:Frag)(F:List HP)(wb n asked:Nat)(x:UInt8)(w:QW)(e:Int):Value→Frag→List HP→Prop:=fun v g B=>∃(ls:List Value) (p:Option Addr) (k c:Nat),AnsOK ls e p k c∧v= .agg ls.toArray∧g=f∧B=worH wb n asked x w::F
section
variable (f:Frag) (F:List HP)
theorem reqsEqQ_fn{pa pb:Option Addr}{ca da db l:Nat}(hm:m≤1000)(hl:l≤1000)(h1:j≤m)(h2:j≤l):Fn prog 18 [.slice pa j da,.slice pb j db] f (slc pa m ca 34 40 ((qrow x m).flatMap Req.vals)::slc pb l cb 34 40 ((qrow x l).flatMap Req.vals)::F)
   (Ret (.bool true) f (slc pa m ca 34 40 ((qrow x m).flatMap Req.vals)::slc pb l cb 34 40 ((qrow x l).flatMap Req.vals)::F)):=by
 refine Fn.frozen fun g hg hd=>Fn.frozen fun g2 hg2 hd2=>?_;have e1:ListAt (un (un f g) g2) pa 40 Req.vals ((qrow x m).take j):=(((slc_listAt req40 (c:=ca) (T:=34) (by rw[qrow_len];exact hg)).mono (Le.right hd)).mono (Le.un _ g2)).takeQ j;have e2:ListAt (un (un f g) g2) pb 40 Req.vals ((qrow x l).take j):=((slc_listAt req40 (c:=cb) (T:=34) (by rw[qrow_len];exact hg2)).mono (Le.right hd2)).takeQ j
 rw[qrow_take x h1]at e1;rw[qrow_take x h2]at e2;have h3:=reqsEq_fn (un (un f g) g2) F (ca:=da) (cb:=db) e1 e2 (by rw[qrow_len];omega);rw[qrow_len]at h3
 exact h3
theorem wdo_fn{asked:Nat}{cl:Int}(h3:3≤n)(h11:n≤11)(hodd:n % 2=1)(hop:op.length=6)
  (hdo:∀cb G,Fn prog 15 [pv cb,.agg (stpL d cl who nn op).toArray] f (cluH cb n asked x w::G) (DoP f G cb n asked' x w' e acc))
  (hacc:acc.length≤8) (hal:w.acc.length≤120→w.acc.length+acc.length≤120) (hlon:w'.lon=w.lon) :
  Fn prog 7 [pv wb,.agg (stpL d cl who nn op).toArray] f (worH wb n asked x w::F) (WoP f F wb n asked' x ({w' with acc:=w.acc++acc}:QW).fin e):=by
 have hstl:=stpL_len (d:=d) (cl:=cl) (who:=who) (nn:=nn) hop;refine (qfu) fun s hw=>?_
 obtain⟨cb,ap,ac⟩:=s;refine (qgI) fun s hl=>?_;obtain⟨lp,lc⟩:=s;have hdo:=hdo cb;apply (qfD)
 unfold pv at hdo⊢;refine D0 func7 rfl ntmps7 rfl (L:=[(0,_),(1,_)]) ⟨rfl,rfl,trivial⟩ fun base=>?_;refine (qfI) fun t2=>?_;refine H.box (ls:=stpL d cl who nn op) rfl rfl rfl rfl fun tb=>?_;refine (qjB) fun ob=>?_;apply (gT)
 refine H.cut (ι:=List Value×Option Addr×Nat×Nat) (fun s=>[(5,pv s.2.2.2),(2,pv t2),(4,pv ob)]) (fun _=>f)
  (fun s=>row t2 23 [.pointer (some ⟨wb,0,none⟩)]::row wb 68 (worC n cb lp w.lon lc ap w.acc.length ac)::row s.2.2.2 44 s.1::row ob 44 (ansZ 0 none 0 0)::accH s.2.1 s.2.2.1 acc::cluH cb n asked' x w'::slc lp w.lon lc 34 40 ((qrow x w.lon).flatMap Req.vals)::slc ap w.acc.length ac 80 5 (toldC w.acc)::F) (fun s=>AnsOK s.1 e s.2.1 acc.length s.2.2.1) _ (fun s hls=>?_) ?_
 ·obtain⟨ls,p,c,eb⟩:=s;have hls:AnsOK ls e p acc.length c:=hls;have hal2:=hal hw
  show H _ _ _ [(5,.pointer (some ⟨eb,0,none⟩)),(2,.pointer (some ⟨t2,0,none⟩)),(4,.pointer (some ⟨ob,0,none⟩))] f (row t2 _ _::row wb _ (worC n cb lp w.lon lc ap w.acc.length ac)::row eb _ ls::row ob _ _::slc p acc.length c _ 5 (toldC acc)::cluH cb n asked' x w'::_) _;apply (gA);apply (qel);apply (qgh);refine ET [0,1,2,3,4,5,6,7,8,9] jD jJ jL (S:=[_,_,_]) rfl ?_;apply A6 [0,1,2,3,4,5,6] 4;apply (gF);refine B6 (v:=.slice p acc.length c) rfl rfl rfl (Rd1.of (i:=162) (off:=0) (Rd.ofRow jA) hls.a) rfl ?_;apply (qdG);apply A7 7;refine AQ (sz:=5) (p:=ap) (n0:=w.acc.length) (c:=ac) (xs:=toldC w.acc) (m:=acc.length) (news:=toldC acc) rfl rfl rfl rfl rfl (fun p' c'=>jA) (Src.slcS jA (toldC_len acc)) (toldC_one acc) rfl jB jB fun ap2 ac2=>?_;apply (gA);apply (qel);apply (qgh);apply (qdO);apply A6 [8,9] 1;apply (qdX);apply (qeJ);apply (qke);apply (qeI);apply (gO);have e1:toldC w.acc++toldC acc=toldC (w.acc++acc):=by unfold toldC;rw[List.flatMap_append]
  rw[e1,show w.acc.length+acc.length=(w.acc++acc).length by simp];refine AW rfl rfl rfl (wreps_fn f _) fun pb=>?_;apply (gK);apply (qfb);refine CY cluH_inv fun hw2=>?_;apply A4 (slc p _ c 80 _ _);apply A3 (slc lp _ _ 34 _ _);apply (qdW);refine H.imp (zau hl lp lc) ?_;apply (qe);apply A3 (row t2 _ _);show H _ _ _ ((30,.func (.func 35) #[] #[pv pb])::_) f (row t2 _ _::row pb _ _::lonH _ _ _ _ _ _ _ _::cluH _ _ _ _ _::_) _;refine H.sb [(30,.func (.func 35) #[] #[pv pb]),(2,.pointer (some ⟨t2,0,none⟩)),(4,.pointer (some ⟨ob,0,none⟩)),(5,.pointer (some ⟨eb,0,none⟩))] ?_;have hj0:=jjQ_zero w'.rs w.lon;have hjn:jjQ w'.rs w.lon n=({w' with acc:=w.acc++acc}:QW).fin.lon:=by rw[jjQ_all hw2.rl,←hlon];rfl
  rw[←hj0];have hnx:∀o,o<n→jjQ w'.rs w.lon (o+1)=max (jjQ w'.rs w.lon o) (rF w'.rs o).cm:=fun o ho=>jjQ_next (by rw[hw2.rl];exact ho);generalize hJJ:jjQ w'.rs w.lon=JJ at hjn hnx⊢
  refine Dz (f':=f) (fs:=[]) (cs:=[pv pb]) rfl rfl fun LJ hLJ=>⟨none,fun D=>pts D (.deferred (some []))::row t2 23 [.pointer (some ⟨wb,0,none⟩)]::row pb 23 [pv wb]::lonH wb n cb x (JJ n) ap2 (w.acc++acc).length ac2::cluH cb n asked' x w'::slc ap2 (w.acc++acc).length ac2 80 5 (toldC (w.acc++acc))::row eb 44 ls::row ob 44 (ansZ 0 none 0 0)::F,fun D lp=>?_,fun D=>?_⟩
  ·obtain⟨Kx,hKx⟩:∃Kx:HP,Kx=stars [LJ D lp none,pts D (.deferred (some [])),row t2 23 [.pointer (some ⟨wb,0,none⟩)]]:=⟨_,rfl⟩;refine Fn.wrap (A1:=Kx::row pb 23 [pv wb]::lonH wb n cb x (JJ 0) ap2 (w.acc++acc).length ac2::cluH cb n asked' x w'::slc ap2 (w.acc++acc).length ac2 80 5 (toldC (w.acc++acc))::row eb 44 ls::row ob 44 (ansZ 0 none 0 0)::F) (fun z hz=>by rw[hKx];exact zbe [_,_,_] _ z ((show∀z,stars (LJ D lp none::pts D (.deferred (some []))::row t2 23 [.pointer (some ⟨wb,0,none⟩)]::row pb 23 [pv wb]::lonH wb n cb x (JJ 0) ap2 (w.acc++acc).length ac2::cluH cb n asked' x w'::row eb 44 ls::row ob 44 (ansZ 0 none 0 0)::slc ap2 (w.acc++acc).length ac2 80 5 (toldC (w.acc++acc))::F) z→stars (LJ D lp none::pts D (.deferred (some []))::row t2 23 [.pointer (some ⟨wb,0,none⟩)]::row pb 23 [pv wb]::lonH wb n cb x (JJ 0) ap2 (w.acc++acc).length ac2::cluH cb n asked' x w'::slc ap2 (w.acc++acc).length ac2 80 5 (toldC (w.acc++acc))::row eb 44 ls::row ob 44 (ansZ 0 none 0 0)::F) z from jF) z hz)) (wrep1_fn f _ (lp:=lp) (pb:=pb) (wb:=wb) (cb:=cb) (asked:=asked') (x:=x) (w:=w') (ap:=ap2) (na:=(w.acc++acc).length) (ac:=ac2) (N:=n) (jj:=JJ) (X:=fun _=>Kx) (E:=Kx) h11 (Nat.le_refl n) (fun o ho rb G hI=>?_) (fun h=>absurd h (Nat.lt_irrefl n))) fun v g B hR=>?_
   ·refine YieldFn.wrap (R1:=fun u e B=>u= .bool true∧e=f∧B=LJ D lp none::pts D (.deferred (some []))::row t2 23 [.pointer (some ⟨wb,0,none⟩)]::lonH wb n cb x (JJ (o+1)) ap2 (w.acc++acc).length ac2::repH rb n o x (rF w'.rs o) []::G) (by rw[hKx];exact zbd [_,_,_] _) ?_ ?_
    ·clear hKx;rw[hnx o ho];subst hLJ;have hde:=fun G=>rdecH_fn f G (rb:=rb) (o:=o) (x:=x) (ws:=[]) h3 h11 hodd hI;have hc8:=hI.cm8
     generalize JJ o=J;generalize rF w'.rs o=r at hI hde hc8⊢;refine (qgt) fun base=>?_;unfold pv;apply (qdQ);apply (qfA);refine AM fun s hj=>?_;obtain⟨lp3,lc3⟩:=s;show H _ _ _ _ f (row wb _ (worC n cb lp3 J lc3 ap2 (w.acc++acc).length ac2)::slc lp3 J lc3 _ 40 _::loopH _ _ _ _ _ _ _ _::_) _;repeat(first|(first|(first|apply H.seqR|apply CP)|(apply BT;exact rfl;exact jC))|(apply (gU)))
     apply (qec);refine H.cl (hde _) fun v f' A' hr=>?_;obtain⟨dp,dc,rfl,hff,rfl⟩:=hr;rw[hff];clear hff;refine DJ (p:=dp) (n0:=r.cm) (c:=dc) (T:=34) (sz:=40) jA fun hcd=>?_;refine DJ (p:=lp3) (n0:=J) (c:=lc3) (T:=34) (sz:=40) jA fun hcl=>?_;repeat(first|(first|(first|apply H.seqR|apply C2)|(apply BT;exact rfl;exact jC))|(first|((first|apply B3|apply BE|apply B8|apply BG);(iterate 3 exact rfl))|(apply BH;(iterate 3 exact rfl);exact inferInstance;exact rfl)|(apply AL;(iterate 3 exact rfl);apply Rd1.ofRow;(repeat(first|exact .here _ _ _|apply At.there));(iterate 2 exact rfl))|(apply H.nil)))
     obtain⟨k,hk,hk1,hk2⟩:∃k:Nat,(if(J:Int)<(r.cm:Int)then(J:Int)else(r.cm:Int))=(k:Int)∧k≤r.cm∧k≤J:=by
      by_cases h:(J:Int)<(r.cm:Int)
      ·exact⟨J,if_pos h,by omega,Nat.le_refl _⟩
      ·exact⟨r.cm,if_neg h,Nat.le_refl _,by omega⟩
     refine H.min2 (z:=(k:Int)) rfl rfl rfl hk rfl ?_;repeat(first|(first|apply H.seqR|apply C2)|(first|((apply BE);(iterate 3 exact rfl))|(apply H.nil)))
     apply (qgh);refine Dc jD jJ jM rfl jC (S:=[_,_]) rfl ?_;apply A6 [0,1,2,3,4,5,6,7,8,9,10,11,12,13,14] 6;apply (gF);refine HQ.slice (lo:=none) (hi:=some (.tmp 50)) (mx:=none) (p:=dp) (len:=r.cm) (cap:=dc) (lv:=0) (hv:=k) (mv:=dc) rfl rfl rfl ⟨_,_,rfl,rfl⟩ rfl (fun h=>by cases h) (Nat.zero_le _) jB (Nat.le_refl _) rfl ?_;rw[slP0];apply (gF);refine HQ.slice (lo:=none) (hi:=some (.tmp 56)) (mx:=none) (p:=lp3) (len:=J) (cap:=lc3) (lv:=0) (hv:=k) (mv:=lc3) rfl rfl rfl ⟨_,_,rfl,rfl⟩ rfl (fun h=>by cases h) (Nat.zero_le _) jB (Nat.le_refl _) rfl ?_;rw[slP0];apply (qdG);apply A7 15;apply A3 (slc lp3 _ _ 34 _ _);apply A3 (slc dp _ _ 34 _ _);refine A8 rfl rfl rfl (reqsEqQ_fn f _ jB jB hk1 hk2) ?_;apply (gA);apply (qgh);apply (qdO);apply A6 [16,17,18,19] 1;apply (qgO);apply A7 20;apply (gC);apply (qgh);apply (qhG);by_cases hlt:J<r.cm
     ·rw[Nat.max_eq_right jB];repeat(first|(first|(first|apply H.seqR|apply C2)|(apply BT;exact rfl;exact jC)|(apply EY;exact rfl;(omega)))|(first|((first|apply B3|apply B8|apply BG);(iterate 3 exact rfl))|(apply BH;(iterate 3 exact rfl);exact inferInstance;exact rfl)|(apply AL;(iterate 3 exact rfl);apply Rd1.ofRow;(repeat(first|exact .here _ _ _|apply At.there));(iterate 2 exact rfl))|(apply H.nil)|((apply BU);(iterate 5 exact rfl))|(apply AZ;(iterate 4 exact rfl);(repeat(first|exact .here _ _ _|apply At.there));(repeat(first|exact .here _ _ _|apply SetV.there)))|(apply BJ)))
      apply A4 (slc lp3 _ _ 34 _ _);apply A3 (slc dp _ _ 34 _ _);apply (qdW);refine H.imp (zau (j:=r.cm) hc8 dp dc) ?_;exact qbO
     ·rw[Nat.max_eq_left jB];repeat(first|(first|(first|apply H.seqR|apply C2|apply D5)|(apply BT;exact rfl;exact jC)|(apply EA;exact rfl;(omega)))|(first|((first|apply B3|apply B8|apply BG);(iterate 3 exact rfl))|(apply BH;(iterate 3 exact rfl);exact inferInstance;exact rfl)|(apply AL;(iterate 3 exact rfl);apply Rd1.ofRow;(repeat(first|exact .here _ _ _|apply At.there));(iterate 2 exact rfl))|(apply H.nil)|((apply BU);(iterate 5 exact rfl))|(apply BJ)))
      apply A4 (slc dp _ _ 34 _ _);apply A3 (slc lp3 _ _ 34 _ _);apply (qdW);refine H.imp (zau hj lp3 lc3) ?_;exact qbO
    ·rintro u g B ⟨rfl,rfl,rfl⟩;exact⟨_,⟨rfl,rfl,rfl⟩,by rw[hKx];exact zbe [_,_,_] _⟩
   ·obtain⟨_,rfl,rfl⟩:=hR;rw[if_neg (Nat.lt_irrefl n)];exact⟨_,⟨rfl,rfl⟩,by rw[hKx];exact zbd [_,_,_] _⟩
  ·show H _ _ _ _ f (pts D _::row t2 _ _::_) (.out .normal _);apply (gK);refine AD (ls:=ls) rfl rfl rfl (Rd.ofRow jA) hls.len rfl ?_
   refine AC (ls:=ansZ 0 none 0 0) (vs:=ls) (ls':=ls) rfl rfl rfl hls.one hls.len (by
    unfold splice
    rw[List.take_zero,List.drop_eq_nil_of_le (by rw[hls.len];exact Nat.le_refl 163)];simp) kT jA ?_
   apply (gK);rw[hjn,←cluH_upd ({w' with acc:=w.acc++acc}:QW).fin.lon (w.acc++acc)];apply (qeZ);apply (qfP);apply A4 (row t2 _ _);apply (qfb);apply A3 (slc ap2 _ _ 80 _ _);apply (qfA);refine H.imp (zba (w:=({w' with acc:=w.acc++acc}:QW).fin) (by show(w.acc++acc).length≤120;rw[List.length_append];exact hal2) cb ap2 ac2) ?_;apply (qed);apply (qko);exact FT (ls:=ls) rfl rfl rfl rfl (.here _ _) (Rd.ofRow aP0) hls.len (fun _ s=>s.drop (.here _ _)) ⟨ls,p,_,c,hls,rfl,rfl,rfl⟩
 ·apply A3 (row tb 53 _);apply (qgh);refine Dy jD jJ jL (S:=[_,_,_]) rfl ?_;apply A6 [0,1,2,3,4] 3;apply (gF);refine AH (ls:=stpL d cl who nn op) rfl rfl rfl (Rd.ofRow jA) hstl rfl ?_;apply (qdG);refine B9 (i:=5) (j:=6) jD rfl rfl ?_ ?_
  ·apply (qfb);refine H.cl (hdo _) fun v f' A' hr=>?_;obtain⟨ls,p,c,hls,rfl,hff,rfl⟩:=hr;rw[hff];clear hff;apply (gA);apply A3 (row tb 53 _);apply (qgh);apply (qdO);apply A7 6;refine (qjB) fun eb=>?_;exact qas
  ·refine (qjB) fun eb=>?_;apply (gA);apply A3 (row tb 53 _);apply (qgh);apply (qdO);apply A7 5;apply (qfb);refine H.cl (hdo _) fun v f' A' hr=>?_;obtain⟨ls,p,c,hls,rfl,hff,rfl⟩:=hr;rw[hff];clear hff;exact qas
end
theorem fin_acc(w:QW):({w with acc:=w.acc++[]}:QW)=w:=by
 obtain⟨a,b,c,d,e,g,h⟩:=w;show QW.mk a b c d e g (h++[])=_;rw[List.append_nil]
variable {w1:QW}
theorem qdoDel_is(h:qdoDel w=some w1):∃p ps r r',w.net=p::ps∧w.rs[p.to-1]?=some r∧qhear w.n p r=some r'∧w1=(({w with net:=ps}:QW).put p.to r').fin:=by
 unfold qdoDel at h;split at h
 ·cases h
 ·rename_i p ps hnet
  split at h
  ·cases h
  ·rename_i r hr
   split at h
   ·cases h
   ·rename_i r' hh
    injection h with h;exact⟨p,ps,r,r',hnet,hr,hh,h.symm⟩
theorem qdoSay_is{i:Nat}(h:qdoSay i w=some (b,w1)):∃r r',w.rs[i-1]?=some r∧qsay w.n w.now i r=some (b,r')∧w1=(w.put i r').fin:=by
 unfold qdoSay at h;split at h
 ·cases h
 ·rename_i r hr
  split at h
  ·cases h
  ·rename_i b' r' hs
   injection h with h;injection h with hb h;subst hb;exact⟨r,r',hr,hs,h.symm⟩
theorem qdoTell_is{i:Nat}(h:qdoTell i w=some w1):∃r,w.rs[i-1]?=some r∧w.net.length≤100∧w.acc.length≤100∧w1=(({w with net:=w.net++qout w.n i r,cl:=(qhearCs w.n i r.td (w.cl,w.acc)).1,acc:=(qhearCs w.n i r.td (w.cl,w.acc)).2}:QW).put i {r with td:=[]}).fin:=by
 unfold qdoTell at h;split at h
 ·cases h
 ·rename_i r hr
  cases hb:(Nat.ble w.net.length 100&&Nat.ble w.acc.length 100)with
  |false=>rw[hb]at h;cases h
  | true =>
   rw[hb]at h;injection h with h;rw[Bool.and_eq_true]at hb;exact⟨r,hr,Nat.le_of_ble_eq_true hb.1,Nat.le_of_ble_eq_true hb.2,h.symm⟩
theorem qhearCs_len{n i:Nat}:∀(cs:List Nat) (s:List (Bool×List Bool)×List Nat),(qhearCs n i cs s).2.length≤s.2.length+cs.length
 | [],s=>Nat.le_refl _
 | c :: cs, s => by
  have h:=qhearCs_len (n:=n) (i:=i) cs ((qhearC n i c s.1).1,bif (qhearC n i c s.1).2 then s.2++[c]else s.2)
  have e:(bif (qhearC n i c s.1).2 then s.2++[c]else s.2).length≤s.2.length+1:=by
   cases(qhearC n i c s.1).2<;>simp
  show(qhearCs n i cs ((qhearC n i c s.1).1,bif (qhearC n i c s.1).2 then s.2++[c]else s.2)).2.length≤s.2.length+(cs.length+1)
  have h:(qhearCs n i cs ((qhearC n i c s.1).1,bif (qhearC n i c s.1).2 then s.2++[c]else s.2)).2.length≤(bif (qhearC n i c s.1).2 then s.2++[c]else s.2).length+cs.length:=h
  omega
theorem put_same(h:w.rs[o]?=some r):w.put (o+1) r=w:=by
 unfold QW.put;rw[Nat.add_sub_cancel]
 have e:w.rs.set o r=w.rs:=by
  apply List.ext_getElem?;intro j;rw[List.getElem?_set];split
  ·rename_i e
   subst e;rw[h];split
   ·rfl
   ·rename_i hl
    rw[List.getElem?_eq_none jB]at h;cases h
  ·rfl
 rw[e]
theorem qdoSend_is{k:Nat}(hwn:w.n=n)(hk:k<w.cl.length)(hc:cF w.cl k=(true,h))(hq:qdoSend (o+1) (k+1) w=some w1):∃r,w.rs[o]?=some r∧(¬(k+1≤r.row∨r.pd.elem (k+1)=true)→r.pd.length<20)∧(w.acc.length≤120→w.acc.length+(if(hearS n o k r h).2.2=true then [k+1]else []).length≤120)∧
  w1=({(({w with cl:=w.cl.set k ((hearS n o k r h).1,(hearS n o k r h).2.1)}:QW).put (o+1) (askQ r (k+1)))with acc:=w.acc++(if(hearS n o k r h).2.2=true then [k+1]else [])}:QW).fin:=by
 unfold qdoSend at hq;rw[Nat.add_sub_cancel]at hq;split at hq
 ·cases hq
 ·rename_i r hr
  have hcs:=cF_same hk;rw[hc]at hcs
  refine⟨r,hr,?_⟩;unfold hearS askQ
  cases hb:Nat.ble (k+1) r.row with
  | true =>
   have hle:=Nat.le_of_ble_eq_true hb;rw[hb,cond_true]at hq
   rw[if_pos hle,if_pos (Or.inl hle)]
   cases hb2:Nat.ble w.acc.length 100 with
   |false=>rw[hb2]at hq;cases hq
   | true =>
    have hal:=Nat.le_of_ble_eq_true hb2;rw[hb2,cond_true]at hq
    injection hq with hq;have hP:=qhearC_P (n:=n) (o:=o) hk;rw[hc]at hP
    have e:qhearCs w.n (o+1) [k+1] (w.cl,w.acc)=(w.cl.set k ((hearP n o true h).1,(hearP n o true h).2.1),w.acc++(if(hearP n o true h).2.2=true then [k+1]else [])):=by
     rw[hwn];show((qhearC n (o+1) (k+1) w.cl).1,bif (qhearC n (o+1) (k+1) w.cl).2 then w.acc++[k+1]else w.acc)=_;rw[hP]
     cases(hearP n o true h).2.2 with
     |true=>rfl
     |false=>rw[cond_false,if_neg jE,List.append_nil]
    refine⟨fun hn=>absurd (Or.inl hle) hn,fun _=>?_,?_⟩
    ·split
     ·show _+1≤120;omega
     ·show _+0≤120;omega
    ·rw[←hq,e];rw[show(({w with cl:=w.cl.set k ((hearP n o true h).1,(hearP n o true h).2.1)}:QW).put (o+1) r)= {w with cl:=w.cl.set k ((hearP n o true h).1,(hearP n o true h).2.1)}from put_same (w:={w with cl:=w.cl.set k ((hearP n o true h).1,(hearP n o true h).2.1)}) hr]
  | false =>
   have hle:¬k+1≤r.row:=fun h=>by rw[Nat.ble_eq_true_of_le h]at hb;cases hb
   rw[hb,cond_false]at hq;rw[if_neg hle];have e0:({w with cl:=w.cl.set k (true,h)}:QW)=w:=by rw[hcs]
   show _∧_∧w1=({((({w with cl:=w.cl.set k (true,h)}:QW).put (o+1) _))with acc:=w.acc++[]}:QW).fin;rw[e0]
   cases he:r.pd.elem (k+1)with
   | true =>
    rw[he,cond_true]at hq;injection hq with hq;rw[if_pos (Or.inr rfl),put_same hr,fin_acc];exact⟨fun hn=>absurd (Or.inr rfl) hn,fun h=>h,hq.symm⟩
   | false =>
    rw[he,cond_false]at hq;rw[if_neg (show¬(k+1≤r.row∨false=true)from fun h=>h.elim hle (fun h=>by cases h))]
    cases hb2:Nat.blt r.pd.length 20 with
    |false=>rw[hb2]at hq;cases hq
    | true =>
     rw[hb2,cond_true]at hq;injection hq with hq;rw[Nat.blt_eq]at hb2;rw[show({(w.put (o+1) {r with pd:=r.pd++[k+1]})with acc:=w.acc++[]}:QW)=w.put (o+1) {r with pd:=r.pd++[k+1]}from fin_acc (w.put (o+1) {r with pd:=r.pd++[k+1]})];exact⟨fun _=>hb2,fun h=>h,hq.symm⟩
section
variable (f:Frag) (F:List HP)
theorem wHeal_fn{asked:Nat}(h3:3≤n)(h11:n≤11)(hodd:n % 2=1):Fn prog 7 [pv wb,.agg (stpL 9 0 0 0 opZ).toArray] f (worH wb n asked x w::F) (WoP f F wb n asked x w.fin 0):=by
 have h:=wdo_fn f F (wb:=wb) (asked:=asked) (x:=x) (w:=w) h3 h11 hodd rfl (fun cb G=>doHeal_fn f G h11) (Nat.zero_le _) (fun h=>h) rfl;rw[fin_acc]at h
 exact h
theorem wTime_fn{asked:Nat}(h3:3≤n)(h11:n≤11)(hodd:n % 2=1)(hnow:w.now≤100000):Fn prog 7 [pv wb,.agg (stpL 10 0 0 8 opZ).toArray] f (worH wb n asked x w::F) (WoP f F wb n asked x ({w with now:=w.now+8}:QW).fin 0):=by
 have h:=wdo_fn f F (wb:=wb) (asked:=asked) (x:=x) (w:=w) (w':={w with now:=w.now+8}) h3 h11 hodd rfl (fun cb G=>doTime_fn f G h11 hnow) (Nat.zero_le _) (fun h=>h) rfl;rw[show({({w with now:=w.now+8}:QW)with acc:=w.acc++[]}:QW)= {w with now:=w.now+8}from fin_acc {w with now:=w.now+8}]at h
 exact h
theorem wFuse_fn{asked:Nat}(h3:3≤n)(h11:n≤11)(hodd:n % 2=1)(ho:o<n):Fn prog 7 [pv wb,.agg (stpL 11 0 ((o+1:Nat):Int) (-1) opZ).toArray] f (worH wb n asked x w::F) (WoP f F wb n asked x w.fin 0):=by
 have h:=wdo_fn f F (wb:=wb) (asked:=asked) (x:=x) (w:=w) h3 h11 hodd rfl (fun cb G=>doFuse_fn f G h11 ho) (Nat.zero_le _) (fun h=>h) rfl;rw[fin_acc]at h
 exact h
theorem wAsk_fn(htab:TabAt f){k:Nat}(h3:3≤n)(h11:n≤11)(hodd:n % 2=1)(hk:k<8)(hc:cF w.cl k=(false,List.replicate 11 false)):Fn prog 7 [pv wb,.agg (stpL 1 ((k+1:Nat):Int) 0 0 (opL x (yv (k+1)))).toArray] f (worH wb n k x w::F) (WoP f F wb n (k+1) x ({w with cl:=w.cl.set k (true,List.replicate 11 false)}:QW).fin 0):=by
 have h:=wdo_fn f F (wb:=wb) (asked:=k) (x:=x) (w:=w) (w':={w with cl:=w.cl.set k (true,List.replicate 11 false)}) h3 h11 hodd rfl (fun cb G=>doAsk_fn f G htab h11 hk hc) (Nat.zero_le _) (fun h=>h) rfl;rw[show({({w with cl:=w.cl.set k (true,List.replicate 11 false)}:QW)with acc:=w.acc++[]}:QW)= {w with cl:=w.cl.set k (true,List.replicate 11 false)}from fin_acc {w with cl:=w.cl.set k (true,List.replicate 11 false)}]at h
 exact h
theorem wDel_fn(htab:TabAt f){asked:Nat}(h3:3≤n)(h11:n≤11)(hodd:n % 2=1)(hwn:w.n=n)(hq:qdoDel w=some w1)(hne:w.net≠[]):Fn prog 7 [pv wb,.agg (stpL 5 0 0 0 opZ).toArray] f (worH wb n asked x w::F) (WoP f F wb n asked x w1 0):=by
 obtain⟨p,ps,r,r',hnet,hr,hh,rfl⟩:=qdoDel_is hq;rw[hwn]at hh;have h:=wdo_fn f F (wb:=wb) (asked:=asked) (x:=x) (w:=w) (w':=({w with net:=ps}:QW).put p.to r') h3 h11 hodd rfl (fun cb G=>doDel_fn f G htab h3 h11 hnet hr hh) (Nat.zero_le _) (fun h=>h) rfl;rw[show({(({w with net:=ps}:QW).put p.to r')with acc:=w.acc++[]}:QW)=({w with net:=ps}:QW).put p.to r' from fin_acc (({w with net:=ps}:QW).put p.to r')]at h
 exact h
theorem wSay_fn(htab:TabAt f){asked:Nat}(h3:3≤n)(h11:n≤11)(hodd:n % 2=1)(hwn:w.n=n)(ho:o<n)(hq:qdoSay (o+1) w=some (b,w1)):Fn prog 7 [pv wb,.agg (stpL 3 0 ((o+1:Nat):Int) 0 opZ).toArray] f (worH wb n asked x w::F) (WoP f F wb n asked x w1 (sayE b)):=by
 obtain⟨r,r',hr,hs,rfl⟩:=qdoSay_is hq;rw[Nat.add_sub_cancel]at hr;rw[hwn]at hs;have h:=wdo_fn f F (wb:=wb) (asked:=asked) (x:=x) (w:=w) (w':=w.put (o+1) r') h3 h11 hodd rfl (fun cb G=>doSay_fn f G htab h3 h11 hodd ho hr hs) (Nat.zero_le _) (fun h=>h) rfl;rw[show({(w.put (o+1) r')with acc:=w.acc++[]}:QW)=w.put (o+1) r' from fin_acc (w.put (o+1) r')]at h
 exact h
theorem wTell_fn(htab:TabAt f){asked:Nat}(h3:3≤n)(h11:n≤11)(hodd:n % 2=1)(hwn:w.n=n)(ho:o<n)(hI:∀r,w.rs[o]?=some r→QInv n r)(hq:qdoTell (o+1) w=some w1):Fn prog 7 [pv wb,.agg (stpL 4 0 ((o+1:Nat):Int) 0 opZ).toArray] f (worH wb n asked x w::F) (WoP f F wb n asked x w1 0):=by
 obtain⟨r,hr,h1,h2,rfl⟩:=qdoTell_is hq;rw[Nat.add_sub_cancel]at hr;have hIr:=hI r hr;have hac:=qhearCs_acc (n:=w.n) (i:=o+1) r.td w.cl w.acc []
 rw[List.append_nil]at hac
 have hlen:(qhearCs n (o+1) r.td (w.cl,[])).2.length≤8:=by
  have h1:=qhearCs_len (n:=n) (i:=o+1) r.td (w.cl,[]);have h2:=hIr.td
  have h3:=hIr.row;have h4:([]:List Nat).length=0:=rfl
  have h5:((w.cl,([]:List Nat)):List (Bool×List Bool)×List Nat).2.length=0:=rfl;omega
 subst hwn;rw[hac];have h:=wdo_fn f F (wb:=wb) (asked:=asked) (x:=x) (w:=w) (w':=({w with net:=w.net++qout w.n (o+1) r,cl:=(qhearCs w.n (o+1) r.td (w.cl,[])).1}:QW).put (o+1) {r with td:=[]}) h3 h11 hodd rfl (fun cb G=>doTell_fn f G h11 ho hr h1 hIr) hlen (fun _=>by omega) rfl;exact h
theorem wSend_fn(htab:TabAt f){asked k:Nat}(h3:3≤n)(h11:n≤11)(hodd:n % 2=1)(hwn:w.n=n)(hcl:w.cl.length=8)(ho:o<n)(hk:k<8)(hc:cF w.cl k=(true,h))(hq:qdoSend (o+1) (k+1) w=some w1):Fn prog 7 [pv wb,.agg (stpL 2 ((k+1:Nat):Int) ((o+1:Nat):Int) 0 opZ).toArray] f (worH wb n asked x w::F) (WoP f F wb n asked x w1 0):=by
 obtain⟨r,hr,hpd,hal,hw⟩:=qdoSend_is (n:=n) (h:=h) hwn jB hc hq;have hr:w.rs[o]?=some r:=hr;have h:=wdo_fn f F (wb:=wb) (asked:=asked) (x:=x) (w:=w) (w':=({w with cl:=w.cl.set k ((hearS n o k r h).1,(hearS n o k r h).2.1)}:QW).put (o+1) (askQ r (k+1))) h3 h11 hodd rfl (fun cb G=>doSend_fn f G htab h3 h11 ho hk hr hc hpd) (by split<;>simp) hal rfl
 rw[hw];exact h
end
variable {v:Value}
theorem FV{base:World}{L:Env}{q:Post}{l rest:List Oper}{pos:String}{af:Array Edge}{gd:Option (Nat×Bool)}
  {st:TypeId} {x:Operand} {i:Nat} {fs:List Field} {nm tg pk:String} {ft:TypeId} {fo bo:Nat} {em:Bool} [hu:Und P st (.struct fs.toArray)] (hw:want? l L gd=true)
  (hx:ev? L x=some (.agg xs.toArray)) (hf:nthF fs i=some ⟨nm,ft,fo,em,tg,pk,bo⟩) (he:Und P ft de) (ha:aggD de=false) (hv:nthV xs fo=some v) (hd:Nat.ble (d+1) n=true)
  (k:H P base n ((d,v)::L) f A (.ops l rest q)):H P base n L f A (.ops l (⟨some d,.field st x i,ty,pos,af,gd⟩::rest) q):=
 AK hw hd (fun a w hfr _=>by
  rw[nthF_eq]at hf
  rw[nthV_eq]at hv
  have h3:=run_isAgg he w
  simp[execOp,Instr.field,hfr.eval hx,hu.run,hf,asAgg,part,h3,ha,hv]) k
theorem stars_get{x:HP}(hx:x∈A):∀z,stars A z→∃m,x m:=by
 induction A with
 |nil=>cases hx
 | cons a A ih =>
  rintro z ⟨m1,m2,_,_,h1,h2⟩;rcases List.mem_cons.1 hx with rfl|h
  ·exact⟨m1,h1⟩
  ·exact ih h m2 h2
variable {ι:Type}
theorem pack_get{φ:ι→Prop}{B:ι→List HP}:∀z,pack φ B z→∃i,φ i∧stars (B i) z:=fun _ h=>h
theorem fam_get{k:Nat}(ho:o<k):∀z,fam g k z→∃m,g o m:=fun z hz=>by
 have h:stars (rngH g k) z:=hz
 rw[fam_pull ho]at h
 obtain⟨m1,m2,_,_,h1,h2⟩:=h
 exact⟨m1,h1⟩
theorem worH_clu{asked:Nat}:∀z,worH wb n asked x w z→∃cb m,cluH cb n asked x w m:=fun z hz=>by
 obtain⟨s,_,h⟩:=pack_get z hz
 obtain⟨m,hm⟩:=stars_get (x:=cluH s.1 n asked x w) (List.mem_cons_of_mem _ (List.mem_cons_of_mem _ List.mem_cons_self)) z h
 exact⟨s.1,m,hm⟩
theorem worH_inv{asked:Nat}:∀z,worH wb n asked x w z→CInv n asked w:=fun z hz=>by
 obtain⟨cb,m,hm⟩:=worH_clu z hz
 exact cluH_inv m hm
theorem cluH_q{asked:Nat}:∀z,cluH cb n asked x w z→∀o,o<n→QInv n (rF w.rs o):=fun z hz o ho=>by
 obtain⟨i,_,h⟩:=pack_get z hz
 obtain⟨m,hm⟩:=stars_get (x:=fam (siteF n x i.sb w.rs) n) (List.mem_cons_of_mem _ (List.mem_cons_of_mem _ List.mem_cons_self)) z h
 obtain⟨m2,hm2⟩:=fam_get ho m hm
 obtain⟨j,_,h3⟩:=pack_get m2 hm2
 obtain⟨m3,hm3⟩:=stars_get (x:=durH j.2 j.1 n o x (rF w.rs o)) (List.mem_cons_of_mem _ List.mem_cons_self) m2 h3
 exact durH_inv m3 hm3
theorem worH_q{asked:Nat}:∀z,worH wb n asked x w z→∀o,o<n→QInv n (rF w.rs o):=fun z hz=>by
 obtain⟨cb,m,hm⟩:=worH_clu z hz
 exact cluH_q m hm
section
variable (f:Frag) (F:List HP)
theorem wstep_fn{asked:Nat}(hdo:∀G,Fn prog 7 [pv wb,.agg (stpL d 0 ((o+1:Nat):Int) 0 opZ).toArray] f (worH wb n asked x w::G) (WoP f G wb n asked x w1 e)):Fn prog 37 [pv wb,.int .u8 (d:Nat),.int .i64 ((o+1:Nat):Int)] f (worH wb n asked x w::F) (Ret (.int .i64 e) f (worH wb n asked x w1::F)):=by
 unfold pv at hdo⊢;refine AP func37 ntmps37 fun base=>?_;repeat(first|(refine AT (out:=stpL d 0 ((o+1:Nat):Int) 0 opZ) rfl rfl rfl jD rfl ?_)|(apply (gU)))
 refine H.cl (hdo _) fun v f' A' hr=>?_;obtain⟨ls,p,k,c,hls,rfl,hff,rfl⟩:=hr;rw[hff];clear hff;refine FV (v:=.int .i64 e) rfl rfl rfl inferInstance rfl (by rw[nthV_eq];exact hls.e) rfl ?_;apply (gK);exact qad
theorem clrepH_fn{asked:Nat}(h11:n≤11)(ho:o<n):Fn prog 11 [pv cb,.int .i64 ((o+1:Nat):Int)] f (cluH cb n asked x w::F) (RetE (fun rb:Nat=>.tuple #[pv rb,.bool true]) f (fun _=>cluH cb n asked x w::F)):=by
 refine (qfu) fun i hw=>?_;refine BI (A':=row cb 107 (cluC n i w.now)::sitL n i::siteF n x i.sb w.rs o::fam (updF (siteF n x i.sb w.rs) o emp) n::fam (cliF n x i.ca asked w.cl) 8::netQ i.nb (w.net.map (coreQ x))::F) (site_open ho) ?_;rw[cF_site];refine Fn.front (x:=siteH _ _ _ _ _) (.there _ (.there _ (.here _ _))) ?_;refine B2 fun⟨db,du⟩ _=>?_;refine Fn.front (x:=durH _ _ _ _ _ _) (.there _ (.here _ _)) ?_;refine (qfu) fun k hφ=>?_
 refine BI (A:=row du 128 (durC n o k.rb k.ub k.bb)::repH k.rb n o x (rF w.rs o) []::row k.ub 200 _::row k.cb 268 _::row k.bb 210 _::diskH db k.z k.m::row (i.sb o) 86 [pv db,pv du]::row cb 107 (cluC n i w.now)::sitL n i::fam (updF (siteF n x i.sb w.rs) o emp) n::fam (cliF n x i.ca asked w.cl) 8::netQ i.nb (w.net.map (coreQ x))::F)
  (A':=row cb 107 (cluC n i w.now)::sitL n i::row (i.sb o) 86 [pv db,pv du]::(durB du db n o x (rF w.rs o) k++(fam (updF (siteF n x i.sb w.rs) o emp) n::fam (cliF n x i.ca asked w.cl) 8::netQ i.nb (w.net.map (coreQ x))::F))) jF ?_
 refine Fn.monoA (clrep_fn f _ h11 ho) ?_;rintro v f' A' ⟨rfl,rfl,rfl⟩;refine⟨_,⟨k.rb,rfl,rfl,rfl⟩,fun z hz=>?_⟩;have h1:=(show∀z,stars (row cb 107 (cluC n i w.now)::sitL n i::row (i.sb o) 86 [pv db,pv du]::row du 128 (durC n o k.rb k.ub k.bb)::repH k.rb n o x (rF w.rs o) []::row k.ub 200 (usgC k.cb ((o+1:Nat):Int) (qnth (rF w.rs o).kn o) k.sv)::row k.cb 268 (cellC db 0 k.csv k.w)::row k.bb 210 (bookC db k.nx 8212 k.life (rF w.rs o).l.length)::diskH db k.z k.m::fam (updF (siteF n x i.sb w.rs) o emp) n::fam (cliF n x i.ca asked w.cl) 8::netQ i.nb (w.net.map (coreQ x))::F) z→stars (row du 128 (durC n o k.rb k.ub k.bb)::repH k.rb n o x (rF w.rs o) []::row k.ub 200 (usgC k.cb ((o+1:Nat):Int) (qnth (rF w.rs o).kn o) k.sv)::row k.cb 268 (cellC db 0 k.csv k.w)::row k.bb 210 (bookC db k.nx 8212 k.life (rF w.rs o).l.length)::diskH db k.z k.m::row (i.sb o) 86 [pv db,pv du]::fam (updF (siteF n x i.sb w.rs) o emp) n::row cb 107 (cluC n i w.now)::sitL n i::fam (cliF n x i.ca asked w.cl) 8::netQ i.nb (w.net.map (coreQ x))::F) z from jF) z hz;have h2:=zbt (F:=row (i.sb o) 86 [pv db,pv du]::fam (updF (siteF n x i.sb w.rs) o emp) n::row cb 107 (cluC n i w.now)::sitL n i::fam (cliF n x i.ca asked w.cl) 8::netQ i.nb (w.net.map (coreQ x))::F) k hφ z h1
 have h3:=(show∀z,stars (durH du db n o x (rF w.rs o)::row (i.sb o) 86 [pv db,pv du]::fam (updF (siteF n x i.sb w.rs) o emp) n::row cb 107 (cluC n i w.now)::sitL n i::fam (cliF n x i.ca asked w.cl) 8::netQ i.nb (w.net.map (coreQ x))::F) z→stars (row (i.sb o) 86 [pv db,pv du]::durH du db n o x (rF w.rs o)::fam (updF (siteF n x i.sb w.rs) o emp) n::row cb 107 (cluC n i w.now)::sitL n i::fam (cliF n x i.ca asked w.cl) 8::netQ i.nb (w.net.map (coreQ x))::F) z from jF) z h2;have h4:=zbx z h3
 rw[fam_putA _ ho,show updF (siteF n x i.sb w.rs) o (siteH (i.sb o) n o x (rF w.rs o))=siteF n x i.sb w.rs from updF_self _ _]at h4;have h5:=(show∀z,stars (fam (siteF n x i.sb w.rs) n::row cb 107 (cluC n i w.now)::sitL n i::fam (cliF n x i.ca asked w.cl) 8::netQ i.nb (w.net.map (coreQ x))::F) z→stars (row cb 107 (cluC n i w.now)::sitL n i::fam (siteF n x i.sb w.rs) n::fam (cliF n x i.ca asked w.cl) 8::netQ i.nb (w.net.map (coreQ x))::F) z from jF) z h4;exact zbc i hw z h5
theorem foldl_max(rs:List QR):∀a b:Nat,b≤a→rs.foldl (fun m r=>max m r.cm) b≤a→rs.foldl (fun m r=>max m r.cm) a=a:=by
 induction rs with
 |nil=>intro a b _ _;rfl
 | cons r rs ih =>
  intro a b h1 h2
  have hm:∀(l:List QR) (c:Nat),c≤l.foldl (fun m r=>max m r.cm) c:=by
   intro l
   induction l with
   |nil=>intro c;exact Nat.le_refl _
   |cons r l ih=>intro c;exact Nat.le_trans (Nat.le_max_left c r.cm) (ih (max c r.cm))
  have h3:=hm rs (max b r.cm);have h2:rs.foldl (fun m r=>max m r.cm) (max b r.cm)≤a:=h2
  show rs.foldl (fun m r=>max m r.cm) (max a r.cm)=a;have h4:max a r.cm=a:=jB
  rw[h4];exact ih a (max b r.cm) jB h2
theorem fin_fin(w:QW):w.fin.fin=w.fin:=by
 have h:=foldl_max w.rs (w.rs.foldl (fun m r=>max m r.cm) w.lon) w.lon (by
  have hm:∀(l:List QR) (c:Nat),c≤l.foldl (fun m r=>max m r.cm) c:=by
   intro l
   induction l with
   |nil=>intro c;exact Nat.le_refl _
   |cons r l ih=>intro c;exact Nat.le_trans (Nat.le_max_left c r.cm) (ih (max c r.cm))
  exact hm _ _) (Nat.le_refl _)
 unfold QW.fin;show({w with lon:=w.rs.foldl (fun m r=>max m r.cm) (w.rs.foldl (fun m r=>max m r.cm) w.lon)}:QW)=_;rw[h]
theorem qup1_drop(h:o<n):(qup1 n).drop o=(o+1)::(qup1 n).drop (o+1):=by
 have hl:o<((List.range n).map (· +1)).length:=by simpa using h
 show((List.range n).map (· +1)).drop o=(o+1)::((List.range n).map (· +1)).drop (o+1);rw[List.drop_eq_getElem_cons hl];congr 1;simp
theorem qup1_end(n:Nat):(qup1 n).drop n=[]:=List.drop_eq_nil_of_le (by unfold qup1;rw[List.length_map,List.length_range];exact Nat.le_refl n)
theorem qwakes_is{i:Nat}{r:List Nat}(h:qwakes (i::r) w=some w1):∃u,qdoSay i w=some (false,u)∧qwakes r u=some w1:=by
 unfold qwakes at h;split at h
 ·rename_i u hs;exact⟨u,hs,h⟩
 ·cases h
theorem wwake_fn(htab:TabAt f){asked:Nat}(h3:3≤n)(h11:n≤11)(hodd:n % 2=1)(hq:qwakes (qup1 n) w.fin=some w1):Fn prog 19 [pv wb] f (worH wb n asked x w::F) (Ret (.int .i64 0) f (worH wb n asked x w1::F)):=by
 have hhe:=fun G=>wHeal_fn f G (wb:=wb) (asked:=asked) (x:=x) (w:=w) h3 h11 hodd;unfold pv at hhe⊢
 refine AB func19 ntmps19 fun base=>?_;repeat(first|(refine AT (out:=stpL 9 0 0 0 opZ) rfl rfl rfl jD rfl ?_)|(apply (gU)))
 refine H.cl (hhe _) fun v f' A' hr=>?_;obtain⟨ls,p,k,c,hls,rfl,hff,rfl⟩:=hr;rw[hff];clear hff hls hhe;apply (gK);refine AF (ι:=Nat×QW) (fun s=>[(3,.int .i64 ((s.1+1:Nat):Int)),(0,.pointer (some ⟨wb,0,none⟩)),(2,.int .i64 0)]) (fun _=>f) (fun s=>worH wb n asked x s.2::F) (fun s=>s.1≤n∧s.2.fin=s.2∧qwakes ((qup1 n).drop s.1) s.2=some w1) (fun s=>n-s.1) (0,w.fin) ⟨Nat.zero_le _,fin_fin w,hq⟩ fun s hs=>?_;obtain⟨o,u⟩:=s;obtain⟨ho,hfi,hq⟩:o≤n∧u.fin=u∧qwakes ((qup1 n).drop o) u=some w1:=hs;show H _ _ _ [(3,.int .i64 ((o+1:Nat):Int)),_,_] f (worH wb n asked x u::F) _;refine CY worH_inv fun hw=>?_;have hwn:=hw.wn;by_cases hlt:o<n
 ·rw[qup1_drop hlt]at hq;obtain⟨u1,hs,hq⟩:=qwakes_is hq;obtain⟨_,_,_,_,hu1⟩:=qdoSay_is hs;have hfu:=fun G=>wFuse_fn f G (wb:=wb) (asked:=asked) (x:=x) (w:=u) h3 h11 hodd hlt;have hst:=fun G=>wstep_fn f G (fun G=>wSay_fn f G htab (wb:=wb) (asked:=asked) (x:=x) (w:=u) h3 h11 hodd hwn hlt hs)
  rw[hfi]at hfu;unfold pv at hfu hst;refine AM fun s hwa=>?_;obtain⟨cb,ap,ac⟩:=s;refine (qeK) fun s hl=>?_;obtain⟨lp,lc⟩:=s;apply (qes);repeat(first|(refine AT (out:=stpL 11 0 ((o+1:Nat):Int) (-1) opZ) rfl rfl rfl jD rfl ?_)|(apply (gU)))
  apply (qfk);refine H.cl (hfu _) fun v f' A' hr=>?_;obtain⟨ls,p,k,c,hls,rfl,hff,rfl⟩:=hr;rw[hff];clear hff hls hfu hwa hl;apply (gG);apply A5 (hst _);clear hst;have hrp:=fun cb G=>clrepH_fn f G (cb:=cb) (asked:=asked) (x:=x) (w:=u1) h11 hlt;unfold pv at hrp
  apply (gS);refine AM fun s hwa=>?_;obtain⟨cb,ap,ac⟩:=s;show H _ _ _ _ f (lonH wb n cb x u1.lon ap u1.acc.length ac::accH ap ac u1.acc::cluH cb n asked x u1::_) _;refine AM fun s hl=>?_;obtain⟨lp,lc⟩:=s;show H _ _ _ _ f (row wb _ (worC n cb lp u1.lon lc ap u1.acc.length ac)::slc lp u1.lon lc _ 40 _::accH ap ac u1.acc::cluH cb n asked x u1::_) _;apply (gO);apply (qfb);refine AW rfl rfl rfl (hrp cb _) fun rb=>?_;apply (gS);apply (qdD);refine H.imp (zba (w:=u1) hwa cb ap ac) ?_;exact AI (o+1,u1) ⟨hlt,by rw[hu1];exact fin_fin _,hq⟩ jw
 ·obtain rfl:n=o:=jB
  rw[qup1_end]at hq;obtain rfl:u=w1:=by injection hq
  refine AM fun s hwa=>?_;obtain⟨cb,ap,ac⟩:=s;refine (qeK) fun s hl=>?_;obtain⟨lp,lc⟩:=s;apply (qes);apply (gT);apply (qfk);exact qad
def qsL:List Nat:=[1,2,3,4,5,6,7,8]
theorem qsL_drop{k:Nat}(h:k<8):qsL.drop k=(k+1)::qsL.drop (k+1):=by
 match k,h with
 |0,_=>rfl
 |1,_=>rfl
 |2,_=>rfl
 |3,_=>rfl
 |4,_=>rfl
 |5,_=>rfl
 |6,_=>rfl
 |7,_=>rfl
theorem qturns_is{i:Nat}{r:List Nat}(h:qturns (i::r) w=some w1):∃u1 u2 u3 u4,qsends i qsL w=some u1∧qsays i 60 u1=some u2∧qdoTell i u2=some u3∧qdels 20 u3=some u4∧qturns r u4=some w1:=by
 unfold qturns at h;split at h
 ·cases h
 ·rename_i u4 h4
  unfold qturn at h4;split at h4
  ·cases h4
  ·rename_i u1 h1
   split at h4
   ·cases h4
   ·rename_i u2 h2
    split at h4
    ·cases h4
    ·rename_i u3 h3
     exact⟨u1,u2,u3,u4,h1,h2,h3,h4,h⟩
theorem qsends_is{i:Nat}{cs:List Nat}(h:qsends i (c::cs) w=some w1):((cF w.cl (c-1)).1=false∧qsends i cs w=some w1)∨((cF w.cl (c-1)).1=true∧∃u,qdoSend i c w=some u∧qsends i cs u=some w1):=by
 unfold qsends at h;have h:(bif (cF w.cl (c-1)).1 then(match qdoSend i c w with|none=>none|some w=>qsends i cs w)else qsends i cs w)=some w1:=h
 cases hb:(cF w.cl (c-1)).1 with
 |false=>rw[hb,cond_false]at h;exact .inl ⟨rfl,h⟩
 | true =>
  rw[hb,cond_true]at h;split at h
  ·cases h
  ·rename_i u hs;exact .inr ⟨rfl,u,hs,h⟩
theorem qsays_is{i k:Nat}(h:qsays i (k+1) w=some w1):(qdoSay i w=some (false,w1))∨∃u,qdoSay i w=some (true,u)∧qsays i k u=some w1:=by
 unfold qsays at h;split at h
 ·cases h
 ·rename_i u hs;exact .inr ⟨u,hs,h⟩
 ·rename_i u hs;injection h with h;subst h;exact .inl hs
theorem qdels_is{k:Nat}(h:qdels k w=some w1):(w.net=[]∧w1=w)∨(w.net≠[]∧∃j u,k=j+1∧qdoDel w=some u∧qdels j u=some w1):=by
 cases hn:w.net with
 | nil =>
  left
  cases k with
  | zero =>
   exact qck
  | succ k =>
   exact qck
 | cons p ps =>
  right;refine⟨by simp,?_⟩
  cases k with
  | zero =>
   unfold qdels at h;rw[hn]at h;cases h
  | succ k =>
   unfold qdels at h;rw[hn]at h;have h:(match qdoDel w with|none=>none|some w=>qdels k w)=some w1:=h;split at h
   ·cases h
   ·rename_i u hs;exact⟨k,u,rfl,hs,h⟩
theorem clpendH_fn{asked k:Nat}(hk:k<8):Fn prog 75 [pv cb,.int .i64 ((k+1:Nat):Int)] f (cluH cb n asked x w::F) (Ret (.tuple #[.agg (qP x (cF w.cl k).1 k).vals.toArray,.bool (cF w.cl k).1]) f (cluH cb n asked x w::F)):=by
 refine (qfu) fun i hw=>?_;refine BI (A:=row cb 107 (cluC n i w.now)::sitL n i::fam (siteF n x i.sb w.rs) n::fam (cliF n x i.ca asked w.cl) 8::netQ i.nb (w.net.map (coreQ x))::F) (A':=fam (cliF n x i.ca asked w.cl) 8::row cb 107 (cluC n i w.now)::sitL n i::fam (siteF n x i.sb w.rs) n::netQ i.nb (w.net.map (coreQ x))::F) jF ?_;refine BI (fam_open hk) ?_;refine BI (A:=cliF n x i.ca asked w.cl k::fam (updF (cliF n x i.ca asked w.cl) k emp) 8::row cb 107 (cluC n i w.now)::sitL n i::fam (siteF n x i.sb w.rs) n::netQ i.nb (w.net.map (coreQ x))::F) (A':=row cb 107 (cluC n i w.now)::cliF n x i.ca asked w.cl k::fam (updF (cliF n x i.ca asked w.cl) k emp) 8::sitL n i::fam (siteF n x i.sb w.rs) n::netQ i.nb (w.net.map (coreQ x))::F) jF ?_;refine CX (clpend_fn f _ hk) fun z hz=>?_;have h1:=(show∀z,stars (row cb 107 (cluC n i w.now)::cliF n x i.ca asked w.cl k::fam (updF (cliF n x i.ca asked w.cl) k emp) 8::sitL n i::fam (siteF n x i.sb w.rs) n::netQ i.nb (w.net.map (coreQ x))::F) z→stars (cliF n x i.ca asked w.cl k::fam (updF (cliF n x i.ca asked w.cl) k emp) 8::row cb 107 (cluC n i w.now)::sitL n i::fam (siteF n x i.sb w.rs) n::netQ i.nb (w.net.map (coreQ x))::F) z from jF) z hz;rw[fam_putA _ hk,updF_self]at h1
 have h2:=(show∀z,stars (fam (cliF n x i.ca asked w.cl) 8::row cb 107 (cluC n i w.now)::sitL n i::fam (siteF n x i.sb w.rs) n::netQ i.nb (w.net.map (coreQ x))::F) z→stars (row cb 107 (cluC n i w.now)::sitL n i::fam (siteF n x i.sb w.rs) n::fam (cliF n x i.ca asked w.cl) 8::netQ i.nb (w.net.map (coreQ x))::F) z from jF) z h1;exact zbc i hw z h2
theorem clunderH_fn{asked:Nat}:Fn prog 76 [pv cb] f (cluH cb n asked x w::F) (Ret (.int .i64 (w.net.length:Nat)) f (cluH cb n asked x w::F)):=by
 refine (qfu) fun i hw=>?_;have h:=clunder_fn f (sitL n i::fam (siteF n x i.sb w.rs) n::fam (cliF n x i.ca asked w.cl) 8::F) (cb:=cb) (n:=n) (now:=w.now) (cs:=w.net.map (coreQ x)) (i:=i);rw[List.length_map]at h
 refine BI (A:=row cb 107 (cluC n i w.now)::sitL n i::fam (siteF n x i.sb w.rs) n::fam (cliF n x i.ca asked w.cl) 8::netQ i.nb (w.net.map (coreQ x))::F) (A':=row cb 107 (cluC n i w.now)::netQ i.nb (w.net.map (coreQ x))::sitL n i::fam (siteF n x i.sb w.rs) n::fam (cliF n x i.ca asked w.cl) 8::F) jF ?_;refine CX h fun z hz=>?_;have h1:=(show∀z,stars (row cb 107 (cluC n i w.now)::netQ i.nb (w.net.map (coreQ x))::sitL n i::fam (siteF n x i.sb w.rs) n::fam (cliF n x i.ca asked w.cl) 8::F) z→stars (row cb 107 (cluC n i w.now)::sitL n i::fam (siteF n x i.sb w.rs) n::fam (cliF n x i.ca asked w.cl) 8::netQ i.nb (w.net.map (coreQ x))::F) z from jF) z hz;exact zbc i hw z h1
theorem wround_fn(htab:TabAt f){asked:Nat}(h3:3≤n)(h11:n≤11)(hodd:n % 2=1)(hwn:w.n=n)(hq:qround w=some w1):Fn prog 39 [pv wb] f (worH wb n asked x w::F) (Ret (.tuple #[]) f (worH wb n asked x w1::F)):=by
 obtain⟨hnow,hq⟩:w.now≤100000∧qturns (qup1 n) ({w with now:=w.now+8}:QW).fin=some w1:=by
  unfold qround at hq;subst hwn
  cases hb:Nat.ble w.now 100000 with
  |false=>rw[hb]at hq;cases hq
  |true=>rw[hb,cond_true]at hq;exact⟨Nat.le_of_ble_eq_true hb,hq⟩
 have hti:=fun G=>wTime_fn f G (wb:=wb) (asked:=asked) (x:=x) (w:=w) h3 h11 hodd hnow;generalize({w with now:=w.now+8}:QW).fin=w0 at hti hq
 unfold pv at hti⊢;refine AB func39 ntmps39 fun base=>?_;repeat(first|(refine AT (out:=stpL 10 0 0 8 opZ) rfl rfl rfl jD rfl ?_)|(apply (gU)))
 refine H.cl (hti _) fun v f' A' hr=>?_;obtain⟨ls,p,k,c,hls,rfl,hff,rfl⟩:=hr;rw[hff];clear hff hls hti;apply (gK);refine AF (ι:=Nat×QW) (fun s=>[(2,.int .i64 ((s.1+1:Nat):Int)),(0,.pointer (some ⟨wb,0,none⟩))]) (fun _=>f) (fun s=>worH wb n asked x s.2::F) (fun s=>s.1≤n∧qturns ((qup1 n).drop s.1) s.2=some w1) (fun s=>n-s.1) (0,w0) ⟨Nat.zero_le _,hq⟩ fun s hs=>?_;obtain⟨o,u⟩:=s;obtain⟨ho,hq⟩:o≤n∧qturns ((qup1 n).drop o) u=some w1:=hs;show H _ _ _ [(2,.int .i64 ((o+1:Nat):Int)),_] f (worH wb n asked x u::F) _;by_cases hlt:o<n
 ·rw[qup1_drop hlt]at hq;obtain⟨u1,u2,u3,u4,hq1,hq2,hq3,hq4,hq5⟩:=qturns_is hq;refine AM fun s hwa=>?_;obtain⟨cb,ap,ac⟩:=s;refine (qeK) fun s hl=>?_;obtain⟨lp,lc⟩:=s;apply (qes);apply (gT);apply (qfk);refine AF (ι:=Nat×QW) (fun s=>[(3,.int .i64 ((s.1+1:Nat):Int)),(2,.int .i64 ((o+1:Nat):Int)),(0,.pointer (some ⟨wb,0,none⟩))]) (fun _=>f) (fun s=>worH wb n asked x s.2::F) (fun s=>s.1≤8∧qsends (o+1) (qsL.drop s.1) s.2=some u1) (fun s=>8-s.1) (0,u) ⟨Nat.zero_le _,hq1⟩ fun s hs=>?_;clear hq1 hwa hl ap ac cb lp lc;obtain⟨k,u⟩:=s;obtain⟨hk,hq1⟩:k≤8∧qsends (o+1) (qsL.drop k) u=some u1:=hs;show H _ _ _ [(3,.int .i64 ((k+1:Nat):Int)),_,_] f (worH wb n asked x u::F) _;refine CY worH_inv fun hw=>?_;by_cases hk8:k<8
  ·have hpe:=fun cb G=>clpendH_fn f G (cb:=cb) (n:=n) (asked:=asked) (x:=x) (w:=u) hk8;have hqd:(qP x (cF u.cl k).1 k).vals.length=40:=req40 _
   rw[qsL_drop hk8]at hq1;have hq1:=qsends_is hq1;rw[Nat.add_sub_cancel]at hq1
   obtain⟨b,hb⟩:∃b,(cF u.cl k).1=b:=⟨_,rfl⟩;have hcf:cF u.cl k=(b,(cF u.cl k).2):=by rw[←hb]
   rw[hb]at hpe hqd hq1;unfold pv at hpe;refine AM fun s hwa=>?_;obtain⟨cb,ap,ac⟩:=s;refine (qeK) fun s hl=>?_;obtain⟨lp,lc⟩:=s;apply (qes);refine (qkz) fun qb=>?_;apply (qhx);apply (qfk)
   cases b with
   | false =>
    obtain⟨_,hq1⟩|⟨h,_⟩:=hq1
    ·apply (gT);exact AI (k+1,u) ⟨hk8,hq1⟩ jx
    ·cases h
   | true =>
    obtain⟨h,_⟩|⟨_,u',hsd,hq1⟩:=hq1
    ·cases h
    ·have hsn:=fun G=>wSend_fn f G htab (wb:=wb) (asked:=asked) (x:=x) (w:=u) h3 h11 hodd hw.wn hw.cl hlt hk8 hcf hsd;unfold pv at hsn
     repeat(first|(refine AT (out:=stpL 2 ((k+1:Nat):Int) ((o+1:Nat):Int) 0 opZ) rfl rfl rfl jD rfl ?_)|(apply (gU)))
     refine H.cl (hsn _) fun v f' A' hr=>?_;obtain⟨ls,p,k',c,hls,rfl,hff,rfl⟩:=hr;rw[hff];clear hff hls hsn;apply (gD);exact AI (k+1,u') ⟨hk8,hq1⟩ jx
  ·obtain rfl:k=8:=jB
   obtain rfl:u=u1:=by
    have h:some u=some u1:=hq1;injection h
   apply (gE);refine AF (ι:=Nat×QW) (fun s=>[(36,.int .i64 (s.1:Nat)),(2,.int .i64 ((o+1:Nat):Int)),(0,.pointer (some ⟨wb,0,none⟩))]) (fun _=>f) (fun s=>worH wb n asked x s.2::F) (fun s=>s.1≤60∧qsays (o+1) (60-s.1) s.2=some u2) (fun s=>60-s.1) (0,u) ⟨Nat.zero_le _,hq2⟩ fun s hs=>?_;clear hq2 hq1 hk8 hk hw;obtain⟨k,u⟩:=s;obtain⟨hk,hq2⟩:k≤60∧qsays (o+1) (60-k) u=some u2:=hs;show H _ _ _ [(36,.int .i64 (k:Nat)),_,_] f (worH wb n asked x u::F) _
   have hk60:k<60:=by
    rcases Nat.lt_or_ge k 60 with h|h
    ·exact h
    ·rw[show 60-k=0 by omega]at hq2;cases hq2
   refine CY worH_inv fun hw=>?_;rw[show 60-k=(60-(k+1))+1 by omega]at hq2;rcases qsays_is hq2 with hsy|⟨u',hsy,hq2'⟩
   ·have hst:=fun G=>wstep_fn f G (fun G=>wSay_fn f G htab (wb:=wb) (asked:=asked) (x:=x) (w:=u) h3 h11 hodd hw.wn hlt hsy);rw[show sayE false=4 from rfl]at hst
    unfold pv at hst;clear hq2;apply (gN);apply A5 (hst _);clear hst hsy;apply (gS);refine CY worH_inv fun hw2=>?_;refine CY worH_q fun hQ=>?_;have hst:=fun G=>wstep_fn f G (fun G=>wTell_fn f G htab (wb:=wb) (asked:=asked) (x:=x) (w:=u2) h3 h11 hodd hw2.wn hlt (fun r hr=>by rw[←rF_get hr];exact hQ o hlt) hq3);unfold pv at hst
    apply A5 (hst _);clear hst;apply (gK);refine AF (ι:=Nat×QW) (fun _=>[(2,.int .i64 ((o+1:Nat):Int)),(0,.pointer (some ⟨wb,0,none⟩))]) (fun _=>f) (fun s=>worH wb n asked x s.2::F) (fun s=>qdels s.1 s.2=some u4) (fun s=>s.1) (20,u3) hq4 fun s hs=>?_;clear hw hw2 hQ hq3 hq4 u;obtain⟨k,u⟩:=s;have hq4:qdels k u=some u4:=hs;show H _ _ _ _ f (worH wb n asked x u::F) _
    refine CY worH_inv fun hw=>?_;have hun:=fun cb G=>clunderH_fn f G (cb:=cb) (n:=n) (asked:=asked) (x:=x) (w:=u);unfold pv at hun
    refine AM fun s hwa=>?_;obtain⟨cb,ap,ac⟩:=s;refine (qeK) fun s hl=>?_;obtain⟨lp,lc⟩:=s;apply (qes);apply (gO);apply (qfb);refine A8 rfl rfl rfl (hun cb _) ?_;apply (qfk);rcases qdels_is hq4 with⟨hnil,rfl⟩|⟨hne,j,u',rfl,hd,hq4⟩
    ·rw[hnil];apply (gT);exact AI (o+1,u4) ⟨hlt,hq5⟩ jw
    ·have hpos:0<u.net.length:=List.length_pos_iff.2 hne;have hde:=fun G=>wDel_fn f G htab (wb:=wb) (asked:=asked) (x:=x) (w:=u) h3 h11 hodd hw.wn hd hne
     unfold pv at hde;repeat(first|(refine AT (out:=stpL 5 0 0 0 opZ) rfl rfl rfl jD rfl ?_)|(apply (gU)))
     refine H.cl (hde _) fun v f' A' hr=>?_;obtain⟨ls,p,k',c,hls,rfl,hff,rfl⟩:=hr;rw[hff];clear hff hls hde;apply (gK);exact AI (j,u') hq4 (Nat.lt_succ_self j)
   ·have hst:=fun G=>wstep_fn f G (fun G=>wSay_fn f G htab (wb:=wb) (asked:=asked) (x:=x) (w:=u) h3 h11 hodd hw.wn hlt hsy);rw[show sayE true=0 from rfl]at hst
    unfold pv at hst;apply (gN);apply A5 (hst _);apply (gT);exact AI (k+1,u') ⟨hk60,hq2'⟩ (by show 60-(k+1)<60-k;omega)
 ·obtain rfl:n=o:=jB
  rw[qup1_end]at hq;obtain rfl:u=w1:=by injection hq
  refine AM fun s hwa=>?_;obtain⟨cb,ap,ac⟩:=s;refine (qeK) fun s hl=>?_;obtain⟨lp,lc⟩:=s;apply (qes);apply (gT);apply (qfk);exact qan
end
theorem kn_eqC{a b:List Nat}(ha:a.length=n)(hb:b.length=n)(h11:n≤11):eqC (v11 (qnI a)) (v11 (qnI b))=(a == b):=by
 cases he:eqC (v11 (qnI a)) (v11 (qnI b))with
 | true =>
  have h:=eqC_eq he rfl
  have e:a=b:=by
   apply List.ext_getElem (by rw[ha,hb]);intro i h1 h2;have hi:i<11:=jB
   have g1:=zbq (qnI a) hi;rw[h,zbq (qnI b) hi]at g1
   have g2:(Value.int .u64 (qnI b i))= .int .u64 (qnI a i):=Option.some.inj g1;injection g2 with _ g3
   unfold qnI qnth at g3;rw[List.getD_eq_getElem?_getD,List.getD_eq_getElem?_getD,List.getElem?_eq_getElem h1,List.getElem?_eq_getElem h2]at g3;have g4:((b[i]:Nat):Int)=((a[i]:Nat):Int):=g3;omega
  subst e;exact(beq_self_eq_true a).symm
 | false =>
  cases h:(a == b)with
  |false=>rfl
  | true =>
   have e:=eq_of_beq h;subst e
   rw[eqC_refl rfl]at he;cases he
theorem first_not(P:Nat→Bool):∀n,∃N,N≤n∧(∀o,o<N→P o=true)∧(N<n→P N=false)
 |0=>⟨0,Nat.le_refl _,fun o h=>by omega,fun h=>by omega⟩
 | n + 1 => by
  obtain⟨N,h1,h2,h3⟩:=first_not P n
  by_cases h:N<n
  ·exact⟨N,by omega,h2,fun _=>h3 h⟩
  ·obtain rfl:N=n:=jB
   cases hp:P N with
   | true => exact ⟨N + 1, Nat.le_refl _, fun o ho => by
     by_cases e:o=N
     ·rw[e];exact hp
     ·exact h2 o jB,fun h=>by omega⟩
   |false=>exact⟨N,by omega,h2,fun _=>hp⟩
theorem rests_all(hl:w.rs.length=n)(h0:0<n)(hN:N≤n)(h1:∀o,o<N→((rF w.rs o).kn == (rF w.rs 0).kn)=true)(h2:N<n→((rF w.rs N).kn == (rF w.rs 0).kn)=false):(w.rs.all fun x=>x.kn == (w.rs.headD x).kn)=decide (N=n):=by
 have hd:∀x,w.rs.headD x=rF w.rs 0:=fun x=>by
  unfold rF
  cases hw:w.rs with
  |nil=>rw[hw]at hl;have:(0:Nat)=n:=hl;omega
  |cons r l=>rfl
 have e:∀o,o<n→w.rs[o]?=some (rF w.rs o):=fun o ho=>by
  unfold rF;exact qda
 by_cases hc:N=n
 ·rw[decide_eq_true hc,List.all_eq_true];intro y hy;obtain⟨o,ho,rfl⟩:=List.getElem_of_mem hy;have h3:=e o jB;rw[List.getElem?_eq_getElem ho]at h3
  rw[hd,Option.some.inj h3];exact h1 o jB
 ·rw[decide_eq_false hc];have hlt:N<n:=jB
  apply Bool.eq_false_iff.2;intro h;rw[List.all_eq_true]at h;have h3:=h (rF w.rs N) (List.mem_of_getElem? (e N hlt));rw[hd,h2 hlt]at h3
  cases h3
theorem cl_all(hl:w.cl.length=8){k:Nat}(hk:k<8)(hp:(cF w.cl k).1=true):(w.cl.all fun x=>!x.1)=false:=by
 apply Bool.eq_false_iff.2;intro h;rw[List.all_eq_true]at h
 have e:w.cl[k]?=some (cF w.cl k):=by
  unfold cF;exact qda
 have h2:=h _ (List.mem_of_getElem? e);rw[hp]at h2
 cases h2
theorem cl_none(hl:w.cl.length=8)(h:∀k,k<8→(cF w.cl k).1=false):(w.cl.all fun x=>!x.1)=true:=by
 rw[List.all_eq_true];intro y hy;obtain⟨k,hk,rfl⟩:=List.getElem_of_mem hy
 have e:cF w.cl k=w.cl[k]:=by
  unfold cF;rw[List.getD_eq_getElem?_getD,List.getElem?_eq_getElem hk];rfl
 rw[←e,h k jB];rfl
section
variable {P:Program} {base:World} {n:Nat} {L:Env} {f:Frag} {A:List HP}
theorem FW(hr:∀(a:Act) (w:World),Fr n a L→Sat base w f A→(results fn a.tmps).run P w= .ok v w)(hA:∀w,Sat base w f A→Sat base w f A')(h:R v f A')(hmk:mk? L=none:=by exact rfl):H P base n L f A (.out .ret (.fn (FnPostM P fn base R))):=.mk fun a w hf s=>by
 show bodyPostM Fence.wide 3 P fn (fun e w'=>∃v f' A',e= .returned v∧R v f' A'∧Sat base w' f' A') .ret a w
 exact bodyPostM_ret (hr a w hf s) (hf.bare hmk) ⟨_,f,A',rfl,h,hA w s⟩
theorem FX{b:Nat}{x:Value}[hu:Und P ty dd](hr:fn.results= #[.cell t ty])(hv:look? L t=some (.pointer (some ⟨b,off,none⟩)))(ha:aggD dd=false)
  (hrd:Rd1 f A b off x) (hA:∀w,Sat base w f A→Sat base w f A') (h:R x f A') (hmk:mk? L=none:=by exact rfl):H P base n L f A (.out .ret (.fn (FnPostM P fn base R))):=
 FW (fun a w hf s=>by
  have h3:=zaz (P:=P) hu ha (hrd base w s)
  unfold Instr.loadAt Instr.sureAddr at h3
  exact results_cell (b:=b) (off:=off) hr jX jY) hA h hmk
end
section
variable (f:Frag) (F:List HP)
theorem wrests_fn{asked:Nat}(h3:3≤n)(h11:n≤11):Fn prog 40 [pv wb] f (worH wb n asked x w::F) (Ret (.bool (qrests w)) f (worH wb n asked x w::F)):=by
 refine Fn.know worH_inv fun hw=>?_;refine Fn.know worH_q fun hQ=>?_;unfold pv;refine D0 func40 rfl ntmps40 rfl (L:=[(0,_)]) ⟨rfl,trivial⟩ fun base=>?_;apply (gA);refine AJ (ls:=[.bool false]) rfl rfl rfl fun eb=>?_;apply (gK);apply (qjp);refine AF (ι:=Nat) (fun k=>[(3,.int .i64 ((k+1:Nat):Int)),(0,.pointer (some ⟨wb,0,none⟩)),(2,.pointer (some ⟨eb,0,none⟩))]) (fun _=>f) (fun _=>worH wb n asked x w::row eb 4 [.bool false]::F) (fun k=>k≤8∧∀j,j<k→(cF w.cl j).1=false) (fun k=>8-k) 0 ⟨Nat.zero_le _,fun j h=>by omega⟩ fun k hs=>?_;obtain⟨hk,hcl⟩:k≤8∧∀j,j<k→(cF w.cl j).1=false:=hs;by_cases hk8:k<8
 ·have hpe:=fun cb G=>clpendH_fn f G (cb:=cb) (n:=n) (asked:=asked) (x:=x) (w:=w) hk8;obtain⟨b,hb⟩:∃b,(cF w.cl k).1=b:=⟨_,rfl⟩
  rw[hb]at hpe;unfold pv at hpe;refine AM fun s hwa=>?_;obtain⟨cb,ap,ac⟩:=s;apply (qkt);refine AM fun s hl=>?_;obtain⟨lp,lc⟩:=s;show H _ _ _ _ f (row wb _ (worC n cb lp w.lon lc ap w.acc.length ac)::slc lp w.lon lc _ 40 _::accH ap ac w.acc::cluH cb n asked x w::_) _;refine (qkz) fun qb=>?_;apply (qhx);apply (qdD);refine H.imp (zba (w:=w) hwa cb ap ac) ?_
  cases b with
  | false =>
   apply (gT)
   exact AX (k+1) ⟨hk8,fun j hj=>by
    by_cases e:j=k
    ·rw[e];exact hb
    ·exact hcl j jB⟩ jx ⟨rfl,rfl,rfl,trivial⟩ rfl rfl
  | true =>
   have e:qrests w=false:=by unfold qrests;rw[cl_all hw.cl hk8 hb];rfl
   rw[e];apply (gS);apply (qel);exact FX (b:=eb) (off:=0) rfl rfl rfl (Rd1.ofRow aP0 rfl) (fun _ s=>s.drop (.here _ _)) ⟨rfl,rfl,rfl⟩
 ·obtain rfl:k=8:=jB
  have e:qrests w=(w.rs.all fun x=>x.kn == (w.rs.headD x).kn):=by unfold qrests;rw[cl_none hw.cl hcl];rfl
  rw[e];obtain⟨N,hN,hN1,hN2⟩:=first_not (fun o=>(rF w.rs o).kn == (rF w.rs 0).kn) n;rw[rests_all hw.rl jB hN hN1 hN2]
  have hN0:0<N:=by
   rcases Nat.eq_zero_or_pos N with e|e
   ·subst e;have h:=hN2 jB;rw[beq_self_eq_true]at h;cases h
   ·exact e
  have hkl:∀o,o<n→(rF w.rs o).kn.length=n:=fun o ho=>(hQ o ho).kl;have hcm:∀o,o<n→eqC (v11 (qnI (rF w.rs o).kn)) (v11 (qnI (rF w.rs 0).kn))=((rF w.rs o).kn == (rF w.rs 0).kn):=fun o ho=>kn_eqC (hkl o ho) (hkl 0 jB) h11
  obtain⟨fb0,hf0,hf1⟩:∃fb0:Nat→List Value,fb0 0=v11 (fun _=>0)∧∀o,fb0 (o+1)=v11 (qnI (rF w.rs 0).kn):=⟨fun o=>match o with|0=>v11 (fun _=>0)|_+1=>v11 (qnI (rF w.rs 0).kn),rfl,fun _=>rfl⟩;apply (gE);refine (qfW) fun nb=>?_;apply (gC);refine DE (t:=36) (out:=v11 fun _=>0) rfl rfl rfl jD rfl ?_;refine (qjJ) fun fb=>?_;refine AC (ls:=v11 fun _=>0) (vs:=v11 fun _=>0) (ls':=v11 fun _=>0) rfl rfl rfl (zaa rfl) rfl rfl (Nat.le_refl 11) aP0 ?_;apply (gG);refine AW rfl rfl rfl (wreps_fn f _) fun pb=>?_;apply (gK);apply (qjp);refine AM fun s hwa=>?_;obtain⟨cb,ap,ac⟩:=s;apply (qkt);apply (qe);apply (qel);apply A3 (row fb _ _);apply (qdM);rw[show(v11 fun _=>0:List Value)=fb0 0 from hf0.symm];show H _ _ _ ((26,.func (.func 35) #[] #[pv pb])::_) f _ _;refine H.sb [(26,.func (.func 35) #[] #[pv pb]),(2,.pointer (some ⟨eb,0,none⟩)),(0,.pointer (some ⟨wb,0,none⟩)),(6,.pointer (some ⟨nb,0,none⟩)),(7,.pointer (some ⟨fb,0,none⟩))] ?_;refine Dz (f':=f) (fs:=[]) (cs:=[pv pb]) rfl rfl fun LJ hLJ=>⟨if N<n then some .ret else none,fun D=>pts D (.deferred (some []))::row nb 3 [.int .i64 (if N<n then((N+1:Nat):Int)else((N:Nat):Int))]::row fb 36 (if N<n then fb0 (N+1)else fb0 N)::row eb 4 [.bool false]::row pb 23 [pv wb]::lonH wb n cb x w.lon ap w.acc.length ac::cluH cb n asked x w::accH ap ac w.acc::F,fun D lp=>?_,fun D=>?_⟩
  ·obtain⟨Kx,hKx⟩:∃Kx:Nat→HP,Kx=fun o=>stars [LJ D lp none,pts D (.deferred (some [])),row nb 3 [.int .i64 ((o:Nat))],row fb 36 (fb0 o),row eb 4 [.bool false]]:=⟨_,rfl⟩;obtain⟨Ke,hKe⟩:∃Ke:HP,Ke=stars [LJ D lp (some .ret),pts D (.deferred (some [])),row nb 3 [.int .i64 (((N+1:Nat):Int))],row fb 36 (fb0 (N+1)),row eb 4 [.bool false]]:=⟨_,rfl⟩;refine Fn.wrap (A1:=Kx 0::row pb 23 [pv wb]::lonH wb n cb x w.lon ap w.acc.length ac::cluH cb n asked x w::accH ap ac w.acc::F) (fun z hz=>by rw[hKx];exact zbe [_,_,_,_,_] _ z ((show∀z,stars (LJ D lp none::pts D (.deferred (some []))::row nb 3 [.int .i64 (0)]::row fb 36 (fb0 0)::row eb 4 [.bool false]::row pb 23 [pv wb]::lonH wb n cb x w.lon ap w.acc.length ac::accH ap ac w.acc::cluH cb n asked x w::F) z→stars (LJ D lp none::pts D (.deferred (some []))::row nb 3 [.int .i64 (0)]::row fb 36 (fb0 0)::row eb 4 [.bool false]::row pb 23 [pv wb]::lonH wb n cb x w.lon ap w.acc.length ac::cluH cb n asked x w::accH ap ac w.acc::F) z from jF) z hz)) (wrep1_fn f _ (lp:=lp) (pb:=pb) (wb:=wb) (cb:=cb) (asked:=asked) (x:=x) (w:=w) (ap:=ap) (na:=w.acc.length) (ac:=ac) (N:=N) (jj:=fun _=>w.lon) (X:=Kx) (E:=Ke) h11 hN (fun o ho rb G hI=>?_) (fun hNn rb G hI=>?_)) fun v g B hR=>?_
   ·refine YieldFn.wrap (R1:=fun u e B=>u= .bool true∧e=f∧B=LJ D lp none::pts D (.deferred (some []))::row nb 3 [.int .i64 (((o+1:Nat):Int))]::row fb 36 (fb0 (o+1))::row eb 4 [.bool false]::lonH wb n cb x w.lon ap w.acc.length ac::repH rb n o x (rF w.rs o) []::G) (by rw[hKx];exact zbd [_,_,_,_,_] _) ?_ ?_
    ·clear hKx hKe;subst hLJ;have he:eqC (v11 (qnI (rF w.rs o).kn)) (v11 (qnI (rF w.rs 0).kn))=true:=by rw[hcm o jB];exact hN1 o ho
     rw[hf1];show YieldFn _ _ _ _ (loopH _ _ _ _ _ _ _ _::_) _;by_cases ho0:o=0
     ·have e:fb0 o=v11 (fun _=>0):=by rw[ho0];exact hf0
      rw[e];have hkn:=fun G=>rknown_fn f G (rb:=rb) (o:=o) (x:=x) (r:=rF w.rs o) (ws:=[]) hI;refine (qjo) fun base=>?_
      unfold pv;apply (qdQ);repeat(first|(first|(first|apply H.seqR|apply C2|apply CP)|(apply BT;exact rfl;exact jC)|(apply EY;exact rfl;(omega)))|(first|((apply B3);(iterate 3 exact rfl))|(apply AL;(iterate 3 exact rfl);apply Rd1.ofRow;(repeat(first|exact .here _ _ _|apply At.there));(iterate 2 exact rfl))|(apply H.nil)|((apply BU);(iterate 5 exact rfl))))
      apply (qec);apply A5 (hkn _);refine AC (ls:=v11 fun _=>0) (vs:=v11 (qnI (rF w.rs o).kn)) (ls':=v11 (qnI (rF w.rs 0).kn)) rfl rfl rfl (zaa rfl) rfl (by rw[ho0];rfl) (Nat.le_refl 11) jA ?_;repeat(first|(first|(first|apply H.seqR|apply C2)|(apply BT;exact rfl;exact jC))|(first|(apply AL;(iterate 3 exact rfl);apply Rd1.ofRow;(repeat(first|exact .here _ _ _|apply At.there));(iterate 2 exact rfl))|(apply H.nil)|((apply BC;(iterate 4 exact rfl));(with_reducible apply zay;omega);exact rfl)|(apply AZ;(iterate 4 exact rfl);(repeat(first|exact .here _ _ _|apply At.there)))))
      exact qai
     ·have e:fb0 o=v11 (qnI (rF w.rs 0).kn):=by
       obtain⟨k,rfl⟩:∃k,o=k+1:=⟨o-1,by omega⟩;exact hf1 k
      rw[e];have hkn:=fun G=>rknown_fn f G (rb:=rb) (o:=o) (x:=x) (r:=rF w.rs o) (ws:=[]) hI;refine (qjo) fun base=>?_
      unfold pv;apply (qen);exact qai
    ·rintro u g B ⟨rfl,rfl,rfl⟩;exact⟨_,⟨rfl,rfl,rfl⟩,by rw[hKx];exact zbe [_,_,_,_,_] _⟩
   ·refine YieldFn.wrap (R1:=fun u e B=>u= .bool false∧e=f∧B=LJ D lp (some .ret)::pts D (.deferred (some []))::row nb 3 [.int .i64 (((N+1:Nat):Int))]::row fb 36 (fb0 (N+1))::row eb 4 [.bool false]::lonH wb n cb x w.lon ap w.acc.length ac::repH rb n N x (rF w.rs N) []::G) (by rw[hKx];exact zbd [_,_,_,_,_] _) ?_ ?_
    ·clear hKx hKe;subst hLJ;have he:eqC (v11 (qnI (rF w.rs N).kn)) (v11 (qnI (rF w.rs 0).kn))=false:=by rw[hcm N hNn];exact hN2 hNn
     have e:fb0 N=v11 (qnI (rF w.rs 0).kn):=by
      obtain⟨k,hk⟩:∃k,N=k+1:=⟨N-1,by omega⟩;rw[hk];exact hf1 k
     rw[hf1,e];obtain⟨o,ho⟩:∃o,N=o:=⟨N,rfl⟩;clear e hN2 hcl;subst ho;obtain⟨o,ho⟩:∃o,o=N:=⟨N,rfl⟩;rw[←ho]at hI he hN0 hNn⊢;have ho0:¬o=0:=jB
     show YieldFn _ _ _ _ (loopH _ _ _ _ _ _ _ _::_) _;have hkn:=fun G=>rknown_fn f G (rb:=rb) (o:=o) (x:=x) (r:=rF w.rs o) (ws:=[]) hI;refine (qjo) fun base=>?_
     unfold pv;apply (qen);apply A3 (row fb _ _);refine Dc jD jJ jM rfl jC (S:=[_]) rfl ?_;apply A6 [0,2] 2;apply (gB);refine AH (ls:=v11 (qnI (rF w.rs 0).kn)) rfl rfl rfl (Rd.ofRow jA) rfl rfl ?_;apply (qhL);apply (qec);apply A5 (hkn _);apply (gA);apply A3 (row fb _ _);apply (qdO);apply A6 [3] 0;refine DL (xs:=v11 (qnI (rF w.rs o).kn)) (ys:=v11 (qnI (rF w.rs 0).kn)) (D:=4) (b:=true) rfl rfl rfl rfl jD jD jD jD jE (by rw[he];rfl) rfl ?_;apply (qdG);refine AN ?_;repeat(first|(first|(first|apply H.seqR|apply C2)|(apply BT;exact rfl;exact jC)|(apply DY;exact rfl))|(first|(apply H.nil)|(apply AZ;(iterate 4 exact rfl);(repeat(first|exact .here _ _ _|apply At.there)))))
     repeat(first|apply Ea|apply BZ)
     apply (qec);apply (qfA);apply (qel);apply A3 (row fb _ _);apply (qdM);apply (qko);apply A3 (loopH _ _ _ _ _ _ _ _);exact EZ ⟨rfl,rfl,rfl⟩
    ·rintro u g B ⟨rfl,rfl,rfl⟩;exact⟨_,⟨rfl,rfl,rfl⟩,by rw[hKe];exact zbe [_,_,_,_,_] _⟩
   ·obtain⟨_,rfl,rfl⟩:=hR;by_cases hc:N<n
    ·rw[if_pos hc,if_pos hc,if_pos hc,if_pos hc];exact⟨_,⟨rfl,rfl⟩,by rw[hKe];exact zbd [_,_,_,_,_] _⟩
    ·rw[if_neg hc,if_neg hc,if_neg hc,if_neg hc];exact⟨_,⟨rfl,rfl⟩,by rw[hKx];exact zbd [_,_,_,_,_] _⟩
  ·by_cases hc:N<n
   ·rw[if_pos hc,if_pos hc,if_pos hc,decide_eq_false jB];show H _ _ _ _ f _ (.code .ret _);apply (gK);apply (qiO);apply A4 (row fb _ _);apply (qfP);apply (qfb);apply A3 (accH _ _ _);apply (qfA);refine H.imp (zba (w:=w) hwa cb ap ac) ?_;apply (qel);apply (qko);exact qbT
   ·rw[if_neg hc,if_neg hc,if_neg hc,decide_eq_true jB];show H _ _ _ _ f _ (.out .normal _);obtain rfl:n=N:=jB
    apply (qfA);refine AM fun s hl=>?_;obtain⟨lp,lc⟩:=s;show H _ _ _ _ f (row wb _ (worC n cb lp w.lon lc ap w.acc.length ac)::slc lp w.lon lc _ 40 _::_) _;apply (gK);apply (qdW);apply (qdM);refine Dy jD jJ jL (S:=[_,_]) rfl ?_;apply A6 [0,1,2,3,4,5] 1;apply (qfq);apply A7 6;apply (gC);apply (qdW);apply (qdM);apply (qhG);apply (gK);apply (qiO);apply A4 (row fb _ _);apply (qfP);apply (qdD);refine H.imp (zba (w:=w) hwa cb ap ac) ?_;apply (qel);apply (qko);rw[show decide (((n:Nat):Int)=((n:Nat):Int))=true from decide_eq_true rfl];exact qbT
end
section
variable {P:Program} {base:World} {n:Nat} {L:Env} {f f':Frag} {A A':List HP} {q:Post}
theorem FY{g:Operand}{ps:List Tmp}{assign body:Code}{gf:FuncId}{fs cs:List Value}[hfun:Fun P gf](hg:ev? L g=some (.func (.func gf) fs.toArray cs.toArray))(hmk:mk? L=none)
  (hb : ∀ LJ : Nat → Nat → Option Code → HP, (LJ = fun D lp J => Go.Proofs.YtdpgpmbebbaoiaaGreatDoor.loopJ n L lp ps assign body D J) → ∃ (J : Option Code) (A' : ι → Nat → List HP),
   (∀D lp,Fn P gf (fs++[.func (.yield lp) #[] #[]]++cs) f (LJ D lp none::pts D (.deferred (some []))::A) (fun _ g B=>∃i,g=f'∧B=LJ D lp J::A' i D))∧
   ∀i D,H P base n ((1000003,.pointer (some ⟨D,0,none⟩))::L) f' (A' i D) (jumpK q J)) :
  H P base n L f A (.code (.rangeFunc g ps.toArray assign body) q):=by
 obtain⟨J,A',h1,h2⟩:=hb _ rfl;exact Eb (ι:=ι) (J:=fun _=>J) (A':=A') hg hmk (fun D lp=>h1 D lp) fun i D=>h2 i D
end
theorem qrounds_is{k:Nat}(h:qrounds (k+1) w=some w1):∃u,qround w=some u∧((qrests u=true∧u=w1)∨(qrests u=false∧qrounds k u=some w1)):=by
 unfold qrounds at h;split at h
 ·cases h
 ·rename_i u hs
  refine⟨u,hs,?_⟩
  cases hr:qrests u with
  |true=>rw[hr,cond_true]at h;injection h with h;exact .inl ⟨rfl,h⟩
  |false=>rw[hr,cond_false]at h;exact .inr ⟨rfl,h⟩
section
variable (f:Frag) (F:List HP)
theorem wrounds_fn:Fn prog 20 [pv wb,.int .i64 (m:Nat)] f F (RetE (fun b:Nat×Nat=>.func (.func 38) #[] #[pv b.2,pv b.1]) f (fun b=>row b.1 23 [pv wb]::row b.2 3 [.int .i64 (m:Nat)]::F)):=by
 unfold pv;refine A9 func20 ntmps20 fun base=>?_;apply (gA);refine H.box (ls:=[pv wb]) rfl rfl rfl rfl fun pb=>?_;refine H.box (ls:=[.int .i64 (m:Nat)]) rfl rfl rfl rfl fun mb=>?_;apply (gR);apply (qfo);apply (qe);exact AU ⟨(pb,mb),rfl,rfl,rfl⟩
theorem wrounds1_fn(htab:TabAt f){mb asked:Nat}{X:HP}{E:Nat→HP}(h3:3≤n)(h11:n≤11)(hodd:n % 2=1)(hm:m≤1000)(hq:qrounds m w=some w1)
  (hY:∀(j:Nat) G,YieldFn prog lp [.int .i64 (j:Nat),.bool false] f (X::G) (fun v g C=>v= .bool true∧g=f∧C=X::G))
  (hE:∀(j:Nat) G,YieldFn prog lp [.int .i64 (j:Nat),.bool true] f (X::G) (fun v g C=>v= .bool false∧g=f∧C=E j::G)) :
  Fn prog 38 ([]++[.func (.yield lp) #[] #[]]++[pv mb,pv pb]) f (X::row pb 23 [pv wb]::row mb 3 [.int .i64 (m:Nat)]::worH wb n asked x w::F)
   (fun v g B=>∃j:Nat,v= .tuple #[]∧g=f∧B=E j::row pb 23 [pv wb]::row mb 3 [.int .i64 (m:Nat)]::worH wb n asked x w1::F):=by
 unfold pv;refine AP func38 ntmps38 fun base=>?_;apply (gK)
 refine AF (ι:=Nat×QW) (fun s=>[(4,.int .i64 ((s.1+1:Nat):Int)),(0,.func (.yield lp) #[] #[]),(1,.pointer (some ⟨mb,0,none⟩)),(2,.pointer (some ⟨pb,0,none⟩))]) (fun _=>f)
  (fun s=>X::row pb 23 [.pointer (some ⟨wb,0,none⟩)]::row mb 3 [.int .i64 (m:Nat)]::worH wb n asked x s.2::F) (fun s=>s.1≤m∧qrounds (m-s.1) s.2=some w1) (fun s=>m-s.1) (0,w) ⟨Nat.zero_le _,hq⟩ fun s hs=>?_
 clear hq;obtain⟨j,u⟩:=s;obtain⟨hj,hq⟩:j≤m∧qrounds (m-j) u=some w1:=hs;show H _ _ _ [(4,.int .i64 ((j+1:Nat):Int)),_,_,_] f (X::row pb _ _::row mb _ _::worH wb n asked x u::F) _
 have hlt:j<m:=by
  rcases Nat.lt_or_ge j m with h|h
  ·exact h
  ·rw[show m-j=0 by omega]at hq;cases hq
 rw[show m-j=(m-(j+1))+1 by omega]at hq;obtain⟨u',hr,hq⟩:=qrounds_is hq;apply (qjp);refine CY worH_inv fun hw=>?_;have hro:=fun G=>wround_fn f G htab (wb:=wb) (asked:=asked) (x:=x) (w:=u) h3 h11 hodd hw.wn hr;have hre:=fun G=>wrests_fn f G (wb:=wb) (asked:=asked) (x:=x) (w:=u') h3 h11
 unfold pv at hro hre;apply (gT);apply A5 (hro _);apply (gO);apply A5 (hre _);repeat(first|(refine DF ?_)|(apply (gU)))
 refine B1 jC ?_;apply (qfS);refine B1 jC ?_;apply (qfS);refine B1 jC ?_;apply (qfS);apply (qfo);apply (qe);apply A3 X;rcases hq with⟨hb,rfl⟩|⟨hb,hq⟩
 ·rw[hb];refine H.yield rfl rfl rfl rfl (hE (j+1) _) fun v f' A' hR=>?_;obtain⟨rfl,hff,rfl⟩:=hR;rw[hff];clear hff;refine B1 jC ?_;apply (qi);refine B1 jC ?_;apply (qfS);refine B1 jC ?_;apply (gJ);refine D8 ?_;refine B1 jC ?_;apply (gL);apply (qjL);apply (gR);exact Cq rfl iD ⟨j+1,rfl,rfl,rfl⟩
 ·rw[hb];refine H.yield rfl rfl rfl rfl (hY (j+1) _) fun v f' A' hR=>?_;obtain⟨rfl,hff,rfl⟩:=hR;rw[hff];clear hff;refine B1 jC ?_;apply (qgg);apply (qkA);refine B1 jC ?_;apply (qfS);refine B1 jC ?_;apply (qfS);refine B1 jC ?_;apply (gO);apply (qjL);apply (gT);exact AI (j+1,u') ⟨hlt,hq⟩ (by show m-(j+1)<m-j;omega)
theorem wcalm_fn(htab:TabAt f){asked:Nat}(h3:3≤n)(h11:n≤11)(hodd:n % 2=1)(hm:m≤1000)(hm1:1≤m)(hq:qcalm m w=some w1):Fn prog 8 [pv wb,.int .i64 (m:Nat)] f (worH wb n asked x w::F)
  (fun v g B=>∃j:Nat,v= .tuple #[.int .i64 (j:Nat),.int .i64 0]∧g=f∧B=worH wb n asked x w1::F):=by
 refine Fn.know worH_inv fun hw=>?_
 obtain⟨w2,hq1,hq2⟩:∃w2,qwakes (qup1 n) w.fin=some w2∧qrounds m w2=some w1:=by
  unfold qcalm at hq;rw[hw.wn]at hq;split at hq
  ·cases hq
  ·rename_i w2 h;exact⟨w2,h,hq⟩
 have hwa:=fun G=>wwake_fn f G htab (wb:=wb) (asked:=asked) (x:=x) (w:=w) h3 h11 hodd hq1;have hro:=fun G=>wrounds_fn f G (wb:=wb) (m:=m)
 unfold pv at hwa hro⊢;refine D0 func8 rfl ntmps8 rfl (L:=[(0,_),(1,_)]) ⟨rfl,rfl,trivial⟩ fun base=>?_;apply (gA);refine (qfW) fun cb=>?_;refine (qfW) fun eb=>?_;apply (gT);apply (qjp);apply A5 (hwa _);apply (gS);refine C3 (hro _) fun s=>?_;obtain⟨pb,mb⟩:=s;apply (gK);apply (qjp);apply (qfo);apply (qe);apply A3 (row eb 24 _);apply (qdL);refine H.sb [(21,.func (.func 38) #[] #[pv mb,pv pb]),(4,.pointer (some ⟨cb,0,none⟩)),(5,.pointer (some ⟨eb,0,none⟩))] ?_;refine FY (ι:=Nat) (f':=f) (fs:=[]) (cs:=[pv mb,pv pb]) rfl rfl fun LJ hLJ=>⟨some .ret,fun j D=>pts D (.deferred (some []))::row cb 3 [.int .i64 (j:Nat)]::row eb 24 [.int .i64 0]::row pb 23 [pv wb]::row mb 3 [.int .i64 (m:Nat)]::worH wb n asked x w1::F,fun D lp=>?_,fun j D=>?_⟩
 ·obtain⟨Kx,hKx⟩:∃Kx:HP,Kx=stars [LJ D lp none,pts D (.deferred (some [])),row cb 3 [.int .i64 0],row eb 24 [.int .i64 0]]:=⟨_,rfl⟩;obtain⟨Ke,hKe⟩:∃Ke:Nat→HP,Ke=fun j=>stars [LJ D lp (some .ret),pts D (.deferred (some [])),row cb 3 [.int .i64 (j:Nat)],row eb 24 [.int .i64 0]]:=⟨_,rfl⟩;refine Fn.wrap (A1:=Kx::row pb 23 [pv wb]::row mb 3 [.int .i64 (m:Nat)]::worH wb n asked x w2::F) (by rw[hKx];exact zbe [_,_,_,_] _) (wrounds1_fn f F htab (lp:=lp) (pb:=pb) (mb:=mb) (wb:=wb) (asked:=asked) (x:=x) (X:=Kx) (E:=Ke) h3 h11 hodd hm hq2 (fun j G=>?_) (fun j G=>?_)) fun v g B hR=>?_
  ·refine YieldFn.wrap (R1:=fun u e B=>u= .bool true∧e=f∧B=LJ D lp none::pts D (.deferred (some []))::row cb 3 [.int .i64 0]::row eb 24 [.int .i64 0]::G) (by rw[hKx];exact zbd [_,_,_,_] _) ?_ ?_
   ·clear hKx hKe;subst hLJ;refine (qgt) fun base=>?_;apply (qey);refine DO ?_;repeat(first|(first|(first|apply H.seqR|apply C2|apply D5|apply CP)|(apply BT;exact rfl;exact jC)|(apply DN;exact rfl))|(first|((apply B3);(iterate 3 exact rfl))|(apply H.nil)|(apply BJ)))
    exact Dd ⟨rfl,rfl,rfl⟩
   ·rintro u g B ⟨rfl,rfl,rfl⟩;exact⟨_,⟨rfl,rfl,rfl⟩,by rw[hKx];exact zbe [_,_,_,_] _⟩
  ·refine YieldFn.wrap (R1:=fun u e B=>u= .bool false∧e=f∧B=LJ D lp (some .ret)::pts D (.deferred (some []))::row cb 3 [.int .i64 (j:Nat)]::row eb 24 [.int .i64 0]::G) (by rw[hKx];exact zbd [_,_,_,_] _) ?_ ?_
   ·clear hKx hKe;subst hLJ;refine (qgt) fun base=>?_;apply (qey);refine DO ?_;repeat(first|(first|(first|apply H.seqR|apply C2|apply CP)|(apply BT;exact rfl;exact jC)|(apply DY;exact rfl))|(first|((apply B3);(iterate 3 exact rfl))|(apply H.nil)|(apply AZ;(iterate 4 exact rfl);(repeat(first|exact .here _ _ _|apply At.there)))))
    repeat(first|apply Ea|apply BZ)
    exact EZ ⟨rfl,rfl,rfl⟩
   ·rintro u g B ⟨rfl,rfl,rfl⟩;exact⟨_,⟨rfl,rfl,rfl⟩,by rw[hKe];exact zbe [_,_,_,_] _⟩
  ·obtain⟨j,_,rfl,rfl⟩:=hR;exact⟨_,⟨j,rfl,rfl⟩,by rw[hKe];exact zbd [_,_,_,_] _⟩
 ·show H _ _ _ _ f (pts D _::row cb _ _::row eb _ _::row pb _ _::row mb _ _::worH wb n asked x w1::F) (.code .ret _);apply (gK);apply (qfP);apply (qfz);exact FU (b:=cb) (off:=0) (b2:=eb) (off2:=0) rfl rfl rfl rfl rfl rfl (.here _ _) (Rd1.ofRow aP0 rfl) (Rd1.ofRow aP1 rfl) (fun _ s=>(s.drop (.here _ _)).drop (.here _ _)) ⟨j,rfl,rfl,rfl⟩
end
theorem mkM_kind6{m:QM}(h:QOk n m):((mkM x m).body.kind.toNat:Int)=6↔m.k=6:=by
 rw[show(mkM x m).body=mkB x m.k m.a from mkM_b x m];rcases h.k with e|e|e<;>rw[e]<;>unfold mkB
 ·rw[if_pos rfl];exact iff_of_false (show¬((1:Nat):Int)=6 by decide) jE
 ·rw[if_neg jE,if_pos rfl];exact iff_of_false (show¬((2:Nat):Int)=6 by decide) jE
 ·rw[if_neg jE,if_neg jE];exact⟨fun _=>rfl,fun _=>rfl⟩
theorem mkM_k6{m:QM}(h:m.k=6):(mkM x m).body.k=((m.a:Nat):Int)∧(mkM x m).body.dig=Sha.sum (staBytes x m.a):=by
 rw[show(mkM x m).body=mkB x m.k m.a from mkM_b x m,h];unfold mkB;rw[if_neg jE,if_neg jE];exact⟨rfl,rfl⟩
theorem mkM_origin{m:QM}:(mkM x m).origin=((m.o:Nat):Int):=mkM_o x m
variable {M:CM}
theorem take_entry{m:Msg}{e:(Int×Int)×D32}(h:e∈(M.take n m).2):e∈M∨((m.body.kind.toNat:Int)=6∧e=((m.origin,m.body.k),dOf m.body.dig)):=by
 unfold CM.take at h;split at h
 ·rename_i hc
  rcases List.mem_append.1 h with h|h
  ·exact .inl h
  ·exact .inr ⟨hc.2.2.1,List.mem_singleton.1 h⟩
 ·exact .inl h
variable {l:List QM}
theorem cms_entry(hl:∀m∈l,QOk n m):∀e∈cms n x l,∃m∈l,m.k=6∧e=((((m.o:Nat):Int),((m.a:Nat):Int)),dOf (Sha.sum (staBytes x m.a))):=by
 induction l using snoc_ind with
 |nil=>intro e h;cases h
 | append_singleton l m ih =>
  intro e h;rw[cms_snoc]at h;rcases take_entry h with h|⟨h1,h2⟩
  ·obtain⟨m',hm,h⟩:=ih (fun m hm=>hl m (List.mem_append_left _ hm)) e h;exact⟨m',List.mem_append_left _ hm,h⟩
  ·have hk:=(mkM_kind6 (hl m (List.mem_append_right _ List.mem_cons_self))).1 h1;refine⟨m,List.mem_append_right _ List.mem_cons_self,hk,?_⟩
   rw[h2,(mkM_k6 hk).1,(mkM_k6 hk).2,mkM_origin]
theorem take_keeps{m:Msg}{k:Int×Int}(h:tld M k≠none):tld (M.take n m).2 k≠none:=by
 unfold CM.take;split
 ·rw[tld_snoc]
  cases ht:tld M k with
  |none=>exact absurd ht h
  |some d=>simp
 ·exact h
theorem cms_told(h11:n≤11)(hl:∀m∈l,QOk n m):∀m∈l,m.k=6→tld (cms n x l) (((m.o:Nat):Int),((m.a:Nat):Int))≠none:=by
 induction l using snoc_ind with
 |nil=>intro m h;cases h
 | append_singleton l m0 ih =>
  intro m h hk;rw[cms_snoc];rcases List.mem_append.1 h with h|h
  ·exact take_keeps (ih (fun m hm=>hl m (List.mem_append_left _ hm)) m h hk)
  ·obtain rfl:=List.mem_singleton.1 h;have hq:=hl m (List.mem_append_right _ List.mem_cons_self);have h1:=mkM_may h11 x hq
   unfold CM.take;split
   ·rw[tld_snoc,mkM_origin,(mkM_k6 hk).1,if_pos rfl];cases tld (cms n x l) (((m.o:Nat):Int),((m.a:Nat):Int))<;>simp
   ·rename_i hc
    intro hn;have ho:=hq.on;exact hc ⟨h1,by rw[mkM_origin];omega,(mkM_kind6 hq).2 hk,by rw[mkM_origin,(mkM_k6 hk).1];exact hn⟩
theorem stable_four{r:Int×D32}(hl:∀m∈l,QOk 3 m)(h4:∀m∈l,m.k=6→m.a=4)(h1:∃m∈l,m.k=6∧m.o=1)(h2:∃m∈l,m.k=6∧m.o=2)(hr:stR 3 (cms 3 x l) r):r.1=4:=by
 have hd:∀(i:Nat) d,tld (cms 3 x l) ((i:Int),4)=some d→d=dOf (Sha.sum (staBytes x 4)):=fun i d h=>by
  obtain⟨m,hm,hk,he⟩:=cms_entry hl _ (tld_mem h);have he:=(Prod.mk.inj he).2;rw[h4 m hm hk]at he
  exact he
 have ht:∀i:Nat,(∃m∈l,m.k=6∧m.o=i)→tells (cms 3 x l) 4 i=some (dOf (Sha.sum (staBytes x 4))):=fun i ⟨m,hm,hk,ho⟩=>by
  have h:=cms_told jE (x:=x) hl m hm hk;rw[h4 m hm hk,ho]at h
  show tld (cms 3 x l) ((i:Int),4)=_
  cases hc:tld (cms 3 x l) ((i:Int),4)with
  |none=>exact absurd hc h
  |some d=>rw[hd i d hc]
 have hdig:digR 3 (tells (cms 3 x l) 4) (some (dOf (Sha.sum (staBytes x 4)))):=by
  have t1:=ht 1 h1;have t2:=ht 2 h2
  generalize tells (cms 3 x l) 4=T at t1 t2⊢;generalize dOf (Sha.sum (staBytes x 4))=d at t1 t2⊢;unfold digR
  have e2:cntD T d 2=2:=by
   unfold cntD cntD cntD;rw[show T (1+1)=some d from t2,show T (0+1)=some d from t1,if_pos rfl]
  have e3:cntD T d 2≤cntD T d 3:=cntD_le T d 2 1;omega
 have hge:=hr.2 4 _ jE hdig;rcases hr.1 with h|⟨hp,h⟩
 ·rw[h]at hge;have:(4:Int)≤0:=hge;omega
 ·obtain⟨i,hi⟩:=cntD_pos (Nat.lt_of_le_of_lt (Nat.zero_le _) h);obtain⟨m,hm,hk,he⟩:=cms_entry hl _ (tld_mem hi);have he:=(Prod.mk.inj (Prod.mk.inj he).1).2;rw[h4 m hm hk]at he
  exact he
end Go.Proofs.YtdpgpmbebbaoiaaGreatDoor
