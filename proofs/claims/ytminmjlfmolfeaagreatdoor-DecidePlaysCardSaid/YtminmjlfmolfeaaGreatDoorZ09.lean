/- Parts of the proof, one behind the other, each under its own heading. No conditions. -/
import Derived.Test.YtminmjlfmolfeaaGreatDoorZ08
set_option linter.unusedSectionVars false
set_option linter.unusedSimpArgs false
set_option linter.unusedVariables false
/- Go's sort at uint64: partialInsertionSortOrdered. No condition. -/
set_option maxHeartbeats 3200000
set_option maxRecDepth 20000
namespace Go.Proofs.YtminmjlfmolfeaaGreatDoor
open Go
open Go.Sort (swp ltInt insInner insOuter insertionSort siftDown heapBuild heapPop heapSort reverseLoop reverseRange scanUp scanDown partLoop partEqLoop scanSorted shiftDown shiftUp partialIns partialInsertionSort)
open Go.Sort (partialIns_succ fixDown fixUp)
theorem shiftDown_size:∀ (j:Nat) (d:Array Int),(shiftDown ltInt j d).size = d.size
 | 0,d=>rfl
 | j + 1, d => by
  rw [shiftDown]
  split
  ·rfl
  ·rw [shiftDown_size j,zbj]
theorem shiftUp_size (b:Nat):∀ (m j:Nat) (d:Array Int),b - j ≤ m→(shiftUp ltInt b j d).size = d.size
 | 0,j,d,h=>by rw [shiftUp,if_neg (by omega)]
 | m + 1, j, d, h => by
  rw [shiftUp]
  split
  ·split
   ·rfl
   ·rw [shiftUp_size b m (j + 1) _ (by omega),zbj]
  ·rfl
theorem scanSorted_rng (d:Array Int) (b:Nat):∀ (m i:Nat),b - i ≤ m→i ≤ b→i ≤ scanSorted ltInt d b i ∧ scanSorted ltInt d b i ≤ b
 | 0,i,h,hi=>by rw [scanSorted,if_neg (by rw [decide_eq_false (by omega),Bool.false_and];decide)];omega
 | m + 1, i, h, hi => by
  rw [scanSorted]
  split
  ·rename_i hc
   rw [Bool.and_eq_true] at hc
   have h1:=of_decide_eq_true hc.1
   have:=scanSorted_rng d b m (i + 1) (by omega) (by omega)
   omega
  ·omega
variable {p:Option Addr} {n c a b:Nat}
section
variable (f:Frag) (F:List HP)
theorem partIns_fn {d0:Array Int} (hd0:d0.size = n) (hn:n ≤ 1000000) (hab:a < b) (hb:b ≤ n) :
  Fn Tryz.prog 178 [.slice p n c,.int .i64 (a:Int),.int .i64 (b:Int)] f (slc p n c 24 1 (arr d0)::F) (Ret (.bool (partialInsertionSort ltInt d0 a b).2) f (slc p n c 24 1 (arr (partialInsertionSort ltInt d0 a b).1)::F)):=by
 obtain ⟨R,hR⟩:∃ R,partialInsertionSort ltInt d0 a b = R:=⟨_,rfl⟩;have hR:partialIns ltInt a b 5 (a + 1) d0 = R:=hR;have hR2:partialInsertionSort ltInt d0 a b = R:=hR
 rw [hR2];clear hR2;refine Fn.e3 Tryz.func178 Tryz.ntmps178 fun base=>?_;refine qfT fun sb hp=>?_;subst hp;refine gD ?_
 refine H.lo (ι:=Nat × Nat × Array Int) (fun s=>[(8,.int .i64 (s.1:Int)),(7,.int .i64 (s.2.1:Int)),(0,.slice (some ⟨sb,0,none⟩) n c),(1,.int .i64 (a:Int)),(2,.int .i64 (b:Int))]) (fun _=>f) (fun s=>slc (some ⟨sb,0,none⟩) n c 24 1 (arr s.2.2)::F)
  (fun s=>s.1 ≤ 5 ∧ a + 1 ≤ s.2.1 ∧ s.2.1 ≤ b ∧ s.2.2.size = n ∧ partialIns ltInt a b (5 - s.1) s.2.1 s.2.2 = R) (fun s=>5 - s.1) (0,a + 1,d0) ⟨Nat.zero_le _,Nat.le_refl _,by show a + 1 ≤ b;omega,hd0,hR⟩ fun s hs=>?_
 clear hR hd0;obtain ⟨t,i,d⟩:=s;obtain ⟨ht,hai,hib,hd,hr⟩:t ≤ 5 ∧ a + 1 ≤ i ∧ i ≤ b ∧ d.size = n ∧ partialIns ltInt a b (5 - t) i d = R:=hs;show H _ _ _ [(8,.int .i64 (t:Int)),(7,.int .i64 (i:Int)),_,_,_] f (slc (some ⟨sb,0,none⟩) n c _ 1 (arr d)::F) _;by_cases ht5:t < 5
 ·obtain ⟨s,hs5⟩:∃ s,5 - t = s + 1:=⟨5 - t - 1,by omega⟩;rw [hs5,partialIns_succ] at hr;have hrng:=scanSorted_rng d b _ i (Nat.le_refl _) hib;repeat (first | ((apply H.Au);(iterate 3 exact rfl)) | (first | apply H.seq | apply H.Bf | apply H.nil | apply H.Bj) | ((apply H.cmp);(iterate 5 exact rfl)) | (first | apply H.skip | apply H.Bl) | (apply H.Cn;exact rfl;(omega)))
  refine H.cutB (ι:=Unit) (fun _=>[(7,.int .i64 ((scanSorted ltInt d b i:Nat):Int)),(8,.int .i64 (t:Int)),(0,.slice (some ⟨sb,0,none⟩) n c),(1,.int .i64 (a:Int)),(2,.int .i64 (b:Int))]) (fun _=>f) (fun _=>slc (some ⟨sb,0,none⟩) n c 24 1 (arr d)::F) (fun _=>True) _ (fun _ _=>?_) ?_;rotate_left
  ·refine H.lo (ι:=Nat) (fun x=>[(7,.int .i64 (x:Int)),(8,.int .i64 (t:Int)),(0,.slice (some ⟨sb,0,none⟩) n c),(1,.int .i64 (a:Int)),(2,.int .i64 (b:Int))]) (fun _=>f) (fun _=>slc (some ⟨sb,0,none⟩) n c 24 1 (arr d)::F) (fun x=>a + 1 ≤ x ∧ x ≤ b ∧ scanSorted ltInt d b x = scanSorted ltInt d b i) (fun x=>b - x) i ⟨hai,hib,rfl⟩ fun x hx=>?_;obtain ⟨hx1,hx2,hs⟩:a + 1 ≤ x ∧ x ≤ b ∧ scanSorted ltInt d b x = scanSorted ltInt d b i:=hx;obtain ⟨y,rfl⟩:∃ y,x = y + 1:=⟨x - 1,by omega⟩;show H _ _ _ [(7,.int .i64 ((y + 1:Nat):Int)),_,_,_,_] f (slc (some ⟨sb,0,none⟩) n c _ 1 (arr d)::F) _;rw [scanSorted] at hs;by_cases hxb:y + 1 < b
   ·refine qfn ?_;refine HB.qu [0,1,2,3,4,5,6,7,8,9,10,11,12] 3 ?_;refine gN ?_;refine qfw ?_;refine qcU ?_;refine gK ?_;refine qgJ ?_;refine qcU ?_;refine qdb ?_;refine HB.ev 13 ?_;refine H.Af rfl rfl rfl (zcf f _ d[y + 1]! d[y]!) ?_;refine qcS ?_;refine HB.qu [14,15] 0 ?_;refine qeP ?_;have hyy:y + 1 - 1 = y:=rfl;rw [hyy] at hs
    cases hl:ltInt d[y + 1]! d[y]! with
    | false =>
     rw [if_pos (by rw [decide_eq_true hxb,hl];rfl)] at hs;refine gU ?_;exact H.ag (y + 1 + 1) ⟨by show a + 1 ≤ y + 1 + 1;omega,by show y + 1 + 1 ≤ b;omega,hs⟩ (by show b - (y + 1 + 1) < b - (y + 1);omega)
    | true =>
     rw [if_neg (by rw [decide_eq_true hxb,hl];decide)] at hs;exact qcE
   ·rw [if_neg (by rw [decide_eq_false hxb,Bool.false_and];decide)] at hs;refine qfn ?_;refine HB.qu [0,1,2,3,4,5,6,7,8,9,10,11,12] 3 ?_;refine gN ?_;refine qdb ?_;refine HB.ev 13 ?_;refine qeT ?_;refine HB.qu [14,15] 0 ?_;refine qeP ?_;exact qcE
  show H _ _ _ [(7,.int .i64 ((scanSorted ltInt d b i:Nat):Int)),(8,.int .i64 (t:Int)),(0,.slice (some ⟨sb,0,none⟩) n c),(1,.int .i64 (a:Int)),(2,.int .i64 (b:Int))] f (slc (some ⟨sb,0,none⟩) n c _ 1 (arr d)::F) _;generalize scanSorted ltInt d b i = i2 at *;by_cases heb:i2 = b
  ·rw [if_pos heb] at hr;subst hr;refine gG ?_;exact qah
  ·rw [if_neg heb] at hr;by_cases h50 : b - a < 50
   ·rw [if_pos h50] at hr;subst hr;refine gc ?_;exact qah
   ·rw [if_neg h50] at hr;obtain ⟨k, rfl⟩ : ∃ k, i2 = k + 1 := ⟨i2 - 1, by omega⟩;refine gP ?_;refine H.drawN (by kernel_rfl) (by decide +kernel) (by repeat (first | exact zac | refine zab ?_ | refine zah ?_ | refine zaj ?_)) ?_;refine qdc ?_;refine HN.ar (i := 4) (z := ((k : Nat) : Int)) (by kernel_rfl) rfl rfl rfl rfl rfl (by rw [wr_i64 (by omega)]; omega) rfl ?_;refine qeu ?_;refine HQ.Aj (i := k) rfl rfl rfl (by omega) (by omega) rfl ?_;refine qfG ?_;refine HQ.Aj (i := k + 1) rfl rfl rfl (by omega) (by omega) rfl ?_;refine qcU ?_;refine qdo ?_;refine HB.qu [14] 3 ?_;refine HQ.Aj (i := k + 1) rfl rfl rfl (by omega) (by omega) rfl ?_;refine qgL ?_;refine qdn ?_;refine HB.qu [16] 1 ?_;refine HQ.Aj (i := k) rfl rfl rfl (by omega) (by omega) rfl ?_;refine qgA ?_;refine qd ?_;show H _ _ _ _ f (slc (some ⟨sb, 0, none⟩) n c _ 1 (arr (swp d (k + 1) (k))) :: _) _;have hkk : k + 1 - 1 = k := rfl;rw [hkk] at hr
    have hd1:(swp d (k + 1) k).size = n:=by rw [zbj];exact hd
    generalize swp d (k + 1) k = d1 at *;refine qfe ?_;refine H.cut (ι:=Unit) (fun _=>[(7,.int .i64 ((k + 1:Nat):Int)),(8,.int .i64 (t:Int)),(0,.slice (some ⟨sb,0,none⟩) n c),(1,.int .i64 (a:Int)),(2,.int .i64 (b:Int))]) (fun _=>f) (fun _=>slc (some ⟨sb,0,none⟩) n c 24 1 (arr (fixDown ltInt a (k + 1) d1))::F) (fun _=>True) _ (fun _ _=>?_) ?_;rotate_left
    ·unfold fixDown;by_cases h2:k + 1 - a ≥ 2
     ·rw [if_pos h2,hkk];refine gc ?_
      refine H.lo (ι:=Nat × Array Int) (fun s=>[(9,.int .i64 (s.1:Int)),(7,.int .i64 ((k + 1:Nat):Int)),(8,.int .i64 (t:Int)),(0,.slice (some ⟨sb,0,none⟩) n c),(1,.int .i64 (a:Int)),(2,.int .i64 (b:Int))]) (fun _=>f) (fun s=>slc (some ⟨sb,0,none⟩) n c 24 1 (arr s.2)::F)
       (fun s=>s.1 ≤ k ∧ s.2.size = n ∧ shiftDown ltInt s.1 s.2 = shiftDown ltInt k d1) (fun s=>s.1) (k,d1) ⟨Nat.le_refl k,hd1,rfl⟩ fun s hs=>?_
      obtain ⟨x,d⟩:=s;obtain ⟨hx,hd,hs⟩:x ≤ k ∧ d.size = n ∧ shiftDown ltInt x d = shiftDown ltInt k d1:=hs;show H _ _ _ [(9,.int .i64 (x:Int)),_,_,_,_,_] f (slc (some ⟨sb,0,none⟩) n c _ 1 (arr d)::F) _
      cases x with
      | zero =>
       rw [← hs];refine gL ?_;exact qbi
      | succ y =>
       rw [shiftDown] at hs;refine gG ?_;refine qdA ?_;refine qdU ?_;refine qeV ?_
       cases hl:ltInt d[y + 1]! d[y]! with
       | false =>
        exact qcx
       | true =>
        rw [hl,if_neg (by decide)] at hs;refine gW ?_;refine H.drawN (by kernel_rfl) (by decide +kernel) (by repeat (first | exact zac | refine zab ?_ | refine zah ?_ | refine zaj ?_)) ?_;refine qdY ?_;exact H.ag (y,swp d (y + 1) y) ⟨by show y ≤ k;omega,by show (swp d (y + 1) y).size = n;rw [zbj];exact hd,hs⟩ (by show y < y + 1;omega)
     ·rw [if_neg h2];refine gP ?_;exact qbi
    have hd2:(fixDown ltInt a (k + 1) d1).size = n:=by
     unfold fixDown;split
     ·rw [shiftDown_size];exact hd1
     ·exact hd1
    generalize fixDown ltInt a (k + 1) d1 = d2 at *;show H _ _ _ [(7,.int .i64 ((k + 1:Nat):Int)),(8,.int .i64 (t:Int)),(0,.slice (some ⟨sb,0,none⟩) n c),(1,.int .i64 (a:Int)),(2,.int .i64 (b:Int))] f (slc (some ⟨sb,0,none⟩) n c _ 1 (arr d2)::F) _;refine qfe ?_;refine H.cutB (ι:=Unit) (fun _=>[(7,.int .i64 ((k + 1:Nat):Int)),(8,.int .i64 (t:Int)),(0,.slice (some ⟨sb,0,none⟩) n c),(1,.int .i64 (a:Int)),(2,.int .i64 (b:Int))]) (fun _=>f) (fun _=>slc (some ⟨sb,0,none⟩) n c 24 1 (arr (fixUp ltInt b (k + 1) d2))::F) (fun _=>True) _ (fun _ _=>?_) ?_;rotate_left
    ·unfold fixUp;by_cases h2:b - (k + 1) ≥ 2
     ·rw [if_pos h2];refine gc ?_
      refine H.lo (ι:=Nat × Array Int) (fun s=>[(10,.int .i64 ((s.1 + 1:Nat):Int)),(7,.int .i64 ((k + 1:Nat):Int)),(8,.int .i64 (t:Int)),(0,.slice (some ⟨sb,0,none⟩) n c),(1,.int .i64 (a:Int)),(2,.int .i64 (b:Int))]) (fun _=>f) (fun s=>slc (some ⟨sb,0,none⟩) n c 24 1 (arr s.2)::F)
       (fun s=>s.1 + 1 ≤ b ∧ s.2.size = n ∧ shiftUp ltInt b (s.1 + 1) s.2 = shiftUp ltInt b (k + 1 + 1) d2) (fun s=>b - s.1) (k + 1,d2) ⟨by show k + 1 + 1 ≤ b;omega,hd2,rfl⟩ fun s hs=>?_
      obtain ⟨y,d⟩:=s;obtain ⟨hx,hd,hs⟩:y + 1 ≤ b ∧ d.size = n ∧ shiftUp ltInt b (y + 1) d = shiftUp ltInt b (k + 1 + 1) d2:=hs;show H _ _ _ [(10,.int .i64 ((y + 1:Nat):Int)),_,_,_,_,_] f (slc (some ⟨sb,0,none⟩) n c _ 1 (arr d)::F) _;rw [shiftUp] at hs;by_cases hyb:y + 1 < b
      ·rw [if_pos hyb,show y + 1 - 1 = y from rfl] at hs;refine gG ?_;refine qdA ?_;refine qdU ?_;refine qeV ?_
       cases hl:ltInt d[y + 1]! d[y]! with
       | false =>
        exact qcx
       | true =>
        rw [hl,if_neg (by decide)] at hs;refine gW ?_;refine H.drawN (by kernel_rfl) (by decide +kernel) (by repeat (first | exact zac | refine zab ?_ | refine zah ?_ | refine zaj ?_)) ?_;refine qdY ?_;exact H.ag (y + 1,swp d (y + 1) y) ⟨by show y + 1 + 1 ≤ b;omega,by show (swp d (y + 1) y).size = n;rw [zbj];exact hd,hs⟩ (by show b - (y + 1) < b - y;omega)
      ·rw [if_neg hyb] at hs;rw [← hs];refine gP ?_;exact qbi
     ·rw [if_neg h2];refine gP ?_;exact qbi
    have hd3:(fixUp ltInt b (k + 1) d2).size = n:=by
     unfold fixUp;split
     ·rw [shiftUp_size b _ _ _ (Nat.le_refl _)];exact hd2
     ·exact hd2
    generalize fixUp ltInt b (k + 1) d2 = d3 at *;show H _ _ _ [(7,.int .i64 ((k + 1:Nat):Int)),(8,.int .i64 (t:Int)),(0,.slice (some ⟨sb,0,none⟩) n c),(1,.int .i64 (a:Int)),(2,.int .i64 (b:Int))] f (slc (some ⟨sb,0,none⟩) n c _ 1 (arr d3)::F) _;refine gD ?_;exact H.ag (t + 1,k + 1,d3) ⟨by show t + 1 ≤ 5;omega,by show a + 1 ≤ k + 1;omega,by show k + 1 ≤ b;omega,hd3,by show partialIns ltInt a b (5 - (t + 1)) (k + 1) d3 = R;rw [show 5 - (t + 1) = s by omega];exact hr⟩ (by show 5 - (t + 1) < 5 - t;omega)
 ·rw [show 5 - t = 0 by omega] at hr;have hr:(d,false) = R:=hr;subst hr
  refine gP ?_;exact qah
end
open Go.Sort (swp ltInt insInner insOuter insertionSort siftDown heapBuild heapPop heapSort reverseLoop reverseRange scanUp scanDown partLoop partEqLoop scanSorted shiftDown shiftUp partialIns partialInsertionSort)
variable {s wb:Nat} {d:Array Int}
section
variable (f:Frag) (F:List HP)
def Ord2P (f:Frag) (F:List HP) (A1:HP) (wb a b s:Nat):Value→Frag→List HP→Prop:=fun v f' A'=>∃ x y s2:Nat,((x = a ∧ y = b) ∨ (x = b ∧ y = a)) ∧ s2 ≤ s + 1 ∧ v = .tuple #[.int .i64 (x:Int),.int .i64 (y:Int)] ∧ f' = f ∧ A' = A1::row wb 3 [.int .i64 (s2:Int)]::F
theorem order2_fn (hd:d.size = n) (hn:n ≤ 1000000) (ha:a < n) (hb:b < n) (hs:s ≤ 100) :
  Fn Tryz.prog 254 [.slice p n c,.int .i64 (a:Int),.int .i64 (b:Int),.pointer (some ⟨wb,0,none⟩)] f (slc p n c 24 1 (arr d)::row wb 3 [.int .i64 (s:Int)]::F) (Ord2P f F (slc p n c 24 1 (arr d)) wb a b s):=by
 refine Fn.e4 Tryz.func254 Tryz.ntmps254 fun base=>?_;refine qdX fun sb hp=>?_;subst hp;refine qgt ?_;refine HB.qu [0,1,2,3,4,5,6,7] 1 ?_;refine gB ?_;refine HQ.Aj (i:=b) rfl rfl rfl (by omega) (by omega) rfl ?_;refine qfG ?_;refine qdK ?_;refine qcU ?_;refine qdb ?_;refine HB.ev 8 ?_;refine H.Af rfl rfl rfl (zcf f _ d[b]! d[a]!) ?_;refine qdD ?_
 cases hl:ltInt d[b]! d[a]! with
 | false =>
  refine gW ?_;exact H.Bb rfl rfl rfl (fun _ h=>h) ⟨a,b,s,.inl ⟨rfl,rfl⟩,Nat.le_succ s,rfl,rfl,rfl⟩
 | true =>
  refine gM ?_;exact H.Bb rfl rfl rfl (fun _ h=>h) ⟨b,a,s + 1,.inr ⟨rfl,rfl⟩,Nat.le_refl _,rfl,rfl,rfl⟩
def MedP (f:Frag) (F:List HP) (A1:HP) (wb a b c s:Nat):Value→Frag→List HP→Prop:=fun v f' A'=>∃ x s2:Nat,(x = a ∨ x = b ∨ x = c) ∧ s2 ≤ s + 3 ∧ v = .int .i64 (x:Int) ∧ f' = f ∧ A' = A1::row wb 3 [.int .i64 (s2:Int)]::F
theorem median_fn {k:Nat} (hd:d.size = n) (hn:n ≤ 1000000) (ha:a < n) (hb:b < n) (hk:k < n) (hs:s ≤ 90) :
  Fn Tryz.prog 232 [.slice p n c,.int .i64 (a:Int),.int .i64 (b:Int),.int .i64 (k:Int),.pointer (some ⟨wb,0,none⟩)] f (slc p n c 24 1 (arr d)::row wb 3 [.int .i64 (s:Int)]::F) (MedP f F (slc p n c 24 1 (arr d)) wb a b k s):=by
 refine Fn.e5 Tryz.func232 Tryz.ntmps232 fun base=>?_;refine gJ ?_;refine H.Al rfl rfl rfl (order2_fn f F hd hn ha hb (by omega)) fun v f' A' hR=>?_;obtain ⟨x1,y1,t1,h1,ht1,rfl,hff,rfl⟩:=hR;rw [hff];refine gX ?_;refine H.Al rfl rfl rfl (order2_fn f F hd hn (a:=y1) (b:=k) (by omega) hk (by omega)) fun v f' A' hR=>?_;obtain ⟨x2,y2,t2,h2,ht2,rfl,hff,rfl⟩:=hR;rw [hff];refine gX ?_;refine H.Al rfl rfl rfl (order2_fn f F hd hn (a:=x1) (b:=x2) (by omega) (by omega) (by omega)) fun v f' A' hR=>?_;obtain ⟨x3,y3,t3,h3,ht3,rfl,hff,rfl⟩:=hR;rw [hff];refine gW ?_;exact H.Ad rfl rfl (fun _ h=>h) ⟨y3,t3,by omega,by omega,rfl,rfl,rfl⟩
theorem medAdj_fn (hd:d.size = n) (hn:n ≤ 1000000) (h0:1 ≤ a) (ha:a + 1 < n) (hs:s ≤ 90) :
  Fn Tryz.prog 231 [.slice p n c,.int .i64 (a:Int),.pointer (some ⟨wb,0,none⟩)] f (slc p n c 24 1 (arr d)::row wb 3 [.int .i64 (s:Int)]::F) (MedP f F (slc p n c 24 1 (arr d)) wb (a - 1) a (a + 1) s):=by
 obtain ⟨a1,rfl⟩:∃ a1,a = a1 + 1:=⟨a - 1,by omega⟩;refine Fn.e3 Tryz.func231 Tryz.ntmps231 fun base=>?_;refine gD ?_;refine H.Al rfl rfl rfl (median_fn f F hd hn (a:=a1) (b:=a1 + 1) (k:=a1 + 1 + 1) (by omega) (by omega) ha hs) fun v f' A' hR=>?_;obtain ⟨x,t,h1,ht,rfl,hff,rfl⟩:=hR;rw [hff];refine gR ?_;exact H.r1 ⟨x,t,h1,ht,rfl,rfl,rfl⟩
def PivP (f:Frag) (F:List HP) (A1:HP) (a b:Nat):Value→Frag→List HP→Prop:=fun v f' A'=>∃ (x:Nat) (h:Int),a ≤ x ∧ x < b ∧ v = .tuple #[.int .i64 (x:Int),.int .i64 h] ∧ f' = f ∧ A' = A1::F
theorem pivot_fn (hd:d.size = n) (hn:n ≤ 1000000) (h8:a + 8 ≤ b) (hb:b ≤ n) :
  Fn Tryz.prog 176 [.slice p n c,.int .i64 (a:Int),.int .i64 (b:Int)] f (slc p n c 24 1 (arr d)::F) (PivP f F (slc p n c 24 1 (arr d)) a b):=by
 obtain ⟨l,hl⟩:∃ l,l = b - a:=⟨_,rfl⟩;have hz:(b:Int) - (a:Int) = (l:Int):=by omega
 obtain ⟨q,hq0⟩:∃ q,q = l / 4:=⟨_,rfl⟩;have hq:IntKind.wrap .i64 ((l:Int).tdiv 4) = (q:Int):=by rw [show (4:Int) = ((4:Nat):Int) from rfl,tdiv64,wr_i64 (by omega),hq0]
 refine Fn.e3 Tryz.func176 Tryz.ntmps176 fun base=>?_;repeat (first | (refine H.ar (op:=.sub) (p:=(b:Int)) (p2:=(a:Int)) (z:=(l:Int)) rfl rfl rfl rfl (by rw [hz,wr_i64 (by omega)]) rfl ?_) | (refine H.quo (p:=(l:Int)) (z:=(q:Int)) rfl rfl rfl (by decide) hq rfl ?_) | (refine H.Ak (ls:=[.int .i64 0]) rfl rfl rfl fun wb=>?_) | (refine gg ?_))
 refine H.pf (x:=slc p n c _ _ _) ?_;refine H.Bh (d:=10) (u:=.int .i64 ((a + q * 1:Nat):Int)) rfl (by first | rfl | (congr 1;omega)) ?_;refine H.Bh (d:=11) (u:=.int .i64 ((a + q * 2:Nat):Int)) rfl (by first | rfl | (congr 1;omega)) ?_;refine H.Bh (d:=12) (u:=.int .i64 ((a + q * 3:Nat):Int)) rfl (by first | rfl | (congr 1;omega)) ?_;by_cases h50:50 ≤ l
 ·refine gG ?_;refine H.Al rfl rfl rfl (medAdj_fn f F hd hn (a:=a + q * 1) (s:=0) (by omega) (by omega) (by omega)) fun v f' A' hR=>?_;obtain ⟨x1,t1,h1,ht1,rfl,hff,rfl⟩:=hR;rw [hff];refine gJ ?_;refine H.Al rfl rfl rfl (medAdj_fn f F hd hn (a:=a + q * 2) (s:=t1) (by omega) (by omega) (by omega)) fun v f' A' hR=>?_;obtain ⟨x2,t2,h2,ht2,rfl,hff,rfl⟩:=hR;rw [hff];refine gJ ?_;refine H.Al rfl rfl rfl (medAdj_fn f F hd hn (a:=a + q * 3) (s:=t2) (by omega) (by omega) (by omega)) fun v f' A' hR=>?_;obtain ⟨x3,t3,h3,ht3,rfl,hff,rfl⟩:=hR;rw [hff];refine gJ ?_;refine H.Al rfl rfl rfl (median_fn f F hd hn (a:=x1) (b:=x2) (k:=x3) (s:=t3) (by omega) (by omega) (by omega) (by omega)) fun v f' A' hR=>?_;obtain ⟨x,t,h4,ht,rfl,hff,rfl⟩:=hR;rw [hff];by_cases h0:t = 0
  ·refine gO ?_;exact qaF
  ·by_cases h12:t = 12
   ·refine gV ?_;exact qaF
   ·refine gO ?_;exact qaF
 ·refine gP ?_;refine H.Al rfl rfl rfl (median_fn f F hd hn (a:=a + q * 1) (b:=a + q * 2) (k:=a + q * 3) (s:=0) (by omega) (by omega) (by omega) (by omega)) fun v f' A' hR=>?_;obtain ⟨x,t,h4,ht,rfl,hff,rfl⟩:=hR;rw [hff];by_cases h0:t = 0
  ·refine gO ?_;exact qaF
  ·by_cases h12:t = 12
   ·refine gO ?_;exact qaF
   ·refine gO ?_;exact qaF
end
open Go.Sort (swp ltInt insInner insOuter insertionSort siftDown heapBuild heapPop heapSort reverseLoop reverseRange scanUp scanDown partLoop partEqLoop scanSorted shiftDown shiftUp partialIns partialInsertionSort)
open Go.Sort (bitsLen PermIn SortedIn Below permIn_trans permIn_refl insertionSort_holds heapSort_holds partialInsertionSort_holds partition_holds partitionEqual_holds reverseRange_holds swo_ltInt round_eq round_part partition partitionEqual)
section
variable (f:Frag) (F:List HP)
def SrtP (f:Frag) (F:List HP) (p:Option Addr) (n c a b:Nat) (d0:Array Int):Value→Frag→List HP→Prop:=fun v f' A'=>∃ d:Array Int,PermIn a b d0 d ∧ SortedIn ltInt a b d ∧ v = .tuple #[] ∧ f' = f ∧ A' = slc p n c 24 1 (arr d)::F
def pdSt (p:Option Addr) (n c:Nat) (s:Nat × Nat × Int × Bool × Bool × Array Int):Env:=[(0,.slice p n c),(1,.int .i64 (s.1:Int)),(2,.int .i64 (s.2.1:Int)),(3,.int .i64 s.2.2.1),(8,.bool s.2.2.2.1),(9,.bool s.2.2.2.2.1)]
theorem pdq_fn:∀ (m:Nat) {p:Option Addr} {n c a0 b0:Nat} {lim0:Int} {d0:Array Int} (hd0:d0.size = n) (hn:n ≤ 255) (ha:a0 ≤ b0) (hb:b0 ≤ n) (hl:0 ≤ lim0 ∧ lim0 ≤ 100) (hB:Below ltInt a0 b0 d0) (hm:b0 - a0 ≤ m),
  Fn Tryz.prog 125 [.slice p n c,.int .i64 (a0:Int),.int .i64 (b0:Int),.int .i64 lim0] f (slc p n c 24 1 (arr d0)::F) (SrtP f F p n c a0 b0 d0):=by
 intro m
 induction m with
 | zero =>
  intro p n c a0 b0 lim0 d0 hd0 hn ha hb hl hB hm;have h1:=insertionSort_holds swo_ltInt d0 a0 b0 ha (by omega);have hz:(b0:Int) - (a0:Int) = 0:=by omega
  refine Fn.e4 Tryz.func125 Tryz.ntmps125 fun base=>?_;refine gR ?_;refine H.lo (ι:=Unit) (fun _=>[(0,.slice p n c),(1,.int .i64 (a0:Int)),(2,.int .i64 (b0:Int))]) (fun _=>f) (fun _=>slc p n c 24 1 (arr d0)::F) (fun _=>True) (fun _=>0) () trivial fun _ _=>?_;show H _ _ _ [(0,.slice p n c),(1,.int .i64 (a0:Int)),(2,.int .i64 (b0:Int))] f (slc p n c _ 1 (arr d0)::F) _;repeat (first | (refine H.ar (op:=.sub) (p:=(b0:Int)) (p2:=(a0:Int)) (z:=0) rfl rfl rfl rfl (by rw [hz];rfl) rfl ?_) | (refine gg ?_))
  refine H.Af rfl rfl rfl (insSort_fn f _ (a:=a0) (b:=b0) hd0 (by omega) hb (by omega)) ?_;refine gR ?_;exact H.ret0 rfl (fun _ h=>h) ⟨_,h1.1,h1.2,rfl,rfl,rfl⟩
 | succ m ih =>
  intro p n c a0 b0 lim0 d0 hd0 hn ha hb hl hB hm;refine Fn.e4 Tryz.func125 Tryz.ntmps125 fun base=>?_;refine gR ?_
  refine H.lo (ι:=Nat × Nat × Int × Bool × Bool × Array Int) (pdSt p n c) (fun _=>f) (fun s=>slc p n c 24 1 (arr s.2.2.2.2.2)::F)
   (fun s=>s.1 ≤ s.2.1 ∧ s.2.1 ≤ n ∧ s.2.1 - s.1 ≤ m + 1 ∧ s.2.2.2.2.2.size = n ∧ (0 ≤ s.2.2.1 ∧ s.2.2.1 ≤ 100) ∧ Below ltInt s.1 s.2.1 s.2.2.2.2.2 ∧ ∀ R,PermIn s.1 s.2.1 s.2.2.2.2.2 R→SortedIn ltInt s.1 s.2.1 R→PermIn a0 b0 d0 R ∧ SortedIn ltInt a0 b0 R)
   (fun s=>s.2.1 - s.1) (a0,b0,lim0,true,true,d0) ⟨ha,hb,hm,hd0,hl,hB,fun R h1 h2=>⟨h1,h2⟩⟩ fun s hs=>?_
  clear hl hB;obtain ⟨a,b,lim,wb,wp,d⟩:=s;obtain ⟨hab,hbn,hm1,hd,hl,hB,hfin⟩:a ≤ b ∧ b ≤ n ∧ b - a ≤ m + 1 ∧ d.size = n ∧ (0 ≤ lim ∧ lim ≤ 100) ∧ Below ltInt a b d ∧ ∀ R,PermIn a b d R→SortedIn ltInt a b R→PermIn a0 b0 d0 R ∧ SortedIn ltInt a0 b0 R:=hs;show H _ _ _ [(0,.slice p n c),(1,.int .i64 (a:Int)),(2,.int .i64 (b:Int)),(3,.int .i64 lim),(8,.bool wb),(9,.bool wp)] f (slc p n c _ 1 (arr d)::F) _;obtain ⟨l,hl0⟩:∃ l,l = b - a:=⟨_,rfl⟩;have hz:(b:Int) - (a:Int) = (l:Int):=by omega
  by_cases h12:l ≤ 12
  ·skip;refine qeH ?_;refine H.Af rfl rfl rfl (insSort_fn f _ (a:=a) (b:=b) hd (by omega) hbn (by omega)) ?_;refine gR ?_;have h1:=insertionSort_holds swo_ltInt d a b hab (by omega);exact qcI
  ·by_cases hl00 : lim = 0
   ·skip;refine qeH ?_;refine H.Af rfl rfl rfl (heapSort_fn f _ (a:=a) (b:=b) hd (by omega) (by omega) hbn) ?_;refine gR ?_;have h1:=heapSort_holds swo_ltInt d a b hab (by omega);exact qcI
   ·skip;repeat (first | (refine H.ar (op:=.sub) (p:=(b:Int)) (p2:=(a:Int)) (z:=(l:Int)) rfl rfl rfl rfl (by rw [hz,wr_i64 (by omega)]) rfl ?_) | ((first | apply H.Au | apply H.Bd);(iterate 3 exact rfl)) | (first | apply H.seq | apply H.Bf | apply H.nil | apply H.Bj) | ((apply H.cmp);(iterate 5 exact rfl)) | ((apply H.not);(iterate 4 exact rfl)) | (first | apply H.skip | apply H.Bl) | (apply H.Ci;exact rfl;(first | assumption | omega)))
    refine H.cut (ι:=Int × Array Int) (fun s=>[(0,.slice p n c),(1,.int .i64 (a:Int)),(2,.int .i64 (b:Int)),(3,.int .i64 s.1),(8,.bool wb),(9,.bool wp),(10,.int .i64 (l:Int))]) (fun _=>f) (fun s=>slc p n c 24 1 (arr s.2)::F) (fun s=>(0 ≤ s.1 ∧ s.1 ≤ 100) ∧ PermIn a b d s.2) _ (fun s hs=>?_) ?_;rotate_left
    ·cases wb with
     | true =>
      refine gW ?_;exact H.Ba (lim,d) ⟨hl,permIn_refl _ _ _⟩ ⟨rfl,rfl,rfl,rfl,rfl,rfl,rfl,trivial⟩ rfl rfl
     | false =>
      refine gX ?_;refine H.Al rfl rfl rfl (break_fn f F (a:=a) (b:=b) hd hn (by omega) hbn) fun v f' A' hR=>?_;obtain ⟨d1,hP,rfl,hff,rfl⟩:=hR;rw [hff];refine gD ?_;exact H.Ba (lim - 1,d1) ⟨by show 0 ≤ lim - 1 ∧ lim - 1 ≤ 100;omega,hP⟩ ⟨rfl,rfl,rfl,rfl,rfl,rfl,rfl,trivial⟩ rfl rfl
    obtain ⟨lim1,d1⟩:=s;obtain ⟨hl1,hP1⟩:(0 ≤ lim1 ∧ lim1 ≤ 100) ∧ PermIn a b d d1:=hs;show H _ _ _ [(0,.slice p n c),(1,.int .i64 (a:Int)),(2,.int .i64 (b:Int)),(3,.int .i64 lim1),(8,.bool wb),(9,.bool wp),(10,.int .i64 (l:Int))] f (slc p n c _ 1 (arr d1)::F) _;have hd1:d1.size = n:=hP1.1.trans hd;refine gJ ?_
    refine H.Al rfl rfl rfl (pivot_fn f F (a:=a) (b:=b) hd1 (by omega) (by omega) hbn) fun v f' A' hR=>?_;obtain ⟨x,h,hx1,hx2,rfl,hff,rfl⟩:=hR;rw [hff];repeat (first | ((first | apply H.Au | apply H.Bd);(iterate 3 exact rfl)) | (first | apply H.seq | apply H.Bf | apply H.nil | apply H.Bj) | ((apply H.cmp);(iterate 5 exact rfl)) | ((apply H.Cc);(iterate 4 exact rfl)))
    refine H.cut (ι:=Nat × Int × Array Int) (fun s=>[(11,.int .i64 (s.1:Int)),(12,.int .i64 s.2.1),(0,.slice p n c),(1,.int .i64 (a:Int)),(2,.int .i64 (b:Int)),(3,.int .i64 lim1),(8,.bool wb),(9,.bool wp),(10,.int .i64 (l:Int))]) (fun _=>f) (fun s=>slc p n c 24 1 (arr s.2.2)::F) (fun s=>a ≤ s.1 ∧ s.1 < b ∧ PermIn a b d s.2.2) _ (fun s hs=>?_) ?_;rotate_left
    ·by_cases h2:h = 2
     ·have hpz:(b:Int) - 1 - ((x:Int) - (a:Int)) = ((b - 1 - (x - a):Nat):Int):=by omega
      refine gG ?_;refine H.Af rfl rfl rfl (reverse_fn f _ (a:=a) (b:=b) hd1 (by omega) (by omega) hbn) ?_;repeat (first | (refine H.ar (op:=.sub) (p:=(b:Int) - 1) (p2:=(x:Int) - (a:Int)) (z:=((b - 1 - (x - a):Nat):Int)) rfl rfl rfl rfl (by rw [hpz,wr_i64 (by omega)]) rfl ?_) | (refine gg ?_))
      exact H.Ba (b - 1 - (x - a),1,Go.Sort.reverseRange d1 a b) ⟨by show a ≤ b - 1 - (x - a);omega,by show b - 1 - (x - a) < b;omega,permIn_trans _ _ _ _ _ hP1 (reverseRange_holds d1 a b hab (by omega))⟩ ⟨rfl,rfl,rfl,rfl,rfl,rfl,rfl,rfl,rfl,trivial⟩ rfl rfl
     ·refine gP ?_;exact H.Ba (x,h,d1) ⟨hx1,hx2,hP1⟩ ⟨rfl,rfl,rfl,rfl,rfl,rfl,rfl,rfl,rfl,trivial⟩ rfl rfl
    clear hP1 hd1 hx1 hx2;obtain ⟨pv,hh,d2⟩:=s;obtain ⟨hp1,hp2,hP2⟩:a ≤ pv ∧ pv < b ∧ PermIn a b d d2:=hs;show H _ _ _ [(11,.int .i64 (pv:Int)),(12,.int .i64 hh),(0,.slice p n c),(1,.int .i64 (a:Int)),(2,.int .i64 (b:Int)),(3,.int .i64 lim1),(8,.bool wb),(9,.bool wp),(10,.int .i64 (l:Int))] f (slc p n c _ 1 (arr d2)::F) _;have hd2:d2.size = n:=hP2.1.trans hd;repeat apply H.seq
    refine H.cut (ι:=Bool) (fun t=>[(68,.bool t),(11,.int .i64 (pv:Int)),(0,.slice p n c),(1,.int .i64 (a:Int)),(2,.int .i64 (b:Int)),(3,.int .i64 lim1),(8,.bool wb),(9,.bool wp),(10,.int .i64 (l:Int))]) (fun _=>f) (fun _=>slc p n c 24 1 (arr d2)::F) (fun _=>True) _ (fun t _=>?_) ?_;rotate_left
    ·cases wb with
     | false =>
      exact qcr
     | true =>
      cases wp with
      | false =>
       exact qcr
      | true =>
       refine gL ?_;exact H.Ba _ trivial ⟨rfl,rfl,rfl,rfl,rfl,rfl,rfl,rfl,rfl,trivial⟩ rfl rfl
    show H _ _ _ [(68,.bool t),(11,.int .i64 (pv:Int)),(0,.slice p n c),(1,.int .i64 (a:Int)),(2,.int .i64 (b:Int)),(3,.int .i64 lim1),(8,.bool wb),(9,.bool wp),(10,.int .i64 (l:Int))] f (slc p n c _ 1 (arr d2)::F) _;refine H.cut (ι:=Array Int) (fun _=>[(11,.int .i64 (pv:Int)),(0,.slice p n c),(1,.int .i64 (a:Int)),(2,.int .i64 (b:Int)),(3,.int .i64 lim1),(8,.bool wb),(9,.bool wp),(10,.int .i64 (l:Int))]) (fun _=>f) (fun s=>slc p n c 24 1 (arr s)::F) (fun s=>PermIn a b d s) _ (fun d3 hP3=>?_) ?_;rotate_left
    ·cases t with
     | false =>
      refine gW ?_;exact H.Ba d2 hP2 ⟨rfl,rfl,rfl,rfl,rfl,rfl,rfl,rfl,trivial⟩ rfl rfl
     | true =>
      have h1:=partialInsertionSort_holds swo_ltInt d2 a b (by omega) (by omega) (hB.perm (by omega) hP2);have h2:=permIn_trans _ _ _ _ _ hP2 h1.1
      refine gX ?_;refine H.Af rfl rfl rfl (partIns_fn f _ (a:=a) (b:=b) hd2 (by omega) (by omega) hbn) ?_;generalize partialInsertionSort ltInt d2 a b = r at *;obtain ⟨d3,r2⟩:=r
      cases r2 with
      | true =>
       refine gX ?_;have h3:=hfin d3 h2 (h1.2 rfl);exact H.ret0 rfl (fun _ h=>h) ⟨d3,h3.1,h3.2,rfl,rfl,rfl⟩
      | false =>
       refine gW ?_;exact H.Ba d3 h2 ⟨rfl,rfl,rfl,rfl,rfl,rfl,rfl,rfl,trivial⟩ rfl rfl
    clear hP2 hd2;show H _ _ _ [(11,.int .i64 (pv:Int)),(0,.slice p n c),(1,.int .i64 (a:Int)),(2,.int .i64 (b:Int)),(3,.int .i64 lim1),(8,.bool wb),(9,.bool wp),(10,.int .i64 (l:Int))] f (slc p n c _ 1 (arr d3)::F) _;have hd3:d3.size = n:=hP3.1.trans hd;have hB3:=hB.perm (by omega) hP3
    repeat apply H.seq
    refine H.cut (ι:=Bool) (fun t=>[(87,.bool t),(11,.int .i64 (pv:Int)),(0,.slice p n c),(1,.int .i64 (a:Int)),(2,.int .i64 (b:Int)),(3,.int .i64 lim1),(8,.bool wb),(9,.bool wp),(10,.int .i64 (l:Int))]) (fun _=>f) (fun _=>slc p n c 24 1 (arr d3)::F) (fun t=>t = true→0 < a ∧ ltInt d3[a - 1]! d3[pv]! = false) _ (fun t ht=>?_) ?_;rotate_left
    ·refine H.Av (p:=p) (n0:=n) (c:=c) (T:=24) (sz:=1) (xs:=arr d3) (.here _ _ _) (by omega) fun sb hp=>?_;subst hp;by_cases ha0:0 < a
     ·obtain ⟨a1,rfl⟩:∃ a1,a = a1 + 1:=⟨a - 1,by omega⟩;refine qdA ?_;refine HB.qu [0,1,2,3,4,5,6,7,8,9,10,11] 3 ?_;refine gZ ?_;refine HQ.Aj (i:=a1) rfl rfl rfl (by omega) (by omega) rfl ?_;refine qfG ?_;refine HQ.Aj (i:=pv) rfl rfl rfl (by omega) (by omega) rfl ?_;refine qcU ?_;refine qfa ?_;refine H.Af rfl rfl rfl (zcf f _ d3[a1]! d3[pv]!) ?_;refine qcS ?_;refine HB.qu [13,14] 0 ?_;refine qeP ?_
      cases hlx:ltInt d3[a1]! d3[pv]! with
      | true =>
       exact qck
      | false =>
       skip;exact H.Ba true (fun _=>⟨ha0,hlx⟩) ⟨rfl,rfl,rfl,rfl,rfl,rfl,rfl,rfl,rfl,trivial⟩ rfl rfl
     ·skip;refine qdA ?_;refine qgz ?_;exact qck
    show H _ _ _ [(87,.bool t),(11,.int .i64 (pv:Int)),(0,.slice p n c),(1,.int .i64 (a:Int)),(2,.int .i64 (b:Int)),(3,.int .i64 lim1),(8,.bool wb),(9,.bool wp),(10,.int .i64 (l:Int))] f (slc p n c _ 1 (arr d3)::F) _
    cases t with
    | true =>
     obtain ⟨ha0,hnl⟩:=ht rfl;obtain ⟨g1,g2,g3,g4,g5⟩:=round_eq swo_ltInt (partitionEqual_holds ltInt) ha0 hp1 hp2 (by omega) hB3 hnl (d4:=(partitionEqual ltInt d3 a b pv).2) (mid:=(partitionEqual ltInt d3 a b pv).1) rfl;refine gX ?_;refine H.Af rfl rfl rfl (partEq_fn f _ (a:=a) (b:=b) (pivot:=pv) hd3 (by omega) hp1 hp2 hbn) ?_;generalize (partitionEqual ltInt d3 a b pv).1 = mid at *;generalize (partitionEqual ltInt d3 a b pv).2 = d4 at *;refine gR ?_
     exact H.Aq (mid,b,lim1,wb,wp,d4) ⟨by show mid ≤ b;omega,hbn,by show b - mid ≤ m + 1;omega,by show d4.size = n;omega,hl1,g4,fun R h1 h2=>by
      have h3:=g5 R h1 h2
      exact hfin R (permIn_trans _ _ _ _ _ hP3 h3.1) h3.2⟩ (by show b - mid < b - a;omega) ⟨rfl,rfl,rfl,rfl,rfl,rfl,trivial⟩ rfl rfl
    | false =>
     have hrp:=round_part swo_ltInt (partition_holds ltInt) hp1 hp2 (by omega:b ≤ d3.size) hB3 (d4:=(partition ltInt d3 a b pv).2.2) (ap:=(partition ltInt d3 a b pv).2.1) (mid:=(partition ltInt d3 a b pv).1) rfl;have hq:IntKind.wrap .i64 ((l:Int).tdiv 8) = ((l / 8:Nat):Int):=by rw [show (8:Int) = ((8:Nat):Int) from rfl,tdiv64,wr_i64 (by omega)]
     refine gW ?_;refine H.Al rfl rfl rfl (partition_fn f F (a:=a) (b:=b) (pivot:=pv) hd3 (by omega) hp1 hp2 hbn) fun v f' A' hR=>?_;generalize (partition ltInt d3 a b pv).1 = mid at *;generalize (partition ltInt d3 a b pv).2.2 = d4 at *;obtain ⟨ap,rfl,hff,rfl⟩:=hR;rw [hff];obtain ⟨g1,g2,g3,g4,g5,g6,g7⟩:=hrp;by_cases hlr:mid - a < b - mid
     ·skip;repeat (first | (refine H.quo (p:=(l:Int)) (z:=((l / 8:Nat):Int)) rfl rfl rfl (by decide) hq rfl ?_) | (refine gg ?_))
      refine H.Al rfl rfl rfl (ih (n:=n) (c:=c) (p:=p) (a0:=a) (b0:=mid) (lim0:=lim1) (d0:=d4) (by omega) hn g1 (by omega) hl1 g4 (by omega)) fun v f' A' hR=>?_;obtain ⟨L,hL1,hL2,rfl,hff,rfl⟩:=hR;rw [hff];obtain ⟨k1,k2⟩:=g6 L hL1 hL2;refine gD ?_
      exact H.Aq (mid + 1,b,lim1,_,ap,L) ⟨by show mid + 1 ≤ b;omega,hbn,by show b - (mid + 1) ≤ m + 1;omega,by show L.size = n;have:=hL1.1;omega,hl1,k1,fun R h1 h2=>by
       have h3:=k2 R h1 h2
       exact hfin R (permIn_trans _ _ _ _ _ hP3 h3.1) h3.2⟩ (by show b - (mid + 1) < b - a;omega) ⟨rfl,rfl,rfl,rfl,rfl,rfl,trivial⟩ rfl rfl
     ·skip;repeat (first | (refine H.quo (p:=(l:Int)) (z:=((l / 8:Nat):Int)) rfl rfl rfl (by decide) hq rfl ?_) | (refine gg ?_))
      refine H.Al rfl rfl rfl (ih (n:=n) (c:=c) (p:=p) (a0:=mid + 1) (b0:=b) (lim0:=lim1) (d0:=d4) (by omega) hn (by omega) hbn hl1 g5 (by omega)) fun v f' A' hR=>?_;obtain ⟨L,hL1,hL2,rfl,hff,rfl⟩:=hR;rw [hff];obtain ⟨k1,k2⟩:=g7 L hL1 hL2;refine gR ?_
      exact H.Aq (a,mid,lim1,_,ap,L) ⟨g1,by show mid ≤ n;omega,by show mid - a ≤ m + 1;omega,by show L.size = n;have:=hL1.1;omega,hl1,k1,fun R h1 h2=>by
       have h3:=k2 R h1 h2
       exact hfin R (permIn_trans _ _ _ _ _ hP3 h3.1) h3.2⟩ (by show mid - a < b - a;omega) ⟨rfl,rfl,rfl,rfl,rfl,rfl,trivial⟩ rfl rfl
end
def w15C (kb n:Nat) (ap:Option Addr) (m ac lb:Nat):List Value:=[.slice (some ⟨kb,0,none⟩) n n,.slice ap m ac,.pointer (some ⟨lb,0,none⟩)]
variable {fl:Frag} {kb lb T m ac o:Nat} {ap:Option Addr}
section
variable (f:Frag) (F:List HP)
theorem great_fn (hfl:Le fl f) {l:Lgs} (hL:LI l T) (ho:o < l.n) :
  Fn Tryz.prog 113 [.pointer (some ⟨wb,0,none⟩),.int .i64 ((o + 1:Nat):Int)] f (logsH fl lb l::row wb 34 (w15C kb n ap m ac lb)::F)
   (Ret (.int .u64 (l.past o).g) f (logsH fl lb l::row wb 34 (w15C kb n ap m ac lb)::F)):=by
 refine Fn.unpack fun i0 hi=>?_;obtain ⟨V,vp,vc,pp,pc,cp,cc,pb,cs⟩:=i0;have hiF:=hi.mono hfl;have hn:=hL.n3
 obtain ⟨pbb,poff,hpp0,rdp0⟩:=hiF.past (by show 0 < l.n;omega);have hpp:pp = some ⟨pbb,poff,none⟩:=hpp0;have rdp:∀ {A:List HP} {r:Nat},r < l.n→Rd1 f A pbb (poff + r) (.pointer (some ⟨pb r,0,none⟩)):=fun {A r} hr=>rdp0 (Le.refl f) hr
 clear hpp0 rdp0;show Fn _ _ _ f (row lb 75 (lgC l.n l.known vp V.length vc pp pc cp cc)::slc vp V.length vc 81 4 (V.flatMap VV.vals)::lst (V.map VV.own)::fam (fun r=>pstH (pb r) (l.past r)) l.n::slc cp l.n cc 253 1 (chRow l cs)::fam (chFam l cs) l.n::_::F) _;refine Fn.e2 Tryz.func113 Tryz.ntmps113 fun base=>?_;refine gM ?_;refine H.Ag (b:=pbb) (off:=poff) (i:=o) rfl (by rw [← hpp];rfl) rfl (by omega) ho rfl ?_;refine H.Ab rfl rfl rfl (by rw [Nat.mul_one];exact rdp ho) rfl ?_;refine qet ?_;refine H.Bn ho ?_;refine pstH_openH fun eb ec=>?_;refine gM ?_;refine H.imp (zax (b:=pb o) (eb:=eb) (ec:=ec) (s:=l.past o)) ?_;refine H.By (g:=fun r=>pstH (pb r) (l.past r)) ho ?_;refine qcR ?_;refine H.imp (zai ⟨V,vp,vc,pp,pc,cp,cc,pb,cs⟩ hi) ?_;exact qah
theorem byte_toNat {k:Nat} (h:k < 256):((UInt8.ofNat k).toNat:Int) = (k:Int):=by
 exact qcl
theorem ask_fn (x:A15):Fn Tryz.prog 114 [.agg x.vals.toArray] f F (Ret (.agg x.req.vals.toArray) f F):=by
 have hcm:((x.client.toNat % 3:Nat):Int) ≤ 2:=by omega
 have hkm:((x.key.toNat % 4:Nat):Int) ≤ 3:=by omega
 have htm:((x.time.toNat % 10:Nat):Int) ≤ 9:=by omega
 have ht:=x.time.toNat_lt;have hsg:=fun G=>rsigned_fn f G x.req0
 refine Fn.e1 Tryz.func114 Tryz.ntmps114 fun base=>?_;refine qdd fun xb=>?_;refine qeZ fun ob=>?_;refine gF ?_;refine H.rem (z:=((x.client.toNat % 3:Nat):Int)) rfl rfl rfl (by decide) (zak (b:=3) rfl) rfl ?_;refine gH ?_;refine H.rem (z:=((x.key.toNat % 4:Nat):Int)) rfl rfl rfl (by decide) (zak (b:=4) rfl) rfl ?_;refine gH ?_;refine H.Bh (d:=16) (u:=.int .u8 ((UInt8.ofNat (97 + x.key.toNat % 4)).toNat:Nat)) rfl (by rw [byte_toNat (by omega)];rfl) ?_;refine H.Ar (out:=bytesV [UInt8.ofNat (97 + x.key.toNat % 4)]) rfl rfl rfl rfl (by decide) (by decide) rfl rfl fun eb=>?_;refine H.convBS (bs:=[UInt8.ofNat (97 + x.key.toNat % 4)]) rfl rfl (Src.slice (Rd.ofRow (.here _ _ _)) rfl) (fun h=>by cases h) rfl ?_;refine gH ?_;refine H.rem (z:=((x.time.toNat % 10:Nat):Int)) rfl rfl rfl (by decide) (zak (b:=10) rfl) rfl ?_;refine gH ?_;refine H.Bh (d:=22) (u:=.int .u8 ((UInt8.ofNat (48 + x.time.toNat % 10)).toNat:Nat)) rfl (by rw [byte_toNat (by omega)];rfl) ?_;refine H.Ar (out:=bytesV [UInt8.ofNat (48 + x.time.toNat % 10)]) rfl rfl rfl rfl (by decide) (by decide) rfl rfl fun eb2=>?_;refine H.convBS (bs:=[UInt8.ofNat (48 + x.time.toNat % 10)]) rfl rfl (Src.slice (Rd.ofRow (.here _ _ _)) rfl) (fun h=>by cases h) rfl ?_;refine qgi ?_;repeat (first | (refine H.Az (t:=44) (out:=x.req0.vals) rfl rfl rfl (by kernel_rfl) rfl ?_) | (refine gg ?_))
 refine qeZ fun rb=>?_;refine H.Ah (ls:=Req.zero.vals) (vs:=x.req0.vals) (ls':=x.req0.vals) rfl rfl rfl (zaa rfl) rfl rfl (Nat.le_refl 40) (.here _ _ _) ?_;refine gF ?_;unfold A15.req
 cases hno:x.no with
 | true =>
  refine gX ?_;refine H.Ae (ls:=x.req0.vals) rfl rfl rfl (Rd.ofRow (.here _ _ _)) rfl rfl ?_;refine H.Ah (ls:=Req.zero.vals) (vs:=x.req0.vals) (ls':=x.req0.vals) rfl rfl rfl (zaa rfl) rfl rfl (Nat.le_refl 40) (.there _ (.here _ _ _)) ?_;refine qfm ?_;refine qhh ?_;exact H.Ax (ls:=x.req0.vals) rfl rfl rfl (Rd.ofRow (.here _ _ _)) rfl (fun _ s=>s.drop (.here _ _)) ⟨rfl,rfl,rfl⟩
 | false =>
  refine gW ?_;refine H.Ae (ls:=x.req0.vals) rfl rfl rfl (Rd.ofRow (.here _ _ _)) rfl rfl ?_;refine H.cr (hsg _) ?_;refine H.Ah (ls:=Req.zero.vals) (vs:=x.req0.signed.vals) (ls':=x.req0.signed.vals) rfl rfl rfl (zaa rfl) rfl rfl (Nat.le_refl 40) (.there _ (.here _ _ _)) ?_;refine qfm ?_;refine qhh ?_;exact H.Ax (ls:=x.req0.signed.vals) rfl rfl rfl (Rd.ofRow (.here _ _ _)) rfl (fun _ s=>s.drop (.here _ _)) ⟨rfl,rfl,rfl⟩
end
def A15.Has (f:Frag) (x:A15):Prop:=BAt f x.qp x.q
theorem qAcc_stop {row:Nat→List (Int × Int)} {half:Nat}:∀ {k m:Nat},k ≤ m→half < (qAcc row half k).length→qAcc row half m = qAcc row half k
 | k, 0, h, _ => by
  have:k = 0:=by omega
  rw [this]
 | k, m + 1, h, hl => by
  by_cases e:k = m + 1
  ·rw [e]
  ·have ih:=qAcc_stop (m:=m) (by omega) hl
   show (if (qAcc row half m).length ≤ half then qAcc row half m ++ row m else qAcc row half m) = _
   rw [ih,if_neg (by omega)]
def qPart (ch:Nat→List (Int × Int)) (kv:Nat→Int) (v:Int) (raw:Bool) (r i:Nat):List (Int × Int):=(((ch r).take i).filter fun c=>decide (c.1 = v) && decide (c.2 ≤ kv r) && !raw).map fun c=>(((r + 1:Nat):Int),c.2)
theorem qPart_all (ch:Nat→List (Int × Int)) (kv:Nat→Int) (v:Int) (raw:Bool) (r:Nat):qPart ch kv v raw r (ch r).length = qRow ch kv v raw r:=by unfold qPart qRow;rw [List.take_length]
theorem qPart_next {ch:Nat→List (Int × Int)} {kv:Nat→Int} {v:Int} {raw:Bool} {r i:Nat} {c:Int × Int} (hc:(ch r)[i]? = some c):qPart ch kv v raw r (i + 1) = qPart ch kv v raw r i ++ (if (decide (c.1 = v) && decide (c.2 ≤ kv r) && !raw) = true then [(((r + 1:Nat):Int),c.2)] else []):=by
 unfold qPart;rw [filt_take hc,List.map_append];congr 1;split <;> rfl
theorem qPart_len (ch:Nat→List (Int × Int)) (kv:Nat→Int) (v:Int) (raw:Bool) (r i:Nat):(qPart ch kv v raw r i).length ≤ (ch r).length:=by
 unfold qPart;rw [List.length_map];exact qcM
variable {x:A15}
section
variable (f:Frag) (F:List HP)
theorem q15_fn (hfl:Le fl f) {l:Lgs} (hL:LI l T) (hT:T ≤ 1000) (hnn:l.n = n) (ho:o < n) {kv:Nat→Nat→Int} (hx:x.Has f) (hq20:x.q.length ≤ 20) (v:Int) :
  Fn Tryz.prog 115 [.pointer (some ⟨wb,0,none⟩),.int .i64 ((o + 1:Nat):Int),.agg x.vals.toArray,.int .u64 v] f (logsH fl lb l::row wb 34 (w15C kb n ap m ac lb)::row kb 36 (kRow n kv)::F)
   (RetE (fun i:Option Addr × Nat=>.slice i.1 (x.qs n l.ch (kv o) v).length i.2) f (fun i=>slc i.1 (x.qs n l.ch (kv o) v).length i.2 133 2 ((x.qs n l.ch (kv o) v).flatMap pairV)::logsH fl lb l::row wb 34 (w15C kb n ap m ac lb)::row kb 36 (kRow n kv)::F)):=by
 refine Fn.unpack fun i0 hi=>?_;obtain ⟨V,vp,vc,pp,pc,cp,cc,pb,cs⟩:=i0;have hn:=hL.n3;obtain ⟨acc,hacc⟩:∃ acc:Nat→List (Int × Int),acc = qAcc (qRow l.ch (kv o) v x.raw) ((n - 1) / 2):=⟨_,rfl⟩
 have hal:∀ k,(acc k).length ≤ (n - 1) / 2 + T:=fun k=>by rw [hacc];exact qAcc_len (fun r=>Nat.le_trans (qRow_len _ _ _ _ r) (hL.cl r)) k
 show Fn _ _ _ f (row lb 75 (lgC l.n l.known vp V.length vc pp pc cp cc)::slc vp V.length vc 81 4 (V.flatMap VV.vals)::lst (V.map VV.own)::fam (fun r=>pstH (pb r) (l.past r)) l.n::slc cp l.n cc 253 1 (chRow l cs)::fam (chFam l cs) l.n::row wb 34 (w15C kb n ap m ac lb)::row kb 36 (kRow n kv)::F) _;refine Fn.e4 Tryz.func115 Tryz.ntmps115 fun base=>?_;refine qdd fun xb=>?_;refine gM ?_;refine H.slc0 133 2 ?_;refine qcR ?_;refine qdq ?_;refine H.pf (x:=slc none _ _ _ _ _) ?_;refine qer ?_
 refine H.loop (ι:=Nat × Option Addr × Nat) (fun s=>[(11,.int .i64 ((s.1 + 1:Nat):Int)),(9,.slice s.2.1 (acc s.1).length s.2.2),(10,.int .i64 (n:Int)),(0,.pointer (some ⟨wb,0,none⟩)),(1,.int .i64 ((o + 1:Nat):Int)),(3,.int .u64 v),(6,.pointer (some ⟨xb,0,none⟩))]) (fun _=>f)
  (fun s=>row xb 88 x.vals::slc s.2.1 (acc s.1).length s.2.2 133 2 ((acc s.1).flatMap pairV)::row wb 34 (w15C kb n ap m ac lb)::row kb 36 (kRow n kv)::row lb 75 (lgC l.n l.known vp V.length vc pp pc cp cc)::slc vp V.length vc 81 4 (V.flatMap VV.vals)::lst (V.map VV.own)::fam (fun r=>pstH (pb r) (l.past r)) l.n::slc cp l.n cc 253 1 (chRow l cs)::fam (chFam l cs) l.n::F)
  (fun s=>s.1 ≤ n) (fun s=>n - s.1) (0,none,0) (Nat.zero_le _) ⟨rfl,by rw [hacc];rfl,rfl,rfl,rfl,rfl,rfl,trivial⟩ rfl (by rw [hacc];rfl) fun s hs=>?_
 obtain ⟨r,qp,qc⟩:=s;have hrn:r ≤ n:=hs;have halr:=hal r
 show H _ _ _ [(11,.int .i64 ((r + 1:Nat):Int)),(9,.slice qp (acc r).length qc),_,_,_,_,_] f (_::slc qp (acc r).length qc _ 2 ((acc r).flatMap pairV)::_::_::_::_::_::_::_::_::F) _
 have hquo:(((n:Int) - 1).tdiv 2) = (((n - 1) / 2:Nat):Int):=by
  rw [show ((n:Int) - 1) = ((n - 1:Nat):Int) by omega];exact (Int.ofNat_tdiv (n - 1) 2).symm
 by_cases hgo:r < n ∧ (acc r).length ≤ (n - 1) / 2
 ·obtain ⟨hr,hlen⟩:=hgo;have hrl:r < l.n:=by omega
  have hcl:=hL.cl r;have hr11:r < 11:=by omega
  refine H.Av (p:=cp) (n0:=l.n) (c:=cc) (T:=253) (sz:=1) (xs:=chRow l cs) (by repeat constructor) (by omega) fun cb hcb=>?_;have hCd:∀ {A A':List HP},At A (slc cp l.n cc 253 1 (chRow l cs)) A' (slc cp l.n cc 253 1 (chRow l cs))→Rd f A cb 0 (chRow l cs):=fun {A A'} h=>Rd.ofSlc (n:=l.n) (c:=cc) (T:=253) (sz:=1) (by rw [← hcb];exact h) (by omega)
  have hsucc:acc (r + 1) = acc r ++ qRow l.ch (kv o) v x.raw r:=by
   rw [hacc] at hlen ⊢;show (if _ then _ else _) = _;rw [if_pos hlen]
  refine gc ?_;refine H.quo (z:=(((n - 1) / 2:Nat):Int)) rfl rfl rfl (by decide) (by rw [hquo,wr_i64 (by omega)]) rfl ?_;refine gV ?_;refine H.Ag (b:=cb) (off:=0) (i:=r) rfl (by rw [← hcb];rfl) rfl (by omega) hrl rfl ?_;refine H.Ab rfl rfl rfl (by rw [Nat.zero_add,Nat.mul_one];exact Rd1.at0 (hCd (by repeat constructor)) (rngV_get _ hrl)) rfl ?_;refine gR ?_;refine qfv ?_;refine H.Bn hrl ?_;refine H.pf (x:=fam (updF _ _ _) _) ?_;refine qdJ ?_;refine qen ?_;refine qdq ?_;refine H.pf (x:=slc qp _ qc _ _ _) ?_;refine H.pf (x:=chFam l cs r) ?_;refine qer ?_;obtain ⟨pt,hpt⟩:∃ pt:Nat→List (Int × Int),pt = fun i=>acc r ++ qPart l.ch (kv o) v x.raw r i:=⟨_,rfl⟩;have hp0:pt 0 = acc r:=by rw [hpt];show acc r ++ [] = _;rw [List.append_nil]
  have hpl:∀ i,(pt i).length ≤ (n - 1) / 2 + T + T:=fun i=>by
   rw [hpt];show (acc r ++ _).length ≤ _;rw [List.length_append]
   have:=qPart_len l.ch (kv o) v x.raw r i;omega
  refine H.loop (ι:=Nat × Option Addr × Nat) (fun s=>[(13,.int .i64 (s.1:Int)),(12,.slice (cs r).1 (l.ch r).length (cs r).2),(9,.slice s.2.1 (pt s.1).length s.2.2),(11,.int .i64 ((r + 1:Nat):Int)),(10,.int .i64 (n:Int)),(0,.pointer (some ⟨wb,0,none⟩)),(1,.int .i64 ((o + 1:Nat):Int)),(3,.int .u64 v),(6,.pointer (some ⟨xb,0,none⟩))]) (fun _=>f)
   (fun s=>row xb 88 x.vals::chFam l cs r::slc s.2.1 (pt s.1).length s.2.2 133 2 ((pt s.1).flatMap pairV)::row wb 34 (w15C kb n ap m ac lb)::row kb 36 (kRow n kv)::row lb 75 (lgC l.n l.known vp V.length vc pp pc cp cc)::slc vp V.length vc 81 4 (V.flatMap VV.vals)::lst (V.map VV.own)::fam (fun r=>pstH (pb r) (l.past r)) l.n::slc cp l.n cc 253 1 (chRow l cs)::fam (updF (chFam l cs) r emp) l.n::F)
   (fun s=>s.1 ≤ (l.ch r).length) (fun s=>(l.ch r).length - s.1) (0,qp,qc) (Nat.zero_le _) ⟨rfl,rfl,by rw [hp0];rfl,rfl,rfl,rfl,rfl,rfl,rfl,trivial⟩ rfl (by rw [hp0]) fun s hs=>?_
  obtain ⟨i,qp,qc⟩:=s;have hi2:i ≤ (l.ch r).length:=hs;have hpli:=hpl i
  show H _ _ _ [(13,.int .i64 (i:Int)),_,(9,.slice qp (pt i).length qc),_,_,_,_,_,_] f (_::_::slc qp (pt i).length qc _ 2 ((pt i).flatMap pairV)::_::_::_::_::_::_::_::_::F) _;by_cases hlt:i < (l.ch r).length
  ·obtain ⟨y,hy⟩:∃ y,(l.ch r)[i]? = some y:=⟨_,List.getElem?_eq_getElem hlt⟩;refine qgS fun sb hp=>?_
   have rd:∀ {G0:HP} {G:List HP},Rd f (G0::chFam l cs r::G) sb (0 + i * 2) (chV y):=fun {G0 G}=>by
    rw [Nat.zero_add];exact Rd.slcElem (vals:=chV) (xs:=l.ch r) (n:=(l.ch r).length) (c:=(cs r).2) (T:=255) chV_len (by decide) (by rw [← hp];exact .there _ (.here _ _ _)) hy
   have hnx:pt (i + 1) = pt i ++ (if (decide (y.1 = v) && decide (y.2 ≤ kv o r) && !x.raw) = true then [(((r + 1:Nat):Int),y.2)] else []):=by
    rw [hpt];show acc r ++ qPart _ _ _ _ _ (i + 1) = acc r ++ qPart _ _ _ _ _ i ++ _;rw [qPart_next hy,List.append_assoc]
   refine gG ?_;refine H.dq ?_;refine gB ?_;refine HQ.Ag (b:=sb) (off:=0) (i:=i) rfl (by rw [← hp];rfl) rfl rfl hlt rfl ?_;refine gQ ?_;refine HQ.Ab rfl rfl rfl (Rd1.of (i:=0) rd rfl) rfl ?_;refine gN ?_;by_cases h1:y.1 = v
   ·skip;refine gN ?_;refine HQ.Ag (b:=sb) (off:=0) (i:=i) rfl (by rw [← hp];rfl) rfl rfl hlt rfl ?_;refine gQ ?_;refine HQ.Ab rfl rfl rfl (Rd1.of (i:=1) rd rfl) rfl ?_;refine gS ?_;refine HQ.Ag (b:=kb) (off:=0) (i:=o) rfl rfl rfl (by omega) ho rfl ?_;refine HQ.Ao (i:=r) rfl rfl rfl (by omega) hr11 rfl ?_;refine HQ.Ab rfl rfl rfl (by rw [Nat.zero_add,Nat.mul_one];exact Rd1.of (Rd.kRow (Rd.ofRow (by repeat constructor)) ho) (zaw (kv o) hr11)) rfl ?_;refine gN ?_;by_cases h2:y.2 ≤ kv o r
    ·by_cases hraw : x.raw = true
     ·have hr1:(!x.raw) = false:=by rw [hraw];rfl
      rw [hraw,Bool.not_true,Bool.and_false,if_neg (by decide),List.append_nil] at hnx;refine gZ ?_;refine gc ?_;exact qaq
     ·have hraw:x.raw = false:=by
       cases e:x.raw with
       | true=>exact absurd e hraw
       | false=>rfl
      have hr1:(!x.raw) = true:=by rw [hraw];rfl
      rw [hraw,decide_eq_true h1,decide_eq_true h2,if_pos (by decide)] at hnx;refine gZ ?_;refine ga ?_;refine H.Ag (b:=sb) (off:=0) (i:=i) rfl (by rw [← hp];rfl) rfl rfl hlt rfl ?_;refine gH ?_;refine H.Ab rfl rfl rfl (Rd1.of (i:=1) rd rfl) rfl ?_;refine gL ?_;refine H.Ar (out:=pairV (((r + 1:Nat):Int),y.2)) rfl rfl rfl rfl (by decide) (by decide) rfl rfl fun eb=>?_;refine H.Aw (sz:=2) (p:=qp) (n0:=(pt i).length) (c:=qc) (xs:=(pt i).flatMap pairV) (m:=1) (news:=pairV (((r + 1:Nat):Int),y.2)) rfl rfl rfl rfl rfl (fun p' c'=>(by repeat constructor)) (Src.slice (Rd.ofRow (by repeat constructor)) rfl) (zaa rfl) rfl (by omega) (by omega) fun p2 c2=>?_;refine gD ?_;refine qgC ?_;refine H.Aq (i + 1,p2,c2) (by show i + 1 ≤ (l.ch r).length;omega) (by show (l.ch r).length - (i + 1) < (l.ch r).length - i;omega) ⟨rfl,rfl,?_,rfl,rfl,rfl,rfl,rfl,rfl,trivial⟩ rfl ?_
      ·show some (Value.slice p2 ((pt i).length + 1) c2) = some (Value.slice p2 (pt (i + 1)).length c2);rw [hnx,List.length_append];rfl
      ·show _::_::slc p2 ((pt i).length + 1) c2 _ 2 _::_ = _::_::slc p2 (pt (i + 1)).length c2 _ 2 ((pt (i + 1)).flatMap pairV)::_;rw [hnx,List.length_append,List.flatMap_append];simp
    ·rw [decide_eq_false h2,Bool.and_false,Bool.false_and,if_neg (by decide),List.append_nil] at hnx;refine gZ ?_;refine gW ?_;exact qaq
   ·rw [decide_eq_false h1,Bool.false_and,Bool.false_and,if_neg (by decide),List.append_nil] at hnx;refine gZ ?_;refine gW ?_;exact qaq
  ·have e:i = (l.ch r).length:=by omega
   subst e;have hpe:pt (l.ch r).length = acc (r + 1):=by rw [hsucc,hpt,← qPart_all]
   rw [hpe];refine gP ?_;refine H.pf (x:=fam (updF _ _ _) _) ?_;refine H.pf (x:=chFam l cs r) ?_;refine H.By (g:=chFam l cs) hrl ?_;refine qcR ?_;refine qdq ?_;refine H.pf (x:=slc qp _ qc _ _ _) ?_;refine qer ?_;exact H.ag (r + 1,qp,qc) (by show r + 1 ≤ n;omega) (by show n - (r + 1) < n - r;omega)
 ·have hfin:acc n = acc r:=by
   by_cases e:r = n
   ·rw [e]
   ·rw [hacc];exact qAcc_stop hrn (by rw [← hacc];omega)
  have hqe:qAcc (qRow l.ch (kv o) v x.raw) ((n - 1) / 2) n = acc r:=by rw [← hfin,hacc]
  by_cases hr:r < n
  ·have hlen:(n - 1) / 2 < (acc r).length:=by omega
   refine gc ?_;refine H.quo (z:=(((n - 1) / 2:Nat):Int)) rfl rfl rfl (by decide) (by rw [hquo,wr_i64 (by omega)]) rfl ?_;have h0:0 < (acc r).length:=by omega
   refine gV ?_;exact qaD
  ·by_cases h0 : 0 < (acc r).length
   ·skip;refine gY ?_;exact qaD
   ·by_cases hq0 : x.q.length = 0
    ·skip;refine ga ?_;refine qhh ?_;refine qcR ?_;refine H.imp (zai ⟨V,vp,vc,pp,pc,cp,cc,pb,cs⟩ hi) ?_;refine H.pf (x:=slc qp _ qc _ _ _) ?_;have hqs:x.qs n l.ch (kv o) v = acc r:=by unfold A15.qs;rw [if_pos (.inr hq0),hqe]
     rw [hqs];exact H.r1 ⟨(qp,qc),rfl,rfl,rfl⟩
    ·have hnil:acc r = []:=List.eq_nil_of_length_eq_zero (by omega)
     have hqs:x.qs n l.ch (kv o) v = qNum x.q (if n ≤ x.q.length then n else x.q.length):=by
      unfold A15.qs;rw [hqe,if_neg (by rintro (h | h);exact h0 h;exact hq0 h)]
     rw [hqs,hnil];clear hqs hqe hfin;refine ga ?_;rcases hx with e0 | ⟨qb,qoff,qcs,qT,qfr,hqp,hqfb,hqcs⟩
     ·rw [e0] at hq0;exact absurd rfl hq0
     ·have hrdo:∀ A,Rd f A qb qoff (bytesV x.q):=fun A=>Rd.imm hqfb fun j hj=>by rw [zad] at hj;exact hqcs j hj
      refine H.lo (ι:=Nat × Option Addr × Nat) (fun s=>[(14,.int .i64 ((s.1 + 1:Nat):Int)),(9,.slice s.2.1 s.1 s.2.2),(10,.int .i64 (n:Int)),(6,.pointer (some ⟨xb,0,none⟩))]) (fun _=>f)
       (fun s=>row xb 88 x.vals::slc s.2.1 s.1 s.2.2 133 2 ((qNum x.q s.1).flatMap pairV)::row wb 34 (w15C kb n ap m ac lb)::row kb 36 (kRow n kv)::row lb 75 (lgC l.n l.known vp V.length vc pp pc cp cc)::slc vp V.length vc 81 4 (V.flatMap VV.vals)::lst (V.map VV.own)::fam (fun r=>pstH (pb r) (l.past r)) l.n::slc cp l.n cc 253 1 (chRow l cs)::fam (chFam l cs) l.n::F)
       (fun s=>s.1 ≤ n ∧ s.1 ≤ x.q.length) (fun s=>n - s.1) (0,qp,qc) ⟨Nat.zero_le _,Nat.zero_le _⟩ fun s hs=>?_
      obtain ⟨j,qp,qc⟩:=s;obtain ⟨hj1,hj2⟩:j ≤ n ∧ j ≤ x.q.length:=hs;show H _ _ _ [(14,.int .i64 ((j + 1:Nat):Int)),(9,.slice qp j qc),_,_] f (_::slc qp j qc _ 2 ((qNum x.q j).flatMap pairV)::_::_::_::_::_::_::_::_::F) _;by_cases hgo:j < n ∧ j < x.q.length
      ·obtain ⟨hjn,hjq⟩:=hgo;obtain ⟨w8,hw8⟩:∃ w8,x.q[j]? = some w8:=⟨_,List.getElem?_eq_getElem hjq⟩;have hby:(bytesV x.q)[j]? = some (.int .u8 (w8.toNat:Nat)):=by unfold bytesV;rw [List.getElem?_map,hw8];rfl
       have hw8l:=w8.toNat_lt;have hm8:((w8.toNat % 8:Nat):Int) ≤ 7:=by omega
       have hnx:qNum x.q (j + 1) = qNum x.q j ++ [(((j + 1:Nat):Int),1 + ((w8.toNat % 8:Nat):Int))]:=by
        show qNum x.q j ++ [(_,1 + (((x.q.getD j 0).toNat % 8:Nat):Int))] = _;rw [List.getD_eq_getElem?_getD,hw8];rfl
       refine gV ?_;refine H.index1 (b:=qb) (off:=qoff) (i:=j) rfl (by rw [← hqp];rfl) rfl (by omega) hjq rfl ?_;refine H.Ab rfl rfl rfl (Rd1.of (hrdo _) hby) rfl ?_;refine H.rem (z:=((w8.toNat % 8:Nat):Int)) rfl rfl rfl (by decide) (zak (b:=8) rfl) rfl ?_;refine gc ?_;refine H.Ar (out:=pairV (((j + 1:Nat):Int),1 + ((w8.toNat % 8:Nat):Int))) rfl rfl rfl rfl (by decide) (by decide) rfl rfl fun eb=>?_;refine H.Aw (sz:=2) (p:=qp) (n0:=j) (c:=qc) (xs:=(qNum x.q j).flatMap pairV) (m:=1) (news:=pairV (((j + 1:Nat):Int),1 + ((w8.toNat % 8:Nat):Int))) rfl rfl rfl rfl rfl (fun p' c'=>(by repeat constructor)) (Src.slice (Rd.ofRow (by repeat constructor)) rfl) (zaa rfl) rfl (by omega) (by omega) fun p2 c2=>?_;refine gD ?_;refine qgC ?_;refine H.Aq (j + 1,p2,c2) ⟨by show j + 1 ≤ n;omega,by show j + 1 ≤ x.q.length;omega⟩ (by show n - (j + 1) < n - j;omega) ⟨rfl,rfl,rfl,rfl,trivial⟩ rfl ?_;show _::slc p2 (j + 1) c2 _ 2 _::_ = _::slc p2 (j + 1) c2 _ 2 ((qNum x.q (j + 1)).flatMap pairV)::_;rw [hnx,List.flatMap_append];simp
      ·have hje:(if n ≤ x.q.length then n else x.q.length) = j:=by split <;> omega
       rw [hje,qNum_len];by_cases hjn:j < n
       ·skip;refine gT ?_;exact qaG
       ·skip;refine ga ?_;exact qaG
end
def bodW (k:UInt8) (v kk:Int):Bod:=⟨k,v,kk,Req.zero,[],noTag⟩
variable {W:W15}
section
variable (f:Frag) (F:List HP)
theorem body15_fn (hfl:Le fl f) (hW:WI n W T) (hT:T ≤ 1000) (ho:o < n) (hx:x.Has f) (hq20:x.q.length ≤ 20) :
  Fn Tryz.prog 73 [.pointer (some ⟨wb,0,none⟩),.int .i64 ((o + 1:Nat):Int),.agg x.vals.toArray] f (logsH fl lb W.l::row wb 34 (w15C kb n ap m ac lb)::row kb 36 (kRow n W.w.kv)::F)
   (BodP f (logsH fl lb W.l::row wb 34 (w15C kb n ap m ac lb)::row kb 36 (kRow n W.w.kv)::F) (x.bod W n o)):=by
 have hn:=hW.l.n3;have hnn:=hW.n
 have hol:o < W.l.n:=by omega
 have hwf:=hW.l.wf o hol;have hg0:=hwf.g0
 have hg1:=hW.l.gb o hol;have hvm:((x.view.toNat % 6:Nat):Int) ≤ 5:=by omega
 have hv2:((x.view.toNat % 2:Nat):Int) ≤ 1:=by omega
 have hkm:((x.k.toNat % 6:Nat):Int) ≤ 5:=by omega
 have hgr:=fun G=>great_fn f G hfl (wb:=wb) (kb:=kb) (lb:=lb) (l:=W.l) hW.l (ap:=ap) (m:=m) (ac:=ac) (n:=n) hol;have hcases:x.kind.toNat % 6 = 0 ∨ x.kind.toNat % 6 = 1 ∨ x.kind.toNat % 6 = 2 ∨ x.kind.toNat % 6 = 3 ∨ x.kind.toNat % 6 = 4 ∨ x.kind.toNat % 6 = 5:=by omega
 unfold A15.bod;rcases hcases with h | h | h | h | h | h
 ·have hk6:((x.kind.toNat:Nat):Int).tmod 6 = 0:=zak (b:=6) h;rw [h]
  have hask:=fun G=>ask_fn f G x;rcases Bool.eq_false_or_eq_true x.raw with hraw | hraw
  ·have hr1:(!x.raw) = false:=by rw [hraw];rfl
   have hb:x.bodK W n o 0 = (⟨1,((x.view.toNat % 6:Nat):Int),0,x.req,[],noTag⟩:Bod):=by simp [A15.bodK,hraw,Bod.zero]
   rw [hb];generalize x.req = rq at hask ⊢;refine qeR fun base=>?_;refine qdd fun xb=>?_;refine qdg fun ob=>?_;refine qfO fun bb=>?_;refine qdv ?_;refine H.Ae (ls:=(⟨1,((x.view.toNat % 6:Nat):Int),0,rq,[],noTag⟩:Bod).vals none 0) rfl rfl rfl (Rd.ofRow (.here _ _ _)) rfl rfl ?_;refine H.Ah (ls:=(Bod.zero 0).vals none 0) (vs:=(⟨1,((x.view.toNat % 6:Nat):Int),0,rq,[],noTag⟩:Bod).vals none 0) (ls':=(⟨1,((x.view.toNat % 6:Nat):Int),0,rq,[],noTag⟩:Bod).vals none 0) rfl rfl rfl (zaa rfl) rfl rfl (Nat.le_refl 76) (by repeat constructor) ?_;refine qcW ?_;exact H.Ax (ls:=(⟨1,((x.view.toNat % 6:Nat):Int),0,rq,[],noTag⟩:Bod).vals none 0) rfl rfl rfl (Rd.ofRow (.here _ _ _)) rfl (fun _ s=>s.drop (.here _ _)) ⟨nil0,none,0,rfl,QAt.nil _ _,Dj.nil _,(un_nil _).symm,rfl⟩
  ·have hr1:(!x.raw) = true:=by rw [hraw];rfl
   have hb:x.bodK W n o 0 = (⟨1,(W.l.past o).g,0,x.req,[],noTag⟩:Bod):=by simp [A15.bodK,hraw,Bod.zero]
   rw [hb];generalize x.req = rq at hask ⊢;refine qeR fun base=>?_;refine qdd fun xb=>?_;refine qdg fun ob=>?_;refine qfO fun bb=>?_;refine qdv ?_;refine H.Ae (ls:=(⟨1,(W.l.past o).g,0,rq,[],noTag⟩:Bod).vals none 0) rfl rfl rfl (Rd.ofRow (.here _ _ _)) rfl rfl ?_;refine H.Ah (ls:=(Bod.zero 0).vals none 0) (vs:=(⟨1,(W.l.past o).g,0,rq,[],noTag⟩:Bod).vals none 0) (ls':=(⟨1,(W.l.past o).g,0,rq,[],noTag⟩:Bod).vals none 0) rfl rfl rfl (zaa rfl) rfl rfl (Nat.le_refl 76) (by repeat constructor) ?_;refine qcW ?_;exact H.Ax (ls:=(⟨1,(W.l.past o).g,0,rq,[],noTag⟩:Bod).vals none 0) rfl rfl rfl (Rd.ofRow (.here _ _ _)) rfl (fun _ s=>s.drop (.here _ _)) ⟨nil0,none,0,rfl,QAt.nil _ _,Dj.nil _,(un_nil _).symm,rfl⟩
 ·have hk6:((x.kind.toNat:Nat):Int).tmod 6 = 1:=zak (b:=6) h;rw [h]
  rcases Bool.eq_false_or_eq_true x.raw with hraw | hraw
  ·have hr1:(!x.raw) = false:=by rw [hraw];rfl
   have hb:x.bodK W n o 1 = (⟨2,((x.view.toNat % 6:Nat):Int),(1 + ((x.k.toNat % 6:Nat):Int)),Req.zero,[],noTag⟩:Bod):=by simp [A15.bodK,hraw,Bod.zero]
   rw [hb];refine qeR fun base=>?_;refine qdd fun xb=>?_;refine qdg fun ob=>?_;refine qfH fun bb=>?_;refine qey ?_;refine H.Ae (ls:=(⟨2,((x.view.toNat % 6:Nat):Int),(1 + ((x.k.toNat % 6:Nat):Int)),Req.zero,[],noTag⟩:Bod).vals none 0) rfl rfl rfl (Rd.ofRow (.here _ _ _)) rfl rfl ?_;refine H.Ah (ls:=(Bod.zero 0).vals none 0) (vs:=(⟨2,((x.view.toNat % 6:Nat):Int),(1 + ((x.k.toNat % 6:Nat):Int)),Req.zero,[],noTag⟩:Bod).vals none 0) (ls':=(⟨2,((x.view.toNat % 6:Nat):Int),(1 + ((x.k.toNat % 6:Nat):Int)),Req.zero,[],noTag⟩:Bod).vals none 0) rfl rfl rfl (zaa rfl) rfl rfl (Nat.le_refl 76) (by repeat constructor) ?_;refine qcW ?_;exact H.Ax (ls:=(⟨2,((x.view.toNat % 6:Nat):Int),(1 + ((x.k.toNat % 6:Nat):Int)),Req.zero,[],noTag⟩:Bod).vals none 0) rfl rfl rfl (Rd.ofRow (.here _ _ _)) rfl (fun _ s=>s.drop (.here _ _)) ⟨nil0,none,0,rfl,QAt.nil _ _,Dj.nil _,(un_nil _).symm,rfl⟩
  ·have hr1:(!x.raw) = true:=by rw [hraw];rfl
   have hb:x.bodK W n o 1 = (⟨2,(W.l.past o).g,votedZ (W.l.past o) (W.l.past o).g + 1,Req.zero,[],noTag⟩:Bod):=by simp [A15.bodK,hraw,Bod.zero]
   rw [hb];have hvz:=votedZ_le hwf (by omega) (W.l.past o).g;have hvt:∀ (b:Nat) G,Fn Tryz.prog 72 [.pointer (some ⟨b,0,none⟩),.int .u64 (W.l.past o).g] f (pstH b (W.l.past o)::G) (Ret (.tuple #[.int .i64 (votedZ (W.l.past o) (W.l.past o).g),.bool (PM.voted (W.l.past o).all (W.l.past o).g).isSome]) f (pstH b (W.l.past o)::G)):=fun b G=>pst_voted f G b (W.l.past o) (by have:=hW.l.il o hol;omega) _
   generalize votedZ (W.l.past o) (W.l.past o).g = vz at hvt hvz ⊢;refine qeR fun base=>?_;refine qdd fun xb=>?_;refine qdg fun ob=>?_;refine qfH fun bb=>?_;refine qey ?_;refine qfq ?_;refine H.unpack fun i1 hi1=>?_;obtain ⟨V,vp,vc,pp,pc,cp,cc,pb,cs⟩:=i1;have hiF:=hi1.mono hfl;refine qeW ?_
   obtain ⟨pbb,poff,hpp0,rdp0⟩:=hiF.past (by show 0 < W.l.n;omega);have hpp:pp = some ⟨pbb,poff,none⟩:=hpp0;have rdp:∀ {A:List HP} {r:Nat},r < W.l.n→Rd1 f A pbb (poff + r) (.pointer (some ⟨pb r,0,none⟩)):=fun {A r} hr=>rdp0 (Le.refl f) hr
   clear hpp0 rdp0;refine qdh ?_;refine gM ?_;refine H.Ag (b:=pbb) (off:=poff) (i:=o) rfl (by rw [← hpp];rfl) rfl (by omega) hol rfl ?_;refine H.Ab rfl rfl rfl (by rw [Nat.mul_one];exact rdp hol) rfl ?_;refine gJ ?_;refine qet ?_;refine H.Bn hol ?_;refine H.cr (hvt _ _) ?_;refine H.By (g:=fun r=>pstH (pb r) (W.l.past r)) hol ?_;refine qfV ?_;refine gV ?_;refine H.Ae (ls:=(⟨2,(W.l.past o).g,vz + 1,Req.zero,[],noTag⟩:Bod).vals none 0) rfl rfl rfl (Rd.ofRow (.here _ _ _)) rfl rfl ?_;refine H.Ah (ls:=(Bod.zero 0).vals none 0) (vs:=(⟨2,(W.l.past o).g,vz + 1,Req.zero,[],noTag⟩:Bod).vals none 0) (ls':=(⟨2,(W.l.past o).g,vz + 1,Req.zero,[],noTag⟩:Bod).vals none 0) rfl rfl rfl (zaa rfl) rfl rfl (Nat.le_refl 76) (by repeat constructor) ?_;refine qcW ?_;exact H.Ax (ls:=(⟨2,(W.l.past o).g,vz + 1,Req.zero,[],noTag⟩:Bod).vals none 0) rfl rfl rfl (Rd.ofRow (.here _ _ _)) rfl (fun _ s=>s.drop (.here _ _)) ⟨nil0,none,0,rfl,QAt.nil _ _,Dj.nil _,(un_nil _).symm,rfl⟩
 ·have hk6:((x.kind.toNat:Nat):Int).tmod 6 = 2:=zak (b:=6) h;rw [h]
  rcases Bool.eq_false_or_eq_true x.raw with hraw | hraw
  ·have hr1:(!x.raw) = false:=by rw [hraw];rfl
   have hb:x.bodK W n o 2 = (⟨3,fix1 (((x.view.toNat % 6:Nat):Int)),0,Req.zero,[],noTag⟩:Bod):=by simp [A15.bodK,hraw,Bod.zero]
   rw [hb];refine qeR fun base=>?_;refine qdd fun xb=>?_;refine qdg fun ob=>?_;refine qfz fun bb=>?_;refine qeL ?_;refine qda ?_;by_cases hz:((x.view.toNat % 6:Nat):Int) = 0
   ·rw [show fix1 (((x.view.toNat % 6:Nat):Int)) = 1 from if_pos hz];refine gV ?_;refine H.Ae (ls:=(⟨3,1,0,Req.zero,[],noTag⟩:Bod).vals none 0) rfl rfl rfl (Rd.ofRow (.here _ _ _)) rfl rfl ?_;refine H.Ah (ls:=(Bod.zero 0).vals none 0) (vs:=(⟨3,1,0,Req.zero,[],noTag⟩:Bod).vals none 0) (ls':=(⟨3,1,0,Req.zero,[],noTag⟩:Bod).vals none 0) rfl rfl rfl (zaa rfl) rfl rfl (Nat.le_refl 76) (by repeat constructor) ?_;refine qcW ?_;exact H.Ax (ls:=(⟨3,1,0,Req.zero,[],noTag⟩:Bod).vals none 0) rfl rfl rfl (Rd.ofRow (.here _ _ _)) rfl (fun _ s=>s.drop (.here _ _)) ⟨nil0,none,0,rfl,QAt.nil _ _,Dj.nil _,(un_nil _).symm,rfl⟩
   ·rw [show fix1 (((x.view.toNat % 6:Nat):Int)) = ((x.view.toNat % 6:Nat):Int) from if_neg hz];refine gV ?_;refine H.Ae (ls:=(⟨3,((x.view.toNat % 6:Nat):Int),0,Req.zero,[],noTag⟩:Bod).vals none 0) rfl rfl rfl (Rd.ofRow (.here _ _ _)) rfl rfl ?_;refine H.Ah (ls:=(Bod.zero 0).vals none 0) (vs:=(⟨3,((x.view.toNat % 6:Nat):Int),0,Req.zero,[],noTag⟩:Bod).vals none 0) (ls':=(⟨3,((x.view.toNat % 6:Nat):Int),0,Req.zero,[],noTag⟩:Bod).vals none 0) rfl rfl rfl (zaa rfl) rfl rfl (Nat.le_refl 76) (by repeat constructor) ?_;refine qcW ?_;exact H.Ax (ls:=(⟨3,((x.view.toNat % 6:Nat):Int),0,Req.zero,[],noTag⟩:Bod).vals none 0) rfl rfl rfl (Rd.ofRow (.here _ _ _)) rfl (fun _ s=>s.drop (.here _ _)) ⟨nil0,none,0,rfl,QAt.nil _ _,Dj.nil _,(un_nil _).symm,rfl⟩
  ·have hr1:(!x.raw) = true:=by rw [hraw];rfl
   have hb:x.bodK W n o 2 = (⟨3,fix1 ((W.l.past o).g + 1 + ((x.view.toNat % 2:Nat):Int)),0,Req.zero,[],noTag⟩:Bod):=by simp [A15.bodK,hraw,Bod.zero]
   rw [hb];rw [show fix1 ((W.l.past o).g + 1 + ((x.view.toNat % 2:Nat):Int)) = (W.l.past o).g + 1 + ((x.view.toNat % 2:Nat):Int) from if_neg (by omega)];refine qeR fun base=>?_;refine qdd fun xb=>?_;refine qdg fun ob=>?_;refine qfz fun bb=>?_;refine qeL ?_;refine qda ?_;refine gV ?_;refine H.rem (z:=((x.view.toNat % 2:Nat):Int)) rfl rfl rfl (by decide) (zak (b:=2) rfl) rfl ?_;refine gV ?_;refine H.Ae (ls:=(⟨3,(W.l.past o).g + 1 + ((x.view.toNat % 2:Nat):Int),0,Req.zero,[],noTag⟩:Bod).vals none 0) rfl rfl rfl (Rd.ofRow (.here _ _ _)) rfl rfl ?_;refine H.Ah (ls:=(Bod.zero 0).vals none 0) (vs:=(⟨3,(W.l.past o).g + 1 + ((x.view.toNat % 2:Nat):Int),0,Req.zero,[],noTag⟩:Bod).vals none 0) (ls':=(⟨3,(W.l.past o).g + 1 + ((x.view.toNat % 2:Nat):Int),0,Req.zero,[],noTag⟩:Bod).vals none 0) rfl rfl rfl (zaa rfl) rfl rfl (Nat.le_refl 76) (by repeat constructor) ?_;refine qcW ?_;exact H.Ax (ls:=(⟨3,(W.l.past o).g + 1 + ((x.view.toNat % 2:Nat):Int),0,Req.zero,[],noTag⟩:Bod).vals none 0) rfl rfl rfl (Rd.ofRow (.here _ _ _)) rfl (fun _ s=>s.drop (.here _ _)) ⟨nil0,none,0,rfl,QAt.nil _ _,Dj.nil _,(un_nil _).symm,rfl⟩
 ·have hk6:((x.kind.toNat:Nat):Int).tmod 6 = 3:=zak (b:=6) h;rw [h]
  have hq15:=fun G=>q15_fn f G hfl (wb:=wb) (kb:=kb) (lb:=lb) (l:=W.l) hW.l hT (ap:=ap) (m:=m) (ac:=ac) hnn ho (kv:=W.w.kv) hx hq20 (W.l.past o).g;rcases Bool.eq_false_or_eq_true x.raw with hraw | hraw
  ·have hr1:(!x.raw) = false:=by rw [hraw];rfl
   have hb:x.bodK W n o 3 = (⟨4,fix1 (((x.view.toNat % 6:Nat):Int)),0,Req.zero,x.qs n W.l.ch (W.w.kv o) (W.l.past o).g,noTag⟩:Bod):=by simp [A15.bodK,hraw,Bod.zero]
   rw [hb];generalize x.qs n W.l.ch (W.w.kv o) (W.l.past o).g = Q at hq15 ⊢;refine qeR fun base=>?_;refine qdd fun xb=>?_;refine qdg fun ob=>?_;refine qfu fun bb=>?_;refine qdO fun qi=>?_;obtain ⟨qp,qc⟩:=qi;refine qhm fun g hg hd=>?_;have hqa:QAt (un f g) qp Q:=ListAt.mono (vals:=pairV) (Le.right hd) (zbd (vals:=pairV) (fun _=>rfl) hg);refine qer ?_
   refine qec ?_;by_cases hz:((x.view.toNat % 6:Nat):Int) = 0
   ·rw [show fix1 (((x.view.toNat % 6:Nat):Int)) = 1 from if_pos hz];exact qav
   ·rw [show fix1 (((x.view.toNat % 6:Nat):Int)) = ((x.view.toNat % 6:Nat):Int) from if_neg hz];refine gV ?_;refine H.Ae (ls:=(⟨4,((x.view.toNat % 6:Nat):Int),0,Req.zero,Q,noTag⟩:Bod).vals qp qc) rfl rfl rfl (Rd.ofRow (.here _ _ _)) rfl rfl ?_;refine H.Ah (ls:=(Bod.zero 0).vals none 0) (vs:=(⟨4,((x.view.toNat % 6:Nat):Int),0,Req.zero,Q,noTag⟩:Bod).vals qp qc) (ls':=(⟨4,((x.view.toNat % 6:Nat):Int),0,Req.zero,Q,noTag⟩:Bod).vals qp qc) rfl rfl rfl (zaa rfl) rfl rfl (Nat.le_refl 76) (by repeat constructor) ?_;refine qcW ?_;exact H.Ax (ls:=(⟨4,((x.view.toNat % 6:Nat):Int),0,Req.zero,Q,noTag⟩:Bod).vals qp qc) rfl rfl rfl (Rd.ofRow (.here _ _ _)) rfl (fun _ s=>s.drop (.here _ _)) ⟨g,qp,qc,rfl,hqa,hd,rfl,rfl⟩
  ·have hr1:(!x.raw) = true:=by rw [hraw];rfl
   have hb:x.bodK W n o 3 = (⟨4,fix1 ((W.l.past o).g),0,Req.zero,x.qs n W.l.ch (W.w.kv o) (W.l.past o).g,noTag⟩:Bod):=by simp [A15.bodK,hraw,Bod.zero]
   rw [hb];generalize x.qs n W.l.ch (W.w.kv o) (W.l.past o).g = Q at hq15 ⊢;refine qeR fun base=>?_;refine qdd fun xb=>?_;refine qdg fun ob=>?_;refine qfu fun bb=>?_;refine qdO fun qi=>?_;obtain ⟨qp,qc⟩:=qi;refine qhm fun g hg hd=>?_;have hqa:QAt (un f g) qp Q:=ListAt.mono (vals:=pairV) (Le.right hd) (zbd (vals:=pairV) (fun _=>rfl) hg);refine qer ?_
   refine qec ?_;by_cases hz:(W.l.past o).g = 0
   ·rw [show fix1 ((W.l.past o).g) = 1 from if_pos hz];exact qav
   ·rw [show fix1 ((W.l.past o).g) = (W.l.past o).g from if_neg hz];refine gV ?_;refine H.Ae (ls:=(⟨4,(W.l.past o).g,0,Req.zero,Q,noTag⟩:Bod).vals qp qc) rfl rfl rfl (Rd.ofRow (.here _ _ _)) rfl rfl ?_;refine H.Ah (ls:=(Bod.zero 0).vals none 0) (vs:=(⟨4,(W.l.past o).g,0,Req.zero,Q,noTag⟩:Bod).vals qp qc) (ls':=(⟨4,(W.l.past o).g,0,Req.zero,Q,noTag⟩:Bod).vals qp qc) rfl rfl rfl (zaa rfl) rfl rfl (Nat.le_refl 76) (by repeat constructor) ?_;refine qcW ?_;exact H.Ax (ls:=(⟨4,(W.l.past o).g,0,Req.zero,Q,noTag⟩:Bod).vals qp qc) rfl rfl rfl (Rd.ofRow (.here _ _ _)) rfl (fun _ s=>s.drop (.here _ _)) ⟨g,qp,qc,rfl,hqa,hd,rfl,rfl⟩
 ·have hk6:((x.kind.toNat:Nat):Int).tmod 6 = 4:=zak (b:=6) h;rw [h]
  rcases Bool.eq_false_or_eq_true x.raw with hraw | hraw
  ·have hr1:(!x.raw) = false:=by rw [hraw];rfl
   have hb:x.bodK W n o 4 = (⟨5,fix1 (((x.view.toNat % 6:Nat):Int)),0,Req.zero,[],noTag⟩:Bod):=by simp [A15.bodK,hraw,Bod.zero]
   rw [hb];refine qeR fun base=>?_;refine qdd fun xb=>?_;refine qdg fun ob=>?_;refine qfs fun bb=>?_;refine qeF ?_;by_cases hz:((x.view.toNat % 6:Nat):Int) = 0
   ·rw [show fix1 (((x.view.toNat % 6:Nat):Int)) = 1 from if_pos hz];exact qau
   ·rw [show fix1 (((x.view.toNat % 6:Nat):Int)) = ((x.view.toNat % 6:Nat):Int) from if_neg hz];refine gV ?_;refine H.Ae (ls:=(⟨5,((x.view.toNat % 6:Nat):Int),0,Req.zero,[],noTag⟩:Bod).vals none 0) rfl rfl rfl (Rd.ofRow (.here _ _ _)) rfl rfl ?_;refine H.Ah (ls:=(Bod.zero 0).vals none 0) (vs:=(⟨5,((x.view.toNat % 6:Nat):Int),0,Req.zero,[],noTag⟩:Bod).vals none 0) (ls':=(⟨5,((x.view.toNat % 6:Nat):Int),0,Req.zero,[],noTag⟩:Bod).vals none 0) rfl rfl rfl (zaa rfl) rfl rfl (Nat.le_refl 76) (by repeat constructor) ?_;refine qcW ?_;exact H.Ax (ls:=(⟨5,((x.view.toNat % 6:Nat):Int),0,Req.zero,[],noTag⟩:Bod).vals none 0) rfl rfl rfl (Rd.ofRow (.here _ _ _)) rfl (fun _ s=>s.drop (.here _ _)) ⟨nil0,none,0,rfl,QAt.nil _ _,Dj.nil _,(un_nil _).symm,rfl⟩
  ·have hr1:(!x.raw) = true:=by rw [hraw];rfl
   have hb:x.bodK W n o 4 = (⟨5,fix1 (lastV W.l.vs),0,Req.zero,[],noTag⟩:Bod):=by simp [A15.bodK,hraw,Bod.zero]
   rw [hb];refine qeR fun base=>?_;refine qdd fun xb=>?_;refine qdg fun ob=>?_;refine qfs fun bb=>?_;refine qeF ?_;refine qfq ?_;refine H.unpack fun i1 hi1=>?_;obtain ⟨V,vp,vc,pp,pc,cp,cc,pb,cs⟩:=i1;have hiF:=hi1.mono hfl;refine qeW ?_
   have hvs:V.map VV.w = W.l.vs:=hi1.vs;have hVl:V.length = W.l.vs.length:=hi1.len
   have hvl:=hW.l.vl
   have hV0:0 < V.length:=by
    obtain ⟨w0,hw0,_⟩:=hW.l.zero;rw [hVl];exact List.length_pos_of_mem hw0
   obtain ⟨X,hX⟩:∃ X,V[V.length - 1]? = some X:=⟨_,List.getElem?_eq_getElem (by omega)⟩
   have hXv:lastV W.l.vs = X.w.v:=by
    unfold lastV;rw [← hVl,← hvs,List.getElem?_map,hX];rfl
   rw [hXv];refine qei fun vb hvb=>?_;refine qer ?_;refine qec ?_;refine gV ?_;refine qen ?_;refine qdS ?_;refine H.dc [0,1,2,3,4,5,6,7,8,9,10,11,12,13,14,15,16,17,18] (S:=[_,_,_]) rfl ?_;refine HB.qu [0,1,2,3,4,5,6,7,8,9,10,11,12,13,14,15,16,17,18] 2 ?_;refine gS ?_;refine HQ.Ag (b:=vb) (off:=0) (i:=V.length - 1) rfl (by rw [← hvb];rfl) rfl (show ((V.length:Int) - 1) = ((V.length - 1:Nat):Int) by omega) (show V.length - 1 < V.length by omega) rfl ?_;refine gQ ?_;refine HQ.Ab rfl rfl rfl (Rd1.of (i:=0) (by rw [Nat.zero_add];exact Rd.slcElem (n:=V.length) (c:=vc) (T:=81) (xs:=V) VV.len (by decide) (by rw [← hvb];exact .there _ (.there _ (.here _ _ _))) hX) rfl) rfl ?_;refine qdo ?_;refine HB.qu [19] 1 ?_;refine gQ ?_;refine qdb ?_;refine HB.ev 20 ?_;refine qec ?_;refine H.Ay (ls:=(bodW 5 ((x.view.toNat % 6:Nat):Int) 0).vals none 0) (ls':=(bodW 5 X.w.v 0).vals none 0) rfl rfl rfl rfl (.here _ _ _) (.there _ (.here _ _ _)) ?_;refine qdD ?_;refine qfV ?_;by_cases hz:X.w.v = 0
   ·rw [show fix1 (X.w.v) = 1 from if_pos hz];exact qau
   ·rw [show fix1 (X.w.v) = X.w.v from if_neg hz];refine gT ?_;refine H.Ae (ls:=(⟨5,X.w.v,0,Req.zero,[],noTag⟩:Bod).vals none 0) rfl rfl rfl (Rd.ofRow (.here _ _ _)) rfl rfl ?_;refine H.Ah (ls:=(Bod.zero 0).vals none 0) (vs:=(⟨5,X.w.v,0,Req.zero,[],noTag⟩:Bod).vals none 0) (ls':=(⟨5,X.w.v,0,Req.zero,[],noTag⟩:Bod).vals none 0) rfl rfl rfl (zaa rfl) rfl rfl (Nat.le_refl 76) (by repeat constructor) ?_;refine qcW ?_;exact H.Ax (ls:=(⟨5,X.w.v,0,Req.zero,[],noTag⟩:Bod).vals none 0) rfl rfl rfl (Rd.ofRow (.here _ _ _)) rfl (fun _ s=>s.drop (.here _ _)) ⟨nil0,none,0,rfl,QAt.nil _ _,Dj.nil _,(un_nil _).symm,rfl⟩
 ·have hk6:((x.kind.toNat:Nat):Int).tmod 6 = 5:=zak (b:=6) h;rw [h]
  show Fn _ _ _ f _ (BodP f _ (⟨6,0,(1 + ((x.k.toNat % 6:Nat):Int)),Req.zero,[],dig0 x.key⟩:Bod));refine qeR fun base=>?_;refine qdd fun xb=>?_;refine qdg fun ob=>?_;refine qcT ?_;repeat (first | (refine H.Az (t:=47) (out:=(bodW 6 ((x.view.toNat % 6:Nat):Int) (1 + ((x.k.toNat % 6:Nat):Int))).vals none 0) rfl rfl rfl (by kernel_rfl) rfl ?_) | (refine gg ?_))
  refine qdg fun bb=>?_;refine H.Ah (ls:=(Bod.zero 0).vals none 0) (vs:=(bodW 6 ((x.view.toNat % 6:Nat):Int) (1 + ((x.k.toNat % 6:Nat):Int))).vals none 0) (ls':=(bodW 6 ((x.view.toNat % 6:Nat):Int) (1 + ((x.k.toNat % 6:Nat):Int))).vals none 0) rfl rfl rfl (zaa rfl) rfl rfl (Nat.le_refl 76) (.here _ _ _) ?_;refine qda ?_;refine gU ?_;refine H.Ao (i:=0) rfl rfl rfl rfl (by decide) rfl ?_;refine gY ?_;refine H.Ae (ls:=(⟨6,0,(1 + ((x.k.toNat % 6:Nat):Int)),Req.zero,[],dig0 x.key⟩:Bod).vals none 0) rfl rfl rfl (Rd.ofRow (.here _ _ _)) rfl rfl ?_;refine H.Ah (ls:=(Bod.zero 0).vals none 0) (vs:=(⟨6,0,(1 + ((x.k.toNat % 6:Nat):Int)),Req.zero,[],dig0 x.key⟩:Bod).vals none 0) (ls':=(⟨6,0,(1 + ((x.k.toNat % 6:Nat):Int)),Req.zero,[],dig0 x.key⟩:Bod).vals none 0) rfl rfl rfl (zaa rfl) rfl rfl (Nat.le_refl 76) (by repeat constructor) ?_;refine qcW ?_;exact H.Ax (ls:=(⟨6,0,(1 + ((x.k.toNat % 6:Nat):Int)),Req.zero,[],dig0 x.key⟩:Bod).vals none 0) rfl rfl rfl (Rd.ofRow (.here _ _ _)) rfl (fun _ s=>s.drop (.here _ _)) ⟨nil0,none,0,rfl,QAt.nil _ _,Dj.nil _,(un_nil _).symm,rfl⟩
end
structure W15P where
 kb:Nat
 lb:Nat
 ap:Option Addr
 ac:Nat
 l:List MV
def w15φ (e:Frag) (W:W15) (i:W15P):Prop:=i.l.map MV.m = W.w.all ∧ ∀ y ∈ i.l,y.Good e
def w15B (e:Frag) (wb n:Nat) (W:W15) (i:W15P):List HP:=[row wb 34 (w15C i.kb n i.ap i.l.length i.ac i.lb),row i.kb 36 (kRow n W.w.kv),slc i.ap i.l.length i.ac 51 121 (i.l.flatMap MV.vals),logsH e i.lb W.l]
def wH15 (e:Frag) (wb n:Nat) (W:W15):HP:=pack (w15φ e W) (w15B e wb n W)
theorem w15_fold {e:Frag} {F:List HP} (i:W15P) (h:w15φ e W i):∀ x,stars (w15B e wb n W i ++ F) x→stars (wH15 e wb n W::F) x:=fun x hx=>pack_fold (φ:=w15φ e W) (B:=w15B e wb n W) i h x hx
variable {f g:Frag}
theorem w15_mono (h:Le f g):∀ x,wH15 f wb n W x→wH15 g wb n W x:=fun _ ⟨i,hi,hx⟩=>⟨i,⟨hi.1,fun y hy=>(hi.2 y hy).mono h⟩,by
 obtain ⟨m1,m2,d1,e1,a1,m3,m4,d2,e2,a2,m5,m6,d3,e3,a3,m7,m8,d4,e4,a4,r4⟩:=hx
 exact ⟨m1,m2,d1,e1,a1,m3,m4,d2,e2,a2,m5,m6,d3,e3,a3,m7,m8,d4,e4,logsH_mono h _ a4,r4⟩⟩
variable {A:List HP}
theorem w15_up (h:Le f g):∀ x,stars (wH15 f wb n W::A) x→stars (wH15 g wb n W::A) x:=fun _ ⟨h1,h2,hd,he,ha,hr⟩=>⟨h1,h2,hd,he,w15_mono h _ ha,hr⟩
def DoP (f:Frag) (F:List HP) (wb n:Nat) (W:W15):Value→Frag→List HP→Prop:=fun v f' A'=>∃ (g:Frag) (M:Msg) (qp:Option Addr) (qc:Nat),Dj f g ∧ v = .agg (M.vals qp qc).toArray ∧ f' = un f g ∧ A' = wH15 f' wb n W::F
section
variable (f:Frag) (F:List HP)
theorem do_fn (hfl:Le fl f) (hn3:3 ≤ n ∧ n ≤ 11) (hW:WI n W T) (hT:T ≤ 900) (hal:W.w.all.length ≤ 900) (hx:x.Has f) (hq20:x.q.length ≤ 20) :
  Fn Tryz.prog 37 [.pointer (some ⟨wb,0,none⟩),.agg x.vals.toArray] f (wH15 fl wb n W::F) (DoP f F wb n (W.act n x)):=by
 refine Fn.unpack fun i0 hi=>?_;obtain ⟨kb,lb,ap,ac,l⟩:=i0;have hlm:l.map MV.m = W.w.all:=hi.1;have hlg:∀ y ∈ l,y.Good fl:=hi.2
 have hll:l.length ≤ 900:=by
  have:=congrArg List.length hlm;rw [List.length_map] at this
  omega
 have hn0:((n:Nat):Int) ≠ 0:=by omega
 have ho:x.who.toNat % n < n:=Nat.mod_lt _ (by omega);have hkv:=hW.w.kv_le ho
 have hwho:=x.who.toNat_lt;have hoth:=x.other.toNat_lt
 have hj:x.other.toNat % n < n:=Nat.mod_lt _ (by omega);show Fn _ _ _ f (row wb 34 (w15C kb n ap l.length ac lb)::row kb 36 (kRow n W.w.kv)::slc ap l.length ac 51 121 (l.flatMap MV.vals)::logsH fl lb W.l::F) _
 refine Fn.e2 Tryz.func37 Tryz.ntmps37 fun base=>?_;refine qdd fun xb=>?_;refine H.Ak (ls:=msgZ.vals none 0) rfl rfl rfl fun ob=>?_;refine gM ?_;refine H.rem (z:=((x.who.toNat % n:Nat):Int)) rfl rfl rfl hn0 (zak (a:=x.who.toNat) (b:=n) rfl) rfl ?_;refine gM ?_
 cases hmt:x.meet with
 | true =>
  have hact:W.act n x = { W with w:=W.w.meet (x.who.toNat % n) (x.other.toNat % n) }:=by unfold W15.act;rw [if_pos hmt]
  rw [hact];refine gM ?_;refine H.rem (z:=((x.other.toNat % n:Nat):Int)) rfl rfl rfl hn0 (zak (a:=x.other.toNat) (b:=n) rfl) rfl ?_;refine gR ?_;generalize hoe:x.who.toNat % n = o at *;generalize hje:x.other.toNat % n = j at *;have ho11:o < 11:=by omega
  refine qdq ?_
  refine H.loop (ι:=Nat) (fun i=>[(8,.int .i64 (i:Int)),(6,.int .i64 (1 + (o:Int))),(7,.int .i64 (j:Int)),(0,.pointer (some ⟨wb,0,none⟩)),(4,.pointer (some ⟨ob,0,none⟩))]) (fun _=>f)
   (fun i=>row wb 34 (w15C kb n ap l.length ac lb)::row kb 36 (kRow n (raised W.w.kv o j i))::row ob 51 (msgZ.vals none 0)::row xb 88 x.vals::slc ap l.length ac 51 121 (l.flatMap MV.vals)::logsH fl lb W.l::F)
   (fun i=>i ≤ 11) (fun i=>11 - i) 0 (Nat.zero_le _) ⟨rfl,rfl,rfl,rfl,rfl,trivial⟩ rfl (by rw [raised_zero]) fun i hi2=>?_
  have hi2:i ≤ 11:=hi2;by_cases hi11:i < 11
  ·have hro:=raised_o W.w.kv o j i;have hrj:=raised_j W.w.kv o j i
   have hrn:=raised_next W.w.kv o j i;have hg1:=kRow_get (kv:=raised W.w.kv o j i) ho hi11
   have hg2:=kRow_get (kv:=raised W.w.kv o j i) hj hi11;rw [hro] at hg1
   rw [hrj] at hg2;have hset:=kRow_set (kv:=raised W.w.kv o j i) (maxV (W.w.kv o) (W.w.kv j) i) ho hi11;rw [hrn] at hset
   have hoo:(1:Int) + (o:Int) - 1 = (o:Nat):=by omega
   refine gG ?_;refine H.dc [0,1,2,3,4,5,6,7,8,9,10,11,12,13,14,15,16,17,18,19,20,21,22,23,24,25,26,27,28] (S:=[_,_]) rfl ?_;refine HB.qu [0,1,2,3,4,5,6,7,8,9,10,11,12,13,14,15,16,17,18,19,20,21,22,23,24,25,26,27,28] 1 ?_;refine gS ?_;refine HQ.Ag (i:=o) rfl rfl rfl hoo ho rfl ?_;refine qgP ?_;refine HQ.Ab rfl rfl rfl (.at0 (Rd.ofRow (.there _ (.here _ _ _))) (by rw [Nat.zero_add,Nat.mul_one];exact hg1)) rfl ?_;refine gS ?_;refine HQ.Ag (i:=j) rfl rfl rfl rfl hj rfl ?_;refine qgP ?_;refine HQ.Ab rfl rfl rfl (.at0 (Rd.ofRow (.there _ (.here _ _ _))) (by rw [Nat.zero_add,Nat.mul_one];exact hg2)) rfl ?_;refine HQ.max2 (z:=maxV (W.w.kv o) (W.w.kv j) i) rfl rfl rfl rfl rfl ?_;refine HQ.Ag (i:=o) rfl rfl rfl hoo ho rfl ?_;refine qgP ?_;refine qdo ?_;refine HB.ev 29 ?_;refine H.Ay (v:=.int .u64 (maxV (W.w.kv o) (W.w.kv j) i)) (ls:=kRow n (raised W.w.kv o j i)) (ls':=kRow n (raised W.w.kv o j (i + 1))) rfl rfl rfl rfl (.there _ (.here _ _ _)) (by rw [Nat.zero_add,Nat.mul_one];exact hset) ?_;refine qdD ?_;refine gD ?_;exact H.ag (i + 1) (by show i + 1 ≤ 11;omega) (by show 11 - (i + 1) < 11 - i;omega)
  ·have e:i = 11:=by omega
   subst e;rw [raised_end];refine qew ?_;refine H.pf (x:=row ob _ _) ?_;exact H.Ax (ls:=msgZ.vals none 0) rfl rfl rfl (Rd.ofRow (.here _ _ _)) rfl (fun _ s=>(s.drop (.here _ _)).imp (fun z hz=>w15_up hfl z (w15_fold (W:={ W with w:=W.w.meet o j }) ⟨kb,lb,ap,ac,l⟩ ⟨hlm,hlg⟩ z hz))) ⟨nil0,_,_,_,Dj.nil _,rfl,(un_nil f).symm,rfl⟩
 | false =>
  refine gW ?_;generalize hoe:x.who.toNat % n = o at *;have ho11:o < 11:=by omega
  have hoo:(1:Int) + (o:Int) - 1 = (o:Nat):=by omega
  have ho1:(1:Int) + (o:Int) = ((o + 1:Nat):Int):=by omega
  have hact:W.act n x = if (W.next n o x).may = true then ⟨W.w.say o (W.next n o x).signed,(W.l.take (W.next n o x).signed).2⟩ else W:=by
   unfold W15.act;rw [if_neg (by rw [hmt];decide),hoe]
  have hgk0:=kRow_get (kv:=W.w.kv) ho ho11;have hko:=hkv o
  have hbody:=fun G=>body15_fn f G hfl (wb:=wb) (kb:=kb) (lb:=lb) hW (by omega) (ap:=ap) (m:=l.length) (ac:=ac) ho hx hq20;refine qfq ?_
  refine qdq ?_;refine qer ?_
  refine H.cut (ι:=Frag × Option Addr × Nat × Nat) (fun s=>[(9,.pointer (some ⟨s.2.2.2,0,none⟩)),(6,.int .i64 (1 + (o:Int))),(0,.pointer (some ⟨wb,0,none⟩)),(4,.pointer (some ⟨ob,0,none⟩))]) (fun s=>un f s.1)
   (fun s=>row xb 88 x.vals::row s.2.2.2 51 ((W.next n o x).vals s.2.1 s.2.2.1)::row ob 51 (msgZ.vals none 0)::row wb 34 (w15C kb n ap l.length ac lb)::row kb 36 (kRow n W.w.kv)::logsH fl lb W.l::slc ap l.length ac 51 121 (l.flatMap MV.vals)::F)
   (fun s=>QAt (un f s.1) s.2.1 (W.next n o x).body.q ∧ Dj f s.1) _ (fun s hs=>?_) ?_
  ·obtain ⟨g,qp,qc,mb⟩:=s;obtain ⟨hqat,hd⟩:QAt (un f g) qp (W.next n o x).body.q ∧ Dj f g:=hs;have hle2:=Le.un f g;have hql:=(x.bod_q hW (by omega) (o:=o)).1
   have hgood:(⟨W.next n o x,qp,qc⟩:MV).Good (un f g):=⟨hqat,by show (x.bod W n o).q.length ≤ _;omega,A15.bod_ok hW (by omega) ho x⟩;have hmsg:=good_signed hgood
   have hmay:=fun H=>rmmay_fn (un f g) H hgood;have hsg:=fun H=>rtagged_fn (un f g) H (m:=W.next n o x) (q:=qp) (qc:=qc) hgood.1 (by show (x.bod W n o).q.length ≤ _;omega)
   show H _ _ _ [_,_,_,_] (un f g) (_::row mb _ ((W.next n o x).vals qp qc)::_::_::_::_::_::F) _;refine gA ?_;refine H.Ae (ls:=(W.next n o x).vals qp qc) rfl rfl rfl (Rd.ofRow (.there _ (.here _ _ _))) rfl rfl ?_;refine H.cr (hmay _) ?_;refine H.not (b:=_) (c:=_) rfl rfl rfl rfl ?_
   cases hmy:(W.next n o x).may with
   | false =>
    rw [hact,if_neg (by rw [hmy];decide)];refine qew ?_;refine qdu ?_;refine H.pf (x:=slc ap _ ac _ _ _) ?_;refine qdq ?_;refine H.pf (x:=row ob _ _) ?_;exact H.Ax (ls:=msgZ.vals none 0) rfl rfl rfl (Rd.ofRow (.here _ _ _)) rfl (fun _ s=>(s.drop (.here _ _)).imp (fun z hz=>w15_up (hfl.trans hle2) z (w15_fold ⟨kb,lb,ap,ac,l⟩ ⟨hlm,hlg⟩ z hz))) ⟨g,_,_,_,hd,rfl,rfl,rfl⟩
   | true =>
    rw [hact,if_pos hmy];generalize hms:(W.next n o x).signed = ms at *;have htake:=fun H=>take_fn (un f g) H (hfl.trans hle2) (lb:=lb) hW.l (by omega) (x:=⟨ms,qp,qc⟩) hmsg;refine gW ?_
    refine H.Ae (ls:=(W.next n o x).vals qp qc) rfl rfl rfl (Rd.ofRow (.there _ (.here _ _ _))) rfl rfl ?_;refine H.cr (hsg _) ?_;refine H.Ah (ls:=(W.next n o x).vals qp qc) (vs:=ms.vals qp qc) (ls':=ms.vals qp qc) rfl rfl rfl (zaa rfl) rfl rfl (Nat.le_refl 121) (.there _ (.here _ _ _)) ?_;refine gA ?_;refine qdS ?_;refine qdx ?_;refine qgD ?_;refine HB.qu [0,1,2,3,4] 1 ?_;refine gS ?_;refine HQ.Ae (ls:=ms.vals qp qc) rfl rfl rfl (Rd.ofRow (.here _ _ _)) rfl rfl ?_;refine qdb ?_;refine HB.ev 5 ?_;refine qfq ?_;refine H.cl (htake _) fun v f' A' hr=>?_;obtain ⟨g2,hd2,rfl,rfl,rfl⟩:=hr;refine gA ?_;refine qdS ?_;refine qdx ?_;refine H.on [] (Le.un _ g2) rfl ?_;refine HB.dn ?_;refine gA ?_;refine qfI ?_;refine HQ.Ae (ls:=ms.vals qp qc) rfl rfl rfl (Rd.ofRow (.here _ _ _)) rfl rfl ?_;refine qdb ?_;refine HB.ev 6 ?_;refine H.Ar (out:=ms.vals qp qc) rfl rfl rfl rfl (by decide) (by decide) rfl rfl fun eb=>?_;refine gA ?_;refine qdS ?_;refine qfM ?_;refine HB.ev 7 ?_;refine H.Aw (sz:=121) (p:=ap) (n0:=l.length) (c:=ac) (xs:=l.flatMap MV.vals) (m:=1) (news:=ms.vals qp qc) rfl rfl rfl rfl rfl (fun p' c'=>(by repeat constructor)) (Src.slice (Rd.ofRow (by repeat constructor)) rfl) (zaa rfl) rfl (by omega) (by omega) fun ap2 ac2=>?_;refine gA ?_;refine qdE ?_;refine H.Ay (ls:=w15C kb n ap l.length ac lb) (ls':=w15C kb n ap2 (l.length + 1) ac2 lb) rfl rfl rfl rfl (.there _ (.here _ _ _)) (.there _ (.here _ _ _)) ?_;refine qdD ?_;refine gA ?_;have hset:=kRow_set (kv:=W.w.kv) (W.w.kv o o + 1) ho ho11;refine qdq ?_
    refine qgF ?_;refine qfS ?_;refine HQ.Ab rfl rfl rfl (.at0 (Rd.ofRow (.there _ (.here _ _ _))) (by rw [Nat.zero_add,Nat.mul_one];exact hgk0)) rfl ?_;refine gK ?_;refine qfS ?_;refine qdo ?_;refine HB.ev 14 ?_;refine H.Ay (v:=.int .u64 (W.w.kv o o + 1)) (ls:=kRow n W.w.kv) (ls':=kRow n (W.w.say o ms).kv) rfl rfl rfl rfl (.there _ (.here _ _ _)) (by rw [Nat.zero_add,Nat.mul_one];exact hset) ?_;refine qdD ?_;refine gA ?_;refine qdx ?_;refine H.Ae (ls:=ms.vals qp qc) rfl rfl rfl (Rd.ofRow (.here _ _ _)) rfl rfl ?_;refine H.Ah (ls:=msgZ.vals none 0) (vs:=ms.vals qp qc) (ls':=ms.vals qp qc) rfl rfl rfl (zaa rfl) rfl rfl (Nat.le_refl 121) (by repeat constructor) ?_;refine gR ?_;refine qhh ?_;refine qdu ?_;refine qfq ?_;refine H.pf (x:=slc ap2 _ ac2 _ _ _) ?_;refine qdq ?_;refine H.pf (x:=row ob _ _) ?_;have hle3:=Le.un (un f g) g2
    have hφ:w15φ (un (un f g) g2) ⟨W.w.say o ms,(W.l.take ms).2⟩ ⟨kb,lb,ap2,ac2,l ++ [⟨ms,qp,qc⟩]⟩:=by
     refine ⟨?_,fun y hy=>?_⟩
     ·show (l ++ [(⟨ms,qp,qc⟩:MV)]).map MV.m = W.w.all ++ [ms];rw [List.map_append,hlm];rfl
     ·rcases List.mem_append.1 hy with h | h
      ·exact (hlg y h).mono ((hfl.trans hle2).trans hle3)
      ·rw [List.mem_singleton.1 h];exact hmsg.mono hle3
    have hsl:slc ap2 (l.length + 1) ac2 51 121 (l.flatMap MV.vals ++ ms.vals qp qc) = slc ap2 (l ++ [(⟨ms,qp,qc⟩:MV)]).length ac2 51 121 ((l ++ [(⟨ms,qp,qc⟩:MV)]).flatMap MV.vals):=slc_snoc (y:=(⟨ms,qp,qc⟩:MV));have hfold:=w15_fold (F:=F) (wb:=wb) (n:=n) _ hφ
    exact H.Ax (ls:=ms.vals qp qc) rfl rfl rfl (Rd.ofRow (.here _ _ _)) rfl (fun _ s=>(s.drop (.here _ _)).imp (fun z hz=>hfold z (by
     rw [hsl] at hz;show stars (row wb _ (w15C kb n ap2 (l ++ [(⟨ms,qp,qc⟩:MV)]).length ac2 lb)::_) z;rw [List.length_append];rw [List.length_append] at hz
     exact hz))) ⟨un g g2,_,_,_,Dj.un3' hd hd2,rfl,zce _ _ _,rfl⟩
  ·refine H.db (S:=[_,_,_]) rfl ?_;refine HB.qu [0,1,2,3,4,5,6,7,8,9,10,11,12,13,14,15,16,17,18,19,20,21,22,23] 4 ?_;refine gS ?_;refine qfS ?_;refine HQ.Ab rfl rfl rfl (.at0 (Rd.ofRow (.there _ (.there _ (.here _ _ _)))) (by rw [Nat.zero_add,Nat.mul_one];exact hgk0)) rfl ?_;refine gS ?_;refine HQ.Ag (i:=o) rfl rfl rfl hoo ho rfl ?_;refine HQ.Ae (ls:=v11 (W.w.kv o)) rfl rfl rfl (by rw [Nat.zero_add];exact Rd.kRow (Rd.ofRow (.there _ (.there _ (.here _ _ _)))) ho) rfl rfl ?_;refine gB ?_;refine qfQ ?_;refine qdb ?_;refine HB.ev2 (i:=24) (j:=26) (by kernel_rfl) rfl rfl ?_ ?_
   ·refine qdq ?_;refine qfq ?_;rw [ho1];refine H.cl (hbody _) fun v f' A' hr=>?_;obtain ⟨g,qp,qc,rfl,hqat,hd,rfl,rfl⟩:=hr;refine gA ?_;refine qdq ?_;refine qer ?_;refine H.on [] (Le.un _ g) rfl ?_;refine HB.qu [25] 2 ?_;refine HQ.Az (t:=51) (out:=(W.next n o x).vals qp qc) rfl rfl rfl (by kernel_rfl) rfl ?_;refine qdb ?_;refine HB.ev 26 ?_;refine H.Ak (ls:=msgZ.vals none 0) rfl rfl rfl fun mb=>?_;refine gA ?_;refine qdq ?_;refine qer ?_;refine qdI ?_;exact qaA
   ·refine H.Ak (ls:=msgZ.vals none 0) rfl rfl rfl fun mb=>?_;refine gA ?_;refine qdq ?_;refine qer ?_;refine qdI ?_;refine HB.ev 24 ?_;refine qdq ?_;refine qfq ?_;rw [ho1];refine H.cl (hbody _) fun v f' A' hr=>?_;obtain ⟨g,qp,qc,rfl,hqat,hd,rfl,rfl⟩:=hr;refine gA ?_;refine qdq ?_;refine qer ?_;refine H.on [] (Le.un _ g) rfl ?_;refine HB.qu [25] 1 ?_;refine HQ.Az (t:=51) (out:=(W.next n o x).vals qp qc) rfl rfl rfl (by kernel_rfl) rfl ?_;refine qdb ?_;exact qaA
end
def few15 (l:List A15):Bool:=decide (l.length ≤ 100) && l.all fun x=>decide (x.q.length ≤ 20)
variable {l:List A15}
theorem few15_all (h:few15 l = true):l.length ≤ 100 ∧ ∀ x ∈ l,x.q.length ≤ 20:=by
 unfold few15 at h;simp only [Bool.and_eq_true,decide_eq_true_eq,List.all_eq_true] at h;exact h
theorem A15.Has.mono (h:Le f g) (hx:x.Has f):x.Has g:=by
 rcases hx with e | ⟨b,off,cs,T,fr,h1,h2,h3⟩
 ·exact .inl e
 ·exact .inr ⟨b,off,cs,T,fr,h1,h _ _ h2,h3⟩
def Acts15P (f:Frag) (F:List HP) (n:Nat) (W:W15):Value→Frag→List HP→Prop:=fun v f' A'=>∃ (g:Frag) (wb:Nat),v = .pointer (some ⟨wb,0,none⟩) ∧ Dj f g ∧ f' = un f g ∧ A' = wH15 f' wb n W::F
section
variable (f:Frag) (F:List HP)
theorem odd15_fn (n8:UInt8):Fn Tryz.prog 36 [.int .u8 (n8.toNat:Nat)] f F (Ret (.int .i64 ((3 + 2 * (n8.toNat % 5):Nat):Int)) f F):=by
 have h:=n8.toNat_lt;have hm:((n8.toNat % 5:Nat):Int) ≤ 4:=by omega
 refine Fn.e1 Tryz.func36 Tryz.ntmps36 fun base=>?_;refine gJ ?_;refine H.rem (z:=((n8.toNat % 5:Nat):Int)) rfl rfl rfl (by decide) (zak (b:=5) rfl) rfl ?_;refine gD ?_;exact qco
theorem few15_fn (hat:ListAt f p 12 A15.vals l) (hl:l.length ≤ 9223372036854775807):Fn Tryz.prog 13 [.slice p l.length c] f F (Ret (.bool (few15 l)) f F):=by
 by_cases h30:l.length ≤ 100
 ·refine Fn.e1 Tryz.func13 Tryz.ntmps13 fun base=>?_;refine gP ?_;refine H.lo (ι:=Nat) (fun i=>[(3,.int .i64 (i:Int)),(0,.slice p l.length c)]) (fun _=>f) (fun _=>F) (fun i=>i ≤ l.length ∧ ∀ j x,j < i→l[j]? = some x→x.q.length ≤ 20) (fun i=>l.length - i) 0 ⟨Nat.zero_le _,fun j x hj=>by omega⟩ fun i hi=>?_;obtain ⟨hi,hb⟩:i ≤ l.length ∧ ∀ j x,j < i→l[j]? = some x→x.q.length ≤ 20:=hi;by_cases hlt:i < l.length
  ·have hx:l[i]? = some l[i]:=List.getElem?_eq_getElem hlt;generalize l[i] = x at hx
   obtain ⟨b,off,cs,T,fr,rfl,hfb,hcs⟩:=hat i x hx;have rd:∀ A,Rd f A b (off + i * 12) x.vals:=fun A=>Rd.imm hfb hcs;refine gG ?_
   refine H.Ag rfl rfl rfl rfl hlt rfl ?_;refine gH ?_;refine H.Ab rfl rfl rfl (Rd1.of (i:=10) (rd _) rfl) rfl ?_;refine gG ?_;by_cases hq:x.q.length ≤ 20
   ·skip;refine gP ?_;refine H.ag (i + 1) ⟨by show i + 1 ≤ l.length;omega,fun j y hj hy=>?_⟩ (by show l.length - (i + 1) < l.length - i;omega);by_cases e:j = i
    ·subst e;rw [hx] at hy;cases hy;exact hq
    ·exact hb j y (by omega) hy
   ·skip;refine gG ?_;refine H.Ad rfl rfl (fun _ h=>h) ⟨?_,rfl,rfl⟩
    have:few15 l = false:=by
     unfold few15;rw [Bool.and_eq_false_iff];exact .inr (List.all_eq_false.2 ⟨x,List.mem_of_getElem? hx,by rw [decide_eq_false hq];decide⟩)
    rw [this]
  ·refine gP ?_;refine H.Ad rfl rfl (fun _ h=>h) ⟨?_,rfl,rfl⟩
   have:few15 l = true:=by
    unfold few15;rw [decide_eq_true h30,Bool.true_and,List.all_eq_true];intro x hx;obtain ⟨j,hj⟩:=List.getElem?_of_mem hx;have hjl:=(List.getElem?_eq_some_iff.1 hj).1;exact decide_eq_true (hb j x (by omega) hj)
   rw [this]
 ·refine Fn.e1 Tryz.func13 Tryz.ntmps13 fun base=>?_;refine gG ?_;refine H.Ad rfl rfl (fun _ h=>h) ⟨?_,rfl,rfl⟩;have:few15 l = false:=by unfold few15;rw [decide_eq_false h30];rfl
  rw [this]
theorem nworld_fn (h:fewZ (n:Int)):Fn Tryz.prog 35 [.int .i64 (n:Int)] f F (Acts15P f F n (W15.zero n)):=by
 have hn:n ≤ 11:=by have:=h.2.1;omega
 refine Fn.e1 Tryz.func35 Tryz.ntmps35 fun base=>?_;refine gJ ?_;refine H.Al rfl rfl rfl (lgnew_fn f _ h) fun v f' A' hr=>?_;obtain ⟨g,lb,hd,rfl,rfl,rfl⟩:=hr;refine gX ?_;refine H.makeS (m:=n) (zs:=v11 fun _=>0) rfl rfl rfl rfl rfl rfl rfl (by decide) (by omega) (by omega) rfl fun kb=>?_;rw [kRow_zero];repeat (first | (refine H.Az (t:=34) (out:=w15C kb n none 0 0 lb) rfl rfl rfl (by kernel_rfl) rfl ?_) | (refine gg ?_))
 refine H.box (ls:=w15C kb n none 0 0 lb) rfl rfl rfl rfl fun wb=>?_;refine gR ?_;refine qfq ?_;refine H.slc0 51 121 ?_;refine qdq ?_;refine H.imp (w15_fold (e:=un f g) (n:=n) (W:=W15.zero n) ⟨kb,lb,none,0,[]⟩ ⟨rfl,fun y hy=>by cases hy⟩) ?_;exact H.r1 ⟨g,wb,rfl,hd,rfl,rfl⟩
theorem acts15_fn {n8:UInt8} (hn8:n = 3 + 2 * (n8.toNat % 5)) {xs:List A15} (hat:ListAt f p 12 A15.vals xs) (hh:∀ x ∈ xs,x.Has f ∧ x.q.length ≤ 20) (hl:xs.length ≤ 100) :
  Fn Tryz.prog 16 [.int .u8 (n8.toNat:Nat),.slice p xs.length c] f F (Acts15P f F n (world15 n xs)):=by
 have hn3:3 ≤ n ∧ n ≤ 11:=by omega
 have hodd:=fun G=>odd15_fn f G n8;rw [← hn8] at hodd
 have hfz:fewZ (n:Int):=⟨by omega,by omega,by
  rw [show (2:Int) = ((2:Nat):Int) from rfl,zak (a:=n) (b:=2) (r:=1) (by omega)];rfl⟩
 refine Fn.e2 Tryz.func16 Tryz.ntmps16 fun base=>?_;refine gJ ?_;refine H.cr (hodd _) ?_;refine H.Al rfl rfl rfl (nworld_fn f _ hfz) fun v f' A' hr=>?_;obtain ⟨g0,wb,rfl,hd0,rfl,rfl⟩:=hr;refine gR ?_
 refine H.lo (ι:=Nat × Frag) (fun s=>[(6,.int .i64 (s.1:Int)),(1,.slice p xs.length c),(5,.pointer (some ⟨wb,0,none⟩))]) (fun s=>un f s.2)
  (fun s=>wH15 (un f s.2) wb n (world15 n (xs.take s.1))::F)
  (fun s=>s.1 ≤ xs.length ∧ Dj f s.2) (fun s=>xs.length - s.1) (0,g0) ⟨Nat.zero_le _,hd0⟩ fun s hs=>?_
 obtain ⟨k,G⟩:=s;obtain ⟨hk,hdj⟩:k ≤ xs.length ∧ Dj f G:=hs;show H _ _ _ [(6,.int .i64 (k:Int)),_,_] (un f G) (wH15 (un f G) wb n (world15 n (xs.take k))::F) _;by_cases hlt:k < xs.length
 ·obtain ⟨x,hx⟩:∃ x,xs[k]? = some x:=⟨_,List.getElem?_eq_getElem hlt⟩;have hnext:world15 n (xs.take (k + 1)) = (world15 n (xs.take k)).act n x:=by rw [zbh hx,world15_snoc]
  obtain ⟨hxa,hxq⟩:=hh x (List.mem_of_getElem? hx);obtain ⟨b,off,cs,T,fr,rfl,hfb,hcs⟩:=hat k x hx;have rd:∀ A,Rd (un f G) A b (off + k * 12) x.vals:=fun A=>Rd.imm (Le.un f G b _ hfb) hcs;have hinv:=zbs hn3.1 hn3.2 xs k (by omega)
  have hwl:=zca n xs k;refine gG ?_
  refine H.Ag (i:=k) rfl rfl rfl rfl hlt rfl ?_;refine H.Ae (ls:=x.vals) rfl rfl rfl (rd _) rfl rfl ?_;refine H.Al rfl rfl rfl (do_fn (un f G) _ (Le.refl _) hn3 hinv (by omega) (by omega) (hxa.mono (Le.un f G)) hxq) fun v f' A' hr=>?_;obtain ⟨g,M,qp,qc,hd,rfl,rfl,rfl⟩:=hr;refine gD ?_;refine H.Aq (k + 1,un G g) ⟨by show k + 1 ≤ xs.length;omega,Dj.un3' hdj hd⟩ (by show xs.length - (k + 1) < xs.length - k;omega) ⟨rfl,rfl,rfl,trivial⟩ (zce _ _ _) ?_;show wH15 (un (un f G) g) wb n _::F = wH15 (un f (un G g)) wb n (world15 n (xs.take (k + 1)))::F;rw [hnext,zce]
 ·have e:k = xs.length:=by omega
  subst e;rw [List.take_length];refine gP ?_;exact H.r1 ⟨G,wb,rfl,hdj,rfl,rfl⟩
end
theorem H.world15 {P:Program} {base:World} {L:Env} {K:Kont}
  (h:∀ g kb ap ac lb (l:List MV),Dj f g→WAt (un f g) n W.w kb ap l→H P base m L (un f g) (row wb 34 (w15C kb n ap l.length ac lb)::A) K):H P base m L f (wH15 f wb n W::A) K:=by
 refine H.unpack fun i hi=>?_;obtain ⟨kb,lb,ap,ac,l⟩:=i;refine qfN fun g1 hg1 hd1=>?_;refine H.Bu (.there _ (.here _ _)) fun g2 hg2 hd2=>?_;refine H.Ac (.there _ (.here _ _)) ?_;have hd3:Dj f (un g1 g2):=Dj.un3' hd1 hd2;rw [zce]
 have hle:Le f (un f (un g1 g2)):=Le.un _ _;have h1:KAt (un f (un g1 g2)) kb n W.w.kv:=by rw [← zce];exact (KAt.of hg1 hd1).mono (Le.un _ g2)
 have h2:ListAt (un f (un g1 g2)) ap 121 MV.vals l:=by rw [← zce];exact (zbd MV.len hg2).mono (Le.right hd2)
 exact h (un g1 g2) kb ap ac lb l hd3 ⟨h1,h2,fun y hy=>(hi.2 y hy).mono hle,hi.1⟩
theorem lgsOf_NI (n:Nat) (l:List Msg):NI (lgsOf n l):=by
 refine snocInd (p:=fun l=>NI (lgsOf n l)) (NI.new n) (fun l m ih=>?_) l;show NI (lgsOf n (l ++ [m]));rw [lgsOf_snoc];exact ih.take m
theorem WAt.good_v {W:W12} {l:List MV} (h:WAt f n W kb ap l):∀ m ∈ W.all,0 ≤ m.body.view:=fun m hm=>by
 rw [← h.m] at hm
 obtain ⟨y,hy,rfl⟩:=List.mem_map.1 hm
 exact (h.g y hy).2.2.1.1
section
variable (f:Frag) (F:List HP)
end
end Go.Proofs.YtminmjlfmolfeaaGreatDoor

namespace Go.Proofs.YtminmjlfmolfeaaGreatDoor
open Go Go.ChangeShapes Go.WideShapes Go.RowKit Go.Deep
variable {W:World}
theorem Reads.bool {P:Program} {t:TypeId} {cs:List Value} (ht:P.underlying t = some .bool) (h:Reads P W t cs):∃ b,cs = [.bool b]:=by
 obtain ⟨H',enc,b,sp,hd,n,x,h⟩:=h;obtain ⟨z,h1,_⟩:=DataW.trod_bool ht h;exact ⟨z,h1⟩
theorem Reads.u8 {cs:List Value} (h:Reads Tryz.prog W 5 cs):∃ x:UInt8,cs = [.int .u8 (x.toNat:Nat)]:=by
 obtain ⟨x,_,e⟩:=reads_byte h;exact ⟨x,e⟩
variable {v:Value}
theorem ArgOk.u8 (h:ArgOk Tryz.prog W 5 v):∃ x:UInt8,v = .int .u8 (x.toNat:Nat):=by
 obtain ⟨z,rfl,hz⟩:=h.int Tryz.underlying5;exact ⟨UInt8.ofNat z.toNat,by rw [u8_back hz]⟩
theorem AllReads.cons {P:Program} {W:World} {t:TypeId} {ts:List TypeId} {ps:List (List Value)} (h:AllReads P W (t::ts) ps):∃ p q,ps = p::q ∧ Reads P W t p ∧ AllReads P W ts q:=by
 cases ps with
 | nil=>exact h.elim
 | cons p q=>exact ⟨p,q,rfl,h.1,h.2⟩
theorem AllReads.nil {P:Program} {W:World} {ps:List (List Value)} (h:AllReads P W [] ps):ps = []:=by
 cases ps with
 | nil=>rfl
 | cons p q=>exact h.elim
theorem reads_a15 {cs:List Value} (h:Reads Tryz.prog W 88 cs):∃ x:A15,x.Has (memOf W) ∧ cs = x.vals:=by
 obtain ⟨ps,rfl,hh⟩:=h.parts Tryz.underlying88 (by kernel_rfl);have h:AllReads Tryz.prog W [5,5,4,4,5,5,5,5,5,5,86,4] ps:=hh;obtain ⟨p0,q0,rfl,r0,h⟩:=h.cons
 obtain ⟨p1,q1,rfl,r1,h⟩:=h.cons;obtain ⟨p2,q2,rfl,r2,h⟩:=h.cons;obtain ⟨p3,q3,rfl,r3,h⟩:=h.cons;obtain ⟨p4,q4,rfl,r4,h⟩:=h.cons;obtain ⟨p5,q5,rfl,r5,h⟩:=h.cons;obtain ⟨p6,q6,rfl,r6,h⟩:=h.cons;obtain ⟨p7,q7,rfl,r7,h⟩:=h.cons;obtain ⟨p8,q8,rfl,r8,h⟩:=h.cons;obtain ⟨p9,q9,rfl,r9,h⟩:=h.cons;obtain ⟨p10,q10,rfl,r10,h⟩:=h.cons;obtain ⟨p11,q11,rfl,r11,h⟩:=h.cons;obtain rfl:=h.nil;obtain ⟨z0,rfl⟩:=r0.u8;obtain ⟨z1,rfl⟩:=r1.u8;obtain ⟨z2,rfl⟩:=r2.bool Tryz.underlying4;obtain ⟨z3,rfl⟩:=r3.bool Tryz.underlying4;obtain ⟨z4,rfl⟩:=r4.u8;obtain ⟨z5,rfl⟩:=r5.u8;obtain ⟨z6,rfl⟩:=r6.u8;obtain ⟨z7,rfl⟩:=r7.u8;obtain ⟨z8,rfl⟩:=r8.u8;obtain ⟨z9,rfl⟩:=r9.u8;obtain ⟨p,c,xs,rfl,_,_,_,hat⟩:=r10.list (sz:=1) Tryz.underlying86 (by kernel_rfl) (by decide) fun cs=>reads_byte;obtain ⟨z11,rfl⟩:=r11.bool Tryz.underlying4;exact ⟨⟨z0,z1,z2,z3,z4,z5,z6,z7,z8,z9,xs,z11,p,c⟩,listAt_bat hat,rfl⟩
theorem ArgOk.acts15 (h:ArgOk Tryz.prog W 22 v):∃ (p:Option Addr) (c:Nat) (xs:List A15),v = .slice p xs.length c ∧ xs.length ≤ 9223372036854775807 ∧ (∀ x ∈ xs,x.Has (memOf W)) ∧ ListAt (memOf W) p 12 A15.vals xs:=by
  obtain ⟨p,c,xs,rfl,h1,h2,hq,hat⟩:=h.list (sz:=12) Tryz.underlying22 (by kernel_rfl) (by decide) fun cs=>reads_a15
  exact ⟨p, c, xs, rfl, by have : maxLen ≤ 9223372036854775807 := by decide
                           omega,hq,hat⟩
end Go.Proofs.YtminmjlfmolfeaaGreatDoor

namespace Go.Proofs.YtminmjlfmolfeaaGreatDoor
open Go
def allO (o:Option Vw):List Req:=(o.map Vw.all).getD []
def LogOR (f:Frag) (A:List HP) (o:Option Vw):Value→Frag→List HP→Prop:=fun v f' A'=>∃ (p:Option Addr) (c:Nat),v = .tuple #[.slice p (allO o).length c,.bool o.isSome] ∧ f' = f ∧ A' = slc p (allO o).length c 44 40 ((allO o).flatMap Req.vals)::A
variable {fl:Frag} {lb T:Nat} {l:Lgs} {v:Int}
section
variable (f:Frag) (F:List HP)
theorem pllog_no (hat:vwAt l.vs v = none) :
  Fn Tryz.prog 24 [.pointer (some ⟨lb,0,none⟩),.int .u64 v] f (plogH fl lb l::F) (Ret (.tuple #[.slice none 0 0,.bool false]) f (plogH fl lb l::F)):=by
 refine Fn.unpack fun i hi=>?_;have hvs:=hi.vs;obtain ⟨V,vb,pp,pc,cp,cc,pb,cs⟩:=i
 have hvs:(V.map PV.w).Perm l.vs:=hvs;have hget:(getKV (V.map PV.ent) v).getD (.pointer none) = .pointer none:=by rw [view_none hvs hat];rfl
 refine qcY ?_;refine Fn.e2 Tryz.func24 Tryz.ntmps24 fun base=>?_;refine gU ?_;refine qgO ?_;refine gX ?_;refine qdw ?_;exact qbH
theorem pllogO_fn (hL:LI l T) (hT:T ≤ 50000) (v:Int) :
  Fn Tryz.prog 24 [.pointer (some ⟨lb,0,none⟩),.int .u64 v] f (plogH fl lb l::F) (LogOR f (plogH fl lb l::F) (l.vw v)):=by
 cases hv:l.vw v with
 | none =>
  intro base w s;have h:=pllog_no f F (fl:=fl) (lb:=lb) (vw_none.1 hv) base w s;refine h.mono ?_
  rintro e w' ⟨x,f',A',rfl,⟨rfl,rfl,rfl⟩,s'⟩;refine ⟨_,_,slc none 0 0 44 40 []::plogH fl lb l::F,rfl,⟨none,0,rfl,rfl,rfl⟩,s'.imp fun h hh=>⟨nil0,h,(Dj.nil h).symm,(nil_un h).symm,slc_nil none 44 40,hh⟩⟩
 | some w =>
  obtain ⟨i,h1,h2⟩:=vw_at hv;exact (pllog_fn f F hL hT h1 h2).mono fun _ _ _ h=>h
end
open Go.Sort (bitsLen PermIn SortedIn Below ltInt swo_ltInt sorted_unique_holds)
theorem list_arr (xs:List Int):xs.flatMap uV = arr xs.toArray:=rfl
theorem sorted_eq:∀ {ys zs:List Int},ys.Perm zs→zs.Pairwise (· < ·)→ys.Pairwise (· ≤ ·)→ys = zs
 | [],zs,h,_,_=>h.nil_eq
 | y::ys,[],h,_,_=>absurd h.length_eq (by simp)
 | y :: ys, z :: zs, h, hz, hy => by
  rw [List.pairwise_cons] at hz hy
  have e:y = z:=by
   have h1:z ∈ y::ys:=h.mem_iff.2 (by simp);have h2:y ∈ z::zs:=h.mem_iff.1 (by simp)
   rcases List.mem_cons.1 h1 with h1 | h1
   ·exact h1.symm
   ·rcases List.mem_cons.1 h2 with h2 | h2
    ·exact h2
    ·have:=hy.1 z h1;have:=hz.1 y h2;omega
  subst e
  rw [sorted_eq ((List.perm_cons y).1 h) hz.2 hy.2]
def unseenU (es:List (Int × Value × Nat)) (seen:List Int):Nat:=(es.filter fun e=>!seen.contains e.1).length
theorem unseenU_lt:∀ {es:List (Int × Value × Nat)} {seen:List Int} {e:Int × Value × Nat},e ∈ es→e.1 ∉ seen→unseenU es (e.1::seen) < unseenU es seen:=fun {es seen e} he hn=>by
 have hle:∀ l:List (Int × Value × Nat),(l.filter fun x=>!(e.1::seen).contains x.1).length ≤ (l.filter fun x=>!seen.contains x.1).length:=fun l=>by
  induction l with
  | nil=>exact Nat.le_refl _
  | cons x r ih =>
   by_cases h1:x.1 ∈ seen
   ·rw [List.filter_cons_of_neg (by simp [h1]),List.filter_cons_of_neg (by simp [h1])];exact ih
   ·by_cases h2:x.1 = e.1
    ·rw [List.filter_cons_of_neg (by simp [h2]),List.filter_cons_of_pos (by simp [h1])];simp only [List.length_cons];omega
    ·rw [List.filter_cons_of_pos (by simp [h1,h2]),List.filter_cons_of_pos (by simp [h1])];simp only [List.length_cons];omega
 obtain ⟨a,b,rfl⟩:=List.append_of_mem he
 unfold unseenU
 rw [List.filter_append,List.filter_append,List.filter_cons_of_neg (p:=fun x:Int × Value × Nat=>!(e.1::seen).contains x.1) (by simp),List.filter_cons_of_pos (p:=fun x:Int × Value × Nat=>!seen.contains x.1) (by simp [hn]),List.length_append,List.length_append,List.length_cons]
 have:=hle a
 have:=hle b
 omega
theorem nodup_len:∀ {s l:List Int},s.Nodup→(∀ k ∈ s,k ∈ l)→s.length ≤ l.length
 | [],_,_,_=>Nat.zero_le _
 | k :: s, l, hn, hs => by
  rw [List.nodup_cons] at hn
  obtain ⟨a,b,rfl⟩:=List.append_of_mem (hs k (by simp))
  have:=nodup_len (l:=a ++ b) hn.2 fun j hj=>by
   have h1:=hs j (List.mem_cons_of_mem _ hj)
   rw [List.mem_append,List.mem_cons] at h1
   rw [List.mem_append]
   rcases h1 with h1 | h1 | h1
   ·exact .inl h1
   ·exact absurd (h1 ▸ hj) hn.1
   ·exact .inr h1
  rw [List.length_append] at this
  rw [List.length_append,List.length_cons,List.length_cons]
  omega
variable {lp:Nat} {A:List HP}
theorem YieldFn.exI {P:Program} {args:List Value} {f:Frag} {α:Type} {g:α→HP} {R:Value→Frag→List HP→Prop} (h:∀ x,YieldFn P lp args f (g x::A) R):YieldFn P lp args f (ex g::A) R:=fun base w s=>by
 obtain ⟨m,⟨m1,m2,d,e,⟨x,hx⟩,h2⟩,hd,hw⟩:=s.mem
 exact h x base w ⟨s.os,s.tape,s.output,s.size,s.imm,m,⟨m1,m2,d,e,hx,h2⟩,hd,hw⟩
variable {vb mb:Nat} {m:List (Int × Value)} {LH D:HP} {acc:List Int}
section
variable (f:Frag) (F:List HP)
def SrtL (f:Frag) (F:List HP) (p:Option Addr) (n c:Nat) (xs:List Int):Value→Frag→List HP→Prop:=fun v f' A'=>∃ ys:List Int,ys.Perm xs ∧ ys.Pairwise (· ≤ ·) ∧ v = .tuple #[] ∧ f' = f ∧ A' = slc p n c 24 1 (ys.flatMap uV)::F
theorem sortU_fn {p:Option Addr} {n c:Nat} {xs:List Int} (hx:xs.length = n) (hn:n ≤ 255) :
  Fn Tryz.prog 84 [.slice p n c] f (slc p n c 24 1 (xs.flatMap uV)::F) (SrtL f F p n c xs):=by
 have hl:=fun G=>len_fn f G (x:=n) (by omega);have hb8:bitsLen n ≤ 8:=(tab8 ⟨n,by omega⟩).2.2.2
 have hs:=pdq_fn f F n (p:=p) (n:=n) (c:=c) (a0:=0) (b0:=n) (lim0:=(bitsLen n:Nat)) (d0:=xs.toArray) (by simpa using hx) hn (Nat.zero_le _) (Nat.le_refl _) (by omega) (.inl rfl) (by omega)
 have hun:∀ d:Array Int,PermIn 0 n xs.toArray d→SortedIn ltInt 0 n d→d.toList.Perm xs ∧ d.toList.Pairwise (· ≤ ·):=fun d h1 h2=>by
  have hdn:d.size = n:=h1.1.trans (by simpa using hx);have e:xs.toArray.size = n:=by simpa using hx
  refine ⟨?_,?_⟩
  ·have:=sorted_unique_holds swo_ltInt (fun x y h1 h2=>by simp only [ltInt,decide_eq_false_iff_not] at h1 h2;omega) xs.toArray d (by rw [e];exact h1) (by rw [e];exact h2);rw [this]
   exact List.mergeSort_perm _ _
  ·rw [List.pairwise_iff_getElem];intro i j hi hj hij;have h3:=h2 i j (Nat.zero_le _) hij (by rw [← hdn];simpa using hj);have hi':i < d.size:=by simpa using hi
   have hj':j < d.size:=by simpa using hj
   rw [getElem!_pos d i hi',getElem!_pos d j hj'] at h3;simp only [ltInt,decide_eq_false_iff_not] at h3;simp only [Array.getElem_toList];omega
 rw [list_arr];refine Fn.e1 Tryz.func84 Tryz.ntmps84 fun base=>?_;refine gD ?_;refine H.cr (hl _) ?_;skip;refine H.Al rfl rfl rfl hs fun v f' A' hR=>?_;obtain ⟨d,h1,h2,rfl,hff,rfl⟩:=hR;rw [hff];obtain ⟨h3,h4⟩:=hun d h1 h2;refine gA ?_;exact H.end0 rfl (fun _ h=>h) ⟨d.toList,h3,h4,rfl,rfl,rfl⟩
theorem keys_fn:Fn Tryz.prog 75 [.map (some vb)] f F
  (RetE (α:=Nat) (fun b=>.func (.func 117) #[] #[.pointer (some ⟨b,0,none⟩)]) f (fun b=>row b 126 [.map (some vb)]::F)):=by
 refine Fn.e1 Tryz.func75 Tryz.ntmps75 fun base=>?_;refine gA ?_;refine H.box (ls:=[.map (some vb)]) rfl rfl rfl rfl fun b=>?_;refine gW ?_;exact H.r1 ⟨b,rfl,rfl,rfl⟩
theorem keys1_fn {X:List Int→HP} (hnd:(m.map (·.1)).Nodup)
  (hY:∀ (acc:List Int) (k:Int) (G:List HP),acc.length ≤ m.length→YieldFn Tryz.prog lp [.int .u64 k] f (X acc::G) (fun v g B=>v = .bool true ∧ g = f ∧ B = X (acc ++ [k])::G)) :
  Fn Tryz.prog 117 ([] ++ [.func (.yield lp) #[] #[]] ++ [.pointer (some ⟨mb,0,none⟩)]) f (mp vb keyU m::X []::row mb 126 [.map (some vb)]::F)
   (RetE (α:={ ks:List Int // ks.Perm (m.map (·.1)) }) (fun _=>.tuple #[]) f (fun ks=>X ks.1::row mb 126 [.map (some vb)]::mp vb keyU m::F)):=by
 refine Fn.openMap fun es clock hes=>?_
 have hkeys:m.map (·.1) = es.map (·.1):=by
  rw [← hes,List.map_map];rfl
 refine Fn.e2 Tryz.func117 Tryz.ntmps117 fun base=>?_;refine gF ?_;refine H.range rfl rfl (by repeat constructor) rfl fun rb=>?_;refine gR ?_;refine H.pf (x:=X _) ?_
 refine H.lo (ι:=List Int) (fun _=>[(5,.pointer (some ⟨rb,0,none⟩)),(0,.func (.yield lp) #[] #[])]) (fun _=>f)
  (fun s=>X s.reverse::itr rb vb es clock s::mpS vb keyU es clock::row mb 126 [.map (some vb)]::F) (fun s=>s.Nodup ∧ ∀ k ∈ s,k ∈ es.map (·.1)) (fun s=>unseenU es s) [] ⟨List.nodup_nil,fun k h=>by cases h⟩ fun s hs=>?_
 obtain ⟨hsn,hsk⟩:s.Nodup ∧ ∀ k ∈ s,k ∈ es.map (·.1):=hs;show H _ _ _ [(5,_),_] f (X s.reverse::itr rb vb es clock s::_::_::F) _;refine gA ?_;refine H.next rfl rfl (by repeat constructor) (by repeat constructor) (fun _=>(by repeat constructor)) rfl (fun hend=>?_) (fun e he hns=>?_)
 ·have hp:s.reverse.Perm (m.map (·.1)):=by
   refine (List.reverse_perm s).trans ((List.perm_ext_iff_of_nodup hsn hnd).2 fun k=>?_);rw [hkeys];refine ⟨hsk k,fun hk=>?_⟩;obtain ⟨e,he,rfl⟩:=List.mem_map.1 hk;exact hend e he
  refine gW ?_;refine H.pd (x:=itr _ _ _ _ _) ?_;refine H.pf (x:=mpS _ _ _ _) ?_;refine H.imp mpS_fold ?_;rw [hes];refine qdx ?_;refine H.pf (x:=X _) ?_;exact H.end0 rfl (fun _ h=>h) ⟨⟨s.reverse,hp⟩,rfl,rfl,rfl⟩
 ·skip;refine gX ?_;refine H.entry rfl rfl (by repeat constructor) (by repeat constructor) he rfl ?_
  iterate 5 ( first
   | ((first | apply H.Au | apply H.Bd | apply H.Be | apply H.Bi | apply H.Br | apply H.Bt);(iterate 3 exact rfl))
   | (apply H.Bm;(iterate 3 exact rfl);exact inferInstance;exact rfl)
   | (apply H.Ab;(iterate 3 exact rfl);apply Rd1.ofRow;(repeat (first | exact .here _ _ _ | apply At.there));(iterate 2 exact rfl))
   | (first | apply H.seq | apply H.Bf | apply H.nil | apply H.Bj)
   | ((first | apply H.cmp | apply H.Az);(iterate 5 exact rfl))
   | ((first | (apply H.ar;(iterate 4 exact rfl)) | (apply H.Bk;(iterate 2 exact rfl)));(first | (with_reducible apply zaz;omega) | (with_reducible apply zbb;omega) | (with_reducible apply zba;omega) | (with_reducible apply wr_i64;omega) | (with_reducible apply wr_u64;omega) | (with_reducible apply wr_u8;omega) | (with_reducible apply wr_u16;omega) | rfl);exact rfl)
   | (apply H.pass;(iterate 2 exact rfl))
   | (apply H.pass0;exact rfl)
   | (apply H.pickT;(iterate 4 exact rfl))
   | ((first | apply H.Bs | apply H.Cc | apply H.not | apply H.Cm);(iterate 4 exact rfl))
   | ((first | apply H.ptrNil | apply H.Cl);(iterate 5 exact rfl))
   | (apply H.Ay;(iterate 4 exact rfl);(repeat (first | exact .here _ _ _ | apply At.there));(repeat (first | exact .here _ _ _ | apply SetV.there)))
   | (apply H.Co;exact rfl)
   | (apply H.Cj;exact rfl)
   | (first | apply H.skip | apply H.ret | apply H.Ca | apply H.Ce | apply H.exit | apply H.Bl | apply H.Bq | apply H.Bw | apply H.Cb | apply H.Bz | apply H.Bv)
   | (apply H.in_miss;exact rfl)
   | (apply H.gyes;(iterate 3 exact rfl);(first | assumption | omega))
   | (apply H.gno;(iterate 3 exact rfl);(first | assumption | omega))
   | (apply H.Cn;exact rfl;(first | assumption | omega))
   | (apply H.Ci;exact rfl;(first | assumption | omega))
   | ((first | apply H.gtrue);(iterate 3 exact rfl);assumption)
   | (apply H.gfalse;(iterate 3 exact rfl);assumption)
   | (apply H.cond_t;exact rfl;assumption)
   | (apply H.cond_f;exact rfl;assumption) )
  refine H.regionY ?_
  have hlen:s.reverse.length ≤ m.length:=by
   have h1:=nodup_len hsn hsk;rw [List.length_map] at h1
   rw [List.length_reverse,← hes,List.length_map];exact h1
  refine H.inOp (by with_reducible (repeat (first | exact zbe | exact zau | exact zap | exact zao | refine zav ?_ | refine zan ?_ | refine zas ?_ | refine zat ?_ | refine zbf ?_))) ?_;refine gJ ?_;refine H.Cd ?_;refine H.inOp (by with_reducible (repeat (first | exact zbe | exact zau | exact zap | exact zao | refine zav ?_ | refine zan ?_ | refine zas ?_ | refine zat ?_ | refine zbf ?_))) ?_;refine gJ ?_;refine H.Cd ?_;refine H.pf (x:=X _) ?_;refine H.yield rfl rfl rfl rfl (hY s.reverse e.1 _ hlen) fun v f' A' hR=>?_;obtain ⟨rfl,hff,rfl⟩:=hR;rw [hff];clear hff;refine H.inOp (by with_reducible (repeat (first | exact zbe | exact zau | exact zap | exact zao | refine zav ?_ | refine zan ?_ | refine zas ?_ | refine zat ?_ | refine zbf ?_))) ?_;refine gX ?_;refine H.Cd ?_;refine H.inNil ?_;refine gW ?_;refine H.pf (x:=mpS _ _ _ _) ?_;refine H.pf (x:=itr _ _ _ _ _) ?_;refine H.pf (x:=X _) ?_;refine H.Aq (e.1::s) ⟨List.nodup_cons.2 ⟨hns,hsn⟩,fun k hk=>?_⟩ (unseenU_lt he hns) ⟨rfl,rfl,trivial⟩ rfl ?_
  ·rcases List.mem_cons.1 hk with h | h
   ·rw [h];exact List.mem_map.2 ⟨e,he,rfl⟩
   ·exact hsk k h
  ·show _ = X (e.1::s).reverse::_;rw [List.reverse_cons]
def ColP (f:Frag) (F:List HP) (mb vb:Nat) (m:List (Int × Value)):Value→Frag→List HP→Prop:=fun v f' A'=>∃ (ks:List Int) (p:Option Addr) (c:Nat),ks.Perm (m.map (·.1)) ∧ v = .slice p ks.length c ∧ f' = f ∧ A' = slc p ks.length c 24 1 (ks.flatMap uV)::row mb 126 [.map (some vb)]::mp vb keyU m::F
def accH (LH D:HP) (sb:Nat) (acc:List Int):HP:=ex fun pc:Option Addr × Nat=>stars [LH,D,row sb 90 [.slice pc.1 acc.length pc.2],slc pc.1 acc.length pc.2 24 1 (acc.flatMap uV)]
theorem acc_in {sb:Nat} (p:Option Addr) (c:Nat):∀ h,stars (LH::D::row sb 90 [.slice p acc.length c]::slc p acc.length c 24 1 (acc.flatMap uV)::A) h→stars (accH LH D sb acc::A) h:=fun h hh=>by
 have:=pack_all [LH,D,row sb 90 [.slice p acc.length c],slc p acc.length c 24 1 (acc.flatMap uV)] A h hh
 obtain ⟨m1,m2,d,e,a,r⟩:=this
 exact ⟨m1,m2,d,e,⟨(p,c),a⟩,r⟩
def acc2 (D:HP) (sb:Nat) (acc:List Int):HP:=ex fun pc:Option Addr × Nat=>stars [D,row sb 90 [.slice pc.1 acc.length pc.2],slc pc.1 acc.length pc.2 24 1 (acc.flatMap uV)]
theorem acc_out {sb:Nat}:∀ h,stars (accH LH D sb acc::A) h→stars (LH::acc2 D sb acc::A) h:=fun h ⟨m1,m2,d,e,⟨pc,a⟩,r⟩=>by
 obtain ⟨m3,m4,d2,e2,a2,r2⟩:=a
 rw [e2] at d e
 have d3:=Dj.un_left.1 d
 exact ⟨m3,un m4 m2,Dj.un_right.2 ⟨d2,d3.1⟩,by rw [e,zce],a2,m4,m2,d3.2,rfl,⟨pc,r2⟩,r⟩
theorem appendSeq_fn (hnd:(m.map (·.1)).Nodup) (hm:m.length ≤ 1000000) :
  Fn Tryz.prog 164 [.slice none 0 0,.func (.func 117) #[] #[.pointer (some ⟨mb,0,none⟩)]] f (row mb 126 [.map (some vb)]::mp vb keyU m::F) (ColP f F mb vb m):=by
 refine Fn.enterM Tryz.func164 rfl Tryz.ntmps164 rfl (L:=[(0,_),(1,_)]) ⟨rfl,rfl,trivial⟩ fun base=>?_;refine gA ?_;refine H.box (ls:=[.slice none 0 0]) rfl rfl rfl rfl fun sb=>?_;refine gR ?_;refine H.slc0 24 1 ?_;refine H.pf (x:=row sb _ _) ?_;refine H.sb [(6,.func (.func 117) #[] #[.pointer (some ⟨mb,0,none⟩)]),(2,.pointer (some ⟨sb,0,none⟩))] ?_;refine H.rangeFuncE (f':=f) (fs:=[]) (cs:=[.pointer (some ⟨mb,0,none⟩)]) rfl rfl fun LH hLH=>⟨{ ks:List Int // ks.Perm (m.map (·.1)) },fun i D=>acc2 (pts D (.deferred (some []))) sb i.1::row mb 126 [.map (some vb)]::mp vb keyU m::F,fun D lp=>?_,fun i D=>?_⟩
 ·refine Fn.wrap (A1:=mp vb keyU m::accH (LH D lp .ready) (pts D (.deferred (some []))) sb []::row mb 126 [.map (some vb)]::F) (fun h hh=>?_) (keys1_fn f F (X:=accH (LH D lp .ready) (pts D (.deferred (some []))) sb) hnd fun acc k G hacc=>?_) fun v g B hR=>?_
  ·have h1:=acc_in (acc:=[]) none 0 h hh;rw [Pull.eq (x:=mp vb keyU m) (.there _ (.there _ (.here _ _)))] at h1
   exact h1
  ·refine YieldFn.exI fun pc=>?_;obtain ⟨p,c⟩:=pc;refine YieldFn.wrap (R1:=fun v g B=>∃ (p2:Option Addr) (c2:Nat),v = .bool true ∧ g = f ∧ B = LH D lp .ready::pts D (.deferred (some []))::row sb 90 [.slice p2 (acc ++ [k]).length c2]::slc p2 (acc ++ [k]).length c2 24 1 ((acc ++ [k]).flatMap uV)::G) (open_all _ _) ?_ ?_
   ·subst hLH;refine YieldFn.of rfl rfl rfl rfl fun base=>?_;repeat (first | (apply H.regionR;exact rfl;exact (by with_reducible (repeat (first | exact zbe | exact zau | exact zap | exact zao | refine zav ?_ | refine zan ?_ | refine zas ?_ | refine zat ?_ | refine zbf ?_)))) | (first | ((apply H.Bd);(iterate 3 exact rfl)) | (apply H.nil)))
    refine H.begin ?_;repeat (first | (first | (apply H.blockR) | (apply H.regionR;exact rfl;exact (by with_reducible (repeat (first | exact zbe | exact zau | exact zap | exact zao | refine zav ?_ | refine zan ?_ | refine zas ?_ | refine zat ?_ | refine zbf ?_))))) | (first | ((apply H.Au);(iterate 3 exact rfl)) | (apply H.Ab;(iterate 3 exact rfl);apply Rd1.ofRow;(repeat (first | exact .here _ _ _ | apply At.there));(iterate 2 exact rfl))))
    show H _ _ _ _ f (_::pts D _::row sb _ [.slice p acc.length c]::slc p acc.length c _ 1 (acc.flatMap uV)::G) _;refine H.Ar (out:=uV k) rfl rfl rfl rfl (by decide) (by decide) rfl rfl fun eb=>?_;refine H.Aw (sz:=1) (p:=p) (n0:=acc.length) (c:=c) (xs:=acc.flatMap uV) (m:=1) (news:=uV k) rfl rfl rfl rfl rfl (fun p' c'=>.there _ (.there _ (.there _ (.there _ (.here _ _ _))))) (Src.slice (Rd.ofRow (.here _ _ _)) rfl) (zaa rfl) rfl (by omega) (by omega) fun p2 c2=>?_;refine H.Ay rfl rfl rfl rfl (.there _ (.there _ (.there _ (.here _ _ _)))) (.here _ _ _) ?_;refine qdp ?_;repeat ((first | (apply H.nil) | (apply H.Bq)))
    refine H.endRound ⟨p2,c2,rfl,rfl,?_⟩;rw [List.length_append,List.flatMap_append];rfl
   ·rintro v g B ⟨p2,c2,rfl,rfl,rfl⟩;exact ⟨_,⟨rfl,rfl,rfl⟩,acc_in p2 c2⟩
  ·obtain ⟨ks,rfl,rfl,rfl⟩:=hR;exact ⟨_,⟨ks,rfl,rfl⟩,acc_out⟩
 ·show H _ _ _ _ f (acc2 (pts D (.deferred (some []))) sb i.1::row mb 126 [.map (some vb)]::mp vb keyU m::F) _;refine H.ex fun pc=>?_;obtain ⟨p,c⟩:=pc;refine H.imp (open_all [_,_,_] _) ?_;show H _ _ _ _ f (pts D (.deferred (some []))::row sb 90 [.slice p i.1.length c]::slc p i.1.length c 24 1 (i.1.flatMap uV)::_::_::F) _;refine gM ?_;refine H.pd (x:=row sb _ _) ?_;exact H.retMk rfl rfl rfl (.here _ _) (fun _ h=>h) ⟨i.1,p,c,i.2,rfl,rfl,rfl⟩
theorem collect_fn (hnd:(m.map (·.1)).Nodup) (hm:m.length ≤ 1000000) :
  Fn Tryz.prog 116 [.func (.func 117) #[] #[.pointer (some ⟨mb,0,none⟩)]] f (row mb 126 [.map (some vb)]::mp vb keyU m::F) (ColP f F mb vb m):=by
 refine Fn.e1 Tryz.func116 Tryz.ntmps116 fun base=>?_;refine gJ ?_;refine H.Al rfl rfl rfl (appendSeq_fn f F hnd hm) fun v f' A' hR=>?_;obtain ⟨ks,p,c,hp,rfl,hff,rfl⟩:=hR;rw [hff];refine gR ?_;exact H.r1 ⟨ks,p,c,hp,rfl,rfl,rfl⟩
def SdP (f:Frag) (F:List HP) (mb vb:Nat) (m:List (Int × Value)) (zs:List Int):Value→Frag→List HP→Prop:=fun v f' A'=>∃ (p:Option Addr) (c:Nat),v = .slice p zs.length c ∧ f' = f ∧ A' = slc p zs.length c 24 1 (zs.flatMap uV)::row mb 126 [.map (some vb)]::mp vb keyU m::F
theorem sorted_fn {zs:List Int} (hz:(m.map (·.1)).Perm zs) (hr:zs.Pairwise (· < ·)) (hm:m.length ≤ 255) :
  Fn Tryz.prog 74 [.func (.func 117) #[] #[.pointer (some ⟨mb,0,none⟩)]] f (row mb 126 [.map (some vb)]::mp vb keyU m::F) (SdP f F mb vb m zs):=by
 have hnd:(m.map (·.1)).Nodup:=hz.nodup_iff.2 (hr.imp fun h=>by omega);refine Fn.e1 Tryz.func74 Tryz.ntmps74 fun base=>?_
 refine gJ ?_;refine H.Al rfl rfl rfl (collect_fn f F hnd (by omega)) fun v f' A' hR=>?_;obtain ⟨ks,p,c,hp,rfl,hff,rfl⟩:=hR;rw [hff];have hkl:ks.length ≤ 255:=by rw [hp.length_eq,List.length_map];exact hm
 refine gJ ?_;refine H.Al rfl rfl rfl (sortU_fn f _ (p:=p) (c:=c) (xs:=ks) rfl hkl) fun v f' A' hR=>?_;obtain ⟨ys,h1,h2,rfl,hff,rfl⟩:=hR;rw [hff];have e:ys = zs:=sorted_eq (h1.trans (hp.trans hz)) hr h2;have hl:ks.length = zs.length:=by rw [hp.length_eq,hz.length_eq]
 subst e;rw [hl];exact qcN
def viewsU (l:Lgs):List Int:=l.vs.map Vw.v
def ViewsP (f:Frag) (A:List HP) (l:Lgs):Value→Frag→List HP→Prop:=fun v f' A'=>∃ (p:Option Addr) (c:Nat),v = .slice p (viewsU l).length c ∧ f' = f ∧ A' = slc p (viewsU l).length c 24 1 ((viewsU l).flatMap uV)::A
theorem plviews_fn (hL:LI l T) (hT:T ≤ 254) :
  Fn Tryz.prog 38 [.pointer (some ⟨lb,0,none⟩)] f (plogH fl lb l::F) (ViewsP f (plogH fl lb l::F) l):=by
 refine Fn.unpack fun i hi=>?_;have hvs:=hi.vs;have hvl:=hL.vl
 obtain ⟨V,vb,pp,pc,cp,cc,pb,cs⟩:=i;have hvs:(V.map PV.w).Perm l.vs:=hvs;have hVl:=perm_len hvs
 have hz:((V.map PV.ent).map (·.1)).Perm (viewsU l):=by
  have:=hvs.map Vw.v;rw [List.map_map] at this ⊢
  exact this
 refine qcY ?_;refine Fn.e1 Tryz.func38 Tryz.ntmps38 fun base=>?_;refine gU ?_;refine H.callE rfl rfl rfl (keys_fn f _) fun mb=>?_;skip;refine H.pf (x:=mp vb _ _) ?_;refine qdx ?_;refine H.Al rfl rfl rfl (sorted_fn f _ hz hL.rise (by rw [List.length_map];omega)) fun v f' A' hR=>?_;obtain ⟨p2,c2,rfl,hff,rfl⟩:=hR;rw [hff];refine qgM ?_;refine qhe ?_;exact H.r1 ⟨p2,c2,rfl,rfl,rfl⟩
end
section
variable (f:Frag) (F:List HP)
theorem sameR_fn {pa pb:Option Addr} {ca cb:Nat} {xs:List Req} (hA:ListAt f pa 40 Req.vals xs) (hB:ListAt f pb 40 Req.vals xs) (hl:xs.length ≤ 1000000) :
  Fn Tryz.prog 30 [.slice pa xs.length ca,.slice pb xs.length cb] f F (Ret (.bool true) f F):=by
 refine Fn.e2 Tryz.func30 Tryz.ntmps30 fun base=>?_;refine gP ?_;refine H.lo (ι:=Nat) (fun i=>[(5,.int .i64 (i:Int)),(0,.slice pa xs.length ca),(1,.slice pb xs.length cb)]) (fun _=>f) (fun _=>F) (fun i=>i ≤ xs.length) (fun i=>xs.length - i) 0 (Nat.zero_le _) fun i hi=>?_;have hi:i ≤ xs.length:=hi;by_cases hlt:i < xs.length
 ·obtain ⟨y,hy⟩:∃ y,xs[i]? = some y:=⟨_,List.getElem?_eq_getElem hlt⟩;obtain ⟨b,off,cs,T,fr,rfl,hfb,hcs⟩:=hA i y hy;obtain ⟨b2,off2,cs2,T2,fr2,rfl,hfb2,hcs2⟩:=hB i y hy;have he:eqC y.vals y.vals = true:=eqC_refl rfl;refine gG ?_
  refine H.dq ?_;refine qgE ?_;refine HQ.Ae (ls:=y.vals) rfl rfl rfl (Rd.imm hfb hcs) rfl rfl ?_;refine qgE ?_;refine HQ.Ae (ls:=y.vals) rfl rfl rfl (Rd.imm hfb2 hcs2) rfl rfl ?_;refine HQ.aggNe (xs:=y.vals) (ys:=y.vals) (D:=4) (b:=false) rfl rfl rfl rfl (by kernel_rfl) (by kernel_rfl) (by kernel_rfl) (by kernel_rfl) (by decide) (by rw [he];rfl) rfl ?_;refine gK ?_;refine gW ?_;exact H.ag (i + 1) (by show i + 1 ≤ xs.length;omega) (by show xs.length - (i + 1) < xs.length - i;omega)
 ·have e:i = xs.length:=by omega
  subst e;refine gP ?_;exact qah
end
structure Grow (l l2:Lgs):Prop where
 vw:∀ v w,l.vw v = some w→∃ w2,l2.vw v = some w2 ∧ w.all <+: w2.all
 lo:l.vs.length ≤ l2.vs.length
 hi:l2.vs.length ≤ l.vs.length + 1
theorem Grow.same {l2:Lgs} (h:l2.vs = l.vs):Grow l l2:=⟨fun v w hv=>⟨w,by rw [vw_congr h];exact hv,List.prefix_refl _⟩,by rw [h];exact Nat.le_refl _,by rw [h];exact Nat.le_succ _⟩
theorem Grow.counts {l:Lgs} {T:Nat} (h:LI l T) {m:Msg} (hm:MIn l.n m):Grow l (l.counts m).2:=by
 have hr2:=(h.counts hm).rise;rw [zbp h.rise] at hr2 ⊢
 cases he:l.eff m with
 | none=>exact Grow.same rfl
 | some e =>
  rw [he] at hr2;show Grow l (l.app (orgI m) e);have hr2:((l.app (orgI m) e).vs.map Vw.v).Pairwise (· < ·):=hr2
  cases e with
  | no=>exact Grow.same rfl
  | past p=>exact Grow.same rfl
  | chg p c=>exact Grow.same rfl
  | prep p v y =>
   refine ⟨fun u w hu=>?_,?_,?_⟩
   ·refine ⟨putV v y w,by rw [vw_put h.rise (v:=v) (y:=y) rfl u,hu];rfl,?_⟩;unfold putV;split
    ·show w.s ++ w.p.map Prod.snd <+: w.s ++ (w.p ++ [y]).map Prod.snd;rw [List.map_append,← List.append_assoc];exact List.prefix_append _ _
    ·exact List.prefix_refl _
   ·show _ ≤ (l.vs.map (putV v y)).length;rw [List.length_map];exact Nat.le_refl _
   ·show (l.vs.map (putV v y)).length ≤ _;rw [List.length_map];exact Nat.le_succ _
  | beg p w =>
   have hlen:=(zbg w l.vs).length_eq;refine ⟨fun u x hu=>?_,?_,?_⟩
   ·have e:=vw_ins (l:=l) (l2:=l.app (orgI m) (.beg p w)) (w:=w) rfl hr2 u;obtain ⟨hxv,hxm⟩:=vw_v hu
    by_cases euw:u = w.v
    ·have hx2:x ∈ insV w l.vs:=(zbg w l.vs).mem_iff.1 (List.mem_cons_of_mem _ hxm);have hw2:w ∈ insV w l.vs:=(zbg w l.vs).mem_iff.1 List.mem_cons_self
     have:=Vw.uniq hr2 hx2 hw2 (hxv.trans euw);subst this
     exact ⟨x,by rw [e,if_pos euw],List.prefix_refl _⟩
    ·exact ⟨x,by rw [e,if_neg euw];exact hu,List.prefix_refl _⟩
   ·show _ ≤ (insV w l.vs).length;rw [← hlen];exact Nat.le_succ _
   ·show (insV w l.vs).length ≤ _;rw [← hlen];exact Nat.le_refl _
theorem viewsU_mem:v ∈ viewsU l ↔ ∃ w,l.vw v = some w:=by
 unfold viewsU;constructor
 ·intro h;obtain ⟨w,hw,e⟩:=List.mem_map.1 h
  cases hv:l.vw v with
  | none=>exact absurd e (vw_no hv w hw)
  | some x=>exact ⟨x,rfl⟩
 ·rintro ⟨w,hw⟩;obtain ⟨h1,h2⟩:=vw_v hw;exact List.mem_map.2 ⟨w,h2,h1⟩
end Go.Proofs.YtminmjlfmolfeaaGreatDoor
