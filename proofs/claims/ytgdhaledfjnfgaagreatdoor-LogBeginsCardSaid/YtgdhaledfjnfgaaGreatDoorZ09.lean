/- Parts of the proof, one behind the other, each under its own heading. No conditions. -/
import Derived.Test.YtgdhaledfjnfgaaGreatDoorZ08
import Derived.Lib.Tables
set_option linter.unusedSectionVars false
set_option linter.unusedSimpArgs false
set_option linter.unusedVariables false
/- Go's sort at uint64: partitionOrdered, partitionEqualOrdered. No condition. -/
namespace Go.Proofs.YtgdhaledfjnfgaaGreatDoor
open Go
open Go.Sort (swp ltInt insInner insOuter insertionSort siftDown heapBuild heapPop heapSort reverseLoop reverseRange scanUp scanDown partLoop partEqLoop scanSorted shiftDown shiftUp partialIns partialInsertionSort)
open Go.Sort (partition partitionEqual partLoop_eq partEqLoop_eq partition_fst partition_arr scanUp_spec scanDown_spec)
theorem two_scans (p q : Int → Bool) (hq : ∀ x, q x = !p x) (d : Array Int) {i j : Nat} (hi : 0 < i) (hij : i ≤ j + 1) :
  i ≤ scanUp p d j i ∧ scanUp p d j i ≤ j + 1 ∧ scanDown q d (scanUp p d j i) j ≤ j ∧ scanUp p d j i ≤ scanDown q d (scanUp p d j i) j + 1 ∧ (scanUp p d j i ≤ scanDown q d (scanUp p d j i) j → scanUp p d j i < scanDown q d (scanUp p d j i) j) := by
 obtain ⟨u1, u2, u3, u4⟩ := scanUp_spec p d j _ i rfl;obtain ⟨v1, v2, v3, v4⟩ := scanDown_spec q d (scanUp p d j i) j;have hu := u2 hij;refine ⟨u1, hu, v1, v2 hu, fun h => ?_⟩
 have f1 := u4 (by omega);have f2 := v4 (by omega) (by omega)
 rw [hq] at f2;rcases Nat.lt_or_ge (scanUp p d j i) (scanDown q d (scanUp p d j i) j) with h' | h'
 ·exact h'
 ·have e : scanUp p d j i = scanDown q d (scanUp p d j i) j := by omega
  rw [← e, f1] at f2; cases f2
section
variable (f : Frag) (F : List HP)
def PartP (f : Frag) (F : List HP) (p : Option Addr) (n c k : Nat) (d : Array Int) : Value → Frag → List HP → Prop := fun v f' A' => ∃ ap : Bool, v = .tuple #[.int .i64 (k : Int), .bool ap] ∧ f' = f ∧ A' = slc p n c 31 1 (arr d) :: F
set_option maxHeartbeats 3200000 in
theorem partition_fn {p : Option Addr} {n c a b pivot : Nat} {d0 : Array Int} (hd0 : d0.size = n) (hn : n ≤ 1000000) (hap : a ≤ pivot) (hpb : pivot < b) (hb : b ≤ n) :
  Fn Tryz.prog 141 [.slice p n c, .int .i64 (a : Int), .int .i64 (b : Int), .int .i64 (pivot : Int)] f (slc p n c 31 1 (arr d0) :: F) (PartP f F p n c (partition ltInt d0 a b pivot).1 (partition ltInt d0 a b pivot).2.2) := by
 rw [partition_arr, partition_fst];refine Fn.e4 Tryz.func141 Tryz.ntmps141 fun base => ?_;refine qfH fun sb hp => ?_;subst hp;refine gH ?_;refine H.drawN (by kernel_rfl) (by decide +kernel) (by repeat (first | exact zac | refine zab ?_ | refine zag ?_ | refine zai ?_)) ?_;refine qeQ ?_; have hd : (swp d0 a pivot).size = n := by rw [zbh]; exact hd0
 generalize swp d0 a pivot = d at *;refine gV ?_;obtain ⟨i, hi⟩ : ∃ i, i = a + 1 := ⟨_, rfl⟩;obtain ⟨j, hj⟩ : ∃ j, j = b - 1 := ⟨_, rfl⟩;rw [← hi, ← hj];refine H.By (d := 11) (u := .int .i64 (j : Int)) rfl (by first | rfl | (congr 1; omega)) ?_;refine H.By (d := 10) (u := .int .i64 (i : Int)) rfl (by first | rfl | (congr 1; omega)) ?_;obtain ⟨s1, s2, s3, s4, s5⟩ := two_scans (fun x => ltInt x d[a]!) (fun x => !ltInt x d[a]!) (fun _ => rfl) d (i := i) (j := j) (by omega) (by omega);have heq := partLoop_eq ltInt a i j d;skip
 refine H.cutB (ι := Unit) (fun _ => [(10, .int .i64 ((scanUp (fun x => ltInt x d[a]!) d j i : Nat) : Int)), (11, .int .i64 (j : Int)), (0, .slice (some ⟨sb, 0, none⟩) n c), (1, .int .i64 (a : Int))]) (fun _ => f) (fun _ => slc (some ⟨sb, 0, none⟩) n c 31 1 (arr d) :: F) (fun _ => True) _ (fun _ _ => ?_) ?_;rotate_left
 ·exact qaf
 refine qff ?_;obtain ⟨i2, hi2⟩ : ∃ i2, i2 = scanUp (fun x => ltInt x d[a]!) d j i := ⟨_, rfl⟩;rw [← hi2] at s1 s2 s3 s4 s5 heq ⊢; repeat (first | (apply H.seq) | (apply H.Bb))
 refine H.cutB (ι := Unit) (fun _ => [(11, .int .i64 ((scanDown (fun x => !ltInt x d[a]!) d i2 j : Nat) : Int)), (10, .int .i64 (i2 : Int)), (0, .slice (some ⟨sb, 0, none⟩) n c), (1, .int .i64 (a : Int))]) (fun _ => f) (fun _ => slc (some ⟨sb, 0, none⟩) n c 31 1 (arr d) :: F) (fun _ => True) _ (fun _ _ => ?_) ?_;rotate_left
 ·exact qae
 refine qfb ?_;obtain ⟨j2, hj2⟩ : ∃ j2, j2 = scanDown (fun x => !ltInt x d[a]!) d i2 j := ⟨_, rfl⟩;rw [← hj2] at s3 s4 s5 heq ⊢;by_cases hgt : j2 < i2
 ·rw [if_pos hgt] at heq;rw [heq];refine gF ?_;refine H.drawN (by kernel_rfl) (by decide +kernel) (by repeat (first | exact zac | refine zab ?_ | refine zag ?_ | refine zai ?_)) ?_;refine qdL ?_;refine qdH ?_;refine qfv ?_;refine qfs ?_;refine qcS ?_;refine qem ?_;refine gT ?_;exact H.Bt rfl rfl rfl (fun _ h => h) ⟨true, rfl, rfl, rfl⟩
 ·have hlt := s5 (by omega);rw [if_neg hgt] at heq
  rw [heq];refine gZ ?_;refine H.drawN (by kernel_rfl) (by decide +kernel) (by repeat (first | exact zac | refine zab ?_ | refine zag ?_ | refine zai ?_)) ?_;refine qdI ?_;obtain ⟨j1, hj1⟩ : ∃ j1, j1 = j2 - 1 := ⟨_, rfl⟩;rw [← hj1]; have hd1 : (swp d i2 j2).size = n := by rw [zbh]; exact hd
  generalize swp d i2 j2 = d1 at *;refine gV ?_;refine H.By (d := 11) (u := .int .i64 (j1 : Int)) rfl (by first | rfl | (congr 1; omega)) ?_
  refine H.Ar (ι := Nat × Nat × Array Int) (fun s => [(10, .int .i64 (s.1 : Int)), (11, .int .i64 (s.2.1 : Int)), (0, .slice (some ⟨sb, 0, none⟩) n c), (1, .int .i64 (a : Int))]) (fun _ => f) (fun s => slc (some ⟨sb, 0, none⟩) n c 31 1 (arr s.2.2) :: F)
   (fun s => 0 < s.1 ∧ s.1 ≤ s.2.1 + 1 ∧ s.2.1 < n ∧ s.2.2.size = n ∧ partLoop ltInt a s.1 s.2.1 s.2.2 = partLoop ltInt a (i2 + 1) j1 d1) (fun s => s.2.1 + 1 - s.1) (i2 + 1, j1, d1) ⟨by show 0 < i2 + 1; omega, by show i2 + 1 ≤ j1 + 1; omega, by show j1 < n; omega, hd1, rfl⟩ ⟨rfl, rfl, rfl, rfl, trivial⟩ rfl rfl fun s hs => ?_
  clear s1 s2 s3 s4 s5 heq hi2 hj2 hgt hlt;obtain ⟨i, j, d⟩ := s;obtain ⟨h0, hij, hjn, hd, hr⟩ : 0 < i ∧ i ≤ j + 1 ∧ j < n ∧ d.size = n ∧ partLoop ltInt a i j d = partLoop ltInt a (i2 + 1) j1 d1 := hs;rw [← hr];clear hr;show H _ _ _ [(10, .int .i64 (i : Int)), (11, .int .i64 (j : Int)), _, _] f (slc (some ⟨sb, 0, none⟩) n c _ 1 (arr d) :: F) _;clear hj1 hd1;obtain ⟨s1, s2, s3, s4, s5⟩ := two_scans (fun x => ltInt x d[a]!) (fun x => !ltInt x d[a]!) (fun _ => rfl) d (i := i) (j := j) h0 hij;have heq := partLoop_eq ltInt a i j d; repeat (first | (apply H.seq) | (apply H.Bb))
  refine H.cutB (ι := Unit) (fun _ => [(10, .int .i64 ((scanUp (fun x => ltInt x d[a]!) d j i : Nat) : Int)), (11, .int .i64 (j : Int)), (0, .slice (some ⟨sb, 0, none⟩) n c), (1, .int .i64 (a : Int))]) (fun _ => f) (fun _ => slc (some ⟨sb, 0, none⟩) n c 31 1 (arr d) :: F) (fun _ => True) _ (fun _ _ => ?_) ?_;rotate_left
  ·exact qaf
  refine qff ?_;obtain ⟨i2, hi2⟩ : ∃ i2, i2 = scanUp (fun x => ltInt x d[a]!) d j i := ⟨_, rfl⟩;rw [← hi2] at s1 s2 s3 s4 s5 heq ⊢; repeat (first | (apply H.seq) | (apply H.Bb))
  refine H.cutB (ι := Unit) (fun _ => [(11, .int .i64 ((scanDown (fun x => !ltInt x d[a]!) d i2 j : Nat) : Int)), (10, .int .i64 (i2 : Int)), (0, .slice (some ⟨sb, 0, none⟩) n c), (1, .int .i64 (a : Int))]) (fun _ => f) (fun _ => slc (some ⟨sb, 0, none⟩) n c 31 1 (arr d) :: F) (fun _ => True) _ (fun _ _ => ?_) ?_;rotate_left
  ·exact qae
  refine qfb ?_;obtain ⟨j2, hj2⟩ : ∃ j2, j2 = scanDown (fun x => !ltInt x d[a]!) d i2 j := ⟨_, rfl⟩;rw [← hj2] at s3 s4 s5 heq ⊢;by_cases hgt : j2 < i2
  ·rw [if_pos hgt] at heq;rw [heq];refine gP ?_;refine H.drawN (by kernel_rfl) (by decide +kernel) (by repeat (first | exact zac | refine zab ?_ | refine zag ?_ | refine zai ?_)) ?_;refine qdL ?_;refine qdH ?_;refine qfv ?_;refine qfs ?_;refine qcS ?_;refine qem ?_;refine gT ?_;exact H.Bt rfl rfl rfl (fun _ h => h) ⟨false, rfl, rfl, rfl⟩
  ·have hlt := s5 (by omega);rw [if_neg hgt] at heq
   refine gZ ?_;refine H.drawN (by kernel_rfl) (by decide +kernel) (by repeat (first | exact zac | refine zab ?_ | refine zag ?_ | refine zai ?_)) ?_;refine qdI ?_;obtain ⟨j1, rfl⟩ : ∃ j1, j2 = j1 + 1 := ⟨j2 - 1, by omega⟩;refine gV ?_;exact H.Ah (i2 + 1, j1, swp d i2 (j1 + 1)) ⟨by show 0 < i2 + 1; omega, by show i2 + 1 ≤ j1 + 1; omega, by show j1 < n; omega, by show (swp d i2 (j1 + 1)).size = n; rw [zbh]; exact hd, heq.symm⟩ (by show j1 + 1 - (i2 + 1) < j + 1 - i; omega) ⟨rfl, rfl, rfl, rfl, trivial⟩ rfl rfl
set_option maxHeartbeats 3200000 in
theorem partEq_fn {p : Option Addr} {n c a b pivot : Nat} {d0 : Array Int} (hd0 : d0.size = n) (hn : n ≤ 1000000) (hap : a ≤ pivot) (hpb : pivot < b) (hb : b ≤ n) :
  Fn Tryz.prog 140 [.slice p n c, .int .i64 (a : Int), .int .i64 (b : Int), .int .i64 (pivot : Int)] f (slc p n c 31 1 (arr d0) :: F) (Ret (.int .i64 ((partitionEqual ltInt d0 a b pivot).1 : Nat)) f (slc p n c 31 1 (arr (partitionEqual ltInt d0 a b pivot).2) :: F)) := by
 unfold partitionEqual;refine Fn.e4 Tryz.func140 Tryz.ntmps140 fun base => ?_;refine qfH fun sb hp => ?_;subst hp;refine gH ?_;refine H.drawN (by kernel_rfl) (by decide +kernel) (by repeat (first | exact zac | refine zab ?_ | refine zag ?_ | refine zai ?_)) ?_;refine qeQ ?_; have hd : (swp d0 a pivot).size = n := by rw [zbh]; exact hd0
 generalize swp d0 a pivot = d1 at *;obtain ⟨j1, hj1⟩ : ∃ j1, j1 = b - 1 := ⟨_, rfl⟩;rw [← hj1];refine gV ?_;refine H.By (d := 10) (u := .int .i64 (j1 : Int)) rfl (by first | rfl | (congr 1; omega)) ?_
 refine H.Ar (ι := Nat × Nat × Array Int) (fun s => [(9, .int .i64 (s.1 : Int)), (10, .int .i64 (s.2.1 : Int)), (0, .slice (some ⟨sb, 0, none⟩) n c), (1, .int .i64 (a : Int))]) (fun _ => f) (fun s => slc (some ⟨sb, 0, none⟩) n c 31 1 (arr s.2.2) :: F)
  (fun s => 0 < s.1 ∧ s.1 ≤ s.2.1 + 1 ∧ s.2.1 < n ∧ s.2.2.size = n ∧ partEqLoop ltInt a s.1 s.2.1 s.2.2 = partEqLoop ltInt a (a + 1) j1 d1) (fun s => s.2.1 + 1 - s.1) (a + 1, j1, d1) ⟨by show 0 < a + 1; omega, by show a + 1 ≤ j1 + 1; omega, by show j1 < n; omega, hd, rfl⟩ ⟨rfl, rfl, rfl, rfl, trivial⟩ rfl rfl fun s hs => ?_
 clear hd;obtain ⟨i, j, d⟩ := s;obtain ⟨h0, hij, hjn, hd, hr⟩ : 0 < i ∧ i ≤ j + 1 ∧ j < n ∧ d.size = n ∧ partEqLoop ltInt a i j d = partEqLoop ltInt a (a + 1) j1 d1 := hs;rw [← hr];clear hr;show H _ _ _ [(9, .int .i64 (i : Int)), (10, .int .i64 (j : Int)), _, _] f (slc (some ⟨sb, 0, none⟩) n c _ 1 (arr d) :: F) _;obtain ⟨s1, s2, s3, s4, s5⟩ := two_scans (fun x => !ltInt d[a]! x) (fun x => ltInt d[a]! x) (fun x => by simp) d (i := i) (j := j) h0 hij;have heq := partEqLoop_eq ltInt a i j d; repeat (first | (apply H.seq) | (apply H.Bb))
 refine H.cutB (ι := Unit) (fun _ => [(9, .int .i64 ((scanUp (fun x => !ltInt d[a]! x) d j i : Nat) : Int)), (10, .int .i64 (j : Int)), (0, .slice (some ⟨sb, 0, none⟩) n c), (1, .int .i64 (a : Int))]) (fun _ => f) (fun _ => slc (some ⟨sb, 0, none⟩) n c 31 1 (arr d) :: F) (fun _ => True) _ (fun _ _ => ?_) ?_;rotate_left
 ·skip;refine H.Ar (ι := Nat) (fun x => [(9, .int .i64 (x : Int)), (10, .int .i64 (j : Int)), (0, .slice (some ⟨sb, 0, none⟩) n c), (1, .int .i64 (a : Int))]) (fun _ => f) (fun _ => slc (some ⟨sb, 0, none⟩) n c 31 1 (arr d) :: F) (fun x => x ≤ j + 1 ∧ scanUp (fun x => !ltInt d[a]! x) d j x = scanUp (fun x => !ltInt d[a]! x) d j i) (fun x => j + 1 - x) i ⟨by show i ≤ j + 1; omega, rfl⟩ ⟨rfl, rfl, rfl, rfl, trivial⟩ rfl rfl fun x hx => ?_;obtain ⟨hx, hs⟩ : x ≤ j + 1 ∧ scanUp (fun x => !ltInt d[a]! x) d j x = scanUp (fun x => !ltInt d[a]! x) d j i := hx;show H _ _ _ [(9, .int .i64 (x : Int)), _, _, _] f (slc (some ⟨sb, 0, none⟩) n c _ 1 (arr d) :: F) _;rw [scanUp] at hs;by_cases hxj : x ≤ j
  ·skip;refine qfK ?_;refine HB.qu [0,1,2,3,4,5,6,7,8,9,10,11] 3 ?_;refine gU ?_;refine qdH ?_;refine qfv ?_;refine HQ.Ap (i := x) rfl rfl rfl (by omega) (by omega) rfl ?_;refine qcS ?_;refine qeV ?_;refine H.Ad rfl rfl rfl (zby f _ d[a]! d[x]!) ?_;refine qcP ?_;refine HB.qu [13,14] 0 ?_;refine qdl ?_
   cases hl : ltInt d[a]! d[x]! with
   | false =>
    rw [if_pos (by rw [decide_eq_true hxj, hl]; rfl)] at hs;refine gP ?_;exact H.Ah (x + 1) ⟨by show x + 1 ≤ j + 1; omega, hs⟩ (by show j + 1 - (x + 1) < j + 1 - x; omega) ⟨rfl, rfl, rfl, rfl, trivial⟩ rfl rfl
   | true =>
    rw [if_neg (by rw [hl, decide_eq_true hxj]; decide)] at hs;exact qbg
  ·skip;rw [if_neg (by rw [decide_eq_false hxj, Bool.false_and]; decide)] at hs;refine qfK ?_;refine qgl ?_;exact qbg
 show H _ _ _ [(9, .int .i64 ((scanUp (fun x => !ltInt d[a]! x) d j i : Nat) : Int)), (10, .int .i64 (j : Int)), (0, .slice (some ⟨sb, 0, none⟩) n c), (1, .int .i64 (a : Int))] f (slc (some ⟨sb, 0, none⟩) n c _ 1 (arr d) :: F) _;obtain ⟨i2, hi2⟩ : ∃ i2, i2 = scanUp (fun x => !ltInt d[a]! x) d j i := ⟨_, rfl⟩;rw [← hi2] at s1 s2 s3 s4 s5 heq ⊢; repeat (first | (apply H.seq) | (apply H.Bb))
 refine H.cutB (ι := Unit) (fun _ => [(10, .int .i64 ((scanDown (fun x => ltInt d[a]! x) d i2 j : Nat) : Int)), (9, .int .i64 (i2 : Int)), (0, .slice (some ⟨sb, 0, none⟩) n c), (1, .int .i64 (a : Int))]) (fun _ => f) (fun _ => slc (some ⟨sb, 0, none⟩) n c 31 1 (arr d) :: F) (fun _ => True) _ (fun _ _ => ?_) ?_;rotate_left
 ·skip;refine H.Ar (ι := Nat) (fun x => [(10, .int .i64 (x : Int)), (9, .int .i64 (i2 : Int)), (0, .slice (some ⟨sb, 0, none⟩) n c), (1, .int .i64 (a : Int))]) (fun _ => f) (fun _ => slc (some ⟨sb, 0, none⟩) n c 31 1 (arr d) :: F) (fun x => x ≤ j ∧ scanDown (fun x => ltInt d[a]! x) d i2 x = scanDown (fun x => ltInt d[a]! x) d i2 j) (fun x => x) j ⟨Nat.le_refl j, rfl⟩ ⟨rfl, rfl, rfl, rfl, trivial⟩ rfl rfl fun x hx => ?_;obtain ⟨hx, hs⟩ : x ≤ j ∧ scanDown (fun x => ltInt d[a]! x) d i2 x = scanDown (fun x => ltInt d[a]! x) d i2 j := hx;show H _ _ _ [(10, .int .i64 (x : Int)), _, _, _] f (slc (some ⟨sb, 0, none⟩) n c _ 1 (arr d) :: F) _;by_cases hxj : i2 ≤ x
  ·skip;obtain ⟨y, rfl⟩ : ∃ y, x = y + 1 := ⟨x - 1, by omega⟩;rw [scanDown] at hs;refine qfK ?_;refine HB.qu [0,1,2,3,4,5,6,7,8,9,10,11] 2 ?_;refine gU ?_;refine qdH ?_;refine qfv ?_;refine qfk ?_;refine qcS ?_;refine qeV ?_;refine H.Ad rfl rfl rfl (zby f _ d[a]! d[y + 1]!) ?_;refine qcP ?_;refine HB.qu [13] 0 ?_;refine qdl ?_
   cases hl : ltInt d[a]! d[y + 1]! with
   | false =>
    rw [if_neg (by rw [hl, decide_eq_true hxj]; decide)] at hs;exact qbg
   | true =>
    rw [if_pos (by rw [decide_eq_true hxj, hl]; rfl)] at hs;refine gP ?_;exact H.Ah y ⟨by show y ≤ j; omega, hs⟩ (by show y < y + 1; omega) ⟨rfl, rfl, rfl, rfl, trivial⟩ rfl rfl
  ·skip
   have hs : x = scanDown (fun x => ltInt d[a]! x) d i2 j := by
    rw [← hs]
    cases x with
    | zero => rfl
    | succ y => rw [scanDown, if_neg (by rw [decide_eq_false hxj, Bool.false_and]; decide)]
   refine qfK ?_;refine HB.qu [0,1,2,3,4,5,6,7,8,9,10,11] 2 ?_;refine gL ?_;refine qeV ?_;refine qfj ?_;refine HB.qu [13] 0 ?_;refine qdl ?_;exact qbg
 show H _ _ _ [(10, .int .i64 ((scanDown (fun x => ltInt d[a]! x) d i2 j : Nat) : Int)), (9, .int .i64 (i2 : Int)), (0, .slice (some ⟨sb, 0, none⟩) n c), (1, .int .i64 (a : Int))] f (slc (some ⟨sb, 0, none⟩) n c _ 1 (arr d) :: F) _;obtain ⟨j2, hj2⟩ : ∃ j2, j2 = scanDown (fun x => ltInt d[a]! x) d i2 j := ⟨_, rfl⟩;rw [← hj2] at s3 s4 s5 heq ⊢;by_cases hgt : j2 < i2
 ·rw [if_pos hgt] at heq;rw [heq];refine gP ?_;exact qam
 ·have hlt := s5 (by omega);rw [if_neg hgt] at heq
  refine gZ ?_;refine H.drawN (by kernel_rfl) (by decide +kernel) (by repeat (first | exact zac | refine zab ?_ | refine zag ?_ | refine zai ?_)) ?_;refine qdI ?_;obtain ⟨j3, rfl⟩ : ∃ j3, j2 = j3 + 1 := ⟨j2 - 1, by omega⟩;refine gV ?_;exact H.Ah (i2 + 1, j3, swp d i2 (j3 + 1)) ⟨by show 0 < i2 + 1; omega, by show i2 + 1 ≤ j3 + 1; omega, by show j3 < n; omega, by show (swp d i2 (j3 + 1)).size = n; rw [zbh]; exact hd, heq.symm⟩ (by show j3 + 1 - (i2 + 1) < j + 1 - i; omega) ⟨rfl, rfl, rfl, rfl, trivial⟩ rfl rfl
end
open Go.Sort (swp ltInt insInner insOuter insertionSort siftDown heapBuild heapPop heapSort reverseLoop reverseRange scanUp scanDown partLoop partEqLoop scanSorted shiftDown shiftUp partialIns partialInsertionSort)
open Go.Sort (partialIns_succ fixDown fixUp)
theorem shiftDown_size : ∀ (j : Nat) (d : Array Int), (shiftDown ltInt j d).size = d.size
 | 0, d => rfl
 | j + 1, d => by
  rw [shiftDown]
  split
  ·rfl
  ·rw [shiftDown_size j, zbh]
theorem shiftUp_size (b : Nat) : ∀ (m j : Nat) (d : Array Int), b - j ≤ m → (shiftUp ltInt b j d).size = d.size
 | 0, j, d, h => by rw [shiftUp, if_neg (by omega)]
 | m + 1, j, d, h => by
  rw [shiftUp]
  split
  ·split
   ·rfl
   ·rw [shiftUp_size b m (j + 1) _ (by omega), zbh]
  ·rfl
theorem scanSorted_rng (d : Array Int) (b : Nat) : ∀ (m i : Nat), b - i ≤ m → i ≤ b → i ≤ scanSorted ltInt d b i ∧ scanSorted ltInt d b i ≤ b
 | 0, i, h, hi => by rw [scanSorted, if_neg (by rw [decide_eq_false (by omega), Bool.false_and]; decide)]; omega
 | m + 1, i, h, hi => by
  rw [scanSorted]
  split
  ·rename_i hc
   rw [Bool.and_eq_true] at hc
   have h1 := of_decide_eq_true hc.1
   have := scanSorted_rng d b m (i + 1) (by omega) (by omega)
   omega
  ·omega
section
variable (f : Frag) (F : List HP)
set_option maxHeartbeats 3200000 in
theorem partIns_fn {p : Option Addr} {n c a b : Nat} {d0 : Array Int} (hd0 : d0.size = n) (hn : n ≤ 1000000) (hab : a < b) (hb : b ≤ n) :
  Fn Tryz.prog 138 [.slice p n c, .int .i64 (a : Int), .int .i64 (b : Int)] f (slc p n c 31 1 (arr d0) :: F) (Ret (.bool (partialInsertionSort ltInt d0 a b).2) f (slc p n c 31 1 (arr (partialInsertionSort ltInt d0 a b).1) :: F)) := by
 obtain ⟨R, hR⟩ : ∃ R, partialInsertionSort ltInt d0 a b = R := ⟨_, rfl⟩;have hR : partialIns ltInt a b 5 (a + 1) d0 = R := hR;have hR2 : partialInsertionSort ltInt d0 a b = R := hR
 rw [hR2];clear hR2;refine Fn.e3 Tryz.func138 Tryz.ntmps138 fun base => ?_;refine qfH fun sb hp => ?_;subst hp;refine gV ?_
 refine H.Ar (ι := Nat × Nat × Array Int) (fun s => [(8, .int .i64 (s.1 : Int)), (7, .int .i64 (s.2.1 : Int)), (0, .slice (some ⟨sb, 0, none⟩) n c), (1, .int .i64 (a : Int)), (2, .int .i64 (b : Int))]) (fun _ => f) (fun s => slc (some ⟨sb, 0, none⟩) n c 31 1 (arr s.2.2) :: F)
  (fun s => s.1 ≤ 5 ∧ a + 1 ≤ s.2.1 ∧ s.2.1 ≤ b ∧ s.2.2.size = n ∧ partialIns ltInt a b (5 - s.1) s.2.1 s.2.2 = R) (fun s => 5 - s.1) (0, a + 1, d0) ⟨Nat.zero_le _, Nat.le_refl _, by show a + 1 ≤ b; omega, hd0, hR⟩ ⟨rfl, rfl, rfl, rfl, rfl, trivial⟩ rfl rfl fun s hs => ?_
 clear hR hd0;obtain ⟨t, i, d⟩ := s;obtain ⟨ht, hai, hib, hd, hr⟩ : t ≤ 5 ∧ a + 1 ≤ i ∧ i ≤ b ∧ d.size = n ∧ partialIns ltInt a b (5 - t) i d = R := hs;show H _ _ _ [(8, .int .i64 (t : Int)), (7, .int .i64 (i : Int)), _, _, _] f (slc (some ⟨sb, 0, none⟩) n c _ 1 (arr d) :: F) _;by_cases ht5 : t < 5
 ·obtain ⟨s, hs5⟩ : ∃ s, 5 - t = s + 1 := ⟨5 - t - 1, by omega⟩;rw [hs5, partialIns_succ] at hr;have hrng := scanSorted_rng d b _ i (Nat.le_refl _) hib; repeat (first | ((apply H.Ag); (iterate 3 exact rfl)) | (first | apply H.seq | apply H.Am | apply H.nil | apply H.Ao) | ((apply H.cmp); (iterate 5 exact rfl)) | (first | apply H.Bk | apply H.Bb) | (apply H.Bo; exact rfl; (omega)))
  refine H.cutB (ι := Unit) (fun _ => [(7, .int .i64 ((scanSorted ltInt d b i : Nat) : Int)), (8, .int .i64 (t : Int)), (0, .slice (some ⟨sb, 0, none⟩) n c), (1, .int .i64 (a : Int)), (2, .int .i64 (b : Int))]) (fun _ => f) (fun _ => slc (some ⟨sb, 0, none⟩) n c 31 1 (arr d) :: F) (fun _ => True) _ (fun _ _ => ?_) ?_;rotate_left
  ·refine H.Ar (ι := Nat) (fun x => [(7, .int .i64 (x : Int)), (8, .int .i64 (t : Int)), (0, .slice (some ⟨sb, 0, none⟩) n c), (1, .int .i64 (a : Int)), (2, .int .i64 (b : Int))]) (fun _ => f) (fun _ => slc (some ⟨sb, 0, none⟩) n c 31 1 (arr d) :: F) (fun x => a + 1 ≤ x ∧ x ≤ b ∧ scanSorted ltInt d b x = scanSorted ltInt d b i) (fun x => b - x) i ⟨hai, hib, rfl⟩ ⟨rfl, rfl, rfl, rfl, rfl, trivial⟩ rfl rfl fun x hx => ?_;obtain ⟨hx1, hx2, hs⟩ : a + 1 ≤ x ∧ x ≤ b ∧ scanSorted ltInt d b x = scanSorted ltInt d b i := hx;obtain ⟨y, rfl⟩ : ∃ y, x = y + 1 := ⟨x - 1, by omega⟩;show H _ _ _ [(7, .int .i64 ((y + 1 : Nat) : Int)), _, _, _, _] f (slc (some ⟨sb, 0, none⟩) n c _ 1 (arr d) :: F) _;rw [scanSorted] at hs;by_cases hxb : y + 1 < b
   ·refine qfK ?_;refine HB.qu [0,1,2,3,4,5,6,7,8,9,10,11,12] 3 ?_;refine gU ?_;refine qfk ?_;refine qcS ?_;refine gJ ?_;refine qgt ?_;refine qcS ?_;refine qda ?_;refine HB.ev 13 ?_;refine H.Ad rfl rfl rfl (zby f _ d[y + 1]! d[y]!) ?_;refine qcP ?_;refine HB.qu [14,15] 0 ?_;refine qdl ?_;have hyy : y + 1 - 1 = y := rfl;rw [hyy] at hs
    cases hl : ltInt d[y + 1]! d[y]! with
    | false =>
     rw [if_pos (by rw [decide_eq_true hxb, hl]; rfl)] at hs;refine gP ?_;exact H.Ah (y + 1 + 1) ⟨by show a + 1 ≤ y + 1 + 1; omega, by show y + 1 + 1 ≤ b; omega, hs⟩ (by show b - (y + 1 + 1) < b - (y + 1); omega) ⟨rfl, rfl, rfl, rfl, rfl, trivial⟩ rfl rfl
    | true =>
     rw [if_neg (by rw [decide_eq_true hxb, hl]; decide)] at hs;exact qcz
   ·rw [if_neg (by rw [decide_eq_false hxb, Bool.false_and]; decide)] at hs;refine qfK ?_;refine HB.qu [0,1,2,3,4,5,6,7,8,9,10,11,12] 3 ?_;refine gL ?_;refine qda ?_;refine HB.ev 13 ?_;refine qfj ?_;refine HB.qu [14,15] 0 ?_;refine qdl ?_;exact qcz
  show H _ _ _ [(7, .int .i64 ((scanSorted ltInt d b i : Nat) : Int)), (8, .int .i64 (t : Int)), (0, .slice (some ⟨sb, 0, none⟩) n c), (1, .int .i64 (a : Int)), (2, .int .i64 (b : Int))] f (slc (some ⟨sb, 0, none⟩) n c _ 1 (arr d) :: F) _;generalize scanSorted ltInt d b i = i2 at *;by_cases heb : i2 = b
  ·rw [if_pos heb] at hr;subst hr;refine gF ?_;exact qam
  ·rw [if_neg heb] at hr;by_cases h50 : b - a < 50
   ·rw [if_pos h50] at hr;subst hr;refine gP ?_;exact qam
   ·rw [if_neg h50] at hr;obtain ⟨k, rfl⟩ : ∃ k, i2 = k + 1 := ⟨i2 - 1, by omega⟩;refine gZ ?_;refine H.drawN (by kernel_rfl) (by decide +kernel) (by repeat (first | exact zac | refine zab ?_ | refine zag ?_ | refine zai ?_)) ?_;refine qdc ?_;refine HN.ar (i := 4) (z := ((k : Nat) : Int)) (by kernel_rfl) rfl rfl rfl rfl rfl (by rw [wr_i64 (by omega)]; omega) rfl ?_;refine qer ?_;refine HQ.Ap (i := k) rfl rfl rfl (by omega) (by omega) rfl ?_;refine qfv ?_;refine HQ.Ap (i := k + 1) rfl rfl rfl (by omega) (by omega) rfl ?_;refine qcS ?_;refine qdi ?_;refine HB.qu [14] 3 ?_;refine HQ.Ap (i := k + 1) rfl rfl rfl (by omega) (by omega) rfl ?_;refine qgN ?_;refine HQ.Ap (i := k) rfl rfl rfl (by omega) (by omega) rfl ?_;refine qda ?_;refine HB.ev 17 ?_;refine qcY ?_;show H _ _ _ _ f (slc (some ⟨sb, 0, none⟩) n c _ 1 (arr (swp d (k + 1) (k))) :: _) _;have hkk : k + 1 - 1 = k := rfl;rw [hkk] at hr
    have hd1 : (swp d (k + 1) k).size = n := by rw [zbh]; exact hd
    generalize swp d (k + 1) k = d1 at *;refine qeZ ?_;refine H.cut (ι := Unit) (fun _ => [(7, .int .i64 ((k + 1 : Nat) : Int)), (8, .int .i64 (t : Int)), (0, .slice (some ⟨sb, 0, none⟩) n c), (1, .int .i64 (a : Int)), (2, .int .i64 (b : Int))]) (fun _ => f) (fun _ => slc (some ⟨sb, 0, none⟩) n c 31 1 (arr (fixDown ltInt a (k + 1) d1)) :: F) (fun _ => True) _ (fun _ _ => ?_) ?_;rotate_left
    ·unfold fixDown;by_cases h2 : k + 1 - a ≥ 2
     ·rw [if_pos h2, hkk];refine gW ?_
      refine H.Ar (ι := Nat × Array Int) (fun s => [(9, .int .i64 (s.1 : Int)), (7, .int .i64 ((k + 1 : Nat) : Int)), (8, .int .i64 (t : Int)), (0, .slice (some ⟨sb, 0, none⟩) n c), (1, .int .i64 (a : Int)), (2, .int .i64 (b : Int))]) (fun _ => f) (fun s => slc (some ⟨sb, 0, none⟩) n c 31 1 (arr s.2) :: F)
       (fun s => s.1 ≤ k ∧ s.2.size = n ∧ shiftDown ltInt s.1 s.2 = shiftDown ltInt k d1) (fun s => s.1) (k, d1) ⟨Nat.le_refl k, hd1, rfl⟩ ⟨rfl, rfl, rfl, rfl, rfl, rfl, trivial⟩ rfl rfl fun s hs => ?_
      obtain ⟨x, d⟩ := s;obtain ⟨hx, hd, hs⟩ : x ≤ k ∧ d.size = n ∧ shiftDown ltInt x d = shiftDown ltInt k d1 := hs;show H _ _ _ [(9, .int .i64 (x : Int)), _, _, _, _, _] f (slc (some ⟨sb, 0, none⟩) n c _ 1 (arr d) :: F) _
      cases x with
      | zero =>
       rw [← hs];refine ga ?_;exact qbb
      | succ y =>
       rw [shiftDown] at hs;refine gF ?_;refine qdB ?_;refine qdT ?_;refine qdl ?_
       cases hl : ltInt d[y + 1]! d[y]! with
       | false =>
        exact qcr
       | true =>
        rw [hl, if_neg (by decide)] at hs;refine gV ?_;refine H.drawN (by kernel_rfl) (by decide +kernel) (by repeat (first | exact zac | refine zab ?_ | refine zag ?_ | refine zai ?_)) ?_;refine qe ?_;exact H.Ah (y, swp d (y + 1) y) ⟨by show y ≤ k; omega, by show (swp d (y + 1) y).size = n; rw [zbh]; exact hd, hs⟩ (by show y < y + 1; omega) ⟨rfl, rfl, rfl, rfl, rfl, rfl, trivial⟩ rfl rfl
     ·rw [if_neg h2];refine gZ ?_;exact qbb
    have hd2 : (fixDown ltInt a (k + 1) d1).size = n := by
     unfold fixDown;split
     ·rw [shiftDown_size]; exact hd1
     ·exact hd1
    generalize fixDown ltInt a (k + 1) d1 = d2 at *;show H _ _ _ [(7, .int .i64 ((k + 1 : Nat) : Int)), (8, .int .i64 (t : Int)), (0, .slice (some ⟨sb, 0, none⟩) n c), (1, .int .i64 (a : Int)), (2, .int .i64 (b : Int))] f (slc (some ⟨sb, 0, none⟩) n c _ 1 (arr d2) :: F) _;refine qeZ ?_;refine H.cutB (ι := Unit) (fun _ => [(7, .int .i64 ((k + 1 : Nat) : Int)), (8, .int .i64 (t : Int)), (0, .slice (some ⟨sb, 0, none⟩) n c), (1, .int .i64 (a : Int)), (2, .int .i64 (b : Int))]) (fun _ => f) (fun _ => slc (some ⟨sb, 0, none⟩) n c 31 1 (arr (fixUp ltInt b (k + 1) d2)) :: F) (fun _ => True) _ (fun _ _ => ?_) ?_;rotate_left
    ·unfold fixUp;by_cases h2 : b - (k + 1) ≥ 2
     ·rw [if_pos h2];refine gW ?_
      refine H.Ar (ι := Nat × Array Int) (fun s => [(10, .int .i64 ((s.1 + 1 : Nat) : Int)), (7, .int .i64 ((k + 1 : Nat) : Int)), (8, .int .i64 (t : Int)), (0, .slice (some ⟨sb, 0, none⟩) n c), (1, .int .i64 (a : Int)), (2, .int .i64 (b : Int))]) (fun _ => f) (fun s => slc (some ⟨sb, 0, none⟩) n c 31 1 (arr s.2) :: F)
       (fun s => s.1 + 1 ≤ b ∧ s.2.size = n ∧ shiftUp ltInt b (s.1 + 1) s.2 = shiftUp ltInt b (k + 1 + 1) d2) (fun s => b - s.1) (k + 1, d2) ⟨by show k + 1 + 1 ≤ b; omega, hd2, rfl⟩ ⟨rfl, rfl, rfl, rfl, rfl, rfl, trivial⟩ rfl rfl fun s hs => ?_
      obtain ⟨y, d⟩ := s;obtain ⟨hx, hd, hs⟩ : y + 1 ≤ b ∧ d.size = n ∧ shiftUp ltInt b (y + 1) d = shiftUp ltInt b (k + 1 + 1) d2 := hs;show H _ _ _ [(10, .int .i64 ((y + 1 : Nat) : Int)), _, _, _, _, _] f (slc (some ⟨sb, 0, none⟩) n c _ 1 (arr d) :: F) _;rw [shiftUp] at hs;by_cases hyb : y + 1 < b
      ·rw [if_pos hyb, show y + 1 - 1 = y from rfl] at hs;refine gF ?_;refine qdB ?_;refine qdT ?_;refine qdl ?_
       cases hl : ltInt d[y + 1]! d[y]! with
       | false =>
        exact qcr
       | true =>
        rw [hl, if_neg (by decide)] at hs;refine gV ?_;refine H.drawN (by kernel_rfl) (by decide +kernel) (by repeat (first | exact zac | refine zab ?_ | refine zag ?_ | refine zai ?_)) ?_;refine qe ?_;exact H.Ah (y + 1, swp d (y + 1) y) ⟨by show y + 1 + 1 ≤ b; omega, by show (swp d (y + 1) y).size = n; rw [zbh]; exact hd, hs⟩ (by show b - (y + 1) < b - y; omega) ⟨rfl, rfl, rfl, rfl, rfl, rfl, trivial⟩ rfl rfl
      ·rw [if_neg hyb] at hs;rw [← hs];refine gZ ?_;exact qbb
     ·rw [if_neg h2];refine gZ ?_;exact qbb
    have hd3 : (fixUp ltInt b (k + 1) d2).size = n := by
     unfold fixUp;split
     ·rw [shiftUp_size b _ _ _ (Nat.le_refl _)]; exact hd2
     ·exact hd2
    generalize fixUp ltInt b (k + 1) d2 = d3 at *;show H _ _ _ [(7, .int .i64 ((k + 1 : Nat) : Int)), (8, .int .i64 (t : Int)), (0, .slice (some ⟨sb, 0, none⟩) n c), (1, .int .i64 (a : Int)), (2, .int .i64 (b : Int))] f (slc (some ⟨sb, 0, none⟩) n c _ 1 (arr d3) :: F) _;refine gV ?_;exact H.Ah (t + 1, k + 1, d3) ⟨by show t + 1 ≤ 5; omega, by show a + 1 ≤ k + 1; omega, by show k + 1 ≤ b; omega, hd3, by show partialIns ltInt a b (5 - (t + 1)) (k + 1) d3 = R; rw [show 5 - (t + 1) = s by omega]; exact hr⟩ (by show 5 - (t + 1) < 5 - t; omega) ⟨rfl, rfl, rfl, rfl, rfl, trivial⟩ rfl rfl
 ·rw [show 5 - t = 0 by omega] at hr;have hr : (d, false) = R := hr;subst hr
  refine gZ ?_;exact qam
end
open Go.Sort (swp ltInt insInner insOuter insertionSort siftDown heapBuild heapPop heapSort reverseLoop reverseRange scanUp scanDown partLoop partEqLoop scanSorted shiftDown shiftUp partialIns partialInsertionSort)
open Go.Sort (bitsLen PermIn swp_permIn permIn_trans permIn_refl)
theorem tab8 : ∀ i : Fin 256, Lib.len8tab[i.val]? = some (UInt8.ofNat (bitsLen i.val)) ∧ i.val < 2 ^ bitsLen i.val ∧ (8 ≤ i.val → 2 ^ bitsLen i.val ≤ 2 * i.val) ∧ bitsLen i.val ≤ 8 := by decide +kernel
theorem and_le (x : Int) {m : Nat} (hm : m ≤ 511) : 0 ≤ IntKind.wrap .u64 ((BitVec.ofInt IntKind.u64.bits x &&& BitVec.ofInt IntKind.u64.bits (m : Int)).toNat : Nat) ∧ IntKind.wrap .u64 ((BitVec.ofInt IntKind.u64.bits x &&& BitVec.ofInt IntKind.u64.bits (m : Int)).toNat : Nat) ≤ (m : Int) := by
 have h1 : (BitVec.ofInt IntKind.u64.bits x &&& BitVec.ofInt IntKind.u64.bits (m : Int)).toNat ≤ m := by
  rw [BitVec.toNat_and];refine Nat.le_trans Nat.and_le_right ?_;rw [BitVec.ofInt_natCast, BitVec.toNat_ofNat];exact Nat.mod_le _ _
 rw [wr_u64 (by omega)];omega
section
variable (f : Frag) (F : List HP)
theorem len64_fn {x : Nat} (hx : x < 256) : Fn Tryz.prog 143 [.int .u64 (x : Int)] f F (Ret (.int .i64 (bitsLen x : Nat)) f F) := by
 have ht := tab8 ⟨x, hx⟩
 have hb : (UInt8.ofNat (bitsLen x)).toNat = bitsLen x := by
  have := ht.2.2.2;have : bitsLen x ≤ 8 := this
  exact qci
 have hb8 : bitsLen x ≤ 8 := ht.2.2.2;refine Fn.e1 Tryz.func143 Tryz.ntmps143 fun base => ?_
 refine gZ ?_;refine H.indexS (s := Lib.len8tab) (i := x) rfl (by kernel_rfl) rfl rfl ht.1 rfl ?_;rw [hb];refine gV ?_;refine H.Ac rfl rfl (fun _ h => h) ⟨?_, rfl, rfl⟩; first | rfl | (congr 1; omega)
theorem len_fn {x : Nat} (hx : x < 256) : Fn Tryz.prog 102 [.int .u64 (x : Int)] f F (Ret (.int .i64 (bitsLen x : Nat)) f F) := by
 have h := fun G => len64_fn f G hx;refine Fn.e1 Tryz.func102 Tryz.ntmps102 fun base => ?_
 refine gV ?_;refine H.Ad rfl rfl rfl (h _) ?_;refine gT ?_;exact qam
theorem npow_fn {x : Nat} (hx : x < 256) : Fn Tryz.prog 182 [.int .i64 (x : Int)] f F (Ret (.int .u64 ((2 ^ bitsLen x : Nat) : Int)) f F) := by
 have h := fun G => len_fn f G hx;have hb8 : bitsLen x ≤ 8 := (tab8 ⟨x, hx⟩).2.2.2
 have hp : 2 ^ bitsLen x ≤ 2 ^ 8 := Nat.pow_le_pow_right (by decide) hb8
 have e : IntKind.wrap .u64 ((1 : Int) * 2 ^ (min ((bitsLen x : Nat) : Int).toNat IntKind.u64.bits)) = ((2 ^ bitsLen x : Nat) : Int) := by
  have e1 : min ((bitsLen x : Nat) : Int).toNat IntKind.u64.bits = bitsLen x := by
   rw [Int.toNat_natCast];exact Nat.min_eq_left (by show _ ≤ 64; omega)
  have e2 : ((2 ^ bitsLen x : Nat) : Int) = (2 : Int) ^ bitsLen x := by rw [Int.natCast_pow]; rfl
  rw [e1, Int.one_mul, ← e2];generalize 2 ^ bitsLen x = m at hp ⊢;exact wr_u64 (by omega)
 refine Fn.e1 Tryz.func182 Tryz.ntmps182 fun base => ?_;refine gV ?_;refine H.Ad rfl rfl rfl (h _) ?_;skip;refine H.Ck (op := .shl) rfl rfl rfl rfl (by omega) e rfl ?_;refine gT ?_;exact qam
def NextP (f : Frag) (F : List HP) (rb : Nat) : Value → Frag → List HP → Prop := fun v f' A' => ∃ z : Int, v = .int .u64 z ∧ f' = f ∧ A' = row rb 245 [.int .u64 z] :: F
theorem next_fn {rb : Nat} {z : Int} : Fn Tryz.prog 183 [.pointer (some ⟨rb, 0, none⟩)] f (row rb 245 [.int .u64 z] :: F) (NextP f F rb) := by
 refine Fn.e1 Tryz.func183 Tryz.ntmps183 fun base => ?_;refine gH ?_;refine qdA ?_;refine gA ?_;refine qdA ?_;refine gA ?_;refine qdA ?_;refine gS ?_;exact H.Ac rfl rfl (fun _ h => h) ⟨_, rfl, rfl, rfl⟩
def BrkP (f : Frag) (F : List HP) (p : Option Addr) (n c a b : Nat) (d0 : Array Int) : Value → Frag → List HP → Prop := fun v f' A' => ∃ d : Array Int, PermIn a b d0 d ∧ v = .tuple #[] ∧ f' = f ∧ A' = slc p n c 31 1 (arr d) :: F
set_option maxHeartbeats 1600000 in
theorem break_fn {p : Option Addr} {n c a b : Nat} {d0 : Array Int} (hd0 : d0.size = n) (hn : n ≤ 255) (h8 : a + 8 ≤ b) (hb : b ≤ n) :
  Fn Tryz.prog 135 [.slice p n c, .int .i64 (a : Int), .int .i64 (b : Int)] f (slc p n c 31 1 (arr d0) :: F) (BrkP f F p n c a b d0) := by
 obtain ⟨l, hl⟩ : ∃ l, l = b - a := ⟨_, rfl⟩; have hz : (b : Int) - (a : Int) = (l : Int) := by omega
 have h1 := tab8 ⟨l, by omega⟩;have hm1 : l < 2 ^ bitsLen l := h1.2.1
 have hm2 : 2 ^ bitsLen l ≤ 2 * l := h1.2.2.1 (by show 8 ≤ l; omega);have hnp := fun G => npow_fn f G (x := l) (by omega)
 have hq : IntKind.wrap .i64 ((l : Int).tdiv 4) = ((l / 4 : Nat) : Int) := by rw [show (4 : Int) = ((4 : Nat) : Int) from rfl, tdiv64, wr_i64 (by omega)]
 generalize 2 ^ bitsLen l = m at *; have hu : IntKind.wrap .u64 ((m : Int) - 1) = ((m - 1 : Nat) : Int) := by rw [wr_u64 (by omega)]; omega
 refine Fn.e3 Tryz.func135 Tryz.ntmps135 fun base => ?_; repeat (first | (refine H.ar (op := .sub) (p := (b : Int)) (p2 := (a : Int)) (z := (l : Int)) rfl rfl rfl rfl (by rw [hz, wr_i64 (by omega)]) rfl ?_) | ((first | apply H.Ag | apply H.Al); (iterate 3 exact rfl)) | (first | apply H.seq | apply H.Am | apply H.nil | apply H.Ao) | ((apply H.cmp); (iterate 5 exact rfl)) | ((apply H.Bg; (iterate 2 exact rfl)); (with_reducible apply wr_u64; omega); exact rfl) | (apply H.Bo; exact rfl; (omega)))
 refine H.Au (ls := [.int .u64 0]) rfl rfl rfl fun rb => ?_;refine H.Bc rfl rfl rfl rfl (.here _ _ _) (.here _ _ _) ?_;refine gH ?_;refine H.Ad rfl rfl rfl (hnp _) ?_; repeat (first | (refine H.quo (p := (l : Int)) (z := ((l / 4 : Nat) : Int)) rfl rfl rfl (by decide) hq rfl ?_) | ((first | apply H.Ag | apply H.Al); (iterate 3 exact rfl)) | (first | apply H.seq | apply H.Am | apply H.nil | apply H.Ao) | ((apply H.ar; (iterate 4 exact rfl)); (with_reducible apply wr_i64; omega); exact rfl) | (apply H.Bb))
 refine H.By (d := 9) (u := .int .i64 ((a + l / 4 * 2 - 1 : Nat) : Int)) rfl (by first | rfl | (congr 1; omega)) ?_;refine H.pf (x := slc p n c _ _ _) ?_
 refine H.Ar (ι := Nat × Int × Array Int) (fun s => [(9, .int .i64 (s.1 : Int)), (8, .int .u64 (m : Int)), (7, .pointer (some ⟨rb, 0, none⟩)), (6, .int .i64 (l : Int)), (0, .slice p n c), (1, .int .i64 (a : Int))]) (fun _ => f) (fun s => slc p n c 31 1 (arr s.2.2) :: row rb 245 [.int .u64 s.2.1] :: F)
  (fun s => a ≤ s.1 ∧ PermIn a b d0 s.2.2) (fun s => n - s.1) (a + l / 4 * 2 - 1, (l : Int), d0) ⟨by show a ≤ a + l / 4 * 2 - 1; omega, permIn_refl _ _ _⟩ ⟨rfl, rfl, rfl, rfl, rfl, rfl, trivial⟩ rfl rfl fun s hs => ?_
 obtain ⟨x, z, d⟩ := s;obtain ⟨hx, hP⟩ : a ≤ x ∧ PermIn a b d0 d := hs;have hd : d.size = n := hP.1.trans hd0;show H _ _ _ [(9, .int .i64 (x : Int)), _, _, _, _, _] f (slc p n c _ 1 (arr d) :: row rb _ [.int .u64 z] :: F) _
 by_cases hx2 : x ≤ a + l / 4 * 2 + 1
 ·skip; repeat (first | (refine H.quo (p := (l : Int)) (z := ((l / 4 : Nat) : Int)) rfl rfl rfl (by decide) hq rfl ?_) | ((apply H.Ag); (iterate 3 exact rfl)) | (first | apply H.seq | apply H.Am | apply H.nil | apply H.Ao) | ((apply H.cmp); (iterate 5 exact rfl)) | ((apply H.ar; (iterate 4 exact rfl)); (with_reducible apply wr_i64; omega); exact rfl) | (first | apply H.Bk | apply H.Bb) | (apply H.Bo; exact rfl; (omega)))
  refine H.pf (x := row rb _ _) ?_;refine H.Aw rfl rfl rfl (next_fn f _) fun v f' A' hR => ?_;obtain ⟨z2, rfl, hff, rfl⟩ := hR;rw [hff];have hand := and_le z2 (m := m - 1) (by omega); repeat (first | (refine H.ar (op := .sub) (p := (m : Int)) (p2 := 1) (z := ((m - 1 : Nat) : Int)) rfl rfl rfl rfl hu rfl ?_) | ((apply H.Ag); (iterate 3 exact rfl)))
  refine H.Bv (op := .and) rfl rfl rfl rfl rfl rfl ?_;generalize IntKind.wrap .u64 ((BitVec.ofInt IntKind.u64.bits z2 &&& BitVec.ofInt IntKind.u64.bits ((m - 1 : Nat) : Int)).toNat : Nat) = o at *;obtain ⟨k, rfl⟩ : ∃ k : Nat, o = (k : Int) := ⟨o.toNat, by omega⟩;refine H.pf (x := slc p n c _ _ _) ?_;refine qdV fun sb hp => ?_;subst hp;by_cases hkl : l ≤ k
  ·obtain ⟨o, ho⟩ : ∃ o, k = l + o := ⟨k - l, by omega⟩;subst ho; have hol : ((l + o : Nat) : Int) - (l : Int) = (o : Int) := by omega
   repeat (first | (refine H.ar (op := .sub) (p := ((l + o : Nat) : Int)) (p2 := (l : Int)) (z := (o : Int)) rfl rfl rfl rfl (by rw [hol, wr_i64 (by omega)]) rfl ?_) | ((first | apply H.Ag | apply H.Al); (iterate 3 exact rfl)) | (first | apply H.seq | apply H.Am | apply H.nil | apply H.Ao) | ((apply H.cmp); (iterate 5 exact rfl)) | ((apply H.Bg; (iterate 2 exact rfl)); (with_reducible apply wr_i64; omega); exact rfl) | (apply H.Bo; exact rfl; (omega)))
   refine H.drawN (by kernel_rfl) (by decide +kernel) (by repeat (first | exact zac | refine zab ?_ | refine zag ?_ | refine zai ?_)) ?_;refine qdc ?_;refine qgK ?_;refine HN.ar (i := 5) (z := ((a + o : Nat) : Int)) (by kernel_rfl) rfl rfl rfl rfl rfl (by rw [wr_i64 (by omega)]; omega) rfl ?_;refine qeh ?_;refine HQ.Ap (i := a + o) rfl rfl rfl (by omega) (by omega) rfl ?_;refine qeH ?_;refine HQ.Ap (i := a + o) rfl rfl rfl (by omega) (by omega) rfl ?_;refine qda ?_;refine HB.ev 19 ?_;refine qcY ?_;show H _ _ _ _ f (slc (some ⟨sb, 0, none⟩) n c _ 1 (arr (swp d (x) (a + o))) :: _) _;refine gV ?_;exact H.Ah (x + 1, z2, swp d x (a + o)) ⟨by show a ≤ x + 1; omega, permIn_trans _ _ _ _ _ hP (swp_permIn _ _ _ _ _ hx (by omega) (by omega) (by omega) (by omega))⟩ (by show n - (x + 1) < n - x; omega) ⟨rfl, rfl, rfl, rfl, rfl, rfl, trivial⟩ rfl rfl
  ·refine gZ ?_;refine H.drawN (by kernel_rfl) (by decide +kernel) (by repeat (first | exact zac | refine zab ?_ | refine zag ?_ | refine zai ?_)) ?_;refine qdc ?_;refine qgK ?_;refine HN.ar (i := 5) (z := ((a + k : Nat) : Int)) (by kernel_rfl) rfl rfl rfl rfl rfl (by rw [wr_i64 (by omega)]; omega) rfl ?_;refine qeh ?_;refine HQ.Ap (i := a + k) rfl rfl rfl (by omega) (by omega) rfl ?_;refine qeH ?_;refine HQ.Ap (i := a + k) rfl rfl rfl (by omega) (by omega) rfl ?_;refine qda ?_;refine HB.ev 19 ?_;refine qcY ?_;show H _ _ _ _ f (slc (some ⟨sb, 0, none⟩) n c _ 1 (arr (swp d (x) (a + k))) :: _) _;refine gV ?_;exact H.Ah (x + 1, z2, swp d x (a + k)) ⟨by show a ≤ x + 1; omega, permIn_trans _ _ _ _ _ hP (swp_permIn _ _ _ _ _ hx (by omega) (by omega) (by omega) (by omega))⟩ (by show n - (x + 1) < n - x; omega) ⟨rfl, rfl, rfl, rfl, rfl, rfl, trivial⟩ rfl rfl
 ·skip; repeat (first | (refine H.quo (p := (l : Int)) (z := ((l / 4 : Nat) : Int)) rfl rfl rfl (by decide) hq rfl ?_) | ((apply H.Ag); (iterate 3 exact rfl)) | (first | apply H.seq | apply H.Am | apply H.nil | apply H.Ao) | ((apply H.cmp); (iterate 5 exact rfl)) | ((apply H.ar; (iterate 4 exact rfl)); (with_reducible apply wr_i64; omega); exact rfl) | (first | apply H.Cc | apply H.exit | apply H.Cb | apply H.Cf) | (apply H.Bu; exact rfl; (omega)))
  refine H.pd (x := row rb _ _) ?_;exact H.end0 rfl (fun _ h => h) ⟨d, hP, rfl, rfl, rfl⟩
end
open Go.Sort (swp ltInt insInner insOuter insertionSort siftDown heapBuild heapPop heapSort reverseLoop reverseRange scanUp scanDown partLoop partEqLoop scanSorted shiftDown shiftUp partialIns partialInsertionSort)
section
variable (f : Frag) (F : List HP)
def Ord2P (f : Frag) (F : List HP) (A1 : HP) (wb a b s : Nat) : Value → Frag → List HP → Prop := fun v f' A' => ∃ x y s2 : Nat, ((x = a ∧ y = b) ∨ (x = b ∧ y = a)) ∧ s2 ≤ s + 1 ∧ v = .tuple #[.int .i64 (x : Int), .int .i64 (y : Int)] ∧ f' = f ∧ A' = A1 :: row wb 3 [.int .i64 (s2 : Int)] :: F
theorem order2_fn {p : Option Addr} {n c a b s wb : Nat} {d : Array Int} (hd : d.size = n) (hn : n ≤ 1000000) (ha : a < n) (hb : b < n) (hs : s ≤ 100) :
  Fn Tryz.prog 203 [.slice p n c, .int .i64 (a : Int), .int .i64 (b : Int), .pointer (some ⟨wb, 0, none⟩)] f (slc p n c 31 1 (arr d) :: row wb 3 [.int .i64 (s : Int)] :: F) (Ord2P f F (slc p n c 31 1 (arr d)) wb a b s) := by
 refine Fn.e4 Tryz.func203 Tryz.ntmps203 fun base => ?_;refine qdV fun sb hp => ?_;subst hp;refine qgB ?_;refine HB.qu [0,1,2,3,4,5,6,7] 1 ?_;refine gB ?_;refine HQ.Ap (i := b) rfl rfl rfl (by omega) (by omega) rfl ?_;refine qfv ?_;refine qdH ?_;refine qcS ?_;refine qda ?_;refine HB.ev 8 ?_;refine H.Ad rfl rfl rfl (zby f _ d[b]! d[a]!) ?_;refine qdG ?_
 cases hl : ltInt d[b]! d[a]! with
 | false =>
  refine gV ?_;exact H.Bt rfl rfl rfl (fun _ h => h) ⟨a, b, s, .inl ⟨rfl, rfl⟩, Nat.le_succ s, rfl, rfl, rfl⟩
 | true =>
  refine gc ?_;exact H.Bt rfl rfl rfl (fun _ h => h) ⟨b, a, s + 1, .inr ⟨rfl, rfl⟩, Nat.le_refl _, rfl, rfl, rfl⟩
def MedP (f : Frag) (F : List HP) (A1 : HP) (wb a b c s : Nat) : Value → Frag → List HP → Prop := fun v f' A' => ∃ x s2 : Nat, (x = a ∨ x = b ∨ x = c) ∧ s2 ≤ s + 3 ∧ v = .int .i64 (x : Int) ∧ f' = f ∧ A' = A1 :: row wb 3 [.int .i64 (s2 : Int)] :: F
theorem median_fn {p : Option Addr} {n c a b k s wb : Nat} {d : Array Int} (hd : d.size = n) (hn : n ≤ 1000000) (ha : a < n) (hb : b < n) (hk : k < n) (hs : s ≤ 90) :
  Fn Tryz.prog 185 [.slice p n c, .int .i64 (a : Int), .int .i64 (b : Int), .int .i64 (k : Int), .pointer (some ⟨wb, 0, none⟩)] f (slc p n c 31 1 (arr d) :: row wb 3 [.int .i64 (s : Int)] :: F) (MedP f F (slc p n c 31 1 (arr d)) wb a b k s) := by
 refine Fn.e5 Tryz.func185 Tryz.ntmps185 fun base => ?_;refine gH ?_;refine H.Aw rfl rfl rfl (order2_fn f F hd hn ha hb (by omega)) fun v f' A' hR => ?_;obtain ⟨x1, y1, t1, h1, ht1, rfl, hff, rfl⟩ := hR;rw [hff];refine gR ?_;refine H.Aw rfl rfl rfl (order2_fn f F hd hn (a := y1) (b := k) (by omega) hk (by omega)) fun v f' A' hR => ?_;obtain ⟨x2, y2, t2, h2, ht2, rfl, hff, rfl⟩ := hR;rw [hff];refine gR ?_;refine H.Aw rfl rfl rfl (order2_fn f F hd hn (a := x1) (b := x2) (by omega) (by omega) (by omega)) fun v f' A' hR => ?_;obtain ⟨x3, y3, t3, h3, ht3, rfl, hff, rfl⟩ := hR;rw [hff];refine gR ?_;exact H.Ac rfl rfl (fun _ h => h) ⟨y3, t3, by omega, by omega, rfl, rfl, rfl⟩
theorem medAdj_fn {p : Option Addr} {n c a s wb : Nat} {d : Array Int} (hd : d.size = n) (hn : n ≤ 1000000) (h0 : 1 ≤ a) (ha : a + 1 < n) (hs : s ≤ 90) :
  Fn Tryz.prog 184 [.slice p n c, .int .i64 (a : Int), .pointer (some ⟨wb, 0, none⟩)] f (slc p n c 31 1 (arr d) :: row wb 3 [.int .i64 (s : Int)] :: F) (MedP f F (slc p n c 31 1 (arr d)) wb (a - 1) a (a + 1) s) := by
 obtain ⟨a1, rfl⟩ : ∃ a1, a = a1 + 1 := ⟨a - 1, by omega⟩;refine Fn.e3 Tryz.func184 Tryz.ntmps184 fun base => ?_;refine gV ?_;refine H.Aw rfl rfl rfl (median_fn f F hd hn (a := a1) (b := a1 + 1) (k := a1 + 1 + 1) (by omega) (by omega) ha hs) fun v f' A' hR => ?_;obtain ⟨x, t, h1, ht, rfl, hff, rfl⟩ := hR;rw [hff];refine gT ?_;exact H.Ac rfl rfl (fun _ h => h) ⟨x, t, h1, ht, rfl, rfl, rfl⟩
def PivP (f : Frag) (F : List HP) (A1 : HP) (a b : Nat) : Value → Frag → List HP → Prop := fun v f' A' => ∃ (x : Nat) (h : Int), a ≤ x ∧ x < b ∧ v = .tuple #[.int .i64 (x : Int), .int .i64 h] ∧ f' = f ∧ A' = A1 :: F
set_option maxHeartbeats 1600000 in
theorem pivot_fn {p : Option Addr} {n c a b : Nat} {d : Array Int} (hd : d.size = n) (hn : n ≤ 1000000) (h8 : a + 8 ≤ b) (hb : b ≤ n) :
  Fn Tryz.prog 136 [.slice p n c, .int .i64 (a : Int), .int .i64 (b : Int)] f (slc p n c 31 1 (arr d) :: F) (PivP f F (slc p n c 31 1 (arr d)) a b) := by
 obtain ⟨l, hl⟩ : ∃ l, l = b - a := ⟨_, rfl⟩; have hz : (b : Int) - (a : Int) = (l : Int) := by omega
 obtain ⟨q, hq0⟩ : ∃ q, q = l / 4 := ⟨_, rfl⟩; have hq : IntKind.wrap .i64 ((l : Int).tdiv 4) = (q : Int) := by rw [show (4 : Int) = ((4 : Nat) : Int) from rfl, tdiv64, wr_i64 (by omega), hq0]
 refine Fn.e3 Tryz.func136 Tryz.ntmps136 fun base => ?_; repeat (first | (refine H.ar (op := .sub) (p := (b : Int)) (p2 := (a : Int)) (z := (l : Int)) rfl rfl rfl rfl (by rw [hz, wr_i64 (by omega)]) rfl ?_) | (refine H.quo (p := (l : Int)) (z := (q : Int)) rfl rfl rfl (by decide) hq rfl ?_) | (refine H.Au (ls := [.int .i64 0]) rfl rfl rfl fun wb => ?_) | ((first | apply H.Ag | apply H.Al); (iterate 3 exact rfl)) | (first | apply H.seq | apply H.Am | apply H.nil | apply H.Ao) | ((apply H.cmp); (iterate 5 exact rfl)) | ((apply H.ar; (iterate 4 exact rfl)); (with_reducible apply wr_i64; omega); exact rfl) | (apply H.Bo; exact rfl; (omega)))
 refine H.pf (x := slc p n c _ _ _) ?_;refine H.By (d := 10) (u := .int .i64 ((a + q * 1 : Nat) : Int)) rfl (by first | rfl | (congr 1; omega)) ?_;refine H.By (d := 11) (u := .int .i64 ((a + q * 2 : Nat) : Int)) rfl (by first | rfl | (congr 1; omega)) ?_;refine H.By (d := 12) (u := .int .i64 ((a + q * 3 : Nat) : Int)) rfl (by first | rfl | (congr 1; omega)) ?_;by_cases h50 : 50 ≤ l
 ·refine gF ?_;refine H.Aw rfl rfl rfl (medAdj_fn f F hd hn (a := a + q * 1) (s := 0) (by omega) (by omega) (by omega)) fun v f' A' hR => ?_;obtain ⟨x1, t1, h1, ht1, rfl, hff, rfl⟩ := hR;rw [hff];refine gH ?_;refine H.Aw rfl rfl rfl (medAdj_fn f F hd hn (a := a + q * 2) (s := t1) (by omega) (by omega) (by omega)) fun v f' A' hR => ?_;obtain ⟨x2, t2, h2, ht2, rfl, hff, rfl⟩ := hR;rw [hff];refine gH ?_;refine H.Aw rfl rfl rfl (medAdj_fn f F hd hn (a := a + q * 3) (s := t2) (by omega) (by omega) (by omega)) fun v f' A' hR => ?_;obtain ⟨x3, t3, h3, ht3, rfl, hff, rfl⟩ := hR;rw [hff];refine gH ?_;refine H.Aw rfl rfl rfl (median_fn f F hd hn (a := x1) (b := x2) (k := x3) (s := t3) (by omega) (by omega) (by omega) (by omega)) fun v f' A' hR => ?_;obtain ⟨x, t, h4, ht, rfl, hff, rfl⟩ := hR;rw [hff];by_cases h0 : t = 0
  ·refine gN ?_;exact qaF
  ·by_cases h12 : t = 12
   ·refine gY ?_;exact qaF
   ·refine gN ?_;exact qaF
 ·refine gZ ?_;refine H.Aw rfl rfl rfl (median_fn f F hd hn (a := a + q * 1) (b := a + q * 2) (k := a + q * 3) (s := 0) (by omega) (by omega) (by omega) (by omega)) fun v f' A' hR => ?_;obtain ⟨x, t, h4, ht, rfl, hff, rfl⟩ := hR;rw [hff];by_cases h0 : t = 0
  ·refine gN ?_;exact qaF
  ·by_cases h12 : t = 12
   ·refine gN ?_;exact qaF
   ·refine gN ?_;exact qaF
end
open Go.Sort (swp ltInt insInner insOuter insertionSort siftDown heapBuild heapPop heapSort reverseLoop reverseRange scanUp scanDown partLoop partEqLoop scanSorted shiftDown shiftUp partialIns partialInsertionSort)
open Go.Sort (bitsLen PermIn SortedIn Below permIn_trans permIn_refl insertionSort_holds heapSort_holds partialInsertionSort_holds partition_holds partitionEqual_holds reverseRange_holds swo_ltInt round_eq round_part partition partitionEqual)
section
variable (f : Frag) (F : List HP)
def SrtP (f : Frag) (F : List HP) (p : Option Addr) (n c a b : Nat) (d0 : Array Int) : Value → Frag → List HP → Prop := fun v f' A' => ∃ d : Array Int, PermIn a b d0 d ∧ SortedIn ltInt a b d ∧ v = .tuple #[] ∧ f' = f ∧ A' = slc p n c 31 1 (arr d) :: F
def pdSt (p : Option Addr) (n c : Nat) (s : Nat × Nat × Int × Bool × Bool × Array Int) : Env := [(0, .slice p n c), (1, .int .i64 (s.1 : Int)), (2, .int .i64 (s.2.1 : Int)), (3, .int .i64 s.2.2.1), (8, .bool s.2.2.2.1), (9, .bool s.2.2.2.2.1)]
set_option maxHeartbeats 3200000 in
theorem pdq_fn : ∀ (m : Nat) {p : Option Addr} {n c a0 b0 : Nat} {lim0 : Int} {d0 : Array Int} (hd0 : d0.size = n) (hn : n ≤ 255) (ha : a0 ≤ b0) (hb : b0 ≤ n) (hl : 0 ≤ lim0 ∧ lim0 ≤ 100) (hB : Below ltInt a0 b0 d0) (hm : b0 - a0 ≤ m),
  Fn Tryz.prog 101 [.slice p n c, .int .i64 (a0 : Int), .int .i64 (b0 : Int), .int .i64 lim0] f (slc p n c 31 1 (arr d0) :: F) (SrtP f F p n c a0 b0 d0) := by
 intro m
 induction m with
 | zero =>
  intro p n c a0 b0 lim0 d0 hd0 hn ha hb hl hB hm;have h1 := insertionSort_holds swo_ltInt d0 a0 b0 ha (by omega); have hz : (b0 : Int) - (a0 : Int) = 0 := by omega
  refine Fn.e4 Tryz.func101 Tryz.ntmps101 fun base => ?_;refine gT ?_;refine H.Ar (ι := Unit) (fun _ => [(0, .slice p n c), (1, .int .i64 (a0 : Int)), (2, .int .i64 (b0 : Int))]) (fun _ => f) (fun _ => slc p n c 31 1 (arr d0) :: F) (fun _ => True) (fun _ => 0) () trivial ⟨rfl, rfl, rfl, trivial⟩ rfl rfl fun _ _ => ?_;show H _ _ _ [(0, .slice p n c), (1, .int .i64 (a0 : Int)), (2, .int .i64 (b0 : Int))] f (slc p n c _ 1 (arr d0) :: F) _; repeat (first | (refine H.ar (op := .sub) (p := (b0 : Int)) (p2 := (a0 : Int)) (z := 0) rfl rfl rfl rfl (by rw [hz]; rfl) rfl ?_) | ((first | apply H.Ag | apply H.Al); (iterate 3 exact rfl)) | (first | apply H.seq | apply H.Am | apply H.nil | apply H.Ao) | ((apply H.cmp); (iterate 5 exact rfl)) | (apply H.Co; exact rfl) | (apply H.Bb))
  refine H.Ad rfl rfl rfl (insSort_fn f _ (a := a0) (b := b0) hd0 (by omega) hb (by omega)) ?_;refine gT ?_;exact H.ret0 rfl (fun _ h => h) ⟨_, h1.1, h1.2, rfl, rfl, rfl⟩
 | succ m ih =>
  intro p n c a0 b0 lim0 d0 hd0 hn ha hb hl hB hm;refine Fn.e4 Tryz.func101 Tryz.ntmps101 fun base => ?_;refine gT ?_
  refine H.Ar (ι := Nat × Nat × Int × Bool × Bool × Array Int) (pdSt p n c) (fun _ => f) (fun s => slc p n c 31 1 (arr s.2.2.2.2.2) :: F)
   (fun s => s.1 ≤ s.2.1 ∧ s.2.1 ≤ n ∧ s.2.1 - s.1 ≤ m + 1 ∧ s.2.2.2.2.2.size = n ∧ (0 ≤ s.2.2.1 ∧ s.2.2.1 ≤ 100) ∧ Below ltInt s.1 s.2.1 s.2.2.2.2.2 ∧ ∀ R, PermIn s.1 s.2.1 s.2.2.2.2.2 R → SortedIn ltInt s.1 s.2.1 R → PermIn a0 b0 d0 R ∧ SortedIn ltInt a0 b0 R)
   (fun s => s.2.1 - s.1) (a0, b0, lim0, true, true, d0) ⟨ha, hb, hm, hd0, hl, hB, fun R h1 h2 => ⟨h1, h2⟩⟩ ⟨rfl, rfl, rfl, rfl, rfl, rfl, trivial⟩ rfl rfl fun s hs => ?_
  clear hl hB;obtain ⟨a, b, lim, wb, wp, d⟩ := s;obtain ⟨hab, hbn, hm1, hd, hl, hB, hfin⟩ : a ≤ b ∧ b ≤ n ∧ b - a ≤ m + 1 ∧ d.size = n ∧ (0 ≤ lim ∧ lim ≤ 100) ∧ Below ltInt a b d ∧ ∀ R, PermIn a b d R → SortedIn ltInt a b R → PermIn a0 b0 d0 R ∧ SortedIn ltInt a0 b0 R := hs;show H _ _ _ [(0, .slice p n c), (1, .int .i64 (a : Int)), (2, .int .i64 (b : Int)), (3, .int .i64 lim), (8, .bool wb), (9, .bool wp)] f (slc p n c _ 1 (arr d) :: F) _;obtain ⟨l, hl0⟩ : ∃ l, l = b - a := ⟨_, rfl⟩; have hz : (b : Int) - (a : Int) = (l : Int) := by omega
  by_cases h12 : l ≤ 12
  ·skip; repeat (first | (refine H.ar (op := .sub) (p := (b : Int)) (p2 := (a : Int)) (z := (l : Int)) rfl rfl rfl rfl (by rw [hz, wr_i64 (by omega)]) rfl ?_) | ((first | apply H.Ag | apply H.Al); (iterate 3 exact rfl)) | (first | apply H.seq | apply H.Am | apply H.nil | apply H.Ao) | ((apply H.cmp); (iterate 5 exact rfl)) | (apply H.Bb) | (apply H.Bo; exact rfl; (omega)))
   refine H.Ad rfl rfl rfl (insSort_fn f _ (a := a) (b := b) hd (by omega) hbn (by omega)) ?_;refine gT ?_;have h1 := insertionSort_holds swo_ltInt d a b hab (by omega);exact qcE
  ·by_cases hl00 : lim = 0
   ·skip; repeat (first | (refine H.ar (op := .sub) (p := (b : Int)) (p2 := (a : Int)) (z := (l : Int)) rfl rfl rfl rfl (by rw [hz, wr_i64 (by omega)]) rfl ?_) | ((first | apply H.Ag | apply H.Al); (iterate 3 exact rfl)) | (first | apply H.seq | apply H.Am | apply H.nil | apply H.Ao) | ((apply H.cmp); (iterate 5 exact rfl)) | (first | apply H.Bk | apply H.Bb) | (apply H.Bo; exact rfl; (assumption)) | (apply H.Bu; exact rfl; (omega)))
    refine H.Ad rfl rfl rfl (heapSort_fn f _ (a := a) (b := b) hd (by omega) (by omega) hbn) ?_;refine gT ?_;have h1 := heapSort_holds swo_ltInt d a b hab (by omega);exact qcE
   ·skip; repeat (first | (refine H.ar (op := .sub) (p := (b : Int)) (p2 := (a : Int)) (z := (l : Int)) rfl rfl rfl rfl (by rw [hz, wr_i64 (by omega)]) rfl ?_) | ((first | apply H.Ag | apply H.Al); (iterate 3 exact rfl)) | (first | apply H.seq | apply H.Am | apply H.nil | apply H.Ao) | ((apply H.cmp); (iterate 5 exact rfl)) | ((apply H.not); (iterate 4 exact rfl)) | (first | apply H.Bk | apply H.Bb) | (apply H.Bu; exact rfl; (first | assumption | omega)))
    refine H.cut (ι := Int × Array Int) (fun s => [(0, .slice p n c), (1, .int .i64 (a : Int)), (2, .int .i64 (b : Int)), (3, .int .i64 s.1), (8, .bool wb), (9, .bool wp), (10, .int .i64 (l : Int))]) (fun _ => f) (fun s => slc p n c 31 1 (arr s.2) :: F) (fun s => (0 ≤ s.1 ∧ s.1 ≤ 100) ∧ PermIn a b d s.2) _ (fun s hs => ?_) ?_;rotate_left
    ·cases wb with
     | true =>
      refine gV ?_;exact H.Bm (lim, d) ⟨hl, permIn_refl _ _ _⟩ ⟨rfl, rfl, rfl, rfl, rfl, rfl, rfl, trivial⟩ rfl rfl
     | false =>
      refine ga ?_;refine H.Aw rfl rfl rfl (break_fn f F (a := a) (b := b) hd hn (by omega) hbn) fun v f' A' hR => ?_;obtain ⟨d1, hP, rfl, hff, rfl⟩ := hR;rw [hff];refine gV ?_;exact H.Bm (lim - 1, d1) ⟨by show 0 ≤ lim - 1 ∧ lim - 1 ≤ 100; omega, hP⟩ ⟨rfl, rfl, rfl, rfl, rfl, rfl, rfl, trivial⟩ rfl rfl
    obtain ⟨lim1, d1⟩ := s;obtain ⟨hl1, hP1⟩ : (0 ≤ lim1 ∧ lim1 ≤ 100) ∧ PermIn a b d d1 := hs;show H _ _ _ [(0, .slice p n c), (1, .int .i64 (a : Int)), (2, .int .i64 (b : Int)), (3, .int .i64 lim1), (8, .bool wb), (9, .bool wp), (10, .int .i64 (l : Int))] f (slc p n c _ 1 (arr d1) :: F) _;have hd1 : d1.size = n := hP1.1.trans hd;refine gH ?_
    refine H.Aw rfl rfl rfl (pivot_fn f F (a := a) (b := b) hd1 (by omega) (by omega) hbn) fun v f' A' hR => ?_;obtain ⟨x, h, hx1, hx2, rfl, hff, rfl⟩ := hR;rw [hff]; repeat (first | ((first | apply H.Ag | apply H.Al); (iterate 3 exact rfl)) | (first | apply H.seq | apply H.Am | apply H.nil | apply H.Ao) | ((apply H.cmp); (iterate 5 exact rfl)) | ((apply H.Ca); (iterate 4 exact rfl)))
    refine H.cut (ι := Nat × Int × Array Int) (fun s => [(11, .int .i64 (s.1 : Int)), (12, .int .i64 s.2.1), (0, .slice p n c), (1, .int .i64 (a : Int)), (2, .int .i64 (b : Int)), (3, .int .i64 lim1), (8, .bool wb), (9, .bool wp), (10, .int .i64 (l : Int))]) (fun _ => f) (fun s => slc p n c 31 1 (arr s.2.2) :: F) (fun s => a ≤ s.1 ∧ s.1 < b ∧ PermIn a b d s.2.2) _ (fun s hs => ?_) ?_;rotate_left
    ·by_cases h2 : h = 2
     ·have hpz : (b : Int) - 1 - ((x : Int) - (a : Int)) = ((b - 1 - (x - a) : Nat) : Int) := by omega
      refine gF ?_;refine H.Ad rfl rfl rfl (reverse_fn f _ (a := a) (b := b) hd1 (by omega) (by omega) hbn) ?_; repeat (first | (refine H.ar (op := .sub) (p := (b : Int) - 1) (p2 := (x : Int) - (a : Int)) (z := ((b - 1 - (x - a) : Nat) : Int)) rfl rfl rfl rfl (by rw [hpz, wr_i64 (by omega)]) rfl ?_) | ((first | apply H.Ag | apply H.Al); (iterate 3 exact rfl)) | (first | apply H.seq | apply H.Am | apply H.nil | apply H.Ao) | ((apply H.ar; (iterate 4 exact rfl)); (with_reducible apply wr_i64; omega); exact rfl))
      exact H.Bm (b - 1 - (x - a), 1, Go.Sort.reverseRange d1 a b) ⟨by show a ≤ b - 1 - (x - a); omega, by show b - 1 - (x - a) < b; omega, permIn_trans _ _ _ _ _ hP1 (reverseRange_holds d1 a b hab (by omega))⟩ ⟨rfl, rfl, rfl, rfl, rfl, rfl, rfl, rfl, rfl, trivial⟩ rfl rfl
     ·refine gZ ?_;exact H.Bm (x, h, d1) ⟨hx1, hx2, hP1⟩ ⟨rfl, rfl, rfl, rfl, rfl, rfl, rfl, rfl, rfl, trivial⟩ rfl rfl
    clear hP1 hd1 hx1 hx2;obtain ⟨pv, hh, d2⟩ := s;obtain ⟨hp1, hp2, hP2⟩ : a ≤ pv ∧ pv < b ∧ PermIn a b d d2 := hs;show H _ _ _ [(11, .int .i64 (pv : Int)), (12, .int .i64 hh), (0, .slice p n c), (1, .int .i64 (a : Int)), (2, .int .i64 (b : Int)), (3, .int .i64 lim1), (8, .bool wb), (9, .bool wp), (10, .int .i64 (l : Int))] f (slc p n c _ 1 (arr d2) :: F) _;have hd2 : d2.size = n := hP2.1.trans hd; repeat apply H.seq
    refine H.cut (ι := Bool) (fun t => [(68, .bool t), (11, .int .i64 (pv : Int)), (0, .slice p n c), (1, .int .i64 (a : Int)), (2, .int .i64 (b : Int)), (3, .int .i64 lim1), (8, .bool wb), (9, .bool wp), (10, .int .i64 (l : Int))]) (fun _ => f) (fun _ => slc p n c 31 1 (arr d2) :: F) (fun _ => True) _ (fun t _ => ?_) ?_;rotate_left
    ·cases wb with
     | false =>
      exact qcl
     | true =>
      cases wp with
      | false =>
       exact qcl
      | true =>
       refine gZ ?_;exact H.Bm _ trivial ⟨rfl, rfl, rfl, rfl, rfl, rfl, rfl, rfl, rfl, trivial⟩ rfl rfl
    show H _ _ _ [(68, .bool t), (11, .int .i64 (pv : Int)), (0, .slice p n c), (1, .int .i64 (a : Int)), (2, .int .i64 (b : Int)), (3, .int .i64 lim1), (8, .bool wb), (9, .bool wp), (10, .int .i64 (l : Int))] f (slc p n c _ 1 (arr d2) :: F) _;refine H.cut (ι := Array Int) (fun _ => [(11, .int .i64 (pv : Int)), (0, .slice p n c), (1, .int .i64 (a : Int)), (2, .int .i64 (b : Int)), (3, .int .i64 lim1), (8, .bool wb), (9, .bool wp), (10, .int .i64 (l : Int))]) (fun _ => f) (fun s => slc p n c 31 1 (arr s) :: F) (fun s => PermIn a b d s) _ (fun d3 hP3 => ?_) ?_;rotate_left
    ·cases t with
     | false =>
      refine gV ?_;exact H.Bm d2 hP2 ⟨rfl, rfl, rfl, rfl, rfl, rfl, rfl, rfl, trivial⟩ rfl rfl
     | true =>
      have h1 := partialInsertionSort_holds swo_ltInt d2 a b (by omega) (by omega) (hB.perm (by omega) hP2);have h2 := permIn_trans _ _ _ _ _ hP2 h1.1
      refine ga ?_;refine H.Ad rfl rfl rfl (partIns_fn f _ (a := a) (b := b) hd2 (by omega) (by omega) hbn) ?_;generalize partialInsertionSort ltInt d2 a b = r at *;obtain ⟨d3, r2⟩ := r
      cases r2 with
      | true =>
       refine ga ?_;have h3 := hfin d3 h2 (h1.2 rfl);exact H.ret0 rfl (fun _ h => h) ⟨d3, h3.1, h3.2, rfl, rfl, rfl⟩
      | false =>
       refine gV ?_;exact H.Bm d3 h2 ⟨rfl, rfl, rfl, rfl, rfl, rfl, rfl, rfl, trivial⟩ rfl rfl
    clear hP2 hd2;show H _ _ _ [(11, .int .i64 (pv : Int)), (0, .slice p n c), (1, .int .i64 (a : Int)), (2, .int .i64 (b : Int)), (3, .int .i64 lim1), (8, .bool wb), (9, .bool wp), (10, .int .i64 (l : Int))] f (slc p n c _ 1 (arr d3) :: F) _;have hd3 : d3.size = n := hP3.1.trans hd;have hB3 := hB.perm (by omega) hP3
    repeat apply H.seq
    refine H.cut (ι := Bool) (fun t => [(87, .bool t), (11, .int .i64 (pv : Int)), (0, .slice p n c), (1, .int .i64 (a : Int)), (2, .int .i64 (b : Int)), (3, .int .i64 lim1), (8, .bool wb), (9, .bool wp), (10, .int .i64 (l : Int))]) (fun _ => f) (fun _ => slc p n c 31 1 (arr d3) :: F) (fun t => t = true → 0 < a ∧ ltInt d3[a - 1]! d3[pv]! = false) _ (fun t ht => ?_) ?_;rotate_left
    ·refine H.Bl (p := p) (n0 := n) (c := c) (T := 31) (sz := 1) (xs := arr d3) (.here _ _ _) (by omega) fun sb hp => ?_;subst hp;by_cases ha0 : 0 < a
     ·obtain ⟨a1, rfl⟩ : ∃ a1, a = a1 + 1 := ⟨a - 1, by omega⟩;refine qdB ?_;refine HB.qu [0,1,2,3,4,5,6,7,8,9,10,11] 3 ?_;refine gK ?_;refine HQ.Ap (i := a1) rfl rfl rfl (by omega) (by omega) rfl ?_;refine qfv ?_;refine HQ.Ap (i := pv) rfl rfl rfl (by omega) (by omega) rfl ?_;refine qcS ?_;refine qeV ?_;refine H.Ad rfl rfl rfl (zby f _ d3[a1]! d3[pv]!) ?_;refine qcP ?_;refine HB.qu [13,14] 0 ?_;refine qdl ?_
      cases hlx : ltInt d3[a1]! d3[pv]! with
      | true =>
       exact qch
      | false =>
       skip;exact H.Bm true (fun _ => ⟨ha0, hlx⟩) ⟨rfl, rfl, rfl, rfl, rfl, rfl, rfl, rfl, rfl, trivial⟩ rfl rfl
     ·skip;refine qdB ?_;refine qgl ?_;exact qch
    show H _ _ _ [(87, .bool t), (11, .int .i64 (pv : Int)), (0, .slice p n c), (1, .int .i64 (a : Int)), (2, .int .i64 (b : Int)), (3, .int .i64 lim1), (8, .bool wb), (9, .bool wp), (10, .int .i64 (l : Int))] f (slc p n c _ 1 (arr d3) :: F) _
    cases t with
    | true =>
     obtain ⟨ha0, hnl⟩ := ht rfl;obtain ⟨g1, g2, g3, g4, g5⟩ := round_eq swo_ltInt (partitionEqual_holds ltInt) ha0 hp1 hp2 (by omega) hB3 hnl (d4 := (partitionEqual ltInt d3 a b pv).2) (mid := (partitionEqual ltInt d3 a b pv).1) rfl;refine ga ?_;refine H.Ad rfl rfl rfl (partEq_fn f _ (a := a) (b := b) (pivot := pv) hd3 (by omega) hp1 hp2 hbn) ?_;generalize (partitionEqual ltInt d3 a b pv).1 = mid at *;generalize (partitionEqual ltInt d3 a b pv).2 = d4 at *;refine gT ?_
     exact H.Ah (mid, b, lim1, wb, wp, d4) ⟨by show mid ≤ b; omega, hbn, by show b - mid ≤ m + 1; omega, by show d4.size = n; omega, hl1, g4, fun R h1 h2 => by
      have h3 := g5 R h1 h2
      exact hfin R (permIn_trans _ _ _ _ _ hP3 h3.1) h3.2⟩ (by show b - mid < b - a; omega) ⟨rfl, rfl, rfl, rfl, rfl, rfl, trivial⟩ rfl rfl
    | false =>
     have hrp := round_part swo_ltInt (partition_holds ltInt) hp1 hp2 (by omega : b ≤ d3.size) hB3 (d4 := (partition ltInt d3 a b pv).2.2) (ap := (partition ltInt d3 a b pv).2.1) (mid := (partition ltInt d3 a b pv).1) rfl; have hq : IntKind.wrap .i64 ((l : Int).tdiv 8) = ((l / 8 : Nat) : Int) := by rw [show (8 : Int) = ((8 : Nat) : Int) from rfl, tdiv64, wr_i64 (by omega)]
     refine gV ?_;refine H.Aw rfl rfl rfl (partition_fn f F (a := a) (b := b) (pivot := pv) hd3 (by omega) hp1 hp2 hbn) fun v f' A' hR => ?_;generalize (partition ltInt d3 a b pv).1 = mid at *;generalize (partition ltInt d3 a b pv).2.2 = d4 at *;obtain ⟨ap, rfl, hff, rfl⟩ := hR;rw [hff];obtain ⟨g1, g2, g3, g4, g5, g6, g7⟩ := hrp;by_cases hlr : mid - a < b - mid
     ·skip; repeat (first | (refine H.quo (p := (l : Int)) (z := ((l / 8 : Nat) : Int)) rfl rfl rfl (by decide) hq rfl ?_) | ((first | apply H.Ag | apply H.Al); (iterate 3 exact rfl)) | (first | apply H.seq | apply H.Am | apply H.nil | apply H.Ao) | ((apply H.cmp); (iterate 5 exact rfl)) | ((apply H.ar; (iterate 4 exact rfl)); (with_reducible apply wr_i64; omega); exact rfl) | ((apply H.Ca); (iterate 4 exact rfl)) | (apply H.Bo; exact rfl; (omega)))
      refine H.Aw rfl rfl rfl (ih (n := n) (c := c) (p := p) (a0 := a) (b0 := mid) (lim0 := lim1) (d0 := d4) (by omega) hn g1 (by omega) hl1 g4 (by omega)) fun v f' A' hR => ?_;obtain ⟨L, hL1, hL2, rfl, hff, rfl⟩ := hR;rw [hff];obtain ⟨k1, k2⟩ := g6 L hL1 hL2;refine gV ?_
      exact H.Ah (mid + 1, b, lim1, _, ap, L) ⟨by show mid + 1 ≤ b; omega, hbn, by show b - (mid + 1) ≤ m + 1; omega, by show L.size = n; have := hL1.1; omega, hl1, k1, fun R h1 h2 => by
       have h3 := k2 R h1 h2
       exact hfin R (permIn_trans _ _ _ _ _ hP3 h3.1) h3.2⟩ (by show b - (mid + 1) < b - a; omega) ⟨rfl, rfl, rfl, rfl, rfl, rfl, trivial⟩ rfl rfl
     ·skip; repeat (first | (refine H.quo (p := (l : Int)) (z := ((l / 8 : Nat) : Int)) rfl rfl rfl (by decide) hq rfl ?_) | ((first | apply H.Ag | apply H.Al); (iterate 3 exact rfl)) | (first | apply H.seq | apply H.Am | apply H.nil | apply H.Ao) | ((apply H.cmp); (iterate 5 exact rfl)) | ((apply H.ar; (iterate 4 exact rfl)); (first | (with_reducible apply zaq; omega) | (with_reducible apply wr_i64; omega)); exact rfl) | ((apply H.Ca); (iterate 4 exact rfl)) | (apply H.Bu; exact rfl; (omega)))
      refine H.Aw rfl rfl rfl (ih (n := n) (c := c) (p := p) (a0 := mid + 1) (b0 := b) (lim0 := lim1) (d0 := d4) (by omega) hn (by omega) hbn hl1 g5 (by omega)) fun v f' A' hR => ?_;obtain ⟨L, hL1, hL2, rfl, hff, rfl⟩ := hR;rw [hff];obtain ⟨k1, k2⟩ := g7 L hL1 hL2;refine gT ?_
      exact H.Ah (a, mid, lim1, _, ap, L) ⟨g1, by show mid ≤ n; omega, by show mid - a ≤ m + 1; omega, by show L.size = n; have := hL1.1; omega, hl1, k1, fun R h1 h2 => by
       have h3 := k2 R h1 h2
       exact hfin R (permIn_trans _ _ _ _ _ hP3 h3.1) h3.2⟩ (by show mid - a < b - a; omega) ⟨rfl, rfl, rfl, rfl, rfl, rfl, trivial⟩ rfl rfl
end
def w15C (kb n : Nat) (ap : Option Addr) (m ac lb : Nat) : List Value := [.slice (some ⟨kb, 0, none⟩) n n, .slice ap m ac, .pointer (some ⟨lb, 0, none⟩)]
section
variable (f : Frag) (F : List HP)
theorem great_fn {fl : Frag} (hfl : Le fl f) {wb kb lb : Nat} {l : Lgs} {T : Nat} (hL : LI l T) {ap : Option Addr} {m ac n o : Nat} (ho : o < l.n) :
  Fn Tryz.prog 111 [.pointer (some ⟨wb, 0, none⟩), .int .i64 ((o + 1 : Nat) : Int)] f (logsH fl lb l :: row wb 37 (w15C kb n ap m ac lb) :: F)
   (Ret (.int .u64 (l.past o).g) f (logsH fl lb l :: row wb 37 (w15C kb n ap m ac lb) :: F)) := by
 refine Fn.unpack fun i0 hi => ?_;obtain ⟨V, vp, vc, pp, pc, cp, cc, pb, cs⟩ := i0;have hiF := hi.mono hfl;have hn := hL.n3
 obtain ⟨pbb, poff, hpp0, rdp0⟩ := hiF.past (by show 0 < l.n; omega);have hpp : pp = some ⟨pbb, poff, none⟩ := hpp0;have rdp : ∀ {A : List HP} {r : Nat}, r < l.n → Rd1 f A pbb (poff + r) (.pointer (some ⟨pb r, 0, none⟩)) := fun {A r} hr => rdp0 (Le.refl f) hr
 clear hpp0 rdp0;show Fn _ _ _ f (row lb 86 (lgC l.n l.known vp V.length vc pp pc cp cc) :: slc vp V.length vc 129 4 (V.flatMap VV.vals) :: lst (V.map VV.own) :: fam (fun r => pstH (pb r) (l.past r)) l.n :: slc cp l.n cc 171 1 (chRow l cs) :: fam (chFam l cs) l.n :: _ :: F) _;refine Fn.e2 Tryz.func111 Tryz.ntmps111 fun base => ?_;refine gG ?_;refine H.Aq (b := pbb) (off := poff) (i := o) rfl (by rw [← hpp]; rfl) rfl (by omega) ho rfl ?_;refine H.Ab rfl rfl rfl (by rw [Nat.mul_one]; exact rdp ho) rfl ?_;refine qep ?_;refine H.Cm ho ?_;refine pstH_openH fun eb ec => ?_;refine gS ?_;refine H.imp (zaz (b := pb o) (eb := eb) (ec := ec) (s := l.past o)) ?_;refine H.Ct (g := fun r => pstH (pb r) (l.past r)) ho ?_;refine qcO ?_;refine H.imp (zah ⟨V, vp, vc, pp, pc, cp, cc, pb, cs⟩ hi) ?_;exact qam
theorem byte_toNat {k : Nat} (h : k < 256) : ((UInt8.ofNat k).toNat : Int) = (k : Int) := by
 exact qci
set_option maxHeartbeats 1600000 in
theorem ask_fn (x : A15) : Fn Tryz.prog 112 [.agg x.vals.toArray] f F (Ret (.agg x.req.vals.toArray) f F) := by
 have hcm : ((x.client.toNat % 3 : Nat) : Int) ≤ 2 := by omega
 have hkm : ((x.key.toNat % 4 : Nat) : Int) ≤ 3 := by omega
 have htm : ((x.time.toNat % 10 : Nat) : Int) ≤ 9 := by omega
 have ht := x.time.toNat_lt;have hsg := fun G => rsigned_fn f G x.req0
 refine Fn.e1 Tryz.func112 Tryz.ntmps112 fun base => ?_;refine qcZ fun xb => ?_;refine qeW fun ob => ?_;refine gE ?_;refine H.rem (z := ((x.client.toNat % 3 : Nat) : Int)) rfl rfl rfl (by decide) (zal (b := 3) rfl) rfl ?_;refine gI ?_;refine H.rem (z := ((x.key.toNat % 4 : Nat) : Int)) rfl rfl rfl (by decide) (zal (b := 4) rfl) rfl ?_;refine gI ?_;refine H.By (d := 16) (u := .int .u8 ((UInt8.ofNat (97 + x.key.toNat % 4)).toNat : Nat)) rfl (by rw [byte_toNat (by omega)]; rfl) ?_;refine H.Be (out := bytesV [UInt8.ofNat (97 + x.key.toNat % 4)]) rfl rfl rfl rfl (by decide) (by decide) rfl rfl fun eb => ?_;refine H.convBS (bs := [UInt8.ofNat (97 + x.key.toNat % 4)]) rfl rfl (Src.slice (Rd.ofRow (.here _ _ _)) rfl) (fun h => by cases h) rfl ?_;refine gI ?_;refine H.rem (z := ((x.time.toNat % 10 : Nat) : Int)) rfl rfl rfl (by decide) (zal (b := 10) rfl) rfl ?_;refine gI ?_;refine H.By (d := 22) (u := .int .u8 ((UInt8.ofNat (48 + x.time.toNat % 10)).toNat : Nat)) rfl (by rw [byte_toNat (by omega)]; rfl) ?_;refine H.Be (out := bytesV [UInt8.ofNat (48 + x.time.toNat % 10)]) rfl rfl rfl rfl (by decide) (by decide) rfl rfl fun eb2 => ?_;refine H.convBS (bs := [UInt8.ofNat (48 + x.time.toNat % 10)]) rfl rfl (Src.slice (Rd.ofRow (.here _ _ _)) rfl) (fun h => by cases h) rfl ?_;refine qdt ?_;refine qdt ?_; repeat (first | (refine H.Ax (t := 44) (out := x.req0.vals) rfl rfl rfl (by kernel_rfl) rfl ?_) | ((apply H.Ax); (iterate 5 exact rfl)))
 refine qeW fun rb => ?_;refine H.Aj (ls := Req.zero.vals) (vs := x.req0.vals) (ls' := x.req0.vals) rfl rfl rfl (zaa rfl) rfl rfl (Nat.le_refl 40) (.here _ _ _) ?_;refine gE ?_;unfold A15.req
 cases hno : x.no with
 | true =>
  refine ga ?_;refine H.Af (ls := x.req0.vals) rfl rfl rfl (Rd.ofRow (.here _ _ _)) rfl rfl ?_;refine H.Aj (ls := Req.zero.vals) (vs := x.req0.vals) (ls' := x.req0.vals) rfl rfl rfl (zaa rfl) rfl rfl (Nat.le_refl 40) (.there _ (.here _ _ _)) ?_;refine qfZ ?_;refine H.pd (x := row xb _ _) ?_;exact H.Bh (ls := x.req0.vals) rfl rfl rfl (Rd.ofRow (.here _ _ _)) rfl (fun _ s => s.drop (.here _ _)) ⟨rfl, rfl, rfl⟩
 | false =>
  refine gV ?_;refine H.Af (ls := x.req0.vals) rfl rfl rfl (Rd.ofRow (.here _ _ _)) rfl rfl ?_;refine H.Ad rfl rfl rfl (hsg _) ?_;refine H.Aj (ls := Req.zero.vals) (vs := x.req0.signed.vals) (ls' := x.req0.signed.vals) rfl rfl rfl (zaa rfl) rfl rfl (Nat.le_refl 40) (.there _ (.here _ _ _)) ?_;refine qfZ ?_;refine H.pd (x := row xb _ _) ?_;exact H.Bh (ls := x.req0.signed.vals) rfl rfl rfl (Rd.ofRow (.here _ _ _)) rfl (fun _ s => s.drop (.here _ _)) ⟨rfl, rfl, rfl⟩
end
def A15.Has (f : Frag) (x : A15) : Prop := BAt f x.qp x.q
theorem qAcc_stop {row : Nat → List (Int × Int)} {half : Nat} : ∀ {k m : Nat}, k ≤ m → half < (qAcc row half k).length → qAcc row half m = qAcc row half k
 | k, 0, h, _ => by
  have : k = 0 := by omega
  rw [this]
 | k, m + 1, h, hl => by
  by_cases e : k = m + 1
  ·rw [e]
  ·have ih := qAcc_stop (m := m) (by omega) hl
   show (if (qAcc row half m).length ≤ half then qAcc row half m ++ row m else qAcc row half m) = _
   rw [ih, if_neg (by omega)]
def qPart (ch : Nat → List (Int × Int)) (kv : Nat → Int) (v : Int) (raw : Bool) (r i : Nat) : List (Int × Int) := (((ch r).take i).filter fun c => decide (c.1 = v) && decide (c.2 ≤ kv r) && !raw).map fun c => (((r + 1 : Nat) : Int), c.2)
theorem qPart_all (ch : Nat → List (Int × Int)) (kv : Nat → Int) (v : Int) (raw : Bool) (r : Nat) : qPart ch kv v raw r (ch r).length = qRow ch kv v raw r := by unfold qPart qRow; rw [List.take_length]
theorem qPart_next {ch : Nat → List (Int × Int)} {kv : Nat → Int} {v : Int} {raw : Bool} {r i : Nat} {c : Int × Int} (hc : (ch r)[i]? = some c) : qPart ch kv v raw r (i + 1) = qPart ch kv v raw r i ++ (if (decide (c.1 = v) && decide (c.2 ≤ kv r) && !raw) = true then [(((r + 1 : Nat) : Int), c.2)] else []) := by
 unfold qPart;rw [filt_take hc, List.map_append];congr 1;split <;> rfl
theorem qPart_len (ch : Nat → List (Int × Int)) (kv : Nat → Int) (v : Int) (raw : Bool) (r i : Nat) : (qPart ch kv v raw r i).length ≤ (ch r).length := by
 unfold qPart;rw [List.length_map];exact qcJ
section
variable (f : Frag) (F : List HP)
set_option maxRecDepth 20000 in
set_option maxHeartbeats 3200000 in
theorem q15_fn {fl : Frag} (hfl : Le fl f) {wb kb lb : Nat} {l : Lgs} {T : Nat} (hL : LI l T) (hT : T ≤ 1000) {ap : Option Addr} {m ac n o : Nat} (hnn : l.n = n) (ho : o < n) {kv : Nat → Nat → Int} {x : A15} (hx : x.Has f) (hq20 : x.q.length ≤ 20) (v : Int) :
  Fn Tryz.prog 113 [.pointer (some ⟨wb, 0, none⟩), .int .i64 ((o + 1 : Nat) : Int), .agg x.vals.toArray, .int .u64 v] f (logsH fl lb l :: row wb 37 (w15C kb n ap m ac lb) :: row kb 39 (kRow n kv) :: F)
   (RetE (fun i : Option Addr × Nat => .slice i.1 (x.qs n l.ch (kv o) v).length i.2) f (fun i => slc i.1 (x.qs n l.ch (kv o) v).length i.2 69 2 ((x.qs n l.ch (kv o) v).flatMap pairV) :: logsH fl lb l :: row wb 37 (w15C kb n ap m ac lb) :: row kb 39 (kRow n kv) :: F)) := by
 refine Fn.unpack fun i0 hi => ?_;obtain ⟨V, vp, vc, pp, pc, cp, cc, pb, cs⟩ := i0;have hn := hL.n3;obtain ⟨acc, hacc⟩ : ∃ acc : Nat → List (Int × Int), acc = qAcc (qRow l.ch (kv o) v x.raw) ((n - 1) / 2) := ⟨_, rfl⟩
 have hal : ∀ k, (acc k).length ≤ (n - 1) / 2 + T := fun k => by rw [hacc]; exact qAcc_len (fun r => Nat.le_trans (qRow_len _ _ _ _ r) (hL.cl r)) k
 show Fn _ _ _ f (row lb 86 (lgC l.n l.known vp V.length vc pp pc cp cc) :: slc vp V.length vc 129 4 (V.flatMap VV.vals) :: lst (V.map VV.own) :: fam (fun r => pstH (pb r) (l.past r)) l.n :: slc cp l.n cc 171 1 (chRow l cs) :: fam (chFam l cs) l.n :: row wb 37 (w15C kb n ap m ac lb) :: row kb 39 (kRow n kv) :: F) _;refine Fn.e4 Tryz.func113 Tryz.ntmps113 fun base => ?_;refine qcZ fun xb => ?_;refine gS ?_;refine H.slc0 69 2 ?_;refine qcO ?_;refine qdp ?_;refine H.pf (x := slc none _ _ _ _ _) ?_;refine qeT ?_
 refine H.Ar (ι := Nat × Option Addr × Nat) (fun s => [(11, .int .i64 ((s.1 + 1 : Nat) : Int)), (9, .slice s.2.1 (acc s.1).length s.2.2), (10, .int .i64 (n : Int)), (0, .pointer (some ⟨wb, 0, none⟩)), (1, .int .i64 ((o + 1 : Nat) : Int)), (3, .int .u64 v), (6, .pointer (some ⟨xb, 0, none⟩))]) (fun _ => f)
  (fun s => row xb 99 x.vals :: slc s.2.1 (acc s.1).length s.2.2 69 2 ((acc s.1).flatMap pairV) :: row wb 37 (w15C kb n ap m ac lb) :: row kb 39 (kRow n kv) :: row lb 86 (lgC l.n l.known vp V.length vc pp pc cp cc) :: slc vp V.length vc 129 4 (V.flatMap VV.vals) :: lst (V.map VV.own) :: fam (fun r => pstH (pb r) (l.past r)) l.n :: slc cp l.n cc 171 1 (chRow l cs) :: fam (chFam l cs) l.n :: F)
  (fun s => s.1 ≤ n) (fun s => n - s.1) (0, none, 0) (Nat.zero_le _) ⟨rfl, by rw [hacc]; rfl, rfl, rfl, rfl, rfl, rfl, trivial⟩ rfl (by rw [hacc]; rfl) fun s hs => ?_
 obtain ⟨r, qp, qc⟩ := s;have hrn : r ≤ n := hs;have halr := hal r
 show H _ _ _ [(11, .int .i64 ((r + 1 : Nat) : Int)), (9, .slice qp (acc r).length qc), _, _, _, _, _] f (_ :: slc qp (acc r).length qc _ 2 ((acc r).flatMap pairV) :: _ :: _ :: _ :: _ :: _ :: _ :: _ :: _ :: F) _
 have hquo : (((n : Int) - 1).tdiv 2) = (((n - 1) / 2 : Nat) : Int) := by
  rw [show ((n : Int) - 1) = ((n - 1 : Nat) : Int) by omega];exact (Int.ofNat_tdiv (n - 1) 2).symm
 by_cases hgo : r < n ∧ (acc r).length ≤ (n - 1) / 2
 ·obtain ⟨hr, hlen⟩ := hgo; have hrl : r < l.n := by omega
  have hcl := hL.cl r; have hr11 : r < 11 := by omega
  refine H.Bl (p := cp) (n0 := l.n) (c := cc) (T := 171) (sz := 1) (xs := chRow l cs) (by repeat constructor) (by omega) fun cb hcb => ?_;have hCd : ∀ {A A' : List HP}, At A (slc cp l.n cc 171 1 (chRow l cs)) A' (slc cp l.n cc 171 1 (chRow l cs)) → Rd f A cb 0 (chRow l cs) := fun {A A'} h => Rd.ofSlc (n := l.n) (c := cc) (T := 171) (sz := 1) (by rw [← hcb]; exact h) (by omega)
  have hsucc : acc (r + 1) = acc r ++ qRow l.ch (kv o) v x.raw r := by
   rw [hacc] at hlen ⊢;show (if _ then _ else _) = _;rw [if_pos hlen]
  refine gW ?_;refine H.quo (z := (((n - 1) / 2 : Nat) : Int)) rfl rfl rfl (by decide) (by rw [hquo, wr_i64 (by omega)]) rfl ?_;refine gY ?_;refine H.Aq (b := cb) (off := 0) (i := r) rfl (by rw [← hcb]; rfl) rfl (by omega) hrl rfl ?_;refine H.Ab rfl rfl rfl (by rw [Nat.zero_add, Nat.mul_one]; exact Rd1.at0 (hCd (by repeat constructor)) (rngV_get _ hrl)) rfl ?_;refine gT ?_;refine qga ?_;refine H.Cm hrl ?_;refine H.pf (x := fam (updF _ _ _) _) ?_;refine qdE ?_;refine qen ?_;refine qdp ?_;refine H.pf (x := slc qp _ qc _ _ _) ?_;refine H.pf (x := chFam l cs r) ?_;refine qeT ?_;obtain ⟨pt, hpt⟩ : ∃ pt : Nat → List (Int × Int), pt = fun i => acc r ++ qPart l.ch (kv o) v x.raw r i := ⟨_, rfl⟩; have hp0 : pt 0 = acc r := by rw [hpt]; show acc r ++ [] = _; rw [List.append_nil]
  have hpl : ∀ i, (pt i).length ≤ (n - 1) / 2 + T + T := fun i => by
   rw [hpt];show (acc r ++ _).length ≤ _;rw [List.length_append]
   have := qPart_len l.ch (kv o) v x.raw r i;omega
  refine H.Ar (ι := Nat × Option Addr × Nat) (fun s => [(13, .int .i64 (s.1 : Int)), (12, .slice (cs r).1 (l.ch r).length (cs r).2), (9, .slice s.2.1 (pt s.1).length s.2.2), (11, .int .i64 ((r + 1 : Nat) : Int)), (10, .int .i64 (n : Int)), (0, .pointer (some ⟨wb, 0, none⟩)), (1, .int .i64 ((o + 1 : Nat) : Int)), (3, .int .u64 v), (6, .pointer (some ⟨xb, 0, none⟩))]) (fun _ => f)
   (fun s => row xb 99 x.vals :: chFam l cs r :: slc s.2.1 (pt s.1).length s.2.2 69 2 ((pt s.1).flatMap pairV) :: row wb 37 (w15C kb n ap m ac lb) :: row kb 39 (kRow n kv) :: row lb 86 (lgC l.n l.known vp V.length vc pp pc cp cc) :: slc vp V.length vc 129 4 (V.flatMap VV.vals) :: lst (V.map VV.own) :: fam (fun r => pstH (pb r) (l.past r)) l.n :: slc cp l.n cc 171 1 (chRow l cs) :: fam (updF (chFam l cs) r emp) l.n :: F)
   (fun s => s.1 ≤ (l.ch r).length) (fun s => (l.ch r).length - s.1) (0, qp, qc) (Nat.zero_le _) ⟨rfl, rfl, by rw [hp0]; rfl, rfl, rfl, rfl, rfl, rfl, rfl, trivial⟩ rfl (by rw [hp0]) fun s hs => ?_
  obtain ⟨i, qp, qc⟩ := s;have hi2 : i ≤ (l.ch r).length := hs;have hpli := hpl i
  show H _ _ _ [(13, .int .i64 (i : Int)), _, (9, .slice qp (pt i).length qc), _, _, _, _, _, _] f (_ :: _ :: slc qp (pt i).length qc _ 2 ((pt i).flatMap pairV) :: _ :: _ :: _ :: _ :: _ :: _ :: _ :: _ :: F) _;by_cases hlt : i < (l.ch r).length
  ·obtain ⟨y, hy⟩ : ∃ y, (l.ch r)[i]? = some y := ⟨_, List.getElem?_eq_getElem hlt⟩;refine qgC fun sb hp => ?_
   have rd : ∀ {G0 : HP} {G : List HP}, Rd f (G0 :: chFam l cs r :: G) sb (0 + i * 2) (chV y) := fun {G0 G} => by
    rw [Nat.zero_add]; exact Rd.slcElem (vals := chV) (xs := l.ch r) (n := (l.ch r).length) (c := (cs r).2) (T := 173) chV_len (by decide) (by rw [← hp]; exact .there _ (.here _ _ _)) hy
   have hnx : pt (i + 1) = pt i ++ (if (decide (y.1 = v) && decide (y.2 ≤ kv o r) && !x.raw) = true then [(((r + 1 : Nat) : Int), y.2)] else []) := by
    rw [hpt];show acc r ++ qPart _ _ _ _ _ (i + 1) = acc r ++ qPart _ _ _ _ _ i ++ _;rw [qPart_next hy, List.append_assoc]
   refine gF ?_;refine H.dq ?_;refine gB ?_;refine HQ.Aq (b := sb) (off := 0) (i := i) rfl (by rw [← hp]; rfl) rfl rfl hlt rfl ?_;refine gQ ?_;refine HQ.Ab rfl rfl rfl (Rd1.of (i := 0) rd rfl) rfl ?_;refine gU ?_;by_cases h1 : y.1 = v
   ·skip;refine gU ?_;refine HQ.Aq (b := sb) (off := 0) (i := i) rfl (by rw [← hp]; rfl) rfl rfl hlt rfl ?_;refine gQ ?_;refine HQ.Ab rfl rfl rfl (Rd1.of (i := 1) rd rfl) rfl ?_;refine gO ?_;refine HQ.Aq (b := kb) (off := 0) (i := o) rfl rfl rfl (by omega) ho rfl ?_;refine HQ.Az (i := r) rfl rfl rfl (by omega) hr11 rfl ?_;refine HQ.Ab rfl rfl rfl (by rw [Nat.zero_add, Nat.mul_one]; exact Rd1.of (Rd.kRow (Rd.ofRow (by repeat constructor)) ho) (zbc (kv o) hr11)) rfl ?_;refine gU ?_;by_cases h2 : y.2 ≤ kv o r
    ·by_cases hraw : x.raw = true
     ·have hr1 : (!x.raw) = false := by rw [hraw]; rfl
      rw [hraw, Bool.not_true, Bool.and_false, if_neg (by decide), List.append_nil] at hnx;refine gK ?_;refine gW ?_;exact qaq
     ·have hraw : x.raw = false := by
       cases e : x.raw with
       | true => exact absurd e hraw
       | false => rfl
      have hr1 : (!x.raw) = true := by rw [hraw]; rfl
      rw [hraw, decide_eq_true h1, decide_eq_true h2, if_pos (by decide)] at hnx;refine gK ?_;refine gc ?_;refine H.Aq (b := sb) (off := 0) (i := i) rfl (by rw [← hp]; rfl) rfl rfl hlt rfl ?_;refine gI ?_;refine H.Ab rfl rfl rfl (Rd1.of (i := 1) rd rfl) rfl ?_;refine gN ?_;refine H.Be (out := pairV (((r + 1 : Nat) : Int), y.2)) rfl rfl rfl rfl (by decide) (by decide) rfl rfl fun eb => ?_;refine H.Bi (sz := 2) (p := qp) (n0 := (pt i).length) (c := qc) (xs := (pt i).flatMap pairV) (m := 1) (news := pairV (((r + 1 : Nat) : Int), y.2)) rfl rfl rfl rfl rfl (fun p' c' => (by repeat constructor)) (Src.slice (Rd.ofRow (by repeat constructor)) rfl) (zaa rfl) rfl (by omega) (by omega) fun p2 c2 => ?_;refine gV ?_;refine H.pd (x := row eb _ _) ?_;refine H.Ah (i + 1, p2, c2) (by show i + 1 ≤ (l.ch r).length; omega) (by show (l.ch r).length - (i + 1) < (l.ch r).length - i; omega) ⟨rfl, rfl, ?_, rfl, rfl, rfl, rfl, rfl, rfl, trivial⟩ rfl ?_
      ·show some (Value.slice p2 ((pt i).length + 1) c2) = some (Value.slice p2 (pt (i + 1)).length c2);rw [hnx, List.length_append];rfl
      ·show _ :: _ :: slc p2 ((pt i).length + 1) c2 _ 2 _ :: _ = _ :: _ :: slc p2 (pt (i + 1)).length c2 _ 2 ((pt (i + 1)).flatMap pairV) :: _;rw [hnx, List.length_append, List.flatMap_append];simp
    ·rw [decide_eq_false h2, Bool.and_false, Bool.false_and, if_neg (by decide), List.append_nil] at hnx;refine gL ?_;refine gV ?_;exact qaq
   ·rw [decide_eq_false h1, Bool.false_and, Bool.false_and, if_neg (by decide), List.append_nil] at hnx;refine gL ?_;refine gV ?_;exact qaq
  ·have e : i = (l.ch r).length := by omega
   subst e; have hpe : pt (l.ch r).length = acc (r + 1) := by rw [hsucc, hpt, ← qPart_all]
   rw [hpe];refine gZ ?_;refine H.pf (x := fam (updF _ _ _) _) ?_;refine H.pf (x := chFam l cs r) ?_;refine H.Ct (g := chFam l cs) hrl ?_;refine qcO ?_;refine qdp ?_;refine H.pf (x := slc qp _ qc _ _ _) ?_;refine qeT ?_;exact H.Ah (r + 1, qp, qc) (by show r + 1 ≤ n; omega) (by show n - (r + 1) < n - r; omega) ⟨rfl, rfl, rfl, rfl, rfl, rfl, rfl, trivial⟩ rfl rfl
 ·have hfin : acc n = acc r := by
   by_cases e : r = n
   ·rw [e]
   ·rw [hacc];exact qAcc_stop hrn (by rw [← hacc]; omega)
  have hqe : qAcc (qRow l.ch (kv o) v x.raw) ((n - 1) / 2) n = acc r := by rw [← hfin, hacc]
  by_cases hr : r < n
  ·have hlen : (n - 1) / 2 < (acc r).length := by omega
   refine gW ?_;refine H.quo (z := (((n - 1) / 2 : Nat) : Int)) rfl rfl rfl (by decide) (by rw [hquo, wr_i64 (by omega)]) rfl ?_; have h0 : 0 < (acc r).length := by omega
   exact qaB
  ·by_cases h0 : 0 < (acc r).length
   ·skip;exact qaB
   ·by_cases hq0 : x.q.length = 0
    ·skip;refine gM ?_;refine H.pd (x := row xb _ _) ?_;refine qcO ?_;refine H.imp (zah ⟨V, vp, vc, pp, pc, cp, cc, pb, cs⟩ hi) ?_;refine H.pf (x := slc qp _ qc _ _ _) ?_; have hqs : x.qs n l.ch (kv o) v = acc r := by unfold A15.qs; rw [if_pos (.inr hq0), hqe]
     rw [hqs];exact H.Ac rfl rfl (fun _ h => h) ⟨(qp, qc), rfl, rfl, rfl⟩
    ·have hnil : acc r = [] := List.eq_nil_of_length_eq_zero (by omega)
     have hqs : x.qs n l.ch (kv o) v = qNum x.q (if n ≤ x.q.length then n else x.q.length) := by
      unfold A15.qs;rw [hqe, if_neg (by rintro (h | h); exact h0 h; exact hq0 h)]
     rw [hqs, hnil];clear hqs hqe hfin;refine gM ?_;rcases hx with e0 | ⟨qb, qoff, qcs, qT, qfr, hqp, hqfb, hqcs⟩
     ·rw [e0] at hq0; exact absurd rfl hq0
     ·have hrdo : ∀ A, Rd f A qb qoff (bytesV x.q) := fun A => Rd.imm hqfb fun j hj => by rw [zad] at hj; exact hqcs j hj
      refine H.Ar (ι := Nat × Option Addr × Nat) (fun s => [(14, .int .i64 ((s.1 + 1 : Nat) : Int)), (9, .slice s.2.1 s.1 s.2.2), (10, .int .i64 (n : Int)), (6, .pointer (some ⟨xb, 0, none⟩))]) (fun _ => f)
       (fun s => row xb 99 x.vals :: slc s.2.1 s.1 s.2.2 69 2 ((qNum x.q s.1).flatMap pairV) :: row wb 37 (w15C kb n ap m ac lb) :: row kb 39 (kRow n kv) :: row lb 86 (lgC l.n l.known vp V.length vc pp pc cp cc) :: slc vp V.length vc 129 4 (V.flatMap VV.vals) :: lst (V.map VV.own) :: fam (fun r => pstH (pb r) (l.past r)) l.n :: slc cp l.n cc 171 1 (chRow l cs) :: fam (chFam l cs) l.n :: F)
       (fun s => s.1 ≤ n ∧ s.1 ≤ x.q.length) (fun s => n - s.1) (0, qp, qc) ⟨Nat.zero_le _, Nat.zero_le _⟩ ⟨rfl, rfl, rfl, rfl, trivial⟩ rfl rfl fun s hs => ?_
      obtain ⟨j, qp, qc⟩ := s;obtain ⟨hj1, hj2⟩ : j ≤ n ∧ j ≤ x.q.length := hs;show H _ _ _ [(14, .int .i64 ((j + 1 : Nat) : Int)), (9, .slice qp j qc), _, _] f (_ :: slc qp j qc _ 2 ((qNum x.q j).flatMap pairV) :: _ :: _ :: _ :: _ :: _ :: _ :: _ :: _ :: F) _;by_cases hgo : j < n ∧ j < x.q.length
      ·obtain ⟨hjn, hjq⟩ := hgo;obtain ⟨w8, hw8⟩ : ∃ w8, x.q[j]? = some w8 := ⟨_, List.getElem?_eq_getElem hjq⟩; have hby : (bytesV x.q)[j]? = some (.int .u8 (w8.toNat : Nat)) := by unfold bytesV; rw [List.getElem?_map, hw8]; rfl
       have hw8l := w8.toNat_lt; have hm8 : ((w8.toNat % 8 : Nat) : Int) ≤ 7 := by omega
       have hnx : qNum x.q (j + 1) = qNum x.q j ++ [(((j + 1 : Nat) : Int), 1 + ((w8.toNat % 8 : Nat) : Int))] := by
        show qNum x.q j ++ [(_, 1 + (((x.q.getD j 0).toNat % 8 : Nat) : Int))] = _;rw [List.getD_eq_getElem?_getD, hw8];rfl
       refine gY ?_;refine H.index1 (b := qb) (off := qoff) (i := j) rfl (by rw [← hqp]; rfl) rfl (by omega) hjq rfl ?_;refine H.Ab rfl rfl rfl (Rd1.of (hrdo _) hby) rfl ?_;refine H.rem (z := ((w8.toNat % 8 : Nat) : Int)) rfl rfl rfl (by decide) (zal (b := 8) rfl) rfl ?_;refine gW ?_;refine H.Be (out := pairV (((j + 1 : Nat) : Int), 1 + ((w8.toNat % 8 : Nat) : Int))) rfl rfl rfl rfl (by decide) (by decide) rfl rfl fun eb => ?_;refine H.Bi (sz := 2) (p := qp) (n0 := j) (c := qc) (xs := (qNum x.q j).flatMap pairV) (m := 1) (news := pairV (((j + 1 : Nat) : Int), 1 + ((w8.toNat % 8 : Nat) : Int))) rfl rfl rfl rfl rfl (fun p' c' => (by repeat constructor)) (Src.slice (Rd.ofRow (by repeat constructor)) rfl) (zaa rfl) rfl (by omega) (by omega) fun p2 c2 => ?_;refine gV ?_;refine H.pd (x := row eb _ _) ?_;refine H.Ah (j + 1, p2, c2) ⟨by show j + 1 ≤ n; omega, by show j + 1 ≤ x.q.length; omega⟩ (by show n - (j + 1) < n - j; omega) ⟨rfl, rfl, rfl, rfl, trivial⟩ rfl ?_;show _ :: slc p2 (j + 1) c2 _ 2 _ :: _ = _ :: slc p2 (j + 1) c2 _ 2 ((qNum x.q (j + 1)).flatMap pairV) :: _;rw [hnx, List.flatMap_append];simp
      ·have hje : (if n ≤ x.q.length then n else x.q.length) = j := by split <;> omega
       rw [hje, qNum_len];by_cases hjn : j < n
       ·skip;refine gY ?_;exact qaD
       ·skip;refine gM ?_;exact qaD
end
def bodW (k : UInt8) (v kk : Int) : Bod := ⟨k, v, kk, Req.zero, [], noTag⟩
section
variable (f : Frag) (F : List HP)
set_option maxRecDepth 20000 in
set_option maxHeartbeats 3200000 in
theorem body15_fn {fl : Frag} (hfl : Le fl f) {wb kb lb : Nat} {W : W15} {n T : Nat} (hW : WI n W T) (hT : T ≤ 1000) {ap : Option Addr} {m ac o : Nat} (ho : o < n) {x : A15} (hx : x.Has f) (hq20 : x.q.length ≤ 20) :
  Fn Tryz.prog 78 [.pointer (some ⟨wb, 0, none⟩), .int .i64 ((o + 1 : Nat) : Int), .agg x.vals.toArray] f (logsH fl lb W.l :: row wb 37 (w15C kb n ap m ac lb) :: row kb 39 (kRow n W.w.kv) :: F)
   (BodP f (logsH fl lb W.l :: row wb 37 (w15C kb n ap m ac lb) :: row kb 39 (kRow n W.w.kv) :: F) (x.bod W n o)) := by
 have hn := hW.l.n3;have hnn := hW.n
 have hol : o < W.l.n := by omega
 have hwf := hW.l.wf o hol;have hg0 := hwf.g0
 have hg1 := hW.l.gb o hol; have hvm : ((x.view.toNat % 6 : Nat) : Int) ≤ 5 := by omega
 have hv2 : ((x.view.toNat % 2 : Nat) : Int) ≤ 1 := by omega
 have hkm : ((x.k.toNat % 6 : Nat) : Int) ≤ 5 := by omega
 have hgr := fun G => great_fn f G hfl (wb := wb) (kb := kb) (lb := lb) (l := W.l) hW.l (ap := ap) (m := m) (ac := ac) (n := n) hol; have hcases : x.kind.toNat % 6 = 0 ∨ x.kind.toNat % 6 = 1 ∨ x.kind.toNat % 6 = 2 ∨ x.kind.toNat % 6 = 3 ∨ x.kind.toNat % 6 = 4 ∨ x.kind.toNat % 6 = 5 := by omega
 unfold A15.bod; rcases hcases with h | h | h | h | h | h
 ·have hk6 : ((x.kind.toNat : Nat) : Int).tmod 6 = 0 := zal (b := 6) h;rw [h]
  have hask := fun G => ask_fn f G x;rcases Bool.eq_false_or_eq_true x.raw with hraw | hraw
  ·have hr1 : (!x.raw) = false := by rw [hraw]; rfl
   have hb : x.bodK W n o 0 = (⟨1, ((x.view.toNat % 6 : Nat) : Int), 0, x.req, [], noTag⟩ : Bod) := by simp [A15.bodK, hraw, Bod.zero]
   rw [hb];generalize x.req = rq at hask ⊢;refine qeS fun base => ?_;refine qcZ fun xb => ?_;refine qdg fun ob => ?_;refine qeF fun bb => ?_;refine qdu ?_;refine H.Af (ls := (⟨1, ((x.view.toNat % 6 : Nat) : Int), 0, rq, [], noTag⟩ : Bod).vals none 0) rfl rfl rfl (Rd.ofRow (.here _ _ _)) rfl rfl ?_;refine H.Aj (ls := (Bod.zero 0).vals none 0) (vs := (⟨1, ((x.view.toNat % 6 : Nat) : Int), 0, rq, [], noTag⟩ : Bod).vals none 0) (ls' := (⟨1, ((x.view.toNat % 6 : Nat) : Int), 0, rq, [], noTag⟩ : Bod).vals none 0) rfl rfl rfl (zaa rfl) rfl rfl (Nat.le_refl 76) (by repeat constructor) ?_;refine qcT ?_;exact H.Bh (ls := (⟨1, ((x.view.toNat % 6 : Nat) : Int), 0, rq, [], noTag⟩ : Bod).vals none 0) rfl rfl rfl (Rd.ofRow (.here _ _ _)) rfl (fun _ s => s.drop (.here _ _)) ⟨nil0, none, 0, rfl, QAt.nil _ _, Dj.nil _, (un_nil _).symm, rfl⟩
  ·have hr1 : (!x.raw) = true := by rw [hraw]; rfl
   have hb : x.bodK W n o 0 = (⟨1, (W.l.past o).g, 0, x.req, [], noTag⟩ : Bod) := by simp [A15.bodK, hraw, Bod.zero]
   rw [hb];generalize x.req = rq at hask ⊢;refine qeS fun base => ?_;refine qcZ fun xb => ?_;refine qdg fun ob => ?_;refine qeF fun bb => ?_;refine qdu ?_;refine H.Af (ls := (⟨1, (W.l.past o).g, 0, rq, [], noTag⟩ : Bod).vals none 0) rfl rfl rfl (Rd.ofRow (.here _ _ _)) rfl rfl ?_;refine H.Aj (ls := (Bod.zero 0).vals none 0) (vs := (⟨1, (W.l.past o).g, 0, rq, [], noTag⟩ : Bod).vals none 0) (ls' := (⟨1, (W.l.past o).g, 0, rq, [], noTag⟩ : Bod).vals none 0) rfl rfl rfl (zaa rfl) rfl rfl (Nat.le_refl 76) (by repeat constructor) ?_;refine qcT ?_;exact H.Bh (ls := (⟨1, (W.l.past o).g, 0, rq, [], noTag⟩ : Bod).vals none 0) rfl rfl rfl (Rd.ofRow (.here _ _ _)) rfl (fun _ s => s.drop (.here _ _)) ⟨nil0, none, 0, rfl, QAt.nil _ _, Dj.nil _, (un_nil _).symm, rfl⟩
 ·have hk6 : ((x.kind.toNat : Nat) : Int).tmod 6 = 1 := zal (b := 6) h;rw [h]
  rcases Bool.eq_false_or_eq_true x.raw with hraw | hraw
  ·have hr1 : (!x.raw) = false := by rw [hraw]; rfl
   have hb : x.bodK W n o 1 = (⟨2, ((x.view.toNat % 6 : Nat) : Int), (1 + ((x.k.toNat % 6 : Nat) : Int)), Req.zero, [], noTag⟩ : Bod) := by simp [A15.bodK, hraw, Bod.zero]
   rw [hb];refine qeS fun base => ?_;refine qcZ fun xb => ?_;refine qdg fun ob => ?_;refine qeA fun bb => ?_;refine qev ?_;refine H.Af (ls := (⟨2, ((x.view.toNat % 6 : Nat) : Int), (1 + ((x.k.toNat % 6 : Nat) : Int)), Req.zero, [], noTag⟩ : Bod).vals none 0) rfl rfl rfl (Rd.ofRow (.here _ _ _)) rfl rfl ?_;refine H.Aj (ls := (Bod.zero 0).vals none 0) (vs := (⟨2, ((x.view.toNat % 6 : Nat) : Int), (1 + ((x.k.toNat % 6 : Nat) : Int)), Req.zero, [], noTag⟩ : Bod).vals none 0) (ls' := (⟨2, ((x.view.toNat % 6 : Nat) : Int), (1 + ((x.k.toNat % 6 : Nat) : Int)), Req.zero, [], noTag⟩ : Bod).vals none 0) rfl rfl rfl (zaa rfl) rfl rfl (Nat.le_refl 76) (by repeat constructor) ?_;refine qcT ?_;exact H.Bh (ls := (⟨2, ((x.view.toNat % 6 : Nat) : Int), (1 + ((x.k.toNat % 6 : Nat) : Int)), Req.zero, [], noTag⟩ : Bod).vals none 0) rfl rfl rfl (Rd.ofRow (.here _ _ _)) rfl (fun _ s => s.drop (.here _ _)) ⟨nil0, none, 0, rfl, QAt.nil _ _, Dj.nil _, (un_nil _).symm, rfl⟩
  ·have hr1 : (!x.raw) = true := by rw [hraw]; rfl
   have hb : x.bodK W n o 1 = (⟨2, (W.l.past o).g, votedZ (W.l.past o) (W.l.past o).g + 1, Req.zero, [], noTag⟩ : Bod) := by simp [A15.bodK, hraw, Bod.zero]
   rw [hb];have hvz := votedZ_le hwf (by omega) (W.l.past o).g;have hvt : ∀ (b : Nat) G, Fn Tryz.prog 61 [.pointer (some ⟨b, 0, none⟩), .int .u64 (W.l.past o).g] f (pstH b (W.l.past o) :: G) (Ret (.tuple #[.int .i64 (votedZ (W.l.past o) (W.l.past o).g), .bool (PM.voted (W.l.past o).all (W.l.past o).g).isSome]) f (pstH b (W.l.past o) :: G)) := fun b G => pst_voted f G b (W.l.past o) (by have := hW.l.il o hol; omega) _
   generalize votedZ (W.l.past o) (W.l.past o).g = vz at hvt hvz ⊢;refine qeS fun base => ?_;refine qcZ fun xb => ?_;refine qdg fun ob => ?_;refine qeA fun bb => ?_;refine qev ?_;refine qft ?_;refine H.unpack fun i1 hi1 => ?_;obtain ⟨V, vp, vc, pp, pc, cp, cc, pb, cs⟩ := i1;have hiF := hi1.mono hfl;refine qeU ?_
   obtain ⟨pbb, poff, hpp0, rdp0⟩ := hiF.past (by show 0 < W.l.n; omega);have hpp : pp = some ⟨pbb, poff, none⟩ := hpp0;have rdp : ∀ {A : List HP} {r : Nat}, r < W.l.n → Rd1 f A pbb (poff + r) (.pointer (some ⟨pb r, 0, none⟩)) := fun {A r} hr => rdp0 (Le.refl f) hr
   clear hpp0 rdp0;refine qdh ?_;refine gG ?_;refine H.Aq (b := pbb) (off := poff) (i := o) rfl (by rw [← hpp]; rfl) rfl (by omega) hol rfl ?_;refine H.Ab rfl rfl rfl (by rw [Nat.mul_one]; exact rdp hol) rfl ?_;refine gH ?_;refine qep ?_;refine H.Cm hol ?_;refine H.Ad rfl rfl rfl (hvt _ _) ?_;refine H.Ct (g := fun r => pstH (pb r) (W.l.past r)) hol ?_;refine qfJ ?_;refine gc ?_;refine H.Af (ls := (⟨2, (W.l.past o).g, vz + 1, Req.zero, [], noTag⟩ : Bod).vals none 0) rfl rfl rfl (Rd.ofRow (.here _ _ _)) rfl rfl ?_;refine H.Aj (ls := (Bod.zero 0).vals none 0) (vs := (⟨2, (W.l.past o).g, vz + 1, Req.zero, [], noTag⟩ : Bod).vals none 0) (ls' := (⟨2, (W.l.past o).g, vz + 1, Req.zero, [], noTag⟩ : Bod).vals none 0) rfl rfl rfl (zaa rfl) rfl rfl (Nat.le_refl 76) (by repeat constructor) ?_;refine qcT ?_;exact H.Bh (ls := (⟨2, (W.l.past o).g, vz + 1, Req.zero, [], noTag⟩ : Bod).vals none 0) rfl rfl rfl (Rd.ofRow (.here _ _ _)) rfl (fun _ s => s.drop (.here _ _)) ⟨nil0, none, 0, rfl, QAt.nil _ _, Dj.nil _, (un_nil _).symm, rfl⟩
 ·have hk6 : ((x.kind.toNat : Nat) : Int).tmod 6 = 2 := zal (b := 6) h;rw [h]
  rcases Bool.eq_false_or_eq_true x.raw with hraw | hraw
  ·have hr1 : (!x.raw) = false := by rw [hraw]; rfl
   have hb : x.bodK W n o 2 = (⟨3, fix1 (((x.view.toNat % 6 : Nat) : Int)), 0, Req.zero, [], noTag⟩ : Bod) := by simp [A15.bodK, hraw, Bod.zero]
   rw [hb];refine qeS fun base => ?_;refine qcZ fun xb => ?_;refine qdg fun ob => ?_;refine qex fun bb => ?_;refine qeG ?_;by_cases hz : ((x.view.toNat % 6 : Nat) : Int) = 0
   ·rw [show fix1 (((x.view.toNat % 6 : Nat) : Int)) = 1 from if_pos hz];refine gc ?_;refine H.Af (ls := (⟨3, 1, 0, Req.zero, [], noTag⟩ : Bod).vals none 0) rfl rfl rfl (Rd.ofRow (.here _ _ _)) rfl rfl ?_;refine H.Aj (ls := (Bod.zero 0).vals none 0) (vs := (⟨3, 1, 0, Req.zero, [], noTag⟩ : Bod).vals none 0) (ls' := (⟨3, 1, 0, Req.zero, [], noTag⟩ : Bod).vals none 0) rfl rfl rfl (zaa rfl) rfl rfl (Nat.le_refl 76) (by repeat constructor) ?_;refine qcT ?_;exact H.Bh (ls := (⟨3, 1, 0, Req.zero, [], noTag⟩ : Bod).vals none 0) rfl rfl rfl (Rd.ofRow (.here _ _ _)) rfl (fun _ s => s.drop (.here _ _)) ⟨nil0, none, 0, rfl, QAt.nil _ _, Dj.nil _, (un_nil _).symm, rfl⟩
   ·rw [show fix1 (((x.view.toNat % 6 : Nat) : Int)) = ((x.view.toNat % 6 : Nat) : Int) from if_neg hz];refine gc ?_;refine H.Af (ls := (⟨3, ((x.view.toNat % 6 : Nat) : Int), 0, Req.zero, [], noTag⟩ : Bod).vals none 0) rfl rfl rfl (Rd.ofRow (.here _ _ _)) rfl rfl ?_;refine H.Aj (ls := (Bod.zero 0).vals none 0) (vs := (⟨3, ((x.view.toNat % 6 : Nat) : Int), 0, Req.zero, [], noTag⟩ : Bod).vals none 0) (ls' := (⟨3, ((x.view.toNat % 6 : Nat) : Int), 0, Req.zero, [], noTag⟩ : Bod).vals none 0) rfl rfl rfl (zaa rfl) rfl rfl (Nat.le_refl 76) (by repeat constructor) ?_;refine qcT ?_;exact H.Bh (ls := (⟨3, ((x.view.toNat % 6 : Nat) : Int), 0, Req.zero, [], noTag⟩ : Bod).vals none 0) rfl rfl rfl (Rd.ofRow (.here _ _ _)) rfl (fun _ s => s.drop (.here _ _)) ⟨nil0, none, 0, rfl, QAt.nil _ _, Dj.nil _, (un_nil _).symm, rfl⟩
  ·have hr1 : (!x.raw) = true := by rw [hraw]; rfl
   have hb : x.bodK W n o 2 = (⟨3, fix1 ((W.l.past o).g + 1 + ((x.view.toNat % 2 : Nat) : Int)), 0, Req.zero, [], noTag⟩ : Bod) := by simp [A15.bodK, hraw, Bod.zero]
   rw [hb];rw [show fix1 ((W.l.past o).g + 1 + ((x.view.toNat % 2 : Nat) : Int)) = (W.l.past o).g + 1 + ((x.view.toNat % 2 : Nat) : Int) from if_neg (by omega)];refine qeS fun base => ?_;refine qcZ fun xb => ?_;refine qdg fun ob => ?_;refine qex fun bb => ?_;refine qeG ?_;refine gc ?_;refine H.rem (z := ((x.view.toNat % 2 : Nat) : Int)) rfl rfl rfl (by decide) (zal (b := 2) rfl) rfl ?_;refine gY ?_;refine H.Af (ls := (⟨3, (W.l.past o).g + 1 + ((x.view.toNat % 2 : Nat) : Int), 0, Req.zero, [], noTag⟩ : Bod).vals none 0) rfl rfl rfl (Rd.ofRow (.here _ _ _)) rfl rfl ?_;refine H.Aj (ls := (Bod.zero 0).vals none 0) (vs := (⟨3, (W.l.past o).g + 1 + ((x.view.toNat % 2 : Nat) : Int), 0, Req.zero, [], noTag⟩ : Bod).vals none 0) (ls' := (⟨3, (W.l.past o).g + 1 + ((x.view.toNat % 2 : Nat) : Int), 0, Req.zero, [], noTag⟩ : Bod).vals none 0) rfl rfl rfl (zaa rfl) rfl rfl (Nat.le_refl 76) (by repeat constructor) ?_;refine qcT ?_;exact H.Bh (ls := (⟨3, (W.l.past o).g + 1 + ((x.view.toNat % 2 : Nat) : Int), 0, Req.zero, [], noTag⟩ : Bod).vals none 0) rfl rfl rfl (Rd.ofRow (.here _ _ _)) rfl (fun _ s => s.drop (.here _ _)) ⟨nil0, none, 0, rfl, QAt.nil _ _, Dj.nil _, (un_nil _).symm, rfl⟩
 ·have hk6 : ((x.kind.toNat : Nat) : Int).tmod 6 = 3 := zal (b := 6) h;rw [h]
  have hq15 := fun G => q15_fn f G hfl (wb := wb) (kb := kb) (lb := lb) (l := W.l) hW.l hT (ap := ap) (m := m) (ac := ac) hnn ho (kv := W.w.kv) hx hq20 (W.l.past o).g;rcases Bool.eq_false_or_eq_true x.raw with hraw | hraw
  ·have hr1 : (!x.raw) = false := by rw [hraw]; rfl
   have hb : x.bodK W n o 3 = (⟨4, fix1 (((x.view.toNat % 6 : Nat) : Int)), 0, Req.zero, x.qs n W.l.ch (W.w.kv o) (W.l.past o).g, noTag⟩ : Bod) := by simp [A15.bodK, hraw, Bod.zero]
   rw [hb];generalize x.qs n W.l.ch (W.w.kv o) (W.l.past o).g = Q at hq15 ⊢;refine qeS fun base => ?_;refine qcZ fun xb => ?_;refine qdg fun ob => ?_;refine qet fun bb => ?_;refine qdK fun qi => ?_;obtain ⟨qp, qc⟩ := qi;refine H.freeze (.here _ _) fun g hg hd => ?_;have hqa : QAt (un f g) qp Q := ListAt.mono (vals := pairV) (Le.right hd) (zbv (vals := pairV) (fun _ => rfl) hg);refine qeT ?_
   refine qdZ ?_;by_cases hz : ((x.view.toNat % 6 : Nat) : Int) = 0
   ·rw [show fix1 (((x.view.toNat % 6 : Nat) : Int)) = 1 from if_pos hz];exact qav
   ·rw [show fix1 (((x.view.toNat % 6 : Nat) : Int)) = ((x.view.toNat % 6 : Nat) : Int) from if_neg hz];refine gc ?_;refine H.Af (ls := (⟨4, ((x.view.toNat % 6 : Nat) : Int), 0, Req.zero, Q, noTag⟩ : Bod).vals qp qc) rfl rfl rfl (Rd.ofRow (.here _ _ _)) rfl rfl ?_;refine H.Aj (ls := (Bod.zero 0).vals none 0) (vs := (⟨4, ((x.view.toNat % 6 : Nat) : Int), 0, Req.zero, Q, noTag⟩ : Bod).vals qp qc) (ls' := (⟨4, ((x.view.toNat % 6 : Nat) : Int), 0, Req.zero, Q, noTag⟩ : Bod).vals qp qc) rfl rfl rfl (zaa rfl) rfl rfl (Nat.le_refl 76) (by repeat constructor) ?_;refine qcT ?_;exact H.Bh (ls := (⟨4, ((x.view.toNat % 6 : Nat) : Int), 0, Req.zero, Q, noTag⟩ : Bod).vals qp qc) rfl rfl rfl (Rd.ofRow (.here _ _ _)) rfl (fun _ s => s.drop (.here _ _)) ⟨g, qp, qc, rfl, hqa, hd, rfl, rfl⟩
  ·have hr1 : (!x.raw) = true := by rw [hraw]; rfl
   have hb : x.bodK W n o 3 = (⟨4, fix1 ((W.l.past o).g), 0, Req.zero, x.qs n W.l.ch (W.w.kv o) (W.l.past o).g, noTag⟩ : Bod) := by simp [A15.bodK, hraw, Bod.zero]
   rw [hb];generalize x.qs n W.l.ch (W.w.kv o) (W.l.past o).g = Q at hq15 ⊢;refine qeS fun base => ?_;refine qcZ fun xb => ?_;refine qdg fun ob => ?_;refine qet fun bb => ?_;refine qdK fun qi => ?_;obtain ⟨qp, qc⟩ := qi;refine H.freeze (.here _ _) fun g hg hd => ?_;have hqa : QAt (un f g) qp Q := ListAt.mono (vals := pairV) (Le.right hd) (zbv (vals := pairV) (fun _ => rfl) hg);refine qeT ?_
   refine qdZ ?_;by_cases hz : (W.l.past o).g = 0
   ·rw [show fix1 ((W.l.past o).g) = 1 from if_pos hz];exact qav
   ·rw [show fix1 ((W.l.past o).g) = (W.l.past o).g from if_neg hz];refine gc ?_;refine H.Af (ls := (⟨4, (W.l.past o).g, 0, Req.zero, Q, noTag⟩ : Bod).vals qp qc) rfl rfl rfl (Rd.ofRow (.here _ _ _)) rfl rfl ?_;refine H.Aj (ls := (Bod.zero 0).vals none 0) (vs := (⟨4, (W.l.past o).g, 0, Req.zero, Q, noTag⟩ : Bod).vals qp qc) (ls' := (⟨4, (W.l.past o).g, 0, Req.zero, Q, noTag⟩ : Bod).vals qp qc) rfl rfl rfl (zaa rfl) rfl rfl (Nat.le_refl 76) (by repeat constructor) ?_;refine qcT ?_;exact H.Bh (ls := (⟨4, (W.l.past o).g, 0, Req.zero, Q, noTag⟩ : Bod).vals qp qc) rfl rfl rfl (Rd.ofRow (.here _ _ _)) rfl (fun _ s => s.drop (.here _ _)) ⟨g, qp, qc, rfl, hqa, hd, rfl, rfl⟩
 ·have hk6 : ((x.kind.toNat : Nat) : Int).tmod 6 = 4 := zal (b := 6) h;rw [h]
  rcases Bool.eq_false_or_eq_true x.raw with hraw | hraw
  ·have hr1 : (!x.raw) = false := by rw [hraw]; rfl
   have hb : x.bodK W n o 4 = (⟨5, fix1 (((x.view.toNat % 6 : Nat) : Int)), 0, Req.zero, [], noTag⟩ : Bod) := by simp [A15.bodK, hraw, Bod.zero]
   rw [hb];refine qeS fun base => ?_;refine qcZ fun xb => ?_;refine qdg fun ob => ?_;refine qeq fun bb => ?_;refine qeE ?_;by_cases hz : ((x.view.toNat % 6 : Nat) : Int) = 0
   ·rw [show fix1 (((x.view.toNat % 6 : Nat) : Int)) = 1 from if_pos hz];exact qau
   ·rw [show fix1 (((x.view.toNat % 6 : Nat) : Int)) = ((x.view.toNat % 6 : Nat) : Int) from if_neg hz];refine gc ?_;refine H.Af (ls := (⟨5, ((x.view.toNat % 6 : Nat) : Int), 0, Req.zero, [], noTag⟩ : Bod).vals none 0) rfl rfl rfl (Rd.ofRow (.here _ _ _)) rfl rfl ?_;refine H.Aj (ls := (Bod.zero 0).vals none 0) (vs := (⟨5, ((x.view.toNat % 6 : Nat) : Int), 0, Req.zero, [], noTag⟩ : Bod).vals none 0) (ls' := (⟨5, ((x.view.toNat % 6 : Nat) : Int), 0, Req.zero, [], noTag⟩ : Bod).vals none 0) rfl rfl rfl (zaa rfl) rfl rfl (Nat.le_refl 76) (by repeat constructor) ?_;refine qcT ?_;exact H.Bh (ls := (⟨5, ((x.view.toNat % 6 : Nat) : Int), 0, Req.zero, [], noTag⟩ : Bod).vals none 0) rfl rfl rfl (Rd.ofRow (.here _ _ _)) rfl (fun _ s => s.drop (.here _ _)) ⟨nil0, none, 0, rfl, QAt.nil _ _, Dj.nil _, (un_nil _).symm, rfl⟩
  ·have hr1 : (!x.raw) = true := by rw [hraw]; rfl
   have hb : x.bodK W n o 4 = (⟨5, fix1 (lastV W.l.vs), 0, Req.zero, [], noTag⟩ : Bod) := by simp [A15.bodK, hraw, Bod.zero]
   rw [hb];refine qeS fun base => ?_;refine qcZ fun xb => ?_;refine qdg fun ob => ?_;refine qeq fun bb => ?_;refine qeE ?_;refine qft ?_;refine H.unpack fun i1 hi1 => ?_;obtain ⟨V, vp, vc, pp, pc, cp, cc, pb, cs⟩ := i1;have hiF := hi1.mono hfl;refine qeU ?_
   have hvs : V.map VV.w = W.l.vs := hi1.vs;have hVl : V.length = W.l.vs.length := hi1.len
   have hvl := hW.l.vl
   have hV0 : 0 < V.length := by
    obtain ⟨w0, hw0, _⟩ := hW.l.zero;rw [hVl];exact List.length_pos_of_mem hw0
   obtain ⟨X, hX⟩ : ∃ X, V[V.length - 1]? = some X := ⟨_, List.getElem?_eq_getElem (by omega)⟩
   have hXv : lastV W.l.vs = X.w.v := by
    unfold lastV;rw [← hVl, ← hvs, List.getElem?_map, hX];rfl
   rw [hXv];refine qeg fun vb hvb => ?_;refine qeT ?_;refine qdZ ?_;refine gc ?_;refine qen ?_;refine qew ?_;refine H.dc [0, 1, 2, 3, 4, 5, 6, 7, 8, 9, 10, 11, 12, 13, 14, 15, 16, 17, 18] (S := [_, _, _]) rfl ?_;refine HB.qu [0,1,2,3,4,5,6,7,8,9,10,11,12,13,14,15,16,17,18] 2 ?_;refine gO ?_;refine HQ.Aq (b := vb) (off := 0) (i := V.length - 1) rfl (by rw [← hvb]; rfl) rfl (show ((V.length : Int) - 1) = ((V.length - 1 : Nat) : Int) by omega) (show V.length - 1 < V.length by omega) rfl ?_;refine gQ ?_;refine HQ.Ab rfl rfl rfl (Rd1.of (i := 0) (by rw [Nat.zero_add]; exact Rd.slcElem (n := V.length) (c := vc) (T := 129) (xs := V) VV.len (by decide) (by rw [← hvb]; exact .there _ (.there _ (.here _ _ _))) hX) rfl) rfl ?_;refine qdi ?_;refine HB.qu [19] 1 ?_;refine qes ?_;refine HB.ev 20 ?_;refine qdZ ?_;refine H.Bc (ls := (bodW 5 ((x.view.toNat % 6 : Nat) : Int) 0).vals none 0) (ls' := (bodW 5 X.w.v 0).vals none 0) rfl rfl rfl rfl (.here _ _ _) (.there _ (.here _ _ _)) ?_;refine qdG ?_;refine qfJ ?_;by_cases hz : X.w.v = 0
   ·rw [show fix1 (X.w.v) = 1 from if_pos hz];exact qau
   ·rw [show fix1 (X.w.v) = X.w.v from if_neg hz];refine gY ?_;refine H.Af (ls := (⟨5, X.w.v, 0, Req.zero, [], noTag⟩ : Bod).vals none 0) rfl rfl rfl (Rd.ofRow (.here _ _ _)) rfl rfl ?_;refine H.Aj (ls := (Bod.zero 0).vals none 0) (vs := (⟨5, X.w.v, 0, Req.zero, [], noTag⟩ : Bod).vals none 0) (ls' := (⟨5, X.w.v, 0, Req.zero, [], noTag⟩ : Bod).vals none 0) rfl rfl rfl (zaa rfl) rfl rfl (Nat.le_refl 76) (by repeat constructor) ?_;refine qcT ?_;exact H.Bh (ls := (⟨5, X.w.v, 0, Req.zero, [], noTag⟩ : Bod).vals none 0) rfl rfl rfl (Rd.ofRow (.here _ _ _)) rfl (fun _ s => s.drop (.here _ _)) ⟨nil0, none, 0, rfl, QAt.nil _ _, Dj.nil _, (un_nil _).symm, rfl⟩
 ·have hk6 : ((x.kind.toNat : Nat) : Int).tmod 6 = 5 := zal (b := 6) h;rw [h]
  show Fn _ _ _ f _ (BodP f _ (⟨6, 0, (1 + ((x.k.toNat % 6 : Nat) : Int)), Req.zero, [], dig0 x.key⟩ : Bod));refine qeS fun base => ?_;refine qcZ fun xb => ?_;refine qdg fun ob => ?_;refine qcQ ?_; repeat (first | (refine H.Ax (t := 47) (out := (bodW 6 ((x.view.toNat % 6 : Nat) : Int) (1 + ((x.k.toNat % 6 : Nat) : Int))).vals none 0) rfl rfl rfl (by kernel_rfl) rfl ?_) | ((first | (apply H.ar; (iterate 4 exact rfl)) | (apply H.Bg; (iterate 2 exact rfl))); (with_reducible apply wr_u64; omega); exact rfl))
  refine qdg fun bb => ?_;refine H.Aj (ls := (Bod.zero 0).vals none 0) (vs := (bodW 6 ((x.view.toNat % 6 : Nat) : Int) (1 + ((x.k.toNat % 6 : Nat) : Int))).vals none 0) (ls' := (bodW 6 ((x.view.toNat % 6 : Nat) : Int) (1 + ((x.k.toNat % 6 : Nat) : Int))).vals none 0) rfl rfl rfl (zaa rfl) rfl rfl (Nat.le_refl 76) (.here _ _ _) ?_;refine qcX ?_;refine gS ?_;refine H.Az (i := 0) rfl rfl rfl rfl (by decide) rfl ?_;refine gc ?_;refine H.Af (ls := (⟨6, 0, (1 + ((x.k.toNat % 6 : Nat) : Int)), Req.zero, [], dig0 x.key⟩ : Bod).vals none 0) rfl rfl rfl (Rd.ofRow (.here _ _ _)) rfl rfl ?_;refine H.Aj (ls := (Bod.zero 0).vals none 0) (vs := (⟨6, 0, (1 + ((x.k.toNat % 6 : Nat) : Int)), Req.zero, [], dig0 x.key⟩ : Bod).vals none 0) (ls' := (⟨6, 0, (1 + ((x.k.toNat % 6 : Nat) : Int)), Req.zero, [], dig0 x.key⟩ : Bod).vals none 0) rfl rfl rfl (zaa rfl) rfl rfl (Nat.le_refl 76) (by repeat constructor) ?_;refine qcT ?_;exact H.Bh (ls := (⟨6, 0, (1 + ((x.k.toNat % 6 : Nat) : Int)), Req.zero, [], dig0 x.key⟩ : Bod).vals none 0) rfl rfl rfl (Rd.ofRow (.here _ _ _)) rfl (fun _ s => s.drop (.here _ _)) ⟨nil0, none, 0, rfl, QAt.nil _ _, Dj.nil _, (un_nil _).symm, rfl⟩
end
end Go.Proofs.YtgdhaledfjnfgaaGreatDoor
