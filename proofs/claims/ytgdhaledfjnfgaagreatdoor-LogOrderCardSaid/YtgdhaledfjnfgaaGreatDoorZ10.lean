/- Parts of the proof, one behind the other, each under its own heading. No conditions. -/
import Derived.Test.YtgdhaledfjnfgaaGreatDoorZ09
import Derived.Test.YtgdhaledfjnfgaaGreatDoorRows
import Derived.Test.YtgdhaledfjnfgaaGreatDoorCards
import Derived.Test.YtgdhaledfjnfgaaGreatDoorTie
set_option linter.unusedSectionVars false
set_option linter.unusedSimpArgs false
set_option linter.unusedVariables false
/- Go's slices.Sort, maps.Keys, slices.Sorted at uint64; the program's Views. No condition. -/
set_option maxHeartbeats 3200000
set_option maxRecDepth 20000
namespace Go.Proofs.YtgdhaledfjnfgaaGreatDoor
open Go
open Go.Sort (bitsLen PermIn SortedIn Below ltInt swo_ltInt sorted_unique_holds)
theorem list_arr (xs : List Int) : xs.flatMap uV = arr xs.toArray := rfl
theorem sorted_eq : ∀ {ys zs : List Int}, ys.Perm zs → zs.Pairwise (· < ·) → ys.Pairwise (· ≤ ·) → ys = zs
 | [], zs, h, _, _ => h.nil_eq
 | y :: ys, [], h, _, _ => absurd h.length_eq (by simp)
 | y :: ys, z :: zs, h, hz, hy => by
  rw [List.pairwise_cons] at hz hy
  have e : y = z := by
   have h1 : z ∈ y :: ys := h.mem_iff.2 (by simp);have h2 : y ∈ z :: zs := h.mem_iff.1 (by simp)
   rcases List.mem_cons.1 h1 with h1 | h1
   ·exact h1.symm
   ·rcases List.mem_cons.1 h2 with h2 | h2
    ·exact h2
    ·have := hy.1 z h1; have := hz.1 y h2; omega
  subst e
  rw [sorted_eq ((List.perm_cons y).1 h) hz.2 hy.2]
def unseenU (es : List (Int × Value × Nat)) (seen : List Int) : Nat := (es.filter fun e => !seen.contains e.1).length
theorem unseenU_lt : ∀ {es : List (Int × Value × Nat)} {seen : List Int} {e : Int × Value × Nat}, e ∈ es → e.1 ∉ seen → unseenU es (e.1 :: seen) < unseenU es seen := fun {es seen e} he hn => by
 have hle : ∀ l : List (Int × Value × Nat), (l.filter fun x => !(e.1 :: seen).contains x.1).length ≤ (l.filter fun x => !seen.contains x.1).length := fun l => by
  induction l with
  | nil => exact Nat.le_refl _
  | cons x r ih =>
   by_cases h1 : x.1 ∈ seen
   ·rw [List.filter_cons_of_neg (by simp [h1]), List.filter_cons_of_neg (by simp [h1])]; exact ih
   ·by_cases h2 : x.1 = e.1
    ·rw [List.filter_cons_of_neg (by simp [h2]), List.filter_cons_of_pos (by simp [h1])]; simp only [List.length_cons]; omega
    ·rw [List.filter_cons_of_pos (by simp [h1, h2]), List.filter_cons_of_pos (by simp [h1])]; simp only [List.length_cons]; omega
 obtain ⟨a, b, rfl⟩ := List.append_of_mem he
 unfold unseenU
 rw [List.filter_append, List.filter_append, List.filter_cons_of_neg (p := fun x : Int × Value × Nat => !(e.1 :: seen).contains x.1) (by simp), List.filter_cons_of_pos (p := fun x : Int × Value × Nat => !seen.contains x.1) (by simp [hn]), List.length_append, List.length_append, List.length_cons]
 have := hle a
 have := hle b
 omega
theorem nodup_len : ∀ {s l : List Int}, s.Nodup → (∀ k ∈ s, k ∈ l) → s.length ≤ l.length
 | [], _, _, _ => Nat.zero_le _
 | k :: s, l, hn, hs => by
  rw [List.nodup_cons] at hn
  obtain ⟨a, b, rfl⟩ := List.append_of_mem (hs k (by simp))
  have := nodup_len (l := a ++ b) hn.2 fun j hj => by
   have h1 := hs j (List.mem_cons_of_mem _ hj)
   rw [List.mem_append, List.mem_cons] at h1
   rw [List.mem_append]
   rcases h1 with h1 | h1 | h1
   ·exact .inl h1
   ·exact absurd (h1 ▸ hj) hn.1
   ·exact .inr h1
  rw [List.length_append] at this
  rw [List.length_append, List.length_cons, List.length_cons]
  omega
variable {lp : Nat} {f : Frag} {α : Type} {A : List HP}
theorem YieldFn.exI {P : Program} {args : List Value} {g : α → HP} {R : Value → Frag → List HP → Prop} (h : ∀ x, YieldFn P lp args f (g x :: A) R) : YieldFn P lp args f (ex g :: A) R := fun base w s => by
 obtain ⟨m, ⟨m1, m2, d, e, ⟨x, hx⟩, h2⟩, hd, hw⟩ := s.mem
 exact h x base w ⟨s.os, s.tape, s.output, s.size, s.imm, m, ⟨m1, m2, d, e, hx, h2⟩, hd, hw⟩
variable {p : Option Addr} {n c vb mb : Nat} {m : List (Int × Value)} {LH D : HP} {acc : List Int} {l : Lgs}
section
variable (f : Frag) (F : List HP)
def SrtL (f : Frag) (F : List HP) (p : Option Addr) (n c : Nat) (xs : List Int) : Value → Frag → List HP → Prop := fun v f' A' => ∃ ys : List Int, ys.Perm xs ∧ ys.Pairwise (· ≤ ·) ∧ v = .tuple #[] ∧ f' = f ∧ A' = slc p n c 31 1 (ys.flatMap uV) :: F
theorem sortU_fn {xs : List Int} (hx : xs.length = n) (hn : n ≤ 255) :
  Fn Tryz.prog 69 [.slice p n c] f (slc p n c 31 1 (xs.flatMap uV) :: F) (SrtL f F p n c xs) := by
 have hl := fun G => len_fn f G (x := n) (by omega);have hb8 : bitsLen n ≤ 8 := (tab8 ⟨n, by omega⟩).2.2.2
 have hs := pdq_fn f F n (p := p) (n := n) (c := c) (a0 := 0) (b0 := n) (lim0 := (bitsLen n : Nat)) (d0 := xs.toArray) (by simpa using hx) hn (Nat.zero_le _) (Nat.le_refl _) (by omega) (.inl rfl) (by omega)
 have hun : ∀ d : Array Int, PermIn 0 n xs.toArray d → SortedIn ltInt 0 n d → d.toList.Perm xs ∧ d.toList.Pairwise (· ≤ ·) := fun d h1 h2 => by
  have hdn : d.size = n := h1.1.trans (by simpa using hx); have e : xs.toArray.size = n := by simpa using hx
  refine ⟨?_, ?_⟩
  ·have := sorted_unique_holds swo_ltInt (fun x y h1 h2 => by simp only [ltInt, decide_eq_false_iff_not] at h1 h2; omega) xs.toArray d (by rw [e]; exact h1) (by rw [e]; exact h2);rw [this]
   exact List.mergeSort_perm _ _
  ·rw [List.pairwise_iff_getElem];intro i j hi hj hij;have h3 := h2 i j (Nat.zero_le _) hij (by rw [← hdn]; simpa using hj); have hi' : i < d.size := by simpa using hi
   have hj' : j < d.size := by simpa using hj
   rw [getElem!_pos d i hi', getElem!_pos d j hj'] at h3;simp only [ltInt, decide_eq_false_iff_not] at h3;simp only [Array.getElem_toList];omega
 rw [list_arr];refine Fn.e1 Tryz.func69 Tryz.ntmps69 fun base => ?_;refine gE ?_;refine H.cr (hl _) ?_;skip;refine H.Au rfl rfl rfl hs fun v f' A' hR => ?_;obtain ⟨d, h1, h2, rfl, hff, rfl⟩ := hR;rw [hff];obtain ⟨h3, h4⟩ := hun d h1 h2;refine gA ?_;exact H.end0 rfl (fun _ h => h) ⟨d.toList, h3, h4, rfl, rfl, rfl⟩
theorem keys_fn : Fn Tryz.prog 56 [.map (some vb)] f F
  (RetE (α := Nat) (fun b => .func (.func 89) #[] #[.pointer (some ⟨b, 0, none⟩)]) f (fun b => row b 109 [.map (some vb)] :: F)) := by
 refine Fn.e1 Tryz.func56 Tryz.ntmps56 fun base => ?_;refine gA ?_;refine H.box (ls := [.map (some vb)]) rfl rfl rfl rfl fun b => ?_;refine gg ?_;exact H.r1 ⟨b, rfl, rfl, rfl⟩
theorem keys1_fn {X : List Int → HP} (hnd : (m.map (·.1)).Nodup)
  (hY : ∀ (acc : List Int) (k : Int) (G : List HP), acc.length ≤ m.length → YieldFn Tryz.prog lp [.int .u64 k] f (X acc :: G) (fun v g B => v = .bool true ∧ g = f ∧ B = X (acc ++ [k]) :: G)) :
  Fn Tryz.prog 89 ([] ++ [.func (.yield lp) #[] #[]] ++ [.pointer (some ⟨mb, 0, none⟩)]) f (mp vb keyU m :: X [] :: row mb 109 [.map (some vb)] :: F)
   (RetE (α := { ks : List Int // ks.Perm (m.map (·.1)) }) (fun _ => .tuple #[]) f (fun ks => X ks.1 :: row mb 109 [.map (some vb)] :: mp vb keyU m :: F)) := by
 refine Fn.openMap fun es clock hes => ?_
 have hkeys : m.map (·.1) = es.map (·.1) := by
  rw [← hes, List.map_map];rfl
 refine Fn.e2 Tryz.func89 Tryz.ntmps89 fun base => ?_;refine gG ?_;refine H.range rfl rfl (by repeat constructor) rfl fun rb => ?_;refine gW ?_;refine H.pf (x := X _) ?_
 refine H.lo (ι := List Int) (fun _ => [(5, .pointer (some ⟨rb, 0, none⟩)), (0, .func (.yield lp) #[] #[])]) (fun _ => f)
  (fun s => X s.reverse :: itr rb vb es clock s :: mpS vb keyU es clock :: row mb 109 [.map (some vb)] :: F) (fun s => s.Nodup ∧ ∀ k ∈ s, k ∈ es.map (·.1)) (fun s => unseenU es s) [] ⟨List.nodup_nil, fun k h => by cases h⟩ fun s hs => ?_
 obtain ⟨hsn, hsk⟩ : s.Nodup ∧ ∀ k ∈ s, k ∈ es.map (·.1) := hs;show H _ _ _ [(5, _), _] f (X s.reverse :: itr rb vb es clock s :: _ :: _ :: F) _;refine gA ?_;refine H.next rfl rfl (by repeat constructor) (by repeat constructor) (fun _ => (by repeat constructor)) rfl (fun hend => ?_) (fun e he hns => ?_)
 ·have hp : s.reverse.Perm (m.map (·.1)) := by
   refine (List.reverse_perm s).trans ((List.perm_ext_iff_of_nodup hsn hnd).2 fun k => ?_);rw [hkeys];refine ⟨hsk k, fun hk => ?_⟩;obtain ⟨e, he, rfl⟩ := List.mem_map.1 hk;exact hend e he
  refine ge ?_;refine H.pd (x := itr _ _ _ _ _) ?_;refine H.pf (x := mpS _ _ _ _) ?_;refine H.imp mpS_fold ?_;rw [hes];refine qdl ?_;refine H.pf (x := X _) ?_;exact H.end0 rfl (fun _ h => h) ⟨⟨s.reverse, hp⟩, rfl, rfl, rfl⟩
 ·skip;refine gg ?_;refine H.entry rfl rfl (by repeat constructor) (by repeat constructor) he rfl ?_
  iterate 5 ( first
   | ((first | apply H.Af | apply H.Al | apply H.Bc | apply H.Bk | apply H.Br | apply H.Cc); (iterate 3 exact rfl))
   | (apply H.Aq; (iterate 3 exact rfl); exact inferInstance; exact rfl)
   | (apply H.Ab; (iterate 3 exact rfl); apply Rd1.ofRow; (repeat (first | exact .here _ _ _ | apply At.there)); (iterate 2 exact rfl))
   | (first | apply H.seq | apply H.Aj | apply H.nil | apply H.Ak)
   | ((first | apply H.cmp | apply H.Ar); (iterate 5 exact rfl))
   | ((first | (apply H.ar; (iterate 4 exact rfl)) | (apply H.Bd; (iterate 2 exact rfl))); (first | (with_reducible apply zaw; omega) | (with_reducible apply zau; omega) | (with_reducible apply zav; omega) | (with_reducible apply wr_i64; omega) | (with_reducible apply wr_u64; omega) | (with_reducible apply wr_u8; omega) | (with_reducible apply wr_u16; omega) | rfl); exact rfl)
   | (apply H.Bm; (iterate 2 exact rfl))
   | (apply H.pass0; exact rfl)
   | (apply H.Bj; (iterate 4 exact rfl))
   | ((first | apply H.Ba | apply H.Ca | apply H.not | apply H.Cl); (iterate 4 exact rfl))
   | ((first | apply H.Ck | apply H.Cn); (iterate 5 exact rfl))
   | (apply H.Az; (iterate 4 exact rfl); (repeat (first | exact .here _ _ _ | apply At.there)); (repeat (first | exact .here _ _ _ | apply SetV.there)))
   | (apply H.Ci; exact rfl)
   | (apply H.Ch; exact rfl)
   | (first | apply H.Bg | apply H.ret | apply H.By | apply H.Cb | apply H.exit | apply H.Ay | apply H.Bu | apply H.Cd | apply H.Bw | apply H.Ce | apply H.Bz)
   | (apply H.Cr; exact rfl)
   | (apply H.Bo; (iterate 3 exact rfl); (first | assumption | omega))
   | (apply H.gno; (iterate 3 exact rfl); (first | assumption | omega))
   | (apply H.Bn; exact rfl; (first | assumption | omega))
   | (apply H.Bt; exact rfl; (first | assumption | omega))
   | ((first | apply H.gtrue); (iterate 3 exact rfl); assumption)
   | (apply H.gfalse; (iterate 3 exact rfl); assumption)
   | (apply H.cond_t; exact rfl; assumption)
   | (apply H.cond_f; exact rfl; assumption) )
  refine H.regionY ?_
  have hlen : s.reverse.length ≤ m.length := by
   have h1 := nodup_len hsn hsk;rw [List.length_map] at h1
   rw [List.length_reverse, ← hes, List.length_map];exact h1
  refine H.inOp (by with_reducible (repeat (first | exact zbd | exact zay | exact zan | exact zao | refine zax ?_ | refine zap ?_ | refine zar ?_ | refine zat ?_ | refine zbe ?_))) ?_;refine gK ?_;refine H.Cm ?_;refine H.inOp (by with_reducible (repeat (first | exact zbd | exact zay | exact zan | exact zao | refine zax ?_ | refine zap ?_ | refine zar ?_ | refine zat ?_ | refine zbe ?_))) ?_;refine gK ?_;refine H.Cm ?_;refine H.pf (x := X _) ?_;refine H.yield rfl rfl rfl rfl (hY s.reverse e.1 _ hlen) fun v f' A' hR => ?_;obtain ⟨rfl, hff, rfl⟩ := hR;rw [hff];clear hff;refine H.inOp (by with_reducible (repeat (first | exact zbd | exact zay | exact zan | exact zao | refine zax ?_ | refine zap ?_ | refine zar ?_ | refine zat ?_ | refine zbe ?_))) ?_;refine gg ?_;refine H.Cm ?_;refine H.inNil ?_;refine gY ?_;refine H.pf (x := mpS _ _ _ _) ?_;refine H.pf (x := itr _ _ _ _ _) ?_;refine H.pf (x := X _) ?_;refine H.Bl (e.1 :: s) ⟨List.nodup_cons.2 ⟨hns, hsn⟩, fun k hk => ?_⟩ (unseenU_lt he hns) ⟨rfl, rfl, trivial⟩ rfl ?_
  ·rcases List.mem_cons.1 hk with h | h
   ·rw [h]; exact List.mem_map.2 ⟨e, he, rfl⟩
   ·exact hsk k h
  ·show _ = X (e.1 :: s).reverse :: _;rw [List.reverse_cons]
def ColP (f : Frag) (F : List HP) (mb vb : Nat) (m : List (Int × Value)) : Value → Frag → List HP → Prop := fun v f' A' => ∃ (ks : List Int) (p : Option Addr) (c : Nat), ks.Perm (m.map (·.1)) ∧ v = .slice p ks.length c ∧ f' = f ∧ A' = slc p ks.length c 31 1 (ks.flatMap uV) :: row mb 109 [.map (some vb)] :: mp vb keyU m :: F
def accH (LH D : HP) (sb : Nat) (acc : List Int) : HP := ex fun pc : Option Addr × Nat => stars [LH, D, row sb 63 [.slice pc.1 acc.length pc.2], slc pc.1 acc.length pc.2 31 1 (acc.flatMap uV)]
theorem acc_in {sb : Nat} (p : Option Addr) (c : Nat) : ∀ h, stars (LH :: D :: row sb 63 [.slice p acc.length c] :: slc p acc.length c 31 1 (acc.flatMap uV) :: A) h → stars (accH LH D sb acc :: A) h := fun h hh => by
 have := pack_all [LH, D, row sb 63 [.slice p acc.length c], slc p acc.length c 31 1 (acc.flatMap uV)] A h hh
 obtain ⟨m1, m2, d, e, a, r⟩ := this
 exact ⟨m1, m2, d, e, ⟨(p, c), a⟩, r⟩
def acc2 (D : HP) (sb : Nat) (acc : List Int) : HP := ex fun pc : Option Addr × Nat => stars [D, row sb 63 [.slice pc.1 acc.length pc.2], slc pc.1 acc.length pc.2 31 1 (acc.flatMap uV)]
theorem acc_out {sb : Nat} : ∀ h, stars (accH LH D sb acc :: A) h → stars (LH :: acc2 D sb acc :: A) h := fun h ⟨m1, m2, d, e, ⟨pc, a⟩, r⟩ => by
 obtain ⟨m3, m4, d2, e2, a2, r2⟩ := a
 rw [e2] at d e
 have d3 := Dj.un_left.1 d
 exact ⟨m3, un m4 m2, Dj.un_right.2 ⟨d2, d3.1⟩, by rw [e, un_assoc], a2, m4, m2, d3.2, rfl, ⟨pc, r2⟩, r⟩
theorem appendSeq_fn (hnd : (m.map (·.1)).Nodup) (hm : m.length ≤ 1000000) :
  Fn Tryz.prog 127 [.slice none 0 0, .func (.func 89) #[] #[.pointer (some ⟨mb, 0, none⟩)]] f (row mb 109 [.map (some vb)] :: mp vb keyU m :: F) (ColP f F mb vb m) := by
 refine Fn.enterM Tryz.func127 rfl Tryz.ntmps127 rfl (L := [(0, _), (1, _)]) ⟨rfl, rfl, trivial⟩ fun base => ?_;refine gA ?_;refine H.box (ls := [.slice none 0 0]) rfl rfl rfl rfl fun sb => ?_;refine gW ?_;refine H.slc0 31 1 ?_;refine H.pf (x := row sb _ _) ?_;refine H.sb [(6, .func (.func 89) #[] #[.pointer (some ⟨mb, 0, none⟩)]), (2, .pointer (some ⟨sb, 0, none⟩))] ?_;refine H.rangeFuncE (f' := f) (fs := []) (cs := [.pointer (some ⟨mb, 0, none⟩)]) rfl rfl fun LH hLH => ⟨{ ks : List Int // ks.Perm (m.map (·.1)) }, fun i D => acc2 (pts D (.deferred (some []))) sb i.1 :: row mb 109 [.map (some vb)] :: mp vb keyU m :: F, fun D lp => ?_, fun i D => ?_⟩
 ·refine Fn.wrap (A1 := mp vb keyU m :: accH (LH D lp .ready) (pts D (.deferred (some []))) sb [] :: row mb 109 [.map (some vb)] :: F) (fun h hh => ?_) (keys1_fn f F (X := accH (LH D lp .ready) (pts D (.deferred (some []))) sb) hnd fun acc k G hacc => ?_) fun v g B hR => ?_
  ·have h1 := acc_in (acc := []) none 0 h hh;rw [Pull.eq (x := mp vb keyU m) (.there _ (.there _ (.here _ _)))] at h1
   exact h1
  ·refine YieldFn.exI fun pc => ?_;obtain ⟨p, c⟩ := pc;refine YieldFn.wrap (R1 := fun v g B => ∃ (p2 : Option Addr) (c2 : Nat), v = .bool true ∧ g = f ∧ B = LH D lp .ready :: pts D (.deferred (some [])) :: row sb 63 [.slice p2 (acc ++ [k]).length c2] :: slc p2 (acc ++ [k]).length c2 31 1 ((acc ++ [k]).flatMap uV) :: G) (open_all _ _) ?_ ?_
   ·subst hLH;refine YieldFn.of rfl rfl rfl rfl fun base => ?_
    repeat (
     first | (
      first
     | (first | apply H.seqR | apply H.thenR | apply H.skipR | apply H.blockR)
     | (apply H.regionR; exact rfl; exact (by with_reducible (repeat (first | exact zbd | exact zay | exact zan | exact zao | refine zax ?_ | refine zap ?_ | refine zar ?_ | refine zat ?_ | refine zbe ?_))))
     | (apply H.Cv; exact rfl)
     | (apply H.Cu; exact rfl)
     | (apply H.Cw; exact rfl; (first | assumption | omega))
     | (apply H.condR_no; exact rfl; (first | assumption | omega))) | (
      first
     | ((first | apply H.Af | apply H.Al | apply H.Bc | apply H.Bk | apply H.Br | apply H.Cc); (iterate 3 exact rfl))
     | (apply H.Aq; (iterate 3 exact rfl); exact inferInstance; exact rfl)
     | (apply H.Ab; (iterate 3 exact rfl); apply Rd1.ofRow; (repeat (first | exact .here _ _ _ | apply At.there)); (iterate 2 exact rfl))
     | (first | apply H.seq | apply H.Aj | apply H.nil | apply H.Ak)
     | ((first | apply H.cmp | apply H.Ar); (iterate 5 exact rfl))
     | ((first | (apply H.ar; (iterate 4 exact rfl)) | (apply H.Bd; (iterate 2 exact rfl))); (first | (with_reducible apply zaw; omega) | (with_reducible apply zau; omega) | (with_reducible apply zav; omega) | (with_reducible apply wr_i64; omega) | (with_reducible apply wr_u64; omega) | (with_reducible apply wr_u8; omega) | (with_reducible apply wr_u16; omega) | rfl); exact rfl)
     | (apply H.Bm; (iterate 2 exact rfl))
     | (apply H.pass0; exact rfl)
     | (apply H.Bj; (iterate 4 exact rfl))
     | ((first | apply H.Ba | apply H.Ca | apply H.not | apply H.Cl); (iterate 4 exact rfl))
     | ((first | apply H.Ck | apply H.Cn); (iterate 5 exact rfl))
     | (apply H.Az; (iterate 4 exact rfl); (repeat (first | exact .here _ _ _ | apply At.there)); (repeat (first | exact .here _ _ _ | apply SetV.there)))
     | (apply H.Ci; exact rfl)
     | (apply H.Ch; exact rfl)
     | (first | apply H.Bg | apply H.ret | apply H.By | apply H.Cb | apply H.exit | apply H.Ay | apply H.Bu | apply H.Cd | apply H.Bw | apply H.Ce | apply H.Bz)
     | (apply H.Cr; exact rfl)
     | (apply H.Bo; (iterate 3 exact rfl); (first | assumption | omega))
     | (apply H.gno; (iterate 3 exact rfl); (first | assumption | omega))
     | (apply H.Bn; exact rfl; (first | assumption | omega))
     | (apply H.Bt; exact rfl; (first | assumption | omega))
     | ((first | apply H.gtrue); (iterate 3 exact rfl); assumption)
     | (apply H.gfalse; (iterate 3 exact rfl); assumption)
     | (apply H.cond_t; exact rfl; assumption)
     | (apply H.cond_f; exact rfl; assumption)))
    refine H.begin ?_
    repeat (
     first | (
      first
     | (first | apply H.seqR | apply H.thenR | apply H.skipR | apply H.blockR)
     | (apply H.regionR; exact rfl; exact (by with_reducible (repeat (first | exact zbd | exact zay | exact zan | exact zao | refine zax ?_ | refine zap ?_ | refine zar ?_ | refine zat ?_ | refine zbe ?_))))
     | (apply H.Cv; exact rfl)
     | (apply H.Cu; exact rfl)
     | (apply H.Cw; exact rfl; (first | assumption | omega))
     | (apply H.condR_no; exact rfl; (first | assumption | omega))) | (
      first
     | ((first | apply H.Af | apply H.Al | apply H.Bc | apply H.Bk | apply H.Br | apply H.Cc); (iterate 3 exact rfl))
     | (apply H.Aq; (iterate 3 exact rfl); exact inferInstance; exact rfl)
     | (apply H.Ab; (iterate 3 exact rfl); apply Rd1.ofRow; (repeat (first | exact .here _ _ _ | apply At.there)); (iterate 2 exact rfl))
     | (first | apply H.seq | apply H.Aj | apply H.nil | apply H.Ak)
     | ((first | apply H.cmp | apply H.Ar); (iterate 5 exact rfl))
     | ((first | (apply H.ar; (iterate 4 exact rfl)) | (apply H.Bd; (iterate 2 exact rfl))); (first | (with_reducible apply zaw; omega) | (with_reducible apply zau; omega) | (with_reducible apply zav; omega) | (with_reducible apply wr_i64; omega) | (with_reducible apply wr_u64; omega) | (with_reducible apply wr_u8; omega) | (with_reducible apply wr_u16; omega) | rfl); exact rfl)
     | (apply H.Bm; (iterate 2 exact rfl))
     | (apply H.pass0; exact rfl)
     | (apply H.Bj; (iterate 4 exact rfl))
     | ((first | apply H.Ba | apply H.Ca | apply H.not | apply H.Cl); (iterate 4 exact rfl))
     | ((first | apply H.Ck | apply H.Cn); (iterate 5 exact rfl))
     | (apply H.Az; (iterate 4 exact rfl); (repeat (first | exact .here _ _ _ | apply At.there)); (repeat (first | exact .here _ _ _ | apply SetV.there)))
     | (apply H.Ci; exact rfl)
     | (apply H.Ch; exact rfl)
     | (first | apply H.Bg | apply H.ret | apply H.By | apply H.Cb | apply H.exit | apply H.Ay | apply H.Bu | apply H.Cd | apply H.Bw | apply H.Ce | apply H.Bz)
     | (apply H.Cr; exact rfl)
     | (apply H.Bo; (iterate 3 exact rfl); (first | assumption | omega))
     | (apply H.gno; (iterate 3 exact rfl); (first | assumption | omega))
     | (apply H.Bn; exact rfl; (first | assumption | omega))
     | (apply H.Bt; exact rfl; (first | assumption | omega))
     | ((first | apply H.gtrue); (iterate 3 exact rfl); assumption)
     | (apply H.gfalse; (iterate 3 exact rfl); assumption)
     | (apply H.cond_t; exact rfl; assumption)
     | (apply H.cond_f; exact rfl; assumption)))
    show H _ _ _ _ f (_ :: pts D _ :: row sb _ [.slice p acc.length c] :: slc p acc.length c _ 1 (acc.flatMap uV) :: G) _;refine H.Bb (out := uV k) rfl rfl rfl rfl (by decide) (by decide) rfl rfl fun eb => ?_;refine H.Bf (sz := 1) (p := p) (n0 := acc.length) (c := c) (xs := acc.flatMap uV) (m := 1) (news := uV k) rfl rfl rfl rfl rfl (fun p' c' => .there _ (.there _ (.there _ (.there _ (.here _ _ _))))) (Src.slice (Rd.ofRow (.here _ _ _)) rfl) (zaa rfl) rfl (by omega) (by omega) fun p2 c2 => ?_;refine H.Az rfl rfl rfl rfl (.there _ (.there _ (.there _ (.here _ _ _)))) (.here _ _ _) ?_;refine qdi ?_
    repeat (
     first | (
      first
     | (first | apply H.seqR | apply H.thenR | apply H.skipR | apply H.blockR)
     | (apply H.regionR; exact rfl; exact (by with_reducible (repeat (first | exact zbd | exact zay | exact zan | exact zao | refine zax ?_ | refine zap ?_ | refine zar ?_ | refine zat ?_ | refine zbe ?_))))
     | (apply H.Cv; exact rfl)
     | (apply H.Cu; exact rfl)
     | (apply H.Cw; exact rfl; (first | assumption | omega))
     | (apply H.condR_no; exact rfl; (first | assumption | omega))) | (
      first
     | ((first | apply H.Af | apply H.Al | apply H.Bc | apply H.Bk | apply H.Br | apply H.Cc); (iterate 3 exact rfl))
     | (apply H.Aq; (iterate 3 exact rfl); exact inferInstance; exact rfl)
     | (apply H.Ab; (iterate 3 exact rfl); apply Rd1.ofRow; (repeat (first | exact .here _ _ _ | apply At.there)); (iterate 2 exact rfl))
     | (first | apply H.seq | apply H.Aj | apply H.nil | apply H.Ak)
     | ((first | apply H.cmp | apply H.Ar); (iterate 5 exact rfl))
     | ((first | (apply H.ar; (iterate 4 exact rfl)) | (apply H.Bd; (iterate 2 exact rfl))); (first | (with_reducible apply zaw; omega) | (with_reducible apply zau; omega) | (with_reducible apply zav; omega) | (with_reducible apply wr_i64; omega) | (with_reducible apply wr_u64; omega) | (with_reducible apply wr_u8; omega) | (with_reducible apply wr_u16; omega) | rfl); exact rfl)
     | (apply H.Bm; (iterate 2 exact rfl))
     | (apply H.pass0; exact rfl)
     | (apply H.Bj; (iterate 4 exact rfl))
     | ((first | apply H.Ba | apply H.Ca | apply H.not | apply H.Cl); (iterate 4 exact rfl))
     | ((first | apply H.Ck | apply H.Cn); (iterate 5 exact rfl))
     | (apply H.Az; (iterate 4 exact rfl); (repeat (first | exact .here _ _ _ | apply At.there)); (repeat (first | exact .here _ _ _ | apply SetV.there)))
     | (apply H.Ci; exact rfl)
     | (apply H.Ch; exact rfl)
     | (first | apply H.Bg | apply H.ret | apply H.By | apply H.Cb | apply H.exit | apply H.Ay | apply H.Bu | apply H.Cd | apply H.Bw | apply H.Ce | apply H.Bz)
     | (apply H.Cr; exact rfl)
     | (apply H.Bo; (iterate 3 exact rfl); (first | assumption | omega))
     | (apply H.gno; (iterate 3 exact rfl); (first | assumption | omega))
     | (apply H.Bn; exact rfl; (first | assumption | omega))
     | (apply H.Bt; exact rfl; (first | assumption | omega))
     | ((first | apply H.gtrue); (iterate 3 exact rfl); assumption)
     | (apply H.gfalse; (iterate 3 exact rfl); assumption)
     | (apply H.cond_t; exact rfl; assumption)
     | (apply H.cond_f; exact rfl; assumption)))
    refine H.endRound ⟨p2, c2, rfl, rfl, ?_⟩;rw [List.length_append, List.flatMap_append];rfl
   ·rintro v g B ⟨p2, c2, rfl, rfl, rfl⟩;exact ⟨_, ⟨rfl, rfl, rfl⟩, acc_in p2 c2⟩
  ·obtain ⟨ks, rfl, rfl, rfl⟩ := hR;exact ⟨_, ⟨ks, rfl, rfl⟩, acc_out⟩
 ·show H _ _ _ _ f (acc2 (pts D (.deferred (some []))) sb i.1 :: row mb 109 [.map (some vb)] :: mp vb keyU m :: F) _;refine H.ex fun pc => ?_;obtain ⟨p, c⟩ := pc;refine H.imp (open_all [_, _, _] _) ?_;show H _ _ _ _ f (pts D (.deferred (some [])) :: row sb 63 [.slice p i.1.length c] :: slc p i.1.length c 31 1 (i.1.flatMap uV) :: _ :: _ :: F) _;refine gN ?_;refine H.pd (x := row sb _ _) ?_;exact H.retMk rfl rfl rfl (.here _ _) (fun _ h => h) ⟨i.1, p, c, i.2, rfl, rfl, rfl⟩
theorem collect_fn (hnd : (m.map (·.1)).Nodup) (hm : m.length ≤ 1000000) :
  Fn Tryz.prog 88 [.func (.func 89) #[] #[.pointer (some ⟨mb, 0, none⟩)]] f (row mb 109 [.map (some vb)] :: mp vb keyU m :: F) (ColP f F mb vb m) := by
 refine Fn.e1 Tryz.func88 Tryz.ntmps88 fun base => ?_;refine gK ?_;refine H.Au rfl rfl rfl (appendSeq_fn f F hnd hm) fun v f' A' hR => ?_;obtain ⟨ks, p, c, hp, rfl, hff, rfl⟩ := hR;rw [hff];refine gW ?_;exact H.r1 ⟨ks, p, c, hp, rfl, rfl, rfl⟩
def SdP (f : Frag) (F : List HP) (mb vb : Nat) (m : List (Int × Value)) (zs : List Int) : Value → Frag → List HP → Prop := fun v f' A' => ∃ (p : Option Addr) (c : Nat), v = .slice p zs.length c ∧ f' = f ∧ A' = slc p zs.length c 31 1 (zs.flatMap uV) :: row mb 109 [.map (some vb)] :: mp vb keyU m :: F
theorem sorted_fn {zs : List Int} (hz : (m.map (·.1)).Perm zs) (hr : zs.Pairwise (· < ·)) (hm : m.length ≤ 255) :
  Fn Tryz.prog 55 [.func (.func 89) #[] #[.pointer (some ⟨mb, 0, none⟩)]] f (row mb 109 [.map (some vb)] :: mp vb keyU m :: F) (SdP f F mb vb m zs) := by
 have hnd : (m.map (·.1)).Nodup := hz.nodup_iff.2 (hr.imp fun h => by omega);refine Fn.e1 Tryz.func55 Tryz.ntmps55 fun base => ?_
 refine gK ?_;refine H.Au rfl rfl rfl (collect_fn f F hnd (by omega)) fun v f' A' hR => ?_;obtain ⟨ks, p, c, hp, rfl, hff, rfl⟩ := hR;rw [hff]; have hkl : ks.length ≤ 255 := by rw [hp.length_eq, List.length_map]; exact hm
 refine gK ?_;refine H.Au rfl rfl rfl (sortU_fn f _ (p := p) (c := c) (xs := ks) rfl hkl) fun v f' A' hR => ?_;obtain ⟨ys, h1, h2, rfl, hff, rfl⟩ := hR;rw [hff];have e : ys = zs := sorted_eq (h1.trans (hp.trans hz)) hr h2; have hl : ks.length = zs.length := by rw [hp.length_eq, hz.length_eq]
 subst e;rw [hl];refine gW ?_;exact H.r1 ⟨p, c, rfl, rfl, rfl⟩
def viewsU (l : Lgs) : List Int := l.vs.map Vw.v
def ViewsP (f : Frag) (A : List HP) (l : Lgs) : Value → Frag → List HP → Prop := fun v f' A' => ∃ (p : Option Addr) (c : Nat), v = .slice p (viewsU l).length c ∧ f' = f ∧ A' = slc p (viewsU l).length c 31 1 ((viewsU l).flatMap uV) :: A
theorem plviews_fn {fl : Frag} {lb : Nat} {T : Nat} (hL : LI l T) (hT : T ≤ 254) :
  Fn Tryz.prog 22 [.pointer (some ⟨lb, 0, none⟩)] f (plogH fl lb l :: F) (ViewsP f (plogH fl lb l :: F) l) := by
 refine Fn.unpack fun i hi => ?_;have hvs := hi.vs;have hvl := hL.vl
 obtain ⟨V, vb, pp, pc, cp, cc, pb, cs⟩ := i;have hvs : (V.map PV.w).Perm l.vs := hvs;have hVl := perm_len hvs
 have hz : ((V.map PV.ent).map (·.1)).Perm (viewsU l) := by
  have := hvs.map Vw.v;rw [List.map_map] at this ⊢
  exact this
 refine qcN ?_;refine Fn.e1 Tryz.func22 Tryz.ntmps22 fun base => ?_;refine ge ?_;refine H.callE rfl rfl rfl (keys_fn f _) fun mb => ?_;skip;refine H.pf (x := mp vb _ _) ?_;refine qdl ?_;refine H.Au rfl rfl rfl (sorted_fn f _ hz hL.rise (by rw [List.length_map]; omega)) fun v f' A' hR => ?_;obtain ⟨p2, c2, rfl, hff, rfl⟩ := hR;rw [hff];refine qgr ?_;refine qgG ?_;exact H.r1 ⟨p2, c2, rfl, rfl, rfl⟩
end
section
variable (f : Frag) (F : List HP)
theorem sameR_fn {pa pb : Option Addr} {ca cb : Nat} {xs : List Req} (hA : ListAt f pa 40 Req.vals xs) (hB : ListAt f pb 40 Req.vals xs) (hl : xs.length ≤ 1000000) :
  Fn Tryz.prog 23 [.slice pa xs.length ca, .slice pb xs.length cb] f F (Ret (.bool true) f F) := by
 refine Fn.e2 Tryz.func23 Tryz.ntmps23 fun base => ?_;refine ga ?_;refine H.lo (ι := Nat) (fun i => [(5, .int .i64 (i : Int)), (0, .slice pa xs.length ca), (1, .slice pb xs.length cb)]) (fun _ => f) (fun _ => F) (fun i => i ≤ xs.length) (fun i => xs.length - i) 0 (Nat.zero_le _) fun i hi => ?_;have hi : i ≤ xs.length := hi;by_cases hlt : i < xs.length
 ·obtain ⟨y, hy⟩ : ∃ y, xs[i]? = some y := ⟨_, List.getElem?_eq_getElem hlt⟩;obtain ⟨b, off, cs, T, fr, rfl, hfb, hcs⟩ := hA i y hy;obtain ⟨b2, off2, cs2, T2, fr2, rfl, hfb2, hcs2⟩ := hB i y hy;have he : eqC y.vals y.vals = true := eqC_refl rfl;refine qgl ?_
  refine qgg ?_;refine HQ.Ae (ls := y.vals) rfl rfl rfl (Rd.imm hfb hcs) rfl rfl ?_;refine qgg ?_;refine HQ.Ae (ls := y.vals) rfl rfl rfl (Rd.imm hfb2 hcs2) rfl rfl ?_;refine HQ.aggNe (xs := y.vals) (ys := y.vals) (D := 4) (b := false) rfl rfl rfl rfl (by kernel_rfl) (by kernel_rfl) (by kernel_rfl) (by kernel_rfl) (by decide) (by rw [he]; rfl) rfl ?_;refine gV ?_;refine gY ?_;exact H.ag (i + 1) (by show i + 1 ≤ xs.length; omega) (by show xs.length - (i + 1) < xs.length - i; omega)
 ·have e : i = xs.length := by omega
  subst e;refine ga ?_;exact qao
end
variable {v : Int}
theorem viewsU_mem : v ∈ viewsU l ↔ ∃ w, l.vw v = some w := by
 unfold viewsU;constructor
 ·intro h;obtain ⟨w, hw, e⟩ := List.mem_map.1 h
  cases hv : l.vw v with
  | none => exact absurd e (vw_no hv w hw)
  | some x => exact ⟨x, rfl⟩
 ·rintro ⟨w, hw⟩;obtain ⟨h1, h2⟩ := vw_v hw;exact List.mem_map.2 ⟨w, h2, h1⟩
variable {A' : List HP} {b : Nat}
theorem rd_uV {e : Frag} {K : List Int} (h : At A (slc (some ⟨b, 0, none⟩) n c 31 1 (K.flatMap uV)) A' (slc (some ⟨b, 0, none⟩) n c 31 1 (K.flatMap uV))) {k : Nat} {x : Int} (hg : K[k]? = some x) : Rd1 e A b (0 + k * 1) (.int .u64 x) := by
 rw [Nat.zero_add]; exact Rd1.of (i := 0) (Rd.slcElem uV_len (by decide) h hg) rfl
section
variable (f : Frag) (F : List HP)
end
theorem sorted_ext : ∀ {a b : List Vw}, (a.map Vw.v).Pairwise (· < ·) → (b.map Vw.v).Pairwise (· < ·) → (∀ x, x ∈ a ↔ x ∈ b) → a = b
 | [], [], _, _, _ => rfl
 | [], y :: b, _, _, h => by have := (h y).2 (by simp); cases this
 | x :: a, [], _, _, h => by have := (h x).1 (by simp); cases this
 | x :: a, y :: b, ha, hb, h => by
  rw [List.map_cons, List.pairwise_cons] at ha hb
  have hlx : ∀ z ∈ a, x.v < z.v := fun z hz => ha.1 z.v (List.mem_map.2 ⟨z, hz, rfl⟩)
  have hly : ∀ z ∈ b, y.v < z.v := fun z hz => hb.1 z.v (List.mem_map.2 ⟨z, hz, rfl⟩)
  have hxy : x = y := by
   rcases List.mem_cons.1 ((h x).1 (by simp)) with e | e
   ·exact e
   ·rcases List.mem_cons.1 ((h y).2 (by simp)) with e2 | e2
    ·exact e2.symm
    ·have := hlx y e2; have := hly x e; omega
  subst hxy
  congr 1
  refine sorted_ext ha.2 hb.2 fun z => ⟨fun hz => ?_, fun hz => ?_⟩
  ·rcases List.mem_cons.1 ((h z).1 (List.mem_cons_of_mem _ hz)) with e | e
   ·subst e; have := hlx z hz; omega
   ·exact e
  ·rcases List.mem_cons.1 ((h z).2 (List.mem_cons_of_mem _ hz)) with e | e
   ·subst e; have := hly z hz; omega
   ·exact e
def Eff.ps (e : Eff) (past : Nat → PM) (r : Nat) : Nat → PM := match e with
 | .no => past
 | .past p => updF past r p
 | .chg p _ => updF past r p
 | .prep p _ _ => updF past r p
 | .beg p _ => updF past r p
def Eff.cs (e : Eff) (ch : Nat → List (Int × Int)) (r : Nat) : Nat → List (Int × Int) := match e with
 | .chg _ c => updF ch r (ch r ++ [c])
 | _ => ch
def Eff.ws (e : Eff) (vs : List Vw) : List Vw := match e with
 | .prep _ v y => vs.map (putV v y)
 | .beg _ w => insV w vs
 | _ => vs
def Eff.view : Eff → Option Int
 | .prep _ v _ => some v
 | .beg _ w => some w.v
 | _ => none
theorem app_parts (l : Lgs) (r : Nat) (e : Eff) : l.app r e = ⟨l.n, l.known, e.ws l.vs, e.ps l.past r, e.cs l.ch r⟩ := by cases e <;> rfl
variable {j : Nat}
theorem updF_comm (g : Nat → α) {i : Nat} (x y : α) (h : i ≠ j) : updF (updF g i x) j y = updF (updF g j y) i x := by
 funext k;unfold updF;by_cases h1 : k = j
 ·by_cases h2 : k = i
  ·exact absurd (h2.symm.trans h1) h
  ·rw [if_pos h1, if_neg h2, if_pos h1]
 ·by_cases h2 : k = i
  ·rw [if_neg h1, if_pos h2, if_pos h2]
  ·rw [if_neg h1, if_neg h2, if_neg h2, if_neg h1]
variable {r s : Nat}
theorem ps_comm (a b : Eff) (past : Nat → PM) (h : r ≠ s) : b.ps (a.ps past r) s = a.ps (b.ps past s) r := by
 cases a <;> cases b <;> first | rfl | exact updF_comm _ _ _ h
theorem cs_comm (a b : Eff) (ch : Nat → List (Int × Int)) (h : r ≠ s) : b.cs (a.cs ch r) s = a.cs (b.cs ch s) r := by
  cases a <;> cases b <;> first
    | rfl
    | (show updF (updF ch r _) s (updF ch r _ s ++ _) = updF (updF ch s _) r (updF ch s _ r ++ _)
       rw [zaj _ _ (fun e => h e.symm), zaj _ _ h]
       exact updF_comm _ _ _ h)
variable {vs : List Vw}
theorem put_ins {y : Int × Req} {w : Vw} (h : v ≠ w.v) (x : Vw) : x ∈ (insV w vs).map (putV v y) ↔ x ∈ insV w (vs.map (putV v y)) := by
 have h1 := zbm w vs;have h2 := zbm w (vs.map (putV v y))
 have hw : putV v y w = w := by unfold putV; rw [if_neg (fun e => h e.symm)]
 rw [(h1.map (putV v y)).mem_iff.symm, h2.mem_iff.symm, List.map_cons, hw]
variable {a : Eff}
theorem ws_comm {b : Eff} (hv : ∀ v u, a.view = some v → b.view = some u → v ≠ u) (h1 : ((b.ws (a.ws vs)).map Vw.v).Pairwise (· < ·)) (h2 : ((a.ws (b.ws vs)).map Vw.v).Pairwise (· < ·)) : b.ws (a.ws vs) = a.ws (b.ws vs) := by
 refine sorted_ext h1 h2 fun x => ?_; cases a <;> cases b <;> try exact Iff.rfl
 ·rename_i p v y q u z
  have hne := hv v u rfl rfl;show x ∈ (vs.map (putV v y)).map (putV u z) ↔ x ∈ (vs.map (putV u z)).map (putV v y)
  have e : (vs.map (putV v y)).map (putV u z) = (vs.map (putV u z)).map (putV v y) := by
   rw [List.map_map, List.map_map];refine List.map_congr_left fun w _ => ?_;show putV u z (putV v y w) = putV v y (putV u z w);by_cases e1 : w.v = v
   ·have e2 : ¬ w.v = u := fun e => hne (e1.symm.trans e); have h3 : putV u z w = w := by unfold putV; rw [if_neg e2]
    rw [h3];have h4 : (putV v y w).v = w.v := putV_v _ _ _;show (if (putV v y w).v = u then _ else _) = _
    rw [if_neg (by rw [h4]; exact e2)]
   ·have h3 : putV v y w = w := by unfold putV; rw [if_neg e1]
    rw [h3];have h4 : (putV u z w).v = w.v := putV_v _ _ _;show _ = (if (putV u z w).v = v then _ else _)
    rw [if_neg (by rw [h4]; exact e1)]
  rw [e]
 ·rename_i p v y q w
  have hne := hv v w.v rfl rfl;exact (put_ins hne x).symm
 ·rename_i q w p v y
  have hne := hv w.v v rfl rfl;exact put_ins (fun e => hne e.symm) x
 ·rename_i q w p z
  have e1 := zbm w vs;have e2 := zbm z vs
  have e3 := zbm z (insV w vs);have e4 := zbm w (insV z vs)
  show x ∈ insV z (insV w vs) ↔ x ∈ insV w (insV z vs);rw [e3.mem_iff.symm, e4.mem_iff.symm, List.mem_cons, List.mem_cons, e1.mem_iff.symm, e2.mem_iff.symm, List.mem_cons, List.mem_cons];constructor <;> (rintro (h | h | h) <;> simp [h])
theorem app_comm {b : Eff} (hne : r ≠ s) (hv : ∀ v u, a.view = some v → b.view = some u → v ≠ u) (h1 : (((l.app r a).app s b).vs.map Vw.v).Pairwise (· < ·)) (h2 : (((l.app s b).app r a).vs.map Vw.v).Pairwise (· < ·)) : (l.app r a).app s b = (l.app s b).app r a := by
 rw [app_parts, app_parts, app_parts, app_parts] at *;show (⟨_, _, _, _, _⟩ : Lgs) = ⟨_, _, _, _, _⟩;rw [ps_comm a b _ hne, cs_comm a b _ hne];have : b.ws (a.ws l.vs) = a.ws (b.ws l.vs) := ws_comm hv h1 h2;rw [this]
theorem eff_view {m : Msg} {e : Eff} (h : l.eff m = some e) (hv : e.view = some v) : primI l.n v = orgI m := by
 rcases eff_cases h with rfl | ⟨c, rfl, _⟩ | ⟨hp, _, _, rfl⟩ | ⟨k, _, rfl⟩ | ⟨hp, _, _, rfl⟩ | ⟨k, most, _, rfl⟩
 ·cases hv
 ·cases hv
 ·cases hv; exact prim_org hp
 ·cases hv
 ·cases hv; exact prim_org hp
 ·cases hv
def Inv (l : Lgs) : Prop := (∃ T, LI l T) ∧ CI l
variable {x y : Msg}
theorem counts_comm (hI : Inv l) (hx : Rdy l x) (hy : Rdy l y) (hne : orgI x ≠ orgI y) :
  ((l.counts x).2.counts y).1 = (l.counts y).1 ∧ ((l.counts y).2.counts x).1 = (l.counts x).1 ∧ ((l.counts x).2.counts y).2 = ((l.counts y).2.counts x).2 := by
 obtain ⟨⟨T, h⟩, hC⟩ := hI;have hxm := hx.min;have hym := hy.min
 have hn3 := h.n3; have hxo : orgI x < 11 := by have := hxm.o; unfold orgI; omega
 have hyo : orgI y < 11 := by have := hym.o; unfold orgI; omega
 have hnx := (l.counts_nk x).1;have hny := (l.counts_nk y).1
 have hLx := h.counts hxm;have hLy := h.counts hym
 have sy := stable h hC (near h hxm) hym (fun e => hne e.symm) hxo (by have := hy.dep _ hxo; have := hx.num; omega);have sx := stable h hC (near h hym) hxm hne hyo (by have := hx.dep _ hyo; have := hy.num; omega)
 have rxy := (hLx.counts (m := y) (by rw [hnx]; exact hym)).rise;have ryx := (hLy.counts (m := x) (by rw [hny]; exact hxm)).rise
 rw [counts_eff hLx.rise, sy] at rxy ⊢;rw [counts_eff hLy.rise, sx] at ryx ⊢;rw [counts_eff h.rise x, counts_eff h.rise y] at *
 cases ex : l.eff x with
 | none =>
  cases ey : l.eff y with
  | none => exact ⟨rfl, rfl, rfl⟩
  | some b => exact ⟨rfl, rfl, rfl⟩
 | some a =>
  cases ey : l.eff y with
  | none => exact ⟨rfl, rfl, rfl⟩
  | some b =>
   rw [ex, ey] at rxy ryx;refine ⟨rfl, rfl, app_comm hne (fun v u hv hu e => ?_) rxy ryx⟩;have h1 := eff_view ex hv;have h2 := eff_view ey hu
   rw [e] at h1;exact hne (h1.symm.trans h2)
theorem Inv.take {l : Lgs} (h : Inv l) {m : Msg} (hm : Rdy l m) : Inv (l.take m).2 := by
 obtain ⟨⟨T, h1⟩, h2⟩ := h;refine ⟨⟨_, h1.take hm.v⟩, ?_⟩;rw [hm.take];exact h2.counts h1.rise m
theorem take_known {m : Msg} (hm : Rdy l m) : (l.take m).2.known = updF l.known (orgI m) (l.known (orgI m) + 1) := by rw [hm.take]
theorem Rdy.after (hx : Rdy l x) (hy : Rdy l y) (hne : orgI y ≠ orgI x) : Rdy (l.take x).2 y := by
 refine ⟨hy.may, by rw [Lgs.take_n]; exact hy.org, by rw [Lgs.take_n]; exact hy.q, hy.v, ?_, fun i hi => ?_⟩
 ·rw [take_known hx, zaj _ _ hne]; exact hy.num
 ·rw [take_known hx]
  have := hy.dep i hi;by_cases e : i = orgI x
  ·subst e; rw [zae]; omega
  ·rw [zaj _ _ e]; exact this
def Lgs.kn (l : Lgs) (k : Nat → Int) : Lgs := ⟨l.n, k, l.vs, l.past, l.ch⟩
theorem Lgs.kn_counts (l : Lgs) (k : Nat → Int) (m : Msg) : (l.kn k).counts m = ((l.counts m).1, (l.counts m).2.kn k) := l.counts_kn k m
theorem Rdy.takeK {m : Msg} (h : Rdy l m) : l.take m = (((l.counts m).1, 0), (l.counts m).2.kn (updF l.known (orgI m) (l.known (orgI m) + 1))) := h.take
theorem take_comm (hI : Inv l) (hx : Rdy l x) (hy : Rdy l y) (hne : orgI x ≠ orgI y) :
  ((l.take x).2.counts y).1 = (l.counts y).1 ∧ ((l.take y).2.counts x).1 = (l.counts x).1 ∧ ((l.take x).2.take y).2 = ((l.take y).2.take x).2 := by
 obtain ⟨h1, h2, h3⟩ := counts_comm hI hx hy hne;have e1 := (hx.after hy (fun e => hne e.symm)).takeK;have e2 := (hy.after hx hne).takeK
 rw [e1, e2, hx.takeK, hy.takeK];show (((l.counts x).2.kn _).counts y).1 = _ ∧ (((l.counts y).2.kn _).counts x).1 = _ ∧ (((l.counts x).2.kn _).counts y).2.kn _ = (((l.counts y).2.kn _).counts x).2.kn _;rw [Lgs.kn_counts, Lgs.kn_counts];refine ⟨h1, h2, ?_⟩;show ((l.counts x).2.counts y).2.kn (updF (updF l.known (orgI x) _) (orgI y) (updF l.known (orgI x) _ (orgI y) + 1)) = ((l.counts y).2.counts x).2.kn (updF (updF l.known (orgI y) _) (orgI x) (updF l.known (orgI y) _ (orgI x) + 1));rw [h3, zaj _ _ (fun e => hne e.symm), zaj _ _ hne, updF_comm _ _ _ hne]
def RunF : Lgs → List Msg → Prop
 | _, [] => True
 | L, m :: r => Rdy L m ∧ RunF (L.take m).2 r
def stF : Lgs → List Msg → Lgs
 | L, [] => L
 | L, m :: r => stF (L.take m).2 r
def outF : Lgs → List Msg → List (Msg × Bool)
 | _, [] => []
 | L, m :: r => (m, (L.counts m).1) :: outF (L.take m).2 r
theorem RunF.app : ∀ {a : List Msg} {L : Lgs} {b : List Msg}, RunF L (a ++ b) ↔ RunF L a ∧ RunF (stF L a) b
 | [], L, b => ⟨fun h => ⟨trivial, h⟩, fun h => h.2⟩
 | m :: a, L, b => by
  show Rdy L m ∧ RunF _ (a ++ b) ↔ (Rdy L m ∧ RunF _ a) ∧ RunF (stF _ a) b
  rw [RunF.app, and_assoc]
theorem run_known : ∀ {a : List Msg} {L : Lgs}, RunF L a → ∀ r, (stF L a).known r = L.known r + ((cnt a r : Nat) : Int)
 | [], L, _, r => by show L.known r = L.known r + 0; omega
 | m :: a, L, hr, r => by
  show (stF _ a).known r = _
  rw [run_known hr.2 r, take_known hr.1]
  have e : cnt (m :: a) r = cnt a r + (if r = orgI m then 1 else 0) := by
   unfold cnt strm;rw [List.filter_cons];by_cases h : r = orgI m
   ·rw [if_pos (decide_eq_true h.symm), if_pos h]; rfl
   ·rw [if_neg (fun e => h (of_decide_eq_true e).symm), if_neg h]; rfl
  rw [e]
  by_cases h : r = orgI m
  ·subst h; rw [zae, if_pos rfl]; omega
  ·rw [zaj _ _ h, if_neg h]; omega
theorem run_front : ∀ {X : List Msg} {L : Lgs} {m : Msg} {Y : List Msg}, Inv L → Rdy L m → (∀ x ∈ X, orgI x ≠ orgI m) → RunF L (X ++ m :: Y) →
  RunF L (m :: (X ++ Y)) ∧ stF L (m :: (X ++ Y)) = stF L (X ++ m :: Y) ∧ (outF L (m :: (X ++ Y))).Perm (outF L (X ++ m :: Y))
 | [], L, m, Y, hI, hm, hX, hr => ⟨hr, rfl, List.Perm.refl _⟩
 | x :: X, L, m, Y, hI, hm, hX, hr => by
  have hxm := hX x (by simp)
  have hxr : Rdy L x := hr.1
  have hr2 : RunF (L.take x).2 (X ++ m :: Y) := hr.2
  have hm2 := hxr.after hm (fun e => hxm e.symm)
  have hx2 := hm.after hxr hxm
  obtain ⟨i1, i2, i3⟩ := run_front (hI.take hxr) hm2 (fun y hy => hX y (List.mem_cons_of_mem _ hy)) hr2
  obtain ⟨c1, c2, c3⟩ := take_comm hI hxr hm hxm
  have i1b : RunF ((L.take x).2.take m).2 (X ++ Y) := i1.2
  refine ⟨⟨hm, hx2, by rw [← c3]; exact i1b⟩, ?_, ?_⟩
  ·show stF ((L.take m).2.take x).2 (X ++ Y) = stF (L.take x).2 (X ++ m :: Y)
   rw [← c3]
   exact i2
  ·show ((m, (L.counts m).1) :: (x, ((L.take m).2.counts x).1) :: outF ((L.take m).2.take x).2 (X ++ Y)).Perm ((x, (L.counts x).1) :: outF (L.take x).2 (X ++ m :: Y))
   rw [c2, ← c3]
   refine (List.Perm.swap _ _ _).trans ((List.perm_cons _).2 ?_)
   have i3 : ((m, ((L.take x).2.counts m).1) :: outF ((L.take x).2.take m).2 (X ++ Y)).Perm (outF (L.take x).2 (X ++ m :: Y)) := i3
   rw [c1] at i3
   exact i3
theorem outF_get : ∀ {A : List Msg} {L : Lgs} {j : Nat} {m : Msg}, A[j]? = some m → (outF L A)[j]? = some (m, ((stF L (A.take j)).counts m).1)
 | [], _, _, _, h => by cases h
 | x :: A, L, 0, m, h => by cases h; rfl
 | x :: A, L, j + 1, m, h => by
  show (outF (L.take x).2 A)[j]? = some (m, ((stF (L.take x).2 (A.take j)).counts m).1)
  exact outF_get h
theorem outF_mem : ∀ {A : List Msg} {L : Lgs} {p : Msg × Bool}, p ∈ outF L A → p.1 ∈ A
 | [], _, _, h => by cases h
 | x :: A, L, p, h => by
  rcases List.mem_cons.1 h with rfl | h
  ·exact List.mem_cons_self
  ·exact List.mem_cons_of_mem _ (outF_mem h)
theorem run_num : ∀ {A : List Msg} {L : Lgs}, RunF L A → ∀ m ∈ A, L.known (orgI m) < m.number
 | [], _, _, m, h => by cases h
 | x :: A, L, hr, m, h => by
  rcases List.mem_cons.1 h with rfl | h
  ·have := hr.1.num; omega
  ·have := run_num hr.2 m h
   rw [take_known hr.1] at this
   by_cases e : orgI m = orgI x
   ·rw [e, zae] at this; rw [e]; omega
   ·rw [zaj _ _ e] at this; exact this
theorem outF_one : ∀ {A : List Msg} {L : Lgs}, RunF L A → ∀ {m : Msg} {c d : Bool}, (m, c) ∈ outF L A → (m, d) ∈ outF L A → c = d
 | [], _, _, _, _, _, h, _ => by cases h
 | x :: A, L, hr, m, c, d, h1, h2 => by
  have key : ∀ b, (m, b) ∈ outF (L.take x).2 A → m ≠ x := fun b hb e => by
   subst e
   have h3 := run_num hr.2 m (outF_mem hb)
   rw [take_known hr.1, zae] at h3
   have := hr.1.num
   omega
  rcases List.mem_cons.1 h1 with e1 | e1
  ·cases e1
   rcases List.mem_cons.1 h2 with e2 | e2
   ·cases e2; rfl
   ·exact absurd rfl (key d e2)
  ·rcases List.mem_cons.1 h2 with e2 | e2
   ·cases e2; exact absurd rfl (key c e1)
   ·exact outF_one hr.2 e1 e2
theorem stF_lgsOf (n : Nat) : ∀ (l : List Msg) (L : Lgs), stF L l = l.foldl (fun L m => (L.take m).2) L
 | [], _ => rfl
 | m :: l, L => stF_lgsOf n l _
theorem world_rdy {all : List Msg} (hW : WOK n all) (hv : ∀ m ∈ all, 0 ≤ m.body.view) {i : Nat} {m : Msg} (hm : all[i]? = some m) : Rdy (lgsOf n (all.take i)) m := by
 have hi := (List.getElem?_eq_some_iff.1 hm).1;have h := hW i m hm
 have hf := h.fits;unfold fitsB at hf
 simp only [Bool.and_eq_true] at hf;obtain ⟨h1, h2, h3, _⟩ := hf;have hk := lgsOf_known hW i (by omega);refine ⟨h1, by rw [lgsOf_n]; exact of_decide_eq_true h2, by rw [lgsOf_n]; exact h3, hv m (List.mem_of_getElem? hm), ?_, fun k hk2 => ?_⟩
 ·rw [hk, h.num]; show ((cnt _ (orgI m) + 1 : Nat) : Int) = ((cnt _ (orgI m) : Nat) : Int) + 1; omega
 ·rw [hk]; exact (h.dep k hk2).2
theorem world_run {n : Nat} {all : List Msg} (hW : WOK n all) (hv : ∀ m ∈ all, 0 ≤ m.body.view) : ∀ i, i ≤ all.length → RunF (Lgs.new n) (all.take i)
 | 0, _ => by rw [List.take_zero]; exact trivial
 | i + 1, hi => by
  obtain ⟨m, hm⟩ : ∃ m, all[i]? = some m := ⟨_, List.getElem?_eq_getElem (by omega)⟩
  rw [take_snoc hm]
  refine RunF.app.2 ⟨world_run hW hv i (by omega), ?_, trivial⟩
  rw [stF_lgsOf n]
  exact world_rdy hW hv hm
def mAt (all : List Msg) (j : Nat) : Msg := (all[j]?).getD msgZ
theorem mAt_at {all : List Msg} {m : Msg} (h : all[j]? = some m) : mAt all j = m := by unfold mAt; rw [h]; rfl
theorem map_mAt (all : List Msg) : (List.range all.length).map (mAt all) = all := by
 refine List.ext_getElem? fun j => ?_;rw [List.getElem?_map];by_cases h : j < all.length
 ·rw [List.getElem?_range h, List.getElem?_eq_getElem h];show some (mAt all j) = _;rw [mAt_at (List.getElem?_eq_getElem h)]
 ·rw [List.getElem?_eq_none (by rw [List.length_range]; omega), List.getElem?_eq_none (by omega)];rfl
structure Oi (n : Nat) (all : List Msg) (L : Lgs) (ids : List Nat) : Prop where
 nn : L.n = n
 inv : Inv L
 run : RunF L (ids.map (mAt all))
 fin : stF L (ids.map (mAt all)) = lgsOf n all
 out : ∀ p ∈ outF L (ids.map (mAt all)), p ∈ outF (Lgs.new n) all
 lt : ∀ j ∈ ids, j < all.length
 rise : ids.Pairwise (· < ·)
 li : LI L (all.length - ids.length)
 ni : NI L
 old : ∀ j, j < all.length → j ∉ ids → (mAt all j).number ≤ L.known (orgI (mAt all j))
theorem Oi.new {n : Nat} {all : List Msg} (hW : WOK n all) (hv : ∀ m ∈ all, 0 ≤ m.body.view) (h3 : 3 ≤ n) (h11 : n ≤ 11) : Oi n all (Lgs.new n) (List.range all.length) := by
 refine ⟨rfl, ⟨⟨0, LI.new h3 h11⟩, CI.new n⟩, ?_, ?_, fun p hp => ?_, fun j hj => List.mem_range.1 hj, List.pairwise_lt_range, by rw [List.length_range, Nat.sub_self]; exact LI.new h3 h11, NI.new n, fun j hj hn => absurd (List.mem_range.2 hj) hn⟩
 ·rw [map_mAt]
  have := world_run hW hv all.length (Nat.le_refl _);rwa [List.take_length] at this
 ·rw [map_mAt, stF_lgsOf n]; rfl
 ·rw [map_mAt] at hp; exact hp
variable {L : Lgs} {h : Nat} {tl : List Nat}
theorem Oi.head {all : List Msg} (hO : Oi n all L (h :: tl)) : Rdy L (mAt all h) := hO.run.1
theorem rise_len : ∀ {ids : List Nat} {a N : Nat}, ids.Pairwise (· < ·) → (∀ j ∈ ids, a ≤ j ∧ j < a + N) → ids.length ≤ N
 | [], _, _, _, _ => Nat.zero_le _
 | h :: tl, a, 0, _, hl => by have := hl h (by simp); omega
 | h :: tl, a, N + 1, hr, hl => by
  rw [List.pairwise_cons] at hr
  have h1 := hl h (by simp)
  have := rise_len (ids := tl) (a := a + 1) (N := N) hr.2 fun j hj => by
   have := hl j (List.mem_cons_of_mem _ hj)
   have := hr.1 j hj
   omega
  rw [List.length_cons]
  omega
variable {ids : List Nat}
theorem Oi.len {all : List Msg} (h : Oi n all L ids) : ids.length ≤ all.length :=
 rise_len (a := 0) h.rise fun j hj => ⟨Nat.zero_le _, by have := h.lt j hj; omega⟩
theorem Oi.take {n : Nat} {all : List Msg} (hW : WOK n all) (hv : ∀ m ∈ all, 0 ≤ m.body.view) {L : Lgs} {ids : List Nat} (h : Oi n all L ids) {j : Nat} {m : Msg} (hm : all[j]? = some m) :
  (∃ X Y, ids = X ++ j :: Y ∧ Rdy L m ∧ (L.take m).1 = (cBit n all j, 0) ∧ Oi n all (L.take m).2 (X ++ Y)) ∨ (¬ Rdy L m ∧ L.take m = ((false, 12), L)) := by
 have hj := (List.getElem?_eq_some_iff.1 hm).1;have hme := mAt_at hm
 have hok := hW j m hm;have hf := hok.fits
 unfold fitsB at hf;simp only [Bool.and_eq_true] at hf;obtain ⟨h1, h2, h3, _⟩ := hf;have h2 := of_decide_eq_true h2;by_cases hr : Rdy L m
 ·left
  have hin : j ∈ ids := by
   by_cases hin : j ∈ ids
   ·exact hin
   ·have := h.old j hj hin;rw [hme] at this
    have := hr.num;omega
  obtain ⟨X, Y, rfl⟩ := List.append_of_mem hin;have hrun := h.run;have hfin := h.fin
  have hout := h.out;rw [List.map_append, List.map_cons, hme] at hrun hfin hout
  have hX : ∀ x ∈ X.map (mAt all), orgI x ≠ orgI m := by
   have q1 := RunF.app.1 hrun;have q2 : Rdy (stF L (X.map (mAt all))) m := q1.2.1
   have q3 := q2.num;rw [run_known q1.1] at q3
   have q4 := hr.num; have q5 : cnt (X.map (mAt all)) (orgI m) = 0 := by omega
   intro x hx e; have : x ∈ strm (X.map (mAt all)) (orgI m) := by unfold strm; rw [List.mem_filter]; exact ⟨hx, decide_eq_true e⟩
   unfold cnt at q5;rw [List.eq_nil_of_length_eq_zero q5] at this; cases this
  obtain ⟨i1, i2, i3⟩ := run_front h.inv hr hX hrun
  have hc : (L.counts m).1 = cBit n all j := by
   have e1 : (m, (L.counts m).1) ∈ outF (Lgs.new n) all := hout _ (i3.mem_iff.1 (by show _ ∈ (m, (L.counts m).1) :: _; exact List.mem_cons_self))
   have e2 : (m, cBit n all j) ∈ outF (Lgs.new n) all := by
    have := outF_get (L := Lgs.new n) hm;rw [stF_lgsOf n] at this
    rw [cBit_at hm];exact List.mem_of_getElem? this
   have hrn := world_run hW hv all.length (Nat.le_refl _);rw [List.take_length] at hrn
   exact outF_one hrn e1 e2
  refine ⟨X, Y, rfl, hr, by rw [hr.take, hc], ?_⟩;refine ⟨by rw [Lgs.take_n]; exact h.nn, h.inv.take hr, ?_, ?_, fun p hp => ?_, fun k hk => h.lt k ?_, ?_, ?_, h.ni.take m, fun k hk hn => ?_⟩
  ·rw [List.map_append]; exact i1.2
  ·rw [List.map_append]; exact i2.trans hfin
  ·rw [List.map_append] at hp;exact hout p (i3.mem_iff.1 (List.mem_cons_of_mem _ hp))
  ·rcases List.mem_append.1 hk with h4 | h4
   ·exact List.mem_append_left _ h4
   ·exact List.mem_append_right _ (List.mem_cons_of_mem _ h4)
  ·have := h.rise;rw [List.pairwise_append, List.pairwise_cons] at this
   rw [List.pairwise_append];exact ⟨this.1, this.2.1.2, fun a ha b hb => this.2.2 a ha b (List.mem_cons_of_mem _ hb)⟩
  ·have hlen := h.len; have e1 : (X ++ j :: Y).length = (X ++ Y).length + 1 := by simp; omega
   have e2 : all.length - (X ++ Y).length = (all.length - (X ++ j :: Y).length) + 1 := by omega
   rw [e2];exact h.li.take (hv m (List.mem_of_getElem? hm))
  ·rw [take_known hr];by_cases hkj : k = j
   ·subst hkj;rw [hme, zae]
    have := hr.num;omega
   ·have := h.old k hk (fun hin2 => by
     rcases List.mem_append.1 hin2 with h4 | h4
     ·exact hn (List.mem_append_left _ h4)
     ·rcases List.mem_cons.1 h4 with h5 | h5
      ·exact hkj h5
      ·exact hn (List.mem_append_right _ h5))
    by_cases e : orgI (mAt all k) = orgI m
    ·rw [e, zae]; rw [e] at this; omega
    ·rw [zaj _ _ e]; exact this
 ·right;refine ⟨hr, ?_⟩;unfold Lgs.take;rw [if_neg, if_pos]
  ·by_cases hn : m.number = L.known (orgI m) + 1
   ·right
    cases hd : depsIn m L.known with
    | false => rfl
    | true =>
     refine absurd ⟨h1, by rw [h.nn]; exact h2, by rw [h.nn]; exact h3, hv m (List.mem_of_getElem? hm), hn, fun i hi => ?_⟩ hr;unfold depsIn at hd;exact of_decide_eq_true (List.all_eq_true.1 hd i (List.mem_range.2 hi))
   ·exact .inl hn
  ·rw [h.nn];rintro (e | e | e)
   ·rw [h1] at e; cases e
   ·omega
   ·have : qIn n m = true := h3;rw [this] at e; cases e
theorem Oi.done {all : List Msg} (h : Oi n all L []) : L = lgsOf n all := h.fin
structure Dry (N ord i e : Nat) (ids : List Nat) : Prop where
 lo : ord ≤ e
 hi : e ≤ ord + (N - ids.length) * N
 young : i ≤ ord → e = ord
 dry : ∀ t, e ≤ t → t < i → ∀ h tl, ids = h :: tl → N - 1 - t % N ≠ h
theorem Dry.new (N ord : Nat) (ids : List Nat) : Dry N ord 0 ord ids := ⟨Nat.le_refl _, by omega, fun _ => rfl, fun t h1 h2 => by omega⟩
variable {N ord e : Nat}
theorem Dry.next {i : Nat} (D : Dry N ord i e (h :: tl)) (hh : h < N) (hi : ord ≤ i) : i < e + N := by
 have h1 : N * (e / N) + e % N = e := Nat.div_add_mod e N;have h2 : e % N < N := Nat.mod_lt _ (by omega)
 have h3 : (e + ((N - 1 - h + N - e % N) % N)) % N = N - 1 - h := by
  rw [Nat.add_mod_mod]
  have e1 : e + (N - 1 - h + N - e % N) = (N - 1 - h) + N * (e / N + 1) := by
   rw [Nat.mul_succ];generalize N * (e / N) = z at h1;omega
  rw [e1, Nat.add_mul_mod_self_left, Nat.mod_eq_of_lt (by omega)]
 have h4 : (N - 1 - h + N - e % N) % N < N := Nat.mod_lt _ (by omega);generalize (N - 1 - h + N - e % N) % N = z at h3 h4
 rcases Nat.lt_or_ge (e + z) i with h5 | h5
 ·exact absurd (by rw [h3]; omega) (D.dry (e + z) (by omega) h5 h tl rfl)
 ·omega
theorem Dry.bound {i : Nat} (D : Dry N ord i e (h :: tl)) (hh : h < N) : i < ord + N * N + 1 := by
 rcases Nat.lt_or_ge i ord with h1 | h1
 ·omega
 ·have h2 := D.next hh h1;have h3 := D.hi
  have h4 : (N - (h :: tl).length + 1) * N ≤ N * N := Nat.mul_le_mul_right _ (by simp; omega);rw [Nat.succ_mul] at h4
  omega
theorem Dry.no {i : Nat} (D : Dry N ord i e ids) (hn : ord ≤ i → ∀ h tl, ids = h :: tl → N - 1 - i % N ≠ h) : Dry N ord (i + 1) e ids :=
 ⟨D.lo, D.hi, fun h => D.young (by omega), fun t h1 h2 h tl e2 => by
  by_cases e3 : t = i
  ·subst e3; exact hn (Nat.le_trans D.lo h1) h tl e2
  ·exact D.dry t h1 (by omega) h tl e2⟩
variable {X Y : List Nat}
theorem Dry.yes {i : Nat} (D : Dry N ord i e (X ++ j :: Y)) (hl : (X ++ j :: Y).length ≤ N) (hlt : ord ≤ i → i < e + N) : Dry N ord (i + 1) (if i < ord then ord else i + 1) (X ++ Y) := by
 have hlen : (X ++ j :: Y).length = (X ++ Y).length + 1 := by simp; omega
 have hhi := D.hi;by_cases hi : i < ord
 ·rw [if_pos hi];exact ⟨Nat.le_refl _, by omega, fun _ => rfl, fun t h1 h2 => by omega⟩
 ·rw [if_neg hi];have h5 := hlt (by omega);refine ⟨by omega, ?_, fun h => by omega, fun t h1 h2 => by omega⟩
  rw [hlen] at hhi hl; have e1 : N - (X ++ Y).length = (N - ((X ++ Y).length + 1)) + 1 := by omega
  rw [e1, Nat.succ_mul];omega
def gC (n : Nat) (all : List Msg) (i : Nat) : Nat → Value := fun j => .bool (decide (j < i) && cBit n all j)
def gT (ids : List Nat) : Nat → Value := fun j => .bool (!decide (j ∈ ids))
theorem zeros_bool : ∀ N : Nat, zeros [.bool false] N = rngV N (fun _ => .bool false)
 | 0 => rfl
 | N + 1 => by
  show [.bool false] ++ zeros [.bool false] N = _
  rw [zeros_bool N]
  unfold rngV
  rw [List.range_succ_eq_map, List.map_cons, List.map_map]
  rfl
theorem gC_zero (n : Nat) (all : List Msg) (N : Nat) : zeros [.bool false] N = rngV N (gC n all 0) := by
 rw [zeros_bool]; exact rngV_congr fun j _ => by unfold gC; rw [decide_eq_false (Nat.not_lt_zero j)]; rfl
theorem gC_next (n : Nat) (all : List Msg) (i : Nat) : updF (gC n all i) i (.bool (cBit n all i)) = gC n all (i + 1) := by
 funext j;by_cases e : j = i
 ·subst e; rw [zae]; unfold gC; rw [decide_eq_true (Nat.lt_succ_self j)]; rfl
 ·rw [zaj _ _ e];unfold gC;congr 2;exact decide_eq_decide.2 ⟨fun h => by omega, fun h => by omega⟩
theorem gT_zero (N : Nat) : zeros [.bool false] N = rngV N (gT (List.range N)) := by
 rw [zeros_bool]; exact rngV_congr fun j hj => by unfold gT; rw [decide_eq_true (List.mem_range.2 hj)]; rfl
theorem gT_next (h : (X ++ j :: Y).Pairwise (· < ·)) : updF (gT (X ++ j :: Y)) j (.bool true) = gT (X ++ Y) := by
 rw [List.pairwise_append, List.pairwise_cons] at h
 have hno : j ∉ X ++ Y := fun hm => by
  rcases List.mem_append.1 hm with h1 | h1
  ·have := h.2.2 j h1 j (by simp); omega
  ·have := h.2.1.1 j h1; omega
 funext k;by_cases e : k = j
 ·subst e; rw [zae]; unfold gT; rw [decide_eq_false hno]; rfl
 ·rw [zaj _ _ e];unfold gT;congr 2;refine decide_eq_decide.2 ?_;rw [List.mem_append, List.mem_append, List.mem_cons];exact ⟨fun h => h.elim .inl fun h => h.elim (fun h => absurd h e) .inr, fun h => h.elim .inl fun h => .inr (.inr h)⟩
theorem rd_row {k : Nat} {T : TypeId} {l : List Value} {v : Value} (h : At A (row b T l) A' (row b T l)) (hv : l[k]? = some v) : Rd1 f A b (0 + k * 1) v := by
 rw [Nat.zero_add, Nat.mul_one]; exact Rd1.ofRow h (by rw [nthV_eq]; exact hv)
section
variable (f : Frag) (F : List HP)
theorem logOrder_fn (htab : TabAt f) {n8 : UInt8} {xs : List A15} (hat : ListAt f p 12 A15.vals xs) (hh : ∀ x ∈ xs, x.Has f) (hxl : xs.length ≤ 9223372036854775807)
  {op : Option Addr} {oc : Nat} {os : List UInt8} (hos : BAt f op os) (hol : os.length ≤ 9223372036854775807) :
  Fn Tryz.prog 5 [.int .u8 (n8.toNat : Nat), .slice p xs.length c, .slice op os.length oc] f F (Ret (.bool true) f F) := by
 have hfew := few15_fn f F (c := c) hat hxl
 cases hf : few15 xs with
 | false =>
  rw [hf] at hfew;refine Fn.e3 Tryz.func5 Tryz.ntmps5 fun base => ?_;refine qeH ?_;refine gR ?_;exact qbH
 | true =>
  rw [hf] at hfew;obtain ⟨hl100, hq20⟩ := few15_all hf;by_cases h80 : xs.length ≤ 80
  ·by_cases h150 : os.length ≤ 150
   ·obtain ⟨n, hn8⟩ : ∃ n, n = 3 + 2 * (n8.toNat % 5) := ⟨_, rfl⟩; have hn3 : 3 ≤ n ∧ n ≤ 11 := by omega
    have hodd : n % 2 = 1 := by omega
    have hacts := fun G => acts15_fn f G hn8 (c := c) hat (fun x hx => ⟨hh x hx, hq20 x hx⟩) hl100; have hinv : WOK n (world15 n xs).w.all := by have := (world15_inv hn3.1 hn3.2 xs xs.length (by omega)).w.ok; rwa [List.take_length] at this
    have hwl : (world15 n xs).w.all.length ≤ 100 := by have := world15_len n xs xs.length; rw [List.take_length] at this; omega
    generalize world15 n xs = W15' at *;refine Fn.e3 Tryz.func5 Tryz.ntmps5 fun base => ?_;refine qeH ?_;refine gR ?_;refine H.cl (hacts _) fun v f' A' hr => ?_;obtain ⟨g, wb, rfl, hd, rfl, rfl⟩ := hr;have le0 := Le.un f g;generalize un f g = f0 at *
    refine H.world15 fun g1 kb ap ac lb l hd1 hwat => ?_;have le1 := le0.trans (Le.un f0 g1);generalize un f0 g1 = f1 at *
    have hta := tab_mono htab le1;clear hacts hfew
    obtain ⟨W, hW⟩ : ∃ W, W = W15'.w := ⟨_, rfl⟩;rw [← hW] at hwat hinv hwl;have hgv := hwat.good_v;have hlm := hwat.m
    have hll : l.length = W.all.length := by rw [← hlm, List.length_map]
    refine gG ?_;refine H.Au rfl rfl rfl (plnew_fn f1 _ (n := n) (fewz_odd hn8)) fun v f' A' hr => ?_;obtain ⟨g2, pa, hd2, rfl, rfl, rfl⟩ := hr;have le2 := Le.un f1 g2;have le12 := le1.trans le2
    have hwa2 := hwat.mono le2;have hta2 := tab_mono hta le2
    generalize un f1 g2 = f2 at *;refine ge ?_;refine H.Au rfl rfl rfl (plnew_fn f2 _ (n := n) (fewz_odd hn8)) fun v f' A' hr => ?_;obtain ⟨g3, pb, hd3, rfl, rfl, rfl⟩ := hr;have le3 := Le.un f2 g3;have le13 := le12.trans le3
    have hwa3 := hwa2.mono le3;have hta3 := tab_mono hta2 le3
    refine qfx ?_;refine H.imp (plog_up le3) ?_;generalize un f2 g3 = f3 at *;obtain ⟨N, hN⟩ : ∃ N, N = W.all.length := ⟨_, rfl⟩;rw [← hN] at hll hwl;have hoi := Oi.new hinv hgv hn3.1 hn3.2;have hdry := Dry.new N os.length (List.range N)
    rw [← hN] at hoi;rw [hll];refine ge ?_;refine H.makeS (m := N) (zs := [.bool false]) rfl rfl rfl (by omega) (by omega) rfl rfl (by decide) (by omega) (by omega) rfl fun cb => ?_;rw [gC_zero n W.all];refine gW ?_;refine qfg ?_;refine H.pf (x := row cb _ _) ?_;refine qfx ?_
    refine H.lo (ι := Nat) (fun i => [(13, .int .i64 (i : Int)), (12, .slice (some ⟨cb, 0, none⟩) N N), (10, .pointer (some ⟨pb, 0, none⟩)), (8, .pointer (some ⟨pa, 0, none⟩)), (7, .pointer (some ⟨wb, 0, none⟩)), (2, .slice op os.length oc)]) (fun _ => f3)
     (fun i => plogH f3 pa (lgsOf n (W.all.take i)) :: row cb 4 (rngV N (gC n W.all i)) :: plogH f3 pb (Lgs.new n) :: row wb 37 (w15C kb n ap N ac lb) :: F)
     (fun i => i ≤ N) (fun i => N - i) 0 (Nat.zero_le _) fun i hi => ?_
    have hi : i ≤ N := hi;by_cases hlt : i < N
    ·obtain ⟨b, off, rfl, rdA⟩ := hwa3.a.all MV.len (by decide) (by omega);obtain ⟨y, hy⟩ : ∃ y, l[i]? = some y := ⟨_, List.getElem?_eq_getElem (by omega)⟩; have hym : W.all[i]? = some y.m := by rw [← hlm, List.getElem?_map, hy]; rfl
     have hyg := hwa3.g y (List.mem_of_getElem? hy); have hlen : (W.all.take i).length = i := by rw [List.length_take]; omega
     have hLI := lgsOf_LI hn3.1 hn3.2 (W.all.take i) (fun x hx => hgv x (List.mem_of_mem_take hx));rw [hlen] at hLI
     have htk := fun G => pltakeA_fn f3 G hta3 (Le.refl f3) (lb := pa) hLI (by omega) (lgsOf_NI _ _) (by rw [lgsOf_n]; exact hodd) hyg;obtain ⟨w1, w2, w3⟩ := world_take hinv hym
     rw [w1, ← cBit_at (n := n) hym] at htk;clear w1 w2 w3
     have hset : SetV (rngV N (gC n W.all i)) (0 + i * 1) (.bool (cBit n W.all i)) (rngV N (gC n W.all (i + 1))) := by
      rw [Nat.zero_add, Nat.mul_one, ← gC_next];exact rngV_set _ _ hlt
     refine gO ?_;refine qfl ?_;refine H.Ae (ls := y.vals) rfl rfl rfl (rdA _ _ _ _ (Le.refl f3) hy) rfl rfl ?_;refine qfx ?_;refine H.cr (htk _) ?_;refine ge ?_;refine qfl ?_;refine H.Az rfl rfl rfl rfl (by repeat constructor) hset ?_;refine gE ?_;exact H.ag (i + 1) (by show i + 1 ≤ N; omega) (by show N - (i + 1) < N - i; omega)
    ·have ei : N = i := by omega
     subst ei;rw [hN, List.take_length, ← hN];refine gO ?_;refine H.makeS (m := N) (zs := [.bool false]) rfl rfl rfl rfl rfl rfl rfl (by decide) (by omega) (by omega) rfl fun tb => ?_;rw [gT_zero N];refine gN ?_;refine H.pf (x := row cb _ _) ?_;refine H.pf (x := row tb _ _) ?_;refine qfg ?_
     refine H.loop (ι := Nat × Nat × Lgs × List Nat) (fun s => [(18, .int .i64 (s.1 : Int)), (17, .int .i64 (s.2.2.2.length : Int)), (16, .slice (some ⟨tb, 0, none⟩) N N), (12, .slice (some ⟨cb, 0, none⟩) N N), (10, .pointer (some ⟨pb, 0, none⟩)), (8, .pointer (some ⟨pa, 0, none⟩)), (7, .pointer (some ⟨wb, 0, none⟩)), (2, .slice op os.length oc)]) (fun _ => f3)
      (fun s => plogH f3 pb s.2.2.1 :: row tb 4 (rngV N (gT s.2.2.2)) :: row cb 4 (rngV N (gC n W.all N)) :: plogH f3 pa (lgsOf n W.all) :: row wb 37 (w15C kb n ap N ac lb) :: F)
      (fun s => Oi n W.all s.2.2.1 s.2.2.2 ∧ Dry N os.length s.1 s.2.1 s.2.2.2) (fun s => os.length + N * N + 1 - s.1)
      (0, os.length, Lgs.new n, List.range N) ⟨hoi, hdry⟩ ⟨rfl, by rw [show (List.range N).length = N from List.length_range]; rfl, rfl, rfl, rfl, rfl, rfl, rfl, trivial⟩ rfl rfl fun s hs => ?_
     clear hoi hdry;obtain ⟨i, ed, L, ids⟩ := s;obtain ⟨hO, hD⟩ : Oi n W.all L ids ∧ Dry N os.length i ed ids := hs;show H _ _ _ [(18, .int .i64 (i : Int)), (17, .int .i64 (ids.length : Int)), _, _, _, _, _, _] f3 (plogH f3 pb L :: row tb _ (rngV N (gT ids)) :: _ :: _ :: _ :: F) _
     cases hids : ids with
     | nil =>
      subst hids;obtain rfl := hO.done;have hLI := lgsOf_LI hn3.1 hn3.2 W.all hgv;rw [← hN] at hLI
      have hni : (lgsOf n W.all).n = n := lgsOf_n n W.all;obtain ⟨Lf, hLf⟩ : ∃ Lf, Lf = lgsOf n W.all := ⟨_, rfl⟩
      rw [← hLf] at hLI hni ⊢;have hva := fun G => plviews_fn f3 G (fl := f3) (lb := pa) hLI (by omega);have hvb := fun G => plviews_fn f3 G (fl := f3) (lb := pb) hLI (by omega)
      have hlog := fun e' G lb v => pllogO_fn e' G (fl := e') (lb := lb) hLI (by omega) v;have hvo := fun e' G lb o (ho : o < n) v => plvoted_fn e' G (Le.refl e') (lb := lb) (l := Lf) (by omega) (o := o) (by omega) (r := ((o + 1 : Nat) : Int)) (v := v) rfl
      have hal := hLI.al; have hvl : (viewsU Lf).length ≤ 200 := by unfold viewsU; rw [List.length_map]; have := hLI.vl; omega
      have hvm : ∀ v, v ∈ viewsU Lf ↔ ∃ w, Lf.vw v = some w := fun v => viewsU_mem;clear hO hD hLI
      obtain ⟨V, hV⟩ : ∃ V, V = viewsU Lf := ⟨_, rfl⟩;rw [← hV] at hvl hvm;refine gY ?_;refine qfx ?_;refine H.cl (hva _) fun v f' A' hR => ?_;obtain ⟨np, nc, rfl, hff, rfl⟩ := hR;rw [hff, ← hV];clear hff hva;refine gK ?_;refine qfg ?_;refine H.cl (hvb _) fun v f' A' hR => ?_;obtain ⟨nq, nd, rfl, hff, rfl⟩ := hR;rw [hff, ← hV];clear hff hvb;refine ga ?_;refine qgI ?_;refine H.pd (x := row cb _ _) ?_;refine qfg ?_;refine qfx ?_;refine H.pf (x := slc nq _ _ _ _ _) ?_;refine H.pf (x := slc np _ _ _ _ _) ?_
      refine H.lo (ι := Nat × Frag) (fun s => [(24, .int .i64 (s.1 : Int)), (23, .slice nq V.length nd), (22, .slice np V.length nc), (10, .pointer (some ⟨pb, 0, none⟩)), (8, .pointer (some ⟨pa, 0, none⟩)), (7, .pointer (some ⟨wb, 0, none⟩))]) (fun s => s.2)
       (fun s => slc np V.length nc 31 1 (V.flatMap uV) :: slc nq V.length nd 31 1 (V.flatMap uV) :: plogH s.2 pa Lf :: plogH s.2 pb Lf :: row wb 37 (w15C kb n ap N ac lb) :: F)
       (fun s => s.1 ≤ V.length ∧ Le f3 s.2) (fun s => V.length - s.1)
       (0, f3) ⟨Nat.zero_le _, Le.refl f3⟩ fun s hs => ?_
      obtain ⟨k, e⟩ := s;obtain ⟨hk, hle⟩ : k ≤ V.length ∧ Le f3 e := hs;show H _ _ _ [(24, .int .i64 (k : Int)), _, _, _, _, _] e (slc np _ _ _ _ _ :: slc nq _ _ _ _ _ :: plogH e pa Lf :: plogH e pb Lf :: _ :: F) _;by_cases hkl : k < V.length
      ·obtain ⟨v, hv⟩ : ∃ v, V[k]? = some v := ⟨_, List.getElem?_eq_getElem hkl⟩;obtain ⟨w, hw⟩ := (hvm v).1 (List.mem_of_getElem? hv);have hwa := hal w (vw_v hw).2;have hl1 := fun G => hlog e G pa v
       rw [hw] at hl1;refine H.Bh (p := np) (n0 := V.length) (c := nc) (T := 31) (sz := 1) (xs := V.flatMap uV) (.here _ _ _) (by omega) fun s1 hp => ?_;subst hp;refine H.Bh (p := nq) (n0 := V.length) (c := nd) (T := 31) (sz := 1) (xs := V.flatMap uV) (.there _ (.here _ _ _)) (by omega) fun s2 hp => ?_;subst hp;refine gH ?_;refine qeh ?_;refine qfx ?_;refine H.cl (hl1 _) fun v f' A' hR => ?_;obtain ⟨p3, c3, rfl, hff, rfl⟩ := hR;rw [hff];clear hff hl1;have hao : allO (some w) = w.all := rfl;rw [hao]
       refine H.freeze (.here _ _) fun g5 hg5 hd5 => ?_;have hat3 : ListAt (un e g5) p3 40 Req.vals w.all := (zbu Req.len hg5).mono (Le.right hd5);have hup := Le.un e g5
       have hle2 := hle.trans hup;clear hg5 hd5
       generalize un e g5 = e2 at *;refine H.imp (plog_up hup) ?_;refine qfg ?_;refine H.imp (plog_up hup) ?_;have hl2 := fun G => hlog e2 G pb v;rw [hw] at hl2
       refine gg ?_;refine qeh ?_;refine qfg ?_;refine H.cl (hl2 _) fun v f' A' hR => ?_;obtain ⟨p4, c4, rfl, hff, rfl⟩ := hR;rw [hff];clear hff hl2;rw [hao];clear hao;refine H.freeze (.here _ _) fun g6 hg6 hd6 => ?_;have hat4 : ListAt (un e2 g6) p4 40 Req.vals w.all := (zbu Req.len hg6).mono (Le.right hd6);have hup6 := Le.un e2 g6
       have hle3 := hle2.trans hup6;have hat34 := hat3.mono hup6
       clear hg6 hd6;generalize un e2 g6 = e3 at *;refine H.imp (plog_up hup6) ?_;refine qfx ?_;refine H.imp (plog_up hup6) ?_;have hsame := fun G => sameR_fn e3 G (ca := c3) (cb := c4) hat34 hat4 (by omega);generalize w.all = R at *
       refine gg ?_;refine qeS ?_;refine qgK ?_;refine HB.qu [0,1,2,3,4,5,6,7,8,9,10,11,12,13,14,15,16,17,18,19] 3 ?_;refine gB ?_;refine HQ.Ao (i := k) rfl rfl rfl rfl hkl rfl ?_;refine HQ.Ab rfl rfl rfl (rd_uV (.there _ (.here _ _ _)) hv) rfl ?_;refine gB ?_;refine HQ.Ao (i := k) rfl rfl rfl rfl hkl rfl ?_;refine HQ.Ab rfl rfl rfl (rd_uV (.here _ _ _) hv) rfl ?_;refine gZ ?_;refine qcS ?_;refine HB.ev 20 ?_;refine H.cr (hsame _) ?_;refine qcH ?_;refine HB.qu [21,22] 0 ?_;refine qeL ?_;refine gY ?_;refine qfg ?_;refine qfx ?_;refine qeS ?_
       refine H.lo (ι := Nat) (fun r => [(29, .int .i64 ((r + 1 : Nat) : Int)), (24, .int .i64 (k : Int)), (23, .slice (some ⟨s2, 0, none⟩) V.length nd), (22, .slice (some ⟨s1, 0, none⟩) V.length nc), (10, .pointer (some ⟨pb, 0, none⟩)), (8, .pointer (some ⟨pa, 0, none⟩)), (7, .pointer (some ⟨wb, 0, none⟩))]) (fun _ => e3)
        (fun _ => slc (some ⟨s1, 0, none⟩) V.length nc 31 1 (V.flatMap uV) :: slc (some ⟨s2, 0, none⟩) V.length nd 31 1 (V.flatMap uV) :: plogH e3 pa Lf :: plogH e3 pb Lf :: row wb 37 (w15C kb n ap N ac lb) :: F)
        (fun r => r ≤ n) (fun r => n - r) 0 (Nat.zero_le _) fun r hr => ?_
       have hr : r ≤ n := hr;by_cases hrn : r < n
       ·have hv1 := fun G => hvo e3 G pa r hrn v;have hv2 := fun G => hvo e3 G pb r hrn v
        generalize PM.voted (Lf.past r).all v = vo at hv1 hv2;refine gO ?_;refine qeh ?_;refine qfx ?_;refine H.cr (hv1 _) ?_;refine gg ?_;refine qeh ?_;refine qfg ?_;refine H.cr (hv2 _) ?_;refine gX ?_;refine H.bne (b := false) rfl rfl rfl rfl (bne_self_eq_false _) rfl ?_;refine ge ?_;refine qfx ?_;refine qeS ?_;exact H.ag (r + 1) (by show r + 1 ≤ n; omega) (by show n - (r + 1) < n - r; omega)
       ·skip;refine gP ?_;exact H.ag (k + 1, e3) ⟨by show k + 1 ≤ V.length; omega, hle3⟩ (by show V.length - (k + 1) < V.length - k; omega)
      ·skip;refine ga ?_;refine H.Ag rfl rfl rfl (works15_fn e _ (tab_mono hta3 hle)) ?_;refine gW ?_;refine H.pd (x := slc np _ _ _ _ _) ?_;refine H.pd (x := slc nq _ _ _ _ _) ?_;refine H.pd (x := plogH _ pa _) ?_;refine H.pd (x := plogH _ pb _) ?_;refine H.pd (x := row wb _ _) ?_;refine H.weakL (le13.trans hle) ?_;exact qao
     | cons h0 tl =>
      rw [← hids];have hlen := hO.len;rw [← hN] at hlen
      have hh0 : h0 < N := by rw [hN]; exact hO.lt h0 (by rw [hids]; simp)
      have hrd0 : Rdy L (mAt W.all h0) := by rw [hids] at hO; exact hO.head
      have hDb : i < os.length + N * N + 1 ∧ (os.length ≤ i → i < ed + N) := by
       rw [hids] at hD;exact ⟨hD.bound hh0, hD.next hh0⟩
      obtain ⟨NN, hNN⟩ : ∃ NN : Nat, NN = N * N := ⟨_, rfl⟩; have hNN2 : NN ≤ 10000 := by rw [hNN]; exact Nat.mul_le_mul hwl hwl
      rw [← hNN] at hDb; have hl0 : 0 < ids.length := by rw [hids]; simp
      obtain ⟨j, hj⟩ : ∃ j, j = if i < os.length then (os.getD i 0).toNat % N else N - 1 - i % N := ⟨_, rfl⟩
      have hjN : j < N := by
       rw [hj];split
       ·exact Nat.mod_lt _ (by omega)
       ·have := Nat.mod_lt i (show 0 < N by omega); omega
      have hin : i % N < N := Nat.mod_lt _ (by omega);obtain ⟨im, him⟩ : ∃ im, im = i % N := ⟨_, rfl⟩
      rw [← him] at hj hin;refine (fun (tail : True → ?T) => ?main) ?pf
      case main =>
       refine qgl ?_;refine gS ?_;refine HQ.rem (z := ((im : Nat) : Int)) rfl rfl rfl (by omega) (zal (a := i) (b := N) him.symm) rfl ?_;refine gV ?_;by_cases hio : i < os.length
       ·rw [if_pos hio] at hj;rcases hos with h | ⟨ob, ooff, ocs, oT, ofr, hop, hofb, hocs⟩
        ·rw [h] at hio; exact absurd hio (Nat.not_lt_zero _)
        ·have hocs := hocs i hio;rw [zbs hio] at hocs
         have hofb := (le13 _ _ hofb);generalize os.getD i 0 = x8 at hocs hj
         refine qgl ?_;refine gB ?_;refine HQ.Ao (b := ob) (off := ooff) (i := i) rfl (by rw [← hop]; rfl) rfl rfl hio rfl ?_;refine HQ.Ab rfl rfl rfl (by rw [Nat.mul_one]; exact Rd1.imm hofb hocs) rfl ?_;refine gS ?_;have hx8 := x8.toNat_lt;refine HQ.rem (z := ((j : Nat) : Int)) rfl rfl rfl (by omega) (by first | exact zal (a := x8.toNat) (b := N) hj.symm | (rw [wr_i64 (by omega)]; exact zal (a := x8.toNat) (b := N) hj.symm)) rfl ?_
         refine gV ?_;refine gG ?_;exact qaK
       ·rw [if_neg hio] at hj; have ej : (N : Int) - 1 - (im : Int) = (j : Int) := by omega
        refine gO ?_;rw [ej];exact qaK
      case pf =>
       intro _;clear hos hrd0;obtain ⟨b, off, rfl, rdA⟩ := hwa3.a.all MV.len (by decide) (by omega);obtain ⟨y, hy⟩ : ∃ y, l[j]? = some y := ⟨_, List.getElem?_eq_getElem (by omega)⟩; have hym : W.all[j]? = some y.m := by rw [← hlm, List.getElem?_map, hy]; rfl
       have hyg := hwa3.g y (List.mem_of_getElem? hy); have hcb : (rngV N (gC n W.all N))[j]? = some (.bool (cBit n W.all j)) := by rw [rngV_get _ hjN]; unfold gC; rw [decide_eq_true hjN]; rfl
       have htk := fun G => pltakeA_fn f3 G hta3 (Le.refl f3) (lb := pb) hO.li (by omega) hO.ni (by rw [hO.nn]; exact hodd) hyg;rcases hO.take hinv hgv hym with ⟨X, Y, hXY, hrd, hres, hO2⟩ | ⟨hnr, hres⟩
       ·have htk : ∀ G, Fn Tryz.prog 20 [.pointer (some ⟨pb, 0, none⟩), .agg y.vals.toArray] f3 (plogH f3 pb L :: G) (Ret (.tuple #[.bool (cBit n W.all j), .int .i64 0]) f3 (plogH f3 pb (L.take y.m).2 :: G)) := fun G => by
         have h := htk G; rw [hres] at h; exact h
        have hlXY : ids.length = (X ++ Y).length + 1 := by rw [hXY]; simp; omega
        have hjin : (rngV N (gT ids))[j]? = some (.bool false) := by
         rw [rngV_get _ hjN];unfold gT;rw [decide_eq_true (show j ∈ ids by rw [hXY]; simp)];rfl
        have hset : SetV (rngV N (gT ids)) (0 + j * 1) (.bool true) (rngV N (gT (X ++ Y))) := by
         have hr := hO.rise;rw [hXY] at hr ⊢
         rw [Nat.zero_add, Nat.mul_one, ← gT_next hr];exact rngV_set _ _ hjN
        have hD2 : Dry N os.length (i + 1) (if i < os.length then os.length else i + 1) (X ++ Y) := by
         rw [hXY] at hD hlen;exact hD.yes hlen hDb.2
        generalize (L.take y.m).2 = L2 at *;refine qeQ ?_;refine H.Ao (i := j) rfl rfl rfl rfl hjN rfl ?_;refine H.Ab rfl rfl rfl (rd_row (by repeat constructor) hjin) rfl ?_;refine gK ?_;refine H.Ao (i := j) rfl rfl rfl rfl hjN rfl ?_;refine H.Ab rfl rfl rfl (rd_row (by repeat constructor) hcb) rfl ?_;refine H.bne (b := false) rfl rfl rfl rfl (bne_self_eq_false _) rfl ?_;refine ge ?_;refine H.Ao (i := j) rfl rfl rfl rfl hjN rfl ?_;refine H.Az rfl rfl rfl rfl (by repeat constructor) hset ?_;refine gE ?_;refine H.pf (x := row tb _ _) ?_;refine qfg ?_;exact H.Bl (i + 1, (if i < os.length then os.length else i + 1), L2, X ++ Y) ⟨hO2, hD2⟩ (by show os.length + N * N + 1 - (i + 1) < os.length + N * N + 1 - i; rw [← hNN]; omega) ⟨rfl, (by show _ = some (Value.int .i64 (((X ++ Y).length : Nat) : Int)); rw [show (((X ++ Y).length : Nat) : Int) = (ids.length : Int) - 1 by omega]; rfl), rfl, rfl, rfl, rfl, rfl, rfl, trivial⟩ rfl rfl
       ·have htk : ∀ G, Fn Tryz.prog 20 [.pointer (some ⟨pb, 0, none⟩), .agg y.vals.toArray] f3 (plogH f3 pb L :: G) (Ret (.tuple #[.bool false, .int .i64 12]) f3 (plogH f3 pb L :: G)) := fun G => by
         have h := htk G; rw [hres] at h; exact h
        have hD2 : Dry N os.length (i + 1) ed ids := hD.no fun hio h tl2 e2 e3 => by
         rw [if_neg (by omega), him] at hj;rw [e3] at hj;subst hj;rw [e2] at hO
         have := hO.head;rw [mAt_at hym] at this
         exact hnr this
        refine qeQ ?_;refine H.dq ?_;refine gZ ?_;refine ga ?_;refine qfg ?_;exact H.ag (i + 1, ed, L, ids) ⟨hO, hD2⟩ (by show os.length + N * N + 1 - (i + 1) < os.length + N * N + 1 - i; rw [← hNN]; omega)
   ·skip;refine Fn.e3 Tryz.func5 Tryz.ntmps5 fun base => ?_;refine qeH ?_;refine gX ?_;exact qbH
  ·skip;refine Fn.e3 Tryz.func5 Tryz.ntmps5 fun base => ?_;refine qeH ?_;refine gU ?_;exact qbH
end
end Go.Proofs.YtgdhaledfjnfgaaGreatDoor

namespace Go.Proofs.YtgdhaledfjnfgaaGreatDoor
open Go Go.ChangeShapes Go.WideShapes Go.RowKit Go.Deep
theorem Tryz.own : ownKnob Tryz.prog.godebug = none := by kernel_rfl
theorem Tryz.laidOut : laidOutB Tryz.prog = true := by kernel_rfl
abbrev laidL : List (String × DataW Unit) := [("ratchet/sha.table", Rows.laid_ratchet_sha_table)]
theorem door_met (os : Os) (args : Array Value) : laidMetH Tryz.prog laidL ((World.doorLaid Tryz.prog 400 os).forCall (fun _ _ => 0) ⟨#[], args, []⟩).memory :=
 laidMetH_of_parts3 (fuel := 8) (laidMet_of_run' 8 (by kernel_rfl) (by kernel_rfl)) (by kernel_rfl) (by kernel_rfl)
theorem tab_eq : (Rows.laid_ratchet_sha_table : DataW Unit) = .agg ((Sha.k.map fun x => ((x.toNat : Nat) : Int)).map fun z => .lit (.int .u32 z)) := by kernel_rfl
theorem tab_of {W : World} (h : laidMetH Tryz.prog laidL W) : TabAt (memOf W) := by
 have h2 : laidMetH Tryz.prog [("ratchet/sha.table", .agg ((Sha.k.map fun x => ((x.toNat : Nat) : Int)).map fun z => .lit (.int .u32 z)))] W := by rw [← tab_eq]; exact h
 exact laid_ints h2 (by kernel_rfl) (by kernel_rfl) (t := 250) (e := 223) Tryz.underlying250 Tryz.underlying223 (by kernel_rfl)
end Go.Proofs.YtgdhaledfjnfgaaGreatDoor
