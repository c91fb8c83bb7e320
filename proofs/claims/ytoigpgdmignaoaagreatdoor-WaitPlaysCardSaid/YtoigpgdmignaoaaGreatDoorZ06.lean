/- Parts of the proof, one behind the other, each under its own heading. No conditions. -/
import Derived.Test.YtoigpgdmignaoaaGreatDoorZ05
import Derived.OpenShut
import Derived.Test.YtoigpgdmignaoaaGreatDoorRows
set_option linter.unusedSectionVars false
set_option linter.unusedSimpArgs false
set_option linter.unusedVariables false
/- Layers 3 and 7: parts put together, the program's tags of numbers, and whether a tag is right. Condition: the table of the standard stands in the fragment. -/
namespace Go.Proofs.YtoigpgdmignaoaaGreatDoor
open Go
structure BP where
 p : Option Addr
 c : Nat
 l : List UInt8
def BP.val (x : BP) : Value := .slice x.p x.l.length x.c
def flat (ps : List BP) : List UInt8 := ps.flatMap BP.l
def upto (ps : List BP) (i : Nat) : List UInt8 := flat (ps.take i)
theorem upto_succ {ps : List BP} {i : Nat} {x : BP} (h : ps[i]? = some x) : upto ps (i + 1) = upto ps i ++ x.l := by
 unfold upto flat
 rw [List.take_add_one, h, List.flatMap_append]
 simp
theorem upto_le (ps : List BP) (i : Nat) : (upto ps i).length ≤ (flat ps).length := by
 have : flat ps = upto ps i ++ flat (ps.drop i) := by
  unfold upto flat
  rw [← List.flatMap_append, List.take_append_drop]
 rw [this, List.length_append]
 omega
theorem upto_all (ps : List BP) : upto ps ps.length = flat ps := by unfold upto; rw [List.take_length]
section
variable (f : Frag) (F : List HP)
theorem bconcat_fn {sb : Nat} {ps : List BP} (hs : ∀ x ∈ ps, ∀ G, Src Tryz.prog f (G ++ F) (.slice x.p x.l.length x.c) 1 x.l.length (bytesV x.l)) (hl : (flat ps).length ≤ 1000000) (hn : ps.length ≤ 1000) :
  Fn Tryz.prog 124 [.slice (some ⟨sb, 0, none⟩) ps.length ps.length] f (row sb 55 (ps.map BP.val) :: F) (BytesR (flat ps) f F) := by
 have hget : ∀ i, i < ps.length → ∃ x, ps[i]? = some x ∧ (ps.map BP.val)[i]? = some (.slice x.p x.l.length x.c) ∧ x ∈ ps := fun i h =>
  ⟨ps[i], List.getElem?_eq_getElem h, by rw [List.getElem?_map, List.getElem?_eq_getElem h]; rfl, List.getElem_mem h⟩
 have hu := upto_le ps
 refine Fn.enter Tryz.func124 rfl Tryz.ntmps124 rfl (L := [(0, _)]) ⟨rfl, trivial⟩ fun base => ?_
 repeat (first | ((first | apply H.Ac | apply H.Ad | apply H.Az); (iterate 3 exact rfl)) | (first | apply H.seq | apply H.Ab | apply H.nil | apply H.Aa) | (apply H.Ao))
 refine H.Bo (ι := Nat) (fun i => [(11, .int .i64 (i : Int)), (10, .int .i64 (ps.length : Nat)), (9, .slice (some ⟨sb, 0, none⟩) ps.length ps.length), (3, .int .i64 ((upto ps i).length : Nat)), (0, .slice (some ⟨sb, 0, none⟩) ps.length ps.length)]) (fun _ => f)
  (fun _ => row sb 55 (ps.map BP.val) :: F) (fun i => i ≤ ps.length) (fun i => ps.length - i) 0 (Nat.zero_le _) ⟨rfl, rfl, rfl, rfl, rfl, trivial⟩ rfl rfl fun i hi => ?_
 have hi : i ≤ ps.length := hi
 show H _ _ _ [(11, .int .i64 (i : Int)), _, _, (3, .int .i64 ((upto ps i).length : Nat)), _] _ _ _
 by_cases hlt : i < ps.length
 ·obtain ⟨x, hx, hv, _⟩ := hget i hlt
  have hs1 := upto_succ hx
  have hu1 := hu (i + 1)
  rw [hs1, List.length_append] at hu1
  generalize upto ps i = a at hs1 hu1 ⊢
  repeat (first | (first | apply H.seq | apply H.Ab | apply H.nil | apply H.Aa) | ((apply H.cmp); (iterate 5 exact rfl)) | (first | apply H.Ak | apply H.Ao) | (apply H.Au; exact rfl; (omega)))
  refine H.Cj (i := i) rfl rfl rfl rfl (by omega) rfl ?_
  refine H.Af rfl rfl rfl (.of (Rd.ofRow (by repeat constructor)) hv) rfl ?_
  repeat (first | ((first | apply H.Ac | apply H.Ad | apply H.Az); (iterate 3 exact rfl)) | (first | apply H.seq | apply H.Ab | apply H.nil | apply H.Aa) | ((apply H.cmp); (iterate 5 exact rfl)) | ((apply H.ar; (iterate 4 exact rfl)); (first | (with_reducible apply zag; omega) | (with_reducible apply wr_i64_nn; omega)); exact rfl) | (apply H.Av; exact rfl) | (first | apply H.Ak | apply H.Ba))
  refine H.know (d := 3) (u := .int .i64 ((upto ps (i + 1)).length : Nat)) rfl (congrArg (Value.int .i64) (by rw [hs1, List.length_append]; try rfl)) ?_
  exact H.Bc (i + 1) (by show i + 1 ≤ _; omega) (by show ps.length - (i + 1) < ps.length - i; omega) ⟨rfl, rfl, rfl, rfl, rfl, trivial⟩ rfl rfl
 ·have hie : i = ps.length := by omega
  subst hie
  rw [upto_all]
  repeat (first | ((apply H.Ac); (iterate 3 exact rfl)) | (first | apply H.seq | apply H.Ab | apply H.nil | apply H.Aa) | ((apply H.cmp); (iterate 5 exact rfl)) | (first | apply H.Bl | apply H.Bj | apply H.Bk | apply H.Bm) | (apply H.Aw; exact rfl; (omega)))
  refine H.slc0 5 1 ?_
  refine H.Bn rfl rfl rfl (growB_fn f _ (l := []) (m := (flat ps).length) (by decide) hl) fun p0 c0 => ?_
  repeat (first | ((first | apply H.Ac | apply H.Ad | apply H.Az); (iterate 3 exact rfl)) | (first | apply H.seq | apply H.Ab | apply H.nil | apply H.Aa) | (apply H.Ao))
  refine H.Bo (ι := Nat × Option Addr × Nat) (fun i => [(27, .int .i64 (i.1 : Int)), (26, .int .i64 (ps.length : Nat)), (25, .slice (some ⟨sb, 0, none⟩) ps.length ps.length), (6, .slice i.2.1 (upto ps i.1).length i.2.2)]) (fun _ => f)
   (fun i => slc i.2.1 (upto ps i.1).length i.2.2 5 1 (bytesV (upto ps i.1)) :: row sb 55 (ps.map BP.val) :: F) (fun i => i.1 ≤ ps.length) (fun i => ps.length - i.1) (0, p0, c0) (Nat.zero_le _) ⟨rfl, rfl, rfl, rfl, trivial⟩ rfl rfl fun i hi => ?_
  obtain ⟨i, p', c'⟩ := i
  have hi : i ≤ ps.length := hi
  show H _ _ _ [(27, .int .i64 (i : Int)), _, _, (6, .slice p' (upto ps i).length c')] _ (slc p' (upto ps i).length c' _ 1 (bytesV (upto ps i)) :: _ :: F) _
  by_cases hlt : i < ps.length
  ·obtain ⟨x, hx, hv, hm⟩ := hget i hlt
   have hs1 := upto_succ hx
   have hu1 := hu (i + 1)
   rw [hs1, List.length_append] at hu1
   generalize upto ps i = a at hs1 hu1 ⊢
   repeat (first | (first | apply H.seq | apply H.Ab | apply H.nil | apply H.Aa) | ((apply H.cmp); (iterate 5 exact rfl)) | (first | apply H.Ak | apply H.Ao) | (apply H.Au; exact rfl; (omega)))
   refine H.Cj (i := i) rfl rfl rfl rfl (by omega) rfl ?_
   refine H.Af rfl rfl rfl (.of (Rd.ofRow (by repeat constructor)) hv) rfl ?_
   repeat (first | ((first | apply H.Ac | apply H.Ad); (iterate 3 exact rfl)) | (first | apply H.Ab | apply H.nil | apply H.Aa))
   refine H.Bv (xs := bytesV a) rfl rfl rfl rfl rfl (fun p' c' => .here _ _ _) (hs x hm [_, _]) (zai _) rfl (by omega) (by omega) fun p3 c3 => ?_
   repeat (first | ((first | apply H.Ac | apply H.Ad); (iterate 3 exact rfl)) | (first | apply H.Ab | apply H.nil | apply H.Aa) | ((apply H.ar; (iterate 4 exact rfl)); (with_reducible apply zag; omega); exact rfl) | (apply H.Ba))
   refine H.Bc (i + 1, p3, c3) (by show i + 1 ≤ _; omega) (by show ps.length - (i + 1) < ps.length - i; omega) ⟨rfl, rfl, rfl, ?_, trivial⟩ rfl ?_
   ·show some (Value.slice p3 (a.length + x.l.length) c3) = some (Value.slice p3 (upto ps (i + 1)).length c3)
    rw [hs1, List.length_append]
   ·show _ = slc p3 (upto ps (i + 1)).length c3 _ 1 (bytesV (upto ps (i + 1))) :: _
    rw [hs1, List.length_append, zah]
  ·have hie : i = ps.length := by omega
   subst hie
   rw [upto_all]
   repeat (first | ((first | apply H.Ac | apply H.Ad); (iterate 3 exact rfl)) | (first | apply H.seq | apply H.Ab | apply H.nil | apply H.Aa) | ((apply H.cmp); (iterate 5 exact rfl)) | (first | apply H.ret | apply H.Bl | apply H.Bj | apply H.Bk | apply H.Bm) | (apply H.Aw; exact rfl; (omega)))
   refine H.Ah (x := row sb _ _) (by repeat constructor) ?_
   exact H.Aj rfl rfl (fun _ h => h) ⟨p', c', rfl, rfl, rfl⟩
theorem thmac_ss (htab : TabAt f) {p r : Option Addr} {c d : Nat} {key b : List UInt8} (hd : b.length ≤ d) (hl : key.length ≤ 64) (hl2 : b.length ≤ 10000000) :
  Fn Tryz.prog 123 [.slice p key.length c, .slice r b.length d] f (slc p key.length c 5 1 (bytesV key) :: slc r b.length d 5 1 (bytesV b) :: F) (Ret (.agg (b32 (Sha.hmac key b)).toArray) f (slc p key.length c 5 1 (bytesV key) :: slc r b.length d 5 1 (bytesV b) :: F)) :=
 Fn.frozen fun g hg hj => Fn.frozen fun g2 hg2 hj2 => thmac_fn (un (un f g) g2) F (IntsAt.mono (Le.un _ g2) (IntsAt.mono (Le.un f g) htab)) (BAt.mono (Le.un _ g2) (slc_bat _ hg hj)) (slc_bat _ hg2 hj2) hd hl hl2
theorem tnumbered_fn (htab : TabAt f) {i n : Int} {r : Option Addr} {d : Nat} {b : List UInt8} (h1 : 1 ≤ i) (h2 : i ≤ 11) (hs : ∀ G, Src Tryz.prog f (G ++ F) (.slice r b.length d) 1 b.length (bytesV b)) (hl : b.length ≤ 900000) :
  Fn Tryz.prog 106 [.int .i64 i, .int .u64 n, .slice r b.length d] f F (Ret (.agg (b32 (Sha.numbered i n b)).toArray) f F) := by
 refine Fn.enter Tryz.func106 rfl Tryz.ntmps106 rfl (L := [(0, _), (1, _), (2, _)]) ⟨rfl, rfl, rfl, trivial⟩ fun base => ?_
 repeat ((first | apply H.seq | apply H.Ab))
 refine H.Bg (ls := zb 32) rfl rfl rfl fun ob => ?_
 repeat (first | ((apply H.Ac); (iterate 3 exact rfl)) | (first | apply H.seq | apply H.Ab | apply H.nil | apply H.Aa))
 refine H.Bn rfl rfl rfl (treplica_fn f _ htab h1 h2) fun p1 c1 => ?_
 repeat (((apply H.Ac); (iterate 3 exact rfl)))
 refine H.Bn rfl rfl rfl (word_fn (l := []) (n := n) f _ Src.nil (fun _ => rfl) (by decide)) fun p2 c2 => ?_
 rw [List.nil_append]
 have h8 := be_len 8 n
 unfold Sha.numbered
 have hk : (Sha.word32 Sha.replicaW i).length = 32 := rfl
 generalize Sha.word32 Sha.replicaW i = key at hk ⊢
 generalize be 8 n = w at h8 ⊢
 repeat (((apply H.Ac); (iterate 3 exact rfl)))
 refine H.Bw (out := [.slice p2 w.length c2, .slice r b.length d]) rfl rfl rfl rfl (by decide) (by decide) rfl rfl fun pb => ?_
 refine H.Bn rfl rfl rfl (bconcat_fn f _ (ps := [⟨p2, c2, w⟩, ⟨r, d, b⟩]) (fun x hx G => ?_) (by show (w ++ (b ++ [])).length ≤ _; rw [List.append_nil, List.length_append]; omega) (by show 2 ≤ 1000; decide)) fun p3 c3 => ?_
 ·rcases List.mem_cons.1 hx with rfl | hx
  ·exact Src.append (Src.slcS (.here _ _ _) (by rw [zaf]; exact (Nat.mul_one _).symm))
  ·rcases List.mem_cons.1 hx with rfl | hx
   ·have h := hs (G ++ [slc p2 w.length c2 5 1 (bytesV w), slc p1 key.length c1 5 1 (bytesV key), row ob 40 (zb 32)])
    rw [List.append_assoc] at h
    exact h
   ·cases hx
 have hfl : flat [⟨p2, c2, w⟩, ⟨r, d, b⟩] = w ++ b := by show w ++ (b ++ []) = _; rw [List.append_nil]
 rw [hfl]
 have hwl : (w ++ b).length ≤ 10000000 := by rw [List.length_append]; omega
 generalize w ++ b = l1 at hwl ⊢
 refine H.slc_cap (.here _ _ _) fun hc3 _ _ => ?_
 refine H.Ae (x := slc p1 _ _ _ _ _) (by repeat constructor) ?_
 refine H.Am rfl rfl rfl (thmac_ss f _ htab (key := key) (b := l1) hc3 (by omega) hwl) ?_
 refine H.Ah (.here _ _) ?_
 refine H.Ah (.here _ _) ?_
 refine H.Ah (.here _ _) ?_
 refine H.Bb (ls := zb 32) (vs := b32 (Sha.hmac key l1)) (ls' := b32 (Sha.hmac key l1)) rfl rfl rfl (zad rfl) rfl rfl (Nat.le_refl 32) (by repeat constructor) ?_
 repeat (first | (first | apply H.nil | apply H.Aa) | (apply H.ret))
 exact H.Ca rfl rfl rfl (Rd.ofRow (by repeat constructor)) rfl (fun _ s => s.drop (.here _ _)) ⟨rfl, rfl, rfl⟩
end
def orx (a b : Nat → UInt8) : Nat → UInt8
 | 0 => 0
 | i + 1 => orx a b i ||| (a i ^^^ b i)
theorem u8_or0 (x y : UInt8) : x ||| y = 0 ↔ x = 0 ∧ y = 0 := by
 rw [← UInt8.toBitVec_inj, ← UInt8.toBitVec_inj, ← UInt8.toBitVec_inj]
 simp
theorem u8_xor0 (x y : UInt8) : x ^^^ y = 0 ↔ x = y := by
 rw [← UInt8.toBitVec_inj, ← UInt8.toBitVec_inj]
 simp
theorem u8_or (x y : UInt8) : bitsI .or .u8 (x.toNat : Int) (y.toNat : Int) = some (((x ||| y).toNat : Nat) : Int) := by
 have e : (BitVec.ofInt 8 (x.toNat : Int) ||| BitVec.ofInt 8 (y.toNat : Int)).toNat = (x ||| y).toNat := by rw [u8_bv, u8_bv]; rfl
 show some (IntKind.u8.wrap ((BitVec.ofInt 8 (x.toNat : Int) ||| BitVec.ofInt 8 (y.toNat : Int)).toNat : Int)) = _
 rw [e, u8_wrapN]
theorem orx_zero (a b : Nat → UInt8) : ∀ i, orx a b i = 0 ↔ ∀ j, j < i → a j = b j
 | 0 => ⟨fun _ j h => by omega, fun _ => rfl⟩
 | i + 1 => by
  show orx a b i ||| (a i ^^^ b i) = 0 ↔ _
  rw [u8_or0, u8_xor0, orx_zero a b i]
  constructor
  ·rintro ⟨h1, h2⟩ j hj
   by_cases e : j = i
   ·rw [e]; exact h2
   ·exact h1 j (by omega)
  ·intro h
   exact ⟨fun j hj => h j (by omega), h i (by omega)⟩
theorem eqC_bytes2 : ∀ a b : List UInt8, eqC (bytesV a) (bytesV b) = decide (a = b)
 | [], [] => rfl
 | [], _ :: _ => rfl
 | _ :: _, [] => rfl
 | x :: a, y :: b => by
  show (eqv (.int .u8 x.toNat) (.int .u8 y.toNat) && eqC (bytesV a) (bytesV b)) = _
  rw [eqC_bytes2 a b]
  show (((x.toNat : Int) == (y.toNat : Int)) && _) = _
  rw [Bool.eq_iff_iff]
  simp only [Bool.and_eq_true, beq_iff_eq, decide_eq_true_eq, List.cons.injEq]
  constructor
  ·rintro ⟨h1, h2⟩
   exact ⟨UInt8.toNat_inj.1 (by omega), h2⟩
  ·rintro ⟨h1, h2⟩
   exact ⟨by rw [h1], h2⟩
theorem b32L_map (a : Nat → UInt8) : b32L a = (List.range 32).map a := rfl
def eq32 (a b : Nat → UInt8) : Bool := eqC (b32 a) (b32 b)
theorem eq32_orx (a b : Nat → UInt8) : eq32 a b = decide (orx a b 32 = 0) := by
 unfold eq32
 rw [b32_bytes, b32_bytes, eqC_bytes2, b32L_map, b32L_map]
 refine decide_eq_decide.2 ?_
 rw [List.map_inj_left, orx_zero]
 constructor
 ·intro h j hj
  exact h j (List.mem_range.2 hj)
 ·intro h j hj
  exact h j (List.mem_range.1 hj)
theorem orx_dec (a b : Nat → UInt8) : decide (((orx a b 32).toNat : Int) = 0) = eq32 a b := by
 rw [eq32_orx]
 refine decide_eq_decide.2 ⟨fun h => UInt8.toNat_inj.1 (by show (orx a b 32).toNat = 0; omega), fun h => by rw [h]; rfl⟩
theorem Src.assoc {P : Program} {f : Frag} {G : List HP} {x : HP} {F : List HP} {v : Value} {sz m : Nat} {news : List Value} (h : Src P f ((G ++ [x]) ++ F) v sz m news) : Src P f (G ++ x :: F) v sz m news := by
 rwa [List.append_assoc] at h
section
variable (f : Frag) (F : List HP)
theorem tsame_fn {a b : Nat → UInt8} : Fn Tryz.prog 105 [.agg (b32 a).toArray, .agg (b32 b).toArray] f F (Ret (.bool (eq32 a b)) f F) := by
 have hdec := orx_dec a b
 refine Fn.enter Tryz.func105 rfl Tryz.ntmps105 rfl (L := [(0, _), (1, _)]) ⟨rfl, rfl, trivial⟩ fun base => ?_
 repeat ((first | apply H.seq | apply H.Ab))
 refine H.box (ls := b32 a) rfl rfl rfl rfl fun ab => ?_
 refine H.box (ls := b32 b) rfl rfl rfl rfl fun bb => ?_
 repeat (first | ((first | apply H.Ac | apply H.Ad); (iterate 3 exact rfl)) | (first | apply H.seq | apply H.Ab | apply H.nil | apply H.Aa) | (apply H.Ao))
 refine H.Bo (ι := Nat) (fun i => [(7, .int .i64 (i : Int)), (5, .int .u8 ((orx a b i).toNat : Nat)), (2, .pointer (some ⟨ab, 0, none⟩)), (3, .pointer (some ⟨bb, 0, none⟩))]) (fun _ => f)
  (fun _ => row bb 40 (b32 b) :: row ab 40 (b32 a) :: F) (fun i => i ≤ 32) (fun i => 32 - i) 0 (Nat.zero_le _) ⟨rfl, rfl, rfl, rfl, trivial⟩ rfl rfl fun i hi => ?_
 have hi : i ≤ 32 := hi
 show H _ _ _ [_, (5, .int .u8 ((orx a b i).toNat : Nat)), _, _] _ _ _
 by_cases hlt : i < 32
 ·have ha : (b32 a)[i * 1]? = some (.int .u8 ((a i).toNat : Nat)) := by rw [Nat.mul_one]; exact b32_get a hlt
  have hb : (b32 b)[i * 1]? = some (.int .u8 ((b i).toNat : Nat)) := by rw [Nat.mul_one]; exact b32_get b hlt
  have hs : orx a b (i + 1) = orx a b i ||| (a i ^^^ b i) := rfl
  repeat (first | ((first | apply H.Ac | apply H.Ad); (iterate 3 exact rfl)) | (first | apply H.seq | apply H.Ab | apply H.nil | apply H.Aa) | ((apply H.cmp); (iterate 5 exact rfl)) | (first | apply H.Ak | apply H.Ao) | (apply H.Au; exact rfl; (omega)))
  refine H.Bz (by kernel_rfl) (by decide +kernel) (by repeat (first | exact zab | refine zaa ?_ | refine zac ?_ | refine zae ?_)) ?_
  repeat (first | (apply HQ.Br (i := i); (iterate 3 exact rfl); omega; omega; exact rfl) | (apply HQ.Af; (iterate 3 exact rfl); (first | exact .of (Rd.ofRow (by repeat constructor)) ha | exact .of (Rd.ofRow (by repeat constructor)) hb); exact rfl) | ((first | apply HQ.Ac | apply HQ.Ad); (iterate 3 exact rfl)) | ((apply HQ.Bu); exact rfl) | (apply HQ.Cb (op := .xor); (iterate 3 exact rfl); exact u8_xor _ _; (iterate 2 exact rfl)) | (apply HQ.Cb (op := .or); (iterate 3 exact rfl); exact u8_or _ _; (iterate 2 exact rfl)))
  rw [← hs]
  repeat (first | ((apply H.Ac); (iterate 3 exact rfl)) | (first | apply H.Ab | apply H.nil | apply H.Aa) | ((apply H.ar; (iterate 4 exact rfl)); (with_reducible apply zag; omega); exact rfl) | (apply H.Ba))
  exact H.Bc (i + 1) (by show i + 1 ≤ 32; omega) (by show 32 - (i + 1) < 32 - i; omega) ⟨rfl, rfl, rfl, rfl, trivial⟩ rfl rfl
 ·have hi32 : i = 32 := by omega
  subst hi32
  generalize orx a b 32 = x at hdec ⊢
  rw [← hdec]
  clear hdec
  repeat (first | ((first | apply H.Ac | apply H.Ad); (iterate 3 exact rfl)) | (first | apply H.seq | apply H.Ab | apply H.nil | apply H.Aa) | ((apply H.cmp); (iterate 5 exact rfl)) | (apply H.Av; exact rfl) | (first | apply H.ret | apply H.Bl | apply H.Bj | apply H.Bk | apply H.Bm))
  refine H.Ah (.here _ _) ?_
  refine H.Ah (.here _ _) ?_
  exact H.Aj rfl rfl (fun _ h => h) ⟨rfl, rfl, rfl⟩
set_option maxHeartbeats 1600000 in
theorem ucheck_fn (htab : TabAt f) {i n : Int} {r : Option Addr} {d : Nat} {b : List UInt8} {t : Nat → UInt8} (h1 : 1 ≤ i) (h2 : i ≤ 11) (h3 : 1 ≤ n) (h4 : n ≤ 65536) (hs : ∀ G, Src Tryz.prog f (G ++ F) (.slice r b.length d) 1 b.length (bytesV b)) (hl : b.length ≤ 1024) :
  Fn Tryz.prog 83 [.int .i64 i, .int .u64 n, .slice r b.length d, .agg (b32 t).toArray] f F (Ret (.bool (eq32 t (Sha.numbered i n b))) f F) := by
 have hr : ∀ G, Fn Tryz.prog 103 [.int .i64 i] f G (Ret (.bool true) f G) := fun G => by
  refine Fn.enter Tryz.func103 rfl Tryz.ntmps103 rfl (L := [(0, _)]) ⟨rfl, trivial⟩ fun base => ?_
  repeat (first | ((first | apply H.Ac | apply H.Ad); (iterate 3 exact rfl)) | (first | apply H.seq | apply H.Ab | apply H.nil | apply H.Aa))
  refine H.Bn rfl rfl rfl (treplica_fn f _ htab h1 h2) fun p1 c1 => ?_
  have hk : (Sha.word32 Sha.replicaW i).length = 32 := rfl
  generalize Sha.word32 Sha.replicaW i = key at hk ⊢
  repeat (first | ((first | apply H.Ad | apply H.Az); (iterate 3 exact rfl)) | (first | apply H.nil | apply H.Aa) | ((apply H.cmp); (iterate 5 exact rfl)) | (apply H.ret))
  refine H.Ah (.here _ _) ?_
  exact H.Aj rfl rfl (fun _ h => h) ⟨congrArg Value.bool (by simp; omega), rfl, rfl⟩
 have hn : ∀ G, Fn Tryz.prog 104 [.int .u64 n] f G (Ret (.bool true) f G) := fun G => by
  refine Fn.enter Tryz.func104 rfl Tryz.ntmps104 rfl (L := [(0, _)]) ⟨rfl, trivial⟩ fun base => ?_
  repeat (first | ((first | apply H.Ac | apply H.Ad); (iterate 3 exact rfl)) | (first | apply H.seq | apply H.Ab | apply H.nil | apply H.Aa) | ((apply H.cmp); (iterate 5 exact rfl)) | (apply H.Ax; (iterate 4 exact rfl)) | (apply H.ret) | (apply H.Bi; (iterate 3 exact rfl); (assumption)))
  exact H.Aj rfl rfl (fun _ h => h) ⟨congrArg Value.bool (by simp; omega), rfl, rfl⟩
 refine Fn.enter Tryz.func83 rfl Tryz.ntmps83 rfl (L := [(0, _), (1, _), (2, _), (3, _)]) ⟨rfl, rfl, rfl, rfl, trivial⟩ fun base => ?_
 repeat ((first | apply H.seq | apply H.Ab))
 refine H.box (ls := b32 t) rfl rfl rfl rfl fun tb => ?_
 repeat (first | ((apply H.Ad); (iterate 3 exact rfl)) | (first | apply H.seq | apply H.nil | apply H.Aa))
 refine H.Bt (by kernel_rfl) (by decide +kernel) (by repeat (first | exact zab | refine zaa ?_ | refine zac ?_ | refine zae ?_)) (S := [_]) rfl ?_
 refine HB.Aq [(0, false)] 19 (by kernel_rfl) ?_
 repeat (((apply HQ.Ac); (iterate 3 exact rfl)))
 refine HQ.Ap rfl ?_
 refine HB.ev1 (i := 1) (by kernel_rfl) rfl ?_
 refine H.Am rfl rfl rfl (hr _) ?_
 repeat ((apply H.nil))
 refine H.on0 rfl ?_
 refine HB.Aq [(2, false), (3, false)] 16 (by kernel_rfl) ?_
 repeat (((apply HQ.Ac); (iterate 3 exact rfl)))
 refine HQ.Ap rfl ?_
 refine HB.ev1 (i := 4) (by kernel_rfl) rfl ?_
 skip
 refine H.Am rfl rfl rfl (hn _) ?_
 repeat ((apply H.nil))
 refine H.on0 rfl ?_
 refine HB.Aq [(5, false), (6, false), (7, false), (8, false), (9, false), (10, false), (11, false), (12, false), (13, false), (14, false), (15, false)] 4 (by kernel_rfl) ?_
 repeat (first | (refine HQ.Al (ls := b32 t) rfl rfl rfl (Rd.ofRow (by repeat constructor)) rfl rfl ?_) | ((first | apply HQ.Ac | apply HQ.Az); (iterate 3 exact rfl)) | ((apply HQ.cmp); (iterate 5 exact rfl)) | (apply HQ.Ax; (iterate 4 exact rfl)) | (apply HQ.Bi; (iterate 3 exact rfl); (omega)))
 refine HQ.Ap rfl ?_
 refine HB.ev1 (i := 16) (by kernel_rfl) rfl ?_
 skip
 refine H.Am rfl rfl rfl (tnumbered_fn f _ htab h1 h2 (fun G => (hs (G ++ [_])).assoc) (by omega)) ?_
 generalize Sha.numbered i n b = u
 repeat ((apply H.nil))
 refine H.on0 rfl ?_
 refine HB.ev1 (i := 17) (by kernel_rfl) rfl ?_
 skip
 refine H.Am rfl rfl rfl (tsame_fn f _) ?_
 repeat ((apply H.nil))
 refine H.on0 rfl ?_
 refine HB.Aq [(18, false), (19, false)] 0 (by kernel_rfl) ?_
 repeat (first | ((apply HQ.Ad); (iterate 3 exact rfl)) | (apply HQ.Ax; (iterate 4 exact rfl)))
 refine HQ.Ap rfl ?_
 refine HB.Bf (by kernel_rfl) ?_
 repeat (first | (apply H.Aa) | (apply H.ret))
 refine H.Ah (x := row tb _ _) (by repeat constructor) ?_
 exact H.Aj rfl rfl (fun _ h => h) ⟨rfl, rfl, rfl⟩
end
theorem byteAt_nat (n : Nat) (j : Nat) : (byteAt (n : Int) j).toNat = n / 256 ^ j % 256 := by
 unfold byteAt
 have e : (n : Int).fdiv (2 ^ (8 * j)) % 256 = ((n / 256 ^ j % 256 : Nat) : Int) := by
  rw [show ((2 : Int) ^ (8 * j)) = ((2 ^ (8 * j) : Nat) : Int) by simp, Int.fdiv_eq_ediv_of_nonneg _ (Int.natCast_nonneg _), Nat.pow_mul]
  rfl
 rw [e, Int.toNat_natCast, UInt8.toNat_ofNat']
 omega
theorem numB_beTop (k n : Nat) : ∀ i, i ≤ k → numB (beTop k (n : Int) i) = n / 256 ^ (k - i) % 256 ^ i
 | 0, _ => by simp [beTop, numB, Nat.mod_one]
 | i + 1, h => by
  unfold beTop
  rw [numB_snoc, numB_beTop k n i (by omega), byteAt_nat]
  have e1 : k - i = (k - (i + 1)) + 1 := by omega
  have e2 : k - 1 - i = k - (i + 1) := by omega
  rw [e1, e2]
  generalize k - (i + 1) = m
  rw [Nat.pow_succ, Nat.pow_succ, ← Nat.div_div_eq_div_mul]
  generalize n / 256 ^ m = a
  rw [Nat.mul_comm (256 ^ i) 256, Nat.mod_mul]
  omega
theorem numB_be {k n : Nat} (h : n < 256 ^ k) : numB (be k (n : Int)) = n := by
 unfold be
 rw [numB_beTop k n k (Nat.le_refl _), Nat.sub_self, Nat.pow_zero, Nat.div_one, Nat.mod_eq_of_lt h]
theorem numB_be8 {z : Int} (h : 0 ≤ z ∧ z ≤ 18446744073709551615) : ((numB (be 8 z) : Nat) : Int) = z := by
  obtain ⟨n, rfl⟩ := Int.eq_ofNat_of_zero_le h.1
  rw [numB_be (by have : (256 : Nat) ^ 8 = 18446744073709551616 := by decide
                  omega)]
section
variable {a r : List UInt8} {n : Nat}
theorem Cs.ok_app (h : a.length = n) : (⟨a ++ r, false⟩ : Cs).ok n = true := by
 rw [Cs.ok_iff]; exact ⟨rfl, by show n ≤ (a ++ r).length; rw [List.length_append]; omega⟩
theorem Cs.num_app (h : a.length = n) : (⟨a ++ r, false⟩ : Cs).num n = numB a := by
 unfold Cs.num; rw [if_pos (Cs.ok_app h)]; show numB ((a ++ r).take n) = _; rw [← h, List.take_left]
theorem Cs.skip_app (h : a.length = n) : (⟨a ++ r, false⟩ : Cs).skip n = ⟨r, false⟩ := by
 unfold Cs.skip; rw [if_pos (Cs.ok_app h)]; show (⟨(a ++ r).drop n, false⟩ : Cs) = _; rw [← h, List.drop_left]
theorem Cs.raw_app (h : a.length = n) : (⟨a ++ r, false⟩ : Cs).raw n = a := by
 unfold Cs.raw; rw [if_pos (Cs.ok_app h)]; show (a ++ r).take n = _; rw [← h, List.take_left]
theorem Cs.num8_be {z : Int} (h : 0 ≤ z ∧ z ≤ 18446744073709551615) : (((⟨be 8 z ++ r, false⟩ : Cs).num 8 : Nat) : Int) = z := by
 rw [Cs.num_app (be_len _ _), numB_be8 h]
theorem Cs.num1_b {b : UInt8} : (⟨b :: r, false⟩ : Cs).num 1 = b.toNat := by
 have := Cs.num_app (a := [b]) (r := r) (n := 1) rfl
 rw [List.singleton_append] at this
 rw [this]; simp [numB]
theorem Cs.skip1_b {b : UInt8} : (⟨b :: r, false⟩ : Cs).skip 1 = ⟨r, false⟩ := Cs.skip_app (a := [b]) rfl
theorem Cs.text_app {s : ByteArray} {most : Nat} (h : s.size ≤ most) (hm : most < 65536) :
    (⟨textB s ++ r, false⟩ : Cs).text most = s.data.toList ∧ (⟨textB s ++ r, false⟩ : Cs).textS most = ⟨r, false⟩ := by
  unfold textB
  rw [List.append_assoc]
  have h2 : (⟨be 2 (s.size : Nat) ++ (s.data.toList ++ r), false⟩ : Cs).num 2 = s.size := by
    rw [Cs.num_app (be_len _ _), numB_be (by have : (256 : Nat) ^ 2 = 65536 := by decide
                                             omega)]
  have hok : (⟨be 2 (s.size : Nat) ++ (s.data.toList ++ r), false⟩ : Cs).ok 2 = true := Cs.ok_app (be_len _ _)
  have hdl := zav s
  have ht : (⟨be 2 (s.size : Nat) ++ (s.data.toList ++ r), false⟩ : Cs).tok most = true := by
    unfold Cs.tok
    rw [hok, h2]
    simp only [Bool.true_and, Bool.and_eq_true]
    refine ⟨Nat.ble_eq_true_of_le h, Nat.ble_eq_true_of_le ?_⟩
    show 2 + s.size ≤ (be 2 (s.size : Nat) ++ (s.data.toList ++ r)).length
    rw [List.length_append, List.length_append, be_len, hdl]; omega
  constructor
  · unfold Cs.text
    rw [if_pos ht, h2]
    show ((be 2 (s.size : Nat) ++ (s.data.toList ++ r)).drop 2).take s.size = _
    rw [List.drop_left' (be_len _ _), List.take_left' hdl]
  · unfold Cs.textS
    rw [if_pos ht, h2]
    show (⟨(be 2 (s.size : Nat) ++ (s.data.toList ++ r)).drop (2 + s.size), false⟩ : Cs) = _
    rw [← List.drop_drop, List.drop_left' (be_len _ _), List.drop_left' hdl]
theorem Cs.hash_app {t : Nat → UInt8} : b32 ((⟨b32L t ++ r, false⟩ : Cs).hash) = b32 t := by
 have e := Cs.raw_app (a := b32L t) (r := r) (n := 32) rfl
 unfold Cs.hash
 simp only [e]
 rfl
end
theorem baOf_data (s : ByteArray) : baOf s.data.toList = s := by
 unfold baOf
 rw [Array.toArray_toList]
def Req.Ok (r : Req) : Prop := (0 ≤ r.time ∧ r.time ≤ 18446744073709551615) ∧ (0 ≤ r.amount ∧ r.amount ≤ 18446744073709551615)
def Bod.Ok (x : Bod) : Prop := (0 ≤ x.view ∧ x.view ≤ 18446744073709551615) ∧ (0 ≤ x.k ∧ x.k ≤ 18446744073709551615) ∧ x.req.Ok
theorem req_back {q : Req} (h : q.Ok) (ha : q.asked) (r : List UInt8) :
  ((⟨q.bytes ++ b32L q.tag ++ r, false⟩ : Cs).req 32 128).vals = q.vals ∧ (⟨q.bytes ++ b32L q.tag ++ r, false⟩ : Cs).reqS 32 128 = ⟨r, false⟩ := by
 obtain ⟨ht, hm⟩ := h
 obtain ⟨c1, c2, _, _, ⟨k1, k2⟩, k3, k4⟩ := ha
 have e : q.bytes ++ b32L q.tag ++ r = b8 q.client :: q.kind :: (be 8 q.time ++ (be 8 q.amount ++ (textB q.key ++ (textB q.val ++ (textB q.old ++ (textB q.to ++ (b32L q.tag ++ r))))))) := by
  unfold Req.bytes Req.head
  simp only [List.append_assoc, List.cons_append, List.nil_append]
  rfl
 rw [e]
 unfold Cs.req Cs.reqS
 dsimp only
 have t1 := Cs.text_app (s := q.key) (most := 32) (r := textB q.val ++ (textB q.old ++ (textB q.to ++ (b32L q.tag ++ r)))) k1 (by decide)
 have t2 := Cs.text_app (s := q.val) (most := 128) (r := textB q.old ++ (textB q.to ++ (b32L q.tag ++ r))) k3 (by decide)
 have t3 := Cs.text_app (s := q.old) (most := 128) (r := textB q.to ++ (b32L q.tag ++ r)) k4 (by decide)
 have t4 := Cs.text_app (s := q.to) (most := 32) (r := b32L q.tag ++ r) k2 (by decide)
 rw [Cs.num1_b, Cs.skip1_b, Cs.skip1_b, Cs.skip_app (be_len _ _), Cs.skip_app (be_len _ _), t1.1, t1.2, t2.1, t2.2, t3.1, t3.2, t4.1, t4.2, Cs.num8_be ht, Cs.num8_be hm]
 constructor
 ·unfold Cs.byte
  rw [Cs.num1_b]
  unfold Req.vals
  rw [Cs.hash_app, baOf_data, baOf_data, baOf_data, baOf_data, b8_small (by omega)]
  simp
 ·exact Cs.skip_app (a := b32L q.tag) rfl
theorem pairs_back : ∀ (q : List (Int × Int)) (w : Int) (r : List UInt8) (acc : List (Int × Int)), 0 ≤ w → quo w q = true → Cs.pairs q.length ⟨q.flatMap pairB ++ r, false⟩ acc = (acc ++ q, ⟨r, false⟩)
 | [], w, r, acc, _, _ => by simp [Cs.pairs]
 | p :: q, w, r, acc, hw, h => by
  unfold quo at h
  split at h
  ·cases h
  ·rename_i hn
   have ih := pairs_back q p.1 r (acc ++ [p]) (by omega) h
   have e : (p :: q).flatMap pairB ++ r = b8 p.1 :: (be 8 p.2 ++ (q.flatMap pairB ++ r)) := by
    simp [pairB]
   rw [e]
   show (if false = true then _ else Cs.pairs q.length (((⟨_, false⟩ : Cs).skip 1).skip 8) (acc ++ [((((⟨_, false⟩ : Cs).num 1 : Nat) : Int), ((((⟨_, false⟩ : Cs).skip 1).num 8 : Nat) : Int))])) = _
   rw [if_neg (by decide), Cs.skip1_b, Cs.skip_app (be_len _ _), Cs.num1_b, Cs.num8_be (by omega), b8_small (by omega), ih]
   simp
def Bod.E (a b : Bod) : Prop := a.kind = b.kind ∧ a.view = b.view ∧ a.k = b.k ∧ a.req.vals = b.req.vals ∧ a.q = b.q ∧ b32 a.dig = b32 b.dig
theorem Bod.E.eqB {x a b : Bod} (h : Bod.E a b) : Bod.eqB x a = Bod.eqB x b := by
 obtain ⟨h1, h2, h3, h4, h5, h6⟩ := h
 unfold Bod.eqB
 rw [h1, h2, h3, h4, h5, h6]
theorem eqv_comm (a b : Value) : eqv a b = eqv b a := by
 cases a with
 | bool x =>
  cases b with
  | bool y => cases x <;> cases y <;> rfl
  | _ => rfl
 | int k x =>
  cases b with
  | int l y =>
   show (x == y) = (y == x)
   rw [Bool.eq_iff_iff, beq_iff_eq, beq_iff_eq]; exact eq_comm
  | _ => rfl
 | string x =>
  cases b with
  | string y =>
   show (x == y) = (y == x)
   rw [beq_toListBytes, beq_toListBytes, Bool.eq_iff_iff, beq_iff_eq, beq_iff_eq]; exact eq_comm
  | _ => rfl
 | _ => cases b <;> rfl
theorem eqC_comm : ∀ (a b : List Value), eqC a b = eqC b a
 | [], [] => rfl
 | [], _ :: _ => rfl
 | _ :: _, [] => rfl
 | x :: xs, y :: ys => by simp only [eqC]; rw [eqv_comm, eqC_comm xs ys]
theorem Bod.eqB_comm (a b : Bod) : Bod.eqB a b = Bod.eqB b a := by
 unfold Bod.eqB
 rw [eqC_comm a.req.vals, eqC_comm (b32 a.dig), show decide (((a.kind.toNat : Nat) : Int) = b.kind.toNat) = decide (((b.kind.toNat : Nat) : Int) = a.kind.toNat) from decide_eq_decide.2 eq_comm,
  show decide (a.view = b.view) = decide (b.view = a.view) from decide_eq_decide.2 eq_comm, show decide (a.k = b.k) = decide (b.k = a.k) from decide_eq_decide.2 eq_comm, show decide (a.q = b.q) = decide (b.q = a.q) from decide_eq_decide.2 eq_comm]
theorem own_q {x : Bod} (h : x.kind.toNat ≠ 4) : x.own.q = [] := by
 unfold Bod.own
 generalize x.kind.toNat = k at h
 match k, h with
 | 0, _ => rfl
 | 1, _ => rfl
 | 2, _ => rfl
 | 3, _ => rfl
 | 4, h => exact absurd rfl h
 | 5, _ => rfl
 | 6, _ => rfl
 | k + 7, _ => rfl
theorem back_own {x : Bod} (hx : x.Ok) (hm : x.mayK x.kind.toNat = true) : Bod.E (x.back x.kind.toNat) x.own := by
 obtain ⟨hv, hk, hr⟩ := hx
 unfold Bod.back Bod.own
 generalize x.kind.toNat = k at hm
 match k, hm with
 | 0, hm => exact absurd hm (by simp [Bod.mayK])
 | k + 7, hm => exact absurd hm (by simp [Bod.mayK])
 | 1, hm =>
  have ha : x.req.asked := of_decide_eq_true hm
  have e : x.putK 1 = be 8 x.view ++ (x.req.bytes ++ b32L x.req.tag ++ []) := by simp [Bod.putK]
  rw [e]
  have h1 := req_back hr ha []
  refine ⟨rfl, ?_, rfl, ?_, rfl, rfl⟩
  ·exact Cs.num8_be hv
  ·show (((⟨_, false⟩ : Cs).skip 8).req 32 128).vals = _
   rw [Cs.skip_app (be_len _ _)]
   exact h1.1
 | 2, _ =>
  have e : x.putK 2 = be 8 x.view ++ (be 8 x.k ++ []) := by simp [Bod.putK]
  rw [e]
  refine ⟨rfl, Cs.num8_be hv, ?_, rfl, rfl, rfl⟩
  show ((((⟨_, false⟩ : Cs).skip 8).num 8 : Nat) : Int) = _
  rw [Cs.skip_app (be_len _ _)]
  exact Cs.num8_be hk
 | 3, _ =>
  have e : x.putK 3 = be 8 x.view ++ [] := by simp [Bod.putK]
  rw [e]
  exact ⟨rfl, Cs.num8_be hv, rfl, rfl, rfl, rfl⟩
 | 5, _ =>
  have e : x.putK 5 = be 8 x.view ++ [] := by simp [Bod.putK]
  rw [e]
  exact ⟨rfl, Cs.num8_be hv, rfl, rfl, rfl, rfl⟩
 | 6, _ =>
  have e : x.putK 6 = be 8 x.k ++ (b32L x.dig ++ []) := by simp [Bod.putK]
  rw [e]
  refine ⟨rfl, rfl, Cs.num8_be hk, rfl, rfl, ?_⟩
  show b32 (((⟨_, false⟩ : Cs).skip 8).hash) = _
  rw [Cs.skip_app (be_len _ _)]
  exact Cs.hash_app
 | 4, hm =>
  simp only [Bod.mayK, Bool.and_eq_true, decide_eq_true_eq] at hm
  have hlen := quo_len x.q 0 (by omega) hm.2.1
  have e : x.putK 4 = be 8 x.view ++ (b8 x.q.length :: (x.q.flatMap pairB ++ [])) := by simp [Bod.putK]
  rw [e]
  have hn : (b8 x.q.length).toNat = x.q.length := by have := b8_small (z := (x.q.length : Int)) (by omega); omega
  have hp := pairs_back x.q 0 [] [] (Int.le_refl 0) hm.2.1
  refine ⟨rfl, Cs.num8_be hv, rfl, rfl, ?_, rfl⟩
  show (Cs.pairs (((⟨_, false⟩ : Cs).skip 8).num 1) (((⟨_, false⟩ : Cs).skip 8).skip 1) []).1 = _
  rw [Cs.skip_app (be_len _ _), Cs.num1_b, Cs.skip1_b, hn, hp]
  rfl
theorem mayB_eq {x : Bod} (hx : x.Ok) : x.mayB = x.may := by
 unfold Bod.mayB Bod.may Bod.mayP
 cases hm : x.mayK x.kind.toNat with
 | false => simp
 | true =>
  have hk : 1 ≤ x.kind.toNat ∧ x.kind.toNat ≤ 6 := by
   generalize x.kind.toNat = k at hm
   match k, hm with
   | 0, hm => exact absurd hm (by simp [Bod.mayK])
   | k + 7, hm => exact absurd hm (by simp [Bod.mayK])
   | 1, _ => decide
   | 2, _ => decide
   | 3, _ => decide
   | 4, _ => decide
   | 5, _ => decide
   | 6, _ => decide
  rw [decide_eq_true hk, Bod.E.eqB (back_own hx hm), Bod.eqB_comm x x.own]
  simp only [Bool.true_and, Bool.and_true]
  have hlen : Bod.eqB x.own x = true → x.q.length ≤ 11 := fun h => by
   have hq := Bod.eqB_q h
   by_cases h4 : x.kind.toNat = 4
   ·rw [h4] at hm
    simp only [Bod.mayK, Bool.and_eq_true, decide_eq_true_eq] at hm
    have := quo_len x.q 0 (by omega) hm.2.1
    omega
   ·rw [own_q h4] at hq
    rw [← hq]; exact Nat.zero_le _
  cases he : Bod.eqB x.own x with
  | false => simp
  | true => simp [hlen he]
structure MV where
 m : Msg
 qp : Option Addr
 qc : Nat
def MV.vals (x : MV) : List Value := x.m.vals x.qp x.qc
theorem MV.len (x : MV) : x.vals.length = 121 := rfl
def MV.Good (f : Frag) (x : MV) : Prop := QAt f x.qp x.m.body.q ∧ x.m.body.q.length ≤ 1000000 ∧ x.m.body.Ok
theorem MV.Good.mono {f g : Frag} (h : Le f g) {x : MV} (hx : x.Good f) : x.Good g := ⟨QAt.mono h hx.1, hx.2⟩
section
variable (f : Frag) (F : List HP)
theorem mmay_fn {x : MV} (hx : x.Good f) : Fn Tryz.prog 78 [.agg x.vals.toArray] f F (Ret (.bool x.m.may) f F) := by
 have := may_fn (m := x.m) (qc := x.qc) f F hx.1 (by have := hx.2.1; omega)
 rw [mayB_eq hx.2.2] at this
 exact this
theorem rmmay_fn {x : MV} (hx : x.Good f) : Fn Tryz.prog 54 [.agg x.vals.toArray] f F (Ret (.bool x.m.may) f F) :=
 rmay_fn (m := x.m) (qc := x.qc) f F hx.1 (by have := hx.2.1; omega)
end
theorem HQ.fieldV {P : Program} {base : World} {n : Nat} {L : Env} {f : Frag} {A V : List HP} {q : Post} {l rest : List Oper} {d : Nat} {ty : TypeId} {pos : String} {af : Array Edge} {gd : Option (Nat × Bool)}
  {st : TypeId} {x : Operand} {i : Nat} {fs : List Field} {nm tg pk : String} {ft : TypeId} {fo bo : Nat} {em : Bool} {xs : List Value} {v : Value} {de : TypeDesc} [hu : Und P st (.struct fs.toArray)] (hw : want? l L gd = true)
  (hx : ev? L x = some (.agg xs.toArray)) (hf : nthF fs i = some ⟨nm, ft, fo, em, tg, pk, bo⟩) (he : Und P ft de) (ha : aggD de = false) (hv : nthV xs fo = some v) (hd : Nat.ble (d + 1) n = true) {lst : Lst} {ti : Nat} {tt : List (Nat × Bool)}
  (k : HQ V ⟨lst.setIfInBounds ti true, tt⟩ P base n ((d, v) :: L) f A (.ops l rest q)) : HQ V ⟨lst, (ti, false) :: tt⟩ P base n L f A (.ops l (⟨some d, .field st x i, ty, pos, af, gd⟩ :: rest) q) :=
 HQ.opV hw hd (fun a w hfr _ => by
  rw [nthF_eq] at hf
  rw [nthV_eq] at hv
  have h3 := run_isAgg he w
  simp [execOp, Instr.field, hfr.eval hx, hu.run, hf, asAgg, part, h3, ha, hv]) k
section
variable (f : Frag) (F : List HP)
set_option maxHeartbeats 1600000 in
theorem mtagK_fn {m : Msg} {q : Option Addr} {qc : Nat} (kind : Nat) (hk : m.body.kind.toNat = kind) (f1 f2 f3 : FuncId) [Fun Tryz.prog f1] (hput : PutC f1 kind)
  (hcod : getKV codecsM (kind : Int) = some (codecV f1 f2 f3)) (hq : QAt f q m.body.q) (hm : m.body.mayK kind = true) (hl : m.body.q.length ≤ 11) :
  Fn Tryz.prog 84 [.agg (m.vals q qc).toArray] f F (BytesR m.tagged f F) := by
 have hz : ∀ z, (getKV codecsM (kind : Int)).getD z = codecV f1 f2 f3 := fun z => by rw [hcod]; rfl
 have hkv : Value.int .u8 (m.body.kind.toNat : Nat) = encU8 (kind : Int) := by rw [hk]; rfl
 have htg : m.tagged = [b8 m.origin] ++ depsB m.deps 11 ++ [m.body.kind] ++ m.body.putK kind := by unfold Msg.tagged Bod.put; rw [hk]
 rw [htg]
 clear htg
 refine Fn.enter Tryz.func84 rfl Tryz.ntmps84 rfl (L := [(0, _)]) ⟨rfl, trivial⟩ fun base => ?_
 repeat ((first | apply H.seq | apply H.Ab))
 refine H.box (ls := m.vals q qc) rfl rfl rfl rfl fun mb => ?_
 repeat (first | ((apply H.Ad); (iterate 3 exact rfl)) | (apply H.Ag; (iterate 3 exact rfl); exact inferInstance; exact rfl) | (apply H.Af; (iterate 3 exact rfl); apply Rd1.ofRow; (repeat (exact .here _ _ _)); (iterate 2 exact rfl)) | (first | apply H.seq | apply H.Ab | apply H.nil | apply H.Aa) | ((apply H.Bp; (iterate 2 exact rfl)); (rfl); exact rfl))
 rw [u8_b8]
 refine H.Bw (out := bytesV [b8 m.origin]) rfl rfl rfl rfl (by decide) (by decide) rfl rfl fun tb => ?_
 refine H.asSlc (k := 1) (sz := 1) rfl (by decide) ?_
 repeat (first | (refine H.Al (ls := v11 m.deps) rfl rfl rfl (zak (by repeat constructor)) rfl rfl ?_) | ((first | apply H.Ac | apply H.Ad); (iterate 3 exact rfl)) | (apply H.Ag; (iterate 3 exact rfl); exact inferInstance; exact rfl) | (first | apply H.seq | apply H.Ab | apply H.nil | apply H.Aa) | (apply H.Ao))
 have hB0l : [b8 m.origin].length = 1 := rfl
 generalize [b8 m.origin] = B0 at hB0l ⊢
 refine H.Ae (.there _ (.here _ _)) ?_
 refine H.Bo (ι := Nat × Option Addr × Nat) (fun i => [(12, .int .i64 (i.1 : Int)), (11, .agg (v11 m.deps).toArray), (3, .slice i.2.1 (B0 ++ depsB m.deps i.1).length i.2.2), (1, .pointer (some ⟨mb, 0, none⟩))]) (fun _ => f)
  (fun i => row mb 47 (m.vals q qc) :: slc i.2.1 (B0 ++ depsB m.deps i.1).length i.2.2 5 1 (bytesV (B0 ++ depsB m.deps i.1)) :: F) (fun i => i.1 ≤ 11) (fun i => 11 - i.1) (0, some ⟨tb, 0, none⟩, 1) (Nat.zero_le _) ⟨rfl, rfl, ?_, rfl, trivial⟩ rfl ?_ fun i hi => ?_
 ·show some (Value.slice _ 1 1) = some (Value.slice _ (B0 ++ []).length 1)
  rw [List.append_nil, hB0l]
 ·show _ = _ :: slc _ (B0 ++ []).length 1 _ 1 (bytesV (B0 ++ [])) :: F
  rw [List.append_nil, hB0l]
 ·obtain ⟨i, p', c'⟩ := i
  have hi : i ≤ 11 := hi
  show H _ _ _ [(12, .int .i64 (i : Int)), _, (3, .slice p' (B0 ++ depsB m.deps i).length c'), _] _ (_ :: slc p' (B0 ++ depsB m.deps i).length c' _ 1 (bytesV (B0 ++ depsB m.deps i)) :: F) _
  have hal : (B0 ++ depsB m.deps i).length = 1 + 8 * i := by rw [List.length_append, depsB_len, hB0l]
  by_cases hlt : i < 11
  ·have e1 : B0 ++ depsB m.deps (i + 1) = (B0 ++ depsB m.deps i) ++ be 8 (m.deps i) := by simp only [depsB, List.append_assoc]
   have hg := zam m.deps hlt
   generalize B0 ++ depsB m.deps i = acc at hal e1 ⊢
   repeat (first | ((first | apply H.Ac | apply H.Ad); (iterate 3 exact rfl)) | (first | apply H.seq | apply H.Ab | apply H.nil | apply H.Aa) | ((apply H.cmp); (iterate 5 exact rfl)) | (first | apply H.Ak | apply H.Ao) | (apply H.Au; exact rfl; (omega)) | (apply H.indexV (i := i); (iterate 4 exact rfl); exact hlt; exact rfl; exact hg; exact rfl))
   refine H.Cf (.there _ (.here _ _ _)) (by omega) fun b1 hp => ?_
   subst hp
   refine H.Bn rfl rfl rfl (word_fn (l := acc) f _ (Src.slcS (by repeat constructor) (by rw [zaf]; exact (Nat.mul_one _).symm)) (fun h => by cases h) (by omega)) fun p1 c1 => ?_
   repeat (first | ((first | apply H.Ac | apply H.Ad); (iterate 3 exact rfl)) | (first | apply H.Ab | apply H.nil | apply H.Aa) | ((apply H.ar; (iterate 4 exact rfl)); (with_reducible apply zag; omega); exact rfl) | (apply H.Ba))
   refine H.Ah (x := slc (some ⟨b1, 0, none⟩) _ c' _ _ _) (by repeat constructor) ?_
   refine H.Ae (.there _ (.here _ _)) ?_
   refine H.Bc (i + 1, p1, c1) (by show i + 1 ≤ 11; omega) (by show 11 - (i + 1) < 11 - i; omega) ⟨rfl, rfl, ?_, rfl, trivial⟩ rfl ?_
   ·show some _ = some (Value.slice p1 (B0 ++ depsB m.deps (i + 1)).length c1)
    rw [e1]
   ·show _ = _ :: slc p1 (B0 ++ depsB m.deps (i + 1)).length c1 _ 1 (bytesV (B0 ++ depsB m.deps (i + 1))) :: F
    rw [e1]
  ·have hi11 : i = 11 := by omega
   subst hi11
   generalize hacc : B0 ++ depsB m.deps 11 = acc at hal ⊢
   repeat (first | (first | apply H.seq | apply H.Ab | apply H.nil | apply H.Aa) | ((apply H.cmp); (iterate 5 exact rfl)) | (apply H.Av; exact rfl) | (first | apply H.Bl | apply H.Bj | apply H.Bk | apply H.Bm))
   refine H.Bt (by kernel_rfl) (by decide +kernel) (by repeat (first | exact zab | refine zaa ?_ | refine zac ?_ | refine zae ?_)) (S := [_]) rfl ?_
   refine HB.Aq [(1, false), (2, false), (3, false), (6, false), (7, false), (8, false), (9, false), (12, false), (13, false)] 7 (by kernel_rfl) ?_
   repeat (first | (refine HQ.Al (ls := m.body.vals q qc) rfl rfl rfl (msg_body (by repeat constructor)) rfl rfl ?_) | ((apply HQ.Ac); (iterate 3 exact rfl)) | (apply HQ.Ag; (iterate 3 exact rfl); exact inferInstance; exact rfl) | (apply HQ.Af; (iterate 3 exact rfl); apply Rd1.ofRow; (repeat (exact .here _ _ _)); (iterate 2 exact rfl)))
   refine HQ.Ap rfl ?_
   refine HB.ev2 (i := 0) (j := 10) (by kernel_rfl) rfl rfl ?_ ?_
   ·refine H.callE rfl rfl rfl (codecs_fn f _) fun cb => ?_
    repeat ((apply H.nil))
    refine H.Ae (.there _ (.here _ _)) ?_
    refine H.on [_] (Le.refl _) rfl ?_
    refine HB.Aq [(4, false), (5, false)] 4 (by kernel_rfl) ?_
    refine HQ.lookup (enc := encU8) (k := (kind : Int)) rfl rfl rfl (by repeat constructor) hkv (hz _) rfl ?_
    refine HQ.fieldV (xs := codecCells f1 f2 f3) rfl rfl rfl inferInstance rfl rfl rfl ?_
    refine HQ.Ap rfl ?_
    refine HB.ev1 (i := 10) (by kernel_rfl) rfl ?_
    refine H.Bw (out := bytesV [m.body.kind]) rfl rfl rfl rfl (by decide) (by decide) rfl rfl fun tb2 => ?_
    repeat ((apply H.nil))
    refine H.Ae (x := mp _ _ _) (by repeat constructor) ?_
    refine H.Ae (x := row mb _ _) (by repeat constructor) ?_
    refine H.on0 rfl ?_
    refine HB.ev1 (i := 11) (by kernel_rfl) rfl ?_
    refine H.Bv (m := 1) (xs := bytesV acc) rfl rfl rfl rfl rfl (fun p' c' => (by repeat constructor)) (Src.slice (Rd.ofRow (by repeat constructor)) rfl) (zai _) rfl (by omega) (by omega) fun p2 c2 => ?_
    have e2 : (acc ++ [m.body.kind]).length = acc.length + 1 := by rw [List.length_append]; rfl
    have e3 : bytesV (acc ++ [m.body.kind]) = bytesV acc ++ bytesV [m.body.kind] := zah _ _
    rw [← e3, ← e2]
    generalize acc ++ [m.body.kind] = acc2 at e2 ⊢
    refine H.Ah (x := row tb2 _ _) (by repeat constructor) ?_
    repeat ((apply H.nil))
    refine H.Ae (x := mp _ _ _) (by repeat constructor) ?_
    refine H.Ae (x := row mb _ _) (by repeat constructor) ?_
    refine H.on0 rfl ?_
    refine HB.ev1 (i := 14) (by kernel_rfl) rfl ?_
    refine H.Ae (x := slc p2 _ _ _ _ _) (by repeat constructor) ?_
    refine H.Cf (.here _ _ _) (by omega) fun b1 hp => ?_
    subst hp
    refine H.callVE2 (fs := []) (cs := []) (vs := [.slice (some ⟨b1, 0, none⟩) acc2.length c2, .agg (m.body.vals q qc).toArray]) rfl rfl rfl rfl (hput f _ m.body q qc _ c2 acc2 (Src.slcS (.here _ _ _) (by rw [zaf]; exact (Nat.mul_one _).symm)) (fun h => by cases h) hq hm hl (by omega)) fun p3 c3 => ?_
    repeat ((apply H.nil))
    refine H.Ae (x := mp _ _ _) (by repeat constructor) ?_
    refine H.Ae (x := row mb _ _) (by repeat constructor) ?_
    refine H.on0 rfl ?_
    refine HB.Aq [(15, false)] 0 (by kernel_rfl) ?_
    repeat (((apply HQ.Ad); (iterate 3 exact rfl)))
    refine HQ.Ap rfl ?_
    refine HB.Bf (by kernel_rfl) ?_
    repeat (first | (apply H.Aa) | (apply H.ret))
    refine H.Ah (x := row mb _ _) (by repeat constructor) ?_
    refine H.Ah (x := mp _ _ _) (by repeat constructor) ?_
    refine H.Ah (x := slc (some ⟨b1, 0, none⟩) _ _ _ _ _) (by repeat constructor) ?_
    exact H.Aj rfl rfl (fun _ h => h) ⟨p3, c3, rfl, rfl, rfl⟩
   ·refine H.Bw (out := bytesV [m.body.kind]) rfl rfl rfl rfl (by decide) (by decide) rfl rfl fun tb2 => ?_
    repeat ((apply H.nil))
    refine H.Ae (x := row mb _ _) (by repeat constructor) ?_
    refine H.on0 rfl ?_
    refine HB.ev1 (i := 0) (by kernel_rfl) rfl ?_
    refine H.callE rfl rfl rfl (codecs_fn f _) fun cb => ?_
    repeat ((apply H.nil))
    refine H.Ae (.there _ (.here _ _)) ?_
    refine H.on [_] (Le.refl _) rfl ?_
    refine HB.Aq [(4, false), (5, false)] 3 (by kernel_rfl) ?_
    refine HQ.lookup (enc := encU8) (k := (kind : Int)) rfl rfl rfl (by repeat constructor) hkv (hz _) rfl ?_
    refine HQ.fieldV (xs := codecCells f1 f2 f3) rfl rfl rfl inferInstance rfl rfl rfl ?_
    refine HQ.Ap rfl ?_
    refine HB.ev1 (i := 11) (by kernel_rfl) rfl ?_
    refine H.Bv (m := 1) (xs := bytesV acc) rfl rfl rfl rfl rfl (fun p' c' => (by repeat constructor)) (Src.slice (Rd.ofRow (by repeat constructor)) rfl) (zai _) rfl (by omega) (by omega) fun p2 c2 => ?_
    have e2 : (acc ++ [m.body.kind]).length = acc.length + 1 := by rw [List.length_append]; rfl
    have e3 : bytesV (acc ++ [m.body.kind]) = bytesV acc ++ bytesV [m.body.kind] := zah _ _
    rw [← e3, ← e2]
    generalize acc ++ [m.body.kind] = acc2 at e2 ⊢
    refine H.Ah (x := row tb2 _ _) (by repeat constructor) ?_
    repeat ((apply H.nil))
    refine H.Ae (x := mp _ _ _) (by repeat constructor) ?_
    refine H.Ae (x := row mb _ _) (by repeat constructor) ?_
    refine H.on0 rfl ?_
    refine HB.ev1 (i := 14) (by kernel_rfl) rfl ?_
    refine H.Ae (x := slc p2 _ _ _ _ _) (by repeat constructor) ?_
    refine H.Cf (.here _ _ _) (by omega) fun b1 hp => ?_
    subst hp
    refine H.callVE2 (fs := []) (cs := []) (vs := [.slice (some ⟨b1, 0, none⟩) acc2.length c2, .agg (m.body.vals q qc).toArray]) rfl rfl rfl rfl (hput f _ m.body q qc _ c2 acc2 (Src.slcS (.here _ _ _) (by rw [zaf]; exact (Nat.mul_one _).symm)) (fun h => by cases h) hq hm hl (by omega)) fun p3 c3 => ?_
    repeat ((apply H.nil))
    refine H.Ae (x := mp _ _ _) (by repeat constructor) ?_
    refine H.Ae (x := row mb _ _) (by repeat constructor) ?_
    refine H.on0 rfl ?_
    refine HB.Aq [(15, false)] 0 (by kernel_rfl) ?_
    repeat (((apply HQ.Ad); (iterate 3 exact rfl)))
    refine HQ.Ap rfl ?_
    refine HB.Bf (by kernel_rfl) ?_
    repeat (first | (apply H.Aa) | (apply H.ret))
    refine H.Ah (x := row mb _ _) (by repeat constructor) ?_
    refine H.Ah (x := mp _ _ _) (by repeat constructor) ?_
    refine H.Ah (x := slc (some ⟨b1, 0, none⟩) _ _ _ _ _) (by repeat constructor) ?_
    exact H.Aj rfl rfl (fun _ h => h) ⟨p3, c3, rfl, rfl, rfl⟩
theorem mtagged_fn {m : Msg} {q : Option Addr} {qc : Nat} (hq : QAt f q m.body.q) (hm : m.may = true) :
  Fn Tryz.prog 84 [.agg (m.vals q qc).toArray] f F (BytesR m.tagged f F) := by
 have h1 := (Bod.may_spec (Msg.may_body hm)).2.2
 have h2 := Bod.may_q (Msg.may_body hm)
 generalize hk : m.body.kind.toNat = kind at h1
 match kind, hk, h1 with
 | 1, hk, h1 => exact mtagK_fn f F 1 hk _ _ _ put1 (by rfl) hq h1 h2
 | 2, hk, h1 => exact mtagK_fn f F 2 hk _ _ _ put2 (by rfl) hq h1 h2
 | 3, hk, h1 => exact mtagK_fn f F 3 hk _ _ _ put3 (by rfl) hq h1 h2
 | 4, hk, h1 => exact mtagK_fn f F 4 hk _ _ _ put4 (by rfl) hq h1 h2
 | 5, hk, h1 => exact mtagK_fn f F 5 hk _ _ _ put5 (by rfl) hq h1 h2
 | 6, hk, h1 => exact mtagK_fn f F 6 hk _ _ _ put6 (by rfl) hq h1 h2
 | 0, _, h1 => exact absurd h1 (by simp [Bod.mayK])
 | k + 7, _, h1 => exact absurd h1 (by simp [Bod.mayK])
end
def Msg.right (m : Msg) : Bool := m.may && eq32 m.tag (Sha.numbered m.origin m.number m.tagged)
theorem putK_max (x : Bod) (kind : Nat) (hm : x.mayK kind = true) (hq : x.q.length ≤ 11) : (x.putK kind).length ≤ 900 := by
 match kind, hm with
 | 1, hm =>
  obtain ⟨_, _, _, _, ⟨k1, k2⟩, k3, k4⟩ := of_decide_eq_true hm
  show (be 8 x.view ++ x.req.bytes ++ b32L x.req.tag).length ≤ 900
  rw [List.length_append, List.length_append, be_len, Req.bytes_len]
  show 8 + _ + 32 ≤ 900
  omega
 | 2, _ => simp [Bod.putK, be_len]
 | 3, _ => simp [Bod.putK, be_len]
 | 4, _ =>
  show (be 8 x.view ++ [b8 x.q.length] ++ x.q.flatMap pairB).length ≤ 900
  rw [List.length_append, List.length_append, be_len, flat_pairB_len]
  show 8 + 1 + _ ≤ 900
  omega
 | 5, _ => simp [Bod.putK, be_len]
 | 6, _ => simp [Bod.putK, be_len, b32L]
theorem Msg.tagged_max {m : Msg} (h : m.may = true) : m.tagged.length ≤ 1024 := by
 have h1 := Bod.may_spec (Msg.may_body h)
 have h2 := Bod.may_q (Msg.may_body h)
 have h3 := putK_max m.body m.body.kind.toNat h1.2.2 h2
 unfold Msg.tagged Bod.put
 simp only [List.length_append, List.length_cons, List.length_nil, depsB_len]
 omega
theorem Msg.may_outer {m : Msg} (h : m.may = true) : m.outer := by
 unfold Msg.may at h
 simp only [Bool.and_eq_true, decide_eq_true_eq] at h
 exact h.1
theorem msg_tag {f : Frag} {A A' : List HP} {mb : Nat} {T : TypeId} {m : Msg} {q : Option Addr} {qc : Nat} (h : At A (row mb T (m.vals q qc)) A' (row mb T (m.vals q qc))) : Rd f A mb (0 + 89) (b32 m.tag) := by
 have h1 := Rd.ofRow (f := f) h
 have e : m.vals q qc = ([.int .i64 m.origin, .int .u64 m.number] ++ v11 m.deps ++ m.body.vals q qc) ++ b32 m.tag ++ [] := by unfold Msg.vals; rw [List.append_nil]
 rw [e] at h1
 exact h1.sub rfl
section
variable (f : Frag) (F : List HP)
set_option maxHeartbeats 1600000 in
theorem mright_fn (htab : TabAt f) {x : MV} (hx : x.Good f) : Fn Tryz.prog 58 [.agg x.vals.toArray] f F (Ret (.bool x.m.right) f F) := by
 have hmay := fun G => mmay_fn f G hx
 unfold Msg.right
 by_cases hm : x.m.may = true
 ·rw [hm] at hmay ⊢
  rw [Bool.true_and]
  have htg := fun G => mtagged_fn (qc := x.qc) f G hx.1 hm
  have htl := Msg.tagged_max hm
  have hou := Msg.may_outer hm
  generalize x.m.tagged = tg at htg htl ⊢
  obtain ⟨o1, o2, o3, o4, _⟩ := hou
  refine Fn.enter Tryz.func58 rfl Tryz.ntmps58 rfl (L := [(0, _)]) ⟨rfl, trivial⟩ fun base => ?_
  repeat ((first | apply H.seq | apply H.Ab))
  refine H.box (ls := x.vals) rfl rfl rfl rfl fun mb => ?_
  repeat (first | ((apply H.Ad); (iterate 3 exact rfl)) | (first | apply H.seq | apply H.nil | apply H.Aa))
  refine H.Bt (by kernel_rfl) (by decide +kernel) (by repeat (first | exact zab | refine zaa ?_ | refine zac ?_ | refine zae ?_)) (S := [_]) rfl ?_
  refine HB.Aq [(0, false)] 13 (by kernel_rfl) ?_
  repeat ((refine HQ.Al (ls := x.vals) rfl rfl rfl (Rd.ofRow (by repeat constructor)) rfl rfl ?_))
  refine HQ.Ap rfl ?_
  refine HB.ev1 (i := 1) (by kernel_rfl) rfl ?_
  refine H.Am rfl rfl rfl (hmay _) ?_
  repeat ((apply H.nil))
  refine H.on0 rfl ?_
  refine HB.Aq [(2, false), (3, false), (4, false), (5, false), (6, false), (7, false), (9, false), (10, false)] 4 (by kernel_rfl) ?_
  repeat (first | (refine HQ.Al (ls := x.vals) rfl rfl rfl (Rd.ofRow (by repeat constructor)) rfl rfl ?_) | (refine HQ.Al (ls := b32 x.m.tag) rfl rfl rfl (msg_tag (m := x.m) (q := x.qp) (qc := x.qc) (by repeat constructor)) rfl rfl ?_) | ((apply HQ.Ac); (iterate 3 exact rfl)) | (apply HQ.Ag; (iterate 3 exact rfl); exact inferInstance; exact rfl) | (apply HQ.Af; (iterate 3 exact rfl); apply Rd1.ofRow; (repeat (exact .here _ _ _)); (iterate 2 exact rfl)))
  refine HQ.Ap rfl ?_
  refine HB.ev1 (i := 8) (by kernel_rfl) rfl ?_
  skip
  refine H.Bn rfl rfl rfl (htg _) fun p1 c1 => ?_
  repeat ((apply H.nil))
  refine H.Ae (x := row mb _ _) (by repeat constructor) ?_
  refine H.on0 rfl ?_
  refine HB.ev1 (i := 11) (by kernel_rfl) rfl ?_
  skip
  refine H.Am rfl rfl rfl (ucheck_fn f _ htab o1 o2 o3 o4 (fun G => Src.append (Src.slcS (by repeat constructor) (by rw [zaf]; exact (Nat.mul_one _).symm))) htl) ?_
  repeat ((apply H.nil))
  refine H.on0 rfl ?_
  refine HB.Aq [(12, false), (13, false)] 0 (by kernel_rfl) ?_
  repeat (first | ((apply HQ.Ad); (iterate 3 exact rfl)) | (apply HQ.Ax; (iterate 4 exact rfl)))
  refine HQ.Ap rfl ?_
  refine HB.Bf (by kernel_rfl) ?_
  repeat (first | (apply H.Aa) | (apply H.ret))
  refine H.Ah (x := row mb _ _) (by repeat constructor) ?_
  refine H.Ah (x := slc p1 _ _ _ _ _) (by repeat constructor) ?_
  exact H.Aj rfl rfl (fun _ h => h) ⟨rfl, rfl, rfl⟩
 ·rw [Bool.eq_false_iff.2 hm] at hmay ⊢
  rw [Bool.false_and]
  refine Fn.enter Tryz.func58 rfl Tryz.ntmps58 rfl (L := [(0, _)]) ⟨rfl, trivial⟩ fun base => ?_
  repeat ((first | apply H.seq | apply H.Ab))
  refine H.box (ls := x.vals) rfl rfl rfl rfl fun mb => ?_
  repeat (first | ((apply H.Ad); (iterate 3 exact rfl)) | (first | apply H.seq | apply H.nil | apply H.Aa))
  refine H.Bt (by kernel_rfl) (by decide +kernel) (by repeat (first | exact zab | refine zaa ?_ | refine zac ?_ | refine zae ?_)) (S := [_]) rfl ?_
  refine HB.Aq [(0, false)] 13 (by kernel_rfl) ?_
  repeat ((refine HQ.Al (ls := x.vals) rfl rfl rfl (Rd.ofRow (by repeat constructor)) rfl rfl ?_))
  refine HQ.Ap rfl ?_
  refine HB.ev1 (i := 1) (by kernel_rfl) rfl ?_
  refine H.Am rfl rfl rfl (hmay _) ?_
  repeat ((apply H.nil))
  refine H.on0 rfl ?_
  refine HB.Aq [(2, false), (3, false), (4, false), (5, false), (6, false), (7, false), (9, false), (10, false)] 4 (by kernel_rfl) ?_
  repeat (first | ((apply HQ.Ac); (iterate 3 exact rfl)) | (apply HQ.Bd; (iterate 2 exact rfl)))
  refine HQ.Ap rfl ?_
  refine HB.ev1 (i := 8) (by kernel_rfl) rfl ?_
  repeat (first | (apply H.nil) | (apply H.Bd; (iterate 2 exact rfl)))
  refine H.on0 rfl ?_
  refine HB.ev1 (i := 11) (by kernel_rfl) rfl ?_
  repeat (first | (apply H.nil) | (apply H.Bd; (iterate 2 exact rfl)))
  refine H.on0 rfl ?_
  refine HB.Aq [(12, false), (13, false)] 0 (by kernel_rfl) ?_
  repeat (first | ((apply HQ.Ad); (iterate 3 exact rfl)) | ((apply HQ.Ay); (iterate 4 exact rfl)))
  refine HQ.Ap rfl ?_
  refine HB.Bf (by kernel_rfl) ?_
  repeat (first | (apply H.Aa) | (apply H.ret))
  refine H.Ah (x := row mb _ _) (by repeat constructor) ?_
  exact H.Aj rfl rfl (fun _ h => h) ⟨rfl, rfl, rfl⟩
end
def Msg.eqB (a b : Msg) : Bool := decide (a.origin = b.origin) && (decide (a.number = b.number) && (eqC (v11 a.deps) (v11 b.deps) && (Bod.eqB a.body b.body && eqC (b32 a.tag) (b32 b.tag))))
theorem eqv_refl (v : Value) (h : (match v with | .bool _ | .int _ _ | .string _ => true | _ => false) = true) : eqv v v = true := by
 cases v <;> simp at h <;> simp [eqv]
 rename_i s
 rw [beq_toListBytes]
 simp
def plainC : List Value → Bool
 | [] => true
 | v :: r => (match v with | .bool _ | .int _ _ | .string _ => true | _ => false) && plainC r
theorem eqC_refl : ∀ {l : List Value}, plainC l = true → eqC l l = true
 | [], _ => rfl
 | v :: r, h => by
  simp only [plainC, Bool.and_eq_true] at h
  simp only [eqC, eqv_refl v h.1, eqC_refl h.2, Bool.and_true]
theorem Bod.eqB_refl (x : Bod) : Bod.eqB x x = true := by
 unfold Bod.eqB
 rw [eqC_refl (l := x.req.vals) rfl, eqC_refl (l := b32 x.dig) rfl]
 simp
theorem Msg.eqB_refl (m : Msg) : Msg.eqB m m = true := by
 unfold Msg.eqB
 rw [eqC_refl (l := v11 m.deps) rfl, eqC_refl (l := b32 m.tag) rfl, Bod.eqB_refl]
 simp
theorem eq32_refl (t : Nat → UInt8) : eq32 t t = true := eqC_refl (l := b32 t) rfl
section
variable (f : Frag) (F : List HP)
theorem rsameM_fn {x y : MV} (hx : x.Good f) (hy : y.Good f) : Fn Tryz.prog 30 [.agg x.vals.toArray, .agg y.vals.toArray] f F (Ret (.bool (Msg.eqB x.m y.m)) f F) := by
 by_cases h1 : x.m.origin = y.m.origin
 ·skip
  by_cases h2 : x.m.number = y.m.number
  ·skip
   by_cases h3 : eqC (v11 x.m.deps) (v11 y.m.deps) = true
   ·skip
    by_cases h4 : Bod.eqB x.m.body y.m.body = true
    ·skip
     try simp only [Bool.not_eq_true] at *
     refine Fn.enter Tryz.func30 rfl Tryz.ntmps30 rfl (L := [(0, _), (1, _)]) ⟨rfl, rfl, trivial⟩ fun base => ?_
     repeat (first | ((first | apply H.Ac | apply H.Ad); (iterate 3 exact rfl)) | (apply H.Ag; (iterate 3 exact rfl); exact inferInstance; exact rfl) | (apply H.Af; (iterate 3 exact rfl); apply Rd1.ofRow; (repeat (first | exact .here _ _ _ | apply At.there)); (iterate 2 exact rfl)) | (first | apply H.seq | apply H.Ab | apply H.nil | apply H.Aa) | ((apply H.cmp); (iterate 5 exact rfl)) | (apply H.Ax; (iterate 4 exact rfl)) | (apply H.ret) | (apply H.Bi; (iterate 3 exact rfl); (assumption)) | ((apply H.gtrue); (iterate 3 exact rfl); assumption) | (refine H.box (ls := x.vals) rfl rfl rfl rfl fun ab => ?_) | (refine H.box (ls := y.vals) rfl rfl rfl rfl fun bb => ?_) | (refine H.Al (ls := v11 x.m.deps) rfl rfl rfl (zak (by repeat constructor)) rfl rfl ?_) | (refine H.Al (ls := v11 y.m.deps) rfl rfl rfl (zak (by repeat constructor)) rfl rfl ?_) | (refine H.aggEq (xs := v11 x.m.deps) (ys := v11 y.m.deps) (D := 4) rfl rfl rfl rfl (by kernel_rfl) (by kernel_rfl) (by kernel_rfl) (by kernel_rfl) (by decide) rfl rfl ?_) | (refine H.Al (ls := x.m.body.vals x.qp x.qc) rfl rfl rfl (msg_body (by repeat constructor)) rfl rfl ?_) | (refine H.Al (ls := y.m.body.vals y.qp y.qc) rfl rfl rfl (msg_body (by repeat constructor)) rfl rfl ?_) | (refine H.Am rfl rfl rfl (rsame_fn f _ hx.1 hy.1 (by have := hx.2.1; omega)) ?_) | (refine H.Al (ls := b32 x.m.tag) rfl rfl rfl (msg_tag (by repeat constructor)) rfl rfl ?_) | (refine H.Al (ls := b32 y.m.tag) rfl rfl rfl (msg_tag (by repeat constructor)) rfl rfl ?_) | (refine H.aggEq (xs := b32 x.m.tag) (ys := b32 y.m.tag) (D := 4) rfl rfl rfl rfl (by kernel_rfl) (by kernel_rfl) (by kernel_rfl) (by kernel_rfl) (by decide) rfl rfl ?_))
     refine H.Ah (.here _ _) ?_
     refine H.Ah (.here _ _) ?_
     refine H.Aj rfl rfl (fun _ h => h) ⟨?_, rfl, rfl⟩
     simp [Msg.eqB, *]
    ·skip
     try simp only [Bool.not_eq_true] at *
     refine Fn.enter Tryz.func30 rfl Tryz.ntmps30 rfl (L := [(0, _), (1, _)]) ⟨rfl, rfl, trivial⟩ fun base => ?_
     repeat (first | ((first | apply H.Ac | apply H.Ad); (iterate 3 exact rfl)) | (apply H.Ag; (iterate 3 exact rfl); exact inferInstance; exact rfl) | (apply H.Af; (iterate 3 exact rfl); apply Rd1.ofRow; (repeat (first | exact .here _ _ _ | apply At.there)); (iterate 2 exact rfl)) | (first | apply H.seq | apply H.Ab | apply H.nil | apply H.Aa) | ((apply H.cmp); (iterate 5 exact rfl)) | (apply H.Bd; (iterate 2 exact rfl)) | (apply H.Ax; (iterate 4 exact rfl)) | ((apply H.Ay); (iterate 4 exact rfl)) | (apply H.ret) | (apply H.Bi; (iterate 3 exact rfl); (assumption)) | ((apply H.gtrue); (iterate 3 exact rfl); assumption) | (apply H.gfalse; (iterate 3 exact rfl); assumption) | (refine H.box (ls := x.vals) rfl rfl rfl rfl fun ab => ?_) | (refine H.box (ls := y.vals) rfl rfl rfl rfl fun bb => ?_) | (refine H.Al (ls := v11 x.m.deps) rfl rfl rfl (zak (by repeat constructor)) rfl rfl ?_) | (refine H.Al (ls := v11 y.m.deps) rfl rfl rfl (zak (by repeat constructor)) rfl rfl ?_) | (refine H.aggEq (xs := v11 x.m.deps) (ys := v11 y.m.deps) (D := 4) rfl rfl rfl rfl (by kernel_rfl) (by kernel_rfl) (by kernel_rfl) (by kernel_rfl) (by decide) rfl rfl ?_) | (refine H.Al (ls := x.m.body.vals x.qp x.qc) rfl rfl rfl (msg_body (by repeat constructor)) rfl rfl ?_) | (refine H.Al (ls := y.m.body.vals y.qp y.qc) rfl rfl rfl (msg_body (by repeat constructor)) rfl rfl ?_) | (refine H.Am rfl rfl rfl (rsame_fn f _ hx.1 hy.1 (by have := hx.2.1; omega)) ?_))
     refine H.Ah (.here _ _) ?_
     refine H.Ah (.here _ _) ?_
     refine H.Aj rfl rfl (fun _ h => h) ⟨?_, rfl, rfl⟩
     simp [Msg.eqB, *]
   ·skip
    try simp only [Bool.not_eq_true] at *
    refine Fn.enter Tryz.func30 rfl Tryz.ntmps30 rfl (L := [(0, _), (1, _)]) ⟨rfl, rfl, trivial⟩ fun base => ?_
    repeat (first | ((first | apply H.Ac | apply H.Ad); (iterate 3 exact rfl)) | (apply H.Ag; (iterate 3 exact rfl); exact inferInstance; exact rfl) | (apply H.Af; (iterate 3 exact rfl); apply Rd1.ofRow; (repeat (first | exact .here _ _ _ | apply At.there)); (iterate 2 exact rfl)) | (first | apply H.seq | apply H.Ab | apply H.nil | apply H.Aa) | ((apply H.cmp); (iterate 5 exact rfl)) | (apply H.Bd; (iterate 2 exact rfl)) | (apply H.Ax; (iterate 4 exact rfl)) | ((apply H.Ay); (iterate 4 exact rfl)) | (apply H.ret) | (apply H.Bi; (iterate 3 exact rfl); (assumption)) | (apply H.gfalse; (iterate 3 exact rfl); assumption) | (refine H.box (ls := x.vals) rfl rfl rfl rfl fun ab => ?_) | (refine H.box (ls := y.vals) rfl rfl rfl rfl fun bb => ?_) | (refine H.Al (ls := v11 x.m.deps) rfl rfl rfl (zak (by repeat constructor)) rfl rfl ?_) | (refine H.Al (ls := v11 y.m.deps) rfl rfl rfl (zak (by repeat constructor)) rfl rfl ?_) | (refine H.aggEq (xs := v11 x.m.deps) (ys := v11 y.m.deps) (D := 4) rfl rfl rfl rfl (by kernel_rfl) (by kernel_rfl) (by kernel_rfl) (by kernel_rfl) (by decide) rfl rfl ?_))
    refine H.Ah (.here _ _) ?_
    refine H.Ah (.here _ _) ?_
    refine H.Aj rfl rfl (fun _ h => h) ⟨?_, rfl, rfl⟩
    simp [Msg.eqB, *]
  ·skip
   try simp only [Bool.not_eq_true] at *
   refine Fn.enter Tryz.func30 rfl Tryz.ntmps30 rfl (L := [(0, _), (1, _)]) ⟨rfl, rfl, trivial⟩ fun base => ?_
   repeat (first | ((first | apply H.Ac | apply H.Ad); (iterate 3 exact rfl)) | (apply H.Ag; (iterate 3 exact rfl); exact inferInstance; exact rfl) | (apply H.Af; (iterate 3 exact rfl); apply Rd1.ofRow; (repeat (first | exact .here _ _ _ | apply At.there)); (iterate 2 exact rfl)) | (first | apply H.seq | apply H.Ab | apply H.nil | apply H.Aa) | ((apply H.cmp); (iterate 5 exact rfl)) | (apply H.Bd; (iterate 2 exact rfl)) | (apply H.Ax; (iterate 4 exact rfl)) | ((apply H.Ay); (iterate 4 exact rfl)) | (apply H.ret) | (apply H.Bi; (iterate 3 exact rfl); (assumption)) | (apply H.gno; (iterate 3 exact rfl); (assumption)) | (refine H.box (ls := x.vals) rfl rfl rfl rfl fun ab => ?_) | (refine H.box (ls := y.vals) rfl rfl rfl rfl fun bb => ?_))
   refine H.Ah (.here _ _) ?_
   refine H.Ah (.here _ _) ?_
   refine H.Aj rfl rfl (fun _ h => h) ⟨?_, rfl, rfl⟩
   simp [Msg.eqB, *]
 ·skip
  try simp only [Bool.not_eq_true] at *
  refine Fn.enter Tryz.func30 rfl Tryz.ntmps30 rfl (L := [(0, _), (1, _)]) ⟨rfl, rfl, trivial⟩ fun base => ?_
  repeat (first | ((first | apply H.Ac | apply H.Ad); (iterate 3 exact rfl)) | (apply H.Ag; (iterate 3 exact rfl); exact inferInstance; exact rfl) | (apply H.Af; (iterate 3 exact rfl); apply Rd1.ofRow; (repeat (first | exact .here _ _ _ | apply At.there)); (iterate 2 exact rfl)) | (first | apply H.seq | apply H.Ab | apply H.nil | apply H.Aa) | ((apply H.cmp); (iterate 5 exact rfl)) | (apply H.Bd; (iterate 2 exact rfl)) | ((apply H.Ay); (iterate 4 exact rfl)) | (apply H.ret) | (apply H.gno; (iterate 3 exact rfl); (assumption)) | (refine H.box (ls := x.vals) rfl rfl rfl rfl fun ab => ?_) | (refine H.box (ls := y.vals) rfl rfl rfl rfl fun bb => ?_))
  refine H.Ah (.here _ _) ?_
  refine H.Ah (.here _ _) ?_
  refine H.Aj rfl rfl (fun _ h => h) ⟨?_, rfl, rfl⟩
  simp [Msg.eqB, *]
end
end Go.Proofs.YtoigpgdmignaoaaGreatDoor

namespace Go.Proofs.YtoigpgdmignaoaaGreatDoor
open Go Go.ChangeShapes Go.WideShapes Go.RowKit Go.Deep
/-! ### Cells of arrays, strings and structs -/
theorem Reads.string {P : Program} {W : World} {t : TypeId} {cs : List Value} (ht : P.underlying t = some .string) (h : Reads P W t cs) : ∃ s : ByteArray, cs = [.string s] ∧ s.size ≤ maxLen := by
 obtain ⟨H', enc, b, sp, hd, n, x, h⟩ := h
 obtain ⟨s, h1, _, h2⟩ := DataW.trod_string ht h
 exact ⟨s, h1, h2⟩
theorem pieces_one : ∀ (n : Nat) (cs : List Value) (g : Nat → Value), cs.length = n → (∀ i, i < n → (cs.drop i).take 1 = [g i]) → cs = (List.range n).map g := by
 intro n cs g hl h
 apply List.ext_getElem?
 intro i
 rw [List.getElem?_map]
 by_cases hi : i < n
 ·rw [List.getElem?_range hi]
  have h1 := congrArg (fun l => l[0]?) (h i hi)
  simp only [List.getElem?_take, List.getElem?_drop] at h1
  simpa using h1
 ·rw [List.getElem?_eq_none (by omega), List.getElem?_eq_none (by simpa using hi)]; rfl
theorem Reads.ints {P : Program} {W : World} {t e : TypeId} {n : Nat} {k : IntKind} {cs : List Value} (ht : P.underlying t = some (.array n e)) (he : P.underlying e = some (.int k)) (h1 : P.cellsOf e = 1) (hn : P.cellsOf t = n) (h : Reads P W t cs) :
  ∃ d : Nat → Int, cs = (List.range n).map (fun i => .int k (d i)) ∧ ∀ i, i < n → k.min ≤ d i ∧ d i ≤ k.max := by
 obtain ⟨H', enc, b, sp, hd, fu, x, h⟩ := h
 obtain ⟨xs, m, rfl, rfl, hlen, hl, hel⟩ := DataW.trod_array ht h
 have key : ∀ i, ∃ z, i < n → (cs.drop i).take 1 = [.int k z] ∧ k.min ≤ z ∧ z ≤ k.max := fun i => by
  by_cases hi : i < n
  ·have h2 := hel i hi
   rw [h1, Nat.mul_one, List.getElem?_eq_getElem (by omega)] at h2
   have h3 : Reads P W e ((cs.drop i).take 1) := ⟨H', enc, b, sp, hd, m, _, h2⟩
   obtain ⟨z, e1, e2⟩ := h3.int he
   exact ⟨z, fun _ => ⟨e1, e2⟩⟩
  ·exact ⟨0, fun h => absurd h hi⟩
 refine ⟨fun i => (key i).choose, pieces_one n cs (fun i => .int k (key i).choose) (by rw [hlen, hn]) fun i hi => ((key i).choose_spec hi).1, fun i hi => ((key i).choose_spec hi).2⟩
def AllReads (P : Program) (W : World) : List TypeId → List (List Value) → Prop
 | [], [] => True
 | t :: ts, p :: ps => Reads P W t p ∧ AllReads P W ts ps
 | _, _ => False
def contigB (P : Program) (end_ : Nat) : List Field → Nat → Bool
 | [], a => Nat.beq a end_
 | f :: r, a => Nat.beq f.offset a && contigB P end_ r (a + P.cellsOf f.type)
theorem parts_of {P : Program} {W : World} {cs : List Value} {m : Nat} (hm : cs.length = m) : ∀ (l : List Field) (a : Nat), (∀ f ∈ l, Reads P W f.type ((cs.drop f.offset).take (P.cellsOf f.type))) → contigB P m l a = true →
  ∃ ps : List (List Value), cs.drop a = ps.flatten ∧ AllReads P W (l.map (·.type)) ps
 | [], a, _, hc => ⟨[], by
   have : a = m := Nat.eq_of_beq_eq_true hc
   rw [List.drop_eq_nil_of_le (by omega)]; rfl, trivial⟩
 | f :: r, a, h, hc => by
  simp only [contigB, Bool.and_eq_true] at hc
  have e : f.offset = a := Nat.eq_of_beq_eq_true hc.1
  obtain ⟨ps, e1, e2⟩ := parts_of hm r (a + P.cellsOf f.type) (fun x hx => h x (by simp [hx])) hc.2
  have h0 := h f (by simp)
  rw [e] at h0
  refine ⟨(cs.drop a).take (P.cellsOf f.type) :: ps, ?_, h0, e2⟩
  rw [List.flatten_cons, ← e1, ← List.drop_drop, List.take_append_drop]
theorem Reads.parts {P : Program} {W : World} {t : TypeId} {cs : List Value} {fs : List Field} (ht : P.underlying t = some (.struct fs.toArray)) (hc : contigB P (P.cellsOf t) fs 0 = true) (h : Reads P W t cs) :
  ∃ ps : List (List Value), cs = ps.flatten ∧ AllReads P W (fs.map (·.type)) ps := by
 obtain ⟨h1, h2⟩ := h.struct ht
 obtain ⟨ps, e1, e2⟩ := parts_of (P := P) (W := W) h1 fs 0 (fun f hf => by
  obtain ⟨i, hi⟩ := List.getElem?_of_mem hf
  exact h2 i f (by simpa using hi)) hc
 exact ⟨ps, by simpa using e1, e2⟩
/-! ### Messages, packets, steps -/
theorem u8_back {z : Int} (h : IntKind.min .u8 ≤ z ∧ z ≤ IntKind.max .u8) : (((UInt8.ofNat z.toNat).toNat : Nat) : Int) = z := by
 have h1 : (0 : Int) ≤ z := h.1
 have h2 : z ≤ 255 := h.2
 rw [UInt8.toNat_ofNat']
 omega
theorem reads_vecT {W : World} {cs : List Value} (h : Reads Tryz.prog W 37 cs) : ∃ d : Nat → Int, (∀ i, i < 11 → 0 ≤ d i ∧ d i ≤ 18446744073709551615) ∧ cs = v11 d := by
 obtain ⟨d, e, hd⟩ := h.ints Tryz.underlying37 Tryz.underlying35 (by kernel_rfl) (by kernel_rfl)
 exact ⟨d, fun i hi => hd i hi, e⟩
theorem reads_32 {W : World} {cs : List Value} (h : Reads Tryz.prog W 40 cs) : ∃ d : Nat → UInt8, cs = b32 d := by
 obtain ⟨d, e, hb⟩ := h.ints Tryz.underlying40 Tryz.underlying5 (by kernel_rfl) (by kernel_rfl)
 refine ⟨fun i => UInt8.ofNat (d i).toNat, ?_⟩
 have e2 : b32 (fun i => UInt8.ofNat (d i).toNat) = (List.range 32).map (fun i => Value.int .u8 ((UInt8.ofNat (d i).toNat).toNat : Nat)) := rfl
 rw [e, e2]
 refine List.map_congr_left fun i hi => ?_
 rw [List.mem_range] at hi
 rw [u8_back (hb i hi)]
theorem reads_pair {W : World} {cs : List Value} (h : Reads Tryz.prog W 61 cs) : ∃ x : Int × Int, True ∧ cs = pairV x := by
 obtain ⟨ps, rfl, hh⟩ := h.parts Tryz.underlying61 (by kernel_rfl)
 have h : AllReads Tryz.prog W [3, 35] ps := hh
 match ps, h with
 | [p0, p1], ⟨r0, r1, _⟩ =>
  obtain ⟨z0, rfl, _⟩ := r0.int Tryz.underlying3
  obtain ⟨z1, rfl, _⟩ := r1.int Tryz.underlying35
  exact ⟨(z0, z1), trivial, rfl⟩
theorem reads_op {W : World} {cs : List Value} (h : Reads Tryz.prog W 39 cs) : ∃ (k : UInt8) (a b c d : ByteArray) (n : Int), cs = [.int .u8 (k.toNat : Nat), .string a, .string b, .string c, .string d, .int .u64 n] ∧ 0 ≤ n ∧ n ≤ 18446744073709551615 := by
 obtain ⟨ps, rfl, hh⟩ := h.parts Tryz.underlying39 (by kernel_rfl)
 have h : AllReads Tryz.prog W [5, 9, 9, 9, 9, 35] ps := hh
 match ps, h with
 | [p0, p1, p2, p3, p4, p5], ⟨r0, r1, r2, r3, r4, r5, _⟩ =>
  obtain ⟨z0, rfl, hz⟩ := r0.int Tryz.underlying5
  obtain ⟨s1, rfl, _⟩ := r1.string Tryz.underlying9
  obtain ⟨s2, rfl, _⟩ := r2.string Tryz.underlying9
  obtain ⟨s3, rfl, _⟩ := r3.string Tryz.underlying9
  obtain ⟨s4, rfl, _⟩ := r4.string Tryz.underlying9
  obtain ⟨z5, rfl, h5⟩ := r5.int Tryz.underlying35
  refine ⟨UInt8.ofNat z0.toNat, s1, s2, s3, s4, z5, ?_, h5⟩
  rw [u8_back hz]
  rfl
theorem reads_req {W : World} {cs : List Value} (h : Reads Tryz.prog W 42 cs) : ∃ r : Req, r.Ok ∧ cs = r.vals := by
 obtain ⟨ps, rfl, hh⟩ := h.parts Tryz.underlying42 (by kernel_rfl)
 have h : AllReads Tryz.prog W [3, 35, 39, 40] ps := hh
 match ps, h with
 | [p0, p1, p2, p3], ⟨r0, r1, r2, r3, _⟩ =>
  obtain ⟨z0, rfl, _⟩ := r0.int Tryz.underlying3
  obtain ⟨z1, rfl, h1⟩ := r1.int Tryz.underlying35
  obtain ⟨k, a, b, c, d, n, rfl, hn⟩ := reads_op r2
  obtain ⟨t, rfl⟩ := reads_32 r3
  exact ⟨⟨z0, z1, k, a, b, c, d, n, t⟩, ⟨h1, hn⟩, rfl⟩
theorem reads_body {W : World} {cs : List Value} (h : Reads Tryz.prog W 45 cs) : ∃ (x : Bod) (q : Option Addr) (c : Nat), x.Ok ∧ QAt (memOf W) q x.q ∧ cs = x.vals q c := by
 obtain ⟨ps, rfl, hh⟩ := h.parts Tryz.underlying45 (by kernel_rfl)
 have h : AllReads Tryz.prog W [5, 35, 35, 42, 43, 40] ps := hh
 match ps, h with
 | [p0, p1, p2, p3, p4, p5], ⟨r0, r1, r2, r3, r4, r5, _⟩ =>
  obtain ⟨z0, rfl, hz⟩ := r0.int Tryz.underlying5
  obtain ⟨z1, rfl, h1⟩ := r1.int Tryz.underlying35
  obtain ⟨z2, rfl, h2⟩ := r2.int Tryz.underlying35
  obtain ⟨r, hr, rfl⟩ := reads_req r3
  obtain ⟨p, c, xs, rfl, _, _, _, hat⟩ := r4.list (sz := 2) Tryz.underlying43 (by kernel_rfl) (by decide) fun cs => reads_pair
  obtain ⟨t, rfl⟩ := reads_32 r5
  refine ⟨⟨UInt8.ofNat z0.toNat, z1, z2, r, xs, t⟩, p, c, ⟨h1, h2, hr⟩, hat, ?_⟩
  unfold Bod.vals
  rw [u8_back hz]
  rfl
def MV.Has (f : Frag) (x : MV) : Prop := QAt f x.qp x.m.body.q ∧ x.m.body.Ok
def Msg.Typ (m : Msg) : Prop := m.body.Ok ∧ ∀ i, i < 11 → 0 ≤ m.deps i
theorem reads_msgT {W : World} {cs : List Value} (h : Reads Tryz.prog W 47 cs) : ∃ x : MV, x.Has (memOf W) ∧ x.m.Typ ∧ cs = x.vals := by
 obtain ⟨ps, rfl, hh⟩ := h.parts Tryz.underlying47 (by kernel_rfl)
 have h : AllReads Tryz.prog W [3, 35, 37, 45, 40] ps := hh
 match ps, h with
 | [p0, p1, p2, p3, p4], ⟨r0, r1, r2, r3, r4, _⟩ =>
  obtain ⟨z0, rfl, _⟩ := r0.int Tryz.underlying3
  obtain ⟨z1, rfl, _⟩ := r1.int Tryz.underlying35
  obtain ⟨d, hd, rfl⟩ := reads_vecT r2
  obtain ⟨x, q, c, hx, hq, rfl⟩ := reads_body r3
  obtain ⟨t, rfl⟩ := reads_32 r4
  exact ⟨⟨⟨z0, z1, d, x, t⟩, q, c⟩, ⟨hq, hx⟩, ⟨hx, fun i hi => (hd i hi).1⟩, rfl⟩
end Go.Proofs.YtoigpgdmignaoaaGreatDoor

namespace Go.Proofs.YtoigpgdmignaoaaGreatDoor
open Go
/-! ### Cells that are told apart by eqC alone -/
def kdV : Value → Value
 | .int k _ => .int k 0
 | .string _ => .bool true
 | .bool _ => .bool false
 | v => v
theorem eqv_eq {a b : Value} (h : eqv a b = true) (hk : kdV a = kdV b) : a = b := by
 cases a with
 | bool x =>
  cases b <;> simp [eqv] at h
  subst h; rfl
 | int k x =>
  cases b with
  | int l y =>
   simp [eqv] at h
   simp [kdV] at hk
   subst h; subst hk; rfl
  | _ => simp [eqv] at h
 | string x =>
  cases b with
  | string y =>
   simp only [eqv] at h
   rw [beq_toListBytes, ByteArray.toList_eq, ByteArray.toList_eq, beq_iff_eq] at h
   rw [show x = y from ByteArray.ext (Array.ext' h)]
  | _ => simp [eqv] at h
 | _ => simp [eqv] at h
theorem eqC_eq : ∀ {a b : List Value}, eqC a b = true → a.map kdV = b.map kdV → a = b
 | [], [], _, _ => rfl
 | [], _ :: _, h, _ => by simp [eqC] at h
 | _ :: _, [], h, _ => by simp [eqC] at h
 | x :: xs, y :: ys, h, hk => by
  simp only [eqC, Bool.and_eq_true] at h
  simp only [List.map_cons, List.cons.injEq] at hk
  rw [eqv_eq h.1 hk.1, eqC_eq h.2 hk.2]
theorem u8_inj {a b : UInt8} (h : Value.int .u8 (a.toNat : Nat) = Value.int .u8 (b.toNat : Nat)) : a = b := by
 simp only [Value.int.injEq, true_and] at h
 exact UInt8.toNat_inj.1 (by omega)
theorem bytesV_inj : ∀ {a b : List UInt8}, bytesV a = bytesV b → a = b
 | [], [], _ => rfl
 | [], _ :: _, h => by simp [bytesV] at h
 | _ :: _, [], h => by simp [bytesV] at h
 | x :: xs, y :: ys, h => by
  simp only [bytesV, List.map_cons, List.cons.injEq] at h
  rw [u8_inj h.1, bytesV_inj h.2]
theorem b32_L {a b : Nat → UInt8} (h : b32 a = b32 b) : b32L a = b32L b := bytesV_inj (by rw [← b32_bytes, ← b32_bytes]; exact h)
theorem eq32_iff {a b : Nat → UInt8} : eqC (b32 a) (b32 b) = true ↔ b32 a = b32 b :=
 ⟨fun h => eqC_eq h rfl, fun h => by rw [h]; exact eq32_refl b⟩
theorem v11_iff {a b : Nat → Int} : v11 a = v11 b ↔ ∀ i, i < 11 → a i = b i := by
 constructor
 ·intro h i hi
  have h1 := zam a hi
  have h2 := zam b hi
  rw [h, h2] at h1
  simp only [Option.some.injEq, Value.int.injEq, true_and] at h1
  exact h1.symm
 ·intro h
  unfold v11
  rw [h 0 (by decide), h 1 (by decide), h 2 (by decide), h 3 (by decide), h 4 (by decide), h 5 (by decide), h 6 (by decide), h 7 (by decide), h 8 (by decide), h 9 (by decide), h 10 (by decide)]
theorem eqReq_iff {a b : Req} : eqC a.vals b.vals = true ↔ a.vals = b.vals :=
 ⟨fun h => eqC_eq h rfl, fun h => by rw [h]; exact eqC_refl rfl⟩
theorem Bod.E.refl (a : Bod) : Bod.E a a := ⟨rfl, rfl, rfl, rfl, rfl, rfl⟩
theorem Bod.E.symm {a b : Bod} (h : Bod.E a b) : Bod.E b a := ⟨h.1.symm, h.2.1.symm, h.2.2.1.symm, h.2.2.2.1.symm, h.2.2.2.2.1.symm, h.2.2.2.2.2.symm⟩
theorem Bod.E.trans {a b c : Bod} (h : Bod.E a b) (g : Bod.E b c) : Bod.E a c := ⟨h.1.trans g.1, h.2.1.trans g.2.1, h.2.2.1.trans g.2.2.1, h.2.2.2.1.trans g.2.2.2.1, h.2.2.2.2.1.trans g.2.2.2.2.1, h.2.2.2.2.2.trans g.2.2.2.2.2⟩
theorem Bod.eqB_iff {a b : Bod} : Bod.eqB a b = true ↔ Bod.E a b := by
 unfold Bod.eqB Bod.E
 rw [Bool.and_eq_true, Bool.and_eq_true, Bool.and_eq_true, Bool.and_eq_true, Bool.and_eq_true, decide_eq_true_eq, decide_eq_true_eq, decide_eq_true_eq, decide_eq_true_eq, eqReq_iff, eq32_iff]
 constructor
 ·rintro ⟨⟨⟨⟨⟨h1, h2⟩, h3⟩, h4⟩, h5⟩, h6⟩
  exact ⟨UInt8.toNat_inj.1 (by omega), h2, h3, h4, h5, h6⟩
 ·rintro ⟨h1, h2, h3, h4, h5, h6⟩
  exact ⟨⟨⟨⟨⟨by rw [h1], h2⟩, h3⟩, h4⟩, h5⟩, h6⟩
/-! ### What the same bodies, and messages, have in common -/
theorem Req.vals_inj {a b : Req} (h : a.vals = b.vals) : a.client = b.client ∧ a.time = b.time ∧ a.kind = b.kind ∧ a.key = b.key ∧ a.val = b.val ∧ a.old = b.old ∧ a.to = b.to ∧ a.amount = b.amount ∧ b32 a.tag = b32 b.tag := by
 unfold Req.vals at h
 have h1 := List.append_inj h rfl
 have h2 := h1.1
 simp only [List.cons.injEq, Value.int.injEq, Value.string.injEq, true_and, and_true] at h2
 obtain ⟨a1, a2, a3, a4, a5, a6, a7, a8⟩ := h2
 exact ⟨a1, a2, UInt8.toNat_inj.1 (by omega), a4, a5, a6, a7, a8, h1.2⟩
theorem Req.bytes_congr {a b : Req} (h : a.vals = b.vals) : a.bytes = b.bytes ∧ (a.asked ↔ b.asked) ∧ b32L a.tag = b32L b.tag := by
 obtain ⟨h1, h2, h3, h4, h5, h6, h7, h8, h9⟩ := Req.vals_inj h
 unfold Req.bytes Req.head Req.asked
 rw [h1, h2, h3, h4, h5, h6, h7, h8]
 exact ⟨rfl, Iff.rfl, b32_L h9⟩
theorem Bod.mayK_congr {a b : Bod} (h : Bod.E a b) (k : Nat) : a.mayK k = b.mayK k := by
 obtain ⟨h1, h2, h3, h4, h5, h6⟩ := h
 obtain ⟨_, r2, _⟩ := Req.bytes_congr h4
 unfold Bod.mayK
 rw [h2, h3, h5, decide_eq_decide.2 r2]
theorem Bod.own_congr {a b : Bod} (h : Bod.E a b) : Bod.E a.own b.own := by
 obtain ⟨h1, h2, h3, h4, h5, h6⟩ := h
 unfold Bod.own
 rw [h1]
 generalize b.kind.toNat = k
 match k with
 | 0 => exact ⟨h1, rfl, rfl, rfl, rfl, rfl⟩
 | 1 => exact ⟨h1, h2, rfl, h4, rfl, rfl⟩
 | 2 => exact ⟨h1, h2, h3, rfl, rfl, rfl⟩
 | 3 => exact ⟨h1, h2, rfl, rfl, rfl, rfl⟩
 | 4 => exact ⟨h1, h2, rfl, rfl, h5, rfl⟩
 | 5 => exact ⟨h1, h2, rfl, rfl, rfl, rfl⟩
 | 6 => exact ⟨h1, rfl, h3, rfl, rfl, h6⟩
 | k + 7 => exact ⟨h1, rfl, rfl, rfl, rfl, rfl⟩
theorem Bod.may_congr {a b : Bod} (h : Bod.E a b) : a.may = b.may := by
 have h0 := Bod.own_congr h
 unfold Bod.may
 rw [Bod.mayK_congr h, h.1, h.2.1, Bool.eq_iff_iff.2 (Bod.eqB_iff.trans (Iff.trans ⟨fun g => h0.symm.trans (g.trans h), fun g => h0.trans (g.trans h.symm)⟩ Bod.eqB_iff.symm))]
theorem maxTo_congr {a b : Nat → Int} : ∀ n, (∀ i, i ≤ n → a i = b i) → maxTo a n = maxTo b n
 | 0, h => h 0 (Nat.le_refl _)
 | n + 1, h => by
  unfold maxTo
  rw [maxTo_congr n fun i hi => h i (by omega), h (n + 1) (Nat.le_refl _)]
def Msg.E0 (a b : Msg) : Prop := a.origin = b.origin ∧ a.number = b.number ∧ v11 a.deps = v11 b.deps ∧ Bod.E a.body b.body
theorem Msg.may_congr {a b : Msg} (h : Msg.E0 a b) : a.may = b.may := by
 obtain ⟨h1, h2, h3, h4⟩ := h
 have h5 := v11_iff.1 h3
 unfold Msg.may
 rw [Bod.may_congr h4]
 have e : a.outer ↔ b.outer := by
  unfold Msg.outer
  rw [h1, h2, maxTo_congr 10 fun i hi => h5 i (by omega)]
  constructor
  ·rintro ⟨a1, a2, a3, a4, a5, a6⟩
   exact ⟨a1, a2, a3, a4, by rw [← h5 _ (by omega)]; exact a5, a6⟩
  ·rintro ⟨a1, a2, a3, a4, a5, a6⟩
   exact ⟨a1, a2, a3, a4, by rw [h5 _ (by omega)]; exact a5, a6⟩
 rw [decide_eq_decide.2 e]
def rngH (g : Nat → HP) : Nat → List HP
 | 0 => []
 | k + 1 => g k :: rngH g k
def fam (g : Nat → HP) (k : Nat) : HP := fun h => stars (rngH g k) h
def updF {α : Type} (g : Nat → α) (i : Nat) (x : α) : Nat → α := fun j => if j = i then x else g j
theorem zaj {α : Type} (g : Nat → α) (i : Nat) (x : α) : updF g i x i = x := if_pos rfl
theorem zan {α : Type} (g : Nat → α) {i j : Nat} (x : α) (h : j ≠ i) : updF g i x j = g j := if_neg h
theorem updF_self {α : Type} (g : Nat → α) (i : Nat) : updF g i (g i) = g := by
 funext j; unfold updF; split
 ·rename_i h; rw [h]
 ·rfl
theorem updF_updF {α : Type} (g : Nat → α) (i : Nat) (x y : α) : updF (updF g i x) i y = updF g i y := by
 funext j; unfold updF; split <;> rfl
theorem rngH_congr {g g' : Nat → HP} : ∀ k, (∀ j, j < k → g j = g' j) → rngH g k = rngH g' k
 | 0, _ => rfl
 | k + 1, h => by unfold rngH; rw [h k (by omega), rngH_congr k fun j hj => h j (by omega)]
theorem fam_pull {g : Nat → HP} {i : Nat} : ∀ {k : Nat}, i < k → stars (rngH g k) = star (g i) (stars (rngH (updF g i emp) k))
 | 0, h => by omega
 | k + 1, h => by
  by_cases e : i = k
  ·subst e
   have e1 : rngH (updF g i emp) i = rngH g i := rngH_congr i fun j hj => zan g emp (by omega)
   show star (g i) (stars (rngH g i)) = star (g i) (star (updF g i emp i) (stars (rngH (updF g i emp) i)))
   rw [zaj, emp_star, e1]
  ·show star (g k) (stars (rngH g k)) = star (g i) (star (updF g i emp k) (stars (rngH (updF g i emp) k)))
   rw [fam_pull (g := g) (i := i) (k := k) (by omega), zan g emp (fun h => e h.symm), star_left_comm]
theorem fam_put {g : Nat → HP} {i k : Nat} {x : HP} (h : i < k) : star x (stars (rngH (updF g i emp) k)) = stars (rngH (updF g i x) k) := by
 rw [fam_pull (g := updF g i x) h, zaj, updF_updF]
theorem fam_pullA {g : Nat → HP} {i k : Nat} (A : List HP) (h : i < k) : stars (fam g k :: A) = stars (g i :: fam (updF g i emp) k :: A) := by
 show star (stars (rngH g k)) (stars A) = star (g i) (star (stars (rngH (updF g i emp) k)) (stars A))
 rw [fam_pull h, star_assoc]
theorem fam_putA {g : Nat → HP} {i k : Nat} {x : HP} (A : List HP) (h : i < k) : stars (x :: fam (updF g i emp) k :: A) = stars (fam (updF g i x) k :: A) := by
 show star x (star (stars (rngH (updF g i emp) k)) (stars A)) = star (stars (rngH (updF g i x) k)) (stars A)
 rw [← star_assoc, fam_put h]
section
variable {P : Program} {base : World} {n : Nat} {L : Env} {f : Frag} {A : List HP} {K : Kont} {g : Nat → HP} {i k : Nat}
theorem H.famPull (h : i < k) (kk : H P base n L f (g i :: fam (updF g i emp) k :: A) K) : H P base n L f (fam g k :: A) K :=
 H.conv (fam_pullA A h) kk
theorem H.famPut {x : HP} (h : i < k) (kk : H P base n L f (fam (updF g i x) k :: A) K) : H P base n L f (x :: fam (updF g i emp) k :: A) K :=
 H.conv (fam_putA A h) kk
theorem H.famBack (h : i < k) (kk : H P base n L f (fam g k :: A) K) : H P base n L f (g i :: fam (updF g i emp) k :: A) K :=
 H.famPut h (by rw [updF_self]; exact kk)
end
def c11 (g : Nat → Value) : List Value := [g 0, g 1, g 2, g 3, g 4, g 5, g 6, g 7, g 8, g 9, g 10]
theorem c11_get (g : Nat → Value) {i : Nat} (h : i < 11) : (c11 g)[i]? = some (g i) := by
 match i, h with
 | 0, _ => rfl
 | 1, _ => rfl
 | 2, _ => rfl
 | 3, _ => rfl
 | 4, _ => rfl
 | 5, _ => rfl
 | 6, _ => rfl
 | 7, _ => rfl
 | 8, _ => rfl
 | 9, _ => rfl
 | 10, _ => rfl
theorem c11_set (g : Nat → Value) {i : Nat} (v : Value) (h : i < 11) : SetV (c11 g) i v (c11 (updF g i v)) := by
 have e : c11 (updF g i v) = (c11 g).set i v := by
  match i, h with
  | 0, _ => rfl
  | 1, _ => rfl
  | 2, _ => rfl
  | 3, _ => rfl
  | 4, _ => rfl
  | 5, _ => rfl
  | 6, _ => rfl
  | 7, _ => rfl
  | 8, _ => rfl
  | 9, _ => rfl
  | 10, _ => rfl
 rw [e]
 exact SetV.mk v h
abbrev Strm := Nat → List Msg
def aboveB (a b : Nat → Int) : Bool := (List.range 11).any fun i => decide (b i < a i)
def knownS (S : Strm) : Nat → Int := fun i => ((S i).length : Nat)
def orgI (m : Msg) : Nat := (m.origin - 1).toNat
def fitsB (n : Nat) (m : Msg) : Bool := m.may && (decide (m.origin ≤ (n : Int)) && (m.body.q.all (fun p => decide (p.1 ≤ (n : Int))) && (List.range 11).all (fun i => decide (i < n) || decide (m.deps i ≤ 0))))
def lastD (l : List Msg) : Nat → Int := match l.getLast? with
 | some x => x.deps
 | none => fun _ => 0
def chk (n : Nat) (S : Strm) (m : Msg) : Int :=
 if fitsB n m = false then 1 else if m.right = false then 11 else
 if m.number ≤ ((S (orgI m)).length : Nat) then 13 else
 if m.number = (((S (orgI m)).length + 1 : Nat) : Int) ∧ 0 < (S (orgI m)).length ∧ aboveB (lastD (S (orgI m))) m.deps = true then 1 else
 if (((S (orgI m)).length + 1 : Nat) : Int) < m.number ∨ aboveB m.deps (knownS S) = true then 12 else 0
def addS (S : Strm) (m : Msg) : Strm := updF S (orgI m) (S (orgI m) ++ [m])
theorem zaw {a b : Nat → Int} : aboveB a b = false ↔ ∀ i, i < 11 → a i ≤ b i := by
 unfold aboveB
 rw [List.any_eq_false]
 constructor
 ·intro h i hi
  have := h i (List.mem_range.2 hi)
  simp only [decide_eq_true_eq] at this
  omega
 ·intro h i hi
  have := h i (List.mem_range.1 hi)
  simp only [decide_eq_true_eq]
  omega
/-! ### The streams of a list of messages -/
def strm (l : List Msg) : Strm := fun i => l.filter fun m => decide (orgI m = i)
theorem strm_snoc (l : List Msg) (m : Msg) : strm (l ++ [m]) = addS (strm l) m := by
 funext i
 unfold strm addS updF
 rw [List.filter_append]
 by_cases h : i = orgI m
 ·rw [if_pos h, ← h]
  simp [h]
 ·rw [if_neg h]
  have : decide (orgI m = i) = false := decide_eq_false fun e => h e.symm
  simp [this]
def cnt (l : List Msg) (i : Nat) : Nat := (strm l i).length
theorem cnt_snoc (l : List Msg) (m : Msg) (i : Nat) : cnt (l ++ [m]) i = cnt l i + (if i = orgI m then 1 else 0) := by
 unfold cnt
 rw [strm_snoc]
 unfold addS updF
 split
 ·rename_i h; rw [h, List.length_append]; rfl
 ·rfl
structure MOK (n : Nat) (pre : List Msg) (m : Msg) : Prop where
 org : 1 ≤ m.origin ∧ m.origin ≤ (n : Int)
 fits : fitsB n m = true
 right : m.right = true
 num : m.number = ((cnt pre (orgI m) + 1 : Nat) : Int)
 dep : ∀ i, i < 11 → 0 ≤ m.deps i ∧ m.deps i ≤ (cnt pre i : Nat)
 mono : ∀ x ∈ pre, orgI x = orgI m → ∀ i, i < 11 → x.deps i ≤ m.deps i
def WOK (n : Nat) (all : List Msg) : Prop := ∀ j m, all[j]? = some m → MOK n (all.take j) m
theorem WOK.snoc {n : Nat} {all : List Msg} {m : Msg} (h : WOK n all) (hm : MOK n all m) : WOK n (all ++ [m]) := fun j x hj => by
 rcases Nat.lt_or_ge j all.length with hlt | hge
 ·rw [List.getElem?_append_left hlt] at hj
  rw [List.take_append_of_le_length (by omega)]
  exact h j x hj
 ·rw [List.getElem?_append_right hge] at hj
  have e : j = all.length := by
   rcases Nat.eq_or_lt_of_le hge with e | e
   ·exact e.symm
   ·rw [List.getElem?_eq_none (by simp; omega)] at hj; cases hj
  subst e
  rw [Nat.sub_self] at hj
  simp at hj
  subst hj
  rw [List.take_left]
  exact hm
theorem WOK.nil (n : Nat) : WOK n [] := fun j m h => by simp at h
theorem take_snoc {α : Type} {l : List α} {k : Nat} {x : α} (h : l[k]? = some x) : l.take (k + 1) = l.take k ++ [x] := by
 rw [List.take_add_one, h]; rfl
theorem take_all {α : Type} (l : List α) : l.take l.length = l := List.take_length
theorem strm_num {n : Nat} {all : List Msg} (h : WOK n all) : ∀ k i p x, (strm (all.take k) i)[p]? = some x → x.number = ((p + 1 : Nat) : Int)
 | 0, i, p, x, hx => by simp [strm] at hx
 | k + 1, i, p, x, hx => by
  cases hm : all[k]? with
  | none =>
   have e : all.take (k + 1) = all.take k := by rw [List.take_add_one, hm]; simp
   rw [e] at hx
   exact strm_num h k i p x hx
  | some m =>
   have hok := h k m hm
   rw [take_snoc hm, strm_snoc] at hx
   unfold addS updF at hx
   by_cases hi : i = orgI m
   ·rw [if_pos hi] at hx
    rcases Nat.lt_or_ge p (strm (all.take k) (orgI m)).length with hlt | hge
    ·rw [List.getElem?_append_left hlt] at hx
     exact strm_num h k _ p x hx
    ·rw [List.getElem?_append_right hge] at hx
     have e : p = (strm (all.take k) (orgI m)).length := by
      rcases Nat.eq_or_lt_of_le hge with e | e
      ·exact e.symm
      ·rw [List.getElem?_eq_none (by simp; omega)] at hx; cases hx
     subst e
     rw [Nat.sub_self] at hx
     simp at hx
     subst hx
     exact hok.num
   ·rw [if_neg hi] at hx
    exact strm_num h k i p x hx
theorem strm_numA {n : Nat} {all : List Msg} (h : WOK n all) {i p : Nat} {x : Msg} (hx : (strm all i)[p]? = some x) : x.number = ((p + 1 : Nat) : Int) := by
 refine strm_num h all.length i p x ?_
 rw [take_all]; exact hx
theorem strm_mem {l : List Msg} {x : Msg} (hx : x ∈ l) : ∃ p : Nat, (strm l (orgI x))[p]? = some x := by
 have : x ∈ strm l (orgI x) := by unfold strm; rw [List.mem_filter]; exact ⟨hx, by simp⟩
 exact List.getElem?_of_mem this
theorem strm_org {l : List Msg} {i p : Nat} {x : Msg} (h : (strm l i)[p]? = some x) : x ∈ l ∧ orgI x = i := by
 have := List.mem_of_getElem? h
 unfold strm at this
 rw [List.mem_filter] at this
 exact ⟨this.1, of_decide_eq_true this.2⟩
structure Knw (all : List Msg) (u : Nat → Int) : Prop where
 le : ∀ i, 0 ≤ u i ∧ u i ≤ (cnt all i : Nat)
 closed : ∀ x ∈ all, x.number ≤ u (orgI x) → ∀ i, i < 11 → x.deps i ≤ u i
structure W12 where
 kv : Nat → Nat → Int
 all : List Msg
def W12.zero : W12 := ⟨fun _ _ => 0, []⟩
structure WInv (n : Nat) (W : W12) : Prop where
 ok : WOK n W.all
 knw : ∀ r, r < n → Knw W.all (W.kv r)
 own : ∀ r, r < n → W.kv r r = (cnt W.all r : Nat)
theorem WInv.zero (n : Nat) : WInv n W12.zero := ⟨WOK.nil n, fun r _ => ⟨fun i => ⟨Int.le_refl _, by show (0 : Int) ≤ _; omega⟩, fun x hx => by cases hx⟩, fun r _ => rfl⟩
def maxV (a b : Nat → Int) : Nat → Int := fun i => if a i < b i then b i else a i
def W12.meet (W : W12) (o j : Nat) : W12 := { W with kv := updF W.kv o (maxV (W.kv o) (W.kv j)) }
theorem maxV_ge (a b : Nat → Int) (i : Nat) : a i ≤ maxV a b i ∧ b i ≤ maxV a b i ∧ (maxV a b i = a i ∨ maxV a b i = b i) := by
 unfold maxV; split <;> omega
theorem WInv.meet {n : Nat} {W : W12} (h : WInv n W) {o j : Nat} (ho : o < n) (hj : j < n) : WInv n (W.meet o j) := by
 have hkn : Knw W.all (maxV (W.kv o) (W.kv j)) := by
  refine ⟨fun i => ?_, fun x hx hn i hi => ?_⟩
  ·have h1 := (h.knw o ho).le i
   have h2 := (h.knw j hj).le i
   have h3 := maxV_ge (W.kv o) (W.kv j) i
   rcases h3.2.2 with e | e <;> rw [e] <;> omega
  ·have h3 := maxV_ge (W.kv o) (W.kv j) (orgI x)
   have h4 := maxV_ge (W.kv o) (W.kv j) i
   rcases h3.2.2 with e | e <;> rw [e] at hn
   ·have := (h.knw o ho).closed x hx hn i hi
    omega
   ·have := (h.knw j hj).closed x hx hn i hi
    omega
 refine ⟨h.ok, fun r hr => ?_, fun r hr => ?_⟩
 ·show Knw W.all (updF W.kv o (maxV (W.kv o) (W.kv j)) r)
  by_cases e : r = o
  ·subst e; rw [zaj]; exact hkn
  ·rw [zan _ _ e]; exact h.knw r hr
 ·show updF W.kv o (maxV (W.kv o) (W.kv j)) r r = (cnt W.all r : Nat)
  by_cases e : r = o
  ·subst e
   rw [zaj]
   have h1 := h.own r hr
   have h2 := ((h.knw j hj).le r).2
   have h3 := maxV_ge (W.kv r) (W.kv j) r
   rcases h3.2.2 with e | e <;> omega
  ·rw [zan _ _ e]; exact h.own r hr
def W12.say (W : W12) (o : Nat) (m : Msg) : W12 := ⟨updF W.kv o (updF (W.kv o) o (W.kv o o + 1)), W.all ++ [m]⟩
theorem WOK.cnt_zero {n : Nat} {all : List Msg} (h : WOK n all) {i : Nat} (hi : n ≤ i) : cnt all i = 0 := by
 unfold cnt
 rcases Nat.eq_zero_or_pos (strm all i).length with e | e
 ·exact e
 ·obtain ⟨x, hx⟩ : ∃ x, (strm all i)[0]? = some x := ⟨_, List.getElem?_eq_getElem e⟩
  obtain ⟨h1, h2⟩ := strm_org hx
  obtain ⟨j, hj⟩ := List.getElem?_of_mem h1
  have h3 := (h j x hj).org
  unfold orgI at h2
  omega
theorem Msg.signed_E0 (m : Msg) : Msg.E0 m.signed m := by
 unfold Msg.signed
 split
 ·exact ⟨rfl, rfl, rfl, Bod.E.refl _⟩
 ·exact ⟨rfl, rfl, rfl, Bod.E.refl _⟩
theorem Msg.signed_may (m : Msg) : m.signed.may = m.may := Msg.may_congr m.signed_E0
theorem Msg.signed_isright {m : Msg} (hm : m.may = true) : m.signed.right = true := by
 have h2 : ∀ u, ({ m with tag := u } : Msg).right = (m.may && eq32 u (Sha.numbered m.origin m.number m.tagged)) := fun _ => rfl
 unfold Msg.signed
 rw [if_pos hm, h2, hm, eq32_refl]
 rfl
theorem Msg.signed_parts (m : Msg) : m.signed.origin = m.origin ∧ m.signed.number = m.number ∧ m.signed.deps = m.deps ∧ m.signed.body = m.body := by
 unfold Msg.signed
 split
 ·exact ⟨rfl, rfl, rfl, rfl⟩
 ·exact ⟨rfl, rfl, rfl, rfl⟩
theorem WInv.say {n : Nat} (hn : n ≤ 11) {W : W12} (h : WInv n W) {o : Nat} (ho : o < n) {m : Msg} (h1 : m.origin = ((o + 1 : Nat) : Int)) (h2 : m.number = W.kv o o + 1) (h3 : ∀ i, i < 11 → m.deps i = W.kv o i)
  (h4 : m.body.q.all (fun p => decide (p.1 ≤ (n : Int))) = true) (hm : m.may = true) : MOK n W.all m.signed ∧ WInv n (W.say o m.signed) := by
 obtain ⟨e1, e2, e3, e4⟩ := m.signed_parts
 have hk := h.knw o ho
 have hown := h.own o ho
 have horg : orgI m.signed = o := by unfold orgI; rw [e1, h1]; omega
 have hmok : MOK n W.all m.signed := by
  refine ⟨?_, ?_, Msg.signed_isright hm, ?_, fun i hi => ?_, fun x hx hxo i hi => ?_⟩
  ·rw [e1, h1]; omega
  ·unfold fitsB
   rw [Msg.signed_may, hm, e1, e4, h4, e3]
   have a1 : m.origin ≤ (n : Int) := by rw [h1]; omega
   rw [decide_eq_true a1, Bool.true_and, Bool.true_and, Bool.true_and, List.all_eq_true]
   intro i hi
   have hi := List.mem_range.1 hi
   rw [Bool.or_eq_true, decide_eq_true_eq, decide_eq_true_eq]
   by_cases hlt : i < n
   ·exact .inl hlt
   ·refine .inr ?_
    rw [h3 i hi]
    have := (hk.le i).2
    rw [h.ok.cnt_zero (by omega)] at this
    exact this
  ·rw [e2, h2, horg, hown]; omega
  ·rw [e3, h3 i hi]; exact hk.le i
  ·rw [e3, h3 i hi]
   refine hk.closed x hx ?_ i hi
   rw [hxo, horg, hown]
   obtain ⟨p, hp⟩ := strm_mem hx
   have hx1 := strm_numA h.ok hp
   have hx2 : p < (strm W.all (orgI x)).length := by
    rcases Nat.lt_or_ge p (strm W.all (orgI x)).length with h | h
    ·exact h
    ·rw [List.getElem?_eq_none h] at hp; cases hp
   rw [hxo, horg] at hx2
   unfold cnt
   omega
 have hcs : ∀ i, cnt (W.all ++ [m.signed]) i = cnt W.all i + (if i = o then 1 else 0) := fun i => by rw [cnt_snoc, horg]
 refine ⟨hmok, h.ok.snoc hmok, fun r hr => ?_, fun r hr => ?_⟩
 ·show Knw (W.all ++ [m.signed]) (updF W.kv o (updF (W.kv o) o (W.kv o o + 1)) r)
  by_cases e : r = o
  ·subst e
   rw [zaj]
   refine ⟨fun i => ?_, fun x hx hxn i hi => ?_⟩
   ·rw [hcs]
    have := hk.le i
    by_cases e : i = r
    ·subst e; rw [zaj, if_pos rfl]; omega
    ·rw [zan _ _ e, if_neg e]; omega
   ·have hmono : W.kv r i ≤ updF (W.kv r) r (W.kv r r + 1) i := by
     by_cases e : i = r
     ·subst e; rw [zaj]; omega
     ·rw [zan _ _ e]; exact Int.le_refl _
    rcases List.mem_append.1 hx with hx | hx
    ·by_cases hle : x.number ≤ W.kv r (orgI x)
     ·have := hk.closed x hx hle i hi
      omega
     ·have ho2 : orgI x = r := by
       by_cases e : orgI x = r
       ·exact e
       ·rw [zan _ _ e] at hxn; exact absurd hxn hle
      obtain ⟨p, hp⟩ := strm_mem hx
      have hx1 := strm_numA h.ok hp
      have hx2 : p < (strm W.all (orgI x)).length := by
       rcases Nat.lt_or_ge p (strm W.all (orgI x)).length with h | h
       ·exact h
       ·rw [List.getElem?_eq_none h] at hp; cases hp
      rw [ho2] at hx2 hle
      unfold cnt at hown
      omega
    ·rw [List.mem_singleton] at hx
     subst hx
     rw [e3, h3 i hi]
     exact hmono
  ·rw [zan _ _ e]
   have hkr := h.knw r hr
   refine ⟨fun i => ?_, fun x hx hxn i hi => ?_⟩
   ·rw [hcs]
    have := hkr.le i
    split <;> omega
   ·rcases List.mem_append.1 hx with hx | hx
    ·exact hkr.closed x hx hxn i hi
    ·rw [List.mem_singleton] at hx
     subst hx
     rw [horg, e2, h2, hown] at hxn
     have := (hkr.le o).2
     omega
 ·show updF W.kv o (updF (W.kv o) o (W.kv o o + 1)) r r = (cnt (W.all ++ [m.signed]) r : Nat)
  rw [hcs]
  by_cases e : r = o
  ·subst e
   rw [zaj, zaj, if_pos rfl, hown]; omega
  ·rw [zan _ _ e, if_neg e, Nat.add_zero]; exact h.own r hr
def LOK (n : Nat) (l : List Msg) : Prop := ∀ j m, l[j]? = some m → chk n (strm (l.take j)) m = 0
theorem chk_zero {n : Nat} {S : Strm} {m : Msg} (h : chk n S m = 0) : fitsB n m = true ∧ m.right = true ∧ m.number = (((S (orgI m)).length + 1 : Nat) : Int) ∧ (0 < (S (orgI m)).length → ∀ i, i < 11 → lastD (S (orgI m)) i ≤ m.deps i) ∧ (∀ i, i < 11 → m.deps i ≤ knownS S i) := by
 unfold chk at h
 by_cases h1 : fitsB n m = false
 ·rw [if_pos h1] at h; exact absurd h (by decide)
 ·rw [if_neg h1] at h
  by_cases h2 : m.right = false
  ·rw [if_pos h2] at h; exact absurd h (by decide)
  ·rw [if_neg h2] at h
   by_cases h3 : m.number ≤ ((S (orgI m)).length : Nat)
   ·rw [if_pos h3] at h; exact absurd h (by decide)
   ·rw [if_neg h3] at h
    by_cases h4 : m.number = (((S (orgI m)).length + 1 : Nat) : Int) ∧ 0 < (S (orgI m)).length ∧ aboveB (lastD (S (orgI m))) m.deps = true
    ·rw [if_pos h4] at h; exact absurd h (by decide)
    ·rw [if_neg h4] at h
     by_cases h5 : (((S (orgI m)).length + 1 : Nat) : Int) < m.number ∨ aboveB m.deps (knownS S) = true
     ·rw [if_pos h5] at h; exact absurd h (by decide)
     ·have e : m.number = (((S (orgI m)).length + 1 : Nat) : Int) := by omega
      refine ⟨by simpa using h1, by simpa using h2, e, fun hp => ?_, ?_⟩
      ·refine zaw.1 ?_
       cases ha : aboveB (lastD (S (orgI m))) m.deps with
       | false => rfl
       | true => exact absurd ⟨e, hp, ha⟩ h4
      ·refine zaw.1 ?_
       cases ha : aboveB m.deps (knownS S) with
       | false => rfl
       | true => exact absurd (.inr ha) h5
theorem fits_org {n : Nat} {m : Msg} (h : fitsB n m = true) : 1 ≤ m.origin ∧ m.origin ≤ (n : Int) ∧ m.may = true := by
 unfold fitsB at h
 simp only [Bool.and_eq_true, decide_eq_true_eq] at h
 exact ⟨(Msg.may_outer h.1).1, h.2.1, h.1⟩
theorem LOK.num {n : Nat} {l : List Msg} (h : LOK n l) : ∀ k i p x, (strm (l.take k) i)[p]? = some x → x.number = ((p + 1 : Nat) : Int)
 | 0, i, p, x, hx => by simp [strm] at hx
 | k + 1, i, p, x, hx => by
  cases hm : l[k]? with
  | none =>
   have e : l.take (k + 1) = l.take k := by rw [List.take_add_one, hm]; simp
   rw [e] at hx
   exact h.num k i p x hx
  | some m =>
   have hok := (chk_zero (h k m hm)).2.2.1
   rw [take_snoc hm, strm_snoc] at hx
   unfold addS updF at hx
   by_cases hi : i = orgI m
   ·rw [if_pos hi] at hx
    rcases Nat.lt_or_ge p (strm (l.take k) (orgI m)).length with hlt | hge
    ·rw [List.getElem?_append_left hlt] at hx
     exact h.num k _ p x hx
    ·rw [List.getElem?_append_right hge] at hx
     have e : p = (strm (l.take k) (orgI m)).length := by
      rcases Nat.eq_or_lt_of_le hge with e | e
      ·exact e.symm
      ·rw [List.getElem?_eq_none (by simp; omega)] at hx; cases hx
     subst e
     rw [Nat.sub_self] at hx
     simp at hx
     subst hx
     exact hok
   ·rw [if_neg hi] at hx
    exact h.num k i p x hx
theorem LOK.numA {n : Nat} {l : List Msg} (h : LOK n l) {i p : Nat} {x : Msg} (hx : (strm l i)[p]? = some x) : x.number = ((p + 1 : Nat) : Int) := by
 refine h.num l.length i p x ?_
 rw [take_all]; exact hx
theorem LOK.snoc {n : Nat} {l : List Msg} {m : Msg} (h : LOK n l) (hm : chk n (strm l) m = 0) : LOK n (l ++ [m]) := fun j x hj => by
 rcases Nat.lt_or_ge j l.length with hlt | hge
 ·rw [List.getElem?_append_left hlt] at hj
  rw [List.take_append_of_le_length (by omega)]
  exact h j x hj
 ·rw [List.getElem?_append_right hge] at hj
  have e : j = l.length := by
   rcases Nat.eq_or_lt_of_le hge with e | e
   ·exact e.symm
   ·rw [List.getElem?_eq_none (by simp; omega)] at hj; cases hj
  subst e
  rw [Nat.sub_self] at hj
  simp at hj
  subst hj
  rw [List.take_left]
  exact hm
theorem LOK.nil (n : Nat) : LOK n [] := fun j m h => by simp at h
theorem LOK.org {n : Nat} {l : List Msg} (h : LOK n l) {x : Msg} (hx : x ∈ l) : 1 ≤ x.origin ∧ x.origin ≤ (n : Int) := by
 obtain ⟨j, hj⟩ := List.getElem?_of_mem hx
 have := fits_org (chk_zero (h j x hj)).1
 exact ⟨this.1, this.2.1⟩
def findM (l : List Msg) (o z : Int) : Option Msg := l.find? fun x => decide (x.origin = o) && decide (x.number = z)
theorem LOK.find {n : Nat} {l : List Msg} (h : LOK n l) {o : Nat} (ho : o < n) (p : Nat) : findM l ((o + 1 : Nat) : Int) ((p + 1 : Nat) : Int) = (strm l o)[p]? := by
 unfold findM
 cases hp : (strm l o)[p]? with
 | none =>
  rw [List.find?_eq_none]
  intro x hx hb
  simp only [Bool.and_eq_true, decide_eq_true_eq] at hb
  obtain ⟨q, hq⟩ := strm_mem hx
  have h1 := h.numA hq
  have h2 : orgI x = o := by unfold orgI; omega
  rw [h2] at hq
  have h3 : q = p := by omega
  subst h3
  rw [hp] at hq; cases hq
 | some x =>
  obtain ⟨hx, hxo⟩ := strm_org hp
  have hxn := h.numA hp
  cases hf : l.find? fun x => decide (x.origin = ((o + 1 : Nat) : Int)) && decide (x.number = ((p + 1 : Nat) : Int)) with
  | none =>
   rw [List.find?_eq_none] at hf
   have := hf x hx
   have h1 := (h.org hx).1
   simp only [Bool.and_eq_true, decide_eq_true_eq, not_and] at this
   exact absurd hxn (this (by unfold orgI at hxo; omega))
  | some y =>
   have hy := List.mem_of_find?_eq_some hf
   have hb := List.find?_some hf
   simp only [Bool.and_eq_true, decide_eq_true_eq] at hb
   obtain ⟨q, hq⟩ := strm_mem hy
   have h1 := h.numA hq
   have h2 : orgI y = o := by unfold orgI; omega
   rw [h2] at hq
   have h3 : q = p := by omega
   subst h3
   rw [hp] at hq
   exact hq.symm
theorem lastD_get {l : List Msg} {x : Msg} (h : l[l.length - 1]? = some x) : lastD l = x.deps := by
 unfold lastD
 rw [List.getLast?_eq_getElem?, h]
def strmV (l : List MV) : Nat → List MV := fun i => l.filter fun x => decide (orgI x.m = i)
theorem strmV_map (l : List MV) (i : Nat) : (strmV l i).map MV.m = strm (l.map MV.m) i := by
 unfold strmV strm
 rw [List.filter_map]
 rfl
theorem strmV_len (l : List MV) (i : Nat) : (strmV l i).length = cnt (l.map MV.m) i := by
 unfold cnt; rw [← strmV_map, List.length_map]
theorem strmV_snoc (l : List MV) (x : MV) (i : Nat) : strmV (l ++ [x]) i = if i = orgI x.m then strmV l i ++ [x] else strmV l i := by
 unfold strmV
 rw [List.filter_append]
 by_cases h : i = orgI x.m
 ·rw [if_pos h]; simp [h]
 ·rw [if_neg h]
  have : decide (orgI x.m = i) = false := decide_eq_false fun e => h e.symm
  simp [this]
def placesFrom : List Msg → List Msg → List (Nat × Nat)
 | _, [] => []
 | pre, m :: r => (orgI m, cnt pre (orgI m)) :: placesFrom (pre ++ [m]) r
def placesOf (l : List Msg) : List (Nat × Nat) := placesFrom [] l
theorem placesFrom_app : ∀ (a pre b : List Msg), placesFrom pre (a ++ b) = placesFrom pre a ++ placesFrom (pre ++ a) b
 | [], pre, b => by simp [placesFrom]
 | m :: a, pre, b => by
  rw [List.cons_append]
  show _ :: placesFrom (pre ++ [m]) (a ++ b) = (_ :: placesFrom (pre ++ [m]) a) ++ _
  rw [placesFrom_app a (pre ++ [m]) b, List.cons_append]
  simp
theorem placesOf_snoc (l : List Msg) (m : Msg) : placesOf (l ++ [m]) = placesOf l ++ [(orgI m, cnt l (orgI m))] := by
 unfold placesOf
 rw [placesFrom_app]
 rfl
theorem placesFrom_len : ∀ (l pre : List Msg), (placesFrom pre l).length = l.length
 | [], _ => rfl
 | m :: l, pre => by
  show (placesFrom (pre ++ [m]) l).length + 1 = _
  rw [placesFrom_len l]; rfl
def placeV (p : Nat × Nat) : List Value := [.int .i64 (p.1 : Int), .int .i64 (p.2 : Int)]
structure LP where
 P : Nat → Option Addr
 C : Nat → Nat
 po : Option Addr
 co : Nat
def loreCells (n : Nat) (l : List MV) (i : LP) : List Value := [.int .i64 (n : Int)] ++ c11 (fun k => .slice (i.P k) (strmV l k).length (i.C k)) ++ [.slice i.po l.length i.co]
def strH (l : List MV) (i : LP) (k : Nat) : HP := slc (i.P k) (strmV l k).length (i.C k) 47 121 ((strmV l k).flatMap MV.vals)
def ordH (l : List MV) (i : LP) : HP := slc i.po l.length i.co 123 2 ((placesOf (l.map MV.m)).flatMap placeV)
def loreφ (f : Frag) (n : Nat) (l : List MV) : Prop := (∀ x ∈ l, x.Good f) ∧ l.length ≤ 100000 ∧ LOK n (l.map MV.m) ∧ n ≤ 11
def loreH (f : Frag) (lb : Nat) (n : Nat) (l : List MV) : HP := pack (fun _ : LP => loreφ f n l) (fun i => [row lb 120 (loreCells n l i), fam (strH l i) 11, ordH l i])
theorem loreφ.mono {f g : Frag} (h : Le f g) {n : Nat} {l : List MV} (hl : loreφ f n l) : loreφ g n l := ⟨fun x hx => (hl.1 x hx).mono h, hl.2⟩
theorem loreH_mono {f g : Frag} (h : Le f g) {lb n : Nat} {l : List MV} : ∀ x, loreH f lb n l x → loreH g lb n l x := fun x ⟨i, hi, hx⟩ => ⟨i, hi.mono h, hx⟩
theorem H.loreOpen {P : Program} {base : World} {n0 : Nat} {L : Env} {f fl : Frag} {F : List HP} {K : Kont} {lb n : Nat} {l : List MV}
  (k : ∀ i : LP, loreφ fl n l → H P base n0 L f (row lb 120 (loreCells n l i) :: fam (strH l i) 11 :: ordH l i :: F) K) : H P base n0 L f (loreH fl lb n l :: F) K :=
 H.unpack fun i hi => k i hi
theorem zax {fl : Frag} {F : List HP} {lb n : Nat} {l : List MV} (i : LP) (h : loreφ fl n l) : ∀ x, stars (row lb 120 (loreCells n l i) :: fam (strH l i) 11 :: ordH l i :: F) x → stars (loreH fl lb n l :: F) x := fun x hx =>
 pack_fold (ι := LP) (φ := fun _ : LP => loreφ fl n l) (B := fun i => [row lb 120 (loreCells n l i), fam (strH l i) 11, ordH l i]) i h x hx
theorem loreCells_str (n : Nat) (l : List MV) (i : LP) {k : Nat} (h : k < 11) : (loreCells n l i)[1 + k]? = some (.slice (i.P k) (strmV l k).length (i.C k)) := by
 unfold loreCells
 rw [List.append_assoc, List.getElem?_append_right (by show 1 ≤ 1 + k; omega), show 1 + k - [Value.int .i64 (n : Int)].length = k by show 1 + k - 1 = k; omega, List.getElem?_append_left (by show k < 11; exact h), c11_get _ h]
theorem rngH_nil {g : Nat → HP} : ∀ k, (∀ j, j < k → g j nil0) → stars (rngH g k) nil0
 | 0, _ => rfl
 | k + 1, h => ⟨nil0, nil0, Dj.nil _, (un_nil _).symm, h k (by omega), rngH_nil k fun j hj => h j (by omega)⟩
abbrev Nm := Int × Int
def nmV (k : Nm) : List Value := [.int .i64 k.1, .int .u64 k.2]
theorem nmV_len (k : Nm) : (nmV k).length = 2 := rfl
def nmAt (l : List Nm) (k : Nat) : Nm := l.getD k (0, 0)
theorem zbc {l : List Nm} {k : Nat} (h : k < l.length) : l[k]? = some (nmAt l k) := by
 unfold nmAt
 rw [List.getD_eq_getElem?_getD, List.getElem?_eq_getElem h]; rfl
theorem nmAt_of {l : List Nm} {k : Nat} {x : Nm} (h : l[k]? = some x) : nmAt l k = x := by
 unfold nmAt
 rw [List.getD_eq_getElem?_getD, h]; rfl
def swp (l : List Nm) (i j : Nat) : List Nm := (l.set i (nmAt l j)).set j (nmAt l i)
theorem swp_len (l : List Nm) (i j : Nat) : (swp l i j).length = l.length := by
 unfold swp
 rw [List.length_set, List.length_set]
theorem swp_at {l : List Nm} {i j : Nat} (hi : i < l.length) (hj : j < l.length) (k : Nat) : nmAt (swp l i j) k = if k = j then nmAt l i else if k = i then nmAt l j else nmAt l k := by
 unfold swp
 by_cases h1 : k = j
 ·subst h1
  rw [if_pos rfl]
  refine nmAt_of ?_
  rw [List.getElem?_set_self (by rw [List.length_set]; exact hj)]
 ·rw [if_neg h1]
  by_cases h2 : k = i
  ·subst h2
   rw [if_pos rfl]
   refine nmAt_of ?_
   rw [List.getElem?_set_ne (fun e => h1 e.symm), List.getElem?_set_self hi]
  ·rw [if_neg h2]
   show List.getD _ _ _ = List.getD _ _ _
   rw [List.getD_eq_getElem?_getD, List.getD_eq_getElem?_getD, List.getElem?_set_ne (fun e => h1 e.symm), List.getElem?_set_ne (fun e => h2 e.symm)]
theorem nm_mem {l : List Nm} {x : Nm} : x ∈ l ↔ ∃ k, k < l.length ∧ nmAt l k = x := by
 constructor
 ·intro h
  obtain ⟨k, hk⟩ := List.getElem?_of_mem h
  exact ⟨k, (List.getElem?_eq_some_iff.1 hk).1, nmAt_of hk⟩
 ·rintro ⟨k, hk, rfl⟩
  exact List.mem_of_getElem? (zbc hk)
theorem swp_mem {l : List Nm} {i j : Nat} (hi : i < l.length) (hj : j < l.length) (x : Nm) : x ∈ swp l i j ↔ x ∈ l := by
 rw [nm_mem, nm_mem]
 constructor
 ·rintro ⟨k, hk, hx⟩
  rw [swp_len] at hk
  rw [swp_at hi hj] at hx
  by_cases h1 : k = j
  ·rw [if_pos h1] at hx; exact ⟨i, hi, hx⟩
  ·rw [if_neg h1] at hx
   by_cases h2 : k = i
   ·rw [if_pos h2] at hx; exact ⟨j, hj, hx⟩
   ·rw [if_neg h2] at hx; exact ⟨k, hk, hx⟩
 ·rintro ⟨k, hk, hx⟩
  by_cases h1 : k = j
  ·refine ⟨i, by rw [swp_len]; exact hi, ?_⟩
   rw [swp_at hi hj]
   by_cases h2 : i = j
   ·rw [if_pos h2, h2, ← h1]; exact hx
   ·rw [if_neg h2, if_pos rfl, ← h1]; exact hx
  ·by_cases h2 : k = i
   ·refine ⟨j, by rw [swp_len]; exact hj, ?_⟩
    rw [swp_at hi hj, if_pos rfl, ← h2]; exact hx
   ·refine ⟨k, by rw [swp_len]; exact hk, ?_⟩
    rw [swp_at hi hj, if_neg h1, if_neg h2]; exact hx
def Heap (l : List Nm) : Prop := ∀ k, 0 < k → k < l.length → (nmAt l ((k - 1) / 2)).1 ≤ (nmAt l k).1
def HeapBut (l : List Nm) (j : Nat) : Prop := (∀ k, 0 < k → k < l.length → k ≠ j → (nmAt l ((k - 1) / 2)).1 ≤ (nmAt l k).1) ∧ (∀ k, 0 < k → k < l.length → (k - 1) / 2 = j → 0 < j → (nmAt l ((j - 1) / 2)).1 ≤ (nmAt l k).1)
theorem Heap.nil : Heap [] := fun k _ h => by simp at h
theorem Heap.root {l : List Nm} (h : Heap l) : ∀ k, k < l.length → (nmAt l 0).1 ≤ (nmAt l k).1 := fun k => by
 induction k using Nat.strongRecOn with
 | ind k ih =>
  intro hk
  by_cases h0 : k = 0
  ·subst h0; exact Int.le_refl _
  ·exact Int.le_trans (ih ((k - 1) / 2) (by omega) (by omega)) (h k (by omega) hk)
theorem Heap.least {l : List Nm} (h : Heap l) {x : Nm} (hx : x ∈ l) : (nmAt l 0).1 ≤ x.1 := by
 obtain ⟨k, hk, rfl⟩ := nm_mem.1 hx
 exact h.root k hk
theorem Heap.push {l : List Nm} (h : Heap l) (x : Nm) : HeapBut (l ++ [x]) l.length := by
 have hat : ∀ k, k < l.length → nmAt (l ++ [x]) k = nmAt l k := fun k hk => nmAt_of (by rw [List.getElem?_append_left hk]; exact zbc hk)
 refine ⟨fun k h0 hk hne => ?_, fun k h0 hk hp h1 => ?_⟩
 ·rw [List.length_append] at hk
  have hk' : k < l.length := by simp at hk; omega
  rw [hat k hk', hat _ (by omega)]
  exact h k h0 hk'
 ·rw [List.length_append] at hk
  simp at hk
  omega
theorem HeapBut.zero {l : List Nm} (h : HeapBut l 0) : Heap l := fun k h0 hk => h.1 k h0 hk (by omega)
theorem HeapBut.fine {l : List Nm} {j : Nat} (h : HeapBut l j) (hj : (nmAt l ((j - 1) / 2)).1 ≤ (nmAt l j).1) : Heap l := fun k h0 hk => by
 by_cases e : k = j
 ·subst e; exact hj
 ·exact h.1 k h0 hk e
theorem HeapBut.step {l : List Nm} {j : Nat} (h : HeapBut l j) (h0 : 0 < j) (hj : j < l.length) (hlt : (nmAt l j).1 < (nmAt l ((j - 1) / 2)).1) : HeapBut (swp l ((j - 1) / 2) j) ((j - 1) / 2) := by
 obtain ⟨i, hi⟩ : ∃ i, i = (j - 1) / 2 := ⟨_, rfl⟩
 rw [← hi] at hlt ⊢
 have hij : i < j := by omega
 have hil : i < l.length := by omega
 have hat := swp_at hil hj
 refine ⟨fun k k0 hk hne => ?_, fun k k0 hk hp hi0 => ?_⟩
 ·rw [swp_len] at hk
  rw [hat k, hat ((k - 1) / 2), if_neg hne]
  by_cases e : k = j
  ·subst e
   rw [if_pos rfl, ← hi, if_neg (by omega), if_pos rfl]
   omega
  ·rw [if_neg e]
   by_cases e1 : (k - 1) / 2 = j
   ·rw [if_pos e1]
    have := h.2 k k0 hk e1 h0
    rw [← hi] at this
    exact this
   ·rw [if_neg e1]
    by_cases e2 : (k - 1) / 2 = i
    ·rw [if_pos e2]
     have := h.1 k k0 hk e
     rw [e2] at this
     omega
    ·rw [if_neg e2]
     exact h.1 k k0 hk e
 ·rw [swp_len] at hk
  have hpi : (i - 1) / 2 < i := by omega
  rw [hat k, hat ((i - 1) / 2), if_neg (by omega), if_neg (by omega)]
  have hii := h.1 i hi0 hil (by omega)
  by_cases e : k = j
  ·rw [if_pos e]; exact hii
  ·rw [if_neg e, if_neg (by omega)]
   have := h.1 k k0 hk e
   rw [hp] at this
   omega
theorem run_tinfo {P : Program} {t : TypeId} {i : TypeInfo} (h : P.info? t = some i) (w : World) : (typeInfo t).run P w = .ok i w := by
 unfold typeInfo
 simp only [Sem.run_bind, run_program, Result.andThen_ok, h, Sem.run_pure]
def notI : TypeDesc → Bool
 | .interface _ => false
 | _ => true
def metB (P : Program) (t : TypeId) (name : String) (f : FuncId) (b : Bool) : Bool := match P.info? t with
 | some i => match i.methods.find? (·.name == name) with
  | some m => m.path.isEmpty && (match m.func with | some (g, c) => Nat.beq g f && (c == b) | none => false)
  | none => false
 | none => false
theorem metB_spec {P : Program} {t : TypeId} {name : String} {f : FuncId} {b : Bool} (h : metB P t name f b = true) : ∃ i m, P.info? t = some i ∧ i.methods.find? (·.name == name) = some m ∧ m.path = #[] ∧ m.func = some (f, b) := by
 unfold metB at h
 cases h1 : P.info? t with
 | none => rw [h1] at h; cases h
 | some i =>
  rw [h1] at h
  simp only at h
  cases h2 : i.methods.find? (·.name == name) with
  | none => rw [h2] at h; cases h
  | some m =>
   rw [h2] at h
   simp only [Bool.and_eq_true] at h
   obtain ⟨h3, h4⟩ := h
   refine ⟨i, m, rfl, h2, ?_, ?_⟩
   ·simpa using h3
   ·cases h5 : m.func with
    | none => rw [h5] at h4; cases h4
    | some p =>
     obtain ⟨g, c⟩ := p
     rw [h5] at h4
     simp only [Bool.and_eq_true, beq_iff_eq] at h4
     rw [Nat.eq_of_beq_eq_true h4.1, h4.2]
section rules
variable {P : Program} {base : World} {n : Nat} {L : Env} {f : Frag} {A : List HP} {q : Post}
variable {l rest : List Oper} {d : Nat} {ty : TypeId} {pos : String} {af : Array Edge} {gd : Option (Nat × Bool)}
theorem H.makeI {t : TypeId} {x : Operand} {v : Value} {dt : TypeDesc} [hu : Und P t dt] (hn : notI dt = true) (hw : want? l L gd = true) (hx : ev? L x = some v) (hd : Nat.ble (d + 1) n = true)
  (k : H P base n ((d, .iface t v) :: L) f A (.ops l rest q)) : H P base n L f A (.ops l (⟨some d, .makeInterface t x, ty, pos, af, gd⟩ :: rest) q) :=
 H.opV hw hd (fun a w hf _ => by
  have h1 := hu.run w
  cases dt <;> simp [notI] at hn <;> simp [execOp, Instr.makeInterface, hf.eval hx, h1]) k
theorem H.assertI {t xt : TypeId} {x : Operand} {v : Value} {dt : TypeDesc} [hu : Und P t dt] (hn : notI dt = true) (hw : want? l L gd = true) (hx : ev? L x = some (.iface t v)) (hd : Nat.ble (d + 1) n = true)
  (k : H P base n ((d, v) :: L) f A (.ops l rest q)) : H P base n L f A (.ops l (⟨some d, .typeAssert x xt t false, ty, pos, af, gd⟩ :: rest) q) :=
 H.opV hw hd (fun a w hf _ => by
  have h1 := hu.run w
  cases dt <;> simp [notI] at hn <;> simp [execOp, Instr.typeAssert, hf.eval hx, h1]) k
theorem HQ.assertI {V : List HP} {t xt : TypeId} {x : Operand} {v : Value} {dt : TypeDesc} [hu : Und P t dt] (hn : notI dt = true) (hw : want? l L gd = true) (hx : ev? L x = some (.iface t v)) (hd : Nat.ble (d + 1) n = true) {lst : Lst} {ti : Nat} {tt : List (Nat × Bool)}
  (k : HQ V ⟨lst.setIfInBounds ti true, tt⟩ P base n ((d, v) :: L) f A (.ops l rest q)) : HQ V ⟨lst, (ti, false) :: tt⟩ P base n L f A (.ops l (⟨some d, .typeAssert x xt t false, ty, pos, af, gd⟩ :: rest) q) :=
 HQ.opV hw hd (fun a w hf _ => by
  have h1 := hu.run w
  cases dt <;> simp [notI] at hn <;> simp [execOp, Instr.typeAssert, hf.eval hx, h1]) k
end rules
theorem run_method_p {P : Program} {t e : TypeId} [hu : Und P t (.pointer e)] {name : String} {f : FuncId} (h : metB P t name f true = true) (k : Nat) (v : Value) (w : World) : (method (k + 1) t v name).run P w = .ok (f, v) w := by
 obtain ⟨i, m, h1, h2, h3, h4⟩ := metB_spec h
 unfold method
 have h5 := run_tinfo h1 w
 have h6 := hu.run w
 simp only [Sem.run_bind, h5, Result.andThen_ok, h2, h3, h4]
 simp [follow, receiverAt, Place.get, h6]
theorem wrap_some (t : TypeId) (a : Addr) (name : String) : Builtin.ssaWrapNilChk_ #[t] t #[.pointer (some a), strVal "", strVal name] = pure (.pointer (some a)) := rfl
theorem run_method_l {P : Program} {t e : TypeId} [hu : Und P t (.pointer e)] {dt : TypeDesc} [he : Und P e dt] {name : String} {f : FuncId} (h : metB P t name f false = true) (ha : aggD dt = false) (k : Nat) {b off : Nat} {v : Value} {w : World} (hv : w.cell? ⟨b, off, none⟩ = some v) : (method (k + 1) t (.pointer (some ⟨b, off, none⟩)) name).run P w = .ok (f, v) w := by
 obtain ⟨i, m, h1, h2, h3, h4⟩ := metB_spec h
 unfold method
 have h5 := run_tinfo h1 w
 have h6 := hu.run w
 have h7 := run_loadAt1 (P := P) he ha hv
 unfold Instr.loadAt Instr.sureAddr at h7
 simp only [Sem.run_bind, h5, Result.andThen_ok, h2, h3, h4]
 simp only [Array.toList_empty, follow, Sem.run_bind, Sem.run_pure, Result.andThen_ok, receiverAt, h6, Place.get, Array.isEmpty_empty, if_true, wrap_some, asAddr]
 have h8 : (loadVar e ⟨b, off, none⟩).run P w = .ok v w := by
  simpa only [Sem.run_bind, Sem.run_pure, Result.andThen_ok] using h7
 simp only [h8, Result.andThen_ok]
theorem run_enterM {P : Program} {fid : FuncId} [hfun : Fun P fid] (a : Act) {dd : Option Tmp} {x : Operand} {t : TypeId} {v rv : Value} {name : String} {xs : List Operand} {vs : List Value} {ats : Array TypeId} {ty : TypeId} {pos : String} {af : Array Edge} {gd : Option (Nat × Bool)} {w : World} (hx : a.eval x = .iface t v) (hargs : xs.map a.eval = vs)
  (hm : ∀ k, (method (k + 1) t v name).run P w = .ok (fid, rv) w) :
  (execOp a.eval ⟨dd, .call ⟨.invoke x name, xs.toArray, ats⟩, ty, pos, af, gd⟩).run P w = .ok (.enter fid (rv :: vs).toArray) w := by
 obtain ⟨fn, h1, h2, h3⟩ := hfun.eq
 have e1 : (#[a.eval x] ++ Array.map a.eval xs.toArray : Array Value) = (.iface t v :: vs).toArray := by simp [hargs, hx]
 have e3 : ((.iface t v :: vs).toArray : Array Value).extract 1 (Value.iface t v :: vs).toArray.size = vs.toArray := by simp
 have hm' := hm (P.types.size + (Made.depth - 1))
 have e4 : P.types.size + (Made.depth - 1) + 1 = P.types.size + Made.depth := rfl
 rw [e4] at hm'
 have e2 : (execOp a.eval ⟨dd, .call ⟨.invoke x name, xs.toArray, ats⟩, ty, pos, af, gd⟩).run P w = Sem.run P (callFunc fid (#[rv] ++ vs.toArray)) w := by
  simp only [execOp, resolve, Sem.run_bind, Sem.run_pure, Result.andThen_ok, e1, invoke]
  simp only [List.getElem?_toArray, List.getElem?_cons_zero, e3, callMethod, Sem.run_bind, run_program, Result.andThen_ok, hm']
 rw [e2]
 unfold callFunc
 simp only [Sem.run_bind, run_program, Result.andThen_ok, h1, h2, h3, Bool.false_eq_true, if_false, Sem.run_pure]
 simp
section
variable {P : Program} {base : World} {n : Nat} {L : Env} {f f' : Frag} {A A' : List HP} {q : Post}
variable {l rest : List Oper} {d : Nat} {ty : TypeId} {pos : String} {af : Array Edge} {gd : Option (Nat × Bool)}
theorem H.invP {fid : FuncId} {x : Operand} {t e : TypeId} [hu : Und P t (.pointer e)] {rv : Value} {name : String} {xs : List Operand} {vs : List Value} {ats : Array TypeId} {R : Value → Frag → List HP → Prop} (fid' : FuncId) (hm : metB P t name fid' true = true) (hff : fid' = fid) [hfun : Fun P fid] (hx : ev? L x = some (.iface t rv)) (hw : want? l L gd = true) (hd : Nat.ble (d + 1) n = true)
  (hxs : evs? L xs = some vs) (hc : Fn P fid (rv :: vs) f A R)
  (k : ∀ v f' A', R v f' A' → H P base n ((d, v) :: L) f' A' (.ops l rest q)) :
  H P base n L f A (.ops l (⟨some d, .call ⟨.invoke x name, xs.toArray, ats⟩, ty, pos, af, gd⟩ :: rest) q) := .mk fun a w hf s => by
 subst hff
 show wpList P l.toArray (q.den P) _ a w
 unfold wpList
 rw [if_pos (hf.want (o := ⟨some d, _, ty, pos, af, gd⟩) hw)]
 refine .inl ?_
 have hrun := run_enterM (P := P) (dd := some d) (ats := ats) (ty := ty) (pos := pos) (af := af) (gd := gd) (w := w) a (fid := fid') (name := name) (rv := rv) (hf.eval hx) (hf.evals hxs) (fun k => run_method_p hm k rv w)
 simp only [Oper.wp, hrun, Oper.upon]
 refine (hc base w s).mono ?_
 rintro e w' ⟨v, f', A', rfl, hr, s'⟩
 exact (k v f' A' hr).out _ _ (hf.put (Nat.le_of_ble_eq_true hd) v) s'
theorem H.invL {fid : FuncId} {x : Operand} {t e : TypeId} [hu : Und P t (.pointer e)] {dt : TypeDesc} [he : Und P e dt] {b off : Nat} {rv : Value} {name : String} {xs : List Operand} {vs : List Value} {ats : Array TypeId} {R : Value → Frag → List HP → Prop} (fid' : FuncId) (hm : metB P t name fid' false = true) (hff : fid' = fid) [hfun : Fun P fid] (hx : ev? L x = some (.iface t (.pointer (some ⟨b, off, none⟩)))) (hw : want? l L gd = true) (hd : Nat.ble (d + 1) n = true)
  (hxs : evs? L xs = some vs) (ha : aggD dt = false) (hr : Rd1 f A b off rv) (hc : Fn P fid (rv :: vs) f A R)
  (k : ∀ v f' A', R v f' A' → H P base n ((d, v) :: L) f' A' (.ops l rest q)) :
  H P base n L f A (.ops l (⟨some d, .call ⟨.invoke x name, xs.toArray, ats⟩, ty, pos, af, gd⟩ :: rest) q) := .mk fun a w hf s => by
 subst hff
 show wpList P l.toArray (q.den P) _ a w
 unfold wpList
 rw [if_pos (hf.want (o := ⟨some d, _, ty, pos, af, gd⟩) hw)]
 refine .inl ?_
 have hrun := run_enterM (P := P) (dd := some d) (ats := ats) (ty := ty) (pos := pos) (af := af) (gd := gd) (w := w) a (fid := fid') (name := name) (rv := rv) (hf.eval hx) (hf.evals hxs) (fun k => run_method_l hm ha k (hr base w s))
 simp only [Oper.wp, hrun, Oper.upon]
 refine (hc base w s).mono ?_
 rintro e w' ⟨v, f', A', rfl, hr, s'⟩
 exact (k v f' A' hr).out _ _ (hf.put (Nat.le_of_ble_eq_true hd) v) s'
theorem H.invLR {fid : FuncId} {x : Operand} {t e : TypeId} [hu : Und P t (.pointer e)] {dt : TypeDesc} [he : Und P e dt] {b off : Nat} {rv v : Value} {name : String} {xs : List Operand} {vs : List Value} {ats : Array TypeId} (hm : metB P t name fid false = true) [hfun : Fun P fid] (hx : ev? L x = some (.iface t (.pointer (some ⟨b, off, none⟩)))) (hw : want? l L gd = true) (hd : Nat.ble (d + 1) n = true)
  (hxs : evs? L xs = some vs) (ha : aggD dt = false) (hr : Rd1 f A b off rv) (hc : Fn P fid (rv :: vs) f A (Ret v f' A'))
  (k : H P base n ((d, v) :: L) f' A' (.ops l rest q)) :
  H P base n L f A (.ops l (⟨some d, .call ⟨.invoke x name, xs.toArray, ats⟩, ty, pos, af, gd⟩ :: rest) q) :=
 H.invL fid hm rfl hx hw hd hxs ha hr hc fun _ _ _ h => by obtain ⟨rfl, rfl, rfl⟩ := h; exact k
theorem H.invPR {fid : FuncId} {x : Operand} {t e : TypeId} [hu : Und P t (.pointer e)] {rv v : Value} {name : String} {xs : List Operand} {vs : List Value} {ats : Array TypeId} (hm : metB P t name fid true = true) [hfun : Fun P fid] (hx : ev? L x = some (.iface t rv)) (hw : want? l L gd = true) (hd : Nat.ble (d + 1) n = true)
  (hxs : evs? L xs = some vs) (hc : Fn P fid (rv :: vs) f A (Ret v f' A'))
  (k : H P base n ((d, v) :: L) f' A' (.ops l rest q)) :
  H P base n L f A (.ops l (⟨some d, .call ⟨.invoke x name, xs.toArray, ats⟩, ty, pos, af, gd⟩ :: rest) q) :=
 H.invP fid hm rfl hx hw hd hxs hc fun _ _ _ h => by obtain ⟨rfl, rfl, rfl⟩ := h; exact k
end
theorem flat_splice {α : Type} {vals : α → List Value} {sz : Nat} (hv : ∀ x, (vals x).length = sz) {xs : List α} {i : Nat} (z : α) (hi : i < xs.length) (sp : List Value) :
  splice (xs.flatMap vals ++ sp) (i * sz) (vals z) = (xs.set i z).flatMap vals ++ sp := by
 have hx : xs[i]? = some xs[i] := List.getElem?_eq_getElem hi
 have hl : ((xs.take i).flatMap vals).length = i * sz := by rw [zas hv, List.length_take, Nat.min_eq_left (by omega)]
 have h2 : (xs.set i z)[i]? = some z := by rw [List.getElem?_set_self hi]
 have e1 : (xs.set i z).take i = xs.take i := by rw [List.take_set_of_le (Nat.le_refl _)]
 have e2 : (xs.set i z).drop (i + 1) = xs.drop (i + 1) := by rw [List.drop_set_of_lt (by omega)]
 rw [flat_split xs hx, flat_split (xs.set i z) h2, e1, e2]
 generalize (xs.take i).flatMap vals = pre at hl
 unfold splice
 have e3 : pre ++ vals xs[i] ++ (xs.drop (i + 1)).flatMap vals ++ sp = pre ++ (vals xs[i] ++ ((xs.drop (i + 1)).flatMap vals ++ sp)) := by simp
 rw [e3, ← hl, List.take_left, hv z, ← hv xs[i], ← List.drop_drop, List.drop_left, List.drop_left]
 simp
section
variable {P : Program} {base : World} {n : Nat} {L : Env} {f : Frag} {A : List HP} {q : Post} {l rest : List Oper} {ty : TypeId} {pos : String} {af : Array Edge} {gd : Option (Nat × Bool)}
theorem H.storeE {α : Type} {vals : α → List Value} {sz : Nat} {t : TypeId} {x y : Operand} {b n0 c : Nat} {T : TypeId} {xs : List α} {i : Nat} {z : α} {A' : List HP} [hs : Siz P t sz] (hv : ∀ x, (vals x).length = sz) (h0 : 0 < sz) (hone : ∀ v ∈ vals z, one v = true) (hw : want? l L gd = true)
  (hx : ev? L x = some (.pointer (some ⟨b, i * sz, none⟩))) (hy : ev? L y = some (.agg (vals z).toArray)) (hi : i < xs.length)
  (hA : At A (slc (some ⟨b, 0, none⟩) n0 c T sz (xs.flatMap vals)) A' (slc (some ⟨b, 0, none⟩) n0 c T sz ((xs.set i z).flatMap vals)))
  (k : H P base n L f A' (.ops l rest q)) : H P base n L f A (.ops l (⟨none, .store t x y, ty, pos, af, gd⟩ :: rest) q) :=
 H.opS hw (fun a w hfr s => by
  obtain ⟨hl, hc, h3⟩ := s.slc_at hA
  have hn : xs.length = n0 := by
   rw [zas hv] at hl
   exact Nat.eq_of_mul_eq_mul_right h0 hl
  rcases h3 with ⟨e, _⟩ | ⟨b', sp, e, hnc, hcs, hb⟩
  ·omega
  ·cases e
   have hle : i * sz + (vals z).length ≤ (xs.flatMap vals ++ sp).length := by
    rw [List.length_append, zas hv, hv]
    have : (i + 1) * sz ≤ xs.length * sz := Nat.mul_le_mul_right _ hi
    rw [Nat.add_mul] at this
    omega
   have h1 := run_storeCells (P := P) (off := i * sz) (vals z) (xs.flatMap vals ++ sp) 0 w hb hone hle
   have hne : vals z ≠ [] := by intro h; have := hv z; rw [h] at this; simp at this; omega
   rw [if_neg hne, Nat.add_zero, flat_splice hv z hi] at h1
   refine ⟨World.putRow' w b T ((xs.set i z).flatMap vals ++ sp), ?_, s.turnRow hA (b := b) (o' := .cells ((xs.set i z).flatMap vals ++ sp).toArray T (0, 0)) ?_ rfl rfl rfl ?_ ?_⟩
   ·simp only [execOp, hfr.eval hx, hfr.eval hy, Instr.storeAt, Instr.sureAddr, storeVar, Value.cells, Sem.run_bind, Sem.run_pure, Result.andThen_ok, hs.run, List.size_toArray, hv]
    simp [h1]
   ·rintro m1 ⟨_, _, h⟩
    rcases h with ⟨h, _⟩ | ⟨b', sp', h, _, hcs', rfl⟩
    ·omega
    ·cases h; exact ⟨_, rfl⟩
   ·rfl
   ·have e4 : ((xs.set i z).flatMap vals).length = (xs.flatMap vals).length := by rw [zas hv, zas hv, List.length_set]
    refine ⟨by rw [e4]; exact hl, hc, .inr ⟨b, sp, rfl, hnc, ?_, rfl⟩⟩
    rw [List.length_append, e4, ← List.length_append]
    exact hcs) k
end
theorem met_len : metB Tryz.prog 132 "Len" 67 false = true := by kernel_rfl
theorem met_less : metB Tryz.prog 132 "Less" 206 false = true := by kernel_rfl
theorem met_swap : metB Tryz.prog 132 "Swap" 209 false = true := by kernel_rfl
theorem met_push : metB Tryz.prog 132 "Push" 208 true = true := by kernel_rfl
theorem met_pop : metB Tryz.prog 132 "Pop" 207 true = true := by kernel_rfl
theorem nmV_one (k : Nm) : ∀ v ∈ nmV k, one v = true := zad rfl
section
variable (f : Frag) (F : List HP)
theorem nlen_fn {p : Option Addr} {m c : Nat} : Fn Tryz.prog 67 [.slice p m c] f F (Ret (.int .i64 (m : Int)) f F) := by
 refine Fn.enter Tryz.func67 rfl Tryz.ntmps67 rfl (L := [(0, _)]) ⟨rfl, trivial⟩ fun base => ?_
 repeat (first | ((first | apply H.Ac | apply H.Ad | apply H.Az); (iterate 3 exact rfl)) | (first | apply H.seq | apply H.Ab | apply H.nil | apply H.Aa) | (apply H.ret))
 exact H.Aj rfl rfl (fun _ h => h) ⟨rfl, rfl, rfl⟩
theorem nless_fn {p : Option Addr} {n c i j : Nat} {l : List Nm} (hn : l.length = n) (hi : i < n) (hj : j < n) : Fn Tryz.prog 206 [.slice p n c, .int .i64 (i : Int), .int .i64 (j : Int)] f (slc p n c 136 2 (l.flatMap nmV) :: F)
  (Ret (.bool (decide ((nmAt l i).1 < (nmAt l j).1))) f (slc p n c 136 2 (l.flatMap nmV) :: F)) := by
 refine Fn.enter Tryz.func206 rfl Tryz.ntmps206 rfl (L := [(0, _), (1, _), (2, _)]) ⟨rfl, rfl, rfl, trivial⟩ fun base => ?_
 refine H.Cf (.here _ _ _) (by omega) fun sb hsb => ?_
 subst hsb
 have r1 : Rd f (slc (some ⟨sb, 0, none⟩) n c 136 2 (l.flatMap nmV) :: F) sb (i * 2) (nmV (nmAt l i)) := Rd.slcElem nmV_len (by decide) (.here _ _ _) (zbc (by omega))
 have r2 : Rd f (slc (some ⟨sb, 0, none⟩) n c 136 2 (l.flatMap nmV) :: F) sb (j * 2) (nmV (nmAt l j)) := Rd.slcElem nmV_len (by decide) (.here _ _ _) (zbc (by omega))
 repeat (first | ((apply H.Ad); (iterate 3 exact rfl)) | (first | apply H.seq | apply H.Ab | apply H.nil | apply H.Aa))
 refine H.Bz (by kernel_rfl) (by decide +kernel) (by repeat (first | exact zab | refine zaa ?_ | refine zac ?_ | refine zae ?_)) ?_
 repeat (((apply HQ.Ac); (iterate 3 exact rfl)))
 refine HQ.index0 (i := i) rfl rfl rfl rfl hi rfl ?_
 repeat ((apply HQ.Ag; (iterate 3 exact rfl); exact inferInstance; exact rfl))
 refine HQ.Af rfl rfl rfl (Rd1.of r1 rfl) rfl ?_
 repeat (((apply HQ.Ac); (iterate 3 exact rfl)))
 refine HQ.index0 (i := j) rfl rfl rfl rfl hj rfl ?_
 repeat ((apply HQ.Ag; (iterate 3 exact rfl); exact inferInstance; exact rfl))
 refine HQ.Af rfl rfl rfl (Rd1.of r2 rfl) rfl ?_
 repeat (first | ((apply HQ.Ad); (iterate 3 exact rfl)) | ((apply HQ.Bu); exact rfl) | ((apply HQ.cmp); (iterate 5 exact rfl)))
 repeat (first | (apply H.Aa) | (apply H.ret))
 exact H.Aj rfl rfl (fun _ h => h) ⟨rfl, rfl, rfl⟩
theorem nswap_fn {p : Option Addr} {n c i j : Nat} {l : List Nm} (hn : l.length = n) (hi : i < n) (hj : j < n) : Fn Tryz.prog 209 [.slice p n c, .int .i64 (i : Int), .int .i64 (j : Int)] f (slc p n c 136 2 (l.flatMap nmV) :: F)
  (Ret (.tuple #[]) f (slc p n c 136 2 ((swp l i j).flatMap nmV) :: F)) := by
 refine Fn.enter Tryz.func209 rfl Tryz.ntmps209 rfl (L := [(0, _), (1, _), (2, _)]) ⟨rfl, rfl, rfl, trivial⟩ fun base => ?_
 refine H.Cf (.here _ _ _) (by omega) fun sb hsb => ?_
 subst hsb
 have r1 : Rd f (slc (some ⟨sb, 0, none⟩) n c 136 2 (l.flatMap nmV) :: F) sb (i * 2) (nmV (nmAt l i)) := Rd.slcElem nmV_len (by decide) (.here _ _ _) (zbc (by omega))
 have r2 : Rd f (slc (some ⟨sb, 0, none⟩) n c 136 2 (l.flatMap nmV) :: F) sb (j * 2) (nmV (nmAt l j)) := Rd.slcElem nmV_len (by decide) (.here _ _ _) (zbc (by omega))
 skip
 refine H.drawN (by kernel_rfl) (by decide +kernel) (by repeat (first | exact zab | refine zaa ?_ | refine zac ?_ | refine zae ?_)) ?_
 refine HN.move (i := 2) (by kernel_rfl) rfl rfl rfl rfl ?_
 refine HN.move (i := 3) (by kernel_rfl) rfl rfl rfl rfl ?_
 refine HN.phase [0, 1, 4, 5, 6, 7, 8, 9, 10, 11] (S := [slc (some ⟨sb, 0, none⟩) n c 136 2 (l.flatMap nmV)]) rfl ?_
 have q1 : Rd f [slc (some ⟨sb, 0, none⟩) n c 136 2 (l.flatMap nmV)] sb (i * 2) (nmV (nmAt l i)) := Rd.slcElem nmV_len (by decide) (.here _ _ _) (zbc (by omega))
 have q2 : Rd f [slc (some ⟨sb, 0, none⟩) n c 136 2 (l.flatMap nmV)] sb (j * 2) (nmV (nmAt l j)) := Rd.slcElem nmV_len (by decide) (.here _ _ _) (zbc (by omega))
 refine HB.Aq [(0, false), (1, false), (4, false), (5, false), (6, false), (7, false), (8, false), (9, false), (10, false), (11, false)] 4 (by kernel_rfl) ?_
 repeat (((apply HQ.Ac); (iterate 3 exact rfl)))
 refine HQ.index0 (i := j) rfl rfl rfl rfl hj rfl ?_
 refine HQ.Al (ls := nmV (nmAt l j)) rfl rfl rfl q2 rfl rfl ?_
 repeat (((apply HQ.Ac); (iterate 3 exact rfl)))
 refine HQ.index0 (i := i) rfl rfl rfl rfl hi rfl ?_
 refine HQ.Al (ls := nmV (nmAt l i)) rfl rfl rfl q1 rfl rfl ?_
 refine HQ.Ap rfl ?_
 refine HB.next [] (by kernel_rfl) (S' := []) rfl ?_
 refine HB.Aq [(12, false)] 3 (by kernel_rfl) ?_
 refine HQ.index0 (i := i) rfl rfl rfl rfl hi rfl ?_
 refine HQ.Ap rfl ?_
 refine HB.ev1 (i := 13) (by kernel_rfl) rfl ?_
 refine H.storeE (vals := nmV) (xs := l) (i := i) (z := nmAt l j) nmV_len (by decide) (nmV_one _) rfl rfl rfl (by omega) (.here _ _ _) ?_
 repeat ((apply H.nil))
 refine H.on0 rfl ?_
 refine HB.Aq [(14, false)] 1 (by kernel_rfl) ?_
 refine HQ.index0 (i := j) rfl rfl rfl rfl hj rfl ?_
 refine HQ.Ap rfl ?_
 refine HB.ev1 (i := 15) (by kernel_rfl) rfl ?_
 refine H.storeE (vals := nmV) (xs := l.set i (nmAt l j)) (i := j) (z := nmAt l i) nmV_len (by decide) (nmV_one _) rfl rfl rfl (by rw [List.length_set]; omega) (.here _ _ _) ?_
 repeat ((apply H.nil))
 refine H.on0 rfl ?_
 refine HB.Bf (by kernel_rfl) ?_
 skip
 exact H.end0 rfl (fun _ h => h) ⟨rfl, rfl, rfl⟩
theorem npush_fn {nb : Nat} {p : Option Addr} {c : Nat} {l : List Nm} {k : Nm} (hn : l.length ≤ 1000000) : Fn Tryz.prog 208 [.pointer (some ⟨nb, 0, none⟩), .iface 136 (.agg (nmV k).toArray)] f (slc p l.length c 136 2 (l.flatMap nmV) :: row nb 134 [.slice p l.length c] :: F)
  (fun v f' A' => ∃ p' c', v = .tuple #[] ∧ f' = f ∧ A' = row nb 134 [.slice p' (l ++ [k]).length c'] :: slc p' (l ++ [k]).length c' 136 2 ((l ++ [k]).flatMap nmV) :: F) := by
 refine Fn.enter Tryz.func208 rfl Tryz.ntmps208 rfl (L := [(0, _), (1, _)]) ⟨rfl, rfl, trivial⟩ fun base => ?_
 refine H.Ae (x := row nb _ _) (by repeat constructor) ?_
 skip
 refine H.Ch [0, 1, 2, 3, 4, 5, 6, 7, 8] (by kernel_rfl) (by decide +kernel) (by repeat (first | exact zab | refine zaa ?_ | refine zac ?_ | refine zae ?_)) (S := [row nb 134 [.slice p l.length c]]) rfl ?_
 refine HB.Aq [(0, false), (1, false), (2, false), (3, false), (4, false), (5, false)] 4 (by kernel_rfl) ?_
 repeat (first | ((first | apply HQ.Ac | apply HQ.Ar); (iterate 3 exact rfl)) | (apply HQ.Af; (iterate 3 exact rfl); apply Rd1.ofRow; (repeat (exact .here _ _ _)); (iterate 2 exact rfl)))
 refine HQ.assertI (by rfl) rfl rfl rfl ?_
 refine HQ.Ap rfl ?_
 refine HB.ev1 (i := 6) (by kernel_rfl) rfl ?_
 refine H.Bw (out := nmV k) rfl rfl rfl rfl (by decide) (by decide) rfl rfl fun eb => ?_
 repeat ((apply H.nil))
 refine H.Ae (x := row nb _ _) (by repeat constructor) ?_
 refine H.on0 rfl ?_
 refine HB.ev1 (i := 7) (by kernel_rfl) rfl ?_
 refine H.Bv (xs := l.flatMap nmV) (m := 1) (news := nmV k) rfl rfl rfl rfl rfl (fun p' c' => (by repeat constructor)) (Src.slice (Rd.ofRow (by repeat constructor)) rfl) (nmV_one k) rfl (by omega) (by omega) fun p2 c2 => ?_
 refine H.Ah (x := row eb _ _) (by repeat constructor) ?_
 repeat ((apply H.nil))
 refine H.on0 rfl ?_
 refine HB.Aq [(8, false)] 1 (by kernel_rfl) ?_
 repeat (((apply HQ.Ar); (iterate 3 exact rfl)))
 refine HQ.Ap rfl ?_
 refine HB.next [] (by kernel_rfl) (S' := []) rfl ?_
 refine HB.ev1 (i := 9) (by kernel_rfl) rfl ?_
 repeat (first | (apply H.nil) | (apply H.Bq; (iterate 4 exact rfl); (repeat (exact .here _ _ _))))
 refine H.on0 rfl ?_
 refine HB.Bf (by kernel_rfl) ?_
 skip
 refine H.end0 rfl (fun _ h => h) ⟨p2, c2, rfl, rfl, ?_⟩
 rw [show l.length + 1 = (l ++ [k]).length by simp, show l.flatMap nmV ++ nmV k = (l ++ [k]).flatMap nmV by simp]
 rfl
theorem npop_fn {nb : Nat} {p : Option Addr} {c m : Nat} {l : List Nm} (hn : l.length = m + 1) (hm : m ≤ 1000000) : Fn Tryz.prog 207 [.pointer (some ⟨nb, 0, none⟩)] f (slc p (m + 1) c 136 2 (l.flatMap nmV) :: row nb 134 [.slice p (m + 1) c] :: F)
  (Ret (.iface 136 (.agg (nmV (nmAt l m)).toArray)) f F) := by
 refine Fn.enter Tryz.func207 rfl Tryz.ntmps207 rfl (L := [(0, _)]) ⟨rfl, trivial⟩ fun base => ?_
 refine H.Ae (x := row nb _ _) (by repeat constructor) ?_
 refine H.Cf (.there _ (.here _ _ _)) (by omega) fun sb hsb => ?_
 subst hsb
 refine H.slc_cap (.there _ (.here _ _ _)) fun hcap _ _ => ?_
 have r1 : Rd f (row nb 134 [.slice (some ⟨sb, 0, none⟩) (m + 1) c] :: slc (some ⟨sb, 0, none⟩) (m + 1) c 136 2 (l.flatMap nmV) :: F) sb (m * 2) (nmV (nmAt l m)) := Rd.slcElem nmV_len (by decide) (.there _ (.here _ _ _)) (zbc (by omega))
 repeat (first | ((first | apply H.Ac | apply H.Ad | apply H.Ar | apply H.Az); (iterate 3 exact rfl)) | (apply H.Af; (iterate 3 exact rfl); apply Rd1.ofRow; (repeat (exact .here _ _ _)); (iterate 2 exact rfl)) | (first | apply H.seq | apply H.Ab | apply H.nil | apply H.Aa) | ((apply H.ar; (iterate 4 exact rfl)); (with_reducible apply wr_i64_s1; omega); exact rfl))
 refine H.index0 (i := m) rfl rfl rfl rfl (by omega) rfl ?_
 refine H.Al (ls := nmV (nmAt l m)) rfl rfl rfl r1 rfl rfl ?_
 refine H.Bg (ls := nmV (0, 0)) rfl rfl rfl fun xb => ?_
 refine H.Bb (ls := nmV (0, 0)) (vs := nmV (nmAt l m)) (ls' := nmV (nmAt l m)) rfl rfl rfl (nmV_one _) rfl rfl (Nat.le_refl 2) (.here _ _ _) ?_
 repeat (first | ((first | apply H.Ac | apply H.Ar); (iterate 3 exact rfl)) | (apply H.Af; (iterate 3 exact rfl); apply Rd1.ofRow; (repeat (first | exact .here _ _ _ | apply At.there)); (iterate 2 exact rfl)) | (first | apply H.seq | apply H.Ab | apply H.nil | apply H.Aa))
 refine H.sliceTo (hv := m) rfl rfl rfl rfl (by omega) rfl ?_
 repeat (first | ((apply H.Ar); (iterate 3 exact rfl)) | (first | apply H.seq | apply H.Ab | apply H.nil | apply H.Aa) | (apply H.Bq; (iterate 4 exact rfl); (repeat (first | exact .here _ _ _ | apply At.there))))
 refine H.Al (ls := nmV (nmAt l m)) rfl rfl rfl (Rd.ofRow (.here _ _ _)) rfl rfl ?_
 refine H.makeI (by rfl) rfl rfl rfl ?_
 repeat (first | ((apply H.Ad); (iterate 3 exact rfl)) | (first | apply H.nil | apply H.Aa) | (apply H.ret))
 refine H.Ah (.here _ _) ?_
 refine H.Ah (.here _ _) ?_
 refine H.Ah (.here _ _) ?_
 exact H.Aj rfl rfl (fun _ h => h) ⟨rfl, rfl, rfl⟩
theorem up_fn {nb : Nat} {p : Option Addr} {n c j : Nat} {l : List Nm} {z : Int} (hn : l.length = n) (hn1 : n ≤ 1000000) (h : HeapBut l j) (hj : j < n) (hz : z = (j : Nat)) :
  Fn Tryz.prog 91 [.iface 132 (.pointer (some ⟨nb, 0, none⟩)), .int .i64 z] f (slc p n c 136 2 (l.flatMap nmV) :: row nb 134 [.slice p n c] :: F)
  (fun v f' A' => ∃ l', Heap l' ∧ (∀ x, x ∈ l' ↔ x ∈ l) ∧ l'.length = n ∧ v = .tuple #[] ∧ f' = f ∧ A' = slc p n c 136 2 (l'.flatMap nmV) :: row nb 134 [.slice p n c] :: F) := by
 subst hz
 refine Fn.enter Tryz.func91 rfl Tryz.ntmps91 rfl (L := [(0, _), (1, _)]) ⟨rfl, rfl, trivial⟩ fun base => ?_
 repeat ((apply H.Ao))
 refine H.Bo (ι := List Nm × Nat) (fun s => [(0, .iface 132 (.pointer (some ⟨nb, 0, none⟩))), (1, .int .i64 (s.2 : Int))]) (fun _ => f)
  (fun s => slc p n c 136 2 (s.1.flatMap nmV) :: row nb 134 [.slice p n c] :: F)
  (fun s => HeapBut s.1 s.2 ∧ s.2 < n ∧ s.1.length = n ∧ ∀ x, x ∈ s.1 ↔ x ∈ l) (fun s => s.2) (l, j) ⟨h, hj, hn, fun _ => Iff.rfl⟩ ⟨rfl, rfl, trivial⟩ rfl rfl fun s hs => ?_
 obtain ⟨s, k⟩ := s
 obtain ⟨h1, h2, h3, h4⟩ : HeapBut s k ∧ k < n ∧ s.length = n ∧ ∀ x, x ∈ s ↔ x ∈ l := hs
 show H _ _ _ [_, (1, .int .i64 (k : Int))] f (slc p n c _ 2 (s.flatMap nmV) :: _ :: F) _
 by_cases h0 : k = 0
 ·skip
  have hq : IntKind.i64.wrap (Int.tdiv ((k : Int) - 1) 2) = 0 := by subst h0; decide
  repeat (first | ((apply H.Ac); (iterate 3 exact rfl)) | (first | apply H.seq | apply H.Ab) | ((apply H.ar; (iterate 4 exact rfl)); (with_reducible apply wr_i64; omega); exact rfl) | (apply H.Ao))
  refine H.quo rfl rfl rfl (by decide) hq rfl ?_
  repeat (first | ((first | apply H.Ac | apply H.Ad); (iterate 3 exact rfl)) | (first | apply H.seq | apply H.Ab | apply H.nil | apply H.Aa) | ((apply H.cmp); (iterate 5 exact rfl)) | (apply H.Bd; (iterate 2 exact rfl)) | (apply H.Ax; (iterate 4 exact rfl)) | (apply H.Bh; exact rfl) | (first | apply H.Bl | apply H.Bj | apply H.Bk | apply H.Bm) | (apply H.in_miss; exact rfl) | (apply H.Bi; (iterate 3 exact rfl); (omega)))
  exact H.end0 rfl (fun _ h => h) ⟨s, (by subst h0; exact h1.zero), h4, h3, rfl, rfl, rfl⟩
 ·skip
  have hq : IntKind.i64.wrap (Int.tdiv ((k : Int) - 1) 2) = (((k - 1) / 2 : Nat) : Int) := by
   rw [show (k : Int) - 1 = ((k - 1 : Nat) : Int) by omega, show (2 : Int) = ((2 : Nat) : Int) from rfl, show (((k - 1 : Nat) : Int)).tdiv ((2 : Nat) : Int) = (((k - 1) / 2 : Nat) : Int) from rfl]
   exact wr_i64 (by omega)
  have hik : (k - 1) / 2 < n := by omega
  repeat (first | ((apply H.Ac); (iterate 3 exact rfl)) | (first | apply H.seq | apply H.Ab) | ((apply H.ar; (iterate 4 exact rfl)); (with_reducible apply wr_i64; omega); exact rfl) | (apply H.Ao))
  refine H.quo rfl rfl rfl (by decide) hq rfl ?_
  repeat (first | ((first | apply H.Ac | apply H.Ad); (iterate 3 exact rfl)) | (first | apply H.seq | apply H.Ab | apply H.nil | apply H.Aa) | ((apply H.cmp); (iterate 5 exact rfl)) | (apply H.gno; (iterate 3 exact rfl); (omega)))
  refine H.invLR met_less rfl rfl rfl rfl rfl (Rd1.ofRow (.there _ (.here _ _ _)) rfl) (nless_fn f _ h3 h2 hik) ?_
  by_cases hlt : (nmAt s k).1 < (nmAt s ((k - 1) / 2)).1
  ·refine H.not_yes rfl rfl hlt rfl ?_
   repeat (first | ((apply H.Ac); (iterate 3 exact rfl)) | (first | apply H.seq | apply H.Ab | apply H.nil | apply H.Aa) | ((apply H.Ay); (iterate 4 exact rfl)) | (apply H.Av; exact rfl) | (apply H.Ak))
   refine H.invLR met_swap rfl rfl rfl rfl rfl (Rd1.ofRow (.there _ (.here _ _ _)) rfl) (nswap_fn f _ h3 hik h2) ?_
   repeat (first | ((first | apply H.Ac | apply H.Ad); (iterate 3 exact rfl)) | (first | apply H.Ab | apply H.nil | apply H.Aa) | (apply H.Ba))
   exact H.Bc (swp s ((k - 1) / 2) k, (k - 1) / 2) ⟨h1.step (by omega) (by omega) hlt, hik, by show (swp s _ _).length = n; rw [swp_len]; exact h3, fun x => (swp_mem (by omega) (by omega) x).trans (h4 x)⟩ (by show (k - 1) / 2 < k; omega) ⟨rfl, rfl, trivial⟩ rfl rfl
  ·refine H.not_no rfl rfl hlt rfl ?_
   repeat (first | (first | apply H.nil | apply H.Aa) | ((apply H.Ay); (iterate 4 exact rfl)) | (apply H.Bh; exact rfl) | (first | apply H.Bl | apply H.Bj | apply H.Bk | apply H.Bm) | (apply H.in_miss; exact rfl))
   exact H.end0 rfl (fun _ h => h) ⟨s, h1.fine (by omega), h4, h3, rfl, rfl, rfl⟩
theorem hpush_fn {nb : Nat} {p : Option Addr} {n c : Nat} {l : List Nm} {k : Nm} (hn : l.length = n) (hn1 : n < 1000000) (h : Heap l) :
  Fn Tryz.prog 66 [.iface 132 (.pointer (some ⟨nb, 0, none⟩)), .iface 136 (.agg (nmV k).toArray)] f (slc p n c 136 2 (l.flatMap nmV) :: row nb 134 [.slice p n c] :: F)
  (fun v f' A' => ∃ p' c' l', Heap l' ∧ (∀ x, x ∈ l' ↔ x ∈ l ∨ x = k) ∧ l'.length = n + 1 ∧ v = .tuple #[] ∧ f' = f ∧ A' = slc p' (n + 1) c' 136 2 (l'.flatMap nmV) :: row nb 134 [.slice p' (n + 1) c'] :: F) := by
 subst hn
 refine Fn.enter Tryz.func66 rfl Tryz.ntmps66 rfl (L := [(0, _), (1, _)]) ⟨rfl, rfl, trivial⟩ fun base => ?_
 repeat (first | ((apply H.Ac); (iterate 3 exact rfl)) | (first | apply H.seq | apply H.Ab))
 refine H.invP 208 met_push rfl rfl rfl rfl rfl (npush_fn f F (by omega)) fun v f' A' hr => ?_
 obtain ⟨p', c', rfl, rfl, rfl⟩ := hr
 have hl : (l ++ [k]).length = l.length + 1 := by simp
 have hb := h.push k
 have hm : ∀ x, x ∈ l ++ [k] ↔ x ∈ l ∨ x = k := fun x => by simp
 rw [hl]
 generalize l ++ [k] = l2 at *
 repeat (first | ((apply H.Ac); (iterate 3 exact rfl)) | (first | apply H.Ab | apply H.nil | apply H.Aa))
 refine H.invLR met_len rfl rfl rfl rfl rfl (Rd1.ofRow (.here _ _ _) rfl) (nlen_fn f' _) ?_
 repeat (((apply H.ar; (iterate 4 exact rfl)); (with_reducible apply wr_i64_s1; omega); exact rfl))
 refine H.Ae (x := slc _ _ _ _ _ _) (by repeat constructor) ?_
 refine H.call rfl rfl rfl (up_fn f' F (j := l.length) hl (by omega) hb (by omega) (by omega)) fun v f2 A' hr => ?_
 obtain ⟨l', a1, a2, a3, rfl, rfl, rfl⟩ := hr
 repeat ((apply H.nil))
 exact H.end0 rfl (fun _ h => h) ⟨p', c', l', a1, fun x => (a2 x).trans (hm x), a3, rfl, rfl, rfl⟩
theorem down_fn {nb : Nat} {p : Option Addr} {n c m : Nat} {l : List Nm} {z : Int} (hn : l.length = n) (hn1 : n ≤ 1000000) (hm : m < n) (hz : z = (m : Nat)) :
  Fn Tryz.prog 92 [.iface 132 (.pointer (some ⟨nb, 0, none⟩)), .int .i64 0, .int .i64 z] f (slc p n c 136 2 (l.flatMap nmV) :: row nb 134 [.slice p n c] :: F)
  (fun v f' A' => ∃ b l', l'.length = n ∧ nmAt l' m = nmAt l m ∧ v = .bool b ∧ f' = f ∧ A' = slc p n c 136 2 (l'.flatMap nmV) :: row nb 134 [.slice p n c] :: F) := by
 subst hz
 refine Fn.enter Tryz.func92 rfl Tryz.ntmps92 rfl (L := [(0, _), (1, _), (2, _)]) ⟨rfl, rfl, rfl, trivial⟩ fun base => ?_
 repeat (first | ((first | apply H.Ac | apply H.Ad); (iterate 3 exact rfl)) | (first | apply H.seq | apply H.Ab | apply H.nil | apply H.Aa) | (apply H.Ao))
 refine H.Bo (ι := List Nm × Nat) (fun s => [(0, .iface 132 (.pointer (some ⟨nb, 0, none⟩))), (1, .int .i64 0), (2, .int .i64 (m : Int)), (7, .int .i64 (s.2 : Int)), (6, .bool false)]) (fun _ => f)
  (fun s => slc p n c 136 2 (s.1.flatMap nmV) :: row nb 134 [.slice p n c] :: F)
  (fun s => s.2 ≤ m ∧ s.1.length = n ∧ nmAt s.1 m = nmAt l m) (fun s => m - s.2) (l, 0) ⟨Nat.zero_le _, hn, rfl⟩ ⟨rfl, rfl, rfl, rfl, rfl, trivial⟩ rfl rfl fun s hs => ?_
 obtain ⟨s, i⟩ := s
 obtain ⟨h2, h3, h4⟩ : i ≤ m ∧ s.length = n ∧ nmAt s m = nmAt l m := hs
 show H _ _ _ [_, _, _, (7, .int .i64 (i : Int)), _] f (slc p n c _ 2 (s.flatMap nmV) :: _ :: F) _
 by_cases h5 : m ≤ 2 * i + 1
 ·skip
  repeat (first | ((first | apply H.Ac | apply H.Ad); (iterate 3 exact rfl)) | (first | apply H.seq | apply H.Ab | apply H.nil | apply H.Aa) | ((apply H.cmp); (iterate 5 exact rfl)) | ((apply H.ar; (iterate 4 exact rfl)); (with_reducible apply wr_i64; omega); exact rfl) | (apply H.Bd; (iterate 2 exact rfl)) | (apply H.Ax; (iterate 4 exact rfl)) | (apply H.Bh; exact rfl) | (first | apply H.ret | apply H.Bl | apply H.Bj | apply H.Ao | apply H.Bk | apply H.Bm) | (apply H.in_miss; exact rfl) | (apply H.Bi; (iterate 3 exact rfl); (omega)))
  exact H.Aj rfl rfl (fun _ h => h) ⟨_, s, h3, h4, rfl, rfl, rfl⟩
 ·skip
  by_cases h6 : 2 * i + 2 < m
  ·repeat (first | ((first | apply H.Ac | apply H.Ad); (iterate 3 exact rfl)) | (first | apply H.seq | apply H.Ab | apply H.nil | apply H.Aa) | ((apply H.cmp); (iterate 5 exact rfl)) | ((apply H.ar; (iterate 4 exact rfl)); (with_reducible apply wr_i64; omega); exact rfl) | ((apply H.Ay); (iterate 4 exact rfl)) | (apply H.Av; exact rfl) | (first | apply H.Ak | apply H.Ao) | (apply H.Bi; (iterate 3 exact rfl); (omega)) | (apply H.gno; (iterate 3 exact rfl); (omega)))
   refine H.invLR met_less rfl rfl rfl rfl rfl (Rd1.ofRow (.there _ (.here _ _ _)) rfl) (nless_fn f _ h3 (i := 2 * i + 2) (j := 2 * i + 1) (by omega) (by omega)) ?_
   by_cases h7 : (nmAt s (2 * i + 2)).1 < (nmAt s (2 * i + 1)).1
   ·skip
    repeat (first | ((first | apply H.Ac | apply H.Ad); (iterate 3 exact rfl)) | (first | apply H.seq | apply H.Ab | apply H.nil | apply H.Aa) | (apply H.Ax; (iterate 4 exact rfl)) | (apply H.Au; exact rfl; (assumption)))
    obtain ⟨jj, hjj⟩ : ∃ jj, jj = 2 * i + 2 := ⟨_, rfl⟩
    refine H.know (d := 9) (u := .int .i64 ((jj : Nat) : Int)) rfl (by subst hjj; rfl) ?_
    skip
    refine H.know (d := 36) (u := .int .i64 ((jj : Nat) : Int)) rfl (by subst hjj; rfl) ?_
    refine H.invLR met_less rfl rfl rfl rfl rfl (Rd1.ofRow (.there _ (.here _ _ _)) rfl) (nless_fn f _ h3 (i := jj) (j := i) (by omega) (by omega)) ?_
    by_cases hlt : (nmAt s jj).1 < (nmAt s i).1
    ·refine H.not_yes rfl rfl hlt rfl ?_
     repeat (first | ((apply H.Ac); (iterate 3 exact rfl)) | (first | apply H.seq | apply H.Ab | apply H.nil | apply H.Aa) | (apply H.Av; exact rfl) | (apply H.Ak))
     refine H.invLR met_swap rfl rfl rfl rfl rfl (Rd1.ofRow (.there _ (.here _ _ _)) rfl) (nswap_fn f _ h3 (i := i) (j := jj) (by omega) (by omega)) ?_
     repeat (first | ((first | apply H.Ac | apply H.Ad); (iterate 3 exact rfl)) | (first | apply H.Ab | apply H.nil | apply H.Aa) | (apply H.Ba))
     exact H.Bc (swp s i jj, jj) ⟨by show jj ≤ m; omega, by show (swp s i jj).length = n; rw [swp_len]; exact h3, by show nmAt (swp s i jj) m = _; rw [swp_at (by omega) (by omega), if_neg (by omega), if_neg (by omega)]; exact h4⟩ (by show m - jj < m - i; omega) ⟨rfl, rfl, rfl, rfl, rfl, trivial⟩ rfl rfl
    ·refine H.not_no rfl rfl hlt rfl ?_
     repeat (first | ((first | apply H.Ac | apply H.Ad); (iterate 3 exact rfl)) | (first | apply H.seq | apply H.Ab | apply H.nil | apply H.Aa) | ((apply H.cmp); (iterate 5 exact rfl)) | (apply H.Bh; exact rfl) | (first | apply H.ret | apply H.Bl | apply H.Bj | apply H.Bk | apply H.Bm) | (apply H.in_miss; exact rfl))
     exact H.Aj rfl rfl (fun _ h => h) ⟨_, s, h3, h4, rfl, rfl, rfl⟩
   ·skip
    repeat (first | ((apply H.Ac); (iterate 3 exact rfl)) | (first | apply H.seq | apply H.Ab | apply H.nil | apply H.Aa) | (apply H.Ax; (iterate 4 exact rfl)) | (apply H.Ak) | (apply H.Aw; exact rfl; (assumption)))
    obtain ⟨jj, hjj⟩ : ∃ jj, jj = 2 * i + 1 := ⟨_, rfl⟩
    refine H.know (d := 9) (u := .int .i64 ((jj : Nat) : Int)) rfl (by subst hjj; rfl) ?_
    skip
    refine H.know (d := 36) (u := .int .i64 ((jj : Nat) : Int)) rfl (by subst hjj; rfl) ?_
    refine H.invLR met_less rfl rfl rfl rfl rfl (Rd1.ofRow (.there _ (.here _ _ _)) rfl) (nless_fn f _ h3 (i := jj) (j := i) (by omega) (by omega)) ?_
    by_cases hlt : (nmAt s jj).1 < (nmAt s i).1
    ·refine H.not_yes rfl rfl hlt rfl ?_
     repeat (first | ((apply H.Ac); (iterate 3 exact rfl)) | (first | apply H.seq | apply H.Ab | apply H.nil | apply H.Aa) | (apply H.Av; exact rfl) | (apply H.Ak))
     refine H.invLR met_swap rfl rfl rfl rfl rfl (Rd1.ofRow (.there _ (.here _ _ _)) rfl) (nswap_fn f _ h3 (i := i) (j := jj) (by omega) (by omega)) ?_
     repeat (first | ((first | apply H.Ac | apply H.Ad); (iterate 3 exact rfl)) | (first | apply H.Ab | apply H.nil | apply H.Aa) | (apply H.Ba))
     exact H.Bc (swp s i jj, jj) ⟨by show jj ≤ m; omega, by show (swp s i jj).length = n; rw [swp_len]; exact h3, by show nmAt (swp s i jj) m = _; rw [swp_at (by omega) (by omega), if_neg (by omega), if_neg (by omega)]; exact h4⟩ (by show m - jj < m - i; omega) ⟨rfl, rfl, rfl, rfl, rfl, trivial⟩ rfl rfl
    ·refine H.not_no rfl rfl hlt rfl ?_
     repeat (first | ((first | apply H.Ac | apply H.Ad); (iterate 3 exact rfl)) | (first | apply H.seq | apply H.Ab | apply H.nil | apply H.Aa) | ((apply H.cmp); (iterate 5 exact rfl)) | (apply H.Bh; exact rfl) | (first | apply H.ret | apply H.Bl | apply H.Bj | apply H.Bk | apply H.Bm) | (apply H.in_miss; exact rfl))
     exact H.Aj rfl rfl (fun _ h => h) ⟨_, s, h3, h4, rfl, rfl, rfl⟩
  ·skip
   repeat (first | ((first | apply H.Ac | apply H.Ad); (iterate 3 exact rfl)) | (first | apply H.seq | apply H.Ab | apply H.nil | apply H.Aa) | ((apply H.cmp); (iterate 5 exact rfl)) | ((apply H.ar; (iterate 4 exact rfl)); (with_reducible apply wr_i64; omega); exact rfl) | (apply H.Bd; (iterate 2 exact rfl)) | ((apply H.Ay); (iterate 4 exact rfl)) | (apply H.Av; exact rfl) | (first | apply H.Ak | apply H.Ao) | (apply H.gno; (iterate 3 exact rfl); (omega)))
   obtain ⟨jj, hjj⟩ : ∃ jj, jj = 2 * i + 1 := ⟨_, rfl⟩
   refine H.know (d := 9) (u := .int .i64 ((jj : Nat) : Int)) rfl (by subst hjj; rfl) ?_
   skip
   refine H.know (d := 36) (u := .int .i64 ((jj : Nat) : Int)) rfl (by subst hjj; rfl) ?_
   refine H.invLR met_less rfl rfl rfl rfl rfl (Rd1.ofRow (.there _ (.here _ _ _)) rfl) (nless_fn f _ h3 (i := jj) (j := i) (by omega) (by omega)) ?_
   by_cases hlt : (nmAt s jj).1 < (nmAt s i).1
   ·refine H.not_yes rfl rfl hlt rfl ?_
    repeat (first | ((apply H.Ac); (iterate 3 exact rfl)) | (first | apply H.seq | apply H.Ab | apply H.nil | apply H.Aa) | (apply H.Av; exact rfl) | (apply H.Ak))
    refine H.invLR met_swap rfl rfl rfl rfl rfl (Rd1.ofRow (.there _ (.here _ _ _)) rfl) (nswap_fn f _ h3 (i := i) (j := jj) (by omega) (by omega)) ?_
    repeat (first | ((first | apply H.Ac | apply H.Ad); (iterate 3 exact rfl)) | (first | apply H.Ab | apply H.nil | apply H.Aa) | (apply H.Ba))
    exact H.Bc (swp s i jj, jj) ⟨by show jj ≤ m; omega, by show (swp s i jj).length = n; rw [swp_len]; exact h3, by show nmAt (swp s i jj) m = _; rw [swp_at (by omega) (by omega), if_neg (by omega), if_neg (by omega)]; exact h4⟩ (by show m - jj < m - i; omega) ⟨rfl, rfl, rfl, rfl, rfl, trivial⟩ rfl rfl
   ·refine H.not_no rfl rfl hlt rfl ?_
    repeat (first | ((first | apply H.Ac | apply H.Ad); (iterate 3 exact rfl)) | (first | apply H.seq | apply H.Ab | apply H.nil | apply H.Aa) | ((apply H.cmp); (iterate 5 exact rfl)) | (apply H.Bh; exact rfl) | (first | apply H.ret | apply H.Bl | apply H.Bj | apply H.Bk | apply H.Bm) | (apply H.in_miss; exact rfl))
    exact H.Aj rfl rfl (fun _ h => h) ⟨_, s, h3, h4, rfl, rfl, rfl⟩
theorem hpop_fn {nb : Nat} {p : Option Addr} {n c m : Nat} {l : List Nm} (hn : l.length = m + 1) (hn1 : m < 1000000) :
  Fn Tryz.prog 68 [.iface 132 (.pointer (some ⟨nb, 0, none⟩))] f (slc p (m + 1) c 136 2 (l.flatMap nmV) :: row nb 134 [.slice p (m + 1) c] :: F)
  (Ret (.iface 136 (.agg (nmV (nmAt l 0)).toArray)) f F) := by
 refine Fn.enter Tryz.func68 rfl Tryz.ntmps68 rfl (L := [(0, _)]) ⟨rfl, trivial⟩ fun base => ?_
 repeat (first | ((first | apply H.Ac | apply H.Ad); (iterate 3 exact rfl)) | (first | apply H.seq | apply H.Ab | apply H.nil | apply H.Aa))
 refine H.invLR met_len rfl rfl rfl rfl rfl (Rd1.ofRow (.there _ (.here _ _ _)) rfl) (nlen_fn f _) ?_
 repeat (first | ((first | apply H.Ac | apply H.Ad); (iterate 3 exact rfl)) | (first | apply H.seq | apply H.Ab | apply H.nil | apply H.Aa) | ((apply H.ar; (iterate 4 exact rfl)); (with_reducible apply wr_i64_s1; omega); exact rfl))
 refine H.invLR met_swap rfl rfl rfl rfl rfl (Rd1.ofRow (.there _ (.here _ _ _)) rfl) (nswap_fn f _ (i := 0) (j := m) hn (by omega) (by omega)) ?_
 have hs : nmAt (swp l 0 m) m = nmAt l 0 := by rw [swp_at (by omega) (by omega), if_pos rfl]
 have hsl : (swp l 0 m).length = m + 1 := by rw [swp_len]; exact hn
 generalize swp l 0 m = l2 at *
 repeat (first | ((apply H.Ac); (iterate 3 exact rfl)) | (first | apply H.seq | apply H.Ab | apply H.nil | apply H.Aa))
 refine H.call rfl rfl rfl (down_fn f F (m := m) hsl (by omega) (by omega) rfl) fun v f2 A' hr => ?_
 obtain ⟨b, l', a1, a2, rfl, rfl, rfl⟩ := hr
 repeat (first | ((apply H.Ac); (iterate 3 exact rfl)) | (first | apply H.seq | apply H.Ab | apply H.nil | apply H.Aa))
 refine H.invPR met_pop rfl rfl rfl rfl (npop_fn f2 F a1 (by omega)) ?_
 rw [a2, hs]
 repeat (first | ((apply H.Ad); (iterate 3 exact rfl)) | (first | apply H.nil | apply H.Aa) | (apply H.ret))
 exact H.Aj rfl rfl (fun _ h => h) ⟨rfl, rfl, rfl⟩
end
def keyM (m : Msg) : Nm := (m.origin, m.number)
def openZ (e : Int) : Bool := decide (e = 0) || decide (e = 12)
theorem zbg {e : Int} : openZ e = true ↔ e = 0 ∨ e = 12 := by simp [openZ]
def cntO (ws : List Msg) (o : Int) : Nat := (ws.filter fun x => decide (x.origin = o)).length
structure Top (ws : List Msg) (o : Int) (t : Msg) : Prop where
 mem : t ∈ ws
 org : t.origin = o
 max : ∀ y ∈ ws, y.origin = o → y.number ≤ t.number
def KU (ws : List Msg) : Prop := (ws.map keyM).Nodup
theorem KU.same {ws : List Msg} (h : KU ws) {x y : Msg} (hx : x ∈ ws) (hy : y ∈ ws) (e : keyM x = keyM y) : x = y := by
 unfold KU at h
 induction ws with
 | nil => cases hx
 | cons z r ih =>
  have h' := List.nodup_cons.1 h
  rcases List.mem_cons.1 hx with h1 | h1
  ·rcases List.mem_cons.1 hy with h2 | h2
   ·rw [h1, h2]
   ·exact absurd (List.mem_map.2 ⟨y, h2, by rw [← e, h1]⟩) h'.1
  ·rcases List.mem_cons.1 hy with h2 | h2
   ·exact absurd (List.mem_map.2 ⟨x, h1, by rw [e, h2]⟩) h'.1
   ·exact ih h'.2 h1 h2
theorem KU.perm {a b : List Msg} (h : KU a) (p : a.Perm b) : KU b := (p.map keyM).nodup_iff.1 h
theorem KU.filter {a : List Msg} (h : KU a) (p : Msg → Bool) : KU (a.filter p) := List.Sublist.nodup (List.Sublist.map keyM List.filter_sublist) h
theorem KU.tail {x : Msg} {a : List Msg} (h : KU (x :: a)) : KU a := (List.nodup_cons.1 h).2
theorem KU.snoc {a : List Msg} {m : Msg} (h : KU a) (hm : ∀ x ∈ a, keyM x ≠ keyM m) : KU (a ++ [m]) := by
 unfold KU
 rw [List.map_append]
 refine List.nodup_append.2 ⟨h, by simp, ?_⟩
 intro x hx y hy e
 obtain ⟨z, hz, rfl⟩ := List.mem_map.1 hx
 have : y = keyM m := by simpa using hy
 exact hm z hz (e.trans this)
inductive PutR (e : Int) (ws : List Msg) (m : Msg) : Int → List Msg → Prop
 | shut (h : openZ e = false) (ws' : List Msg) (hp : ws'.Perm ws) : PutR e ws m e ws'
 | again (h : openZ e = true) (x : Msg) (hx : x ∈ ws) (hk : keyM x = keyM m) (ws' : List Msg) (hp : ws'.Perm ws) : PutR e ws m 13 ws'
 | room (h : openZ e = true) (hk : ∀ x ∈ ws, keyM x ≠ keyM m) (hc : cntO ws m.origin < 11) (ws' : List Msg) (hp : ws'.Perm (ws ++ [m])) : PutR e ws m 0 ws'
 | full (h : openZ e = true) (hk : ∀ x ∈ ws, keyM x ≠ keyM m) (hc : 11 ≤ cntO ws m.origin) (t : Msg) (ht : Top ws m.origin t) (hl : t.number < m.number) (ws' : List Msg) (hp : ws'.Perm ws) : PutR e ws m 7 ws'
 | swap (h : openZ e = true) (hk : ∀ x ∈ ws, keyM x ≠ keyM m) (hc : 11 ≤ cntO ws m.origin) (t : Msg) (ht : Top ws m.origin t) (hl : ¬ t.number < m.number) (ws' : List Msg) (hp : (t :: ws').Perm (ws ++ [m])) : PutR e ws m 0 ws'
inductive NextR (c : Msg → Int) (ws : List Msg) : Option Msg → List Msg → Prop
 | no (h : ∀ x ∈ ws, c x ≠ 0) (ws' : List Msg) (hp : ws'.Perm (ws.filter fun x => openZ (c x))) : NextR c ws none ws'
 | yes (x : Msg) (hx : x ∈ ws) (h0 : c x = 0) (hl : ∀ y ∈ ws, c y = 0 → x.origin ≤ y.origin) (ws' : List Msg) (hp : (x :: ws').Perm (ws.filter fun x => openZ (c x))) : NextR c ws (some x) ws'
theorem cntO_perm {a b : List Msg} (h : a.Perm b) (o : Int) : cntO a o = cntO b o := (h.filter _).length_eq
theorem Top.perm {a b : List Msg} (h : a.Perm b) {o : Int} {t : Msg} (ht : Top a o t) : Top b o t := ⟨h.mem_iff.1 ht.mem, ht.org, fun y hy => ht.max y (h.mem_iff.2 hy)⟩
theorem Top.same {a : List Msg} (hu : KU a) {o : Int} {s t : Msg} (hs : Top a o s) (ht : Top a o t) : s = t := by
 refine hu.same hs.mem ht.mem ?_
 have h1 := hs.max t ht.mem ht.org
 have h2 := ht.max s hs.mem hs.org
 show (s.origin, s.number) = (t.origin, t.number)
 rw [hs.org, ht.org, Int.le_antisymm h2 h1]
theorem PutR.same {e : Int} {a b : List Msg} {m : Msg} {z z' : Int} {a' b' : List Msg} (hu : KU a) (hab : a.Perm b) (h : PutR e a m z a') (h' : PutR e b m z' b') : z = z' ∧ a'.Perm b' := by
 have hno : (∀ x ∈ a, keyM x ≠ keyM m) → ∀ x ∈ b, keyM x ≠ keyM m := fun hk x hx => hk x (hab.mem_iff.2 hx)
 have hc := cntO_perm hab m.origin
 cases h with
 | shut g ws' p =>
  cases h' with
  | shut g' ws'' p' => exact ⟨rfl, p.trans (hab.trans p'.symm)⟩
  | again g' => rw [g] at g'; cases g'
  | room g' => rw [g] at g'; cases g'
  | full g' => rw [g] at g'; cases g'
  | swap g' => rw [g] at g'; cases g'
 | again g x hx hk ws' p =>
  cases h' with
  | shut g' => rw [g] at g'; cases g'
  | again g' x' hx' hk' ws'' p' => exact ⟨rfl, p.trans (hab.trans p'.symm)⟩
  | room g' hk' => exact absurd hk (hk' x (hab.mem_iff.1 hx))
  | full g' hk' => exact absurd hk (hk' x (hab.mem_iff.1 hx))
  | swap g' hk' => exact absurd hk (hk' x (hab.mem_iff.1 hx))
 | room g hk hc1 ws' p =>
  cases h' with
  | shut g' => rw [g] at g'; cases g'
  | again g' x' hx' hk' => exact absurd hk' (hk x' (hab.mem_iff.2 hx'))
  | room g' hk' hc' ws'' p' => exact ⟨rfl, p.trans ((hab.append_right _).trans p'.symm)⟩
  | full g' hk' hc' => omega
  | swap g' hk' hc' => omega
 | full g hk hc1 t ht hl ws' p =>
  cases h' with
  | shut g' => rw [g] at g'; cases g'
  | again g' x' hx' hk' => exact absurd hk' (hk x' (hab.mem_iff.2 hx'))
  | room g' hk' hc' => omega
  | full g' hk' hc' t' ht' hl' ws'' p' => exact ⟨rfl, p.trans (hab.trans p'.symm)⟩
  | swap g' hk' hc' t' ht' hl' =>
   have := Top.same (hu.perm hab) (ht.perm hab) ht'
   subst this
   exact absurd hl hl'
 | swap g hk hc1 t ht hl ws' p =>
  cases h' with
  | shut g' => rw [g] at g'; cases g'
  | again g' x' hx' hk' => exact absurd hk' (hk x' (hab.mem_iff.2 hx'))
  | room g' hk' hc' => omega
  | full g' hk' hc' t' ht' hl' =>
   have := Top.same (hu.perm hab) (ht.perm hab) ht'
   subst this
   exact absurd hl' hl
  | swap g' hk' hc' t' ht' hl' ws'' p' =>
   have := Top.same (hu.perm hab) (ht.perm hab) ht'
   subst this
   exact ⟨rfl, (p.trans ((hab.append_right _).trans p'.symm)).cons_inv⟩
theorem NextR.same {c : Msg → Int} {a b : List Msg} {r r' : Option Msg} {a' b' : List Msg} (hu : KU a) (hab : a.Perm b) (hc : ∀ x ∈ a, ∀ y ∈ a, c x = 0 → c y = 0 → x.origin = y.origin → x.number = y.number) (h : NextR c a r a') (h' : NextR c b r' b') : r = r' ∧ a'.Perm b' := by
 have hf := hab.filter fun x => openZ (c x)
 cases h with
 | no g _ p =>
  cases h' with
  | no g' _ p' => exact ⟨rfl, p.trans (hf.trans p'.symm)⟩
  | yes x hx h0 => exact absurd h0 (g x (hab.mem_iff.2 hx))
 | yes x hx h0 hl _ p =>
  cases h' with
  | no g' => exact absurd h0 (g' x (hab.mem_iff.1 hx))
  | yes y hy g0 gl _ p' =>
   have hy' := hab.mem_iff.2 hy
   have e1 : x.origin = y.origin := Int.le_antisymm (hl y hy' g0) (gl x (hab.mem_iff.1 hx) h0)
   have e : x = y := hu.same hx hy' (by show (x.origin, x.number) = (y.origin, y.number); rw [e1, hc x hx y hy' h0 g0 e1])
   subst e
   exact ⟨rfl, (p.trans (hf.trans p'.symm)).cons_inv⟩
theorem PutR.ku {e : Int} {ws : List Msg} {m : Msg} {z : Int} {ws' : List Msg} (h : PutR e ws m z ws') (hu : KU ws) : KU ws' := by
 cases h with
 | shut _ _ p => exact hu.perm p.symm
 | again _ _ _ _ _ p => exact hu.perm p.symm
 | room _ hk _ _ p => exact (hu.snoc hk).perm p.symm
 | full _ _ _ _ _ _ _ p => exact hu.perm p.symm
 | swap _ hk _ t _ _ _ p => exact ((hu.snoc hk).perm p.symm).tail
theorem NextR.ku {c : Msg → Int} {ws : List Msg} {r : Option Msg} {ws' : List Msg} (h : NextR c ws r ws') (hu : KU ws) : KU ws' := by
 cases h with
 | no _ _ p => exact (hu.filter _).perm p.symm
 | yes _ _ _ _ _ p => exact ((hu.filter _).perm p.symm).tail
theorem cntO_snoc (ws : List Msg) (m : Msg) (o : Int) : cntO (ws ++ [m]) o = cntO ws o + (if m.origin = o then 1 else 0) := by
 unfold cntO
 rw [List.filter_append, List.length_append]
 congr 1
 by_cases h : m.origin = o <;> simp [h]
theorem cntO_cons (m : Msg) (ws : List Msg) (o : Int) : cntO (m :: ws) o = cntO ws o + (if m.origin = o then 1 else 0) := by
 unfold cntO
 rw [List.filter_cons]
 by_cases h : m.origin = o <;> simp [h]
section
variable {κ : Type} [DecidableEq κ] {enc : κ → Value}
def delE (k : κ) (es : List (κ × Value × Nat)) : List (κ × Value × Nat) := es.filter fun e => !decide (k = e.1)
theorem delE_mem {k : κ} {es : List (κ × Value × Nat)} {e : κ × Value × Nat} (h : e ∈ delE k es) : e ∈ es := (List.mem_filter.1 h).1
theorem delE_kv (k : κ) (es : List (κ × Value × Nat)) : (delE k es).map kvOf = (es.map kvOf).filter fun e => !decide (k = e.1) := by
 unfold delE
 rw [List.filter_map]
 rfl
theorem MapOk.del {es : List (κ × Value × Nat)} {clock : Nat} (h : MapOk es clock) (k : κ) : MapOk (delE k es) clock :=
 ⟨List.Sublist.nodup (List.Sublist.map _ List.filter_sublist) h.keys, List.Sublist.nodup (List.Sublist.map _ List.filter_sublist) h.stamps, fun e he => h.below e (delE_mem he)⟩
theorem delE_absent {k : κ} {es : List (κ × Value × Nat)} (h : k ∉ es.map (·.1)) : delE k es = es := by
 unfold delE
 rw [List.filter_eq_self]
 intro e he
 have : ¬ k = e.1 := fun h2 => h (List.mem_map.2 ⟨e, he, h2.symm⟩)
 rw [decide_eq_false this]; rfl
theorem delE_found {k : κ} : ∀ {es : List (κ × Value × Nat)} {i : Nat}, (es.map (·.1)).Nodup → (es.map (·.1)).findIdx? (k = ·) = some i → i < es.length ∧ es.eraseIdx i = delE k es
 | [], i, _, h => by simp at h
 | e :: r, i, hn, h => by
  have hn' := List.nodup_cons.1 hn
  rw [List.map_cons, List.findIdx?_cons] at h
  by_cases c : k = e.1
  ·rw [if_pos (by simpa using c)] at h
   cases h
   refine ⟨by simp, ?_⟩
   have h2 : delE k r = r := delE_absent (by rw [c]; exact hn'.1)
   show r = (e :: r).filter _
   rw [List.filter_cons, if_neg (by rw [decide_eq_true c]; decide)]
   exact h2.symm
  ·rw [if_neg (by simpa using c)] at h
   cases hj : (r.map (·.1)).findIdx? (k = ·) with
   | none => rw [hj] at h; cases h
   | some j =>
    rw [hj] at h
    cases h
    obtain ⟨h1, h2⟩ := delE_found hn'.2 hj
    refine ⟨by simp; omega, ?_⟩
    show e :: r.eraseIdx j = (e :: r).filter _
    rw [List.filter_cons, if_pos (by rw [decide_eq_false c]; rfl), h2]
    rfl
theorem map_erase {α β : Type} (g : α → β) : ∀ (l : List α) (i : Nat), (l.eraseIdx i).map g = (l.map g).eraseIdx i
 | [], i => by simp
 | a :: l, 0 => rfl
 | a :: l, i + 1 => by show g a :: (l.eraseIdx i).map g = _; rw [map_erase g l i]; rfl
variable {P : Program} {base : World} {n : Nat} {L : Env} {f : Frag} {A : List HP} {q : Post}
variable {l rest : List Oper} {d : Nat} {ty : TypeId} {pos : String} {af : Array Edge} {gd : Option (Nat × Bool)}
theorem H.deleteS {t u kt et : TypeId} {x y : Operand} {b : Nat} {es : List (κ × Value × Nat)} {clock : Nat} {k : κ} {kv : Value} {A' : List HP} [hu : Und P t (.map kt et)] [hk : KeyT P kt enc] (hw : want? l L gd = true)
  (hx : ev? L x = some (.map (some b))) (hy : ev? L y = some kv) (hA : At A (mpS b enc es clock) A' (mpS b enc (delE k es) clock)) (hkv : kv = enc k)
  (kk : H P base n L f A' (.ops l rest q)) : H P base n L f A (.ops l (⟨none, .call ⟨.builtin .delete, #[x, y], #[t, u]⟩, ty, pos, af, gd⟩ :: rest) q) := .mk fun a w hf s => by
 show wpList P l.toArray (q.den P) _ a w
 unfold wpList
 rw [if_pos (hf.want (o := ⟨none, _, ty, pos, af, gd⟩) hw)]
 refine .inl ?_
 subst hkv
 obtain ⟨ho, hb⟩ := s.mpS_at hA
 have hfk := hk.fnd k (es.map (entOf enc)) (es.map (·.1)) w (keys_entOf es)
 have hturn : Sat base { w with heap := w.heap.setIfInBounds b (.map ((delE k es).map (entOf enc)).toArray clock) } f A' :=
  s.turnRow hA (by rintro m ⟨_, rfl⟩; exact ⟨_, rfl⟩) rfl rfl rfl rfl ⟨ho.del k, rfl⟩
 have hrun : (Builtin.delete_ #[t, u] ty #[.map (some b), enc k]).run P w = .ok (.tuple #[]) { w with heap := w.heap.setIfInBounds b (.map ((delE k es).map (entOf enc)).toArray clock) } := by
  cases hi : (es.map (·.1)).findIdx? (k = ·) with
  | none =>
   rw [delE_absent ((mem_keys_iff es k).1 hi)]
   rw [hi] at hfk
   unfold Builtin.delete_
   simp only [List.getElem?_toArray, List.getElem?_cons_zero, List.getElem?_cons_succ, Sem.run_bind, hu.run, Result.andThen_ok, run_getMap hb, hk.chk, List.toList_toArray, hfk, Option.bind_none, run_setMap hb, Sem.run_pure]
  | some i =>
   obtain ⟨h1, h2⟩ := delE_found ho.keys hi
   rw [hi] at hfk
   have hei : (es.map (entOf enc))[i]? = some (entOf enc es[i]) := by rw [List.getElem?_map, List.getElem?_eq_getElem h1]; rfl
   have her : ((es.map (entOf enc)).toArray.eraseIdxIfInBounds i) = ((delE k es).map (entOf enc)).toArray := by
    rw [← h2]
    unfold Array.eraseIdxIfInBounds
    rw [dif_pos (by simpa using h1)]
    apply Array.ext'
    simp [map_erase]
   unfold Builtin.delete_
   simp only [List.getElem?_toArray, List.getElem?_cons_zero, List.getElem?_cons_succ, Sem.run_bind, hu.run, Result.andThen_ok, run_getMap hb, hk.chk, List.toList_toArray, hfk, Option.bind_some, hei, Option.map_some, her, run_setMap hb, Sem.run_pure]
 have h2 : (execOp a.eval ⟨none, .call ⟨.builtin .delete, #[x, y], #[t, u]⟩, ty, pos, af, gd⟩).run P w = .ok (.value (.tuple #[])) { w with heap := w.heap.setIfInBounds b (.map ((delE k es).map (entOf enc)).toArray clock) } := by
  simp only [execOp, resolve, invoke, builtin, hf.eval hx, hf.eval hy, Sem.run_bind, Sem.run_pure, Result.andThen_ok, List.map_toArray, List.map_cons, List.map_nil, hrun]
 simp only [Oper.wp, h2, Oper.upon]
 exact kk.out _ _ hf hturn
def itrW (r b : Nat) (es : List (κ × Value × Nat)) (clock : Nat) (seen : List κ) : HP := fun h =>
 ∃ sA : Array Nat, (∀ e ∈ es, sA.contains e.2.2 = true ↔ e.1 ∈ seen) ∧ h = sing r (.mapIter (some b) clock sA clock)
theorem itr_weak {r b : Nat} {es es' : List (κ × Value × Nat)} {clock : Nat} {seen : List κ} (hs : ∀ e ∈ es', e ∈ es) : ∀ x, itr r b es clock seen x → itrW r b es' clock seen x :=
 fun _ ⟨sA, h1, _, h3⟩ => ⟨sA, fun e he => h1 e (hs e he), h3⟩
theorem Sat.itrW_at {w : World} {A' : List HP} {r b : Nat} {es : List (κ × Value × Nat)} {clock : Nat} {seen : List κ} {y : HP} (s : Sat base w f A) (h : At A (itrW r b es clock seen) A' y) :
  ∃ sA : Array Nat, (∀ e ∈ es, sA.contains e.2.2 = true ↔ e.1 ∈ seen) ∧ w.heap[r]? = some (.mapIter (some b) clock sA clock) := by
 obtain ⟨R, h1, _⟩ := h.split
 obtain ⟨x, hm, _, hw⟩ := s.mem
 rw [h1] at hm
 obtain ⟨m1, m2, _, rfl, ⟨sA, a1, rfl⟩, _⟩ := hm
 exact ⟨sA, a1, hw r _ (by simp [un, sing])⟩
theorem H.nextW {x : Operand} {r b : Nat} {es : List (κ × Value × Nat)} {clock : Nat} {seen : List κ} {A1 A2 : List HP} {A' : κ → List HP} (hw : want? l L gd = true)
  (hx : ev? L x = some (.pointer (some ⟨r, 0, none⟩))) (hm : At A (mpS b enc es clock) A1 (mpS b enc es clock)) (hi : At A (itrW r b es clock seen) A2 (itrW r b es clock seen)) (hA : ∀ k, At A (itrW r b es clock seen) (A' k) (itr r b es clock (k :: seen))) (hd : Nat.ble (d + 1) n = true)
  (kend : (∀ e ∈ es, e.1 ∈ seen) → H P base n ((d, .tuple #[.bool false]) :: L) f A (.ops l rest q))
  (kk : ∀ e ∈ es, e.1 ∉ seen → H P base n ((d, .tuple #[.bool true, enc e.1, e.2.1]) :: L) f (A' e.1) (.ops l rest q)) : H P base n L f A (.ops l (⟨some d, .next x false, ty, pos, af, gd⟩ :: rest) q) :=
 H.opE (ι := Option (κ × Value × Nat)) (fun i => match i with | none => .tuple #[.bool false] | some e => .tuple #[.bool true, enc e.1, e.2.1]) (fun _ => f) (fun i => match i with | none => A | some e => A' e.1)
  (fun i => match i with | none => ∀ e ∈ es, e.1 ∈ seen | some e => e ∈ es ∧ e.1 ∉ seen) hw hd (fun a w hfr s => by
  obtain ⟨ho, hb⟩ := s.mpS_at hm
  obtain ⟨sA, a1, hr⟩ := s.itrW_at hi
  rcases run_next_itr (P := P) (ty := ty) ho hb hr with ⟨b1, b2⟩ | ⟨e, he, hc, w1, q1, q2, q3, q4, b2⟩
  ·refine ⟨none, w, fun e he => (a1 e he).1 (b1 e he), ?_, s⟩
   simp only [execOp, hfr.eval hx, Sem.run_bind, b2, Result.andThen_ok, Sem.run_pure]
  ·refine ⟨some e, { w1 with heap := w1.heap.setIfInBounds r (.mapIter (some b) clock (sA.push e.2.2) clock) }, ⟨he, fun hin => by rw [(a1 e he).2 hin] at hc; cases hc⟩, ?_, ?_⟩
   ·simp only [execOp, hfr.eval hx, Sem.run_bind, b2, Result.andThen_ok, Sem.run_pure]
   ·refine s.turnRow (hA e.1) (fun m hm => by obtain ⟨_, _, rfl⟩ := hm; exact ⟨_, rfl⟩) q2 q4 q3 (by show w1.heap.setIfInBounds _ _ = _; rw [q1]) ⟨sA.push e.2.2, fun e' he' => ?_, fun k rs hk => ?_, rfl⟩
    ·rw [contains_push, Bool.or_eq_true, a1 e' he', beq_iff_eq, List.mem_cons]
     constructor
     ·rintro (h | h)
      ·exact .inr h
      ·exact .inl (by rw [map_inj (fun e : κ × Value × Nat => e.2.2) ho.stamps he' he h])
     ·rintro (h | h)
      ·exact .inr (by rw [map_inj (fun e : κ × Value × Nat => e.1) ho.keys he' he h])
      ·exact .inl h
    ·cases hk
     exact ⟨e, he, rfl, by simp⟩) (fun i hi => match i, hi with | none, hi => kend hi | some e, hi => kk e hi.1 hi.2)
theorem putKV_absent {k : κ} {v : Value} : ∀ {m : List (κ × Value)}, k ∉ m.map (·.1) → putKV m k v = m ++ [(k, v)]
 | [], _ => rfl
 | (k', u) :: r, h => by
  have h1 : ¬ k = k' := fun e => h (by simp [e])
  show (if k = k' then _ else _) = _
  rw [if_neg h1, putKV_absent (m := r) fun hk => h (by rw [List.map_cons]; exact List.mem_cons_of_mem _ hk)]
  rfl
theorem getKV_mem {k : κ} {v : Value} : ∀ {m : List (κ × Value)}, (m.map (·.1)).Nodup → (k, v) ∈ m → getKV m k = some v
 | [], _, h => by cases h
 | (k', u) :: r, hn, h => by
  have hn' := List.nodup_cons.1 hn
  show (if k = k' then _ else _) = _
  rcases List.mem_cons.1 h with e | e
  ·cases e; rw [if_pos rfl]
  ·rw [if_neg (fun c => hn'.1 (by rw [← c]; exact List.mem_map.2 ⟨_, e, rfl⟩))]
   exact getKV_mem hn'.2 e
def unsE (es : List (κ × Value × Nat)) (seen : List κ) : Nat := (es.filter fun e => !decide (e.1 ∈ seen)).length
theorem flt_le {α : Type} (p p' : α → Bool) (h : ∀ x, p' x = true → p x = true) : ∀ l : List α, (l.filter p').length ≤ (l.filter p).length
 | [] => Nat.le_refl _
 | a :: l => by
  have ih := flt_le p p' h l
  rw [List.filter_cons, List.filter_cons]
  cases h1 : p' a with
  | true => rw [if_pos rfl, if_pos (h a h1), List.length_cons, List.length_cons]; omega
  | false =>
   rw [if_neg (by decide)]
   split
   ·rw [List.length_cons]; omega
   ·exact ih
theorem flt_lt {α : Type} (p p' : α → Bool) (h : ∀ x, p' x = true → p x = true) {e : α} (h1 : p e = true) (h2 : p' e = false) : ∀ l : List α, e ∈ l → (l.filter p').length < (l.filter p).length
 | a :: l, he => by
  rw [List.filter_cons, List.filter_cons]
  rcases List.mem_cons.1 he with rfl | he
  ·rw [if_neg (by rw [h2]; decide), if_pos h1, List.length_cons]
   have := flt_le p p' h l
   omega
  ·have ih := flt_lt p p' h h1 h2 l he
   cases h3 : p' a with
   | true => rw [if_pos rfl, if_pos (h a h3), List.length_cons, List.length_cons]; omega
   | false =>
    rw [if_neg (by decide)]
    split
    ·rw [List.length_cons]; omega
    ·exact ih
theorem unsE_lt {es : List (κ × Value × Nat)} {seen : List κ} {e : κ × Value × Nat} (he : e ∈ es) (hn : e.1 ∉ seen) : unsE es (e.1 :: seen) < unsE es seen := by
 unfold unsE
 refine flt_lt _ _ (fun x hx => ?_) (e := e) ?_ ?_ es he
 ·simp only [Bool.not_eq_true', decide_eq_false_iff_not, List.mem_cons, not_or] at hx ⊢
  exact hx.2
 ·simpa using hn
 ·simp
theorem unsE_del (es : List (κ × Value × Nat)) (seen : List κ) (k : κ) : unsE (delE k es) seen ≤ unsE es seen := by
 unfold unsE delE
 rw [List.filter_filter]
 exact flt_le _ _ (fun x hx => by simp only [Bool.and_eq_true] at hx; exact hx.1) es
end
def clientW : List UInt8 := [114, 97, 116, 99, 104, 101, 116, 32, 99, 108, 105, 101, 110, 116]
def Req.sig (r : Req) : Nat → UInt8 := Sha.hmac (Sha.word32 clientW r.client) r.bytes
def Req.signed (r : Req) : Req := if r.asked then { r with tag := r.sig } else r
theorem Req.bytes_max {r : Req} (h : r.asked) : r.bytes.length ≤ 1000 := by
 obtain ⟨_, _, _, _, ⟨h1, h2⟩, h3, h4⟩ := h
 rw [Req.bytes_len]
 omega
theorem splice_rtag (r : Req) (t : Nat → UInt8) : splice r.vals (0 + 8) (b32 t) = ({ r with tag := t } : Req).vals := rfl
section
variable {P : Program} {base : World} {n : Nat} {L : Env} {f : Frag} {A V : List HP} {q : Post} {l rest : List Oper} {d : Nat} {ty : TypeId} {pos : String} {af : Array Edge} {gd : Option (Nat × Bool)}
end
structure A12 where
 who : UInt8
 other : UInt8
 meet : Bool
 kind : UInt8
 view : UInt8
 k : UInt8
 client : UInt8
 q : List UInt8
 qp : Option Addr
 qc : Nat
def A12.vals (x : A12) : List Value := [.int .u8 (x.who.toNat : Nat), .int .u8 (x.other.toNat : Nat), .bool x.meet, .int .u8 (x.kind.toNat : Nat), .int .u8 (x.view.toNat : Nat), .int .u8 (x.k.toNat : Nat), .int .u8 (x.client.toNat : Nat), .slice x.qp x.q.length x.qc]
def keyA : ByteArray := ⟨#[97]⟩
def A12.req (x : A12) : Req := { Req.zero with client := 1 + ((x.client.toNat % 3 : Nat) : Int), time := 1 + ((x.k.toNat : Nat) : Int), kind := 1, key := keyA }
def A12.qTo (x : A12) : Nat → List (Int × Int)
 | 0 => []
 | 1 => [(1, 1 + ((x.k.toNat % 6 : Nat) : Int))]
 | r + 2 => x.qTo (r + 1) ++ [(((r + 2 : Nat) : Int), 1 + (((x.q.getD (r + 1) 0).toNat % 8 : Nat) : Int))]
def A12.top (n : Nat) (x : A12) : Nat := if x.q.length ≤ 1 then 1 else if n ≤ x.q.length then n else x.q.length
def dig0 (c : UInt8) : Nat → UInt8
 | 0 => c
 | _ + 1 => 0
def A12.bodK (n : Nat) (x : A12) : Nat → Bod
 | 0 => { Bod.zero 1 with view := 1 + ((x.view.toNat % 6 : Nat) : Int), req := x.req.signed }
 | 1 => { Bod.zero 2 with view := 1 + ((x.view.toNat % 6 : Nat) : Int), k := 1 + ((x.k.toNat % 6 : Nat) : Int) }
 | 2 => { Bod.zero 3 with view := 1 + ((x.view.toNat % 6 : Nat) : Int) }
 | 3 => { Bod.zero 4 with view := 1 + ((x.view.toNat % 6 : Nat) : Int), q := x.qTo (x.top n) }
 | 4 => { Bod.zero 5 with view := 1 + ((x.view.toNat % 6 : Nat) : Int) }
 | _ => { Bod.zero 6 with k := 1 + ((x.k.toNat : Nat) : Int), dig := dig0 x.client }
def A12.bod (n : Nat) (x : A12) : Bod := x.bodK n (x.kind.toNat % 6)
theorem A12.qTo_len (x : A12) : ∀ r, (x.qTo r).length = r
 | 0 => rfl
 | 1 => rfl
 | r + 2 => by unfold A12.qTo; rw [List.length_append, x.qTo_len (r + 1)]; rfl
theorem A12.qTo_all (x : A12) : ∀ r p, p ∈ x.qTo r → p.1 ≤ (r : Int)
 | 0, p, h => by cases h
 | 1, p, h => by
  unfold A12.qTo at h
  rw [List.mem_singleton] at h
  subst h; exact Int.le_refl 1
 | r + 2, p, h => by
  unfold A12.qTo at h
  rcases List.mem_append.1 h with h | h
  ·have := x.qTo_all (r + 1) p h
   omega
  ·rw [List.mem_singleton] at h
   subst h; exact Int.le_refl _
theorem A12.top_le {n : Nat} (x : A12) (hn : 1 ≤ n) : 1 ≤ x.top n ∧ x.top n ≤ n := by
 unfold A12.top
 split
 ·omega
 ·split <;> omega
theorem signed_ok {r : Req} (h : r.Ok) : r.signed.Ok := by
 unfold Req.signed
 split
 ·exact h
 ·exact h
theorem reqz_ok : Req.zero.Ok := ⟨⟨by decide, by decide⟩, by decide, by decide⟩
theorem A12.req_ok (x : A12) : x.req.Ok := by
 have h := x.k.toNat_lt
 refine ⟨⟨?_, ?_⟩, by show (0 : Int) ≤ 0; decide, by show (0 : Int) ≤ _; decide⟩
 ·show (0 : Int) ≤ 1 + ((x.k.toNat : Nat) : Int); omega
 ·show 1 + ((x.k.toNat : Nat) : Int) ≤ _; omega
theorem A12.bod_ok (n : Nat) (x : A12) : (x.bod n).Ok := by
 have hk := x.k.toNat_lt
 have hv : 0 ≤ 1 + ((x.view.toNat % 6 : Nat) : Int) ∧ 1 + ((x.view.toNat % 6 : Nat) : Int) ≤ 18446744073709551615 := by omega
 have hk6 : 0 ≤ 1 + ((x.k.toNat % 6 : Nat) : Int) ∧ 1 + ((x.k.toNat % 6 : Nat) : Int) ≤ 18446744073709551615 := by omega
 have hk1 : 0 ≤ 1 + ((x.k.toNat : Nat) : Int) ∧ 1 + ((x.k.toNat : Nat) : Int) ≤ 18446744073709551615 := by omega
 have h0 : (0 : Int) ≤ 0 ∧ (0 : Int) ≤ 18446744073709551615 := by omega
 unfold A12.bod
 generalize x.kind.toNat % 6 = j
 match j with
 | 0 => exact ⟨hv, h0, signed_ok x.req_ok⟩
 | 1 => exact ⟨hv, hk6, reqz_ok⟩
 | 2 => exact ⟨hv, h0, reqz_ok⟩
 | 3 => exact ⟨hv, h0, reqz_ok⟩
 | 4 => exact ⟨hv, h0, reqz_ok⟩
 | j + 5 => exact ⟨h0, hk1, reqz_ok⟩
theorem A12.bod_q {n : Nat} (x : A12) (hn : 1 ≤ n) : (x.bod n).q.length ≤ n ∧ (x.bod n).q.all (fun p => decide (p.1 ≤ (n : Int))) = true := by
 unfold A12.bod
 generalize x.kind.toNat % 6 = j
 have h0 : ([] : List (Int × Int)).length ≤ n ∧ ([] : List (Int × Int)).all (fun p => decide (p.1 ≤ (n : Int))) = true := ⟨Nat.zero_le _, rfl⟩
 match j with
 | 0 => exact h0
 | 1 => exact h0
 | 2 => exact h0
 | 3 =>
  have := x.top_le hn
  show (x.qTo (x.top n)).length ≤ n ∧ (x.qTo (x.top n)).all _ = true
  rw [x.qTo_len, List.all_eq_true]
  refine ⟨this.2, fun p hp => ?_⟩
  have := x.qTo_all _ p hp
  rw [decide_eq_true_eq]
  omega
 | 4 => exact h0
 | j + 5 => exact h0
def W12.next (W : W12) (n o : Nat) (x : A12) : Msg := ⟨((o + 1 : Nat) : Int), W.kv o o + 1, W.kv o, x.bod n, noTag⟩
def W12.act (n : Nat) (W : W12) (x : A12) : W12 :=
 if x.meet = true then W.meet (x.who.toNat % n) (x.other.toNat % n) else
 if (W.next n (x.who.toNat % n) x).may = true then W.say (x.who.toNat % n) (W.next n (x.who.toNat % n) x).signed else W
theorem WInv.act {n : Nat} (h1 : 1 ≤ n) (h11 : n ≤ 11) {W : W12} (h : WInv n W) (x : A12) : WInv n (W.act n x) := by
 have ho : x.who.toNat % n < n := Nat.mod_lt _ h1
 have hj : x.other.toNat % n < n := Nat.mod_lt _ h1
 unfold W12.act
 split
 ·exact h.meet ho hj
 ·split
  ·rename_i hm
   exact (h.say h11 ho (m := W.next n (x.who.toNat % n) x) rfl rfl (fun i _ => rfl) (x.bod_q h1).2 hm).2
  ·exact h
def worldOf (n : Nat) (l : List A12) : W12 := l.foldl (W12.act n) W12.zero
theorem worldOf_snoc (n : Nat) (l : List A12) (x : A12) : worldOf n (l ++ [x]) = (worldOf n l).act n x := by
 unfold worldOf; rw [List.foldl_append]; rfl
theorem worldOf_inv {n : Nat} (h1 : 1 ≤ n) (h11 : n ≤ 11) (l : List A12) : ∀ k, WInv n (worldOf n (l.take k))
 | 0 => WInv.zero n
 | k + 1 => by
  cases h : l[k]? with
  | none =>
   have e : l.take (k + 1) = l.take k := by rw [List.take_add_one, h]; simp
   rw [e]; exact worldOf_inv h1 h11 l k
  | some x =>
   rw [take_snoc h, worldOf_snoc]
   exact (worldOf_inv h1 h11 l k).act h1 h11 x
theorem W12.act_len (n : Nat) (W : W12) (x : A12) : (W.act n x).all.length ≤ W.all.length + 1 := by
 unfold W12.act
 split
 ·exact Nat.le_succ _
 ·split
  ·show (W.all ++ [_]).length ≤ _
   rw [List.length_append]; exact Nat.le_refl _
  ·exact Nat.le_succ _
theorem worldOf_len (n : Nat) (l : List A12) : ∀ k, (worldOf n (l.take k)).all.length ≤ k
 | 0 => Nat.le_refl 0
 | k + 1 => by
  cases h : l[k]? with
  | none =>
   have e : l.take (k + 1) = l.take k := by rw [List.take_add_one, h]; simp
   rw [e]
   have := worldOf_len n l k
   omega
  | some x =>
   rw [take_snoc h, worldOf_snoc]
   have := W12.act_len n (worldOf n (l.take k)) x
   have := worldOf_len n l k
   omega
theorem cnt_len (l : List Msg) (i : Nat) : cnt l i ≤ l.length := by
 unfold cnt strm
 exact List.length_filter_le _ _
theorem WInv.kv_le {n : Nat} {W : W12} (h : WInv n W) {r : Nat} (hr : r < n) (i : Nat) : 0 ≤ W.kv r i ∧ W.kv r i ≤ (W.all.length : Nat) := by
 have h1 := (h.knw r hr).le i
 have h2 := cnt_len W.all i
 omega
end Go.Proofs.YtoigpgdmignaoaaGreatDoor
