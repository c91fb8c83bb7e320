/- Parts of the proof, one behind the other, each under its own heading. No conditions. -/
import Derived.Test.YtcaofnfemogleaaGreatDoorZ06
import Derived.OpenShut
import Derived.Test.YtcaofnfemogleaaGreatDoorRows
/- Layers 3 and 7: parts put together, the program's tags of numbers, and whether a tag is right. Condition: the table of the standard stands in the fragment. -/
namespace Go.Proofs.YtcaofnfemogleaaGreatDoor
set_option linter.unusedSectionVars false
set_option linter.unusedSimpArgs false
set_option linter.unusedVariables false
open Go
/-- A part: a slice of bytes. -/
structure BP where
  p : Option Addr
  c : Nat
  l : List UInt8
def BP.val (x : BP) : Value := .slice x.p x.l.length x.c
def flat (ps : List BP) : List UInt8 := ps.flatMap BP.l
def upto (ps : List BP) (i : Nat) : List UInt8 := flat (ps.take i)
theorem upto_succ {ps : List BP} {i : Nat} {x : BP} (h : ps[i]? = some x) : upto ps (i + 1) = upto ps i ++ x.l := by
  unfold upto flat
  rw [List.take_add_one, h, List.flatMap_append]
  simp
theorem upto_le (ps : List BP) (i : Nat) : (upto ps i).length ≤ (flat ps).length := by
  have : flat ps = upto ps i ++ flat (ps.drop i) := by
    unfold upto flat
    rw [← List.flatMap_append, List.take_append_drop]
  rw [this, List.length_append]
  omega
theorem upto_all (ps : List BP) : upto ps ps.length = flat ps := by unfold upto; rw [List.take_length]
section
variable (f : Frag) (F : List HP)
theorem bconcat_fn {sb : Nat} {ps : List BP} (hs : ∀ x ∈ ps, ∀ G, Src Tryz.prog f (G ++ F) (.slice x.p x.l.length x.c) 1 x.l.length (bytesV x.l)) (hl : (flat ps).length ≤ 1000000) (hn : ps.length ≤ 1000) :
    Fn Tryz.prog 50 [.slice (some ⟨sb, 0, none⟩) ps.length ps.length] f (row sb 22 (ps.map BP.val) :: F) (BytesR (flat ps) f F) := by
  have hget : ∀ i, i < ps.length → ∃ x, ps[i]? = some x ∧ (ps.map BP.val)[i]? = some (.slice x.p x.l.length x.c) ∧ x ∈ ps := fun i h =>
    ⟨ps[i], List.getElem?_eq_getElem h, by rw [List.getElem?_map, List.getElem?_eq_getElem h]; rfl, List.getElem_mem h⟩
  have hu := upto_le ps
  refine Fn.enter Tryz.func50 rfl Tryz.ntmps50 rfl (L := [(0, _)]) ⟨rfl, trivial⟩ fun base => ?_
  repeat (first | ((first | apply H.move | apply H.assign | apply H.len_slice); (iterate 3 exact rfl)) | (first | apply H.seq | apply H.region | apply H.nil | apply H.then_normal) | (apply H.block))
  refine H.loop (ι := Nat) (fun i => [(11, .int .i64 (i : Int)), (10, .int .i64 (ps.length : Nat)), (9, .slice (some ⟨sb, 0, none⟩) ps.length ps.length), (3, .int .i64 ((upto ps i).length : Nat)), (0, .slice (some ⟨sb, 0, none⟩) ps.length ps.length)]) (fun _ => f)
    (fun _ => row sb 22 (ps.map BP.val) :: F) (fun i => i ≤ ps.length) (fun i => ps.length - i) 0 (Nat.zero_le _) ⟨rfl, rfl, rfl, rfl, rfl, trivial⟩ rfl rfl fun i hi => ?_
  have hi : i ≤ ps.length := hi
  show H _ _ _ [(11, .int .i64 (i : Int)), _, _, (3, .int .i64 ((upto ps i).length : Nat)), _] _ _ _
  by_cases hlt : i < ps.length
  · obtain ⟨x, hx, hv, _⟩ := hget i hlt
    have hs1 := upto_succ hx
    have hu1 := hu (i + 1)
    rw [hs1, List.length_append] at hu1
    generalize upto ps i = a at hs1 hu1 ⊢
    repeat (first | (first | apply H.seq | apply H.region | apply H.nil | apply H.then_normal) | ((apply H.cmp); (iterate 5 exact rfl)) | (first | apply H.skip | apply H.block) | (apply H.cond_yes; exact rfl; (omega)))
    refine H.index1 (i := i) rfl rfl rfl rfl (by omega) rfl ?_
    refine H.load1 rfl rfl rfl (.of (Rd.ofRow (by repeat (first | exact .here _ _ _ | apply At.there))) hv) rfl ?_
    repeat (first | ((first | apply H.move | apply H.assign | apply H.len_slice); (iterate 3 exact rfl)) | (first | apply H.seq | apply H.region | apply H.nil | apply H.then_normal) | ((apply H.cmp); (iterate 5 exact rfl)) | ((apply H.ar; (iterate 4 exact rfl)); (first | (with_reducible apply wr_i64_n1; omega) | (with_reducible apply wr_i64_nn; omega)); exact rfl) | (apply H.cond_false; exact rfl) | (first | apply H.skip | apply H.in_normal))
    refine H.know (d := 3) (u := .int .i64 ((upto ps (i + 1)).length : Nat)) rfl (congrArg (Value.int .i64) (by rw [hs1, List.length_append]; try rfl)) ?_
    exact H.again (i + 1) (by show i + 1 ≤ _; omega) (by show ps.length - (i + 1) < ps.length - i; omega) ⟨rfl, rfl, rfl, rfl, rfl, trivial⟩ rfl rfl
  · have hie : i = ps.length := by omega
    subst hie
    rw [upto_all]
    repeat (first | ((apply H.move); (iterate 3 exact rfl)) | (first | apply H.seq | apply H.region | apply H.nil | apply H.then_normal) | ((apply H.cmp); (iterate 5 exact rfl)) | (first | apply H.then_exit | apply H.exit | apply H.in_hit | apply H.loop_exit) | (apply H.cond_no; exact rfl; (omega)))
    refine H.slc0 5 1 ?_
    refine H.callE2 rfl rfl rfl (growB_fn f _ (l := []) (m := (flat ps).length) (by decide) hl) fun p0 c0 => ?_
    repeat (first | ((first | apply H.move | apply H.assign | apply H.len_slice); (iterate 3 exact rfl)) | (first | apply H.seq | apply H.region | apply H.nil | apply H.then_normal) | (apply H.block))
    refine H.loop (ι := Nat × Option Addr × Nat) (fun i => [(27, .int .i64 (i.1 : Int)), (26, .int .i64 (ps.length : Nat)), (25, .slice (some ⟨sb, 0, none⟩) ps.length ps.length), (6, .slice i.2.1 (upto ps i.1).length i.2.2)]) (fun _ => f)
      (fun i => slc i.2.1 (upto ps i.1).length i.2.2 5 1 (bytesV (upto ps i.1)) :: row sb 22 (ps.map BP.val) :: F) (fun i => i.1 ≤ ps.length) (fun i => ps.length - i.1) (0, p0, c0) (Nat.zero_le _) ⟨rfl, rfl, rfl, rfl, trivial⟩ rfl rfl fun i hi => ?_
    obtain ⟨i, p', c'⟩ := i
    have hi : i ≤ ps.length := hi
    show H _ _ _ [(27, .int .i64 (i : Int)), _, _, (6, .slice p' (upto ps i).length c')] _ (slc p' (upto ps i).length c' _ 1 (bytesV (upto ps i)) :: _ :: F) _
    by_cases hlt : i < ps.length
    · obtain ⟨x, hx, hv, hm⟩ := hget i hlt
      have hs1 := upto_succ hx
      have hu1 := hu (i + 1)
      rw [hs1, List.length_append] at hu1
      generalize upto ps i = a at hs1 hu1 ⊢
      repeat (first | (first | apply H.seq | apply H.region | apply H.nil | apply H.then_normal) | ((apply H.cmp); (iterate 5 exact rfl)) | (first | apply H.skip | apply H.block) | (apply H.cond_yes; exact rfl; (omega)))
      refine H.index1 (i := i) rfl rfl rfl rfl (by omega) rfl ?_
      refine H.load1 rfl rfl rfl (.of (Rd.ofRow (by repeat (first | exact .here _ _ _ | apply At.there))) hv) rfl ?_
      repeat (first | ((first | apply H.move | apply H.assign); (iterate 3 exact rfl)) | (first | apply H.region | apply H.nil | apply H.then_normal))
      refine H.append (xs := bytesV a) rfl rfl rfl rfl rfl (fun p' c' => .here _ _ _) (hs x hm [_, _]) (bytesV_one _) rfl (by omega) (by omega) fun p3 c3 => ?_
      repeat (first | ((first | apply H.move | apply H.assign); (iterate 3 exact rfl)) | (first | apply H.region | apply H.nil | apply H.then_normal) | ((apply H.ar; (iterate 4 exact rfl)); (with_reducible apply wr_i64_n1; omega); exact rfl) | (apply H.in_normal))
      refine H.again (i + 1, p3, c3) (by show i + 1 ≤ _; omega) (by show ps.length - (i + 1) < ps.length - i; omega) ⟨rfl, rfl, rfl, ?_, trivial⟩ rfl ?_
      · show some (Value.slice p3 (a.length + x.l.length) c3) = some (Value.slice p3 (upto ps (i + 1)).length c3)
        rw [hs1, List.length_append]
      · show _ = slc p3 (upto ps (i + 1)).length c3 _ 1 (bytesV (upto ps (i + 1))) :: _
        rw [hs1, List.length_append, bytesV_append]
    · have hie : i = ps.length := by omega
      subst hie
      rw [upto_all]
      repeat (first | ((first | apply H.move | apply H.assign); (iterate 3 exact rfl)) | (first | apply H.seq | apply H.region | apply H.nil | apply H.then_normal) | ((apply H.cmp); (iterate 5 exact rfl)) | (first | apply H.ret | apply H.then_exit | apply H.exit | apply H.in_hit | apply H.loop_exit) | (apply H.cond_no; exact rfl; (omega)))
      refine H.drop (x := row sb _ _) (by repeat (first | exact .here _ _ | apply Pull.there)) ?_
      exact H.ret1 rfl rfl (fun _ h => h) ⟨p', c', rfl, rfl, rfl⟩
theorem thmac_ss (htab : TabAt f) {p r : Option Addr} {c d : Nat} {key b : List UInt8} (hd : b.length ≤ d) (hl : key.length ≤ 64) (hl2 : b.length ≤ 10000000) :
    Fn Tryz.prog 80 [.slice p key.length c, .slice r b.length d] f (slc p key.length c 5 1 (bytesV key) :: slc r b.length d 5 1 (bytesV b) :: F) (Ret (.agg (b32 (Sha.hmac key b)).toArray) f (slc p key.length c 5 1 (bytesV key) :: slc r b.length d 5 1 (bytesV b) :: F)) :=
  Fn.frozen fun g hg hj => Fn.frozen fun g2 hg2 hj2 => thmac_fn (un (un f g) g2) F (IntsAt.mono (Le.un _ g2) (IntsAt.mono (Le.un f g) htab)) (BAt.mono (Le.un _ g2) (slc_bat _ hg hj)) (slc_bat _ hg2 hj2) hd hl hl2
theorem tnumbered_fn (htab : TabAt f) {i n : Int} {r : Option Addr} {d : Nat} {b : List UInt8} (h1 : 1 ≤ i) (h2 : i ≤ 11) (hs : ∀ G, Src Tryz.prog f (G ++ F) (.slice r b.length d) 1 b.length (bytesV b)) (hl : b.length ≤ 900000) :
    Fn Tryz.prog 86 [.int .i64 i, .int .u64 n, .slice r b.length d] f F (Ret (.agg (b32 (Sha.numbered i n b)).toArray) f F) := by
  refine Fn.enter Tryz.func86 rfl Tryz.ntmps86 rfl (L := [(0, _), (1, _), (2, _)]) ⟨rfl, rfl, rfl, trivial⟩ fun base => ?_
  repeat ((first | apply H.seq | apply H.region))
  refine H.alloc (ls := zb 32) rfl rfl rfl fun ob => ?_
  repeat (first | ((apply H.move); (iterate 3 exact rfl)) | (first | apply H.seq | apply H.region | apply H.nil | apply H.then_normal))
  refine H.callE2 rfl rfl rfl (treplica_fn f _ htab h1 h2) fun p1 c1 => ?_
  repeat (((apply H.move); (iterate 3 exact rfl)))
  refine H.callE2 rfl rfl rfl (word_fn (l := []) (n := n) f _ Src.nil (fun _ => rfl) (by decide)) fun p2 c2 => ?_
  rw [List.nil_append]
  have h8 := be_len 8 n
  unfold Sha.numbered
  have hk : (Sha.word32 Sha.replicaW i).length = 32 := rfl
  generalize Sha.word32 Sha.replicaW i = key at hk ⊢
  generalize be 8 n = w at h8 ⊢
  repeat (((apply H.move); (iterate 3 exact rfl)))
  refine H.buildSlice (out := [.slice p2 w.length c2, .slice r b.length d]) rfl rfl rfl rfl (by decide) (by decide) rfl rfl fun pb => ?_
  refine H.callE2 rfl rfl rfl (bconcat_fn f _ (ps := [⟨p2, c2, w⟩, ⟨r, d, b⟩]) (fun x hx G => ?_) (by show (w ++ (b ++ [])).length ≤ _; rw [List.append_nil, List.length_append]; omega) (by show 2 ≤ 1000; decide)) fun p3 c3 => ?_
  · rcases List.mem_cons.1 hx with rfl | hx
    · exact Src.append (Src.slcS (.here _ _ _) (by rw [bytesV_len]; exact (Nat.mul_one _).symm))
    · rcases List.mem_cons.1 hx with rfl | hx
      · have h := hs (G ++ [slc p2 w.length c2 5 1 (bytesV w), slc p1 key.length c1 5 1 (bytesV key), row ob 24 (zb 32)])
        rw [List.append_assoc] at h
        exact h
      · cases hx
  have hfl : flat [⟨p2, c2, w⟩, ⟨r, d, b⟩] = w ++ b := by show w ++ (b ++ []) = _; rw [List.append_nil]
  rw [hfl]
  have hwl : (w ++ b).length ≤ 10000000 := by rw [List.length_append]; omega
  generalize w ++ b = l1 at hwl ⊢
  refine H.slc_cap (.here _ _ _) fun hc3 _ _ => ?_
  refine H.front (x := slc p1 _ _ _ _ _) (by repeat (first | exact .here _ _ | apply Pull.there)) ?_
  refine H.callR rfl rfl rfl (thmac_ss f _ htab (key := key) (b := l1) hc3 (by omega) hwl) ?_
  refine H.drop (.here _ _) ?_
  refine H.drop (.here _ _) ?_
  refine H.drop (.here _ _) ?_
  refine H.storeN (ls := zb 32) (vs := b32 (Sha.hmac key l1)) (ls' := b32 (Sha.hmac key l1)) rfl rfl rfl (allOne_mem rfl) rfl rfl (Nat.le_refl 32) (by repeat (first | exact .here _ _ _ | apply At.there)) ?_
  repeat (first | (first | apply H.nil | apply H.then_normal) | (apply H.ret))
  exact H.retD rfl rfl rfl (Rd.ofRow (by repeat (first | exact .here _ _ _ | apply At.there))) rfl (fun _ s => s.drop (.here _ _)) ⟨rfl, rfl, rfl⟩
end
end Go.Proofs.YtcaofnfemogleaaGreatDoor

/- Layer 7: whether two tags are the same; the program's check of a number's tag. -/
namespace Go.Proofs.YtcaofnfemogleaaGreatDoor
set_option linter.unusedSectionVars false
set_option linter.unusedSimpArgs false
set_option linter.unusedVariables false
open Go
/-- What is unlike in the first i bytes. -/
def orx (a b : Nat → UInt8) : Nat → UInt8
  | 0 => 0
  | i + 1 => orx a b i ||| (a i ^^^ b i)
theorem u8_or0 (x y : UInt8) : x ||| y = 0 ↔ x = 0 ∧ y = 0 := by
  rw [← UInt8.toBitVec_inj, ← UInt8.toBitVec_inj, ← UInt8.toBitVec_inj]
  simp
theorem u8_xor0 (x y : UInt8) : x ^^^ y = 0 ↔ x = y := by
  rw [← UInt8.toBitVec_inj, ← UInt8.toBitVec_inj]
  simp
theorem u8_or (x y : UInt8) : bitsI .or .u8 (x.toNat : Int) (y.toNat : Int) = some (((x ||| y).toNat : Nat) : Int) := by
  have e : (BitVec.ofInt 8 (x.toNat : Int) ||| BitVec.ofInt 8 (y.toNat : Int)).toNat = (x ||| y).toNat := by rw [u8_bv, u8_bv]; rfl
  show some (IntKind.u8.wrap ((BitVec.ofInt 8 (x.toNat : Int) ||| BitVec.ofInt 8 (y.toNat : Int)).toNat : Int)) = _
  rw [e, u8_wrapN]
theorem orx_zero (a b : Nat → UInt8) : ∀ i, orx a b i = 0 ↔ ∀ j, j < i → a j = b j
  | 0 => ⟨fun _ j h => by omega, fun _ => rfl⟩
  | i + 1 => by
    show orx a b i ||| (a i ^^^ b i) = 0 ↔ _
    rw [u8_or0, u8_xor0, orx_zero a b i]
    constructor
    · rintro ⟨h1, h2⟩ j hj
      by_cases e : j = i
      · rw [e]; exact h2
      · exact h1 j (by omega)
    · intro h
      exact ⟨fun j hj => h j (by omega), h i (by omega)⟩
theorem eqC_bytes2 : ∀ a b : List UInt8, eqC (bytesV a) (bytesV b) = decide (a = b)
  | [], [] => rfl
  | [], _ :: _ => rfl
  | _ :: _, [] => rfl
  | x :: a, y :: b => by
    show (eqv (.int .u8 x.toNat) (.int .u8 y.toNat) && eqC (bytesV a) (bytesV b)) = _
    rw [eqC_bytes2 a b]
    show (((x.toNat : Int) == (y.toNat : Int)) && _) = _
    rw [Bool.eq_iff_iff]
    simp only [Bool.and_eq_true, beq_iff_eq, decide_eq_true_eq, List.cons.injEq]
    constructor
    · rintro ⟨h1, h2⟩
      exact ⟨UInt8.toNat_inj.1 (by omega), h2⟩
    · rintro ⟨h1, h2⟩
      exact ⟨by rw [h1], h2⟩
theorem b32L_map (a : Nat → UInt8) : b32L a = (List.range 32).map a := rfl
def eq32 (a b : Nat → UInt8) : Bool := eqC (b32 a) (b32 b)
theorem eq32_orx (a b : Nat → UInt8) : eq32 a b = decide (orx a b 32 = 0) := by
  unfold eq32
  rw [b32_bytes, b32_bytes, eqC_bytes2, b32L_map, b32L_map]
  refine decide_eq_decide.2 ?_
  rw [List.map_inj_left, orx_zero]
  constructor
  · intro h j hj
    exact h j (List.mem_range.2 hj)
  · intro h j hj
    exact h j (List.mem_range.1 hj)
theorem orx_dec (a b : Nat → UInt8) : decide (((orx a b 32).toNat : Int) = 0) = eq32 a b := by
  rw [eq32_orx]
  refine decide_eq_decide.2 ⟨fun h => UInt8.toNat_inj.1 (by show (orx a b 32).toNat = 0; omega), fun h => by rw [h]; rfl⟩
theorem Src.assoc {P : Program} {f : Frag} {G : List HP} {x : HP} {F : List HP} {v : Value} {sz m : Nat} {news : List Value} (h : Src P f ((G ++ [x]) ++ F) v sz m news) : Src P f (G ++ x :: F) v sz m news := by
  rwa [List.append_assoc] at h
section
variable (f : Frag) (F : List HP)
theorem tsame_fn {a b : Nat → UInt8} : Fn Tryz.prog 44 [.agg (b32 a).toArray, .agg (b32 b).toArray] f F (Ret (.bool (eq32 a b)) f F) := by
  have hdec := orx_dec a b
  refine Fn.enter Tryz.func44 rfl Tryz.ntmps44 rfl (L := [(0, _), (1, _)]) ⟨rfl, rfl, trivial⟩ fun base => ?_
  repeat ((first | apply H.seq | apply H.region))
  refine H.box (ls := b32 a) rfl rfl rfl rfl fun ab => ?_
  refine H.box (ls := b32 b) rfl rfl rfl rfl fun bb => ?_
  repeat (first | ((first | apply H.move | apply H.assign); (iterate 3 exact rfl)) | (first | apply H.seq | apply H.region | apply H.nil | apply H.then_normal) | (apply H.block))
  refine H.loop (ι := Nat) (fun i => [(7, .int .i64 (i : Int)), (5, .int .u8 ((orx a b i).toNat : Nat)), (2, .pointer (some ⟨ab, 0, none⟩)), (3, .pointer (some ⟨bb, 0, none⟩))]) (fun _ => f)
    (fun _ => row bb 24 (b32 b) :: row ab 24 (b32 a) :: F) (fun i => i ≤ 32) (fun i => 32 - i) 0 (Nat.zero_le _) ⟨rfl, rfl, rfl, rfl, trivial⟩ rfl rfl fun i hi => ?_
  have hi : i ≤ 32 := hi
  show H _ _ _ [_, (5, .int .u8 ((orx a b i).toNat : Nat)), _, _] _ _ _
  by_cases hlt : i < 32
  · have ha : (b32 a)[i * 1]? = some (.int .u8 ((a i).toNat : Nat)) := by rw [Nat.mul_one]; exact b32_get a hlt
    have hb : (b32 b)[i * 1]? = some (.int .u8 ((b i).toNat : Nat)) := by rw [Nat.mul_one]; exact b32_get b hlt
    have hs : orx a b (i + 1) = orx a b i ||| (a i ^^^ b i) := rfl
    repeat (first | ((first | apply H.move | apply H.assign); (iterate 3 exact rfl)) | (first | apply H.seq | apply H.region | apply H.nil | apply H.then_normal) | ((apply H.cmp); (iterate 5 exact rfl)) | (first | apply H.skip | apply H.block) | (apply H.cond_yes; exact rfl; (omega)))
    refine H.drawQ (by kernel_rfl) (by decide +kernel) (by first | exact blind_fn | exact blind_seq blind_fn | exact blind_seq (blind_seq blind_fn) | (repeat (first | exact blind_fn | refine blind_seq ?_ | refine blind_block ?_ | refine blind_loop ?_))) ?_
    repeat (first | (apply HQ.index_array (i := i); (iterate 3 exact rfl); omega; omega; exact rfl) | (apply HQ.load1; (iterate 3 exact rfl); (first | exact .of (Rd.ofRow (by repeat (first | exact .here _ _ _ | apply At.there))) ha | exact .of (Rd.ofRow (by repeat (first | exact .here _ _ _ | apply At.there))) hb); exact rfl) | ((first | apply HQ.move | apply HQ.assign); (iterate 3 exact rfl)) | ((apply HQ.done0); exact rfl) | (apply HQ.bits (op := .xor); (iterate 3 exact rfl); exact u8_xor _ _; (iterate 2 exact rfl)) | (apply HQ.bits (op := .or); (iterate 3 exact rfl); exact u8_or _ _; (iterate 2 exact rfl)))
    rw [← hs]
    repeat (first | ((apply H.move); (iterate 3 exact rfl)) | (first | apply H.region | apply H.nil | apply H.then_normal) | ((apply H.ar; (iterate 4 exact rfl)); (with_reducible apply wr_i64_n1; omega); exact rfl) | (apply H.in_normal))
    exact H.again (i + 1) (by show i + 1 ≤ 32; omega) (by show 32 - (i + 1) < 32 - i; omega) ⟨rfl, rfl, rfl, rfl, trivial⟩ rfl rfl
  · have hi32 : i = 32 := by omega
    subst hi32
    generalize orx a b 32 = x at hdec ⊢
    rw [← hdec]
    clear hdec
    repeat (first | ((first | apply H.move | apply H.assign); (iterate 3 exact rfl)) | (first | apply H.seq | apply H.region | apply H.nil | apply H.then_normal) | ((apply H.cmp); (iterate 5 exact rfl)) | (apply H.cond_false; exact rfl) | (first | apply H.ret | apply H.then_exit | apply H.exit | apply H.in_hit | apply H.loop_exit))
    refine H.drop (.here _ _) ?_
    refine H.drop (.here _ _) ?_
    exact H.ret1 rfl rfl (fun _ h => h) ⟨rfl, rfl, rfl⟩
set_option maxHeartbeats 1600000 in
theorem ucheck_fn (htab : TabAt f) {i n : Int} {r : Option Addr} {d : Nat} {b : List UInt8} {t : Nat → UInt8} (h1 : 1 ≤ i) (h2 : i ≤ 11) (h3 : 1 ≤ n) (h4 : n ≤ 65536) (hs : ∀ G, Src Tryz.prog f (G ++ F) (.slice r b.length d) 1 b.length (bytesV b)) (hl : b.length ≤ 1024) :
    Fn Tryz.prog 48 [.int .i64 i, .int .u64 n, .slice r b.length d, .agg (b32 t).toArray] f F (Ret (.bool (eq32 t (Sha.numbered i n b))) f F) := by
  have hr : ∀ G, Fn Tryz.prog 84 [.int .i64 i] f G (Ret (.bool true) f G) := fun G => by
    refine Fn.enter Tryz.func84 rfl Tryz.ntmps84 rfl (L := [(0, _)]) ⟨rfl, trivial⟩ fun base => ?_
    repeat (first | ((first | apply H.move | apply H.assign); (iterate 3 exact rfl)) | (first | apply H.seq | apply H.region | apply H.nil | apply H.then_normal))
    refine H.callE2 rfl rfl rfl (treplica_fn f _ htab h1 h2) fun p1 c1 => ?_
    have hk : (Sha.word32 Sha.replicaW i).length = 32 := rfl
    generalize Sha.word32 Sha.replicaW i = key at hk ⊢
    repeat (first | ((first | apply H.assign | apply H.len_slice); (iterate 3 exact rfl)) | (first | apply H.nil | apply H.then_normal) | ((apply H.cmp); (iterate 5 exact rfl)) | (apply H.ret))
    refine H.drop (.here _ _) ?_
    exact H.ret1 rfl rfl (fun _ h => h) ⟨congrArg Value.bool (by simp; omega), rfl, rfl⟩
  have hn : ∀ G, Fn Tryz.prog 85 [.int .u64 n] f G (Ret (.bool true) f G) := fun G => by
    refine Fn.enter Tryz.func85 rfl Tryz.ntmps85 rfl (L := [(0, _)]) ⟨rfl, trivial⟩ fun base => ?_
    repeat (first | ((first | apply H.move | apply H.assign); (iterate 3 exact rfl)) | (first | apply H.seq | apply H.region | apply H.nil | apply H.then_normal) | ((apply H.cmp); (iterate 5 exact rfl)) | (apply H.pickT; (iterate 4 exact rfl)) | (apply H.ret) | (apply H.gyes; (iterate 3 exact rfl); (assumption)))
    exact H.ret1 rfl rfl (fun _ h => h) ⟨congrArg Value.bool (by simp; omega), rfl, rfl⟩
  refine Fn.enter Tryz.func48 rfl Tryz.ntmps48 rfl (L := [(0, _), (1, _), (2, _), (3, _)]) ⟨rfl, rfl, rfl, rfl, trivial⟩ fun base => ?_
  repeat ((first | apply H.seq | apply H.region))
  refine H.box (ls := b32 t) rfl rfl rfl rfl fun tb => ?_
  repeat (first | ((apply H.assign); (iterate 3 exact rfl)) | (first | apply H.seq | apply H.nil | apply H.then_normal))
  refine H.drawB (by kernel_rfl) (by decide +kernel) (by first | exact blind_fn | exact blind_seq blind_fn | exact blind_seq (blind_seq blind_fn) | (repeat (first | exact blind_fn | refine blind_seq ?_ | refine blind_block ?_ | refine blind_loop ?_))) (S := [_]) rfl ?_
  refine HB.quiet [(0, false)] 19 (by kernel_rfl) ?_
  repeat (((apply HQ.move); (iterate 3 exact rfl)))
  refine HQ.more rfl ?_
  refine HB.ev1 (i := 1) (by kernel_rfl) rfl ?_
  refine H.callR rfl rfl rfl (hr _) ?_
  repeat ((apply H.nil))
  refine H.on0 rfl ?_
  refine HB.quiet [(2, false), (3, false)] 16 (by kernel_rfl) ?_
  repeat (((apply HQ.move); (iterate 3 exact rfl)))
  refine HQ.more rfl ?_
  refine HB.ev1 (i := 4) (by kernel_rfl) rfl ?_
  skip
  refine H.callR rfl rfl rfl (hn _) ?_
  repeat ((apply H.nil))
  refine H.on0 rfl ?_
  refine HB.quiet [(5, false), (6, false), (7, false), (8, false), (9, false), (10, false), (11, false), (12, false), (13, false), (14, false), (15, false)] 4 (by kernel_rfl) ?_
  repeat (first | (refine HQ.loadN (ls := b32 t) rfl rfl rfl (Rd.ofRow (by repeat (first | exact .here _ _ _ | apply At.there))) rfl rfl ?_) | ((first | apply HQ.move | apply HQ.len_slice); (iterate 3 exact rfl)) | ((apply HQ.cmp); (iterate 5 exact rfl)) | (apply HQ.pickT; (iterate 4 exact rfl)) | (apply HQ.gyes; (iterate 3 exact rfl); (omega)))
  refine HQ.more rfl ?_
  refine HB.ev1 (i := 16) (by kernel_rfl) rfl ?_
  skip
  refine H.callR rfl rfl rfl (tnumbered_fn f _ htab h1 h2 (fun G => (hs (G ++ [_])).assoc) (by omega)) ?_
  generalize Sha.numbered i n b = u
  repeat ((apply H.nil))
  refine H.on0 rfl ?_
  refine HB.ev1 (i := 17) (by kernel_rfl) rfl ?_
  skip
  refine H.callR rfl rfl rfl (tsame_fn f _) ?_
  repeat ((apply H.nil))
  refine H.on0 rfl ?_
  refine HB.quiet [(18, false), (19, false)] 0 (by kernel_rfl) ?_
  repeat (first | ((apply HQ.assign); (iterate 3 exact rfl)) | (apply HQ.pickT; (iterate 4 exact rfl)))
  refine HQ.more rfl ?_
  refine HB.done (by kernel_rfl) ?_
  repeat (first | (apply H.then_normal) | (apply H.ret))
  refine H.drop (x := row tb _ _) (by repeat (first | exact .here _ _ | apply Pull.there)) ?_
  exact H.ret1 rfl rfl (fun _ h => h) ⟨rfl, rfl, rfl⟩
end
end Go.Proofs.YtcaofnfemogleaaGreatDoor

/- Layer 8, plain: what the program asks of a body, and what the document asks, are one. No program in sight. -/
namespace Go.Proofs.YtcaofnfemogleaaGreatDoor
set_option linter.unusedSectionVars false
set_option linter.unusedSimpArgs false
set_option linter.unusedVariables false
open Go
theorem byteAt_nat (n : Nat) (j : Nat) : (byteAt (n : Int) j).toNat = n / 256 ^ j % 256 := by
  unfold byteAt
  have e : (n : Int).fdiv (2 ^ (8 * j)) % 256 = ((n / 256 ^ j % 256 : Nat) : Int) := by
    rw [show ((2 : Int) ^ (8 * j)) = ((2 ^ (8 * j) : Nat) : Int) by simp, Int.fdiv_eq_ediv_of_nonneg _ (Int.natCast_nonneg _), Nat.pow_mul]
    rfl
  rw [e, Int.toNat_natCast, UInt8.toNat_ofNat']
  omega
theorem numB_beTop (k n : Nat) : ∀ i, i ≤ k → numB (beTop k (n : Int) i) = n / 256 ^ (k - i) % 256 ^ i
  | 0, _ => by simp [beTop, numB, Nat.mod_one]
  | i + 1, h => by
    unfold beTop
    rw [numB_snoc, numB_beTop k n i (by omega), byteAt_nat]
    have e1 : k - i = (k - (i + 1)) + 1 := by omega
    have e2 : k - 1 - i = k - (i + 1) := by omega
    rw [e1, e2]
    generalize k - (i + 1) = m
    rw [Nat.pow_succ, Nat.pow_succ, ← Nat.div_div_eq_div_mul]
    generalize n / 256 ^ m = a
    rw [Nat.mul_comm (256 ^ i) 256, Nat.mod_mul]
    omega
theorem numB_be {k n : Nat} (h : n < 256 ^ k) : numB (be k (n : Int)) = n := by
  unfold be
  rw [numB_beTop k n k (Nat.le_refl _), Nat.sub_self, Nat.pow_zero, Nat.div_one, Nat.mod_eq_of_lt h]
theorem numB_be8 {z : Int} (h : 0 ≤ z ∧ z ≤ 18446744073709551615) : ((numB (be 8 z) : Nat) : Int) = z := by
  obtain ⟨n, rfl⟩ := Int.eq_ofNat_of_zero_le h.1
  rw [numB_be (by have : (256 : Nat) ^ 8 = 18446744073709551616 := by decide
                  omega)]
section
variable {a r : List UInt8} {n : Nat}
theorem Cs.ok_app (h : a.length = n) : (⟨a ++ r, false⟩ : Cs).ok n = true := by
  rw [Cs.ok_iff]; exact ⟨rfl, by show n ≤ (a ++ r).length; rw [List.length_append]; omega⟩
theorem Cs.num_app (h : a.length = n) : (⟨a ++ r, false⟩ : Cs).num n = numB a := by
  unfold Cs.num; rw [if_pos (Cs.ok_app h)]; show numB ((a ++ r).take n) = _; rw [← h, List.take_left]
theorem Cs.skip_app (h : a.length = n) : (⟨a ++ r, false⟩ : Cs).skip n = ⟨r, false⟩ := by
  unfold Cs.skip; rw [if_pos (Cs.ok_app h)]; show (⟨(a ++ r).drop n, false⟩ : Cs) = _; rw [← h, List.drop_left]
theorem Cs.raw_app (h : a.length = n) : (⟨a ++ r, false⟩ : Cs).raw n = a := by
  unfold Cs.raw; rw [if_pos (Cs.ok_app h)]; show (a ++ r).take n = _; rw [← h, List.take_left]
theorem Cs.num8_be {z : Int} (h : 0 ≤ z ∧ z ≤ 18446744073709551615) : (((⟨be 8 z ++ r, false⟩ : Cs).num 8 : Nat) : Int) = z := by
  rw [Cs.num_app (be_len _ _), numB_be8 h]
theorem Cs.num1_b {b : UInt8} : (⟨b :: r, false⟩ : Cs).num 1 = b.toNat := by
  have := Cs.num_app (a := [b]) (r := r) (n := 1) rfl
  rw [List.singleton_append] at this
  rw [this]; simp [numB]
theorem Cs.skip1_b {b : UInt8} : (⟨b :: r, false⟩ : Cs).skip 1 = ⟨r, false⟩ := Cs.skip_app (a := [b]) rfl
theorem Cs.text_app {s : ByteArray} {most : Nat} (h : s.size ≤ most) (hm : most < 65536) :
    (⟨textB s ++ r, false⟩ : Cs).text most = s.data.toList ∧ (⟨textB s ++ r, false⟩ : Cs).textS most = ⟨r, false⟩ := by
  unfold textB
  rw [List.append_assoc]
  have h2 : (⟨be 2 (s.size : Nat) ++ (s.data.toList ++ r), false⟩ : Cs).num 2 = s.size := by
    rw [Cs.num_app (be_len _ _), numB_be (by have : (256 : Nat) ^ 2 = 65536 := by decide
                                             omega)]
  have hok : (⟨be 2 (s.size : Nat) ++ (s.data.toList ++ r), false⟩ : Cs).ok 2 = true := Cs.ok_app (be_len _ _)
  have hdl := data_len s
  have ht : (⟨be 2 (s.size : Nat) ++ (s.data.toList ++ r), false⟩ : Cs).tok most = true := by
    unfold Cs.tok
    rw [hok, h2]
    simp only [Bool.true_and, Bool.and_eq_true]
    refine ⟨Nat.ble_eq_true_of_le h, Nat.ble_eq_true_of_le ?_⟩
    show 2 + s.size ≤ (be 2 (s.size : Nat) ++ (s.data.toList ++ r)).length
    rw [List.length_append, List.length_append, be_len, hdl]; omega
  constructor
  · unfold Cs.text
    rw [if_pos ht, h2]
    show ((be 2 (s.size : Nat) ++ (s.data.toList ++ r)).drop 2).take s.size = _
    rw [List.drop_left' (be_len _ _), List.take_left' hdl]
  · unfold Cs.textS
    rw [if_pos ht, h2]
    show (⟨(be 2 (s.size : Nat) ++ (s.data.toList ++ r)).drop (2 + s.size), false⟩ : Cs) = _
    rw [← List.drop_drop, List.drop_left' (be_len _ _), List.drop_left' hdl]
theorem Cs.hash_app {t : Nat → UInt8} : b32 ((⟨b32L t ++ r, false⟩ : Cs).hash) = b32 t := by
  have e := Cs.raw_app (a := b32L t) (r := r) (n := 32) rfl
  unfold Cs.hash
  simp only [e]
  rfl
end
theorem baOf_data (s : ByteArray) : baOf s.data.toList = s := by
  unfold baOf
  rw [Array.toArray_toList]
/-- The numbers lie in their types. -/
def Req.Ok (r : Req) : Prop := (0 ≤ r.time ∧ r.time ≤ 18446744073709551615) ∧ (0 ≤ r.amount ∧ r.amount ≤ 18446744073709551615)
def Bod.Ok (x : Bod) : Prop := (0 ≤ x.view ∧ x.view ≤ 18446744073709551615) ∧ (0 ≤ x.k ∧ x.k ≤ 18446744073709551615) ∧ x.req.Ok
theorem req_back {q : Req} (h : q.Ok) (ha : q.asked) (r : List UInt8) :
    ((⟨q.bytes ++ b32L q.tag ++ r, false⟩ : Cs).req 32 128).vals = q.vals ∧ (⟨q.bytes ++ b32L q.tag ++ r, false⟩ : Cs).reqS 32 128 = ⟨r, false⟩ := by
  obtain ⟨ht, hm⟩ := h
  obtain ⟨c1, c2, _, _, ⟨k1, k2⟩, k3, k4⟩ := ha
  have e : q.bytes ++ b32L q.tag ++ r = b8 q.client :: q.kind :: (be 8 q.time ++ (be 8 q.amount ++ (textB q.key ++ (textB q.val ++ (textB q.old ++ (textB q.to ++ (b32L q.tag ++ r))))))) := by
    unfold Req.bytes Req.head
    simp only [List.append_assoc, List.cons_append, List.nil_append]
    rfl
  rw [e]
  unfold Cs.req Cs.reqS
  dsimp only
  have t1 := Cs.text_app (s := q.key) (most := 32) (r := textB q.val ++ (textB q.old ++ (textB q.to ++ (b32L q.tag ++ r)))) k1 (by decide)
  have t2 := Cs.text_app (s := q.val) (most := 128) (r := textB q.old ++ (textB q.to ++ (b32L q.tag ++ r))) k3 (by decide)
  have t3 := Cs.text_app (s := q.old) (most := 128) (r := textB q.to ++ (b32L q.tag ++ r)) k4 (by decide)
  have t4 := Cs.text_app (s := q.to) (most := 32) (r := b32L q.tag ++ r) k2 (by decide)
  rw [Cs.num1_b, Cs.skip1_b, Cs.skip1_b, Cs.skip_app (be_len _ _), Cs.skip_app (be_len _ _), t1.1, t1.2, t2.1, t2.2, t3.1, t3.2, t4.1, t4.2, Cs.num8_be ht, Cs.num8_be hm]
  constructor
  · unfold Cs.byte
    rw [Cs.num1_b]
    unfold Req.vals
    rw [Cs.hash_app, baOf_data, baOf_data, baOf_data, baOf_data, b8_small (by omega)]
    simp
  · exact Cs.skip_app (a := b32L q.tag) rfl
theorem pairs_back : ∀ (q : List (Int × Int)) (w : Int) (r : List UInt8) (acc : List (Int × Int)), 0 ≤ w → quo w q = true → Cs.pairs q.length ⟨q.flatMap pairB ++ r, false⟩ acc = (acc ++ q, ⟨r, false⟩)
  | [], w, r, acc, _, _ => by simp [Cs.pairs]
  | p :: q, w, r, acc, hw, h => by
    unfold quo at h
    split at h
    · cases h
    · rename_i hn
      have ih := pairs_back q p.1 r (acc ++ [p]) (by omega) h
      have e : (p :: q).flatMap pairB ++ r = b8 p.1 :: (be 8 p.2 ++ (q.flatMap pairB ++ r)) := by
        simp [pairB]
      rw [e]
      show (if false = true then _ else Cs.pairs q.length (((⟨_, false⟩ : Cs).skip 1).skip 8) (acc ++ [((((⟨_, false⟩ : Cs).num 1 : Nat) : Int), ((((⟨_, false⟩ : Cs).skip 1).num 8 : Nat) : Int))])) = _
      rw [if_neg (by decide), Cs.skip1_b, Cs.skip_app (be_len _ _), Cs.num1_b, Cs.num8_be (by omega), b8_small (by omega), ih]
      simp
/-- Bodies that nobody tells apart. -/
def Bod.E (a b : Bod) : Prop := a.kind = b.kind ∧ a.view = b.view ∧ a.k = b.k ∧ a.req.vals = b.req.vals ∧ a.q = b.q ∧ b32 a.dig = b32 b.dig
theorem Bod.E.eqB {x a b : Bod} (h : Bod.E a b) : Bod.eqB x a = Bod.eqB x b := by
  obtain ⟨h1, h2, h3, h4, h5, h6⟩ := h
  unfold Bod.eqB
  rw [h1, h2, h3, h4, h5, h6]
theorem eqv_comm (a b : Value) : eqv a b = eqv b a := by
  cases a with
  | bool x =>
    cases b with
    | bool y => cases x <;> cases y <;> rfl
    | _ => rfl
  | int k x =>
    cases b with
    | int l y =>
      show (x == y) = (y == x)
      rw [Bool.eq_iff_iff, beq_iff_eq, beq_iff_eq]; exact eq_comm
    | _ => rfl
  | string x =>
    cases b with
    | string y =>
      show (x == y) = (y == x)
      rw [beq_toListBytes, beq_toListBytes, Bool.eq_iff_iff, beq_iff_eq, beq_iff_eq]; exact eq_comm
    | _ => rfl
  | _ => cases b <;> rfl
theorem eqC_comm : ∀ (a b : List Value), eqC a b = eqC b a
  | [], [] => rfl
  | [], _ :: _ => rfl
  | _ :: _, [] => rfl
  | x :: xs, y :: ys => by simp only [eqC]; rw [eqv_comm, eqC_comm xs ys]
theorem Bod.eqB_comm (a b : Bod) : Bod.eqB a b = Bod.eqB b a := by
  unfold Bod.eqB
  rw [eqC_comm a.req.vals, eqC_comm (b32 a.dig), show decide (((a.kind.toNat : Nat) : Int) = b.kind.toNat) = decide (((b.kind.toNat : Nat) : Int) = a.kind.toNat) from decide_eq_decide.2 eq_comm,
    show decide (a.view = b.view) = decide (b.view = a.view) from decide_eq_decide.2 eq_comm, show decide (a.k = b.k) = decide (b.k = a.k) from decide_eq_decide.2 eq_comm, show decide (a.q = b.q) = decide (b.q = a.q) from decide_eq_decide.2 eq_comm]
theorem own_q {x : Bod} (h : x.kind.toNat ≠ 4) : x.own.q = [] := by
  unfold Bod.own
  generalize x.kind.toNat = k at h
  match k, h with
  | 0, _ => rfl
  | 1, _ => rfl
  | 2, _ => rfl
  | 3, _ => rfl
  | 4, h => exact absurd rfl h
  | 5, _ => rfl
  | 6, _ => rfl
  | k + 7, _ => rfl
theorem back_own {x : Bod} (hx : x.Ok) (hm : x.mayK x.kind.toNat = true) : Bod.E (x.back x.kind.toNat) x.own := by
  obtain ⟨hv, hk, hr⟩ := hx
  unfold Bod.back Bod.own
  generalize x.kind.toNat = k at hm
  match k, hm with
  | 0, hm => exact absurd hm (by simp [Bod.mayK])
  | k + 7, hm => exact absurd hm (by simp [Bod.mayK])
  | 1, hm =>
    have ha : x.req.asked := of_decide_eq_true hm
    have e : x.putK 1 = be 8 x.view ++ (x.req.bytes ++ b32L x.req.tag ++ []) := by simp [Bod.putK]
    rw [e]
    have h1 := req_back hr ha []
    refine ⟨rfl, ?_, rfl, ?_, rfl, rfl⟩
    · exact Cs.num8_be hv
    · show (((⟨_, false⟩ : Cs).skip 8).req 32 128).vals = _
      rw [Cs.skip_app (be_len _ _)]
      exact h1.1
  | 2, _ =>
    have e : x.putK 2 = be 8 x.view ++ (be 8 x.k ++ []) := by simp [Bod.putK]
    rw [e]
    refine ⟨rfl, Cs.num8_be hv, ?_, rfl, rfl, rfl⟩
    show ((((⟨_, false⟩ : Cs).skip 8).num 8 : Nat) : Int) = _
    rw [Cs.skip_app (be_len _ _)]
    exact Cs.num8_be hk
  | 3, _ =>
    have e : x.putK 3 = be 8 x.view ++ [] := by simp [Bod.putK]
    rw [e]
    exact ⟨rfl, Cs.num8_be hv, rfl, rfl, rfl, rfl⟩
  | 5, _ =>
    have e : x.putK 5 = be 8 x.view ++ [] := by simp [Bod.putK]
    rw [e]
    exact ⟨rfl, Cs.num8_be hv, rfl, rfl, rfl, rfl⟩
  | 6, _ =>
    have e : x.putK 6 = be 8 x.k ++ (b32L x.dig ++ []) := by simp [Bod.putK]
    rw [e]
    refine ⟨rfl, rfl, Cs.num8_be hk, rfl, rfl, ?_⟩
    show b32 (((⟨_, false⟩ : Cs).skip 8).hash) = _
    rw [Cs.skip_app (be_len _ _)]
    exact Cs.hash_app
  | 4, hm =>
    simp only [Bod.mayK, Bool.and_eq_true, decide_eq_true_eq] at hm
    have hlen := quo_len x.q 0 (by omega) hm.2.1
    have e : x.putK 4 = be 8 x.view ++ (b8 x.q.length :: (x.q.flatMap pairB ++ [])) := by simp [Bod.putK]
    rw [e]
    have hn : (b8 x.q.length).toNat = x.q.length := by have := b8_small (z := (x.q.length : Int)) (by omega); omega
    have hp := pairs_back x.q 0 [] [] (Int.le_refl 0) hm.2.1
    refine ⟨rfl, Cs.num8_be hv, rfl, rfl, ?_, rfl⟩
    show (Cs.pairs (((⟨_, false⟩ : Cs).skip 8).num 1) (((⟨_, false⟩ : Cs).skip 8).skip 1) []).1 = _
    rw [Cs.skip_app (be_len _ _), Cs.num1_b, Cs.skip1_b, hn, hp]
    rfl
theorem mayB_eq {x : Bod} (hx : x.Ok) : x.mayB = x.may := by
  unfold Bod.mayB Bod.may Bod.mayP
  cases hm : x.mayK x.kind.toNat with
  | false => simp
  | true =>
    have hk : 1 ≤ x.kind.toNat ∧ x.kind.toNat ≤ 6 := by
      generalize x.kind.toNat = k at hm
      match k, hm with
      | 0, hm => exact absurd hm (by simp [Bod.mayK])
      | k + 7, hm => exact absurd hm (by simp [Bod.mayK])
      | 1, _ => decide
      | 2, _ => decide
      | 3, _ => decide
      | 4, _ => decide
      | 5, _ => decide
      | 6, _ => decide
    rw [decide_eq_true hk, Bod.E.eqB (back_own hx hm), Bod.eqB_comm x x.own]
    simp only [Bool.true_and, Bool.and_true]
    have hlen : Bod.eqB x.own x = true → x.q.length ≤ 11 := fun h => by
      have hq := Bod.eqB_q h
      by_cases h4 : x.kind.toNat = 4
      · rw [h4] at hm
        simp only [Bod.mayK, Bool.and_eq_true, decide_eq_true_eq] at hm
        have := quo_len x.q 0 (by omega) hm.2.1
        omega
      · rw [own_q h4] at hq
        rw [← hq]; exact Nat.zero_le _
    cases he : Bod.eqB x.own x with
    | false => simp
    | true => simp [hlen he]
end Go.Proofs.YtcaofnfemogleaaGreatDoor

/- Layer 8: a message and where its pairs stand. -/
namespace Go.Proofs.YtcaofnfemogleaaGreatDoor
set_option linter.unusedSectionVars false
set_option linter.unusedSimpArgs false
set_option linter.unusedVariables false
open Go
/-- A message; where its pairs stand. -/
structure MV where
  m : Msg
  qp : Option Addr
  qc : Nat
def MV.vals (x : MV) : List Value := x.m.vals x.qp x.qc
theorem MV.len (x : MV) : x.vals.length = 121 := rfl
def MV.Good (f : Frag) (x : MV) : Prop := QAt f x.qp x.m.body.q ∧ x.m.body.q.length ≤ 1000000 ∧ x.m.body.Ok
theorem MV.Good.mono {f g : Frag} (h : Le f g) {x : MV} (hx : x.Good f) : x.Good g := ⟨QAt.mono h hx.1, hx.2⟩
section
variable (f : Frag) (F : List HP)
theorem mmay_fn {x : MV} (hx : x.Good f) : Fn Tryz.prog 20 [.agg x.vals.toArray] f F (Ret (.bool x.m.may) f F) := by
  have := may_fn (m := x.m) (qc := x.qc) f F hx.1 (by have := hx.2.1; omega)
  rw [mayB_eq hx.2.2] at this
  exact this
theorem rmmay_fn {x : MV} (hx : x.Good f) : Fn Tryz.prog 37 [.agg x.vals.toArray] f F (Ret (.bool x.m.may) f F) :=
  rmay_fn (m := x.m) (qc := x.qc) f F hx.1 (by have := hx.2.1; omega)
end
end Go.Proofs.YtcaofnfemogleaaGreatDoor

/- Layer 8: what is tagged of a message, by the program. -/
namespace Go.Proofs.YtcaofnfemogleaaGreatDoor
set_option linter.unusedSectionVars false
set_option linter.unusedSimpArgs false
set_option linter.unusedVariables false
open Go
theorem HQ.fieldV {P : Program} {base : World} {n : Nat} {L : Env} {f : Frag} {A V : List HP} {q : Post} {l rest : List Oper} {d : Nat} {ty : TypeId} {pos : String} {af : Array Edge} {gd : Option (Nat × Bool)}
    {st : TypeId} {x : Operand} {i : Nat} {fs : List Field} {nm tg pk : String} {ft : TypeId} {fo bo : Nat} {em : Bool} {xs : List Value} {v : Value} {de : TypeDesc} [hu : Und P st (.struct fs.toArray)] (hw : want? l L gd = true)
    (hx : ev? L x = some (.agg xs.toArray)) (hf : nthF fs i = some ⟨nm, ft, fo, em, tg, pk, bo⟩) (he : Und P ft de) (ha : aggD de = false) (hv : nthV xs fo = some v) (hd : Nat.ble (d + 1) n = true) {lst : Lst} {ti : Nat} {tt : List (Nat × Bool)}
    (k : HQ V ⟨lst.setIfInBounds ti true, tt⟩ P base n ((d, v) :: L) f A (.ops l rest q)) : HQ V ⟨lst, (ti, false) :: tt⟩ P base n L f A (.ops l (⟨some d, .field st x i, ty, pos, af, gd⟩ :: rest) q) :=
  HQ.opV hw hd (fun a w hfr _ => by
    rw [nthF_eq] at hf
    rw [nthV_eq] at hv
    have h3 := run_isAgg he w
    simp [execOp, Instr.field, hfr.eval hx, hu.run, hf, asAgg, part, h3, ha, hv]) k
section
variable (f : Frag) (F : List HP)
set_option maxHeartbeats 1600000 in
theorem mtagK_fn {m : Msg} {q : Option Addr} {qc : Nat} (kind : Nat) (hk : m.body.kind.toNat = kind) (f1 f2 f3 : FuncId) [Fun Tryz.prog f1] (hput : PutC f1 kind)
    (hcod : getKV codecsM (kind : Int) = some (codecV f1 f2 f3)) (hq : QAt f q m.body.q) (hm : m.body.mayK kind = true) (hl : m.body.q.length ≤ 11) :
    Fn Tryz.prog 49 [.agg (m.vals q qc).toArray] f F (BytesR m.tagged f F) := by
  have hz : ∀ z, (getKV codecsM (kind : Int)).getD z = codecV f1 f2 f3 := fun z => by rw [hcod]; rfl
  have hkv : Value.int .u8 (m.body.kind.toNat : Nat) = encU8 (kind : Int) := by rw [hk]; rfl
  have htg : m.tagged = [b8 m.origin] ++ depsB m.deps 11 ++ [m.body.kind] ++ m.body.putK kind := by unfold Msg.tagged Bod.put; rw [hk]
  rw [htg]
  clear htg
  refine Fn.enter Tryz.func49 rfl Tryz.ntmps49 rfl (L := [(0, _)]) ⟨rfl, trivial⟩ fun base => ?_
  repeat ((first | apply H.seq | apply H.region))
  refine H.box (ls := m.vals q qc) rfl rfl rfl rfl fun mb => ?_
  repeat (first | ((apply H.assign); (iterate 3 exact rfl)) | (apply H.fieldAddr; (iterate 3 exact rfl); exact inferInstance; exact rfl) | (apply H.load1; (iterate 3 exact rfl); apply Rd1.ofRow; (repeat (exact .here _ _ _)); (iterate 2 exact rfl)) | (first | apply H.seq | apply H.region | apply H.nil | apply H.then_normal) | ((apply H.conv_int; (iterate 2 exact rfl)); (rfl); exact rfl))
  rw [u8_b8]
  refine H.buildSlice (out := bytesV [b8 m.origin]) rfl rfl rfl rfl (by decide) (by decide) rfl rfl fun tb => ?_
  refine H.asSlc (k := 1) (sz := 1) rfl (by decide) ?_
  repeat (first | (refine H.loadN (ls := v11 m.deps) rfl rfl rfl (msg_deps (by repeat (first | exact .here _ _ _ | apply At.there))) rfl rfl ?_) | ((first | apply H.move | apply H.assign); (iterate 3 exact rfl)) | (apply H.fieldAddr; (iterate 3 exact rfl); exact inferInstance; exact rfl) | (first | apply H.seq | apply H.region | apply H.nil | apply H.then_normal) | (apply H.block))
  have hB0l : [b8 m.origin].length = 1 := rfl
  generalize [b8 m.origin] = B0 at hB0l ⊢
  refine H.front (.there _ (.here _ _)) ?_
  refine H.loop (ι := Nat × Option Addr × Nat) (fun i => [(12, .int .i64 (i.1 : Int)), (11, .agg (v11 m.deps).toArray), (3, .slice i.2.1 (B0 ++ depsB m.deps i.1).length i.2.2), (1, .pointer (some ⟨mb, 0, none⟩))]) (fun _ => f)
    (fun i => row mb 36 (m.vals q qc) :: slc i.2.1 (B0 ++ depsB m.deps i.1).length i.2.2 5 1 (bytesV (B0 ++ depsB m.deps i.1)) :: F) (fun i => i.1 ≤ 11) (fun i => 11 - i.1) (0, some ⟨tb, 0, none⟩, 1) (Nat.zero_le _) ⟨rfl, rfl, ?_, rfl, trivial⟩ rfl ?_ fun i hi => ?_
  · show some (Value.slice _ 1 1) = some (Value.slice _ (B0 ++ []).length 1)
    rw [List.append_nil, hB0l]
  · show _ = _ :: slc _ (B0 ++ []).length 1 _ 1 (bytesV (B0 ++ [])) :: F
    rw [List.append_nil, hB0l]
  · obtain ⟨i, p', c'⟩ := i
    have hi : i ≤ 11 := hi
    show H _ _ _ [(12, .int .i64 (i : Int)), _, (3, .slice p' (B0 ++ depsB m.deps i).length c'), _] _ (_ :: slc p' (B0 ++ depsB m.deps i).length c' _ 1 (bytesV (B0 ++ depsB m.deps i)) :: F) _
    have hal : (B0 ++ depsB m.deps i).length = 1 + 8 * i := by rw [List.length_append, depsB_len, hB0l]
    by_cases hlt : i < 11
    · have e1 : B0 ++ depsB m.deps (i + 1) = (B0 ++ depsB m.deps i) ++ be 8 (m.deps i) := by simp only [depsB, List.append_assoc]
      have hg := v11_get m.deps hlt
      generalize B0 ++ depsB m.deps i = acc at hal e1 ⊢
      repeat (first | ((first | apply H.move | apply H.assign); (iterate 3 exact rfl)) | (first | apply H.seq | apply H.region | apply H.nil | apply H.then_normal) | ((apply H.cmp); (iterate 5 exact rfl)) | (first | apply H.skip | apply H.block) | (apply H.cond_yes; exact rfl; (omega)) | (apply H.indexV (i := i); (iterate 4 exact rfl); exact hlt; exact rfl; exact hg; exact rfl))
      refine H.slc_some (.there _ (.here _ _ _)) (by omega) fun b1 hp => ?_
      subst hp
      refine H.callE2 rfl rfl rfl (word_fn (l := acc) f _ (Src.slcS (by repeat (first | exact .here _ _ _ | apply At.there)) (by rw [bytesV_len]; exact (Nat.mul_one _).symm)) (fun h => by cases h) (by omega)) fun p1 c1 => ?_
      repeat (first | ((first | apply H.move | apply H.assign); (iterate 3 exact rfl)) | (first | apply H.region | apply H.nil | apply H.then_normal) | ((apply H.ar; (iterate 4 exact rfl)); (with_reducible apply wr_i64_n1; omega); exact rfl) | (apply H.in_normal))
      refine H.drop (x := slc (some ⟨b1, 0, none⟩) _ c' _ _ _) (by repeat (first | exact .here _ _ | apply Pull.there)) ?_
      refine H.front (.there _ (.here _ _)) ?_
      refine H.again (i + 1, p1, c1) (by show i + 1 ≤ 11; omega) (by show 11 - (i + 1) < 11 - i; omega) ⟨rfl, rfl, ?_, rfl, trivial⟩ rfl ?_
      · show some _ = some (Value.slice p1 (B0 ++ depsB m.deps (i + 1)).length c1)
        rw [e1]
      · show _ = _ :: slc p1 (B0 ++ depsB m.deps (i + 1)).length c1 _ 1 (bytesV (B0 ++ depsB m.deps (i + 1))) :: F
        rw [e1]
    · have hi11 : i = 11 := by omega
      subst hi11
      generalize hacc : B0 ++ depsB m.deps 11 = acc at hal ⊢
      repeat (first | (first | apply H.seq | apply H.region | apply H.nil | apply H.then_normal) | ((apply H.cmp); (iterate 5 exact rfl)) | (apply H.cond_false; exact rfl) | (first | apply H.then_exit | apply H.exit | apply H.in_hit | apply H.loop_exit))
      refine H.drawB (by kernel_rfl) (by decide +kernel) (by first | exact blind_fn | exact blind_seq blind_fn | exact blind_seq (blind_seq blind_fn) | (repeat (first | exact blind_fn | refine blind_seq ?_ | refine blind_block ?_ | refine blind_loop ?_))) (S := [_]) rfl ?_
      refine HB.quiet [(1, false), (2, false), (3, false), (6, false), (7, false), (8, false), (9, false), (12, false), (13, false)] 7 (by kernel_rfl) ?_
      repeat (first | (refine HQ.loadN (ls := m.body.vals q qc) rfl rfl rfl (msg_body (by repeat (first | exact .here _ _ _ | apply At.there))) rfl rfl ?_) | ((apply HQ.move); (iterate 3 exact rfl)) | (apply HQ.fieldAddr; (iterate 3 exact rfl); exact inferInstance; exact rfl) | (apply HQ.load1; (iterate 3 exact rfl); apply Rd1.ofRow; (repeat (exact .here _ _ _)); (iterate 2 exact rfl)))
      refine HQ.more rfl ?_
      refine HB.ev2 (i := 0) (j := 10) (by kernel_rfl) rfl rfl ?_ ?_
      · refine H.callE rfl rfl rfl (codecs_fn f _) fun cb => ?_
        repeat ((apply H.nil))
        refine H.front (.there _ (.here _ _)) ?_
        refine H.on [_] (Le.refl _) rfl ?_
        refine HB.quiet [(4, false), (5, false)] 4 (by kernel_rfl) ?_
        refine HQ.lookup (enc := encU8) (k := (kind : Int)) rfl rfl rfl (by repeat (first | exact .here _ _ _ | apply At.there)) hkv (hz _) rfl ?_
        refine HQ.fieldV (xs := codecCells f1 f2 f3) rfl rfl rfl inferInstance rfl rfl rfl ?_
        refine HQ.more rfl ?_
        refine HB.ev1 (i := 10) (by kernel_rfl) rfl ?_
        refine H.buildSlice (out := bytesV [m.body.kind]) rfl rfl rfl rfl (by decide) (by decide) rfl rfl fun tb2 => ?_
        repeat ((apply H.nil))
        refine H.front (x := mp _ _ _) (by repeat (first | exact .here _ _ | apply Pull.there)) ?_
        refine H.front (x := row mb _ _) (by repeat (first | exact .here _ _ | apply Pull.there)) ?_
        refine H.on0 rfl ?_
        refine HB.ev1 (i := 11) (by kernel_rfl) rfl ?_
        refine H.append (m := 1) (xs := bytesV acc) rfl rfl rfl rfl rfl (fun p' c' => (by repeat (first | exact .here _ _ _ | apply At.there))) (Src.slice (Rd.ofRow (by repeat (first | exact .here _ _ _ | apply At.there))) rfl) (bytesV_one _) rfl (by omega) (by omega) fun p2 c2 => ?_
        have e2 : (acc ++ [m.body.kind]).length = acc.length + 1 := by rw [List.length_append]; rfl
        have e3 : bytesV (acc ++ [m.body.kind]) = bytesV acc ++ bytesV [m.body.kind] := bytesV_append _ _
        rw [← e3, ← e2]
        generalize acc ++ [m.body.kind] = acc2 at e2 ⊢
        refine H.drop (x := row tb2 _ _) (by repeat (first | exact .here _ _ | apply Pull.there)) ?_
        repeat ((apply H.nil))
        refine H.front (x := mp _ _ _) (by repeat (first | exact .here _ _ | apply Pull.there)) ?_
        refine H.front (x := row mb _ _) (by repeat (first | exact .here _ _ | apply Pull.there)) ?_
        refine H.on0 rfl ?_
        refine HB.ev1 (i := 14) (by kernel_rfl) rfl ?_
        refine H.front (x := slc p2 _ _ _ _ _) (by repeat (first | exact .here _ _ | apply Pull.there)) ?_
        refine H.slc_some (.here _ _ _) (by omega) fun b1 hp => ?_
        subst hp
        refine H.callVE2 (fs := []) (cs := []) (vs := [.slice (some ⟨b1, 0, none⟩) acc2.length c2, .agg (m.body.vals q qc).toArray]) rfl rfl rfl rfl (hput f _ m.body q qc _ c2 acc2 (Src.slcS (.here _ _ _) (by rw [bytesV_len]; exact (Nat.mul_one _).symm)) (fun h => by cases h) hq hm hl (by omega)) fun p3 c3 => ?_
        repeat ((apply H.nil))
        refine H.front (x := mp _ _ _) (by repeat (first | exact .here _ _ | apply Pull.there)) ?_
        refine H.front (x := row mb _ _) (by repeat (first | exact .here _ _ | apply Pull.there)) ?_
        refine H.on0 rfl ?_
        refine HB.quiet [(15, false)] 0 (by kernel_rfl) ?_
        repeat (((apply HQ.assign); (iterate 3 exact rfl)))
        refine HQ.more rfl ?_
        refine HB.done (by kernel_rfl) ?_
        repeat (first | (apply H.then_normal) | (apply H.ret))
        refine H.drop (x := row mb _ _) (by repeat (first | exact .here _ _ | apply Pull.there)) ?_
        refine H.drop (x := mp _ _ _) (by repeat (first | exact .here _ _ | apply Pull.there)) ?_
        refine H.drop (x := slc (some ⟨b1, 0, none⟩) _ _ _ _ _) (by repeat (first | exact .here _ _ | apply Pull.there)) ?_
        exact H.ret1 rfl rfl (fun _ h => h) ⟨p3, c3, rfl, rfl, rfl⟩
      · refine H.buildSlice (out := bytesV [m.body.kind]) rfl rfl rfl rfl (by decide) (by decide) rfl rfl fun tb2 => ?_
        repeat ((apply H.nil))
        refine H.front (x := row mb _ _) (by repeat (first | exact .here _ _ | apply Pull.there)) ?_
        refine H.on0 rfl ?_
        refine HB.ev1 (i := 0) (by kernel_rfl) rfl ?_
        refine H.callE rfl rfl rfl (codecs_fn f _) fun cb => ?_
        repeat ((apply H.nil))
        refine H.front (.there _ (.here _ _)) ?_
        refine H.on [_] (Le.refl _) rfl ?_
        refine HB.quiet [(4, false), (5, false)] 3 (by kernel_rfl) ?_
        refine HQ.lookup (enc := encU8) (k := (kind : Int)) rfl rfl rfl (by repeat (first | exact .here _ _ _ | apply At.there)) hkv (hz _) rfl ?_
        refine HQ.fieldV (xs := codecCells f1 f2 f3) rfl rfl rfl inferInstance rfl rfl rfl ?_
        refine HQ.more rfl ?_
        refine HB.ev1 (i := 11) (by kernel_rfl) rfl ?_
        refine H.append (m := 1) (xs := bytesV acc) rfl rfl rfl rfl rfl (fun p' c' => (by repeat (first | exact .here _ _ _ | apply At.there))) (Src.slice (Rd.ofRow (by repeat (first | exact .here _ _ _ | apply At.there))) rfl) (bytesV_one _) rfl (by omega) (by omega) fun p2 c2 => ?_
        have e2 : (acc ++ [m.body.kind]).length = acc.length + 1 := by rw [List.length_append]; rfl
        have e3 : bytesV (acc ++ [m.body.kind]) = bytesV acc ++ bytesV [m.body.kind] := bytesV_append _ _
        rw [← e3, ← e2]
        generalize acc ++ [m.body.kind] = acc2 at e2 ⊢
        refine H.drop (x := row tb2 _ _) (by repeat (first | exact .here _ _ | apply Pull.there)) ?_
        repeat ((apply H.nil))
        refine H.front (x := mp _ _ _) (by repeat (first | exact .here _ _ | apply Pull.there)) ?_
        refine H.front (x := row mb _ _) (by repeat (first | exact .here _ _ | apply Pull.there)) ?_
        refine H.on0 rfl ?_
        refine HB.ev1 (i := 14) (by kernel_rfl) rfl ?_
        refine H.front (x := slc p2 _ _ _ _ _) (by repeat (first | exact .here _ _ | apply Pull.there)) ?_
        refine H.slc_some (.here _ _ _) (by omega) fun b1 hp => ?_
        subst hp
        refine H.callVE2 (fs := []) (cs := []) (vs := [.slice (some ⟨b1, 0, none⟩) acc2.length c2, .agg (m.body.vals q qc).toArray]) rfl rfl rfl rfl (hput f _ m.body q qc _ c2 acc2 (Src.slcS (.here _ _ _) (by rw [bytesV_len]; exact (Nat.mul_one _).symm)) (fun h => by cases h) hq hm hl (by omega)) fun p3 c3 => ?_
        repeat ((apply H.nil))
        refine H.front (x := mp _ _ _) (by repeat (first | exact .here _ _ | apply Pull.there)) ?_
        refine H.front (x := row mb _ _) (by repeat (first | exact .here _ _ | apply Pull.there)) ?_
        refine H.on0 rfl ?_
        refine HB.quiet [(15, false)] 0 (by kernel_rfl) ?_
        repeat (((apply HQ.assign); (iterate 3 exact rfl)))
        refine HQ.more rfl ?_
        refine HB.done (by kernel_rfl) ?_
        repeat (first | (apply H.then_normal) | (apply H.ret))
        refine H.drop (x := row mb _ _) (by repeat (first | exact .here _ _ | apply Pull.there)) ?_
        refine H.drop (x := mp _ _ _) (by repeat (first | exact .here _ _ | apply Pull.there)) ?_
        refine H.drop (x := slc (some ⟨b1, 0, none⟩) _ _ _ _ _) (by repeat (first | exact .here _ _ | apply Pull.there)) ?_
        exact H.ret1 rfl rfl (fun _ h => h) ⟨p3, c3, rfl, rfl, rfl⟩
theorem mtagged_fn {m : Msg} {q : Option Addr} {qc : Nat} (hq : QAt f q m.body.q) (hm : m.may = true) :
    Fn Tryz.prog 49 [.agg (m.vals q qc).toArray] f F (BytesR m.tagged f F) := by
  have h1 := (Bod.may_spec (Msg.may_body hm)).2.2
  have h2 := Bod.may_q (Msg.may_body hm)
  generalize hk : m.body.kind.toNat = kind at h1
  match kind, hk, h1 with
  | 1, hk, h1 => exact mtagK_fn f F 1 hk _ _ _ put1 (by rfl) hq h1 h2
  | 2, hk, h1 => exact mtagK_fn f F 2 hk _ _ _ put2 (by rfl) hq h1 h2
  | 3, hk, h1 => exact mtagK_fn f F 3 hk _ _ _ put3 (by rfl) hq h1 h2
  | 4, hk, h1 => exact mtagK_fn f F 4 hk _ _ _ put4 (by rfl) hq h1 h2
  | 5, hk, h1 => exact mtagK_fn f F 5 hk _ _ _ put5 (by rfl) hq h1 h2
  | 6, hk, h1 => exact mtagK_fn f F 6 hk _ _ _ put6 (by rfl) hq h1 h2
  | 0, _, h1 => exact absurd h1 (by simp [Bod.mayK])
  | k + 7, _, h1 => exact absurd h1 (by simp [Bod.mayK])
end
end Go.Proofs.YtcaofnfemogleaaGreatDoor

/- Layer 8: a message's bytes, all of it as bytes, whether its tag is right (the program, the document). -/
namespace Go.Proofs.YtcaofnfemogleaaGreatDoor
set_option linter.unusedSectionVars false
set_option linter.unusedSimpArgs false
set_option linter.unusedVariables false
open Go
/-- All of a message as bytes. -/
def Msg.putB (m : Msg) : List UInt8 := if m.may = true then be 8 m.number ++ m.tagged ++ b32L m.tag else []
/-- Is its tag right? -/
def Msg.right (m : Msg) : Bool := m.may && eq32 m.tag (Sha.numbered m.origin m.number m.tagged)
theorem putK_max (x : Bod) (kind : Nat) (hm : x.mayK kind = true) (hq : x.q.length ≤ 11) : (x.putK kind).length ≤ 900 := by
  match kind, hm with
  | 1, hm =>
    obtain ⟨_, _, _, _, ⟨k1, k2⟩, k3, k4⟩ := of_decide_eq_true hm
    show (be 8 x.view ++ x.req.bytes ++ b32L x.req.tag).length ≤ 900
    rw [List.length_append, List.length_append, be_len, Req.bytes_len]
    show 8 + _ + 32 ≤ 900
    omega
  | 2, _ => simp [Bod.putK, be_len]
  | 3, _ => simp [Bod.putK, be_len]
  | 4, _ =>
    show (be 8 x.view ++ [b8 x.q.length] ++ x.q.flatMap pairB).length ≤ 900
    rw [List.length_append, List.length_append, be_len, flat_pairB_len]
    show 8 + 1 + _ ≤ 900
    omega
  | 5, _ => simp [Bod.putK, be_len]
  | 6, _ => simp [Bod.putK, be_len, b32L]
theorem Msg.tagged_max {m : Msg} (h : m.may = true) : m.tagged.length ≤ 1024 := by
  have h1 := Bod.may_spec (Msg.may_body h)
  have h2 := Bod.may_q (Msg.may_body h)
  have h3 := putK_max m.body m.body.kind.toNat h1.2.2 h2
  unfold Msg.tagged Bod.put
  simp only [List.length_append, List.length_cons, List.length_nil, depsB_len]
  omega
theorem Msg.may_outer {m : Msg} (h : m.may = true) : m.outer := by
  unfold Msg.may at h
  simp only [Bool.and_eq_true, decide_eq_true_eq] at h
  exact h.1
theorem msg_tag {f : Frag} {A A' : List HP} {mb : Nat} {T : TypeId} {m : Msg} {q : Option Addr} {qc : Nat} (h : At A (row mb T (m.vals q qc)) A' (row mb T (m.vals q qc))) : Rd f A mb (0 + 89) (b32 m.tag) := by
  have h1 := Rd.ofRow (f := f) h
  have e : m.vals q qc = ([.int .i64 m.origin, .int .u64 m.number] ++ v11 m.deps ++ m.body.vals q qc) ++ b32 m.tag ++ [] := by unfold Msg.vals; rw [List.append_nil]
  rw [e] at h1
  exact h1.sub rfl
section
variable (f : Frag) (F : List HP)
theorem mbytes_fn {x : MV} (hx : x.Good f) : Fn Tryz.prog 35 [.agg x.vals.toArray] f F (BytesR x.m.bytes f F) := by
  have hmay := fun G => mmay_fn f G hx
  unfold Msg.bytes
  by_cases hm : x.m.may = true
  · rw [if_pos hm]
    rw [hm] at hmay
    have htg := fun G => mtagged_fn (qc := x.qc) f G hx.1 hm
    generalize x.m.tagged = tg at htg ⊢
    refine Fn.enter Tryz.func35 rfl Tryz.ntmps35 rfl (L := [(0, _)]) ⟨rfl, trivial⟩ fun base => ?_
    repeat ((first | apply H.seq | apply H.region))
    refine H.box (ls := x.vals) rfl rfl rfl rfl fun mb => ?_
    repeat (first | ((apply H.assign); (iterate 3 exact rfl)) | (first | apply H.seq | apply H.region | apply H.nil | apply H.then_normal))
    refine H.loadN (ls := x.vals) rfl rfl rfl (Rd.ofRow (by repeat (first | exact .here _ _ _ | apply At.there))) rfl rfl ?_
    refine H.callR rfl rfl rfl (hmay _) ?_
    repeat (first | (first | apply H.seq | apply H.region | apply H.nil | apply H.then_normal) | ((apply H.not); (iterate 4 exact rfl)) | (apply H.cond_false; exact rfl) | (apply H.skip))
    refine H.loadN (ls := x.vals) rfl rfl rfl (Rd.ofRow (by repeat (first | exact .here _ _ _ | apply At.there))) rfl rfl ?_
    refine H.callE2 rfl rfl rfl (htg _) fun p c => ?_
    repeat (first | ((apply H.assign); (iterate 3 exact rfl)) | (first | apply H.nil | apply H.then_normal) | (apply H.ret))
    refine H.drop (x := row mb _ _) (by repeat (first | exact .here _ _ | apply Pull.there)) ?_
    exact H.ret1 rfl rfl (fun _ h => h) ⟨p, c, rfl, rfl, rfl⟩
  · rw [if_neg hm]
    rw [Bool.eq_false_iff.2 hm] at hmay
    refine Fn.enter Tryz.func35 rfl Tryz.ntmps35 rfl (L := [(0, _)]) ⟨rfl, trivial⟩ fun base => ?_
    repeat ((first | apply H.seq | apply H.region))
    refine H.box (ls := x.vals) rfl rfl rfl rfl fun mb => ?_
    repeat (first | ((apply H.assign); (iterate 3 exact rfl)) | (first | apply H.seq | apply H.region | apply H.nil | apply H.then_normal))
    refine H.loadN (ls := x.vals) rfl rfl rfl (Rd.ofRow (by repeat (first | exact .here _ _ _ | apply At.there))) rfl rfl ?_
    refine H.callR rfl rfl rfl (hmay _) ?_
    repeat (first | ((apply H.assign); (iterate 3 exact rfl)) | (first | apply H.seq | apply H.region | apply H.nil | apply H.then_normal) | ((apply H.not); (iterate 4 exact rfl)) | (apply H.cond_true; exact rfl) | (first | apply H.ret | apply H.then_ret))
    refine H.drop (x := row mb _ _) (by repeat (first | exact .here _ _ | apply Pull.there)) ?_
    refine H.slc0 5 1 ?_
    exact H.ret1 rfl rfl (fun _ h => h) ⟨none, 0, rfl, rfl, rfl⟩
set_option maxHeartbeats 1600000 in
theorem mput_fn {x : MV} (hx : x.Good f) : Fn Tryz.prog 22 [.agg x.vals.toArray] f F (BytesR x.m.putB f F) := by
  have hmay := fun G => mmay_fn f G hx
  unfold Msg.putB
  by_cases hm : x.m.may = true
  · rw [if_pos hm]
    rw [hm] at hmay
    have htg := fun G => mtagged_fn (qc := x.qc) f G hx.1 hm
    have htl := Msg.tagged_max hm
    generalize x.m.tagged = tg at htg htl ⊢
    refine Fn.enter Tryz.func22 rfl Tryz.ntmps22 rfl (L := [(0, _)]) ⟨rfl, trivial⟩ fun base => ?_
    repeat ((first | apply H.seq | apply H.region))
    refine H.box (ls := x.vals) rfl rfl rfl rfl fun mb => ?_
    repeat (first | ((apply H.assign); (iterate 3 exact rfl)) | (first | apply H.seq | apply H.region | apply H.nil | apply H.then_normal))
    refine H.loadN (ls := x.vals) rfl rfl rfl (Rd.ofRow (by repeat (first | exact .here _ _ _ | apply At.there))) rfl rfl ?_
    refine H.callR rfl rfl rfl (hmay _) ?_
    repeat (first | (first | apply H.seq | apply H.nil | apply H.then_normal) | ((apply H.not); (iterate 4 exact rfl)) | (apply H.cond_false; exact rfl) | (apply H.skip))
    refine H.drawB (by kernel_rfl) (by decide +kernel) (by first | exact blind_fn | exact blind_seq blind_fn | exact blind_seq (blind_seq blind_fn) | (repeat (first | exact blind_fn | refine blind_seq ?_ | refine blind_block ?_ | refine blind_loop ?_))) (S := [_]) rfl ?_
    refine HB.quiet [(0, false), (1, false), (3, false), (5, false), (6, false)] 5 (by kernel_rfl) ?_
    repeat (first | (refine HQ.loadN (ls := x.vals) rfl rfl rfl (Rd.ofRow (by repeat (first | exact .here _ _ _ | apply At.there))) rfl rfl ?_) | (apply HQ.fieldAddr; (iterate 3 exact rfl); exact inferInstance; exact rfl) | (apply HQ.load1; (iterate 3 exact rfl); apply Rd1.ofRow; (repeat (exact .here _ _ _)); (iterate 2 exact rfl)))
    refine HQ.sliceArr (lo := none) (hi := none) (mx := none) (lv := 0) (hv := 32) (mv := 32) rfl rfl rfl rfl rfl (fun h => by cases h) (by decide) (by decide) (by decide) rfl ?_
    refine HQ.more rfl ?_
    refine HB.ev1 (i := 2) (by kernel_rfl) rfl ?_
    refine H.callE2 rfl rfl rfl (word_fn (l := []) (n := x.m.number) f _ Src.nil (fun _ => rfl) (by decide)) fun p1 c1 => ?_
    rw [List.nil_append]
    have h8 := be_len 8 x.m.number
    generalize be 8 x.m.number = w at h8 ⊢
    repeat ((apply H.nil))
    refine H.front (x := row mb _ _) (by repeat (first | exact .here _ _ | apply Pull.there)) ?_
    refine H.on0 rfl ?_
    refine HB.ev1 (i := 4) (by kernel_rfl) rfl ?_
    refine H.callE2 rfl rfl rfl (htg _) fun p2 c2 => ?_
    repeat ((apply H.nil))
    refine H.front (x := row mb _ _) (by repeat (first | exact .here _ _ | apply Pull.there)) ?_
    refine H.on0 rfl ?_
    refine HB.ev1 (i := 7) (by kernel_rfl) rfl ?_
    refine H.buildSlice (out := [.slice p1 w.length c1, .slice p2 tg.length c2, .slice (some ⟨mb, 89, none⟩) 32 32]) rfl rfl rfl rfl (by decide) (by decide) rfl rfl fun pb => ?_
    repeat ((apply H.nil))
    refine H.front (x := row mb _ _) (by repeat (first | exact .here _ _ | apply Pull.there)) ?_
    refine H.on0 rfl ?_
    refine HB.ev1 (i := 8) (by kernel_rfl) rfl ?_
    refine H.front (x := row pb _ _) (by repeat (first | exact .here _ _ | apply Pull.there)) ?_
    have hfl : flat [⟨p1, c1, w⟩, ⟨p2, c2, tg⟩, ⟨some ⟨mb, 89, none⟩, 32, b32L x.m.tag⟩] = w ++ tg ++ b32L x.m.tag := by show w ++ (tg ++ (b32L x.m.tag ++ [])) = _; rw [List.append_nil, List.append_assoc]
    refine H.callE2 rfl rfl rfl (bconcat_fn f _ (ps := [⟨p1, c1, w⟩, ⟨p2, c2, tg⟩, ⟨some ⟨mb, 89, none⟩, 32, b32L x.m.tag⟩]) (fun y hy G => ?_) (by rw [hfl, List.length_append, List.length_append]; show _ + _ + 32 ≤ _; omega) (by show 3 ≤ 1000; decide)) fun p3 c3 => ?_
    · rcases List.mem_cons.1 hy with rfl | hy
      · exact Src.append (Src.slcS (by repeat (first | exact .here _ _ _ | apply At.there)) (by rw [bytesV_len]; exact (Nat.mul_one _).symm))
      · rcases List.mem_cons.1 hy with rfl | hy
        · exact Src.append (Src.slcS (by repeat (first | exact .here _ _ _ | apply At.there)) (by rw [bytesV_len]; exact (Nat.mul_one _).symm))
        · rcases List.mem_cons.1 hy with rfl | hy
          · exact Src.append (Src.slice (m := 32) (msg_tag (m := x.m) (q := x.qp) (qc := x.qc) (by repeat (first | exact .here _ _ _ | apply At.there))) rfl)
          · cases hy
    rw [hfl]
    generalize w ++ tg ++ b32L x.m.tag = res
    repeat ((apply H.nil))
    refine H.front (x := row mb _ _) (by repeat (first | exact .here _ _ | apply Pull.there)) ?_
    refine H.on0 rfl ?_
    refine HB.quiet [(9, false)] 0 (by kernel_rfl) ?_
    repeat (((apply HQ.assign); (iterate 3 exact rfl)))
    refine HQ.more rfl ?_
    refine HB.done (by kernel_rfl) ?_
    repeat (first | (apply H.then_normal) | (apply H.ret))
    refine H.drop (x := row mb _ _) (by repeat (first | exact .here _ _ | apply Pull.there)) ?_
    refine H.drop (x := slc p1 _ _ _ _ _) (by repeat (first | exact .here _ _ | apply Pull.there)) ?_
    refine H.drop (x := slc p2 _ _ _ _ _) (by repeat (first | exact .here _ _ | apply Pull.there)) ?_
    exact H.ret1 rfl rfl (fun _ h => h) ⟨p3, c3, rfl, rfl, rfl⟩
  · rw [if_neg hm]
    rw [Bool.eq_false_iff.2 hm] at hmay
    refine Fn.enter Tryz.func22 rfl Tryz.ntmps22 rfl (L := [(0, _)]) ⟨rfl, trivial⟩ fun base => ?_
    repeat ((first | apply H.seq | apply H.region))
    refine H.box (ls := x.vals) rfl rfl rfl rfl fun mb => ?_
    repeat (first | ((apply H.assign); (iterate 3 exact rfl)) | (first | apply H.seq | apply H.region | apply H.nil | apply H.then_normal))
    refine H.loadN (ls := x.vals) rfl rfl rfl (Rd.ofRow (by repeat (first | exact .here _ _ _ | apply At.there))) rfl rfl ?_
    refine H.callR rfl rfl rfl (hmay _) ?_
    repeat (first | ((apply H.assign); (iterate 3 exact rfl)) | (first | apply H.seq | apply H.region | apply H.nil | apply H.then_normal) | ((apply H.not); (iterate 4 exact rfl)) | (apply H.cond_true; exact rfl) | (first | apply H.ret | apply H.then_ret))
    refine H.drop (x := row mb _ _) (by repeat (first | exact .here _ _ | apply Pull.there)) ?_
    refine H.slc0 5 1 ?_
    exact H.ret1 rfl rfl (fun _ h => h) ⟨none, 0, rfl, rfl, rfl⟩
set_option maxHeartbeats 1600000 in
theorem mright_fn (htab : TabAt f) {x : MV} (hx : x.Good f) : Fn Tryz.prog 21 [.agg x.vals.toArray] f F (Ret (.bool x.m.right) f F) := by
  have hmay := fun G => mmay_fn f G hx
  unfold Msg.right
  by_cases hm : x.m.may = true
  · rw [hm] at hmay ⊢
    rw [Bool.true_and]
    have htg := fun G => mtagged_fn (qc := x.qc) f G hx.1 hm
    have htl := Msg.tagged_max hm
    have hou := Msg.may_outer hm
    generalize x.m.tagged = tg at htg htl ⊢
    obtain ⟨o1, o2, o3, o4, _⟩ := hou
    refine Fn.enter Tryz.func21 rfl Tryz.ntmps21 rfl (L := [(0, _)]) ⟨rfl, trivial⟩ fun base => ?_
    repeat ((first | apply H.seq | apply H.region))
    refine H.box (ls := x.vals) rfl rfl rfl rfl fun mb => ?_
    repeat (first | ((apply H.assign); (iterate 3 exact rfl)) | (first | apply H.seq | apply H.nil | apply H.then_normal))
    refine H.drawB (by kernel_rfl) (by decide +kernel) (by first | exact blind_fn | exact blind_seq blind_fn | exact blind_seq (blind_seq blind_fn) | (repeat (first | exact blind_fn | refine blind_seq ?_ | refine blind_block ?_ | refine blind_loop ?_))) (S := [_]) rfl ?_
    refine HB.quiet [(0, false)] 13 (by kernel_rfl) ?_
    repeat ((refine HQ.loadN (ls := x.vals) rfl rfl rfl (Rd.ofRow (by repeat (first | exact .here _ _ _ | apply At.there))) rfl rfl ?_))
    refine HQ.more rfl ?_
    refine HB.ev1 (i := 1) (by kernel_rfl) rfl ?_
    refine H.callR rfl rfl rfl (hmay _) ?_
    repeat ((apply H.nil))
    refine H.on0 rfl ?_
    refine HB.quiet [(2, false), (3, false), (4, false), (5, false), (6, false), (7, false), (9, false), (10, false)] 4 (by kernel_rfl) ?_
    repeat (first | (refine HQ.loadN (ls := x.vals) rfl rfl rfl (Rd.ofRow (by repeat (first | exact .here _ _ _ | apply At.there))) rfl rfl ?_) | (refine HQ.loadN (ls := b32 x.m.tag) rfl rfl rfl (msg_tag (m := x.m) (q := x.qp) (qc := x.qc) (by repeat (first | exact .here _ _ _ | apply At.there))) rfl rfl ?_) | ((apply HQ.move); (iterate 3 exact rfl)) | (apply HQ.fieldAddr; (iterate 3 exact rfl); exact inferInstance; exact rfl) | (apply HQ.load1; (iterate 3 exact rfl); apply Rd1.ofRow; (repeat (exact .here _ _ _)); (iterate 2 exact rfl)))
    refine HQ.more rfl ?_
    refine HB.ev1 (i := 8) (by kernel_rfl) rfl ?_
    skip
    refine H.callE2 rfl rfl rfl (htg _) fun p1 c1 => ?_
    repeat ((apply H.nil))
    refine H.front (x := row mb _ _) (by repeat (first | exact .here _ _ | apply Pull.there)) ?_
    refine H.on0 rfl ?_
    refine HB.ev1 (i := 11) (by kernel_rfl) rfl ?_
    skip
    refine H.callR rfl rfl rfl (ucheck_fn f _ htab o1 o2 o3 o4 (fun G => Src.append (Src.slcS (by repeat (first | exact .here _ _ _ | apply At.there)) (by rw [bytesV_len]; exact (Nat.mul_one _).symm))) htl) ?_
    repeat ((apply H.nil))
    refine H.on0 rfl ?_
    refine HB.quiet [(12, false), (13, false)] 0 (by kernel_rfl) ?_
    repeat (first | ((apply HQ.assign); (iterate 3 exact rfl)) | (apply HQ.pickT; (iterate 4 exact rfl)))
    refine HQ.more rfl ?_
    refine HB.done (by kernel_rfl) ?_
    repeat (first | (apply H.then_normal) | (apply H.ret))
    refine H.drop (x := row mb _ _) (by repeat (first | exact .here _ _ | apply Pull.there)) ?_
    refine H.drop (x := slc p1 _ _ _ _ _) (by repeat (first | exact .here _ _ | apply Pull.there)) ?_
    exact H.ret1 rfl rfl (fun _ h => h) ⟨rfl, rfl, rfl⟩
  · rw [Bool.eq_false_iff.2 hm] at hmay ⊢
    rw [Bool.false_and]
    refine Fn.enter Tryz.func21 rfl Tryz.ntmps21 rfl (L := [(0, _)]) ⟨rfl, trivial⟩ fun base => ?_
    repeat ((first | apply H.seq | apply H.region))
    refine H.box (ls := x.vals) rfl rfl rfl rfl fun mb => ?_
    repeat (first | ((apply H.assign); (iterate 3 exact rfl)) | (first | apply H.seq | apply H.nil | apply H.then_normal))
    refine H.drawB (by kernel_rfl) (by decide +kernel) (by first | exact blind_fn | exact blind_seq blind_fn | exact blind_seq (blind_seq blind_fn) | (repeat (first | exact blind_fn | refine blind_seq ?_ | refine blind_block ?_ | refine blind_loop ?_))) (S := [_]) rfl ?_
    refine HB.quiet [(0, false)] 13 (by kernel_rfl) ?_
    repeat ((refine HQ.loadN (ls := x.vals) rfl rfl rfl (Rd.ofRow (by repeat (first | exact .here _ _ _ | apply At.there))) rfl rfl ?_))
    refine HQ.more rfl ?_
    refine HB.ev1 (i := 1) (by kernel_rfl) rfl ?_
    refine H.callR rfl rfl rfl (hmay _) ?_
    repeat ((apply H.nil))
    refine H.on0 rfl ?_
    refine HB.quiet [(2, false), (3, false), (4, false), (5, false), (6, false), (7, false), (9, false), (10, false)] 4 (by kernel_rfl) ?_
    repeat (first | ((apply HQ.move); (iterate 3 exact rfl)) | (apply HQ.pass; (iterate 2 exact rfl)))
    refine HQ.more rfl ?_
    refine HB.ev1 (i := 8) (by kernel_rfl) rfl ?_
    repeat (first | (apply H.nil) | (apply H.pass; (iterate 2 exact rfl)))
    refine H.on0 rfl ?_
    refine HB.ev1 (i := 11) (by kernel_rfl) rfl ?_
    repeat (first | (apply H.nil) | (apply H.pass; (iterate 2 exact rfl)))
    refine H.on0 rfl ?_
    refine HB.quiet [(12, false), (13, false)] 0 (by kernel_rfl) ?_
    repeat (first | ((apply HQ.assign); (iterate 3 exact rfl)) | ((apply HQ.pickF); (iterate 4 exact rfl)))
    refine HQ.more rfl ?_
    refine HB.done (by kernel_rfl) ?_
    repeat (first | (apply H.then_normal) | (apply H.ret))
    refine H.drop (x := row mb _ _) (by repeat (first | exact .here _ _ | apply Pull.there)) ?_
    exact H.ret1 rfl rfl (fun _ h => h) ⟨rfl, rfl, rfl⟩
end
end Go.Proofs.YtcaofnfemogleaaGreatDoor

/- Layer 8: the program's message of bytes: its first part. -/
namespace Go.Proofs.YtcaofnfemogleaaGreatDoor
set_option linter.unusedSectionVars false
set_option linter.unusedSimpArgs false
set_option linter.unusedVariables false
open Go
def setD (d : Nat → Int) (k : Nat) (v : Int) : Nat → Int := fun j => if j = k then v else d j
theorem v11_set (d : Nat → Int) (v : Int) {k : Nat} (h : k < 11) : SetV (v11 d) k (.int .u64 v) (v11 (setD d k v)) := by
  match k, h with
  | 0, _ => exact .here _ _ _
  | 1, _ => exact .there _ (.here _ _ _)
  | 2, _ => exact .there _ (.there _ (.here _ _ _))
  | 3, _ => exact .there _ (.there _ (.there _ (.here _ _ _)))
  | 4, _ => exact .there _ (.there _ (.there _ (.there _ (.here _ _ _))))
  | 5, _ => exact .there _ (.there _ (.there _ (.there _ (.there _ (.here _ _ _)))))
  | 6, _ => exact .there _ (.there _ (.there _ (.there _ (.there _ (.there _ (.here _ _ _))))))
  | 7, _ => exact .there _ (.there _ (.there _ (.there _ (.there _ (.there _ (.there _ (.here _ _ _)))))))
  | 8, _ => exact .there _ (.there _ (.there _ (.there _ (.there _ (.there _ (.there _ (.there _ (.here _ _ _))))))))
  | 9, _ => exact .there _ (.there _ (.there _ (.there _ (.there _ (.there _ (.there _ (.there _ (.there _ (.here _ _ _)))))))))
  | 10, _ => exact .there _ (.there _ (.there _ (.there _ (.there _ (.there _ (.there _ (.there _ (.there _ (.there _ (.here _ _ _))))))))))
theorem msg_setdep (m : Msg) (q : Option Addr) (qc : Nat) (v : Int) {k : Nat} (h : k < 11) : SetV (m.vals q qc) (2 + k) (.int .u64 v) (({ m with deps := setD m.deps k v } : Msg).vals q qc) := by
  have h1 := SetV.mid (v11_set m.deps v h) [.int .i64 m.origin, .int .u64 m.number] (m.body.vals q qc ++ b32 m.tag)
  have e : ∀ d : Nat → Int, ({ m with deps := d } : Msg).vals q qc = [.int .i64 m.origin, .int .u64 m.number] ++ v11 d ++ (m.body.vals q qc ++ b32 m.tag) := fun d => by unfold Msg.vals; simp only [List.append_assoc]
  have e0 := e m.deps
  have e1 := e (setD m.deps k v)
  rw [e1]
  have e2 : m.vals q qc = ({ m with deps := m.deps } : Msg).vals q qc := rfl
  rw [e2, e0]
  exact h1
/-- The next ones as a vector. -/
def Cs.deps (s : Cs) : Nat → (Nat → Int) × Cs
  | 0 => (fun _ => 0, s)
  | k + 1 => (setD (s.deps k).1 k ((s.deps k).2.num 8 : Nat), (s.deps k).2.skip 8)
theorem Cs.deps_len (s : Cs) : ∀ k, (s.deps k).2.l.length ≤ s.l.length
  | 0 => Nat.le_refl _
  | k + 1 => by
    have h1 := s.deps_len k
    have h2 := (s.deps k).2.skip_len 8
    show ((s.deps k).2.skip 8).l.length ≤ _
    omega
section
variable (f : Frag) (F : List HP)
theorem bequal_fn {p r : Option Addr} {c d : Nat} {a b : List UInt8} (ha : Src Tryz.prog f F (.slice p a.length c) 1 a.length (bytesV a)) (hb : Src Tryz.prog f F (.slice r b.length d) 1 b.length (bytesV b)) (hpa : p = none → a = []) (hrb : r = none → b = []) :
    Fn Tryz.prog 34 [.slice p a.length c, .slice r b.length d] f F (Ret (.bool (decide (a = b))) f F) := by
  have e2 : ((⟨a.toArray⟩ : ByteArray).toList == (⟨b.toArray⟩ : ByteArray).toList) = decide (a = b) := by
    rw [ByteArray.toList_eq, ByteArray.toList_eq, Bool.eq_iff_iff, beq_iff_eq, decide_eq_true_eq]
  refine Fn.enter Tryz.func34 rfl Tryz.ntmps34 rfl (L := [(0, _), (1, _)]) ⟨rfl, rfl, trivial⟩ fun base => ?_
  repeat (first | ((first | apply H.move | apply H.assign); (iterate 3 exact rfl)) | (first | apply H.seq | apply H.region | apply H.nil | apply H.then_normal))
  refine H.convBS rfl rfl ha hpa rfl ?_
  repeat (((apply H.move); (iterate 3 exact rfl)))
  refine H.convBS rfl rfl hb hrb rfl ?_
  refine H.streq rfl rfl rfl rfl e2 rfl ?_
  repeat (first | ((apply H.assign); (iterate 3 exact rfl)) | (first | apply H.nil | apply H.then_normal) | (apply H.ret))
  exact H.ret1 rfl rfl (fun _ h => h) ⟨rfl, rfl, rfl⟩
theorem left_cs {cb : Nat} {s : Cs} : Fn Tryz.prog 33 [.pointer (some ⟨cb, 0, none⟩)] f (cutC f cb s :: F) (Ret (.int .i64 (s.l.length : Nat)) f (cutC f cb s :: F)) := by
  unfold cutC
  refine cutH_open fun p c hb hc => ?_
  refine Fn.enter Tryz.func33 rfl Tryz.ntmps33 rfl (L := [(0, _)]) ⟨rfl, trivial⟩ fun base => ?_
  repeat (first | ((first | apply H.move | apply H.assign | apply H.nilCheck | apply H.len_slice); (iterate 3 exact rfl)) | (apply H.fieldAddr; (iterate 3 exact rfl); exact inferInstance; exact rfl) | (apply H.load1; (iterate 3 exact rfl); apply Rd1.ofRow; (repeat (exact .here _ _ _)); (iterate 2 exact rfl)) | (first | apply H.seq | apply H.region | apply H.nil | apply H.then_normal) | ((apply H.ptrNil); (iterate 5 exact rfl)) | (apply H.cond_false; exact rfl) | (first | apply H.skip | apply H.ret))
  exact H.ret1 rfl rfl (cutH_fold hb hc) ⟨rfl, rfl, rfl⟩
end
end Go.Proofs.YtcaofnfemogleaaGreatDoor

/- Layer 8, plain: what is got lies in its types. No program in sight. -/
namespace Go.Proofs.YtcaofnfemogleaaGreatDoor
set_option linter.unusedSectionVars false
set_option linter.unusedSimpArgs false
set_option linter.unusedVariables false
open Go
theorem Cs.num8_ok (s : Cs) : 0 ≤ ((s.num 8 : Nat) : Int) ∧ ((s.num 8 : Nat) : Int) ≤ 18446744073709551615 := by
  have := s.num8_lt
  omega
theorem zero_ok : (0 : Int) ≤ 0 ∧ (0 : Int) ≤ 18446744073709551615 := by decide
theorem bodyK_ok (s : Cs) (k8 : UInt8) (kind : Nat) : (s.bodyK 32 128 k8 kind).1.Ok := by
  match kind with
  | 0 => exact ⟨zero_ok, zero_ok, zero_ok, zero_ok⟩
  | 1 => exact ⟨s.num8_ok, zero_ok, Cs.num8_ok _, Cs.num8_ok _⟩
  | 2 => exact ⟨s.num8_ok, Cs.num8_ok _, zero_ok, zero_ok⟩
  | 3 => exact ⟨s.num8_ok, zero_ok, zero_ok, zero_ok⟩
  | 4 => exact ⟨s.num8_ok, zero_ok, zero_ok, zero_ok⟩
  | 5 => exact ⟨s.num8_ok, zero_ok, zero_ok, zero_ok⟩
  | 6 => exact ⟨zero_ok, s.num8_ok, zero_ok, zero_ok⟩
  | k + 7 => exact ⟨zero_ok, zero_ok, zero_ok, zero_ok⟩
theorem pairs_len : ∀ (n : Nat) (s : Cs) (acc : List (Int × Int)), (Cs.pairs n s acc).1.length ≤ acc.length + n
  | 0, _, _ => Nat.le_refl _
  | n + 1, s, acc => by
    unfold Cs.pairs
    split
    · exact Nat.le_add_right _ _
    · have := pairs_len n ((s.skip 1).skip 8) (acc ++ [(((s.num 1 : Nat) : Int), (((s.skip 1).num 8 : Nat) : Int))])
      rw [List.length_append] at this
      have e : [(((s.num 1 : Nat) : Int), (((s.skip 1).num 8 : Nat) : Int))].length = 1 := rfl
      omega
theorem bodyK_q (s : Cs) (k8 : UInt8) (kind : Nat) : (s.bodyK 32 128 k8 kind).1.q.length ≤ 1000 := by
  match kind with
  | 0 => exact Nat.zero_le _
  | 1 => exact Nat.zero_le _
  | 2 => exact Nat.zero_le _
  | 3 => exact Nat.zero_le _
  | 4 =>
    have h1 := pairs_len ((s.skip 8).num 1) ((s.skip 8).skip 1) []
    have h2 := (s.skip 8).num1_lt
    show (Cs.pairs ((s.skip 8).num 1) ((s.skip 8).skip 1) []).1.length ≤ 1000
    have h3 : ([] : List (Int × Int)).length = 0 := rfl
    omega
  | 5 => exact Nat.zero_le _
  | 6 => exact Nat.zero_le _
  | k + 7 => exact Nat.zero_le _
end Go.Proofs.YtcaofnfemogleaaGreatDoor

/- Layer 8: the program's message of bytes, numbers and a tag. -/
namespace Go.Proofs.YtcaofnfemogleaaGreatDoor
set_option linter.unusedSectionVars false
set_option linter.unusedSimpArgs false
set_option linter.unusedVariables false
open Go
/-- What is got behind the first byte. -/
def Cs.headD (b : List UInt8) : Nat → Int := ((⟨b, false⟩ : Cs).skip 1 |>.deps 11).1
def Cs.headS (b : List UInt8) : Cs := ((⟨b, false⟩ : Cs).skip 1 |>.deps 11).2
def kindOf (b : List UInt8) : UInt8 := (Cs.headS b).byte
def bodyOf (b : List UInt8) : Bod × Cs := ((Cs.headS b).skip 1).bodyK 32 128 (kindOf b) (kindOf b).toNat
def orgOf (b : List UInt8) : Int := ((⟨b, false⟩ : Cs).num 1 : Nat)
/-- The message of bytes, a number and a tag, whatever they are. -/
def msgOf (n : Int) (b : List UInt8) (t : Nat → UInt8) : Msg := ⟨orgOf b, n, Cs.headD b, (bodyOf b).1, t⟩
def headM (n : Int) (b : List UInt8) (t : Nat → UInt8) : Msg := ⟨orgOf b, n, Cs.headD b, Bod.zero (kindOf b), t⟩
def msg0 : Msg := ⟨0, 0, fun _ => 0, Bod.zero 0, noTag⟩
theorem Cs.headS_len (b : List UInt8) : (Cs.headS b).l.length ≤ b.length := by
  unfold Cs.headS
  have h1 := Cs.deps_len ((⟨b, false⟩ : Cs).skip 1) 11
  have h2 := (⟨b, false⟩ : Cs).skip_len 1
  have h3 : (⟨b, false⟩ : Cs).l.length = b.length := rfl
  omega
theorem H.slc_none {P : Program} {base : World} {n : Nat} {L : Env} {f : Frag} {A A' : List HP} {K : Kont} {p : Option Addr} {m c sz : Nat} {T : TypeId} {xs : List Value} (h : At A (slc p m c T sz xs) A' (slc p m c T sz xs)) (k : (p = none → m = 0) → H P base n L f A K) : H P base n L f A K := .mk fun a w hf s => by
  obtain ⟨h1, h2, h3⟩ := s.slc_at h
  refine (k ?_).out a w hf s
  intro hp
  rcases h3 with ⟨h0, _⟩ | ⟨b, sp, hb, _⟩
  · exact h0
  · rw [hp] at hb; cases hb
section
variable (f : Frag) (F : List HP)
/-- The first part: up to the kind. -/
def OfEnv (i : Int) (p : Option Addr) (b : List UInt8) (c ob cb mb : Nat) : Env := [(10, .pointer (some ⟨cb, 0, none⟩)), (11, .pointer (some ⟨mb, 0, none⟩)), (0, .int .i64 i), (2, .slice p b.length c), (8, .pointer (some ⟨ob, 0, none⟩)), (9, .int .i64 0)]
def kOk (b : List UInt8) : Bool := decide (1 ≤ (kindOf b).toNat ∧ (kindOf b).toNat ≤ 6)
def ofOk (i n : Int) (b : List UInt8) (t : Nat → UInt8) : Bool := kOk b && (decide (orgOf b = i) && (!(bodyOf b).2.bad && (decide ((bodyOf b).2.l.length = 0) && decide ((msgOf n b t).bytes = b))))
def ofR (i n : Int) (b : List UInt8) (t : Nat → UInt8) : Msg := if ofOk i n b t = true then msgOf n b t else msg0
def ofE (i n : Int) (b : List UInt8) (t : Nat → UInt8) : Int := if ofOk i n b t = true then 0 else 5
def HasC (kind : Nat) : Prop := ∃ f1 f2 f3, Fun Tryz.prog f2 ∧ GetC f2 kind ∧ getKV codecsM (kind : Int) = some (codecV f1 f2 f3)
theorem hasC {kind : Nat} (h : 1 ≤ kind ∧ kind ≤ 6) : HasC kind := by
  match kind, h with
  | 1, _ => exact ⟨_, _, _, inferInstance, get1, rfl⟩
  | 2, _ => exact ⟨_, _, _, inferInstance, get2, rfl⟩
  | 3, _ => exact ⟨_, _, _, inferInstance, get3, rfl⟩
  | 4, _ => exact ⟨_, _, _, inferInstance, get4, rfl⟩
  | 5, _ => exact ⟨_, _, _, inferInstance, get5, rfl⟩
  | 6, _ => exact ⟨_, _, _, inferInstance, get6, rfl⟩
theorem noC {kind : Nat} (h : ¬ (1 ≤ kind ∧ kind ≤ 6)) : getKV codecsM (kind : Int) = none := by
  refine (getKV_none codecsM _).2 ?_
  simp only [codecsM, List.map_cons, List.map_nil, List.mem_cons, List.not_mem_nil, or_false]
  omega
theorem codec_of (kind : Nat) : ∃ cells : List Value, (getKV codecsM (kind : Int)).getD (.agg #[.nilFunc, .nilFunc, .nilFunc]) = .agg cells.toArray ∧ (getKV codecsM (kind : Int)).isSome = decide (1 ≤ kind ∧ kind ≤ 6) ∧ cells.length = 3 ∧ (∀ v ∈ cells, one v = true) ∧
    ((1 ≤ kind ∧ kind ≤ 6) → ∃ f1 f2 f3, Fun Tryz.prog f2 ∧ GetC f2 kind ∧ cells = codecCells f1 f2 f3) := by
  by_cases h : 1 ≤ kind ∧ kind ≤ 6
  · obtain ⟨f1, f2, f3, hf, hg, he⟩ := hasC h
    exact ⟨codecCells f1 f2 f3, by rw [he]; rfl, by rw [he, decide_eq_true h]; rfl, rfl, allOne_mem rfl, fun _ => ⟨f1, f2, f3, hf, hg, rfl⟩⟩
  · exact ⟨[.nilFunc, .nilFunc, .nilFunc], by rw [noC h]; rfl, by rw [noC h, decide_eq_false h]; rfl, rfl, allOne_mem rfl, fun h2 => absurd h2 h⟩
set_option maxHeartbeats 3200000 in
theorem mof_fn {i n : Int} {p : Option Addr} {c : Nat} {b : List UInt8} {t : Nat → UInt8} (hb : BAt f p b) (hpn : p = none → b = []) (hl : b.length ≤ 100000000) :
    Fn Tryz.prog 9 [.int .i64 i, .int .u64 n, .slice p b.length c, .agg (b32 t).toArray] f F (RetE (fun j : Option Addr × Nat => .tuple #[.agg ((ofR i n b t).vals j.1 j.2).toArray, .int .i64 (ofE i n b t)]) f (fun j => qs j.1 j.2 (ofR i n b t).body.q :: F)) := by
  have hn1 := (⟨b, false⟩ : Cs).num1_lt
  have hhl := Cs.headS_len b
  refine Fn.enter Tryz.func9 rfl Tryz.ntmps9 rfl (L := [(0, _), (1, _), (2, _), (3, _)]) ⟨rfl, rfl, rfl, rfl, trivial⟩ fun base => ?_
  repeat ((first | apply H.seq | apply H.region))
  refine H.box (ls := b32 t) rfl rfl rfl rfl fun tb => ?_
  refine H.alloc (ls := msg0.vals none 0) rfl rfl rfl fun ob => ?_
  repeat (first | ((first | apply H.move | apply H.assign); (iterate 3 exact rfl)) | (first | apply H.seq | apply H.region | apply H.nil | apply H.then_normal))
  refine H.call rfl rfl rfl (octNew_fn f _ hb.src hpn (by omega)) fun v f' A' hr => ?_
  obtain ⟨g1, cb, p2, c2, rfl, hg1, hd1, rfl, rfl⟩ := hr
  repeat (first | ((apply H.assign); (iterate 3 exact rfl)) | (first | apply H.seq | apply H.nil | apply H.then_normal))
  refine H.cut (ι := Nat) (fun mb => OfEnv i p b c ob cb mb) (fun _ => un f g1) (fun mb => row mb 36 ((⟨orgOf b, n, fun _ => 0, Bod.zero 0, t⟩ : Msg).vals none 0) :: cutC (un f g1) cb ((⟨b, false⟩ : Cs).skip 1) :: row ob 36 (msg0.vals none 0) :: F) (fun _ => True) _ (fun mb _ => ?_) ?_
  · unfold OfEnv
    repeat (first | ((apply H.move); (iterate 3 exact rfl)) | (first | apply H.seq | apply H.region | apply H.nil | apply H.then_normal) | (apply H.block))
    refine H.loop (ι := Nat) (fun k => [(23, .int .i64 (k : Int)), (10, .pointer (some ⟨cb, 0, none⟩)), (11, .pointer (some ⟨mb, 0, none⟩)), (0, .int .i64 i), (2, .slice p b.length c), (8, .pointer (some ⟨ob, 0, none⟩)), (9, .int .i64 0)]) (fun _ => un f g1)
      (fun k => row mb 36 ((⟨orgOf b, n, (((⟨b, false⟩ : Cs).skip 1).deps k).1, Bod.zero 0, t⟩ : Msg).vals none 0) :: cutC (un f g1) cb (((⟨b, false⟩ : Cs).skip 1).deps k).2 :: row ob 36 (msg0.vals none 0) :: F)
      (fun k => k ≤ 11) (fun k => 11 - k) 0 (Nat.zero_le _) ⟨rfl, rfl, rfl, rfl, rfl, rfl, rfl, trivial⟩ rfl rfl fun k hk => ?_
    have hk : k ≤ 11 := hk
    have hdl := Cs.deps_len ((⟨b, false⟩ : Cs).skip 1) k
    have hsl := (⟨b, false⟩ : Cs).skip_len 1
    have hbl : (⟨b, false⟩ : Cs).l.length = b.length := rfl
    show H _ _ _ _ _ (row mb _ ((⟨orgOf b, n, (((⟨b, false⟩ : Cs).skip 1).deps k).1, Bod.zero 0, t⟩ : Msg).vals none 0) :: cutC _ _ (((⟨b, false⟩ : Cs).skip 1).deps k).2 :: _) _
    by_cases hlt : k < 11
    · have hd1 : (((⟨b, false⟩ : Cs).skip 1).deps (k + 1)).1 = setD (((⟨b, false⟩ : Cs).skip 1).deps k).1 k ((((⟨b, false⟩ : Cs).skip 1).deps k).2.num 8 : Nat) := rfl
      have hd2 : (((⟨b, false⟩ : Cs).skip 1).deps (k + 1)).2 = (((⟨b, false⟩ : Cs).skip 1).deps k).2.skip 8 := rfl
      generalize (((⟨b, false⟩ : Cs).skip 1).deps k).1 = d at hd1 ⊢
      generalize (((⟨b, false⟩ : Cs).skip 1).deps k).2 = s at hd1 hd2 hdl ⊢
      have hset := msg_setdep (⟨orgOf b, n, d, Bod.zero 0, t⟩ : Msg) none 0 (s.num 8 : Nat) hlt
      repeat (first | ((first | apply H.move | apply H.assign); (iterate 3 exact rfl)) | (first | apply H.seq | apply H.region | apply H.nil | apply H.then_normal) | ((apply H.cmp); (iterate 5 exact rfl)) | (first | apply H.skip | apply H.block) | (apply H.cond_yes; exact rfl; (omega)))
      refine H.front (x := cutC _ _ _) (by repeat (first | exact .here _ _ | apply Pull.there)) ?_
      refine H.callR rfl rfl rfl (word_cs _ _ cb s (by omega)) ?_
      repeat ((apply H.fieldAddr; (iterate 3 exact rfl); exact inferInstance; exact rfl))
      refine H.index_array (i := k) rfl rfl rfl rfl hlt rfl ?_
      refine H.store1 (v := .int .u64 (s.num 8 : Nat)) (ls' := (⟨orgOf b, n, setD d k (s.num 8 : Nat), Bod.zero 0, t⟩ : Msg).vals none 0) rfl rfl rfl rfl (by repeat (first | exact .here _ _ _ | apply At.there)) (by rw [Nat.zero_add, Nat.mul_one]; exact hset) ?_
      repeat (first | ((apply H.move); (iterate 3 exact rfl)) | (first | apply H.region | apply H.nil | apply H.then_normal) | ((apply H.ar; (iterate 4 exact rfl)); (with_reducible apply wr_i64_n1; omega); exact rfl) | (apply H.in_normal))
      refine H.front (x := row mb _ _) (by repeat (first | exact .here _ _ | apply Pull.there)) ?_
      exact H.again (k + 1) (by show k + 1 ≤ 11; omega) (by show 11 - (k + 1) < 11 - k; omega) ⟨rfl, rfl, rfl, rfl, rfl, rfl, rfl, trivial⟩ rfl (by rw [hd1, hd2])
    · have hk11 : k = 11 := by omega
      subst hk11
      show H _ _ _ _ _ (row mb _ ((⟨orgOf b, n, Cs.headD b, Bod.zero 0, t⟩ : Msg).vals none 0) :: cutC _ _ (Cs.headS b) :: _) _
      have hkb : ((Cs.headS b).num 1 : Int) = ((kindOf b).toNat : Nat) := (Cs.byte_nat _).symm
      repeat (first | ((apply H.move); (iterate 3 exact rfl)) | (first | apply H.seq | apply H.region | apply H.nil | apply H.then_normal) | ((apply H.cmp); (iterate 5 exact rfl)) | (apply H.cond_false; exact rfl) | (first | apply H.then_exit | apply H.exit | apply H.in_hit | apply H.loop_exit))
      refine H.front (x := cutC _ _ _) (by repeat (first | exact .here _ _ | apply Pull.there)) ?_
      refine H.callR rfl rfl rfl (byte_cs _ _ cb (Cs.headS b) (by omega)) ?_
      rw [hkb]
      repeat (first | (refine H.store1 (v := .int .u8 ((kindOf b).toNat : Nat)) (ls' := (headM n b t).vals none 0) rfl rfl rfl rfl (by repeat (first | exact .here _ _ _ | apply At.there)) (by repeat (first | exact .here _ _ _ | apply SetV.there)) ?_) | (apply H.fieldAddr; (iterate 3 exact rfl); exact inferInstance; exact rfl) | (first | apply H.seq | apply H.nil | apply H.then_normal))
      obtain ⟨cells, hz, hi, hcl, hone, hcase⟩ := codec_of (kindOf b).toNat
      have hi : (getKV codecsM ((kindOf b).toNat : Int)).isSome = kOk b := hi
      refine H.front (x := row mb _ _) (by repeat (first | exact .here _ _ | apply Pull.there)) ?_
      refine H.cut (ι := Nat) (fun vb => (13, .pointer (some ⟨vb, 0, none⟩)) :: (14, .bool (kOk b)) :: OfEnv i p b c ob cb mb) (fun _ => un f g1) (fun vb => row vb 64 cells :: row mb 36 ((headM n b t).vals none 0) :: cutC (un f g1) cb ((Cs.headS b).skip 1) :: row ob 36 (msg0.vals none 0) :: F) (fun _ => True) _ (fun vb _ => ?_) ?_
      · unfold OfEnv
        clear hdl hsl hbl hkb hz hi hlt hk
        by_cases hk : kOk b = true
        · obtain ⟨f1, f2, f3, hf2, hget, rfl⟩ := hcase (of_decide_eq_true hk)
          by_cases ho : orgOf b = i
          · have hsk := (Cs.headS b).skip_len 1
            have hq1 := bodyK_q ((Cs.headS b).skip 1) (kindOf b) (kindOf b).toNat
            have hq2 := bodyK_ok ((Cs.headS b).skip 1) (kindOf b) (kindOf b).toNat
            have hget := hget (un f g1)
            have e1 : row mb 36 ((headM n b t).vals none 0) = bodAt mb 36 ([.int .i64 (orgOf b), .int .u64 n] ++ v11 (Cs.headD b)) (b32 t) (Bod.zero (kindOf b)) none 0 := rfl
            have e2 : ∀ q1 q2, bodAt mb 36 ([.int .i64 (orgOf b), .int .u64 n] ++ v11 (Cs.headD b)) (b32 t) (bodyOf b).1 q1 q2 = row mb 36 ((msgOf n b t).vals q1 q2) := fun _ _ => rfl
            have hget := fun G => hget G cb ((Cs.headS b).skip 1) mb 36 ([.int .i64 (orgOf b), .int .u64 n] ++ v11 (Cs.headD b)) (b32 t) (kindOf b) (by omega)
            have hbo : ((Cs.headS b).skip 1).bodyK 32 128 (kindOf b) (kindOf b).toNat = bodyOf b := rfl
            rw [hbo] at hget hq1 hq2
            have hok : ofOk i n b t = (!(bodyOf b).2.bad && (decide ((bodyOf b).2.l.length = 0) && decide ((msgOf n b t).bytes = b))) := by unfold ofOk; rw [hk, decide_eq_true ho]; rfl
            rw [hk]
            have ho2 : (headM n b t).origin = i := ho
            repeat (first | (refine H.not (b := true) (c := false) rfl rfl rfl rfl ?_) | ((apply H.move); (iterate 3 exact rfl)) | (apply H.fieldAddr; (iterate 3 exact rfl); exact inferInstance; exact rfl) | (apply H.load1; (iterate 3 exact rfl); apply Rd1.ofRow; (repeat (first | exact .here _ _ _ | apply At.there)); (iterate 2 exact rfl)) | (first | apply H.seq | apply H.region | apply H.nil | apply H.then_normal) | ((apply H.cmp); (iterate 5 exact rfl)) | ((apply H.pickF); (iterate 4 exact rfl)) | (apply H.skip) | (apply H.cond_no; exact rfl; (omega)))
            rw [e1]
            refine H.front (x := bodAt _ _ _ _ _ _ _) (by repeat (first | exact .here _ _ | apply Pull.there)) ?_
            refine H.front (x := cutC _ _ _) (by repeat (first | exact .here _ _ | apply Pull.there)) ?_
            refine H.callVE (fs := []) (cs := []) (vs := [.pointer (some ⟨cb, 0, none⟩), .pointer (some ⟨mb, 13, none⟩)]) rfl rfl rfl rfl (hget _) fun i2 => ?_
            rw [e2]
            cases hbad : (bodyOf b).2.bad with
            | true =>
              have hno : ofOk i n b t = false := by rw [hok, hbad]; rfl
              have hR : ofR i n b t = msg0 := by unfold ofR; rw [hno]; rfl
              have hE : ofE i n b t = 5 := by unfold ofE; rw [hno]; rfl
              rw [hR, hE]
              have hokc := fun G => ok_cs (un f g1) G cb (bodyOf b).2
              rw [hbad] at hokc
              clear hno hR hE hk hcase hok hbad
              repeat (first | (refine H.not (b := false) (c := true) rfl rfl rfl rfl ?_) | (refine H.callR rfl rfl rfl (hokc _) ?_) | (refine H.build (t := 36) (out := msg0.vals none 0) rfl rfl rfl (by kernel_rfl) rfl ?_) | ((apply H.move); (iterate 3 exact rfl)) | (first | apply H.seq | apply H.region | apply H.nil | apply H.then_normal) | (apply H.pass; (iterate 2 exact rfl)) | (apply H.pickT; (iterate 4 exact rfl)) | (apply H.cond_true; exact rfl))
              refine H.storeN (ls := msg0.vals none 0) (vs := msg0.vals none 0) (ls' := msg0.vals none 0) rfl rfl rfl (allOne_mem rfl) rfl (splice_all rfl) (by rw [Msg.vals_len]; decide) (by repeat (first | exact .here _ _ _ | apply At.there)) ?_
              repeat (first | ((apply H.assign); (iterate 3 exact rfl)) | (first | apply H.nil | apply H.then_normal) | (first | apply H.ret | apply H.then_ret))
              refine H.drop (x := row vb _ _) (by repeat (first | exact .here _ _ | apply Pull.there)) ?_
              refine H.drop (x := row mb _ _) (by repeat (first | exact .here _ _ | apply Pull.there)) ?_
              refine H.drop (x := cutC _ _ _) (by repeat (first | exact .here _ _ | apply Pull.there)) ?_
              refine H.drop (x := qs _ _ _) (by repeat (first | exact .here _ _ | apply Pull.there)) ?_
              refine H.thaw hg1 hd1 ?_
              refine H.drop (.here _ _) ?_
              refine H.front (x := row ob _ _) (by repeat (first | exact .here _ _ | apply Pull.there)) ?_
              refine H.slc0 92 2 ?_
              exact H.retCT rfl rfl rfl rfl (Rd.ofRow (.there _ (.here _ _ _))) rfl (fun _ s => s.drop (.there _ (.here _ _))) ⟨(none, 0), rfl, rfl, rfl⟩
            | false =>
              have hokc := fun G => ok_cs (un f g1) G cb (bodyOf b).2
              rw [hbad] at hokc
              rw [hbad] at hok
              by_cases h0 : (bodyOf b).2.l.length = 0
              · have hG : (⟨msgOf n b t, i2.1, i2.2⟩ : MV).m = msgOf n b t := rfl
                rw [decide_eq_true h0] at hok
                repeat (first | (refine H.not (b := true) (c := false) rfl rfl rfl rfl ?_) | (refine H.callR rfl rfl rfl (hokc _) ?_) | (refine H.callR rfl rfl rfl (left_cs (un f g1) _) ?_) | ((apply H.move); (iterate 3 exact rfl)) | (first | apply H.seq | apply H.region | apply H.nil | apply H.then_normal) | ((apply H.cmp); (iterate 5 exact rfl)) | ((apply H.pickF); (iterate 4 exact rfl)) | (apply H.gno; (iterate 3 exact rfl); (omega)))
                refine H.freeze (x := qs _ _ _) (by repeat (first | exact .here _ _ | apply Pull.there)) fun g2 hg2 hd2 => ?_
                have hgood : (⟨msgOf n b t, i2.1, i2.2⟩ : MV).Good (un (un f g1) g2) := ⟨qs_qat hg2 hd2, by show (bodyOf b).1.q.length ≤ _; omega, hq2⟩
                have hb2 : BAt (un (un f g1) g2) p b := BAt.mono (Le.un _ g2) (BAt.mono (Le.un f g1) hb)
                have hby := fun G => mbytes_fn (un (un f g1) g2) G hgood
                rw [hG] at hby
                repeat ((refine H.loadN (ls := (msgOf n b t).vals i2.1 i2.2) rfl rfl rfl (Rd.ofRow (by repeat (first | exact .here _ _ _ | apply At.there))) rfl rfl ?_))
                refine H.callE2 rfl rfl rfl (hby _) fun p3 c3 => ?_
                refine H.slc_none (.here _ _ _) fun hp3 => ?_
                have hbq := fun G (h : Src Tryz.prog (un (un f g1) g2) G (.slice p3 (msgOf n b t).bytes.length c3) 1 (msgOf n b t).bytes.length (bytesV (msgOf n b t).bytes)) => bequal_fn (un (un f g1) g2) G (c := c3) (d := c) (a := (msgOf n b t).bytes) (b := b) h hb2.src (fun h => List.eq_nil_of_length_eq_zero (hp3 h)) hpn
                by_cases hEq : (msgOf n b t).bytes = b
                · have hyes : ofOk i n b t = true := by rw [hok, decide_eq_true hEq]; rfl
                  have hR : ofR i n b t = msgOf n b t := by unfold ofR; rw [hyes]; rfl
                  have hE : ofE i n b t = 0 := by unfold ofE; rw [hyes]; rfl
                  rw [hR, hE]
                  generalize hbb : (msgOf n b t).bytes = bb at hbq hp3 hEq ⊢
                  clear hyes hR hE hk hcase hok hbad hby hbb
                  repeat (first | (refine H.callR rfl rfl rfl (hbq _ (Src.slcS (by repeat (first | exact .here _ _ _ | apply At.there)) (by rw [bytesV_len]; exact (Nat.mul_one _).symm))) ?_) | (refine H.not_yes rfl rfl hEq rfl ?_) | ((apply H.move); (iterate 3 exact rfl)) | (first | apply H.seq | apply H.region | apply H.nil | apply H.then_normal) | ((apply H.pickF); (iterate 4 exact rfl)) | (apply H.cond_false; exact rfl) | (apply H.skip))
                  refine H.loadN (ls := (msgOf n b t).vals i2.1 i2.2) rfl rfl rfl (Rd.ofRow (by repeat (first | exact .here _ _ _ | apply At.there))) rfl rfl ?_
                  refine H.storeN (ls := msg0.vals none 0) (vs := (msgOf n b t).vals i2.1 i2.2) (ls' := (msgOf n b t).vals i2.1 i2.2) rfl rfl rfl (allOne_mem rfl) rfl (splice_all rfl) (by rw [Msg.vals_len, Msg.vals_len]; decide) (by repeat (first | exact .here _ _ _ | apply At.there)) ?_
                  repeat (first | ((apply H.assign); (iterate 3 exact rfl)) | (first | apply H.nil | apply H.then_normal) | (apply H.ret))
                  refine H.drop (x := row vb _ _) (by repeat (first | exact .here _ _ | apply Pull.there)) ?_
                  refine H.drop (x := row mb _ _) (by repeat (first | exact .here _ _ | apply Pull.there)) ?_
                  refine H.drop (x := cutC _ _ _) (by repeat (first | exact .here _ _ | apply Pull.there)) ?_
                  refine H.drop (x := slc p3 _ _ _ _ _) (by repeat (first | exact .here _ _ | apply Pull.there)) ?_
                  refine H.thaw hg2 hd2 ?_
                  refine H.thaw hg1 hd1 ?_
                  refine H.drop (.here _ _) ?_
                  refine H.front (x := row ob _ _) (by repeat (first | exact .here _ _ | apply Pull.there)) ?_
                  refine H.front (x := qs _ _ _) (by repeat (first | exact .here _ _ | apply Pull.there)) ?_
                  exact H.retCT rfl rfl rfl rfl (Rd.ofRow (.there _ (.here _ _ _))) rfl (fun _ s => s.drop (.there _ (.here _ _))) ⟨i2, rfl, rfl, rfl⟩
                · have hno : ofOk i n b t = false := by rw [hok, decide_eq_false hEq]; rfl
                  have hR : ofR i n b t = msg0 := by unfold ofR; rw [hno]; rfl
                  have hE : ofE i n b t = 5 := by unfold ofE; rw [hno]; rfl
                  rw [hR, hE]
                  generalize hbb : (msgOf n b t).bytes = bb at hbq hp3 hEq ⊢
                  clear hno hR hE hk hcase hok hbad hby hbb
                  repeat (first | (refine H.callR rfl rfl rfl (hbq _ (Src.slcS (by repeat (first | exact .here _ _ _ | apply At.there)) (by rw [bytesV_len]; exact (Nat.mul_one _).symm))) ?_) | (refine H.not_no rfl rfl hEq rfl ?_) | (refine H.build (t := 36) (out := msg0.vals none 0) rfl rfl rfl (by kernel_rfl) rfl ?_) | ((apply H.move); (iterate 3 exact rfl)) | (first | apply H.seq | apply H.region | apply H.nil | apply H.then_normal) | ((apply H.pickF); (iterate 4 exact rfl)) | (apply H.cond_true; exact rfl))
                  refine H.storeN (ls := msg0.vals none 0) (vs := msg0.vals none 0) (ls' := msg0.vals none 0) rfl rfl rfl (allOne_mem rfl) rfl (splice_all rfl) (by rw [Msg.vals_len]; decide) (by repeat (first | exact .here _ _ _ | apply At.there)) ?_
                  repeat (first | ((apply H.assign); (iterate 3 exact rfl)) | (first | apply H.nil | apply H.then_normal) | (first | apply H.ret | apply H.then_ret))
                  refine H.drop (x := row vb _ _) (by repeat (first | exact .here _ _ | apply Pull.there)) ?_
                  refine H.drop (x := row mb _ _) (by repeat (first | exact .here _ _ | apply Pull.there)) ?_
                  refine H.drop (x := cutC _ _ _) (by repeat (first | exact .here _ _ | apply Pull.there)) ?_
                  refine H.drop (x := slc p3 _ _ _ _ _) (by repeat (first | exact .here _ _ | apply Pull.there)) ?_
                  refine H.thaw hg2 hd2 ?_
                  refine H.drop (.here _ _) ?_
                  refine H.thaw hg1 hd1 ?_
                  refine H.drop (.here _ _) ?_
                  refine H.front (x := row ob _ _) (by repeat (first | exact .here _ _ | apply Pull.there)) ?_
                  refine H.slc0 92 2 ?_
                  exact H.retCT rfl rfl rfl rfl (Rd.ofRow (.there _ (.here _ _ _))) rfl (fun _ s => s.drop (.there _ (.here _ _))) ⟨(none, 0), rfl, rfl, rfl⟩
              · have hno : ofOk i n b t = false := by rw [hok, decide_eq_false h0]; rfl
                have hR : ofR i n b t = msg0 := by unfold ofR; rw [hno]; rfl
                have hE : ofE i n b t = 5 := by unfold ofE; rw [hno]; rfl
                rw [hR, hE]
                clear hno hR hE hk hcase hok hbad
                repeat (first | (refine H.not (b := true) (c := false) rfl rfl rfl rfl ?_) | (refine H.callR rfl rfl rfl (hokc _) ?_) | (refine H.callR rfl rfl rfl (left_cs (un f g1) _) ?_) | (refine H.build (t := 36) (out := msg0.vals none 0) rfl rfl rfl (by kernel_rfl) rfl ?_) | ((apply H.move); (iterate 3 exact rfl)) | (first | apply H.seq | apply H.region | apply H.nil | apply H.then_normal) | ((apply H.cmp); (iterate 5 exact rfl)) | (apply H.pass; (iterate 2 exact rfl)) | (apply H.pickT; (iterate 4 exact rfl)) | ((apply H.pickF); (iterate 4 exact rfl)) | (apply H.cond_true; exact rfl) | (apply H.gyes; (iterate 3 exact rfl); (omega)))
                refine H.storeN (ls := msg0.vals none 0) (vs := msg0.vals none 0) (ls' := msg0.vals none 0) rfl rfl rfl (allOne_mem rfl) rfl (splice_all rfl) (by rw [Msg.vals_len]; decide) (by repeat (first | exact .here _ _ _ | apply At.there)) ?_
                repeat (first | ((apply H.assign); (iterate 3 exact rfl)) | (first | apply H.nil | apply H.then_normal) | (first | apply H.ret | apply H.then_ret))
                refine H.drop (x := row vb _ _) (by repeat (first | exact .here _ _ | apply Pull.there)) ?_
                refine H.drop (x := row mb _ _) (by repeat (first | exact .here _ _ | apply Pull.there)) ?_
                refine H.drop (x := cutC _ _ _) (by repeat (first | exact .here _ _ | apply Pull.there)) ?_
                refine H.drop (x := qs _ _ _) (by repeat (first | exact .here _ _ | apply Pull.there)) ?_
                refine H.thaw hg1 hd1 ?_
                refine H.drop (.here _ _) ?_
                refine H.front (x := row ob _ _) (by repeat (first | exact .here _ _ | apply Pull.there)) ?_
                refine H.slc0 92 2 ?_
                exact H.retCT rfl rfl rfl rfl (Rd.ofRow (.there _ (.here _ _ _))) rfl (fun _ s => s.drop (.there _ (.here _ _))) ⟨(none, 0), rfl, rfl, rfl⟩
          · have hno : ofOk i n b t = false := by unfold ofOk; rw [decide_eq_false ho, Bool.false_and, Bool.and_false]
            have hR : ofR i n b t = msg0 := by unfold ofR; rw [hno]; rfl
            have hE : ofE i n b t = 5 := by unfold ofE; rw [hno]; rfl
            rw [hR, hE, hk]
            have ho2 : ¬ (headM n b t).origin = i := ho
            clear hno hR hE hk hcase
            repeat (first | (refine H.not (b := true) (c := false) rfl rfl rfl rfl ?_) | (refine H.build (t := 36) (out := msg0.vals none 0) rfl rfl rfl (by kernel_rfl) rfl ?_) | ((apply H.move); (iterate 3 exact rfl)) | (apply H.fieldAddr; (iterate 3 exact rfl); exact inferInstance; exact rfl) | (apply H.load1; (iterate 3 exact rfl); apply Rd1.ofRow; (repeat (first | exact .here _ _ _ | apply At.there)); (iterate 2 exact rfl)) | (first | apply H.seq | apply H.region | apply H.nil | apply H.then_normal) | ((apply H.cmp); (iterate 5 exact rfl)) | ((apply H.pickF); (iterate 4 exact rfl)) | (apply H.cond_yes; exact rfl; (assumption)))
            refine H.storeN (ls := msg0.vals none 0) (vs := msg0.vals none 0) (ls' := msg0.vals none 0) rfl rfl rfl (allOne_mem rfl) rfl (splice_all rfl) (by rw [Msg.vals_len]; decide) (by repeat (first | exact .here _ _ _ | apply At.there)) ?_
            repeat (first | ((apply H.assign); (iterate 3 exact rfl)) | (first | apply H.nil | apply H.then_normal) | (first | apply H.ret | apply H.then_ret))
            refine H.drop (x := row vb _ _) (by repeat (first | exact .here _ _ | apply Pull.there)) ?_
            refine H.drop (x := row mb _ _) (by repeat (first | exact .here _ _ | apply Pull.there)) ?_
            refine H.drop (x := cutC _ _ _) (by repeat (first | exact .here _ _ | apply Pull.there)) ?_
            refine H.thaw hg1 hd1 ?_
            refine H.drop (.here _ _) ?_
            refine H.front (x := row ob _ _) (by repeat (first | exact .here _ _ | apply Pull.there)) ?_
            refine H.slc0 92 2 ?_
            exact H.retCT rfl rfl rfl rfl (Rd.ofRow (.there _ (.here _ _ _))) rfl (fun _ s => s.drop (.there _ (.here _ _))) ⟨(none, 0), rfl, rfl, rfl⟩
        · have hno : ofOk i n b t = false := by unfold ofOk; rw [Bool.eq_false_iff.2 hk, Bool.false_and]
          have hR : ofR i n b t = msg0 := by unfold ofR; rw [hno]; rfl
          have hE : ofE i n b t = 5 := by unfold ofE; rw [hno]; rfl
          rw [hR, hE, Bool.eq_false_iff.2 hk]
          clear hno hR hE hk hcase
          repeat (first | (refine H.not (b := false) (c := true) rfl rfl rfl rfl ?_) | (refine H.build (t := 36) (out := msg0.vals none 0) rfl rfl rfl (by kernel_rfl) rfl ?_) | ((apply H.move); (iterate 3 exact rfl)) | (first | apply H.seq | apply H.region | apply H.nil | apply H.then_normal) | (apply H.pass; (iterate 2 exact rfl)) | (apply H.pickT; (iterate 4 exact rfl)) | (apply H.cond_true; exact rfl))
          refine H.storeN (ls := msg0.vals none 0) (vs := msg0.vals none 0) (ls' := msg0.vals none 0) rfl rfl rfl (allOne_mem rfl) rfl (splice_all rfl) (by rw [Msg.vals_len]; decide) (by repeat (first | exact .here _ _ _ | apply At.there)) ?_
          repeat (first | ((apply H.assign); (iterate 3 exact rfl)) | (first | apply H.nil | apply H.then_normal) | (first | apply H.ret | apply H.then_ret))
          refine H.drop (x := row vb _ _) (by repeat (first | exact .here _ _ | apply Pull.there)) ?_
          refine H.drop (x := row mb _ _) (by repeat (first | exact .here _ _ | apply Pull.there)) ?_
          refine H.drop (x := cutC _ _ _) (by repeat (first | exact .here _ _ | apply Pull.there)) ?_
          refine H.thaw hg1 hd1 ?_
          refine H.drop (.here _ _) ?_
          refine H.front (x := row ob _ _) (by repeat (first | exact .here _ _ | apply Pull.there)) ?_
          refine H.slc0 92 2 ?_
          exact H.retCT rfl rfl rfl rfl (Rd.ofRow (.there _ (.here _ _ _))) rfl (fun _ s => s.drop (.there _ (.here _ _))) ⟨(none, 0), rfl, rfl, rfl⟩
      · refine H.drawB (by kernel_rfl) (by decide +kernel) (by first | exact blind_fn | exact blind_seq blind_fn | exact blind_seq (blind_seq blind_fn) | (repeat (first | exact blind_fn | refine blind_seq ?_ | refine blind_block ?_ | refine blind_loop ?_))) (S := [_]) rfl ?_
        refine HB.quiet [(1, false), (2, false), (3, false)] 8 (by kernel_rfl) ?_
        repeat (first | (apply HQ.fieldAddr; (iterate 3 exact rfl); exact inferInstance; exact rfl) | (apply HQ.load1; (iterate 3 exact rfl); apply Rd1.ofRow; (repeat (exact .here _ _ _)); (iterate 2 exact rfl)))
        refine HQ.more rfl ?_
        refine HB.ev2 (i := 0) (j := 8) (by kernel_rfl) rfl rfl ?_ ?_
        · refine H.callE rfl rfl rfl (codecs_fn _ _) fun eb => ?_
          repeat ((apply H.nil))
          refine H.front (.there _ (.here _ _)) ?_
          refine H.on [_] (Le.refl _) rfl ?_
          refine HB.quiet [(4, false), (5, false), (6, false), (7, false)] 3 (by kernel_rfl) ?_
          refine HQ.lookup2 (enc := encU8) (k := ((kindOf b).toNat : Int)) rfl rfl rfl (by repeat (first | exact .here _ _ _ | apply At.there)) rfl hz hi rfl ?_
          repeat (first | ((apply HQ.move); (iterate 3 exact rfl)) | ((apply HQ.extract); (iterate 4 exact rfl)))
          refine HQ.more rfl ?_
          refine HB.ev1 (i := 8) (by kernel_rfl) rfl ?_
          refine H.alloc (ls := [.nilFunc, .nilFunc, .nilFunc]) rfl rfl rfl fun vb => ?_
          repeat ((apply H.nil))
          refine H.front (x := mp _ _ _) (by repeat (first | exact .here _ _ | apply Pull.there)) ?_
          refine H.front (x := row mb _ _) (by repeat (first | exact .here _ _ | apply Pull.there)) ?_
          refine H.on0 rfl ?_
          refine HB.ev1 (i := 9) (by kernel_rfl) rfl ?_
          refine H.storeN (ls := [.nilFunc, .nilFunc, .nilFunc]) (vs := cells) (ls' := cells) rfl rfl rfl hone hcl (splice_all (by rw [hcl]; rfl)) (by rw [hcl]; decide) (by repeat (first | exact .here _ _ _ | apply At.there)) ?_
          repeat ((apply H.nil))
          refine H.on0 rfl ?_
          refine HB.quiet [(10, false)] 0 (by kernel_rfl) ?_
          repeat (((apply HQ.assign); (iterate 3 exact rfl)))
          refine HQ.more rfl ?_
          refine HB.done (by kernel_rfl) ?_
          refine H.drop (x := mp _ _ _) (by repeat (first | exact .here _ _ | apply Pull.there)) ?_
          refine H.front (x := row vb _ _) (by repeat (first | exact .here _ _ | apply Pull.there)) ?_
          exact H.meet vb trivial ⟨rfl, rfl, rfl, rfl, rfl, rfl, rfl, rfl, trivial⟩ rfl rfl
        · refine H.alloc (ls := [.nilFunc, .nilFunc, .nilFunc]) rfl rfl rfl fun vb => ?_
          repeat ((apply H.nil))
          refine H.front (x := row mb _ _) (by repeat (first | exact .here _ _ | apply Pull.there)) ?_
          refine H.on0 rfl ?_
          refine HB.ev1 (i := 0) (by kernel_rfl) rfl ?_
          refine H.callE rfl rfl rfl (codecs_fn _ _) fun eb => ?_
          repeat ((apply H.nil))
          refine H.front (.there _ (.here _ _)) ?_
          refine H.on [_] (Le.refl _) rfl ?_
          refine HB.quiet [(4, false), (5, false), (6, false), (7, false)] 2 (by kernel_rfl) ?_
          refine HQ.lookup2 (enc := encU8) (k := ((kindOf b).toNat : Int)) rfl rfl rfl (by repeat (first | exact .here _ _ _ | apply At.there)) rfl hz hi rfl ?_
          repeat (first | ((apply HQ.move); (iterate 3 exact rfl)) | ((apply HQ.extract); (iterate 4 exact rfl)))
          refine HQ.more rfl ?_
          refine HB.ev1 (i := 9) (by kernel_rfl) rfl ?_
          refine H.storeN (ls := [.nilFunc, .nilFunc, .nilFunc]) (vs := cells) (ls' := cells) rfl rfl rfl hone hcl (splice_all (by rw [hcl]; rfl)) (by rw [hcl]; decide) (by repeat (first | exact .here _ _ _ | apply At.there)) ?_
          repeat ((apply H.nil))
          refine H.on0 rfl ?_
          refine HB.quiet [(10, false)] 0 (by kernel_rfl) ?_
          repeat (((apply HQ.assign); (iterate 3 exact rfl)))
          refine HQ.more rfl ?_
          refine HB.done (by kernel_rfl) ?_
          refine H.drop (x := mp _ _ _) (by repeat (first | exact .here _ _ | apply Pull.there)) ?_
          refine H.front (x := row vb _ _) (by repeat (first | exact .here _ _ | apply Pull.there)) ?_
          exact H.meet vb trivial ⟨rfl, rfl, rfl, rfl, rfl, rfl, rfl, rfl, trivial⟩ rfl rfl
  · refine H.front (x := row tb _ _) (by repeat (first | exact .here _ _ | apply Pull.there)) ?_
    refine H.drawB (by kernel_rfl) (by decide +kernel) (by first | exact blind_fn | exact blind_seq blind_fn | exact blind_seq (blind_seq blind_fn) | (repeat (first | exact blind_fn | refine blind_seq ?_ | refine blind_block ?_ | refine blind_loop ?_))) (S := [_]) rfl ?_
    refine HB.quiet [(0, false), (3, false), (4, false)] 5 (by kernel_rfl) ?_
    repeat (first | (refine HQ.loadN (ls := b32 t) rfl rfl rfl (Rd.ofRow (by repeat (first | exact .here _ _ _ | apply At.there))) rfl rfl ?_) | ((apply HQ.move); (iterate 3 exact rfl)))
    refine HQ.more rfl ?_
    refine HB.ev2 (i := 1) (j := 6) (by kernel_rfl) rfl rfl ?_ ?_
    · refine H.front (x := cutH _ _ _ _) (by repeat (first | exact .here _ _ | apply Pull.there)) ?_
      refine H.callR rfl rfl rfl (byte_cs _ _ cb ⟨b, false⟩ (by show b.length ≤ _; omega)) ?_
      repeat ((apply H.nil))
      refine H.front (x := row tb _ _) (by repeat (first | exact .here _ _ | apply Pull.there)) ?_
      refine H.on0 rfl ?_
      refine HB.quiet [(2, false), (5, false)] 2 (by kernel_rfl) ?_
      repeat (first | (refine HQ.build (t := 36) (out := (⟨orgOf b, n, fun _ => 0, Bod.zero 0, t⟩ : Msg).vals none 0) rfl rfl rfl (by kernel_rfl) rfl ?_) | ((apply HQ.conv_int; (iterate 2 exact rfl)); (with_reducible apply wr_i64; omega); exact rfl))
      refine HQ.more rfl ?_
      refine HB.ev1 (i := 6) (by kernel_rfl) rfl ?_
      refine H.alloc (ls := msg0.vals none 0) rfl rfl rfl fun mb => ?_
      repeat ((apply H.nil))
      refine H.front (x := row tb _ _) (by repeat (first | exact .here _ _ | apply Pull.there)) ?_
      refine H.on0 rfl ?_
      refine HB.ev1 (i := 7) (by kernel_rfl) rfl ?_
      refine H.storeN (ls := msg0.vals none 0) (vs := (⟨orgOf b, n, fun _ => 0, Bod.zero 0, t⟩ : Msg).vals none 0) (ls' := (⟨orgOf b, n, fun _ => 0, Bod.zero 0, t⟩ : Msg).vals none 0) rfl rfl rfl (allOne_mem rfl) rfl rfl (Nat.le_refl 121) (by repeat (first | exact .here _ _ _ | apply At.there)) ?_
      repeat ((apply H.nil))
      refine H.front (x := row tb _ _) (by repeat (first | exact .here _ _ | apply Pull.there)) ?_
      refine H.on0 rfl ?_
      refine HB.done (by kernel_rfl) ?_
      refine H.drop (x := row tb _ _) (by repeat (first | exact .here _ _ | apply Pull.there)) ?_
      refine H.front (x := cutC _ _ _) (by repeat (first | exact .here _ _ | apply Pull.there)) ?_
      refine H.front (x := row mb _ _) (by repeat (first | exact .here _ _ | apply Pull.there)) ?_
      exact H.meet mb trivial ⟨rfl, rfl, rfl, rfl, rfl, rfl, trivial⟩ rfl rfl
    · refine H.alloc (ls := msg0.vals none 0) rfl rfl rfl fun mb => ?_
      repeat ((apply H.nil))
      refine H.front (x := row tb _ _) (by repeat (first | exact .here _ _ | apply Pull.there)) ?_
      refine H.on0 rfl ?_
      refine HB.ev1 (i := 1) (by kernel_rfl) rfl ?_
      refine H.front (x := cutH _ _ _ _) (by repeat (first | exact .here _ _ | apply Pull.there)) ?_
      refine H.callR rfl rfl rfl (byte_cs _ _ cb ⟨b, false⟩ (by show b.length ≤ _; omega)) ?_
      repeat ((apply H.nil))
      refine H.front (x := row tb _ _) (by repeat (first | exact .here _ _ | apply Pull.there)) ?_
      refine H.on0 rfl ?_
      refine HB.quiet [(2, false), (5, false)] 1 (by kernel_rfl) ?_
      repeat (first | (refine HQ.build (t := 36) (out := (⟨orgOf b, n, fun _ => 0, Bod.zero 0, t⟩ : Msg).vals none 0) rfl rfl rfl (by kernel_rfl) rfl ?_) | ((apply HQ.conv_int; (iterate 2 exact rfl)); (with_reducible apply wr_i64; omega); exact rfl))
      refine HQ.more rfl ?_
      refine HB.ev1 (i := 7) (by kernel_rfl) rfl ?_
      refine H.storeN (ls := msg0.vals none 0) (vs := (⟨orgOf b, n, fun _ => 0, Bod.zero 0, t⟩ : Msg).vals none 0) (ls' := (⟨orgOf b, n, fun _ => 0, Bod.zero 0, t⟩ : Msg).vals none 0) rfl rfl rfl (allOne_mem rfl) rfl rfl (Nat.le_refl 121) (by repeat (first | exact .here _ _ _ | apply At.there)) ?_
      repeat ((apply H.nil))
      refine H.front (x := row tb _ _) (by repeat (first | exact .here _ _ | apply Pull.there)) ?_
      refine H.on0 rfl ?_
      refine HB.done (by kernel_rfl) ?_
      refine H.drop (x := row tb _ _) (by repeat (first | exact .here _ _ | apply Pull.there)) ?_
      refine H.front (x := cutC _ _ _) (by repeat (first | exact .here _ _ | apply Pull.there)) ?_
      refine H.front (x := row mb _ _) (by repeat (first | exact .here _ _ | apply Pull.there)) ?_
      exact H.meet mb trivial ⟨rfl, rfl, rfl, rfl, rfl, rfl, trivial⟩ rfl rfl
end
end Go.Proofs.YtcaofnfemogleaaGreatDoor

/- Layer 8: the program's message of all its bytes. -/
namespace Go.Proofs.YtcaofnfemogleaaGreatDoor
set_option linter.unusedSectionVars false
set_option linter.unusedSimpArgs false
set_option linter.unusedVariables false
open Go
def ownOf (b : List UInt8) : List UInt8 := ((⟨b, false⟩ : Cs).skip 8).raw (b.length - 40)
def numOf (b : List UInt8) : Int := ((⟨b, false⟩ : Cs).num 8 : Nat)
def tagOf (b : List UInt8) : Nat → UInt8 := (((⟨b, false⟩ : Cs).skip 8).skip (b.length - 40)).hash
def fstOf (b : List UInt8) : Int := (((ownOf b).getD 0 0).toNat : Nat)
def getR (b : List UInt8) : Msg := if 41 ≤ b.length then ofR (fstOf b) (numOf b) (ownOf b) (tagOf b) else msg0
def getE (b : List UInt8) : Int := if 41 ≤ b.length then ofE (fstOf b) (numOf b) (ownOf b) (tagOf b) else 5
theorem ownOf_len {b : List UInt8} (h : 41 ≤ b.length) : (ownOf b).length = b.length - 40 := by
  have h1 : (⟨b, false⟩ : Cs).ok 8 = true := (Cs.ok_iff _ _).2 ⟨rfl, by show 8 ≤ b.length; omega⟩
  have h2 : (⟨b, false⟩ : Cs).skip 8 = ⟨b.drop 8, false⟩ := by unfold Cs.skip; rw [if_pos h1]
  have h3 : (⟨b.drop 8, false⟩ : Cs).ok (b.length - 40) = true := (Cs.ok_iff _ _).2 ⟨rfl, by show _ ≤ (b.drop 8).length; rw [List.length_drop]; omega⟩
  unfold ownOf
  rw [h2]
  unfold Cs.raw
  rw [if_pos h3]
  show ((b.drop 8).take _).length = _
  rw [List.length_take, List.length_drop]
  omega
section
variable (f : Frag) (F : List HP)
set_option maxHeartbeats 1600000 in
theorem mget_fn {p : Option Addr} {c : Nat} {b : List UInt8} (hs : ∀ G, Src Tryz.prog f (G ++ F) (.slice p b.length c) 1 b.length (bytesV b)) (hpn : p = none → b = []) (hl : b.length ≤ 100000000) :
    Fn Tryz.prog 7 [.slice p b.length c] f F (RetE (fun j : Option Addr × Nat => .tuple #[.agg ((getR b).vals j.1 j.2).toArray, .int .i64 (getE b)]) f (fun j => qs j.1 j.2 (getR b).body.q :: F)) := by
  by_cases h41 : 41 ≤ b.length
  · have hR : getR b = ofR (fstOf b) (numOf b) (ownOf b) (tagOf b) := by unfold getR; rw [if_pos h41]
    have hE : getE b = ofE (fstOf b) (numOf b) (ownOf b) (tagOf b) := by unfold getE; rw [if_pos h41]
    rw [hR, hE]
    have hol := ownOf_len h41
    have hk1 := (⟨b, false⟩ : Cs).skip_len 8
    have hk2 := ((⟨b, false⟩ : Cs).skip 8).skip_len (b.length - 40)
    have hk0 : (⟨b, false⟩ : Cs).l.length = b.length := rfl
    have hg0 : (bytesV (ownOf b))[0]? = some (.int .u8 (((ownOf b).getD 0 0).toNat : Nat)) := bytesV_get (by omega)
    have hf0 : fstOf b = (((ownOf b).getD 0 0).toNat : Nat) := rfl
    have hu0 := ((ownOf b).getD 0 0).toNat_lt
    refine Fn.enter Tryz.func7 rfl Tryz.ntmps7 rfl (L := [(0, _)]) ⟨rfl, trivial⟩ fun base => ?_
    repeat ((first | apply H.seq | apply H.region))
    refine H.alloc (ls := msg0.vals none 0) rfl rfl rfl fun ob => ?_
    repeat (first | ((first | apply H.move | apply H.assign | apply H.len_slice); (iterate 3 exact rfl)) | (first | apply H.seq | apply H.region | apply H.nil | apply H.then_normal) | ((apply H.cmp); (iterate 5 exact rfl)) | ((apply H.ar; (iterate 4 exact rfl)); (with_reducible apply wr_i64; omega); exact rfl) | (apply H.skip) | (apply H.cond_no; exact rfl; (omega)))
    refine H.call rfl rfl rfl (octNew_fn f _ (hs [_]) hpn (by omega)) fun v f' A' hr => ?_
    obtain ⟨g1, cb, p2, c2, rfl, hg1, hd1, rfl, rfl⟩ := hr
    have e1 : cutH (un f g1) cb b false = cutC (un f g1) cb ⟨b, false⟩ := rfl
    rw [e1]
    repeat (first | ((first | apply H.move | apply H.assign); (iterate 3 exact rfl)) | (first | apply H.seq | apply H.region | apply H.nil | apply H.then_normal))
    refine H.callR rfl rfl rfl (word_cs _ _ cb ⟨b, false⟩ (by omega)) ?_
    repeat (first | ((first | apply H.move | apply H.assign); (iterate 3 exact rfl)) | (first | apply H.seq | apply H.region | apply H.nil | apply H.then_normal) | ((apply H.ar; (iterate 4 exact rfl)); (with_reducible apply wr_i64; omega); exact rfl))
    refine H.know (v := .int .i64 ((b.length : Int) - 32 - 8)) (u := .int .i64 ((b.length - 40 : Nat) : Int)) (d := 20) rfl (congrArg (Value.int .i64) (by omega)) ?_
    refine H.callE2 rfl rfl rfl (raw_cs _ _ cb ((⟨b, false⟩ : Cs).skip 8) (b.length - 40) (by omega)) fun p3 c3 => ?_
    show H _ _ _ ((21, .slice p3 (ownOf b).length c3) :: _) _ (slc p3 (ownOf b).length c3 _ 1 (bytesV (ownOf b)) :: _) _
    refine H.slc_some (.here _ _ _) (by omega) fun kb hp => ?_
    subst hp
    repeat (first | ((apply H.assign); (iterate 3 exact rfl)) | (first | apply H.seq | apply H.nil | apply H.then_normal))
    refine H.drawB (by kernel_rfl) (by decide +kernel) (by first | exact blind_fn | exact blind_seq blind_fn | exact blind_seq (blind_seq blind_fn) | (repeat (first | exact blind_fn | refine blind_seq ?_ | refine blind_block ?_ | refine blind_loop ?_))) (S := [_]) rfl ?_
    refine HB.quiet [(0, false), (1, false), (2, false), (3, false), (4, false), (5, false), (6, false)] 6 (by kernel_rfl) ?_
    repeat (first | (refine HQ.index1 (i := 0) rfl rfl rfl rfl (by omega) rfl ?_) | (refine HQ.load1 rfl rfl rfl (.of (Rd.ofSlc (.here _ _ _) (by omega)) hg0) rfl ?_) | ((apply HQ.move); (iterate 3 exact rfl)) | ((apply HQ.conv_int; (iterate 2 exact rfl)); (with_reducible apply wr_i64; omega); exact rfl))
    refine HQ.more rfl ?_
    refine HB.ev1 (i := 7) (by kernel_rfl) rfl ?_
    refine H.front (x := cutC _ _ _) (by repeat (first | exact .here _ _ | apply Pull.there)) ?_
    refine H.callR rfl rfl rfl (hash_cs _ _ cb (((⟨b, false⟩ : Cs).skip 8).skip (b.length - 40)) (by omega)) ?_
    repeat ((apply H.nil))
    refine H.front (x := slc _ _ _ _ _ _) (by repeat (first | exact .here _ _ | apply Pull.there)) ?_
    refine H.on0 rfl ?_
    refine HB.ev1 (i := 8) (by kernel_rfl) rfl ?_
    refine H.freeze (x := slc _ _ _ _ _ _) (by repeat (first | exact .here _ _ | apply Pull.there)) fun g2 hg2 hd2 => ?_
    refine H.callE rfl rfl rfl (mof_fn (un (un f g1) g2) _ (i := fstOf b) (n := numOf b) (t := tagOf b) (slc_bat _ hg2 hd2) (fun h => by cases h) (by omega)) fun j => ?_
    generalize ofR (fstOf b) (numOf b) (ownOf b) (tagOf b) = r
    generalize ofE (fstOf b) (numOf b) (ownOf b) (tagOf b) = e
    refine H.thaw hg2 hd2 ?_
    repeat ((apply H.nil))
    refine H.on0 rfl ?_
    refine HB.quiet [(9, false), (10, false)] 2 (by kernel_rfl) ?_
    repeat (((apply HQ.extract); (iterate 4 exact rfl)))
    refine HQ.more rfl ?_
    refine HB.ev1 (i := 11) (by kernel_rfl) rfl ?_
    refine H.storeN (ls := msg0.vals none 0) (vs := r.vals j.1 j.2) (ls' := r.vals j.1 j.2) rfl rfl rfl (allOne_mem rfl) rfl (splice_all rfl) (by rw [Msg.vals_len, Msg.vals_len]; decide) (by repeat (first | exact .here _ _ _ | apply At.there)) ?_
    repeat ((apply H.nil))
    refine H.on0 rfl ?_
    refine HB.quiet [(12, false)] 0 (by kernel_rfl) ?_
    repeat (((apply HQ.assign); (iterate 3 exact rfl)))
    refine HQ.more rfl ?_
    refine HB.done (by kernel_rfl) ?_
    repeat (first | (apply H.then_normal) | (apply H.ret))
    refine H.drop (x := slc _ _ _ _ _ _) (by repeat (first | exact .here _ _ | apply Pull.there)) ?_
    refine H.drop (x := cutC _ _ _) (by repeat (first | exact .here _ _ | apply Pull.there)) ?_
    refine H.thaw hg1 hd1 ?_
    refine H.drop (.here _ _) ?_
    refine H.front (x := row ob _ _) (by repeat (first | exact .here _ _ | apply Pull.there)) ?_
    refine H.front (x := qs _ _ _) (by repeat (first | exact .here _ _ | apply Pull.there)) ?_
    exact H.retCT rfl rfl rfl rfl (Rd.ofRow (.there _ (.here _ _ _))) rfl (fun _ s => s.drop (.there _ (.here _ _))) ⟨j, rfl, rfl, rfl⟩
  · have hR : getR b = msg0 := by unfold getR; rw [if_neg h41]
    have hE : getE b = 5 := by unfold getE; rw [if_neg h41]
    rw [hR, hE]
    refine Fn.enter Tryz.func7 rfl Tryz.ntmps7 rfl (L := [(0, _)]) ⟨rfl, trivial⟩ fun base => ?_
    repeat ((first | apply H.seq | apply H.region))
    refine H.alloc (ls := msg0.vals none 0) rfl rfl rfl fun ob => ?_
    repeat (first | (refine H.build (t := 36) (out := msg0.vals none 0) rfl rfl rfl (by kernel_rfl) rfl ?_) | ((first | apply H.move | apply H.assign | apply H.len_slice); (iterate 3 exact rfl)) | (first | apply H.seq | apply H.region | apply H.nil | apply H.then_normal) | ((apply H.cmp); (iterate 5 exact rfl)) | ((apply H.ar; (iterate 4 exact rfl)); (with_reducible apply wr_i64; omega); exact rfl) | (apply H.cond_yes; exact rfl; (omega)))
    refine H.storeN (ls := msg0.vals none 0) (vs := msg0.vals none 0) (ls' := msg0.vals none 0) rfl rfl rfl (allOne_mem rfl) rfl (splice_all rfl) (by rw [Msg.vals_len]; decide) (by repeat (first | exact .here _ _ _ | apply At.there)) ?_
    repeat (first | ((apply H.assign); (iterate 3 exact rfl)) | (first | apply H.nil | apply H.then_normal) | (first | apply H.ret | apply H.then_ret))
    refine H.slc0 92 2 ?_
    exact H.retCT rfl rfl rfl rfl (Rd.ofRow (.there _ (.here _ _ _))) rfl (fun _ s => s.drop (.there _ (.here _ _))) ⟨(none, 0), rfl, rfl, rfl⟩
end
end Go.Proofs.YtcaofnfemogleaaGreatDoor

/- Layer 8: a request's tag: the program and the document. Condition: the table of the standard stands in the fragment. -/
namespace Go.Proofs.YtcaofnfemogleaaGreatDoor
set_option linter.unusedSectionVars false
set_option linter.unusedSimpArgs false
set_option linter.unusedVariables false
open Go
/-- A client's key. -/
def clientW : List UInt8 := [114, 97, 116, 99, 104, 101, 116, 32, 99, 108, 105, 101, 110, 116]
/-- The tag that a request must have. -/
def Req.sig (r : Req) : Nat → UInt8 := Sha.hmac (Sha.word32 clientW r.client) r.bytes
def Req.signed (r : Req) : Req := if r.asked then { r with tag := r.sig } else r
def Req.auth (r : Req) : Bool := decide r.asked && eq32 r.tag r.sig
theorem Req.bytes_max {r : Req} (h : r.asked) : r.bytes.length ≤ 1000 := by
  obtain ⟨_, _, _, _, ⟨h1, h2⟩, h3, h4⟩ := h
  rw [Req.bytes_len]
  omega
theorem Req.vals_len (r : Req) : r.vals.length = 40 := rfl
theorem req_tag {f : Frag} {A A' : List HP} {rb : Nat} {T : TypeId} {r : Req} (h : At A (row rb T r.vals) A' (row rb T r.vals)) : Rd f A rb (0 + 8) (b32 r.tag) := by
  have h1 := Rd.ofRow (f := f) h
  have e : r.vals = [.int .i64 r.client, .int .u64 r.time, .int .u8 (r.kind.toNat : Nat), .string r.key, .string r.val, .string r.old, .string r.to, .int .u64 r.amount] ++ b32 r.tag ++ [] := by unfold Req.vals; rw [List.append_nil]
  rw [e] at h1
  exact h1.sub rfl
theorem splice_rtag (r : Req) (t : Nat → UInt8) : splice r.vals (0 + 8) (b32 t) = ({ r with tag := t } : Req).vals := rfl
section
variable {P : Program} {base : World} {n : Nat} {L : Env} {f : Frag} {A V : List HP} {q : Post} {l rest : List Oper} {d : Nat} {ty : TypeId} {pos : String} {af : Array Edge} {gd : Option (Nat × Bool)}
theorem HQ.fieldN {st : TypeId} {x : Operand} {i m : Nat} {fs : List Field} {nm tg pk : String} {ft : TypeId} {fo bo : Nat} {em : Bool} {xs ls : List Value} {de : TypeDesc} [hu : Und P st (.struct fs.toArray)] (hw : want? l L gd = true)
    (hx : ev? L x = some (.agg xs.toArray)) (hf : nthF fs i = some ⟨nm, ft, fo, em, tg, pk, bo⟩) (he : Und P ft de) (ha : aggD de = true) (hs : Siz P ft m) (hv : (xs.drop fo).take m = ls) (hd : Nat.ble (d + 1) n = true) {lst : Lst} {ti : Nat} {tt : List (Nat × Bool)}
    (k : HQ V ⟨lst.setIfInBounds ti true, tt⟩ P base n ((d, .agg ls.toArray) :: L) f A (.ops l rest q)) : HQ V ⟨lst, (ti, false) :: tt⟩ P base n L f A (.ops l (⟨some d, .field st x i, ty, pos, af, gd⟩ :: rest) q) :=
  HQ.opV hw hd (fun a w hfr _ => by
    rw [nthF_eq] at hf
    have h3 := run_isAgg he w
    have h4 : xs.toArray.extract fo (fo + m) = ls.toArray := by
      rw [List.extract_toArray, ← hv]
      unfold List.extract
      rw [Nat.add_sub_cancel_left]
    simp [execOp, Instr.field, hfr.eval hx, hu.run, hf, asAgg, part, h3, ha, hs.run]
    simpa using h4) k
end
section
variable (f : Frag) (F : List HP)
theorem tclient_fn (htab : TabAt f) {i : Int} (h1 : 1 ≤ i) (h2 : i ≤ 8) : Fn Tryz.prog 81 [.int .i64 i] f F (BytesR (Sha.word32 clientW i) f F) := by
  refine Fn.enter Tryz.func81 rfl Tryz.ntmps81 rfl (L := [(0, _)]) ⟨rfl, trivial⟩ fun base => ?_
  repeat (first | ((first | apply H.move | apply H.assign); (iterate 3 exact rfl)) | (first | apply H.seq | apply H.region | apply H.nil | apply H.then_normal))
  refine H.callE2 rfl rfl rfl (tkey_fn (w := ⟨#[114, 97, 116, 99, 104, 101, 116, 32, 99, 108, 105, 101, 110, 116]⟩) f _ htab h1 h2 (by decide) (by decide)) fun p1 c1 => ?_
  repeat (first | ((apply H.assign); (iterate 3 exact rfl)) | (first | apply H.nil | apply H.then_normal) | (apply H.ret))
  exact H.ret1 rfl rfl (fun _ h => h) ⟨p1, c1, rfl, rfl, rfl⟩
theorem rclient_fn {i : Int} (h1 : 1 ≤ i) (h2 : i ≤ 8) : Fn Tryz.prog 41 [.int .i64 i] f F (BytesR (Sha.word32 clientW i) f F) := by
  refine Fn.enter Tryz.func41 rfl Tryz.ntmps41 rfl (L := [(0, _)]) ⟨rfl, trivial⟩ fun base => ?_
  repeat (first | ((first | apply H.move | apply H.assign); (iterate 3 exact rfl)) | (first | apply H.seq | apply H.region | apply H.nil | apply H.then_normal))
  refine H.callE2 rfl rfl rfl (rkey_fn (w := ⟨#[114, 97, 116, 99, 104, 101, 116, 32, 99, 108, 105, 101, 110, 116]⟩) f _ h1 h2 (by decide) (by decide)) fun p1 c1 => ?_
  repeat (first | ((apply H.assign); (iterate 3 exact rfl)) | (first | apply H.nil | apply H.then_normal) | (apply H.ret))
  exact H.ret1 rfl rfl (fun _ h => h) ⟨p1, c1, rfl, rfl, rfl⟩
theorem sign_fn (htab : TabAt f) {r : Req} (ha : r.asked) : Fn Tryz.prog 43 [.agg r.vals.toArray] f F (Ret (.agg (b32 r.sig).toArray) f F) := by
  have hbl := Req.bytes_max ha
  have hcl := fun G => tclient_fn f G htab ha.1 ha.2.1
  have hrq := fun G p c => request_fn f G (p := p) (c := c) (l := []) r ha (by decide)
  have hk : (Sha.word32 clientW r.client).length = 32 := rfl
  unfold Req.sig
  generalize Sha.word32 clientW r.client = key at hk hcl ⊢
  rw [show ([] : List UInt8) ++ r.bytes = r.bytes from rfl] at hrq
  generalize r.bytes = rb at hbl hrq ⊢
  refine Fn.enter Tryz.func43 rfl Tryz.ntmps43 rfl (L := [(0, _)]) ⟨rfl, trivial⟩ fun base => ?_
  repeat ((first | apply H.seq | apply H.region))
  refine H.box (ls := r.vals) rfl rfl rfl rfl fun qb => ?_
  refine H.alloc (ls := zb 32) rfl rfl rfl fun ob => ?_
  repeat ((first | apply H.seq | apply H.nil | apply H.then_normal))
  refine H.front (.there _ (.here _ _)) ?_
  refine H.drawB (by kernel_rfl) (by decide +kernel) (by first | exact blind_fn | exact blind_seq blind_fn | exact blind_seq (blind_seq blind_fn) | (repeat (first | exact blind_fn | refine blind_seq ?_ | refine blind_block ?_ | refine blind_loop ?_))) (S := [_]) rfl ?_
  refine HB.quiet [(0, false), (1, false), (3, false)] 4 (by kernel_rfl) ?_
  repeat (first | (apply HQ.fieldAddr; (iterate 3 exact rfl); exact inferInstance; exact rfl) | (apply HQ.load1; (iterate 3 exact rfl); apply Rd1.ofRow; (repeat (exact .here _ _ _)); (iterate 2 exact rfl)))
  refine HQ.loadN (ls := r.vals) rfl rfl rfl (Rd.ofRow (.here _ _ _)) rfl rfl ?_
  refine HQ.more rfl ?_
  refine HB.ev1 (i := 2) (by kernel_rfl) rfl ?_
  refine H.callE2 rfl rfl rfl (hcl _) fun p1 c1 => ?_
  repeat ((apply H.nil))
  refine H.front (.there _ (.here _ _)) ?_
  refine H.on0 rfl ?_
  refine HB.ev1 (i := 4) (by kernel_rfl) rfl ?_
  refine H.slc0 5 1 ?_
  refine H.callE2 rfl rfl rfl (hrq _ none 0) fun p2 c2 => ?_
  refine H.slc_cap (.here _ _ _) fun hc2 _ _ => ?_
  repeat ((apply H.nil))
  refine H.front (x := row qb _ _) (by repeat (first | exact .here _ _ | apply Pull.there)) ?_
  refine H.on0 rfl ?_
  refine HB.ev1 (i := 5) (by kernel_rfl) rfl ?_
  refine H.front (x := slc p2 _ _ _ _ _) (by repeat (first | exact .here _ _ | apply Pull.there)) ?_
  refine H.front (x := slc p1 _ _ _ _ _) (by repeat (first | exact .here _ _ | apply Pull.there)) ?_
  refine H.callR rfl rfl rfl (thmac_ss f _ htab (key := key) (b := rb) hc2 (by omega) (by omega)) ?_
  generalize Sha.hmac key rb = t
  refine H.drop (.here _ _) ?_
  refine H.drop (.here _ _) ?_
  repeat ((apply H.nil))
  refine H.on0 rfl ?_
  refine HB.ev1 (i := 6) (by kernel_rfl) rfl ?_
  refine H.storeN (ls := zb 32) (vs := b32 t) (ls' := b32 t) rfl rfl rfl (allOne_mem rfl) rfl rfl (Nat.le_refl 32) (.there _ (.here _ _ _)) ?_
  repeat ((apply H.nil))
  refine H.on0 rfl ?_
  refine HB.done (by kernel_rfl) ?_
  repeat (first | (apply H.then_normal) | (apply H.ret))
  refine H.drop (.here _ _) ?_
  exact H.retD rfl rfl rfl (Rd.ofRow (.here _ _ _)) rfl (fun _ s => s.drop (.here _ _)) ⟨rfl, rfl, rfl⟩
theorem signed_fn (htab : TabAt f) (r : Req) : Fn Tryz.prog 15 [.agg r.vals.toArray] f F (Ret (.agg r.signed.vals.toArray) f F) := by
  have has := fun G => asked_fn f G r
  unfold Req.signed
  by_cases ha : r.asked
  · have hsg := fun G => sign_fn f G htab ha
    rw [if_pos ha]
    rw [decide_eq_true ha] at has
    generalize r.sig = t at hsg ⊢
    refine Fn.enter Tryz.func15 rfl Tryz.ntmps15 rfl (L := [(0, _)]) ⟨rfl, trivial⟩ fun base => ?_
    repeat ((first | apply H.seq | apply H.region))
    refine H.box (ls := r.vals) rfl rfl rfl rfl fun qb => ?_
    refine H.alloc (ls := Req.zero.vals) rfl rfl rfl fun ob => ?_
    repeat ((first | apply H.seq | apply H.region | apply H.nil | apply H.then_normal))
    refine H.loadN (ls := r.vals) rfl rfl rfl (Rd.ofRow (.there _ (.here _ _ _))) rfl rfl ?_
    refine H.callR rfl rfl rfl (has _) ?_
    repeat (first | (first | apply H.region | apply H.nil | apply H.then_normal) | (apply H.cond_true; exact rfl))
    refine H.loadN (ls := r.vals) rfl rfl rfl (Rd.ofRow (.there _ (.here _ _ _))) rfl rfl ?_
    refine H.callR rfl rfl rfl (hsg _) ?_
    repeat ((apply H.fieldAddr; (iterate 3 exact rfl); exact inferInstance; exact rfl))
    refine H.storeN (ls := r.vals) (vs := b32 t) (ls' := ({ r with tag := t } : Req).vals) rfl rfl rfl (allOne_mem rfl) rfl (splice_rtag r t) (by show 0 + 8 + 32 ≤ 40; decide) (.there _ (.here _ _ _)) ?_
    repeat ((first | apply H.seq | apply H.region | apply H.nil | apply H.then_normal))
    refine H.loadN (ls := ({ r with tag := t } : Req).vals) rfl rfl rfl (Rd.ofRow (.there _ (.here _ _ _))) rfl rfl ?_
    refine H.storeN (ls := Req.zero.vals) (vs := ({ r with tag := t } : Req).vals) (ls' := ({ r with tag := t } : Req).vals) rfl rfl rfl (allOne_mem rfl) rfl rfl (Nat.le_refl 40) (.here _ _ _) ?_
    repeat (first | (first | apply H.nil | apply H.then_normal) | (apply H.ret))
    refine H.drop (.there _ (.here _ _)) ?_
    exact H.retD rfl rfl rfl (Rd.ofRow (.here _ _ _)) rfl (fun _ s => s.drop (.here _ _)) ⟨rfl, rfl, rfl⟩
  · rw [if_neg ha]
    rw [decide_eq_false ha] at has
    refine Fn.enter Tryz.func15 rfl Tryz.ntmps15 rfl (L := [(0, _)]) ⟨rfl, trivial⟩ fun base => ?_
    repeat ((first | apply H.seq | apply H.region))
    refine H.box (ls := r.vals) rfl rfl rfl rfl fun qb => ?_
    refine H.alloc (ls := Req.zero.vals) rfl rfl rfl fun ob => ?_
    repeat ((first | apply H.seq | apply H.region | apply H.nil | apply H.then_normal))
    refine H.loadN (ls := r.vals) rfl rfl rfl (Rd.ofRow (.there _ (.here _ _ _))) rfl rfl ?_
    refine H.callR rfl rfl rfl (has _) ?_
    repeat (first | (first | apply H.seq | apply H.region | apply H.nil | apply H.then_normal) | (apply H.cond_false; exact rfl) | (apply H.skip))
    refine H.loadN (ls := r.vals) rfl rfl rfl (Rd.ofRow (.there _ (.here _ _ _))) rfl rfl ?_
    refine H.storeN (ls := Req.zero.vals) (vs := r.vals) (ls' := r.vals) rfl rfl rfl (allOne_mem rfl) rfl rfl (Nat.le_refl 40) (.here _ _ _) ?_
    repeat (first | (first | apply H.nil | apply H.then_normal) | (apply H.ret))
    refine H.drop (.there _ (.here _ _)) ?_
    exact H.retD rfl rfl rfl (Rd.ofRow (.here _ _ _)) rfl (fun _ s => s.drop (.here _ _)) ⟨rfl, rfl, rfl⟩
theorem auth_fn (htab : TabAt f) (r : Req) : Fn Tryz.prog 16 [.agg r.vals.toArray] f F (Ret (.bool r.auth) f F) := by
  have has := fun G => asked_fn f G r
  unfold Req.auth
  by_cases ha : r.asked
  · have hsg := fun G => sign_fn f G htab ha
    have hsm := fun G => tsame_fn f G (a := r.tag) (b := r.sig)
    rw [decide_eq_true ha, Bool.true_and]
    rw [decide_eq_true ha] at has
    generalize eq32 r.tag r.sig = e at hsm ⊢
    generalize r.sig = t at hsg hsm
    refine Fn.enter Tryz.func16 rfl Tryz.ntmps16 rfl (L := [(0, _)]) ⟨rfl, trivial⟩ fun base => ?_
    repeat ((first | apply H.seq | apply H.region))
    refine H.box (ls := r.vals) rfl rfl rfl rfl fun qb => ?_
    repeat (first | ((apply H.assign); (iterate 3 exact rfl)) | (first | apply H.seq | apply H.nil | apply H.then_normal))
    refine H.drawB (by kernel_rfl) (by decide +kernel) (by first | exact blind_fn | exact blind_seq blind_fn | exact blind_seq (blind_seq blind_fn) | (repeat (first | exact blind_fn | refine blind_seq ?_ | refine blind_block ?_ | refine blind_loop ?_))) (S := [_]) rfl ?_
    refine HB.quiet [(0, false)] 9 (by kernel_rfl) ?_
    refine HQ.loadN (ls := r.vals) rfl rfl rfl (Rd.ofRow (.here _ _ _)) rfl rfl ?_
    refine HQ.more rfl ?_
    refine HB.ev1 (i := 1) (by kernel_rfl) rfl ?_
    refine H.callR rfl rfl rfl (has _) ?_
    repeat ((apply H.nil))
    refine H.on0 rfl ?_
    refine HB.quiet [(2, false), (3, false), (4, false), (5, false)] 4 (by kernel_rfl) ?_
    repeat (first | ((apply HQ.move); (iterate 3 exact rfl)) | (apply HQ.fieldAddr; (iterate 3 exact rfl); exact inferInstance; exact rfl))
    refine HQ.loadN (ls := b32 r.tag) rfl rfl rfl (req_tag (.here _ _ _)) rfl rfl ?_
    refine HQ.loadN (ls := r.vals) rfl rfl rfl (Rd.ofRow (.here _ _ _)) rfl rfl ?_
    refine HQ.more rfl ?_
    refine HB.ev1 (i := 6) (by kernel_rfl) rfl ?_
    refine H.callR rfl rfl rfl (hsg _) ?_
    repeat ((apply H.nil))
    refine H.on0 rfl ?_
    refine HB.ev1 (i := 7) (by kernel_rfl) rfl ?_
    refine H.callR rfl rfl rfl (hsm _) ?_
    repeat ((apply H.nil))
    refine H.on0 rfl ?_
    refine HB.quiet [(8, false), (9, false)] 0 (by kernel_rfl) ?_
    repeat (first | ((apply HQ.assign); (iterate 3 exact rfl)) | (apply HQ.pickT; (iterate 4 exact rfl)))
    refine HQ.more rfl ?_
    refine HB.done (by kernel_rfl) ?_
    repeat (first | (apply H.then_normal) | (apply H.ret))
    refine H.drop (.here _ _) ?_
    exact H.ret1 rfl rfl (fun _ h => h) ⟨rfl, rfl, rfl⟩
  · rw [decide_eq_false ha, Bool.false_and]
    rw [decide_eq_false ha] at has
    refine Fn.enter Tryz.func16 rfl Tryz.ntmps16 rfl (L := [(0, _)]) ⟨rfl, trivial⟩ fun base => ?_
    repeat ((first | apply H.seq | apply H.region))
    refine H.box (ls := r.vals) rfl rfl rfl rfl fun qb => ?_
    repeat (first | ((apply H.assign); (iterate 3 exact rfl)) | (first | apply H.seq | apply H.nil | apply H.then_normal))
    refine H.drawB (by kernel_rfl) (by decide +kernel) (by first | exact blind_fn | exact blind_seq blind_fn | exact blind_seq (blind_seq blind_fn) | (repeat (first | exact blind_fn | refine blind_seq ?_ | refine blind_block ?_ | refine blind_loop ?_))) (S := [_]) rfl ?_
    refine HB.quiet [(0, false)] 9 (by kernel_rfl) ?_
    refine HQ.loadN (ls := r.vals) rfl rfl rfl (Rd.ofRow (.here _ _ _)) rfl rfl ?_
    refine HQ.more rfl ?_
    refine HB.ev1 (i := 1) (by kernel_rfl) rfl ?_
    refine H.callR rfl rfl rfl (has _) ?_
    repeat ((apply H.nil))
    refine H.on0 rfl ?_
    refine HB.quiet [(2, false), (3, false), (4, false), (5, false)] 4 (by kernel_rfl) ?_
    repeat (first | ((apply HQ.move); (iterate 3 exact rfl)) | (apply HQ.pass; (iterate 2 exact rfl)))
    refine HQ.more rfl ?_
    refine HB.ev1 (i := 6) (by kernel_rfl) rfl ?_
    repeat (first | (apply H.nil) | (apply H.pass; (iterate 2 exact rfl)))
    refine H.on0 rfl ?_
    refine HB.ev1 (i := 7) (by kernel_rfl) rfl ?_
    repeat (first | (apply H.nil) | (apply H.pass; (iterate 2 exact rfl)))
    refine H.on0 rfl ?_
    refine HB.quiet [(8, false), (9, false)] 0 (by kernel_rfl) ?_
    repeat (first | ((apply HQ.assign); (iterate 3 exact rfl)) | ((apply HQ.pickF); (iterate 4 exact rfl)))
    refine HQ.more rfl ?_
    refine HB.done (by kernel_rfl) ?_
    repeat (first | (apply H.then_normal) | (apply H.ret))
    refine H.drop (.here _ _) ?_
    exact H.ret1 rfl rfl (fun _ h => h) ⟨rfl, rfl, rfl⟩
set_option maxHeartbeats 800000 in
theorem rsigned_fn (r : Req) : Fn Tryz.prog 12 [.agg r.vals.toArray] f F (Ret (.agg r.signed.vals.toArray) f F) := by
  have has := fun G => rasked_fn f G r
  unfold Req.signed
  by_cases ha : r.asked
  · have hbl := Req.bytes_max ha
    have hcl := fun G => rclient_fn f G ha.1 ha.2.1
    have hrq := fun G p c => rrequest_fn f G (p := p) (c := c) (l := []) r ha (by decide)
    have hk : (Sha.word32 clientW r.client).length = 32 := rfl
    rw [if_pos ha]
    rw [decide_eq_true ha] at has
    unfold Req.sig
    generalize Sha.word32 clientW r.client = key at hk hcl ⊢
    rw [show ([] : List UInt8) ++ r.bytes = r.bytes from rfl] at hrq
    generalize r.bytes = rb at hbl hrq ⊢
    refine Fn.enter Tryz.func12 rfl Tryz.ntmps12 rfl (L := [(0, _)]) ⟨rfl, trivial⟩ fun base => ?_
    repeat ((first | apply H.seq | apply H.region))
    refine H.box (ls := r.vals) rfl rfl rfl rfl fun qb => ?_
    refine H.alloc (ls := Req.zero.vals) rfl rfl rfl fun ob => ?_
    repeat ((first | apply H.seq | apply H.region | apply H.nil | apply H.then_normal))
    refine H.loadN (ls := r.vals) rfl rfl rfl (Rd.ofRow (.there _ (.here _ _ _))) rfl rfl ?_
    refine H.callR rfl rfl rfl (has _) ?_
    repeat (first | (first | apply H.nil | apply H.then_normal) | (apply H.cond_true; exact rfl))
    refine H.front (.there _ (.here _ _)) ?_
    refine H.drawC [0, 1, 2, 3, 4, 5] (by kernel_rfl) (by decide +kernel) (by first | exact blind_fn | exact blind_seq blind_fn | exact blind_seq (blind_seq blind_fn) | (repeat (first | exact blind_fn | refine blind_seq ?_ | refine blind_block ?_ | refine blind_loop ?_))) (S := [_]) rfl ?_
    refine HB.quiet [(0, false), (1, false), (3, false)] 5 (by kernel_rfl) ?_
    repeat (first | (apply HQ.fieldAddr; (iterate 3 exact rfl); exact inferInstance; exact rfl) | (apply HQ.load1; (iterate 3 exact rfl); apply Rd1.ofRow; (repeat (exact .here _ _ _)); (iterate 2 exact rfl)))
    refine HQ.loadN (ls := r.vals) rfl rfl rfl (Rd.ofRow (.here _ _ _)) rfl rfl ?_
    refine HQ.more rfl ?_
    refine HB.ev1 (i := 2) (by kernel_rfl) rfl ?_
    refine H.callE2 rfl rfl rfl (hcl _) fun p1 c1 => ?_
    repeat ((apply H.nil))
    refine H.front (.there _ (.here _ _)) ?_
    refine H.on0 rfl ?_
    refine HB.ev1 (i := 4) (by kernel_rfl) rfl ?_
    refine H.slc0 5 1 ?_
    refine H.callE2 rfl rfl rfl (hrq _ none 0) fun p2 c2 => ?_
    repeat ((apply H.nil))
    refine H.front (x := row qb _ _) (by repeat (first | exact .here _ _ | apply Pull.there)) ?_
    refine H.on0 rfl ?_
    refine HB.ev1 (i := 5) (by kernel_rfl) rfl ?_
    refine H.callR rfl rfl rfl (hmac_fn f _ (key := key) (b := rb) (fun G => Src.append (Src.slcS (by repeat (first | exact .here _ _ _ | apply At.there)) (by rw [bytesV_len]; exact (Nat.mul_one _).symm))) (fun G => Src.append (Src.slcS (by repeat (first | exact .here _ _ _ | apply At.there)) (by rw [bytesV_len]; exact (Nat.mul_one _).symm))) (by omega) (by omega)) ?_
    generalize Sha.hmac key rb = t
    repeat ((apply H.nil))
    refine H.on0 rfl ?_
    refine HB.next [] (by kernel_rfl) (S' := []) rfl ?_
    refine HB.quiet [(6, false)] 1 (by kernel_rfl) ?_
    repeat ((apply HQ.fieldAddr; (iterate 3 exact rfl); exact inferInstance; exact rfl))
    refine HQ.more rfl ?_
    refine HB.ev1 (i := 7) (by kernel_rfl) rfl ?_
    refine H.storeN (ls := r.vals) (vs := b32 t) (ls' := ({ r with tag := t } : Req).vals) rfl rfl rfl (allOne_mem rfl) rfl (splice_rtag r t) (by show 0 + 8 + 32 ≤ 40; decide) (.here _ _ _) ?_
    repeat ((apply H.nil))
    refine H.on0 rfl ?_
    refine HB.done (by kernel_rfl) ?_
    repeat ((first | apply H.seq | apply H.region | apply H.then_normal))
    refine H.loadN (ls := ({ r with tag := t } : Req).vals) rfl rfl rfl (Rd.ofRow (.here _ _ _)) rfl rfl ?_
    refine H.storeN (ls := Req.zero.vals) (vs := ({ r with tag := t } : Req).vals) (ls' := ({ r with tag := t } : Req).vals) rfl rfl rfl (allOne_mem rfl) rfl rfl (Nat.le_refl 40) (by repeat (first | exact .here _ _ _ | apply At.there)) ?_
    repeat (first | (first | apply H.nil | apply H.then_normal) | (apply H.ret))
    refine H.drop (.here _ _) ?_
    refine H.drop (.here _ _) ?_
    refine H.drop (.here _ _) ?_
    exact H.retD rfl rfl rfl (Rd.ofRow (.here _ _ _)) rfl (fun _ s => s.drop (.here _ _)) ⟨rfl, rfl, rfl⟩
  · rw [if_neg ha]
    rw [decide_eq_false ha] at has
    refine Fn.enter Tryz.func12 rfl Tryz.ntmps12 rfl (L := [(0, _)]) ⟨rfl, trivial⟩ fun base => ?_
    repeat ((first | apply H.seq | apply H.region))
    refine H.box (ls := r.vals) rfl rfl rfl rfl fun qb => ?_
    refine H.alloc (ls := Req.zero.vals) rfl rfl rfl fun ob => ?_
    repeat ((first | apply H.seq | apply H.region | apply H.nil | apply H.then_normal))
    refine H.loadN (ls := r.vals) rfl rfl rfl (Rd.ofRow (.there _ (.here _ _ _))) rfl rfl ?_
    refine H.callR rfl rfl rfl (has _) ?_
    repeat (first | (first | apply H.seq | apply H.region | apply H.nil | apply H.then_normal) | (apply H.cond_false; exact rfl) | (apply H.skip))
    refine H.loadN (ls := r.vals) rfl rfl rfl (Rd.ofRow (.there _ (.here _ _ _))) rfl rfl ?_
    refine H.storeN (ls := Req.zero.vals) (vs := r.vals) (ls' := r.vals) rfl rfl rfl (allOne_mem rfl) rfl rfl (Nat.le_refl 40) (.here _ _ _) ?_
    repeat (first | (first | apply H.nil | apply H.then_normal) | (apply H.ret))
    refine H.drop (.there _ (.here _ _)) ?_
    exact H.retD rfl rfl rfl (Rd.ofRow (.here _ _ _)) rfl (fun _ s => s.drop (.here _ _)) ⟨rfl, rfl, rfl⟩
end
end Go.Proofs.YtcaofnfemogleaaGreatDoor

/- Layer 8: the document's Same of messages; the law's example. Condition: the table of the standard stands in the fragment. -/
namespace Go.Proofs.YtcaofnfemogleaaGreatDoor
set_option linter.unusedSectionVars false
set_option linter.unusedSimpArgs false
set_option linter.unusedVariables false
open Go
/-- The same messages? -/
def Msg.eqB (a b : Msg) : Bool := decide (a.origin = b.origin) && (decide (a.number = b.number) && (eqC (v11 a.deps) (v11 b.deps) && (Bod.eqB a.body b.body && eqC (b32 a.tag) (b32 b.tag))))
theorem eqv_refl (v : Value) (h : (match v with | .bool _ | .int _ _ | .string _ => true | _ => false) = true) : eqv v v = true := by
  cases v <;> simp at h <;> simp [eqv]
  rename_i s
  rw [beq_toListBytes]
  simp
def plainC : List Value → Bool
  | [] => true
  | v :: r => (match v with | .bool _ | .int _ _ | .string _ => true | _ => false) && plainC r
theorem eqC_refl : ∀ {l : List Value}, plainC l = true → eqC l l = true
  | [], _ => rfl
  | v :: r, h => by
    simp only [plainC, Bool.and_eq_true] at h
    simp only [eqC, eqv_refl v h.1, eqC_refl h.2, Bool.and_true]
theorem Bod.eqB_refl (x : Bod) : Bod.eqB x x = true := by
  unfold Bod.eqB
  rw [eqC_refl (l := x.req.vals) rfl, eqC_refl (l := b32 x.dig) rfl]
  simp
theorem Msg.eqB_refl (m : Msg) : Msg.eqB m m = true := by
  unfold Msg.eqB
  rw [eqC_refl (l := v11 m.deps) rfl, eqC_refl (l := b32 m.tag) rfl, Bod.eqB_refl]
  simp
theorem eq32_refl (t : Nat → UInt8) : eq32 t t = true := eqC_refl (l := b32 t) rfl
def m8 : Msg := ⟨2, 1, fun _ => 0, { Bod.zero 2 with k := 1 }, noTag⟩
theorem m8_may : m8.may = true := by decide +kernel
theorem m8_len : m8.putB.length = 146 := by decide +kernel
theorem m8_get : getE m8.putB = 0 := by decide +kernel
theorem m8_same : Msg.eqB (getR m8.putB) m8 = true := by decide +kernel
theorem m8_wrong : m8.right = false := by decide +kernel
theorem m8_signed : m8.signed = { m8 with tag := Sha.numbered m8.origin m8.number m8.tagged } := by unfold Msg.signed; rw [if_pos m8_may]
theorem m8_right : m8.signed.right = true := by
  rw [m8_signed]
  have h2 : ∀ u, ({ m8 with tag := u } : Msg).right = (m8.may && eq32 u (Sha.numbered m8.origin m8.number m8.tagged)) := fun _ => rfl
  rw [h2, m8_may, eq32_refl]
  rfl
theorem m8_ok : m8.body.Ok := by
  refine ⟨?_, ?_, ?_, ?_⟩ <;> decide
theorem getR_ok (b : List UInt8) : (getR b).body.Ok ∧ (getR b).body.q.length ≤ 1000 := by
  unfold getR
  split
  · unfold ofR
    split
    · exact ⟨bodyK_ok _ _ _, bodyK_q _ _ _⟩
    · exact ⟨⟨zero_ok, zero_ok, zero_ok, zero_ok⟩, Nat.zero_le _⟩
  · exact ⟨⟨zero_ok, zero_ok, zero_ok, zero_ok⟩, Nat.zero_le _⟩
theorem getR_nil : getR [] = msg0 := rfl
theorem getE_nil : getE [] = 5 := rfl
section
variable (f : Frag) (F : List HP)
theorem rsameM_fn {x y : MV} (hx : x.Good f) (hy : y.Good f) : Fn Tryz.prog 11 [.agg x.vals.toArray, .agg y.vals.toArray] f F (Ret (.bool (Msg.eqB x.m y.m)) f F) := by
  by_cases h1 : x.m.origin = y.m.origin
  · skip
    by_cases h2 : x.m.number = y.m.number
    · skip
      by_cases h3 : eqC (v11 x.m.deps) (v11 y.m.deps) = true
      · skip
        by_cases h4 : Bod.eqB x.m.body y.m.body = true
        · skip
          try simp only [Bool.not_eq_true] at *
          refine Fn.enter Tryz.func11 rfl Tryz.ntmps11 rfl (L := [(0, _), (1, _)]) ⟨rfl, rfl, trivial⟩ fun base => ?_
          repeat (first | ((first | apply H.move | apply H.assign); (iterate 3 exact rfl)) | (apply H.fieldAddr; (iterate 3 exact rfl); exact inferInstance; exact rfl) | (apply H.load1; (iterate 3 exact rfl); apply Rd1.ofRow; (repeat (first | exact .here _ _ _ | apply At.there)); (iterate 2 exact rfl)) | (first | apply H.seq | apply H.region | apply H.nil | apply H.then_normal) | ((apply H.cmp); (iterate 5 exact rfl)) | (apply H.pickT; (iterate 4 exact rfl)) | (apply H.ret) | (apply H.gyes; (iterate 3 exact rfl); (assumption)) | ((apply H.gtrue); (iterate 3 exact rfl); assumption) | (refine H.box (ls := x.vals) rfl rfl rfl rfl fun ab => ?_) | (refine H.box (ls := y.vals) rfl rfl rfl rfl fun bb => ?_) | (refine H.loadN (ls := v11 x.m.deps) rfl rfl rfl (msg_deps (by repeat (first | exact .here _ _ _ | apply At.there))) rfl rfl ?_) | (refine H.loadN (ls := v11 y.m.deps) rfl rfl rfl (msg_deps (by repeat (first | exact .here _ _ _ | apply At.there))) rfl rfl ?_) | (refine H.aggEq (xs := v11 x.m.deps) (ys := v11 y.m.deps) (D := 4) rfl rfl rfl rfl (by kernel_rfl) (by kernel_rfl) (by kernel_rfl) (by kernel_rfl) (by decide) rfl rfl ?_) | (refine H.loadN (ls := x.m.body.vals x.qp x.qc) rfl rfl rfl (msg_body (by repeat (first | exact .here _ _ _ | apply At.there))) rfl rfl ?_) | (refine H.loadN (ls := y.m.body.vals y.qp y.qc) rfl rfl rfl (msg_body (by repeat (first | exact .here _ _ _ | apply At.there))) rfl rfl ?_) | (refine H.callR rfl rfl rfl (rsame_fn f _ hx.1 hy.1 (by have := hx.2.1; omega)) ?_) | (refine H.loadN (ls := b32 x.m.tag) rfl rfl rfl (msg_tag (by repeat (first | exact .here _ _ _ | apply At.there))) rfl rfl ?_) | (refine H.loadN (ls := b32 y.m.tag) rfl rfl rfl (msg_tag (by repeat (first | exact .here _ _ _ | apply At.there))) rfl rfl ?_) | (refine H.aggEq (xs := b32 x.m.tag) (ys := b32 y.m.tag) (D := 4) rfl rfl rfl rfl (by kernel_rfl) (by kernel_rfl) (by kernel_rfl) (by kernel_rfl) (by decide) rfl rfl ?_))
          refine H.drop (.here _ _) ?_
          refine H.drop (.here _ _) ?_
          refine H.ret1 rfl rfl (fun _ h => h) ⟨?_, rfl, rfl⟩
          simp [Msg.eqB, *]
        · skip
          try simp only [Bool.not_eq_true] at *
          refine Fn.enter Tryz.func11 rfl Tryz.ntmps11 rfl (L := [(0, _), (1, _)]) ⟨rfl, rfl, trivial⟩ fun base => ?_
          repeat (first | ((first | apply H.move | apply H.assign); (iterate 3 exact rfl)) | (apply H.fieldAddr; (iterate 3 exact rfl); exact inferInstance; exact rfl) | (apply H.load1; (iterate 3 exact rfl); apply Rd1.ofRow; (repeat (first | exact .here _ _ _ | apply At.there)); (iterate 2 exact rfl)) | (first | apply H.seq | apply H.region | apply H.nil | apply H.then_normal) | ((apply H.cmp); (iterate 5 exact rfl)) | (apply H.pass; (iterate 2 exact rfl)) | (apply H.pickT; (iterate 4 exact rfl)) | ((apply H.pickF); (iterate 4 exact rfl)) | (apply H.ret) | (apply H.gyes; (iterate 3 exact rfl); (assumption)) | ((apply H.gtrue); (iterate 3 exact rfl); assumption) | (apply H.gfalse; (iterate 3 exact rfl); assumption) | (refine H.box (ls := x.vals) rfl rfl rfl rfl fun ab => ?_) | (refine H.box (ls := y.vals) rfl rfl rfl rfl fun bb => ?_) | (refine H.loadN (ls := v11 x.m.deps) rfl rfl rfl (msg_deps (by repeat (first | exact .here _ _ _ | apply At.there))) rfl rfl ?_) | (refine H.loadN (ls := v11 y.m.deps) rfl rfl rfl (msg_deps (by repeat (first | exact .here _ _ _ | apply At.there))) rfl rfl ?_) | (refine H.aggEq (xs := v11 x.m.deps) (ys := v11 y.m.deps) (D := 4) rfl rfl rfl rfl (by kernel_rfl) (by kernel_rfl) (by kernel_rfl) (by kernel_rfl) (by decide) rfl rfl ?_) | (refine H.loadN (ls := x.m.body.vals x.qp x.qc) rfl rfl rfl (msg_body (by repeat (first | exact .here _ _ _ | apply At.there))) rfl rfl ?_) | (refine H.loadN (ls := y.m.body.vals y.qp y.qc) rfl rfl rfl (msg_body (by repeat (first | exact .here _ _ _ | apply At.there))) rfl rfl ?_) | (refine H.callR rfl rfl rfl (rsame_fn f _ hx.1 hy.1 (by have := hx.2.1; omega)) ?_))
          refine H.drop (.here _ _) ?_
          refine H.drop (.here _ _) ?_
          refine H.ret1 rfl rfl (fun _ h => h) ⟨?_, rfl, rfl⟩
          simp [Msg.eqB, *]
      · skip
        try simp only [Bool.not_eq_true] at *
        refine Fn.enter Tryz.func11 rfl Tryz.ntmps11 rfl (L := [(0, _), (1, _)]) ⟨rfl, rfl, trivial⟩ fun base => ?_
        repeat (first | ((first | apply H.move | apply H.assign); (iterate 3 exact rfl)) | (apply H.fieldAddr; (iterate 3 exact rfl); exact inferInstance; exact rfl) | (apply H.load1; (iterate 3 exact rfl); apply Rd1.ofRow; (repeat (first | exact .here _ _ _ | apply At.there)); (iterate 2 exact rfl)) | (first | apply H.seq | apply H.region | apply H.nil | apply H.then_normal) | ((apply H.cmp); (iterate 5 exact rfl)) | (apply H.pass; (iterate 2 exact rfl)) | (apply H.pickT; (iterate 4 exact rfl)) | ((apply H.pickF); (iterate 4 exact rfl)) | (apply H.ret) | (apply H.gyes; (iterate 3 exact rfl); (assumption)) | (apply H.gfalse; (iterate 3 exact rfl); assumption) | (refine H.box (ls := x.vals) rfl rfl rfl rfl fun ab => ?_) | (refine H.box (ls := y.vals) rfl rfl rfl rfl fun bb => ?_) | (refine H.loadN (ls := v11 x.m.deps) rfl rfl rfl (msg_deps (by repeat (first | exact .here _ _ _ | apply At.there))) rfl rfl ?_) | (refine H.loadN (ls := v11 y.m.deps) rfl rfl rfl (msg_deps (by repeat (first | exact .here _ _ _ | apply At.there))) rfl rfl ?_) | (refine H.aggEq (xs := v11 x.m.deps) (ys := v11 y.m.deps) (D := 4) rfl rfl rfl rfl (by kernel_rfl) (by kernel_rfl) (by kernel_rfl) (by kernel_rfl) (by decide) rfl rfl ?_))
        refine H.drop (.here _ _) ?_
        refine H.drop (.here _ _) ?_
        refine H.ret1 rfl rfl (fun _ h => h) ⟨?_, rfl, rfl⟩
        simp [Msg.eqB, *]
    · skip
      try simp only [Bool.not_eq_true] at *
      refine Fn.enter Tryz.func11 rfl Tryz.ntmps11 rfl (L := [(0, _), (1, _)]) ⟨rfl, rfl, trivial⟩ fun base => ?_
      repeat (first | ((first | apply H.move | apply H.assign); (iterate 3 exact rfl)) | (apply H.fieldAddr; (iterate 3 exact rfl); exact inferInstance; exact rfl) | (apply H.load1; (iterate 3 exact rfl); apply Rd1.ofRow; (repeat (first | exact .here _ _ _ | apply At.there)); (iterate 2 exact rfl)) | (first | apply H.seq | apply H.region | apply H.nil | apply H.then_normal) | ((apply H.cmp); (iterate 5 exact rfl)) | (apply H.pass; (iterate 2 exact rfl)) | (apply H.pickT; (iterate 4 exact rfl)) | ((apply H.pickF); (iterate 4 exact rfl)) | (apply H.ret) | (apply H.gyes; (iterate 3 exact rfl); (assumption)) | (apply H.gno; (iterate 3 exact rfl); (assumption)) | (refine H.box (ls := x.vals) rfl rfl rfl rfl fun ab => ?_) | (refine H.box (ls := y.vals) rfl rfl rfl rfl fun bb => ?_))
      refine H.drop (.here _ _) ?_
      refine H.drop (.here _ _) ?_
      refine H.ret1 rfl rfl (fun _ h => h) ⟨?_, rfl, rfl⟩
      simp [Msg.eqB, *]
  · skip
    try simp only [Bool.not_eq_true] at *
    refine Fn.enter Tryz.func11 rfl Tryz.ntmps11 rfl (L := [(0, _), (1, _)]) ⟨rfl, rfl, trivial⟩ fun base => ?_
    repeat (first | ((first | apply H.move | apply H.assign); (iterate 3 exact rfl)) | (apply H.fieldAddr; (iterate 3 exact rfl); exact inferInstance; exact rfl) | (apply H.load1; (iterate 3 exact rfl); apply Rd1.ofRow; (repeat (first | exact .here _ _ _ | apply At.there)); (iterate 2 exact rfl)) | (first | apply H.seq | apply H.region | apply H.nil | apply H.then_normal) | ((apply H.cmp); (iterate 5 exact rfl)) | (apply H.pass; (iterate 2 exact rfl)) | ((apply H.pickF); (iterate 4 exact rfl)) | (apply H.ret) | (apply H.gno; (iterate 3 exact rfl); (assumption)) | (refine H.box (ls := x.vals) rfl rfl rfl rfl fun ab => ?_) | (refine H.box (ls := y.vals) rfl rfl rfl rfl fun bb => ?_))
    refine H.drop (.here _ _) ?_
    refine H.drop (.here _ _) ?_
    refine H.ret1 rfl rfl (fun _ h => h) ⟨?_, rfl, rfl⟩
    simp [Msg.eqB, *]
set_option maxHeartbeats 1600000 in
theorem works08_fn (htab : TabAt f) : Fn Tryz.prog 6 [] f F (Ret (.bool true) f F) := by
  have hgood : ∀ f, (⟨m8, none, 0⟩ : MV).Good f := fun f => ⟨QAt.nil f none, Nat.zero_le _, m8_ok⟩
  have hgood2 : ∀ f, (⟨m8.signed, none, 0⟩ : MV).Good f := fun f => by
    refine ⟨?_, ?_, ?_⟩ <;> rw [m8_signed]
    · exact QAt.nil f none
    · exact Nat.zero_le _
    · exact m8_ok
  have hput := fun G => mput_fn f G (hgood f)
  have hmay := fun f G => mmay_fn f G (hgood f)
  have hl := m8_len
  have hge := m8_get
  have hsm := m8_same
  have hok := getR_ok m8.putB
  rw [show (⟨m8, none, 0⟩ : MV).m = m8 from rfl] at hput hmay
  generalize m8.putB = B at hput hl hge hsm hok
  refine Fn.enter Tryz.func6 rfl Tryz.ntmps6 rfl (L := []) trivial fun base => ?_
  repeat (first | (refine H.build (t := 34) (out := m8.body.vals none 0) rfl rfl rfl (by kernel_rfl) rfl ?_) | (refine H.build (t := 36) (out := m8.vals none 0) rfl rfl rfl (by kernel_rfl) rfl ?_) | ((apply H.assign); (iterate 3 exact rfl)) | (first | apply H.seq | apply H.region | apply H.nil | apply H.then_normal))
  refine H.alloc (ls := msg0.vals none 0) rfl rfl rfl fun mb => ?_
  refine H.storeN (ls := msg0.vals none 0) (vs := m8.vals none 0) (ls' := m8.vals none 0) rfl rfl rfl (allOne_mem rfl) rfl (splice_all rfl) (by rw [Msg.vals_len, Msg.vals_len]; decide) (by repeat (first | exact .here _ _ _ | apply At.there)) ?_
  repeat ((first | apply H.seq | apply H.region | apply H.nil | apply H.then_normal))
  refine H.loadN (ls := m8.vals none 0) rfl rfl rfl (Rd.ofRow (by repeat (first | exact .here _ _ _ | apply At.there))) rfl rfl ?_
  refine H.callE2 rfl rfl rfl (hput _) fun p1 c1 => ?_
  refine H.slc_some (.here _ _ _) (by omega) fun b1 hp => ?_
  subst hp
  repeat (first | ((first | apply H.move | apply H.assign); (iterate 3 exact rfl)) | (first | apply H.seq | apply H.region | apply H.nil | apply H.then_normal))
  refine H.callE rfl rfl rfl (mget_fn f _ (b := B) (fun G => Src.append (Src.slcS (by repeat (first | exact .here _ _ _ | apply At.there)) (by rw [bytesV_len]; exact (Nat.mul_one _).symm))) (fun h => by cases h) (by omega)) fun j => ?_
  rw [hge]
  repeat (first | ((apply H.move); (iterate 3 exact rfl)) | ((apply H.extract); (iterate 4 exact rfl)))
  refine H.alloc (ls := msg0.vals none 0) rfl rfl rfl fun xb => ?_
  refine H.storeN (ls := msg0.vals none 0) (vs := (getR B).vals j.1 j.2) (ls' := (getR B).vals j.1 j.2) rfl rfl rfl (allOne_mem rfl) rfl (splice_all rfl) (by rw [Msg.vals_len, Msg.vals_len]; decide) (by repeat (first | exact .here _ _ _ | apply At.there)) ?_
  repeat (first | ((apply H.assign); (iterate 3 exact rfl)) | (first | apply H.seq | apply H.region | apply H.nil | apply H.then_normal))
  refine H.callE rfl rfl rfl (mget_fn f _ (b := []) (fun G => Src.nil) (fun _ => rfl) (by decide)) fun j2 => ?_
  rw [getE_nil]
  repeat (first | ((apply H.move); (iterate 3 exact rfl)) | ((apply H.extract); (iterate 4 exact rfl)))
  refine H.alloc (ls := msg0.vals none 0) rfl rfl rfl fun yb => ?_
  refine H.storeN (ls := msg0.vals none 0) (vs := (getR []).vals j2.1 j2.2) (ls' := (getR []).vals j2.1 j2.2) rfl rfl rfl (allOne_mem rfl) rfl (splice_all rfl) (by rw [Msg.vals_len, Msg.vals_len]; decide) (by repeat (first | exact .here _ _ _ | apply At.there)) ?_
  repeat (first | ((apply H.assign); (iterate 3 exact rfl)) | (first | apply H.seq | apply H.region | apply H.nil | apply H.then_normal))
  refine H.drop (x := row yb _ _) (by repeat (first | exact .here _ _ | apply Pull.there)) ?_
  refine H.drop (x := qs j2.1 j2.2 _) (by repeat (first | exact .here _ _ | apply Pull.there)) ?_
  refine H.freeze (x := qs _ _ _) (by repeat (first | exact .here _ _ | apply Pull.there)) fun g2 hg2 hd2 => ?_
  have hx : (⟨getR B, j.1, j.2⟩ : MV).Good (un f g2) := ⟨qs_qat hg2 hd2, by have := hok.2; show (getR B).body.q.length ≤ _; omega, hok.1⟩
  have hmayb := fun G => hmay (un f g2) G
  rw [m8_may] at hmayb
  have hsame := fun G => rsameM_fn (un f g2) G hx (hgood (un f g2))
  rw [show Msg.eqB (⟨getR B, j.1, j.2⟩ : MV).m (⟨m8, none, 0⟩ : MV).m = true from hsm] at hsame
  have htag := fun G => rtagged_fn (un f g2) G (m := m8) (q := none) (qc := 0) (QAt.nil _ none) (Nat.zero_le _)
  have hr1 := fun G => mright_fn (un f g2) G (IntsAt.mono (Le.un f g2) htab) (hgood2 (un f g2))
  have hr2 := fun G => mright_fn (un f g2) G (IntsAt.mono (Le.un f g2) htab) (hgood (un f g2))
  rw [show (⟨m8.signed, none, 0⟩ : MV).m.right = true from m8_right] at hr1
  rw [show (⟨m8, none, 0⟩ : MV).m.right = false from m8_wrong] at hr2
  clear hput hmay hge hsm hok hgood hgood2
  generalize m8.signed = ms at htag hr1
  generalize hgr : getR B = r at hsame hx ⊢
  skip
  refine H.loadN (ls := m8.vals none 0) rfl rfl rfl (Rd.ofRow (by repeat (first | exact .here _ _ _ | apply At.there))) rfl rfl ?_
  refine H.callR rfl rfl rfl (hmayb _) ?_
  repeat (first | ((first | apply H.move | apply H.len_slice); (iterate 3 exact rfl)) | ((apply H.cmp); (iterate 5 exact rfl)) | (apply H.pickT; (iterate 4 exact rfl)) | (apply H.gyes; (iterate 3 exact rfl); (omega)))
  refine H.loadN (ls := r.vals j.1 j.2) rfl rfl rfl (Rd.ofRow (by repeat (first | exact .here _ _ _ | apply At.there))) rfl rfl ?_
  refine H.loadN (ls := m8.vals none 0) rfl rfl rfl (Rd.ofRow (by repeat (first | exact .here _ _ _ | apply At.there))) rfl rfl ?_
  refine H.callR rfl rfl rfl (hsame _) ?_
  repeat (first | ((apply H.move); (iterate 3 exact rfl)) | ((apply H.cmp); (iterate 5 exact rfl)) | (apply H.pickT; (iterate 4 exact rfl)) | (apply H.gyes; (iterate 3 exact rfl); (omega)))
  refine H.loadN (ls := m8.vals none 0) rfl rfl rfl (Rd.ofRow (by repeat (first | exact .here _ _ _ | apply At.there))) rfl rfl ?_
  refine H.callR rfl rfl rfl (htag _) ?_
  skip
  refine H.callR rfl rfl rfl (hr1 _) ?_
  repeat (first | ((apply H.move); (iterate 3 exact rfl)) | (apply H.pickT; (iterate 4 exact rfl)))
  refine H.loadN (ls := m8.vals none 0) rfl rfl rfl (Rd.ofRow (by repeat (first | exact .here _ _ _ | apply At.there))) rfl rfl ?_
  refine H.callR rfl rfl rfl (hr2 _) ?_
  refine H.not (b := false) (c := true) rfl rfl rfl rfl ?_
  repeat (first | ((apply H.assign); (iterate 3 exact rfl)) | (first | apply H.nil | apply H.then_normal) | (apply H.pickT; (iterate 4 exact rfl)) | (apply H.ret))
  refine H.thaw hg2 hd2 ?_
  refine H.drop (.here _ _) ?_
  refine H.drop (x := row xb _ _) (by repeat (first | exact .here _ _ | apply Pull.there)) ?_
  refine H.drop (x := slc _ _ _ _ _ _) (by repeat (first | exact .here _ _ | apply Pull.there)) ?_
  refine H.drop (x := row mb _ _) (by repeat (first | exact .here _ _ | apply Pull.there)) ?_
  exact H.ret1 rfl rfl (fun _ h => h) ⟨rfl, rfl, rfl⟩
end
end Go.Proofs.YtcaofnfemogleaaGreatDoor

/- Layer 8: a message that a law is given. -/
namespace Go.Proofs.YtcaofnfemogleaaGreatDoor
set_option linter.unusedSectionVars false
set_option linter.unusedSimpArgs false
set_option linter.unusedVariables false
open Go Go.ChangeShapes Go.WideShapes Go.RowKit Go.Deep
/-! ### Cells of arrays, strings and structs -/
theorem Reads.string {P : Program} {W : World} {t : TypeId} {cs : List Value} (ht : P.underlying t = some .string) (h : Reads P W t cs) : ∃ s : ByteArray, cs = [.string s] ∧ s.size ≤ maxLen := by
  obtain ⟨H', enc, b, sp, hd, n, x, h⟩ := h
  obtain ⟨s, h1, _, h2⟩ := DataW.trod_string ht h
  exact ⟨s, h1, h2⟩
theorem pieces_one : ∀ (n : Nat) (cs : List Value) (g : Nat → Value), cs.length = n → (∀ i, i < n → (cs.drop i).take 1 = [g i]) → cs = (List.range n).map g := by
  intro n cs g hl h
  apply List.ext_getElem?
  intro i
  rw [List.getElem?_map]
  by_cases hi : i < n
  · rw [List.getElem?_range hi]
    have h1 := congrArg (fun l => l[0]?) (h i hi)
    simp only [List.getElem?_take, List.getElem?_drop] at h1
    simpa using h1
  · rw [List.getElem?_eq_none (by omega), List.getElem?_eq_none (by simpa using hi)]; rfl
theorem Reads.ints {P : Program} {W : World} {t e : TypeId} {n : Nat} {k : IntKind} {cs : List Value} (ht : P.underlying t = some (.array n e)) (he : P.underlying e = some (.int k)) (h1 : P.cellsOf e = 1) (hn : P.cellsOf t = n) (h : Reads P W t cs) :
    ∃ d : Nat → Int, cs = (List.range n).map (fun i => .int k (d i)) ∧ ∀ i, i < n → k.min ≤ d i ∧ d i ≤ k.max := by
  obtain ⟨H', enc, b, sp, hd, fu, x, h⟩ := h
  obtain ⟨xs, m, rfl, rfl, hlen, hl, hel⟩ := DataW.trod_array ht h
  have key : ∀ i, ∃ z, i < n → (cs.drop i).take 1 = [.int k z] ∧ k.min ≤ z ∧ z ≤ k.max := fun i => by
    by_cases hi : i < n
    · have h2 := hel i hi
      rw [h1, Nat.mul_one, List.getElem?_eq_getElem (by omega)] at h2
      have h3 : Reads P W e ((cs.drop i).take 1) := ⟨H', enc, b, sp, hd, m, _, h2⟩
      obtain ⟨z, e1, e2⟩ := h3.int he
      exact ⟨z, fun _ => ⟨e1, e2⟩⟩
    · exact ⟨0, fun h => absurd h hi⟩
  refine ⟨fun i => (key i).choose, pieces_one n cs (fun i => .int k (key i).choose) (by rw [hlen, hn]) fun i hi => ((key i).choose_spec hi).1, fun i hi => ((key i).choose_spec hi).2⟩
def AllReads (P : Program) (W : World) : List TypeId → List (List Value) → Prop
  | [], [] => True
  | t :: ts, p :: ps => Reads P W t p ∧ AllReads P W ts ps
  | _, _ => False
def contigB (P : Program) (end_ : Nat) : List Field → Nat → Bool
  | [], a => Nat.beq a end_
  | f :: r, a => Nat.beq f.offset a && contigB P end_ r (a + P.cellsOf f.type)
theorem parts_of {P : Program} {W : World} {cs : List Value} {m : Nat} (hm : cs.length = m) : ∀ (l : List Field) (a : Nat), (∀ f ∈ l, Reads P W f.type ((cs.drop f.offset).take (P.cellsOf f.type))) → contigB P m l a = true →
    ∃ ps : List (List Value), cs.drop a = ps.flatten ∧ AllReads P W (l.map (·.type)) ps
  | [], a, _, hc => ⟨[], by
      have : a = m := Nat.eq_of_beq_eq_true hc
      rw [List.drop_eq_nil_of_le (by omega)]; rfl, trivial⟩
  | f :: r, a, h, hc => by
    simp only [contigB, Bool.and_eq_true] at hc
    have e : f.offset = a := Nat.eq_of_beq_eq_true hc.1
    obtain ⟨ps, e1, e2⟩ := parts_of hm r (a + P.cellsOf f.type) (fun x hx => h x (by simp [hx])) hc.2
    have h0 := h f (by simp)
    rw [e] at h0
    refine ⟨(cs.drop a).take (P.cellsOf f.type) :: ps, ?_, h0, e2⟩
    rw [List.flatten_cons, ← e1, ← List.drop_drop, List.take_append_drop]
theorem Reads.parts {P : Program} {W : World} {t : TypeId} {cs : List Value} {fs : List Field} (ht : P.underlying t = some (.struct fs.toArray)) (hc : contigB P (P.cellsOf t) fs 0 = true) (h : Reads P W t cs) :
    ∃ ps : List (List Value), cs = ps.flatten ∧ AllReads P W (fs.map (·.type)) ps := by
  obtain ⟨h1, h2⟩ := h.struct ht
  obtain ⟨ps, e1, e2⟩ := parts_of (P := P) (W := W) h1 fs 0 (fun f hf => by
    obtain ⟨i, hi⟩ := List.getElem?_of_mem hf
    exact h2 i f (by simpa using hi)) hc
  exact ⟨ps, by simpa using e1, e2⟩
/-! ### Messages, packets, steps -/
theorem u8_back {z : Int} (h : IntKind.min .u8 ≤ z ∧ z ≤ IntKind.max .u8) : (((UInt8.ofNat z.toNat).toNat : Nat) : Int) = z := by
  have h1 : (0 : Int) ≤ z := h.1
  have h2 : z ≤ 255 := h.2
  rw [UInt8.toNat_ofNat']
  omega
theorem reads_vecT {W : World} {cs : List Value} (h : Reads Tryz.prog W 27 cs) : ∃ d : Nat → Int, (∀ i, i < 11 → 0 ≤ d i ∧ d i ≤ 18446744073709551615) ∧ cs = v11 d := by
  obtain ⟨d, e, hd⟩ := h.ints Tryz.underlying27 Tryz.underlying23 (by kernel_rfl) (by kernel_rfl)
  exact ⟨d, fun i hi => hd i hi, e⟩
theorem reads_vec {W : World} {cs : List Value} (h : Reads Tryz.prog W 27 cs) : ∃ d : Nat → Int, cs = v11 d := by
  obtain ⟨d, _, e⟩ := reads_vecT h
  exact ⟨d, e⟩
theorem reads_32 {W : World} {cs : List Value} (h : Reads Tryz.prog W 24 cs) : ∃ d : Nat → UInt8, cs = b32 d := by
  obtain ⟨d, e, hb⟩ := h.ints Tryz.underlying24 Tryz.underlying5 (by kernel_rfl) (by kernel_rfl)
  refine ⟨fun i => UInt8.ofNat (d i).toNat, ?_⟩
  have e2 : b32 (fun i => UInt8.ofNat (d i).toNat) = (List.range 32).map (fun i => Value.int .u8 ((UInt8.ofNat (d i).toNat).toNat : Nat)) := rfl
  rw [e, e2]
  refine List.map_congr_left fun i hi => ?_
  rw [List.mem_range] at hi
  rw [u8_back (hb i hi)]
theorem reads_pair {W : World} {cs : List Value} (h : Reads Tryz.prog W 92 cs) : ∃ x : Int × Int, True ∧ cs = pairV x := by
  obtain ⟨ps, rfl, hh⟩ := h.parts Tryz.underlying92 (by kernel_rfl)
  have h : AllReads Tryz.prog W [3, 23] ps := hh
  match ps, h with
  | [p0, p1], ⟨r0, r1, _⟩ =>
    obtain ⟨z0, rfl, _⟩ := r0.int Tryz.underlying3
    obtain ⟨z1, rfl, _⟩ := r1.int Tryz.underlying23
    exact ⟨(z0, z1), trivial, rfl⟩
theorem reads_op {W : World} {cs : List Value} (h : Reads Tryz.prog W 29 cs) : ∃ (k : UInt8) (a b c d : ByteArray) (n : Int), cs = [.int .u8 (k.toNat : Nat), .string a, .string b, .string c, .string d, .int .u64 n] ∧ 0 ≤ n ∧ n ≤ 18446744073709551615 := by
  obtain ⟨ps, rfl, hh⟩ := h.parts Tryz.underlying29 (by kernel_rfl)
  have h : AllReads Tryz.prog W [5, 9, 9, 9, 9, 23] ps := hh
  match ps, h with
  | [p0, p1, p2, p3, p4, p5], ⟨r0, r1, r2, r3, r4, r5, _⟩ =>
    obtain ⟨z0, rfl, hz⟩ := r0.int Tryz.underlying5
    obtain ⟨s1, rfl, _⟩ := r1.string Tryz.underlying9
    obtain ⟨s2, rfl, _⟩ := r2.string Tryz.underlying9
    obtain ⟨s3, rfl, _⟩ := r3.string Tryz.underlying9
    obtain ⟨s4, rfl, _⟩ := r4.string Tryz.underlying9
    obtain ⟨z5, rfl, h5⟩ := r5.int Tryz.underlying23
    refine ⟨UInt8.ofNat z0.toNat, s1, s2, s3, s4, z5, ?_, h5⟩
    rw [u8_back hz]
    rfl
theorem reads_req {W : World} {cs : List Value} (h : Reads Tryz.prog W 31 cs) : ∃ r : Req, r.Ok ∧ cs = r.vals := by
  obtain ⟨ps, rfl, hh⟩ := h.parts Tryz.underlying31 (by kernel_rfl)
  have h : AllReads Tryz.prog W [3, 23, 29, 24] ps := hh
  match ps, h with
  | [p0, p1, p2, p3], ⟨r0, r1, r2, r3, _⟩ =>
    obtain ⟨z0, rfl, _⟩ := r0.int Tryz.underlying3
    obtain ⟨z1, rfl, h1⟩ := r1.int Tryz.underlying23
    obtain ⟨k, a, b, c, d, n, rfl, hn⟩ := reads_op r2
    obtain ⟨t, rfl⟩ := reads_32 r3
    exact ⟨⟨z0, z1, k, a, b, c, d, n, t⟩, ⟨h1, hn⟩, rfl⟩
theorem reads_body {W : World} {cs : List Value} (h : Reads Tryz.prog W 34 cs) : ∃ (x : Bod) (q : Option Addr) (c : Nat), x.Ok ∧ QAt (memOf W) q x.q ∧ cs = x.vals q c := by
  obtain ⟨ps, rfl, hh⟩ := h.parts Tryz.underlying34 (by kernel_rfl)
  have h : AllReads Tryz.prog W [5, 23, 23, 31, 32, 24] ps := hh
  match ps, h with
  | [p0, p1, p2, p3, p4, p5], ⟨r0, r1, r2, r3, r4, r5, _⟩ =>
    obtain ⟨z0, rfl, hz⟩ := r0.int Tryz.underlying5
    obtain ⟨z1, rfl, h1⟩ := r1.int Tryz.underlying23
    obtain ⟨z2, rfl, h2⟩ := r2.int Tryz.underlying23
    obtain ⟨r, hr, rfl⟩ := reads_req r3
    obtain ⟨p, c, xs, rfl, _, _, _, hat⟩ := r4.list (sz := 2) Tryz.underlying32 (by kernel_rfl) (by decide) fun cs => reads_pair
    obtain ⟨t, rfl⟩ := reads_32 r5
    refine ⟨⟨UInt8.ofNat z0.toNat, z1, z2, r, xs, t⟩, p, c, ⟨h1, h2, hr⟩, hat, ?_⟩
    unfold Bod.vals
    rw [u8_back hz]
    rfl
/-- A message that stands in memory; its pairs may be many. -/
def MV.Has (f : Frag) (x : MV) : Prop := QAt f x.qp x.m.body.q ∧ x.m.body.Ok
/-- Its numbers lie in their types. -/
def Msg.Typ (m : Msg) : Prop := m.body.Ok ∧ ∀ i, i < 11 → 0 ≤ m.deps i
theorem reads_msgT {W : World} {cs : List Value} (h : Reads Tryz.prog W 36 cs) : ∃ x : MV, x.Has (memOf W) ∧ x.m.Typ ∧ cs = x.vals := by
  obtain ⟨ps, rfl, hh⟩ := h.parts Tryz.underlying36 (by kernel_rfl)
  have h : AllReads Tryz.prog W [3, 23, 27, 34, 24] ps := hh
  match ps, h with
  | [p0, p1, p2, p3, p4], ⟨r0, r1, r2, r3, r4, _⟩ =>
    obtain ⟨z0, rfl, _⟩ := r0.int Tryz.underlying3
    obtain ⟨z1, rfl, _⟩ := r1.int Tryz.underlying23
    obtain ⟨d, hd, rfl⟩ := reads_vecT r2
    obtain ⟨x, q, c, hx, hq, rfl⟩ := reads_body r3
    obtain ⟨t, rfl⟩ := reads_32 r4
    exact ⟨⟨⟨z0, z1, d, x, t⟩, q, c⟩, ⟨hq, hx⟩, ⟨hx, fun i hi => (hd i hi).1⟩, rfl⟩
theorem reads_msg {W : World} {cs : List Value} (h : Reads Tryz.prog W 36 cs) : ∃ x : MV, x.Has (memOf W) ∧ cs = x.vals := by
  obtain ⟨x, h1, _, h2⟩ := reads_msgT h
  exact ⟨x, h1, h2⟩
end Go.Proofs.YtcaofnfemogleaaGreatDoor

/- Layer 8: MessageSizes. Condition: the table of the standard stands in the fragment. -/
namespace Go.Proofs.YtcaofnfemogleaaGreatDoor
set_option linter.unusedSectionVars false
set_option linter.unusedSimpArgs false
set_option linter.unusedVariables false
open Go
theorem row_bop {f : Frag} {A A' : List HP} {mb : Nat} {T : TypeId} {m : Msg} {q : Option Addr} {qc : Nat} (h : At A (row mb T (m.vals q qc)) A' (row mb T (m.vals q qc))) : Rd f A mb (0 + 13 + 3 + 2) [.int .u8 (m.body.req.kind.toNat : Nat), .string m.body.req.key, .string m.body.req.val, .string m.body.req.old, .string m.body.req.to, .int .u64 m.body.req.amount] := by
  have h1 := Rd.ofRow (f := f) h
  have e : m.vals q qc = ([.int .i64 m.origin, .int .u64 m.number] ++ v11 m.deps ++ [.int .u8 (m.body.kind.toNat : Nat), .int .u64 m.body.view, .int .u64 m.body.k, .int .i64 m.body.req.client, .int .u64 m.body.req.time]) ++ [.int .u8 (m.body.req.kind.toNat : Nat), .string m.body.req.key, .string m.body.req.val, .string m.body.req.old, .string m.body.req.to, .int .u64 m.body.req.amount] ++ (b32 m.body.req.tag ++ [.slice q m.body.q.length qc] ++ b32 m.body.dig ++ b32 m.tag) := rfl
  rw [e] at h1
  exact h1.sub rfl
def opV (r : Req) : List Value := [.int .u8 (r.kind.toNat : Nat), .string r.key, .string r.val, .string r.old, .string r.to, .int .u64 r.amount]
section
variable (f : Frag) (F : List HP)
theorem few08_fn (x : MV) : ∃ fb : Bool, (fb = true → x.m.body.q.length ≤ 40) ∧ ∀ f F, Fn Tryz.prog 18 [.agg x.vals.toArray] f F (Ret (.bool fb) f F) := by
  by_cases h : x.m.body.q.length ≤ 40
  · refine ⟨decide (IntKind.i64.wrap (IntKind.i64.wrap (IntKind.i64.wrap ((x.m.body.req.key.size : Int) + x.m.body.req.val.size) + x.m.body.req.old.size) + x.m.body.req.to.size) ≤ 4096), fun _ => h, fun f F => ?_⟩
    · refine Fn.enter Tryz.func18 rfl Tryz.ntmps18 rfl (L := [(0, _)]) ⟨rfl, trivial⟩ fun base => ?_
      repeat (first | (refine H.loadN (ls := opV x.m.body.req) rfl rfl rfl (row_bop (m := x.m) (q := x.qp) (qc := x.qc) (by repeat (first | exact .here _ _ _ | apply At.there))) rfl rfl ?_) | (refine H.box (ls := x.vals) rfl rfl rfl rfl fun mb => ?_) | (refine H.alloc (ls := opV Req.zero) rfl rfl rfl fun ob => ?_) | ((apply H.assign); (iterate 3 exact rfl)) | (apply H.fieldAddr; (iterate 3 exact rfl); exact inferInstance; exact rfl) | (first | apply H.seq | apply H.region | apply H.nil | apply H.then_normal))
      refine H.storeN (ls := opV Req.zero) (vs := opV x.m.body.req) (ls' := opV x.m.body.req) rfl rfl rfl (allOne_mem rfl) rfl rfl (Nat.le_refl 6) (by repeat (first | exact .here _ _ _ | apply At.there)) ?_
      repeat (first | ((first | apply H.move | apply H.assign | apply H.len_slice | apply H.len_string); (iterate 3 exact rfl)) | (apply H.fieldAddr; (iterate 3 exact rfl); exact inferInstance; exact rfl) | (apply H.load1; (iterate 3 exact rfl); apply Rd1.ofRow; (repeat (first | exact .here _ _ _ | apply At.there)); (iterate 2 exact rfl)) | (first | apply H.seq | apply H.region | apply H.nil | apply H.then_normal) | ((apply H.cmp); (iterate 5 exact rfl)) | ((apply H.ar; (iterate 4 exact rfl)); (rfl); exact rfl) | (apply H.pickT; (iterate 4 exact rfl)) | (apply H.ret) | (apply H.gyes; (iterate 3 exact rfl); (omega)))
      refine H.drop (.here _ _) ?_
      refine H.drop (.here _ _) ?_
      exact H.ret1 rfl rfl (fun _ h => h) ⟨rfl, rfl, rfl⟩
  · refine ⟨false, fun h => (by cases h), fun f F => ?_⟩
    refine Fn.enter Tryz.func18 rfl Tryz.ntmps18 rfl (L := [(0, _)]) ⟨rfl, trivial⟩ fun base => ?_
    repeat (first | (refine H.loadN (ls := opV x.m.body.req) rfl rfl rfl (row_bop (m := x.m) (q := x.qp) (qc := x.qc) (by repeat (first | exact .here _ _ _ | apply At.there))) rfl rfl ?_) | (refine H.box (ls := x.vals) rfl rfl rfl rfl fun mb => ?_) | (refine H.alloc (ls := opV Req.zero) rfl rfl rfl fun ob => ?_) | ((apply H.assign); (iterate 3 exact rfl)) | (apply H.fieldAddr; (iterate 3 exact rfl); exact inferInstance; exact rfl) | (first | apply H.seq | apply H.region | apply H.nil | apply H.then_normal))
    refine H.storeN (ls := opV Req.zero) (vs := opV x.m.body.req) (ls' := opV x.m.body.req) rfl rfl rfl (allOne_mem rfl) rfl rfl (Nat.le_refl 6) (by repeat (first | exact .here _ _ _ | apply At.there)) ?_
    repeat (first | ((first | apply H.move | apply H.assign | apply H.len_slice | apply H.len_string); (iterate 3 exact rfl)) | (apply H.fieldAddr; (iterate 3 exact rfl); exact inferInstance; exact rfl) | (apply H.load1; (iterate 3 exact rfl); apply Rd1.ofRow; (repeat (first | exact .here _ _ _ | apply At.there)); (iterate 2 exact rfl)) | (first | apply H.seq | apply H.region | apply H.nil | apply H.then_normal) | ((apply H.cmp); (iterate 5 exact rfl)) | (apply H.pass; (iterate 2 exact rfl)) | ((apply H.pickF); (iterate 4 exact rfl)) | (apply H.ret) | (apply H.gno; (iterate 3 exact rfl); (omega)))
    refine H.drop (.here _ _) ?_
    refine H.drop (.here _ _) ?_
    exact H.ret1 rfl rfl (fun _ h => h) ⟨rfl, rfl, rfl⟩
end
end Go.Proofs.YtcaofnfemogleaaGreatDoor
