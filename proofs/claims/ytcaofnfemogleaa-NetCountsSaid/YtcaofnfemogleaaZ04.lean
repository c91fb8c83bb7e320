/- Parts of the proof, one behind the other, each under its own heading. No conditions. -/
import Derived.Test.YtcaofnfemogleaaZ03
/- Layer 2: the document's SHA-256, one block, walked. -/
namespace Go.Proofs.Ytcaofnfemogleaa
set_option linter.unusedSectionVars false
set_option linter.unusedSimpArgs false
set_option linter.unusedVariables false
open Go
section
variable (f : Frag) (F : List HP)
def z64 : List Value := List.replicate 64 (w32 0)
theorem z64_len : z64.length = 64 := rfl
def wRow (S : List UInt32) (n : Nat) : List Value := (S.map w32).take n ++ z64.drop n
theorem wRow_set {S : List UInt32} (hS : S.length = 64) {n : Nat} (h : n < 64) : SetV (wRow S n) n (w32 (S.getD n 0)) (wRow S (n + 1)) :=
  fill_set (map_get w32 (by rw [hS]; exact h) 0) (by rw [List.length_map, hS]; rfl)
theorem wRow_get {S : List UInt32} (hS : S.length = 64) {n j : Nat} (h : j < n) (hn : n ≤ 64) : (wRow S n)[j]? = some (w32 (S.getD j 0)) :=
  fill_get h (map_get w32 (by rw [hS]; omega) 0)
def addRow (v s : Sha.S8) (n : Nat) : List Value := (v.add s).vals.take n ++ v.vals.drop n
theorem addRow_set (v s : Sha.S8) {i : Nat} (h : i < 8) : SetV (addRow v s i) i (w32 (v.get i + s.get i)) (addRow v s (i + 1)) := by
  rw [← Sha.S8.add_get v s h]
  exact fill_set (Sha.S8.get_vals (v.add s) h) rfl
theorem addRow_get (v s : Sha.S8) {i : Nat} (h : i < 8) : (addRow v s i)[i]? = some (w32 (v.get i)) :=
  fill_get2 (Nat.le_refl _) rfl (Sha.S8.get_vals v h)
set_option maxHeartbeats 800000 in
theorem block_fn {s : Sha.S8} {bs : List UInt8} (hb : bs.length = 64) : Fn Try.prog 94 [.agg s.vals.toArray, .agg (bytesV bs).toArray] f F (Ret (.agg (Sha.block s bs).vals.toArray) f F) := by
  have hbl : (bytesV bs).length = 64 := by rw [bytesV_len, hb]
  have hlo : ∀ i, i < 16 → (Sha.sched bs).getD i 0 = Sha.word bs i := fun i h => Sha.sched_lo bs h
  have hhi : ∀ j, j < 48 → (Sha.sched bs).getD (j + 16) 0 = (Sha.sched bs).getD j 0 + Sha.s0 ((Sha.sched bs).getD (j + 1) 0) + (Sha.sched bs).getD (j + 9) 0 + Sha.s1 ((Sha.sched bs).getD (j + 14) 0) := fun j h => Sha.sched_hi bs h
  have hS := Sha.sched_len bs
  unfold Sha.block
  generalize Sha.sched bs = S at hlo hhi hS ⊢
  refine Fn.enter Try.func94 rfl Try.ntmps94 rfl (L := [(0, _), (1, _)]) ⟨rfl, rfl, trivial⟩ fun base => ?_
  repeat ((first | apply H.seq | apply H.region))
  refine H.box (ls := s.vals) rfl rfl rfl rfl fun sb => ?_
  refine H.box (ls := bytesV bs) rfl rfl rfl rfl fun nb => ?_
  refine H.alloc (ls := List.replicate 8 (.int .u32 0)) rfl rfl rfl fun ob => ?_
  repeat ((first | apply H.seq | apply H.region | apply H.nil | apply H.then_normal))
  refine H.alloc (ls := wRow S 0) rfl rfl rfl fun wb => ?_
  repeat (first | ((apply H.assign); (iterate 3 exact rfl)) | (first | apply H.seq | apply H.region | apply H.nil | apply H.then_normal) | (apply H.block))
  refine H.front (x := row nb _ _) (by repeat (first | exact .here _ _ | apply Pull.there)) ?_
  refine H.loop (ι := Nat) (fun i => [(6, .int .i64 (i : Int)), (2, .pointer (some ⟨sb, 0, none⟩)), (3, .pointer (some ⟨nb, 0, none⟩)), (4, .pointer (some ⟨ob, 0, none⟩)), (5, .pointer (some ⟨wb, 0, none⟩))]) (fun _ => f)
    (fun i => row nb 129 (bytesV bs) :: row wb 135 (wRow S i) :: row ob 127 (List.replicate 8 (.int .u32 0)) :: row sb 127 s.vals :: F) (fun i => i ≤ 16) (fun i => 16 - i) 0 (Nat.zero_le _) ⟨rfl, rfl, rfl, rfl, rfl, trivial⟩ rfl rfl fun i hi => ?_
  have hi : i ≤ 16 := hi
  by_cases hlt : i < 16
  · have hw : S.getD i 0 = Sha.word bs i := hlo i hlt
    have hset := wRow_set hS (n := i) (by omega)
    rw [hw] at hset
    unfold Sha.word at hset
    repeat (first | ((apply H.move); (iterate 3 exact rfl)) | (first | apply H.seq | apply H.region | apply H.nil | apply H.then_normal) | ((apply H.cmp); (iterate 5 exact rfl)) | (first | apply H.skip | apply H.block) | (apply H.cond_yes; exact rfl; (omega)))
    refine H.drawB (by kernel_rfl) (by decide +kernel) (by first | exact blind_fn | exact blind_seq blind_fn | exact blind_seq (blind_seq blind_fn) | (repeat (first | exact blind_fn | refine blind_seq ?_ | refine blind_block ?_ | refine blind_loop ?_))) (S := [_]) rfl ?_
    refine HB.quiet [(0, false), (1, false), (2, false), (3, false), (4, false), (5, false), (6, false), (7, false), (8, false), (9, false), (10, false), (11, false), (12, false), (13, false), (14, false), (15, false), (16, false), (17, false), (18, false), (19, false), (20, false), (21, false), (22, false), (23, false), (24, false), (25, false), (26, false), (27, false), (28, false), (29, false), (30, false)] 1 (by kernel_rfl) ?_
    repeat (first | (apply HQ.conv_int; (iterate 2 exact rfl); (with_reducible exact u32_ofByte _); exact rfl) | (apply HQ.index_array (i := 4 * i); (iterate 3 exact rfl); omega; omega; exact rfl) | (apply HQ.index_array (i := 4 * i + 1); (iterate 3 exact rfl); omega; omega; exact rfl) | (apply HQ.index_array (i := 4 * i + 2); (iterate 3 exact rfl); omega; omega; exact rfl) | (apply HQ.index_array (i := 4 * i + 3); (iterate 3 exact rfl); omega; omega; exact rfl) | (apply HQ.load1; (iterate 3 exact rfl); exact .of (Rd.ofRow (by repeat (first | exact .here _ _ _ | apply At.there))) (by rw [Nat.mul_one]; exact bytesV_get (by omega)); exact rfl) | ((apply HQ.move); (iterate 3 exact rfl)) | ((apply HQ.ar; (iterate 4 exact rfl)); (with_reducible apply wr_i64; omega); exact rfl) | (apply HQ.bits; (iterate 3 exact rfl); (with_reducible exact u32_or _ _); (iterate 2 exact rfl)) | (apply HQ.shift; (iterate 3 exact rfl); (first | with_reducible exact u32_shl24 _ | with_reducible exact u32_shl16 _ | with_reducible exact u32_shl8 _); decide; (iterate 2 exact rfl)) | (apply HQ.index_array (i := i); (iterate 3 exact rfl); exact rfl; omega; exact rfl))
    refine HQ.more rfl ?_
    refine HB.ev1 (i := 31) (by kernel_rfl) rfl ?_
    refine H.store1 (v := w32 _) (ls' := wRow S (i + 1)) rfl rfl rfl rfl (by repeat (first | exact .here _ _ _ | apply At.there)) (by rw [Nat.mul_one, Nat.zero_add]; exact hset) ?_
    repeat ((apply H.nil))
    refine H.on0 rfl ?_
    refine HB.done (by kernel_rfl) ?_
    repeat (first | ((first | apply H.move | apply H.assign); (iterate 3 exact rfl)) | (first | apply H.region | apply H.nil | apply H.then_normal) | ((apply H.ar; (iterate 4 exact rfl)); (with_reducible apply wr_i64_n1; omega); exact rfl) | (apply H.in_normal))
    exact H.again (i + 1) (by show i + 1 ≤ 16; omega) (by show 16 - (i + 1) < 16 - i; omega) ⟨rfl, rfl, rfl, rfl, rfl, trivial⟩ rfl rfl
  · have hi16 : i = 16 := by omega
    subst hi16
    repeat (first | ((first | apply H.move | apply H.assign); (iterate 3 exact rfl)) | (first | apply H.seq | apply H.region | apply H.nil | apply H.then_normal) | ((apply H.cmp); (iterate 5 exact rfl)) | (apply H.cond_false; exact rfl) | (first | apply H.then_exit | apply H.exit | apply H.block | apply H.in_hit | apply H.loop_exit))
    refine H.front (x := row wb _ _) (by repeat (first | exact .here _ _ | apply Pull.there)) ?_
    refine H.loop (ι := Nat) (fun j => [(7, .int .i64 ((j + 16 : Nat) : Int)), (2, .pointer (some ⟨sb, 0, none⟩)), (4, .pointer (some ⟨ob, 0, none⟩)), (5, .pointer (some ⟨wb, 0, none⟩))]) (fun _ => f)
      (fun j => row wb 135 (wRow S (j + 16)) :: row nb 129 (bytesV bs) :: row ob 127 (List.replicate 8 (.int .u32 0)) :: row sb 127 s.vals :: F) (fun j => j ≤ 48) (fun j => 48 - j) 0 (Nat.zero_le _) ⟨rfl, rfl, rfl, rfl, trivial⟩ rfl rfl fun j hj => ?_
    have hj : j ≤ 48 := hj
    by_cases hlt : j < 48
    · have hw := hhi j hlt
      have hset := wRow_set hS (n := j + 16) (by omega)
      rw [hw] at hset
      have hg : ∀ k, k < j + 16 → (wRow S (j + 16))[k * 1]? = some (w32 (S.getD k 0)) := fun k hk => by rw [Nat.mul_one]; exact wRow_get hS hk (by omega)
      repeat (first | ((apply H.move); (iterate 3 exact rfl)) | (first | apply H.seq | apply H.region | apply H.nil | apply H.then_normal) | ((apply H.cmp); (iterate 5 exact rfl)) | (first | apply H.skip | apply H.block) | (apply H.cond_yes; exact rfl; (omega)))
      refine H.drawB (by kernel_rfl) (by decide +kernel) (by first | exact blind_fn | exact blind_seq blind_fn | exact blind_seq (blind_seq blind_fn) | (repeat (first | exact blind_fn | refine blind_seq ?_ | refine blind_block ?_ | refine blind_loop ?_))) (S := [_]) rfl ?_
      refine HB.quiet [(0, false), (1, false), (2, false), (3, false), (5, false), (6, false), (7, false), (8, false), (11, false), (12, false), (13, false), (14, false), (15, false)] 5 (by kernel_rfl) ?_
      repeat (first | (apply HQ.index_array (i := j + 1); (iterate 3 exact rfl); omega; omega; exact rfl) | (apply HQ.load1; (iterate 3 exact rfl); exact .of (Rd.ofRow (by repeat (first | exact .here _ _ _ | apply At.there))) (hg _ (by omega)); exact rfl) | ((apply HQ.move); (iterate 3 exact rfl)) | ((apply HQ.ar; (iterate 4 exact rfl)); (with_reducible apply wr_i64; omega); exact rfl) | (apply HQ.shift; (iterate 3 exact rfl); (with_reducible exact u32_shr3 _); decide; (iterate 2 exact rfl)))
      refine HQ.more rfl ?_
      refine HB.ev1 (i := 4) (by kernel_rfl) rfl ?_
      refine H.callR rfl rfl rfl (rot_fn f _ (n := 7) (by decide) (by decide)) ?_
      repeat ((apply H.nil))
      refine H.on0 rfl ?_
      refine HB.ev1 (i := 9) (by kernel_rfl) rfl ?_
      refine H.callR rfl rfl rfl (rot_fn f _ (n := 18) (by decide) (by decide)) ?_
      repeat ((apply H.nil))
      refine H.on0 rfl ?_
      refine HB.quiet [(10, false), (16, false), (17, false)] 0 (by kernel_rfl) ?_
      repeat (first | ((apply HQ.assign); (iterate 3 exact rfl)) | (apply HQ.bits; (iterate 3 exact rfl); (with_reducible exact u32_xor _ _); (iterate 2 exact rfl)))
      refine HQ.more rfl ?_
      refine HB.done (by kernel_rfl) ?_
      repeat ((first | apply H.seq | apply H.then_normal))
      refine H.drawB (by kernel_rfl) (by decide +kernel) (by first | exact blind_fn | exact blind_seq blind_fn | exact blind_seq (blind_seq blind_fn) | (repeat (first | exact blind_fn | refine blind_seq ?_ | refine blind_block ?_ | refine blind_loop ?_))) (S := [_]) rfl ?_
      refine HB.quiet [(0, false), (1, false), (2, false), (3, false), (5, false), (6, false), (7, false), (8, false), (11, false), (12, false), (13, false), (14, false), (15, false)] 5 (by kernel_rfl) ?_
      repeat (first | (apply HQ.index_array (i := j + 14); (iterate 3 exact rfl); omega; omega; exact rfl) | (apply HQ.load1; (iterate 3 exact rfl); exact .of (Rd.ofRow (by repeat (first | exact .here _ _ _ | apply At.there))) (hg _ (by omega)); exact rfl) | ((apply HQ.move); (iterate 3 exact rfl)) | ((apply HQ.ar; (iterate 4 exact rfl)); (with_reducible apply wr_i64; omega); exact rfl) | (apply HQ.shift; (iterate 3 exact rfl); (with_reducible exact u32_shr10 _); decide; (iterate 2 exact rfl)))
      refine HQ.more rfl ?_
      refine HB.ev1 (i := 4) (by kernel_rfl) rfl ?_
      refine H.callR rfl rfl rfl (rot_fn f _ (n := 17) (by decide) (by decide)) ?_
      repeat ((apply H.nil))
      refine H.on0 rfl ?_
      refine HB.ev1 (i := 9) (by kernel_rfl) rfl ?_
      refine H.callR rfl rfl rfl (rot_fn f _ (n := 19) (by decide) (by decide)) ?_
      repeat ((apply H.nil))
      refine H.on0 rfl ?_
      refine HB.quiet [(10, false), (16, false), (17, false)] 0 (by kernel_rfl) ?_
      repeat (first | ((apply HQ.assign); (iterate 3 exact rfl)) | (apply HQ.bits; (iterate 3 exact rfl); (with_reducible exact u32_xor _ _); (iterate 2 exact rfl)))
      refine HQ.more rfl ?_
      refine HB.done (by kernel_rfl) ?_
      repeat ((apply H.then_normal))
      refine H.drawC [0, 1, 2, 3, 4, 5, 6, 7, 8, 9, 10, 11, 12, 13, 14] (by kernel_rfl) (by decide +kernel) (by first | exact blind_fn | exact blind_seq blind_fn | exact blind_seq (blind_seq blind_fn) | (repeat (first | exact blind_fn | refine blind_seq ?_ | refine blind_block ?_ | refine blind_loop ?_))) (S := [_]) rfl ?_
      refine HB.quiet [(0, false), (1, false), (2, false), (3, false), (4, false), (5, false), (6, false), (7, false), (8, false), (9, false), (10, false), (11, false), (12, false), (13, false), (14, false)] 1 (by kernel_rfl) ?_
      repeat (first | (apply HQ.index_array (i := j); (iterate 3 exact rfl); omega; omega; exact rfl) | (apply HQ.index_array (i := j + 9); (iterate 3 exact rfl); omega; omega; exact rfl) | (apply HQ.load1; (iterate 3 exact rfl); exact .of (Rd.ofRow (by repeat (first | exact .here _ _ _ | apply At.there))) (hg _ (by omega)); exact rfl) | ((apply HQ.move); (iterate 3 exact rfl)) | ((apply HQ.ar; (iterate 4 exact rfl)); (first | (with_reducible apply wr_i64; omega) | rfl); exact rfl) | (apply HQ.index_array (i := j + 16); (iterate 3 exact rfl); exact rfl; omega; exact rfl))
      refine HQ.more rfl ?_
      refine HB.next [] (by kernel_rfl) (S' := []) rfl ?_
      refine HB.ev1 (i := 15) (by kernel_rfl) rfl ?_
      refine H.store1 (v := w32 _) (ls' := wRow S (j + 16 + 1)) rfl rfl rfl rfl (by repeat (first | exact .here _ _ _ | apply At.there)) (by rw [Nat.mul_one, Nat.zero_add]; exact hset) ?_
      repeat ((apply H.nil))
      refine H.on0 rfl ?_
      refine HB.done (by kernel_rfl) ?_
      repeat (first | ((first | apply H.move | apply H.assign); (iterate 3 exact rfl)) | (first | apply H.region | apply H.nil | apply H.then_normal) | ((apply H.ar; (iterate 4 exact rfl)); (with_reducible apply wr_i64_n1; omega); exact rfl) | (apply H.in_normal))
      exact H.again (j + 1) (by show j + 1 ≤ 48; omega) (by show 48 - (j + 1) < 48 - j; omega) ⟨by show some _ = some (Value.int .i64 ((j + 1 + 16 : Nat) : Int)); rw [show j + 1 + 16 = j + 16 + 1 by omega], rfl, rfl, rfl, trivial⟩ rfl (by show _ = row wb _ (wRow S (j + 1 + 16)) :: _; rw [show j + 1 + 16 = j + 16 + 1 by omega]; rfl)
    · have hj48 : j = 48 := by omega
      subst hj48
      repeat (first | ((apply H.move); (iterate 3 exact rfl)) | (first | apply H.seq | apply H.region | apply H.nil | apply H.then_normal) | ((apply H.cmp); (iterate 5 exact rfl)) | (apply H.cond_false; exact rfl) | (first | apply H.then_exit | apply H.exit | apply H.in_hit | apply H.loop_exit))
      refine H.loadN (ls := s.vals) rfl rfl rfl (Rd.ofRow (by repeat (first | exact .here _ _ _ | apply At.there))) rfl rfl ?_
      refine H.alloc (ls := List.replicate 8 (.int .u32 0)) rfl rfl rfl fun vb => ?_
      refine H.storeN (ls := List.replicate 8 (.int .u32 0)) (vs := s.vals) (ls' := s.vals) rfl rfl rfl (allOne_mem rfl) rfl rfl (Nat.le_refl 8) (by repeat (first | exact .here _ _ _ | apply At.there)) ?_
      repeat ((first | apply H.seq | apply H.region | apply H.nil | apply H.then_normal))
      refine H.callR rfl rfl rfl (k_fn2 f _) ?_
      refine H.alloc (ls := List.replicate 64 (.int .u32 0)) rfl rfl rfl fun kb => ?_
      refine H.storeN (ls := List.replicate 64 (.int .u32 0)) (vs := Sha.k.map w32) (ls' := Sha.k.map w32) rfl rfl rfl (allOne_mem rfl) rfl rfl (Nat.le_refl 64) (by repeat (first | exact .here _ _ _ | apply At.there)) ?_
      repeat (first | ((apply H.assign); (iterate 3 exact rfl)) | (first | apply H.seq | apply H.region | apply H.nil | apply H.then_normal) | (apply H.block))
      have hgS : ∀ k, k < 64 → (wRow S (48 + 16))[k * 1]? = some (w32 (S.getD k 0)) := fun k hk => by rw [Nat.mul_one]; exact wRow_get hS (by omega) (by omega)
      have hgK : ∀ k, k < 64 → (Sha.k.map w32)[k * 1]? = some (w32 (Sha.k.getD k 0)) := fun k hk => by rw [Nat.mul_one]; exact map_get w32 hk 0
      generalize wRow S (48 + 16) = WL at hgS ⊢
      generalize hKL : Sha.k.map w32 = KL at hgK ⊢
      refine H.drop (x := row nb _ _) (by repeat (first | exact .here _ _ | apply Pull.there)) ?_
      refine H.front (x := row vb _ _) (by repeat (first | exact .here _ _ | apply Pull.there)) ?_
      refine H.loop (ι := Nat) (fun i => [(12, .int .i64 (i : Int)), (10, .pointer (some ⟨vb, 0, none⟩)), (11, .pointer (some ⟨kb, 0, none⟩)), (2, .pointer (some ⟨sb, 0, none⟩)), (4, .pointer (some ⟨ob, 0, none⟩)), (5, .pointer (some ⟨wb, 0, none⟩))]) (fun _ => f)
        (fun i => row vb 127 (Sha.rounds S s i).vals :: row kb 135 KL :: row wb 135 WL :: row ob 127 (List.replicate 8 (.int .u32 0)) :: row sb 127 s.vals :: F) (fun i => i ≤ 64) (fun i => 64 - i) 0 (Nat.zero_le _) ⟨rfl, rfl, rfl, rfl, rfl, rfl, trivial⟩ rfl rfl fun i hi => ?_
      have hi : i ≤ 64 := hi
      by_cases hlt : i < 64
      · have hr : Sha.rounds S s (i + 1) = Sha.round (Sha.k.getD i 0) (S.getD i 0) (Sha.rounds S s i) := rfl
        have hgs := hgS i hlt
        have hgk := hgK i hlt
        generalize Sha.k.getD i 0 = kk at hr hgk
        generalize S.getD i 0 = ww at hr hgs
        show H _ _ _ _ _ (row vb _ (Sha.rounds S s i).vals :: _) _
        generalize Sha.rounds S s i = v at hr ⊢
        repeat (first | ((first | apply H.move | apply H.assign); (iterate 3 exact rfl)) | (apply H.load1; (iterate 3 exact rfl); apply Rd1.ofRow; (repeat (exact .here _ _ _)); (iterate 2 exact rfl)) | (first | apply H.seq | apply H.region | apply H.nil | apply H.then_normal) | ((apply H.cmp); (iterate 5 exact rfl)) | (first | apply H.skip | apply H.block) | (apply H.cond_yes; exact rfl; (omega)) | (apply H.index_arrT; (iterate 3 exact rfl); decide; exact rfl))
        refine H.drawB (by kernel_rfl) (by decide +kernel) (by first | exact blind_fn | exact blind_seq blind_fn | exact blind_seq (blind_seq blind_fn) | (repeat (first | exact blind_fn | refine blind_seq ?_ | refine blind_block ?_ | refine blind_loop ?_))) (S := [_, _, _]) rfl ?_
        refine HB.quiet [(0, false), (1, false), (2, false), (4, false), (7, false), (11, false), (12, false), (13, false), (14, false), (15, false), (16, false), (17, false), (18, false), (19, false), (20, false), (22, false), (23, false), (24, false), (26, false), (27, false), (28, false)] 10 (by kernel_rfl) ?_
        repeat (first | (apply HQ.index_array (i := i); (iterate 3 exact rfl); exact rfl; exact hlt; exact rfl) | (apply HQ.load1; (iterate 3 exact rfl); exact .of (Rd.ofRow (by repeat (first | exact .here _ _ _ | apply At.there))) hgk; exact rfl) | (apply HQ.load1; (iterate 3 exact rfl); exact .of (Rd.ofRow (by repeat (first | exact .here _ _ _ | apply At.there))) hgs; exact rfl) | ((apply HQ.move); (iterate 3 exact rfl)) | (apply HQ.load1; (iterate 3 exact rfl); apply Rd1.ofRow; (repeat (exact .here _ _ _)); (iterate 2 exact rfl)) | (apply HQ.bits; (iterate 3 exact rfl); (first | with_reducible exact u32_xor _ _ | with_reducible exact u32_and _ _); (iterate 2 exact rfl)) | (apply HQ.flip; (iterate 2 exact rfl); exact u32_not _; (iterate 2 exact rfl)) | (apply HQ.index_arrT; (iterate 3 exact rfl); decide; exact rfl))
        refine HQ.more rfl ?_
        refine HB.ev1 (i := 3) (by kernel_rfl) rfl ?_
        refine H.callR rfl rfl rfl (rot_fn f _ (n := 6) (by decide) (by decide)) ?_
        repeat ((apply H.nil))
        refine H.on0 rfl ?_
        refine HB.ev1 (i := 5) (by kernel_rfl) rfl ?_
        refine H.callR rfl rfl rfl (rot_fn f _ (n := 11) (by decide) (by decide)) ?_
        repeat ((apply H.nil))
        refine H.on0 rfl ?_
        refine HB.quiet [(6, false)] 7 (by kernel_rfl) ?_
        repeat ((apply HQ.bits; (iterate 3 exact rfl); (with_reducible exact u32_xor _ _); (iterate 2 exact rfl)))
        refine HQ.more rfl ?_
        refine HB.ev1 (i := 8) (by kernel_rfl) rfl ?_
        refine H.callR rfl rfl rfl (rot_fn f _ (n := 25) (by decide) (by decide)) ?_
        repeat ((apply H.nil))
        refine H.on0 rfl ?_
        refine HB.quiet [(9, false), (10, false), (21, false), (25, false), (29, false), (30, false)] 0 (by kernel_rfl) ?_
        repeat (first | ((apply HQ.assign); (iterate 3 exact rfl)) | ((apply HQ.ar; (iterate 4 exact rfl)); (rfl); exact rfl) | (apply HQ.bits; (iterate 3 exact rfl); (with_reducible exact u32_xor _ _); (iterate 2 exact rfl)))
        refine HQ.more rfl ?_
        refine HB.done (by kernel_rfl) ?_
        repeat ((first | apply H.seq | apply H.then_normal))
        refine H.drawB (by kernel_rfl) (by decide +kernel) (by first | exact blind_fn | exact blind_seq blind_fn | exact blind_seq (blind_seq blind_fn) | (repeat (first | exact blind_fn | refine blind_seq ?_ | refine blind_block ?_ | refine blind_loop ?_))) (S := [_, _, _]) rfl ?_
        refine HB.quiet [(0, false), (2, false), (5, false), (8, false), (9, false), (10, false), (11, false), (12, false), (13, false), (14, false), (15, false), (16, false), (17, false), (18, false), (19, false), (20, false), (21, false), (22, false)] 7 (by kernel_rfl) ?_
        repeat (first | ((apply HQ.move); (iterate 3 exact rfl)) | (apply HQ.load1; (iterate 3 exact rfl); apply Rd1.ofRow; (repeat (exact .here _ _ _)); (iterate 2 exact rfl)) | (apply HQ.bits; (iterate 3 exact rfl); (first | with_reducible exact u32_xor _ _ | with_reducible exact u32_and _ _); (iterate 2 exact rfl)) | (apply HQ.index_arrT; (iterate 3 exact rfl); decide; exact rfl))
        refine HQ.more rfl ?_
        refine HB.ev1 (i := 1) (by kernel_rfl) rfl ?_
        refine H.callR rfl rfl rfl (rot_fn f _ (n := 2) (by decide) (by decide)) ?_
        repeat ((apply H.nil))
        refine H.on0 rfl ?_
        refine HB.ev1 (i := 3) (by kernel_rfl) rfl ?_
        refine H.callR rfl rfl rfl (rot_fn f _ (n := 13) (by decide) (by decide)) ?_
        repeat ((apply H.nil))
        refine H.on0 rfl ?_
        refine HB.quiet [(4, false)] 4 (by kernel_rfl) ?_
        repeat ((apply HQ.bits; (iterate 3 exact rfl); (with_reducible exact u32_xor _ _); (iterate 2 exact rfl)))
        refine HQ.more rfl ?_
        refine HB.ev1 (i := 6) (by kernel_rfl) rfl ?_
        refine H.callR rfl rfl rfl (rot_fn f _ (n := 22) (by decide) (by decide)) ?_
        repeat ((apply H.nil))
        refine H.on0 rfl ?_
        refine HB.quiet [(7, false), (23, false), (24, false)] 0 (by kernel_rfl) ?_
        repeat (first | ((apply HQ.assign); (iterate 3 exact rfl)) | ((apply HQ.ar; (iterate 4 exact rfl)); (rfl); exact rfl) | (apply HQ.bits; (iterate 3 exact rfl); (with_reducible exact u32_xor _ _); (iterate 2 exact rfl)))
        refine HQ.more rfl ?_
        refine HB.done (by kernel_rfl) ?_
        repeat (first | ((apply H.move); (iterate 3 exact rfl)) | (apply H.load1; (iterate 3 exact rfl); apply Rd1.ofRow; (repeat (exact .here _ _ _)); (iterate 2 exact rfl)) | (first | apply H.region | apply H.then_normal) | ((apply H.ar; (iterate 4 exact rfl)); (rfl); exact rfl) | (apply H.index_arrT; (iterate 3 exact rfl); decide; exact rfl))
        refine H.buildA (out := (Sha.round kk ww v).vals) rfl rfl rfl rfl rfl ?_
        refine H.storeN (ls := v.vals) (vs := (Sha.round kk ww v).vals) (ls' := (Sha.round kk ww v).vals) rfl rfl rfl (allOne_mem rfl) rfl rfl (Nat.le_refl 8) (by repeat (first | exact .here _ _ _ | apply At.there)) ?_
        repeat (first | ((first | apply H.move | apply H.assign); (iterate 3 exact rfl)) | (first | apply H.region | apply H.nil | apply H.then_normal) | ((apply H.ar; (iterate 4 exact rfl)); (with_reducible apply wr_i64_n1; omega); exact rfl) | (apply H.in_normal))
        exact H.again (i + 1) (by show i + 1 ≤ 64; omega) (by show 64 - (i + 1) < 64 - i; omega) ⟨rfl, rfl, rfl, rfl, rfl, rfl, trivial⟩ rfl (by rw [hr]; rfl)
      · have hi64 : i = 64 := by omega
        subst hi64
        generalize Sha.rounds S s 64 = v
        repeat (first | ((first | apply H.move | apply H.assign); (iterate 3 exact rfl)) | (first | apply H.seq | apply H.region | apply H.nil | apply H.then_normal) | ((apply H.cmp); (iterate 5 exact rfl)) | (apply H.cond_false; exact rfl) | (first | apply H.then_exit | apply H.exit | apply H.block | apply H.in_hit | apply H.loop_exit))
        refine H.drop (x := row kb _ _) (by repeat (first | exact .here _ _ | apply Pull.there)) ?_
        refine H.drop (x := row wb _ _) (by repeat (first | exact .here _ _ | apply Pull.there)) ?_
        refine H.front (x := row sb _ _) (by repeat (first | exact .here _ _ | apply Pull.there)) ?_
        refine H.front (x := row vb _ _) (by repeat (first | exact .here _ _ | apply Pull.there)) ?_
        refine H.loop (ι := Nat) (fun i => [(17, .int .i64 (i : Int)), (10, .pointer (some ⟨vb, 0, none⟩)), (2, .pointer (some ⟨sb, 0, none⟩)), (4, .pointer (some ⟨ob, 0, none⟩))]) (fun _ => f)
          (fun i => row vb 127 (addRow v s i) :: row sb 127 s.vals :: row ob 127 (List.replicate 8 (.int .u32 0)) :: F) (fun i => i ≤ 8) (fun i => 8 - i) 0 (Nat.zero_le _) ⟨rfl, rfl, rfl, rfl, trivial⟩ rfl rfl fun i hi => ?_
        have hi : i ≤ 8 := hi
        by_cases hlt : i < 8
        · have hset := addRow_set v s hlt
          have hg := addRow_get v s hlt
          have hg2 := Sha.S8.get_vals s hlt
          show H _ _ _ _ _ (row vb _ (addRow v s i) :: _) _
          repeat (first | ((apply H.move); (iterate 3 exact rfl)) | (first | apply H.seq | apply H.region | apply H.nil | apply H.then_normal) | ((apply H.cmp); (iterate 5 exact rfl)) | (first | apply H.skip | apply H.block) | (apply H.cond_yes; exact rfl; (omega)))
          refine H.drawC [0, 1, 2, 3, 4, 5, 6, 7, 8] (by kernel_rfl) (by decide +kernel) (by first | exact blind_fn | exact blind_seq blind_fn | exact blind_seq (blind_seq blind_fn) | (repeat (first | exact blind_fn | refine blind_seq ?_ | refine blind_block ?_ | refine blind_loop ?_))) (S := [_, _]) rfl ?_
          refine HB.quiet [(0, false), (1, false), (2, false), (3, false), (4, false), (5, false), (6, false), (7, false), (8, false)] 1 (by kernel_rfl) ?_
          repeat (first | (apply HQ.index_array (i := i); (iterate 3 exact rfl); exact rfl; exact hlt; exact rfl) | (apply HQ.load1; (iterate 3 exact rfl); exact .of (Rd.ofRow (by repeat (first | exact .here _ _ _ | apply At.there))) (by rw [Nat.mul_one]; exact hg); exact rfl) | (apply HQ.load1; (iterate 3 exact rfl); exact .of (Rd.ofRow (by repeat (first | exact .here _ _ _ | apply At.there))) (by rw [Nat.mul_one]; exact hg2); exact rfl) | ((apply HQ.move); (iterate 3 exact rfl)) | ((apply HQ.ar; (iterate 4 exact rfl)); (rfl); exact rfl))
          refine HQ.more rfl ?_
          refine HB.next [] (by kernel_rfl) (S' := []) rfl ?_
          refine HB.ev1 (i := 9) (by kernel_rfl) rfl ?_
          refine H.store1 (v := w32 _) (ls' := addRow v s (i + 1)) rfl rfl rfl rfl (by repeat (first | exact .here _ _ _ | apply At.there)) (by rw [Nat.mul_one, Nat.zero_add]; exact hset) ?_
          repeat ((apply H.nil))
          refine H.on0 rfl ?_
          refine HB.done (by kernel_rfl) ?_
          repeat (first | ((first | apply H.move | apply H.assign); (iterate 3 exact rfl)) | (first | apply H.region | apply H.nil | apply H.then_normal) | ((apply H.ar; (iterate 4 exact rfl)); (with_reducible apply wr_i64_n1; omega); exact rfl) | (apply H.in_normal))
          exact H.again (i + 1) (by show i + 1 ≤ 8; omega) (by show 8 - (i + 1) < 8 - i; omega) ⟨rfl, rfl, rfl, rfl, trivial⟩ rfl rfl
        · have hi8 : i = 8 := by omega
          subst hi8
          repeat (first | ((apply H.move); (iterate 3 exact rfl)) | (first | apply H.seq | apply H.region | apply H.nil | apply H.then_normal) | ((apply H.cmp); (iterate 5 exact rfl)) | (apply H.cond_false; exact rfl) | (first | apply H.then_exit | apply H.exit | apply H.in_hit | apply H.loop_exit))
          refine H.loadN (ls := (v.add s).vals) rfl rfl rfl (Rd.ofRow (by repeat (first | exact .here _ _ _ | apply At.there))) rfl rfl ?_
          refine H.storeN (ls := List.replicate 8 (.int .u32 0)) (vs := (v.add s).vals) (ls' := (v.add s).vals) rfl rfl rfl (allOne_mem rfl) rfl rfl (Nat.le_refl 8) (by repeat (first | exact .here _ _ _ | apply At.there)) ?_
          repeat (first | (first | apply H.nil | apply H.then_normal) | (apply H.ret))
          refine H.drop (x := row vb _ _) (by repeat (first | exact .here _ _ | apply Pull.there)) ?_
          refine H.drop (x := row sb _ _) (by repeat (first | exact .here _ _ | apply Pull.there)) ?_
          exact H.retD rfl rfl rfl (Rd.ofRow (by repeat (first | exact .here _ _ _ | apply At.there))) rfl (fun _ s => s.drop (.here _ _)) ⟨rfl, rfl, rfl⟩
end
end Go.Proofs.Ytcaofnfemogleaa

/- Layer 8, messages: their cells, as Lean data. -/
namespace Go.Proofs.Ytcaofnfemogleaa
set_option linter.unusedSectionVars false
set_option linter.unusedSimpArgs false
set_option linter.unusedVariables false
open Go
/-- 32 bytes. -/
def b32 (t : Nat → UInt8) : List Value := [.int .u8 (t 0).toNat, .int .u8 (t 1).toNat, .int .u8 (t 2).toNat, .int .u8 (t 3).toNat, .int .u8 (t 4).toNat, .int .u8 (t 5).toNat, .int .u8 (t 6).toNat, .int .u8 (t 7).toNat, .int .u8 (t 8).toNat, .int .u8 (t 9).toNat, .int .u8 (t 10).toNat, .int .u8 (t 11).toNat, .int .u8 (t 12).toNat, .int .u8 (t 13).toNat, .int .u8 (t 14).toNat, .int .u8 (t 15).toNat, .int .u8 (t 16).toNat, .int .u8 (t 17).toNat, .int .u8 (t 18).toNat, .int .u8 (t 19).toNat, .int .u8 (t 20).toNat, .int .u8 (t 21).toNat, .int .u8 (t 22).toNat, .int .u8 (t 23).toNat, .int .u8 (t 24).toNat, .int .u8 (t 25).toNat, .int .u8 (t 26).toNat, .int .u8 (t 27).toNat, .int .u8 (t 28).toNat, .int .u8 (t 29).toNat, .int .u8 (t 30).toNat, .int .u8 (t 31).toNat]
/-- The numbers of 11 replicas. -/
def v11 (d : Nat → Int) : List Value := [.int .u64 (d 0), .int .u64 (d 1), .int .u64 (d 2), .int .u64 (d 3), .int .u64 (d 4), .int .u64 (d 5), .int .u64 (d 6), .int .u64 (d 7), .int .u64 (d 8), .int .u64 (d 9), .int .u64 (d 10)]
structure Req where
  client : Int
  time : Int
  kind : UInt8
  key : ByteArray
  val : ByteArray
  old : ByteArray
  to : ByteArray
  amount : Int
  tag : Nat → UInt8
def Req.vals (r : Req) : List Value := [.int .i64 r.client, .int .u64 r.time, .int .u8 (r.kind.toNat : Nat), .string r.key, .string r.val, .string r.old, .string r.to, .int .u64 r.amount] ++ b32 r.tag
def Req.zero : Req := ⟨0, 0, 0, .empty, .empty, .empty, .empty, 0, fun _ => 0⟩
/-- A body; its pairs stand in memory. -/
structure Bod where
  kind : UInt8
  view : Int
  k : Int
  req : Req
  q : List (Int × Int)
  dig : Nat → UInt8
def Bod.vals (x : Bod) (p : Option Addr) (c : Nat) : List Value := [.int .u8 (x.kind.toNat : Nat), .int .u64 x.view, .int .u64 x.k] ++ x.req.vals ++ [.slice p x.q.length c] ++ b32 x.dig
structure Msg where
  origin : Int
  number : Int
  deps : Nat → Int
  body : Bod
  tag : Nat → UInt8
def Msg.vals (m : Msg) (p : Option Addr) (c : Nat) : List Value := [.int .i64 m.origin, .int .u64 m.number] ++ v11 m.deps ++ m.body.vals p c ++ b32 m.tag
def pairV (p : Int × Int) : List Value := [.int .i64 p.1, .int .u64 p.2]
/-- The pairs stand where nobody turns them. -/
def QAt (f : Frag) (p : Option Addr) (q : List (Int × Int)) : Prop := ∀ i x, q[i]? = some x → ∃ b off cs T fr, p = some ⟨b, off, none⟩ ∧ f b = some (.cells cs T fr) ∧ ∀ j, j < (pairV x).length → cs[off + i * 2 + j]? = (pairV x)[j]?
theorem QAt.nil (f : Frag) (p : Option Addr) : QAt f p [] := fun i x h => by simp at h

section
variable (f : Frag) (A : List HP) (x : Bod) (q : Option Addr) (qc : Nat)
theorem view1_fn {p : Option Addr} {c : Nat} {l : List UInt8} (hs : Src Try.prog f A (.slice p l.length c) 1 l.length (bytesV l)) (hn : p = none → l = []) (hl : l.length ≤ 10000000000) :
    Fn Try.prog 89 [.slice p l.length c, .agg (x.vals q qc).toArray] f A (BytesR (l ++ be 8 x.view) f A) := by
  refine Fn.enter Try.func89 rfl Try.ntmps89 rfl (L := [(0, _), (1, _)]) ⟨rfl, rfl, trivial⟩ fun base => ?_
  repeat ((first | apply H.seq | apply H.region))
  refine H.box (ls := x.vals q qc) rfl rfl rfl rfl fun xb => ?_
  repeat (first | ((first | apply H.move | apply H.assign); (iterate 3 exact rfl)) | (apply H.fieldAddr; (iterate 3 exact rfl); exact inferInstance; exact rfl) | (apply H.load1; (iterate 3 exact rfl); apply Rd1.ofRow; (repeat (exact .here _ _ _)); (iterate 2 exact rfl)) | (first | apply H.seq | apply H.region | apply H.nil | apply H.then_normal))
  refine H.callE2 rfl rfl rfl (word_fn f _ hs.cons hn hl) fun p1 c1 => ?_
  repeat (first | ((apply H.assign); (iterate 3 exact rfl)) | (first | apply H.nil | apply H.then_normal) | (apply H.ret))
  refine H.drop (.there _ (.here _ _)) ?_
  exact H.ret1 rfl rfl (fun _ h => h) ⟨p1, c1, rfl, rfl, rfl⟩
theorem view3_fn : Fn Try.prog 91 [.agg (x.vals q qc).toArray] f A (Ret (.bool (decide (1 ≤ x.view))) f A) := by
  refine Fn.enter Try.func91 rfl Try.ntmps91 rfl (L := [(0, _)]) ⟨rfl, trivial⟩ fun base => ?_
  repeat ((first | apply H.seq | apply H.region))
  refine H.box (ls := x.vals q qc) rfl rfl rfl rfl fun xb => ?_
  repeat (first | ((apply H.assign); (iterate 3 exact rfl)) | (apply H.fieldAddr; (iterate 3 exact rfl); exact inferInstance; exact rfl) | (apply H.load1; (iterate 3 exact rfl); apply Rd1.ofRow; (repeat (exact .here _ _ _)); (iterate 2 exact rfl)) | (first | apply H.seq | apply H.region | apply H.nil | apply H.then_normal) | ((apply H.cmp); (iterate 5 exact rfl)) | (apply H.ret))
  refine H.drop (.here _ _) ?_
  exact H.ret1 rfl rfl (fun _ h => h) ⟨rfl, rfl, rfl⟩
theorem k_fn : Fn Try.prog 65 [.agg (x.vals q qc).toArray] f A (Ret (.bool (decide (1 ≤ x.k ∧ x.k ≤ 4611686018427387904))) f A) := by
  by_cases h1 : 1 ≤ x.k
  · refine Fn.enter Try.func65 rfl Try.ntmps65 rfl (L := [(0, _)]) ⟨rfl, trivial⟩ fun base => ?_
    repeat ((first | apply H.seq | apply H.region))
    refine H.box (ls := x.vals q qc) rfl rfl rfl rfl fun xb => ?_
    repeat (first | ((first | apply H.move | apply H.assign); (iterate 3 exact rfl)) | (apply H.fieldAddr; (iterate 3 exact rfl); exact inferInstance; exact rfl) | (apply H.load1; (iterate 3 exact rfl); apply Rd1.ofRow; (repeat (exact .here _ _ _)); (iterate 2 exact rfl)) | (first | apply H.seq | apply H.region | apply H.nil | apply H.then_normal) | ((apply H.cmp); (iterate 5 exact rfl)) | (apply H.pickT; (iterate 4 exact rfl)) | (apply H.ret) | (apply H.gyes; (iterate 3 exact rfl); (assumption)))
    refine H.drop (.here _ _) ?_
    exact H.ret1 rfl rfl (fun _ h => h) ⟨by simp [h1], rfl, rfl⟩
  · refine Fn.enter Try.func65 rfl Try.ntmps65 rfl (L := [(0, _)]) ⟨rfl, trivial⟩ fun base => ?_
    repeat ((first | apply H.seq | apply H.region))
    refine H.box (ls := x.vals q qc) rfl rfl rfl rfl fun xb => ?_
    repeat (first | ((first | apply H.move | apply H.assign); (iterate 3 exact rfl)) | (apply H.fieldAddr; (iterate 3 exact rfl); exact inferInstance; exact rfl) | (apply H.load1; (iterate 3 exact rfl); apply Rd1.ofRow; (repeat (exact .here _ _ _)); (iterate 2 exact rfl)) | (first | apply H.seq | apply H.region | apply H.nil | apply H.then_normal) | ((apply H.cmp); (iterate 5 exact rfl)) | (apply H.pass; (iterate 2 exact rfl)) | ((apply H.pickF); (iterate 4 exact rfl)) | (apply H.ret) | (apply H.gno; (iterate 3 exact rfl); (assumption)))
    refine H.drop (.here _ _) ?_
    exact H.ret1 rfl rfl (fun _ h => h) ⟨by simp [h1], rfl, rfl⟩
def Req.asked (r : Req) : Prop := 1 ≤ r.client ∧ r.client ≤ 8 ∧ 1 ≤ r.time ∧ r.time ≤ 4611686018427387904 ∧ (r.key.size ≤ 32 ∧ r.to.size ≤ 32) ∧ (r.val.size ≤ 128 ∧ r.old.size ≤ 128)
instance (r : Req) : Decidable r.asked := by unfold Req.asked; infer_instance
theorem asked_fn (r : Req) : Fn Try.prog 62 [.agg r.vals.toArray] f A (Ret (.bool (decide r.asked)) f A) := by
  by_cases h1 : 1 ≤ r.client
  · skip
    by_cases h2 : r.client ≤ 8
    · skip
      by_cases h3 : 1 ≤ r.time
      · skip
        by_cases h4 : r.time ≤ 4611686018427387904
        · skip
          by_cases h5 : r.key.size ≤ 32 ∧ r.to.size ≤ 32
          · skip
            by_cases h6 : r.val.size ≤ 128 ∧ r.old.size ≤ 128
            · skip
              refine Fn.enter Try.func62 rfl Try.ntmps62 rfl (L := [(0, _)]) ⟨rfl, trivial⟩ fun base => ?_
              repeat ((first | apply H.seq | apply H.region))
              refine H.box (ls := r.vals) rfl rfl rfl rfl fun xb => ?_
              repeat (first | ((first | apply H.move | apply H.assign | apply H.len_string); (iterate 3 exact rfl)) | (apply H.fieldAddr; (iterate 3 exact rfl); exact inferInstance; exact rfl) | (apply H.load1; (iterate 3 exact rfl); apply Rd1.ofRow; (repeat (exact .here _ _ _)); (iterate 2 exact rfl)) | (first | apply H.seq | apply H.region | apply H.nil | apply H.then_normal) | ((apply H.cmp); (iterate 5 exact rfl)) | (apply H.pickT; (iterate 4 exact rfl)) | (apply H.gyes; (iterate 3 exact rfl); (assumption)))
              refine H.max2 (z := if (r.key.size : Int) < r.to.size then (r.to.size : Int) else r.key.size) rfl rfl rfl rfl rfl ?_
              repeat (first | ((first | apply H.move | apply H.len_string); (iterate 3 exact rfl)) | (apply H.fieldAddr; (iterate 3 exact rfl); exact inferInstance; exact rfl) | (apply H.load1; (iterate 3 exact rfl); apply Rd1.ofRow; (repeat (exact .here _ _ _)); (iterate 2 exact rfl)) | ((apply H.cmp); (iterate 5 exact rfl)) | (apply H.pickT; (iterate 4 exact rfl)) | (apply H.gyes; (iterate 3 exact rfl); (omega)))
              refine H.max2 (z := if (r.val.size : Int) < r.old.size then (r.old.size : Int) else r.val.size) rfl rfl rfl rfl rfl ?_
              repeat (first | ((apply H.assign); (iterate 3 exact rfl)) | (first | apply H.nil | apply H.then_normal) | ((apply H.cmp); (iterate 5 exact rfl)) | (apply H.pickT; (iterate 4 exact rfl)) | (apply H.ret))
              refine H.drop (.here _ _) ?_
              exact H.ret1 rfl rfl (fun _ h => h) ⟨by rw [decide_eq_true (show r.asked from ⟨h1, h2, h3, h4, h5, h6⟩), decide_eq_true (by split <;> omega)], rfl, rfl⟩
            · skip
              refine Fn.enter Try.func62 rfl Try.ntmps62 rfl (L := [(0, _)]) ⟨rfl, trivial⟩ fun base => ?_
              repeat ((first | apply H.seq | apply H.region))
              refine H.box (ls := r.vals) rfl rfl rfl rfl fun xb => ?_
              repeat (first | ((first | apply H.move | apply H.assign | apply H.len_string); (iterate 3 exact rfl)) | (apply H.fieldAddr; (iterate 3 exact rfl); exact inferInstance; exact rfl) | (apply H.load1; (iterate 3 exact rfl); apply Rd1.ofRow; (repeat (exact .here _ _ _)); (iterate 2 exact rfl)) | (first | apply H.seq | apply H.region | apply H.nil | apply H.then_normal) | ((apply H.cmp); (iterate 5 exact rfl)) | (apply H.pickT; (iterate 4 exact rfl)) | (apply H.gyes; (iterate 3 exact rfl); (assumption)))
              refine H.max2 (z := if (r.key.size : Int) < r.to.size then (r.to.size : Int) else r.key.size) rfl rfl rfl rfl rfl ?_
              repeat (first | ((first | apply H.move | apply H.len_string); (iterate 3 exact rfl)) | (apply H.fieldAddr; (iterate 3 exact rfl); exact inferInstance; exact rfl) | (apply H.load1; (iterate 3 exact rfl); apply Rd1.ofRow; (repeat (exact .here _ _ _)); (iterate 2 exact rfl)) | ((apply H.cmp); (iterate 5 exact rfl)) | (apply H.pickT; (iterate 4 exact rfl)) | (apply H.gyes; (iterate 3 exact rfl); (omega)))
              refine H.max2 (z := if (r.val.size : Int) < r.old.size then (r.old.size : Int) else r.val.size) rfl rfl rfl rfl rfl ?_
              repeat (first | ((apply H.assign); (iterate 3 exact rfl)) | (first | apply H.nil | apply H.then_normal) | ((apply H.cmp); (iterate 5 exact rfl)) | (apply H.pickT; (iterate 4 exact rfl)) | (apply H.ret))
              refine H.drop (.here _ _) ?_
              exact H.ret1 rfl rfl (fun _ h => h) ⟨by rw [decide_eq_false (show ¬ r.asked from fun h => h6 h.2.2.2.2.2), decide_eq_false (by split <;> omega)], rfl, rfl⟩
          · skip
            refine Fn.enter Try.func62 rfl Try.ntmps62 rfl (L := [(0, _)]) ⟨rfl, trivial⟩ fun base => ?_
            repeat ((first | apply H.seq | apply H.region))
            refine H.box (ls := r.vals) rfl rfl rfl rfl fun xb => ?_
            repeat (first | ((first | apply H.move | apply H.assign | apply H.len_string); (iterate 3 exact rfl)) | (apply H.fieldAddr; (iterate 3 exact rfl); exact inferInstance; exact rfl) | (apply H.load1; (iterate 3 exact rfl); apply Rd1.ofRow; (repeat (exact .here _ _ _)); (iterate 2 exact rfl)) | (first | apply H.seq | apply H.region | apply H.nil | apply H.then_normal) | ((apply H.cmp); (iterate 5 exact rfl)) | (apply H.pickT; (iterate 4 exact rfl)) | (apply H.gyes; (iterate 3 exact rfl); (assumption)))
            refine H.max2 (z := if (r.key.size : Int) < r.to.size then (r.to.size : Int) else r.key.size) rfl rfl rfl rfl rfl ?_
            repeat (first | ((first | apply H.move | apply H.assign | apply H.len_string); (iterate 3 exact rfl)) | (first | apply H.nil | apply H.then_normal) | ((apply H.cmp); (iterate 5 exact rfl)) | (apply H.pass; (iterate 2 exact rfl)) | (apply H.pickT; (iterate 4 exact rfl)) | ((apply H.pickF); (iterate 4 exact rfl)) | (apply H.ret) | (apply H.gno; (iterate 3 exact rfl); (omega)))
            refine H.drop (.here _ _) ?_
            exact H.ret1 rfl rfl (fun _ h => h) ⟨by rw [decide_eq_false (fun h => h5 h.2.2.2.2.1)], rfl, rfl⟩
        · skip
          refine Fn.enter Try.func62 rfl Try.ntmps62 rfl (L := [(0, _)]) ⟨rfl, trivial⟩ fun base => ?_
          repeat ((first | apply H.seq | apply H.region))
          refine H.box (ls := r.vals) rfl rfl rfl rfl fun xb => ?_
          repeat (first | ((first | apply H.move | apply H.assign | apply H.len_string); (iterate 3 exact rfl)) | (apply H.fieldAddr; (iterate 3 exact rfl); exact inferInstance; exact rfl) | (apply H.load1; (iterate 3 exact rfl); apply Rd1.ofRow; (repeat (exact .here _ _ _)); (iterate 2 exact rfl)) | (first | apply H.seq | apply H.region | apply H.nil | apply H.then_normal) | ((apply H.cmp); (iterate 5 exact rfl)) | (apply H.pass; (iterate 2 exact rfl)) | (apply H.pickT; (iterate 4 exact rfl)) | ((apply H.pickF); (iterate 4 exact rfl)) | (apply H.ret) | (apply H.gyes; (iterate 3 exact rfl); (assumption)) | (apply H.gno; (iterate 3 exact rfl); (assumption)))
          refine H.drop (.here _ _) ?_
          exact H.ret1 rfl rfl (fun _ h => h) ⟨by rw [decide_eq_false (fun h => h4 h.2.2.2.1)], rfl, rfl⟩
      · skip
        refine Fn.enter Try.func62 rfl Try.ntmps62 rfl (L := [(0, _)]) ⟨rfl, trivial⟩ fun base => ?_
        repeat ((first | apply H.seq | apply H.region))
        refine H.box (ls := r.vals) rfl rfl rfl rfl fun xb => ?_
        repeat (first | ((first | apply H.move | apply H.assign | apply H.len_string); (iterate 3 exact rfl)) | (apply H.fieldAddr; (iterate 3 exact rfl); exact inferInstance; exact rfl) | (apply H.load1; (iterate 3 exact rfl); apply Rd1.ofRow; (repeat (exact .here _ _ _)); (iterate 2 exact rfl)) | (first | apply H.seq | apply H.region | apply H.nil | apply H.then_normal) | ((apply H.cmp); (iterate 5 exact rfl)) | (apply H.pass; (iterate 2 exact rfl)) | (apply H.pickT; (iterate 4 exact rfl)) | ((apply H.pickF); (iterate 4 exact rfl)) | (apply H.ret) | (apply H.gyes; (iterate 3 exact rfl); (assumption)) | (apply H.gno; (iterate 3 exact rfl); (assumption)))
        refine H.drop (.here _ _) ?_
        exact H.ret1 rfl rfl (fun _ h => h) ⟨by rw [decide_eq_false (fun h => h3 h.2.2.1)], rfl, rfl⟩
    · skip
      refine Fn.enter Try.func62 rfl Try.ntmps62 rfl (L := [(0, _)]) ⟨rfl, trivial⟩ fun base => ?_
      repeat ((first | apply H.seq | apply H.region))
      refine H.box (ls := r.vals) rfl rfl rfl rfl fun xb => ?_
      repeat (first | ((first | apply H.move | apply H.assign | apply H.len_string); (iterate 3 exact rfl)) | (apply H.fieldAddr; (iterate 3 exact rfl); exact inferInstance; exact rfl) | (apply H.load1; (iterate 3 exact rfl); apply Rd1.ofRow; (repeat (exact .here _ _ _)); (iterate 2 exact rfl)) | (first | apply H.seq | apply H.region | apply H.nil | apply H.then_normal) | ((apply H.cmp); (iterate 5 exact rfl)) | (apply H.pass; (iterate 2 exact rfl)) | (apply H.pickT; (iterate 4 exact rfl)) | ((apply H.pickF); (iterate 4 exact rfl)) | (apply H.ret) | (apply H.gyes; (iterate 3 exact rfl); (assumption)) | (apply H.gno; (iterate 3 exact rfl); (assumption)))
      refine H.drop (.here _ _) ?_
      exact H.ret1 rfl rfl (fun _ h => h) ⟨by rw [decide_eq_false (fun h => h2 h.2.1)], rfl, rfl⟩
  · skip
    refine Fn.enter Try.func62 rfl Try.ntmps62 rfl (L := [(0, _)]) ⟨rfl, trivial⟩ fun base => ?_
    repeat ((first | apply H.seq | apply H.region))
    refine H.box (ls := r.vals) rfl rfl rfl rfl fun xb => ?_
    repeat (first | ((first | apply H.move | apply H.assign | apply H.len_string); (iterate 3 exact rfl)) | (apply H.fieldAddr; (iterate 3 exact rfl); exact inferInstance; exact rfl) | (apply H.load1; (iterate 3 exact rfl); apply Rd1.ofRow; (repeat (exact .here _ _ _)); (iterate 2 exact rfl)) | (first | apply H.seq | apply H.region | apply H.nil | apply H.then_normal) | ((apply H.cmp); (iterate 5 exact rfl)) | (apply H.pass; (iterate 2 exact rfl)) | ((apply H.pickF); (iterate 4 exact rfl)) | (apply H.ret) | (apply H.gno; (iterate 3 exact rfl); (assumption)))
    refine H.drop (.here _ _) ?_
    exact H.ret1 rfl rfl (fun _ h => h) ⟨by rw [decide_eq_false (fun h => h1 h.1)], rfl, rfl⟩
/-- The pairs of a Q: replicas rise, numbers may be. -/
def quo : Int → List (Int × Int) → Bool
  | _, [] => true
  | was, p :: r => if p.1 ≤ was ∨ 11 < p.1 ∨ p.2 < 1 ∨ 65536 < p.2 then false else quo p.1 r
theorem quorum_fn {p : Option Addr} {c : Nat} {l : List (Int × Int)} (hq : QAt f p l) (hl : l.length ≤ 1000000000000) :
    Fn Try.prog 72 [.slice p l.length c] f A (Ret (.bool (quo 0 l && decide (0 < l.length))) f A) := by
  refine Fn.enter Try.func72 rfl Try.ntmps72 rfl (L := [(0, _)]) ⟨rfl, trivial⟩ fun base => ?_
  repeat (first | ((first | apply H.move | apply H.assign | apply H.len_slice); (iterate 3 exact rfl)) | (first | apply H.seq | apply H.region | apply H.nil | apply H.then_normal) | (apply H.block))
  refine H.loop (ι := Nat × Int) (fun i => [(8, .int .i64 (i.1 : Int)), (7, .int .i64 (l.length : Nat)), (3, .int .i64 i.2), (0, .slice p l.length c), (6, .slice p l.length c)]) (fun _ => f) (fun _ => A) (fun i => i.1 ≤ l.length ∧ quo 0 l = quo i.2 (l.drop i.1)) (fun i => l.length - i.1) (0, 0) ⟨Nat.zero_le _, rfl⟩ ⟨rfl, rfl, rfl, rfl, rfl, trivial⟩ rfl rfl fun i hi => ?_
  obtain ⟨i, w⟩ := i
  obtain ⟨hi, hw⟩ : i ≤ l.length ∧ quo 0 l = quo w (l.drop i) := hi
  show H _ _ _ [(8, .int .i64 (i : Int)), _, (3, .int .i64 w), _, _] _ _ _
  rw [hw]
  repeat (first | (first | apply H.seq | apply H.region | apply H.nil | apply H.then_normal) | ((apply H.cmp); (iterate 5 exact rfl)))
  by_cases hlt : i < l.length
  · have hx : l[i]? = some l[i] := List.getElem?_eq_getElem hlt
    have hd : l.drop i = l[i] :: l.drop (i + 1) := List.drop_eq_getElem_cons hlt
    generalize l[i] = x at hx hd
    obtain ⟨b, off, cs, T, fr, rfl, hfb, hcs⟩ := hq i x hx
    have rd : ∀ A, Rd f A b (off + i * 2) (pairV x) := fun A => Rd.imm hfb hcs
    clear hcs hfb
    have hquo : quo w (l.drop i) = if x.1 ≤ w ∨ 11 < x.1 ∨ x.2 < 1 ∨ 65536 < x.2 then false else quo x.1 (l.drop (i + 1)) := by rw [hd]; rfl
    repeat (first | (first | apply H.seq | apply H.region | apply H.then_normal) | (first | apply H.skip | apply H.block) | (apply H.cond_yes; exact rfl; (omega)))
    refine H.index_slice rfl rfl rfl rfl hlt rfl ?_
    refine H.loadN (ls := pairV x) rfl rfl rfl (rd _) rfl rfl ?_
    refine H.alloc rfl rfl rfl fun xb => ?_
    refine H.storeN (ls := [.int .i64 0, .int .u64 0]) (vs := pairV x) (ls' := pairV x) rfl rfl rfl (allOne_mem rfl) rfl rfl (Nat.le_refl 2) (by repeat (first | exact .here _ _ _ | apply At.there)) ?_
    rw [hquo]
    by_cases h1 : x.1 ≤ w
    · rw [if_pos (.inl h1)]
      clear hquo hw
      repeat (first | ((first | apply H.move | apply H.assign); (iterate 3 exact rfl)) | (apply H.fieldAddr; (iterate 3 exact rfl); exact inferInstance; exact rfl) | (apply H.load1; (iterate 3 exact rfl); apply Rd1.ofRow; (repeat (exact .here _ _ _)); (iterate 2 exact rfl)) | (first | apply H.seq | apply H.region | apply H.nil | apply H.then_normal) | ((apply H.cmp); (iterate 5 exact rfl)) | (apply H.pass; (iterate 2 exact rfl)) | (apply H.pickT; (iterate 4 exact rfl)) | (apply H.cond_true; exact rfl) | (first | apply H.ret | apply H.then_ret | apply H.in_ret | apply H.loop_ret) | (apply H.gyes; (iterate 3 exact rfl); (assumption)))
      refine H.drop (.here _ _) ?_
      exact H.ret1 rfl rfl (fun _ h => h) ⟨rfl, rfl, rfl⟩
    · by_cases h2 : 11 < x.1
      · rw [if_pos (.inr (.inl h2))]
        clear hquo hw
        repeat (first | ((first | apply H.move | apply H.assign); (iterate 3 exact rfl)) | (apply H.fieldAddr; (iterate 3 exact rfl); exact inferInstance; exact rfl) | (apply H.load1; (iterate 3 exact rfl); apply Rd1.ofRow; (repeat (exact .here _ _ _)); (iterate 2 exact rfl)) | (first | apply H.seq | apply H.region | apply H.nil | apply H.then_normal) | ((apply H.cmp); (iterate 5 exact rfl)) | (apply H.pass; (iterate 2 exact rfl)) | (apply H.pickT; (iterate 4 exact rfl)) | ((apply H.pickF); (iterate 4 exact rfl)) | (apply H.cond_true; exact rfl) | (first | apply H.ret | apply H.then_ret | apply H.in_ret | apply H.loop_ret) | (apply H.gyes; (iterate 3 exact rfl); (assumption)) | (apply H.gno; (iterate 3 exact rfl); (assumption)))
        refine H.drop (.here _ _) ?_
        exact H.ret1 rfl rfl (fun _ h => h) ⟨rfl, rfl, rfl⟩
      · by_cases h3 : x.2 < 1
        · rw [if_pos (.inr (.inr (.inl h3)))]
          clear hquo hw
          repeat (first | ((first | apply H.move | apply H.assign); (iterate 3 exact rfl)) | (apply H.fieldAddr; (iterate 3 exact rfl); exact inferInstance; exact rfl) | (apply H.load1; (iterate 3 exact rfl); apply Rd1.ofRow; (repeat (exact .here _ _ _)); (iterate 2 exact rfl)) | (first | apply H.seq | apply H.region | apply H.nil | apply H.then_normal) | ((apply H.cmp); (iterate 5 exact rfl)) | (apply H.pass; (iterate 2 exact rfl)) | (apply H.pickT; (iterate 4 exact rfl)) | ((apply H.pickF); (iterate 4 exact rfl)) | (apply H.cond_true; exact rfl) | (first | apply H.ret | apply H.then_ret | apply H.in_ret | apply H.loop_ret) | (apply H.gyes; (iterate 3 exact rfl); (assumption)) | (apply H.gno; (iterate 3 exact rfl); (assumption)))
          refine H.drop (.here _ _) ?_
          exact H.ret1 rfl rfl (fun _ h => h) ⟨rfl, rfl, rfl⟩
        · by_cases h4 : 65536 < x.2
          · rw [if_pos (.inr (.inr (.inr h4)))]
            clear hquo hw
            repeat (first | ((first | apply H.move | apply H.assign); (iterate 3 exact rfl)) | (apply H.fieldAddr; (iterate 3 exact rfl); exact inferInstance; exact rfl) | (apply H.load1; (iterate 3 exact rfl); apply Rd1.ofRow; (repeat (exact .here _ _ _)); (iterate 2 exact rfl)) | (first | apply H.seq | apply H.region | apply H.nil | apply H.then_normal) | ((apply H.cmp); (iterate 5 exact rfl)) | ((apply H.pickF); (iterate 4 exact rfl)) | (first | apply H.ret | apply H.then_ret | apply H.in_ret | apply H.loop_ret) | (apply H.gno; (iterate 3 exact rfl); (assumption)) | (apply H.cond_yes; exact rfl; (assumption)))
            refine H.drop (.here _ _) ?_
            exact H.ret1 rfl rfl (fun _ h => h) ⟨rfl, rfl, rfl⟩
          · have hno : ¬ (x.1 ≤ w ∨ 11 < x.1 ∨ x.2 < 1 ∨ 65536 < x.2) := by omega
            rw [if_neg hno]
            rw [if_neg hno] at hquo
            repeat (first | ((first | apply H.move | apply H.assign); (iterate 3 exact rfl)) | (apply H.fieldAddr; (iterate 3 exact rfl); exact inferInstance; exact rfl) | (apply H.load1; (iterate 3 exact rfl); apply Rd1.ofRow; (repeat (exact .here _ _ _)); (iterate 2 exact rfl)) | (first | apply H.seq | apply H.region | apply H.nil | apply H.then_normal) | ((apply H.cmp); (iterate 5 exact rfl)) | ((apply H.ar; (iterate 4 exact rfl)); (with_reducible apply wr_i64_n1; omega); exact rfl) | ((apply H.pickF); (iterate 4 exact rfl)) | (first | apply H.skip | apply H.in_normal) | (apply H.gno; (iterate 3 exact rfl); (assumption)) | (apply H.cond_no; exact rfl; (assumption)))
            refine H.drop (.here _ _) ?_
            exact H.again (i + 1, x.1) ⟨by show i + 1 ≤ l.length; omega, by first | rfl | exact hw.trans hquo⟩ (by show l.length - (i + 1) < l.length - i; omega) ⟨rfl, rfl, rfl, rfl, rfl, trivial⟩ rfl rfl
  · have : i = l.length := by omega
    subst this
    rw [List.drop_length]
    repeat (first | ((first | apply H.move | apply H.assign | apply H.len_slice); (iterate 3 exact rfl)) | (first | apply H.seq | apply H.region | apply H.nil | apply H.then_normal) | ((apply H.cmp); (iterate 5 exact rfl)) | (first | apply H.ret | apply H.then_exit | apply H.exit | apply H.in_hit | apply H.loop_exit) | (apply H.cond_no; exact rfl; (omega)))
    exact H.ret1 rfl rfl (fun _ h => h) ⟨by simp [quo], rfl, rfl⟩
end
end Go.Proofs.Ytcaofnfemogleaa

/- Layer 8, messages: a request's bytes. -/
namespace Go.Proofs.Ytcaofnfemogleaa
set_option linter.unusedSectionVars false
set_option linter.unusedSimpArgs false
set_option linter.unusedVariables false
open Go
/-- A request's bytes, without its tag. -/
def Req.head (r : Req) : List UInt8 := [UInt8.ofNat (r.client % 256).toNat, r.kind]
def Req.bytes (r : Req) : List UInt8 := r.head ++ be 8 r.time ++ be 8 r.amount ++ textB r.key ++ textB r.val ++ textB r.old ++ textB r.to
def Req.texts (r : Req) : List ByteArray := [r.key, r.val, r.old, r.to]
theorem u8_wrap (z : Int) : IntKind.u8.wrap z = ((UInt8.ofNat (z % 256).toNat).toNat : Int) := by
  have h : IntKind.u8.wrap z = z % 256 := by simp [IntKind.wrap, IntKind.signed, IntKind.bits]
  rw [h]
  have h1 : 0 ≤ z % 256 := Int.emod_nonneg _ (by decide)
  have h2 : z % 256 < 256 := Int.emod_lt_of_pos _ (by decide)
  generalize z % 256 = y at h1 h2
  rw [UInt8.toNat_ofNat']
  omega

section
variable (f : Frag) (A : List HP)
theorem request_fn {p : Option Addr} {c : Nat} {l : List UInt8} (r : Req) (ha : r.asked) (hl : l.length ≤ 1000000000) :
    Fn Try.prog 56 [.slice p l.length c, .agg r.vals.toArray] f (slc p l.length c 5 1 (bytesV l) :: A) (BytesR (l ++ r.bytes) f A) := by
  refine Fn.enter Try.func56 rfl Try.ntmps56 rfl (L := [(0, _), (1, _)]) ⟨rfl, rfl, trivial⟩ fun base => ?_
  repeat ((first | apply H.seq | apply H.region))
  refine H.box (ls := r.vals) rfl rfl rfl rfl fun xb => ?_
  repeat (first | ((first | apply H.move | apply H.assign); (iterate 3 exact rfl)) | (apply H.fieldAddr; (iterate 3 exact rfl); exact inferInstance; exact rfl) | (apply H.load1; (iterate 3 exact rfl); apply Rd1.ofRow; (repeat (exact .here _ _ _)); (iterate 2 exact rfl)) | (first | apply H.seq | apply H.region | apply H.nil | apply H.then_normal) | ((apply H.conv_int; (iterate 2 exact rfl)); (rfl); exact rfl))
  rw [u8_wrap]
  refine H.buildSlice rfl rfl rfl rfl (by decide) (by decide) rfl rfl fun tb => ?_
  refine H.append (m := 2) rfl rfl rfl rfl rfl (fun p' c' => (by repeat (first | exact .here _ _ _ | apply At.there))) (Src.slice (Rd.ofRow (by repeat (first | exact .here _ _ _ | apply At.there))) rfl) (allOne_mem rfl) rfl (by omega) (by omega) fun p2 c2 => ?_
  repeat (first | ((apply H.assign); (iterate 3 exact rfl)) | (first | apply H.seq | apply H.nil | apply H.then_normal))
  refine H.drop (.here _ _) ?_
  have e0 : (l ++ r.head).length = l.length + 2 := by rw [List.length_append]; rfl
  have e1 : bytesV (l ++ r.head) = bytesV l ++ bytesV r.head := bytesV_append _ _
  rw [show (2 : Nat) = 2 from rfl]
  generalize hl1 : l ++ r.head = l1 at e0 e1
  show H _ _ _ _ _ (row _ _ _ :: slc p2 (l.length + 2) c2 _ _ (bytesV l ++ bytesV r.head) :: A) _
  rw [← e0, ← e1]
  refine H.draw (qt 3 0 ++ qt 3 4 ++ [(3, true), (7, true)] ++ qt 1 8) (by kernel_rfl) (by decide +kernel) (by first | exact blind_fn | exact blind_seq blind_fn | exact blind_seq (blind_seq blind_fn) | (repeat (first | exact blind_fn | refine blind_seq ?_ | refine blind_block ?_ | refine blind_loop ?_))) (S := [_]) rfl ?_
  repeat (first | ((apply HQ.move); (iterate 3 exact rfl)) | (apply HQ.fieldAddr; (iterate 3 exact rfl); exact inferInstance; exact rfl) | (apply HQ.load1; (iterate 3 exact rfl); apply Rd1.ofRow; (repeat (exact .here _ _ _)); (iterate 2 exact rfl)))
  refine HQ.event ?_
  refine H.slc_some (.there _ (.here _ _ _)) (by omega) fun b2 hp => ?_
  subst hp
  refine H.callE2 rfl rfl rfl (word_fn (l := l1) f _ (Src.slcS (.there _ (.here _ _ _)) (by rw [bytesV_len]; exact (Nat.mul_one _).symm)) (fun h => by cases h) (by omega)) fun p3 c3 => ?_
  repeat ((apply H.nil))
  refine H.drop (.there _ (.there _ (.here _ _))) ?_
  refine H.slc_some (.here _ _ _) (by rw [List.length_append]; omega) fun b3 hp => ?_
  subst hp
  refine H.front (.there _ (.here _ _)) ?_
  refine H.back (A := [_]) rfl ?_
  refine HQ.event ?_
  refine H.callE2 rfl rfl rfl (word_fn (l := l1 ++ be 8 r.time) f _ (Src.slcS (.there _ (.here _ _ _)) (by rw [bytesV_len]; exact (Nat.mul_one _).symm)) (fun h => by cases h) (by rw [List.length_append, be_len]; omega)) fun p4 c4 => ?_
  repeat ((apply H.nil))
  refine H.drop (.there _ (.there _ (.here _ _))) ?_
  refine H.front (.there _ (.here _ _)) ?_
  refine H.back (A := [_]) rfl ?_
  repeat (first | ((apply HQ.assign); (iterate 3 exact rfl)) | ((apply HQ.done); exact rfl))
  repeat (first | (apply H.fieldAddr; (iterate 3 exact rfl); exact inferInstance; exact rfl) | (apply H.load1; (iterate 3 exact rfl); apply Rd1.ofRow; (repeat (exact .here _ _ _)); (iterate 2 exact rfl)) | (first | apply H.seq | apply H.region | apply H.then_normal))
  refine H.buildSlice rfl rfl rfl rfl (by decide) (by decide) rfl rfl fun sb => ?_
  repeat (first | ((first | apply H.move | apply H.len_slice); (iterate 3 exact rfl)) | (first | apply H.nil | apply H.then_normal) | (apply H.block))
  have hsz : ∀ (i : Nat) (s : ByteArray), r.texts[i]? = some s → s.size ≤ 128 := by
    obtain ⟨_, _, _, _, ⟨k1, k2⟩, k3, k4⟩ := ha
    intro i s hs
    have := List.mem_of_getElem? hs
    simp only [Req.texts, List.mem_cons, List.not_mem_nil, or_false] at this
    rcases this with rfl | rfl | rfl | rfl <;> omega
  generalize hl2 : l1 ++ be 8 r.time ++ be 8 r.amount = l2
  have e2 : l2.length = l1.length + 16 := by rw [← hl2, List.length_append, List.length_append, be_len, be_len]
  refine H.loop (ι := Nat × Option Addr × Nat) (fun i => [(38, .int .i64 (i.1 : Int)), (37, .int .i64 4), (36, .slice (some ⟨sb, 0, none⟩) 4 4), (0, .slice i.2.1 (l2 ++ (r.texts.take i.1).flatMap textB).length i.2.2)]) (fun _ => f)
    (fun i => row sb 9 [.string r.key, .string r.val, .string r.old, .string r.to] :: row xb 56 r.vals :: slc i.2.1 (l2 ++ (r.texts.take i.1).flatMap textB).length i.2.2 5 1 (bytesV (l2 ++ (r.texts.take i.1).flatMap textB)) :: A)
    (fun i => i.1 ≤ 4 ∧ (l2 ++ (r.texts.take i.1).flatMap textB).length ≤ l2.length + 200 * i.1) (fun i => 4 - i.1) (0, p4, c4) ?_ ?_ rfl ?_ fun i hi => ?_
  · exact ⟨Nat.zero_le _, by simp⟩
  · refine ⟨rfl, rfl, rfl, ?_, trivial⟩
    show some (Value.slice p4 l2.length c4) = some (Value.slice p4 (l2 ++ []).length c4)
    rw [List.append_nil]
  · show _ = _ :: _ :: slc p4 (l2 ++ []).length c4 _ 1 (bytesV (l2 ++ [])) :: A
    rw [List.append_nil]
    rfl
  · obtain ⟨i, p', c'⟩ := i
    obtain ⟨hi, hlen⟩ : i ≤ 4 ∧ (l2 ++ (r.texts.take i).flatMap textB).length ≤ l2.length + 200 * i := hi
    show H _ _ _ [(38, .int .i64 (i : Int)), _, _, (0, .slice p' (l2 ++ (r.texts.take i).flatMap textB).length c')] _ (_ :: _ :: slc p' (l2 ++ (r.texts.take i).flatMap textB).length c' _ 1 (bytesV (l2 ++ (r.texts.take i).flatMap textB)) :: A) _
    generalize hacc : l2 ++ (r.texts.take i).flatMap textB = acc at hlen
    have hpos : l2.length ≤ acc.length := by rw [← hacc, List.length_append]; omega
    repeat (first | (first | apply H.seq | apply H.region | apply H.nil | apply H.then_normal) | ((apply H.cmp); (iterate 5 exact rfl)))
    by_cases hlt : i < 4
    · obtain ⟨s, hs⟩ : ∃ s, r.texts[i]? = some s := ⟨r.texts[i]'hlt, List.getElem?_eq_getElem hlt⟩
      have hv : ([.string r.key, .string r.val, .string r.old, .string r.to] : List Value)[i]? = some (.string s) := by
        have : ([.string r.key, .string r.val, .string r.old, .string r.to] : List Value) = r.texts.map Value.string := rfl
        rw [this, List.getElem?_map, hs]; rfl
      have hs128 := hsz i s hs
      have e3 : l2 ++ (r.texts.take (i + 1)).flatMap textB = acc ++ textB s := by
        rw [List.take_add_one, hs, ← hacc]; simp
      refine H.slc_some (.there _ (.there _ (.here _ _ _))) (by omega) fun b' hp => ?_
      subst hp
      repeat (first | (first | apply H.seq | apply H.region | apply H.then_normal) | (first | apply H.skip | apply H.block) | (apply H.cond_yes; exact rfl; (omega)))
      refine H.index1 rfl rfl rfl rfl hlt rfl ?_
      refine H.load1 rfl rfl rfl (.of (Rd.ofRow (by repeat (first | exact .here _ _ _ | apply At.there))) hv) rfl ?_
      repeat (first | ((first | apply H.move | apply H.assign); (iterate 3 exact rfl)) | (first | apply H.region | apply H.nil | apply H.then_normal))
      refine H.callE2 rfl rfl rfl (text_fn (l := acc) f _ (Src.slcS (.there _ (.there _ (.here _ _ _))) (by rw [bytesV_len]; exact (Nat.mul_one _).symm)) (fun h => by cases h) (by omega) (by omega)) fun p5 c5 => ?_
      repeat (first | ((first | apply H.move | apply H.assign); (iterate 3 exact rfl)) | (first | apply H.region | apply H.nil | apply H.then_normal) | ((apply H.ar; (iterate 4 exact rfl)); (with_reducible apply wr_i64_n1; omega); exact rfl) | ((apply H.extract); (iterate 4 exact rfl)) | (apply H.in_normal))
      refine H.drop (.there _ (.there _ (.there _ (.here _ _)))) ?_
      refine H.front (.there _ (.there _ (.here _ _))) ?_
      refine H.front (.there _ (.there _ (.here _ _))) ?_
      have hts : (textB s).length ≤ 200 := by unfold textB; rw [List.length_append, be_len, data_len]; omega
      refine H.again (i + 1, p5, c5) ⟨by show i + 1 ≤ 4; omega, ?_⟩ (by show 4 - (i + 1) < 4 - i; omega) ⟨rfl, rfl, rfl, ?_, trivial⟩ rfl ?_
      · show (l2 ++ (r.texts.take (i + 1)).flatMap textB).length ≤ l2.length + 200 * (i + 1)
        rw [e3, List.length_append]; omega
      · show some _ = some (Value.slice p5 (l2 ++ (r.texts.take (i + 1)).flatMap textB).length c5)
        rw [e3]
      · show _ = _ :: _ :: slc p5 (l2 ++ (r.texts.take (i + 1)).flatMap textB).length c5 _ 1 (bytesV (l2 ++ (r.texts.take (i + 1)).flatMap textB)) :: A
        rw [e3]
    · have : i = 4 := by omega
      subst this
      repeat (first | ((first | apply H.move | apply H.assign); (iterate 3 exact rfl)) | (first | apply H.seq | apply H.region | apply H.nil | apply H.then_normal) | (apply H.cond_false; exact rfl) | (first | apply H.ret | apply H.then_exit | apply H.exit | apply H.in_hit | apply H.loop_exit))
      refine H.drop (.here _ _) ?_
      refine H.drop (.here _ _) ?_
      have e4 : acc = l ++ r.bytes := by rw [← hacc, ← hl2, ← hl1]; simp [Req.bytes, Req.texts]
      subst e4
      exact H.ret1 rfl rfl (fun _ h => h) ⟨p', c', rfl, rfl, rfl⟩
end
end Go.Proofs.Ytcaofnfemogleaa

/- Layer 8, messages: a request's bytes, by the document. -/
namespace Go.Proofs.Ytcaofnfemogleaa
set_option linter.unusedSectionVars false
set_option linter.unusedSimpArgs false
set_option linter.unusedVariables false
open Go
section
variable (f : Frag) (A : List HP)
theorem rrequest_fn {p : Option Addr} {c : Nat} {l : List UInt8} (r : Req) (ha : r.asked) (hl : l.length ≤ 1000000000) :
    Fn Try.prog 54 [.slice p l.length c, .agg r.vals.toArray] f (slc p l.length c 5 1 (bytesV l) :: A) (BytesR (l ++ r.bytes) f A) := by
  refine Fn.enter Try.func54 rfl Try.ntmps54 rfl (L := [(0, _), (1, _)]) ⟨rfl, rfl, trivial⟩ fun base => ?_
  repeat ((first | apply H.seq | apply H.region))
  refine H.box (ls := r.vals) rfl rfl rfl rfl fun xb => ?_
  repeat (first | ((first | apply H.move | apply H.assign); (iterate 3 exact rfl)) | (apply H.fieldAddr; (iterate 3 exact rfl); exact inferInstance; exact rfl) | (apply H.load1; (iterate 3 exact rfl); apply Rd1.ofRow; (repeat (exact .here _ _ _)); (iterate 2 exact rfl)) | (first | apply H.seq | apply H.region | apply H.nil | apply H.then_normal) | ((apply H.conv_int; (iterate 2 exact rfl)); (rfl); exact rfl))
  rw [u8_wrap]
  refine H.buildSlice rfl rfl rfl rfl (by decide) (by decide) rfl rfl fun tb => ?_
  refine H.append (m := 2) rfl rfl rfl rfl rfl (fun p' c' => (by repeat (first | exact .here _ _ _ | apply At.there))) (Src.slice (Rd.ofRow (by repeat (first | exact .here _ _ _ | apply At.there))) rfl) (allOne_mem rfl) rfl (by omega) (by omega) fun p2 c2 => ?_
  repeat (first | ((apply H.assign); (iterate 3 exact rfl)) | (first | apply H.seq | apply H.nil | apply H.then_normal))
  refine H.drop (.here _ _) ?_
  have e0 : (l ++ r.head).length = l.length + 2 := by rw [List.length_append]; rfl
  have e1 : bytesV (l ++ r.head) = bytesV l ++ bytesV r.head := bytesV_append _ _
  rw [show (2 : Nat) = 2 from rfl]
  generalize hl1 : l ++ r.head = l1 at e0 e1
  show H _ _ _ _ _ (row _ _ _ :: slc p2 (l.length + 2) c2 _ _ (bytesV l ++ bytesV r.head) :: A) _
  rw [← e0, ← e1]
  refine H.draw (qt 3 0 ++ qt 3 4 ++ [(3, true), (7, true)] ++ qt 1 8) (by kernel_rfl) (by decide +kernel) (by first | exact blind_fn | exact blind_seq blind_fn | exact blind_seq (blind_seq blind_fn) | (repeat (first | exact blind_fn | refine blind_seq ?_ | refine blind_block ?_ | refine blind_loop ?_))) (S := [_]) rfl ?_
  repeat (first | ((apply HQ.move); (iterate 3 exact rfl)) | (apply HQ.fieldAddr; (iterate 3 exact rfl); exact inferInstance; exact rfl) | (apply HQ.load1; (iterate 3 exact rfl); apply Rd1.ofRow; (repeat (exact .here _ _ _)); (iterate 2 exact rfl)))
  refine HQ.event ?_
  refine H.slc_some (.there _ (.here _ _ _)) (by omega) fun b2 hp => ?_
  subst hp
  refine H.callE2 rfl rfl rfl (rword_fn (l := l1) f _ (Src.slcS (.there _ (.here _ _ _)) (by rw [bytesV_len]; exact (Nat.mul_one _).symm)) (by omega)) fun p3 c3 => ?_
  repeat ((apply H.nil))
  refine H.drop (.there _ (.there _ (.here _ _))) ?_
  refine H.slc_some (.here _ _ _) (by rw [List.length_append]; omega) fun b3 hp => ?_
  subst hp
  refine H.front (.there _ (.here _ _)) ?_
  refine H.back (A := [_]) rfl ?_
  refine HQ.event ?_
  refine H.callE2 rfl rfl rfl (rword_fn (l := l1 ++ be 8 r.time) f _ (Src.slcS (.there _ (.here _ _ _)) (by rw [bytesV_len]; exact (Nat.mul_one _).symm)) (by rw [List.length_append, be_len]; omega)) fun p4 c4 => ?_
  repeat ((apply H.nil))
  refine H.drop (.there _ (.there _ (.here _ _))) ?_
  refine H.front (.there _ (.here _ _)) ?_
  refine H.back (A := [_]) rfl ?_
  repeat (first | ((apply HQ.assign); (iterate 3 exact rfl)) | ((apply HQ.done); exact rfl))
  repeat (first | ((apply H.move); (iterate 3 exact rfl)) | (apply H.fieldAddr; (iterate 3 exact rfl); exact inferInstance; exact rfl) | (apply H.load1; (iterate 3 exact rfl); apply Rd1.ofRow; (repeat (exact .here _ _ _)); (iterate 2 exact rfl)) | (first | apply H.seq | apply H.region | apply H.then_normal))
  obtain ⟨_, _, _, _, ⟨k1, k2⟩, k3, k4⟩ := ha
  generalize hl2 : l1 ++ be 8 r.time ++ be 8 r.amount = l2
  have e2 : l2.length = l1.length + 16 := by rw [← hl2, List.length_append, List.length_append, be_len, be_len]
  refine H.callE2 rfl rfl rfl (rtext_fn (l := l2) f _ (Src.slcS (.there _ (.here _ _ _)) (by rw [bytesV_len]; exact (Nat.mul_one _).symm)) (by omega) (by omega)) fun p5 c5 => ?_
  generalize hm0 : l2 ++ textB r.key = m0
  have em0 : m0.length ≤ l2.length + 200 := by rw [← hm0, List.length_append]; unfold textB; rw [List.length_append, be_len, data_len]; omega
  repeat (first | ((first | apply H.move | apply H.assign); (iterate 3 exact rfl)) | (apply H.fieldAddr; (iterate 3 exact rfl); exact inferInstance; exact rfl) | (apply H.load1; (iterate 3 exact rfl); apply Rd1.ofRow; (repeat (first | exact .here _ _ _ | apply At.there)); (iterate 2 exact rfl)) | (first | apply H.seq | apply H.region | apply H.nil | apply H.then_normal) | ((apply H.extract); (iterate 4 exact rfl)))
  refine H.drop (.there _ (.there _ (.here _ _))) ?_
  refine H.front (.there _ (.here _ _)) ?_
  skip
  refine H.callE2 rfl rfl rfl (rtext_fn (l := m0) f _ (Src.slcS (.there _ (.here _ _ _)) (by rw [bytesV_len]; exact (Nat.mul_one _).symm)) (by omega) (by omega)) fun p6 c6 => ?_
  generalize hm1 : m0 ++ textB r.val = m1
  have em1 : m1.length ≤ m0.length + 200 := by rw [← hm1, List.length_append]; unfold textB; rw [List.length_append, be_len, data_len]; omega
  repeat (first | ((first | apply H.move | apply H.assign); (iterate 3 exact rfl)) | (apply H.fieldAddr; (iterate 3 exact rfl); exact inferInstance; exact rfl) | (apply H.load1; (iterate 3 exact rfl); apply Rd1.ofRow; (repeat (first | exact .here _ _ _ | apply At.there)); (iterate 2 exact rfl)) | (first | apply H.seq | apply H.region | apply H.nil | apply H.then_normal) | ((apply H.extract); (iterate 4 exact rfl)))
  refine H.drop (.there _ (.there _ (.here _ _))) ?_
  refine H.front (.there _ (.here _ _)) ?_
  skip
  refine H.callE2 rfl rfl rfl (rtext_fn (l := m1) f _ (Src.slcS (.there _ (.here _ _ _)) (by rw [bytesV_len]; exact (Nat.mul_one _).symm)) (by omega) (by omega)) fun p7 c7 => ?_
  generalize hm2 : m1 ++ textB r.old = m2
  have em2 : m2.length ≤ m1.length + 200 := by rw [← hm2, List.length_append]; unfold textB; rw [List.length_append, be_len, data_len]; omega
  repeat (first | ((first | apply H.move | apply H.assign); (iterate 3 exact rfl)) | (apply H.fieldAddr; (iterate 3 exact rfl); exact inferInstance; exact rfl) | (apply H.load1; (iterate 3 exact rfl); apply Rd1.ofRow; (repeat (first | exact .here _ _ _ | apply At.there)); (iterate 2 exact rfl)) | (first | apply H.seq | apply H.region | apply H.nil | apply H.then_normal) | ((apply H.extract); (iterate 4 exact rfl)))
  refine H.drop (.there _ (.there _ (.here _ _))) ?_
  refine H.front (.there _ (.here _ _)) ?_
  skip
  refine H.callE2 rfl rfl rfl (rtext_fn (l := m2) f _ (Src.slcS (.there _ (.here _ _ _)) (by rw [bytesV_len]; exact (Nat.mul_one _).symm)) (by omega) (by omega)) fun p8 c8 => ?_
  generalize hm3 : m2 ++ textB r.to = m3
  have em3 : m3.length ≤ m2.length + 200 := by rw [← hm3, List.length_append]; unfold textB; rw [List.length_append, be_len, data_len]; omega
  repeat (first | ((first | apply H.move | apply H.assign); (iterate 3 exact rfl)) | (first | apply H.seq | apply H.region | apply H.nil | apply H.then_normal) | ((apply H.extract); (iterate 4 exact rfl)) | (apply H.ret))
  refine H.drop (.there _ (.there _ (.here _ _))) ?_
  refine H.front (.there _ (.here _ _)) ?_
  skip
  refine H.drop (.here _ _) ?_
  have e9 : m3 = l ++ r.bytes := by rw [← hm3, ← hm2, ← hm1, ← hm0, ← hl2, ← hl1]; simp [Req.bytes]
  subst e9
  exact H.ret1 rfl rfl (fun _ h => h) ⟨p8, c8, rfl, rfl, rfl⟩
end
end Go.Proofs.Ytcaofnfemogleaa

/- Layer 1, bytes: a text is cut; layer 8: 32 bytes are got, and a request. -/
namespace Go.Proofs.Ytcaofnfemogleaa
set_option linter.unusedSectionVars false
set_option linter.unusedSimpArgs false
set_option linter.unusedVariables false
open Go
def baOf (l : List UInt8) : ByteArray := ⟨l.toArray⟩
theorem H.cutOpen {P : Program} {base : World} {n : Nat} {L : Env} {f : Frag} {F : List HP} {K : Kont} {cb : Nat} {l : List UInt8} {sp : Bool}
    (k : ∀ p c, BAt f p l → l.length ≤ c → H P base n L f (row cb 114 [.slice p l.length c, .bool sp] :: F) K) : H P base n L f (cutH f cb l sp :: F) K := .mk fun a w hf s => by
  obtain ⟨m, hm, hd, hw⟩ := s.mem
  obtain ⟨m1, m2, d, rfl, ⟨⟨p, c⟩, hh⟩, r⟩ := hm
  obtain ⟨n1, n2, dd, rfl, ⟨⟨hb, hc⟩, rfl⟩, n3, n4, d3, rfl, h4, h5⟩ := hh
  refine (k p c hb hc).out a w hf ⟨s.os, s.tape, s.output, s.size, s.imm, _, ?_, hd, hw⟩
  have e5 : n4 = nil0 := h5
  subst e5
  rw [nil_un, un_nil]
  rw [nil_un, un_nil] at d
  exact ⟨n3, m2, d, rfl, h4, r⟩
/-- What is got as a tag, or a digest. -/
def Cs.hash (s : Cs) : Nat → UInt8 := fun i => (s.raw 32).getD i 0
def b32L (t : Nat → UInt8) : List UInt8 := [t 0, t 1, t 2, t 3, t 4, t 5, t 6, t 7, t 8, t 9, t 10, t 11, t 12, t 13, t 14, t 15, t 16, t 17, t 18, t 19, t 20, t 21, t 22, t 23, t 24, t 25, t 26, t 27, t 28, t 29, t 30, t 31]
theorem b32_bytes (t : Nat → UInt8) : b32 t = bytesV (b32L t) := rfl
theorem list32 {α : Type} {l : List α} (h : l.length = 32) (z : α) : l = [l.getD 0 z, l.getD 1 z, l.getD 2 z, l.getD 3 z, l.getD 4 z, l.getD 5 z, l.getD 6 z, l.getD 7 z, l.getD 8 z, l.getD 9 z, l.getD 10 z, l.getD 11 z, l.getD 12 z, l.getD 13 z, l.getD 14 z, l.getD 15 z, l.getD 16 z, l.getD 17 z, l.getD 18 z, l.getD 19 z, l.getD 20 z, l.getD 21 z, l.getD 22 z, l.getD 23 z, l.getD 24 z, l.getD 25 z, l.getD 26 z, l.getD 27 z, l.getD 28 z, l.getD 29 z, l.getD 30 z, l.getD 31 z] := by
  match l, h with
  | [_, _, _, _, _, _, _, _, _, _, _, _, _, _, _, _, _, _, _, _, _, _, _, _, _, _, _, _, _, _, _, _], _ => rfl
theorem b32L_get {l : List UInt8} (h : l.length = 32) : b32L (fun i => l.getD i 0) = l := (list32 h 0).symm
section
variable (f : Frag) (F : List HP) (cb : Nat) (s : Cs)
theorem text_cs {most : Nat} (hl : s.l.length ≤ 1000000000000) (hm : most ≤ 100000) :
    Fn Try.prog 88 [.pointer (some ⟨cb, 0, none⟩), .int .i64 (most : Nat)] f (cutC f cb s :: F) (Ret (.string (baOf (s.text most))) f (cutC f cb (s.textS most) :: F)) := by
  have hn := s.num2_lt
  have hh := half_cs f F cb s hl
  unfold cutC at hh ⊢
  refine cutH_open fun p c hb hc => ?_
  have fin : ¬ s.tok most = true → ∀ x, stars (row cb 114 [.slice p s.l.length c, .bool true] :: F) x → stars (cutH f cb (s.textS most).l (s.textS most).bad :: F) x := fun ht => by
    unfold Cs.textS; rw [if_neg ht]; exact cutH_fold hb hc
  by_cases h2 : s.ok 2 = true
  · obtain ⟨hb0, hl2⟩ := (Cs.ok_iff _ _).1 h2
    have hs : s.skip 2 = ⟨s.l.drop 2, false⟩ := by unfold Cs.skip; rw [if_pos h2]
    rw [hs] at hh
    generalize hk : s.num 2 = k at hn hh
    by_cases h3 : k ≤ most
    · by_cases h4 : k ≤ (s.l.drop 2).length
      · have ht : s.tok most = true := by
          rw [List.length_drop] at h4
          simp [Cs.tok, h2, hk, h3]; omega
        have e1 : s.text most = (s.l.drop 2).take k := by unfold Cs.text; rw [if_pos ht, hk]
        have e2 : s.textS most = ⟨(s.l.drop 2).drop k, false⟩ := by unfold Cs.textS; rw [if_pos ht, hk, List.drop_drop]
        rw [e1, e2]
        have hlen : ((s.l.drop 2).take k).length = k := by rw [List.length_take]; omega
        refine Fn.enter Try.func88 rfl Try.ntmps88 rfl (L := [(0, _), (1, _)]) ⟨rfl, rfl, trivial⟩ fun base => ?_
        repeat (first | ((first | apply H.move | apply H.assign | apply H.nilCheck); (iterate 3 exact rfl)) | (apply H.fieldAddr; (iterate 3 exact rfl); exact inferInstance; exact rfl) | (apply H.load1; (iterate 3 exact rfl); apply Rd1.ofRow; (repeat (exact .here _ _ _)); (iterate 2 exact rfl)) | (first | apply H.seq | apply H.region | apply H.nil | apply H.then_normal) | ((apply H.ptrNil); (iterate 5 exact rfl)) | (apply H.cond_false; exact rfl) | (apply H.skip))
        refine H.imp (cutH_fold hb hc) ?_
        refine H.callR rfl rfl rfl hh ?_
        repeat (first | ((first | apply H.move | apply H.assign | apply H.nilCheck); (iterate 3 exact rfl)) | (apply H.fieldAddr; (iterate 3 exact rfl); exact inferInstance; exact rfl) | (first | apply H.seq | apply H.region | apply H.nil | apply H.then_normal) | ((apply H.conv_int; (iterate 2 exact rfl)); (with_reducible apply wr_i64; omega); exact rfl))
        refine H.cutOpen fun p2 c2 hb2 hc2 => ?_
        repeat (first | ((apply H.move); (iterate 3 exact rfl)) | (apply H.load1; (iterate 3 exact rfl); apply Rd1.ofRow; (repeat (exact .here _ _ _)); (iterate 2 exact rfl)) | (first | apply H.seq | apply H.region | apply H.nil | apply H.then_normal) | ((apply H.cmp); (iterate 5 exact rfl)) | (apply H.pickT; (iterate 4 exact rfl)) | ((apply H.not); (iterate 4 exact rfl)) | (apply H.skip) | (apply H.cond_no; exact rfl; (omega)))
        refine H.imp (cutH_fold hb2 hc2) ?_
        have hty := take_yes f F cb h4 (by rw [List.length_drop]; omega)
        refine H.callP rfl rfl rfl hty fun i hb3 => ?_
        obtain ⟨p3, c3⟩ := i
        have hb3 : BAt f p3 ((s.l.drop 2).take k) := hb3
        repeat (first | ((first | apply H.move | apply H.assign | apply H.nilCheck); (iterate 3 exact rfl)) | (apply H.fieldAddr; (iterate 3 exact rfl); exact inferInstance; exact rfl) | (first | apply H.seq | apply H.region | apply H.nil | apply H.then_normal))
        refine H.cutOpen fun p4 c4 hb4 hc4 => ?_
        repeat (first | ((apply H.move); (iterate 3 exact rfl)) | (apply H.load1; (iterate 3 exact rfl); apply Rd1.ofRow; (repeat (exact .here _ _ _)); (iterate 2 exact rfl)) | (first | apply H.seq | apply H.region | apply H.nil | apply H.then_normal) | (apply H.cond_false; exact rfl) | (apply H.skip))
        have hsrc : ∀ A, Src Try.prog f A (.slice p3 ((s.l.drop 2).take k).length c3) 1 ((s.l.drop 2).take k).length (bytesV ((s.l.drop 2).take k)) := fun A => hb3.src
        have hnil : p3 = none → (s.l.drop 2).take k = [] := fun hp => by rcases hb3 with h | ⟨b, off, cs, T, fr, h, _⟩; exact h; rw [hp] at h; cases h
        refine H.know (d := 41) (u := .slice p3 ((s.l.drop 2).take k).length c3) rfl (by rw [hlen]) ?_
        refine H.convBS rfl rfl (hsrc _) hnil rfl ?_
        repeat (first | ((apply H.assign); (iterate 3 exact rfl)) | (first | apply H.nil | apply H.then_normal) | (apply H.ret))
        exact H.ret1 rfl rfl (cutH_fold hb4 hc4) ⟨rfl, rfl, rfl⟩
      · have ht : ¬ s.tok most = true := by
          rw [List.length_drop] at h4
          simp [Cs.tok, h2, hk, h3]; omega
        have e1 : s.text most = [] := by unfold Cs.text; rw [if_neg ht]
        rw [e1]
        refine Fn.enter Try.func88 rfl Try.ntmps88 rfl (L := [(0, _), (1, _)]) ⟨rfl, rfl, trivial⟩ fun base => ?_
        repeat (first | ((first | apply H.move | apply H.assign | apply H.nilCheck); (iterate 3 exact rfl)) | (apply H.fieldAddr; (iterate 3 exact rfl); exact inferInstance; exact rfl) | (apply H.load1; (iterate 3 exact rfl); apply Rd1.ofRow; (repeat (exact .here _ _ _)); (iterate 2 exact rfl)) | (first | apply H.seq | apply H.region | apply H.nil | apply H.then_normal) | ((apply H.ptrNil); (iterate 5 exact rfl)) | (apply H.cond_false; exact rfl) | (apply H.skip))
        refine H.imp (cutH_fold hb hc) ?_
        refine H.callR rfl rfl rfl hh ?_
        repeat (first | ((first | apply H.move | apply H.assign | apply H.nilCheck); (iterate 3 exact rfl)) | (apply H.fieldAddr; (iterate 3 exact rfl); exact inferInstance; exact rfl) | (first | apply H.seq | apply H.region | apply H.nil | apply H.then_normal) | ((apply H.conv_int; (iterate 2 exact rfl)); (with_reducible apply wr_i64; omega); exact rfl))
        refine H.cutOpen fun p2 c2 hb2 hc2 => ?_
        repeat (first | ((apply H.move); (iterate 3 exact rfl)) | (apply H.load1; (iterate 3 exact rfl); apply Rd1.ofRow; (repeat (exact .here _ _ _)); (iterate 2 exact rfl)) | (first | apply H.seq | apply H.region | apply H.nil | apply H.then_normal) | ((apply H.cmp); (iterate 5 exact rfl)) | (apply H.pickT; (iterate 4 exact rfl)) | ((apply H.not); (iterate 4 exact rfl)) | (apply H.skip) | (apply H.cond_no; exact rfl; (omega)))
        refine H.imp (cutH_fold hb2 hc2) ?_
        refine H.callR rfl rfl rfl (take_no f F cb (.inr (.inr (by show ((s.l.drop 2).length : Int) < _; omega)))) ?_
        repeat (first | ((first | apply H.move | apply H.assign | apply H.nilCheck); (iterate 3 exact rfl)) | (apply H.fieldAddr; (iterate 3 exact rfl); exact inferInstance; exact rfl) | (first | apply H.seq | apply H.region | apply H.nil | apply H.then_normal))
        refine H.cutOpen fun p4 c4 hb4 hc4 => ?_
        repeat (first | ((first | apply H.move | apply H.assign | apply H.nilCheck); (iterate 3 exact rfl)) | (apply H.fieldAddr; (iterate 3 exact rfl); exact inferInstance; exact rfl) | (apply H.load1; (iterate 3 exact rfl); apply Rd1.ofRow; (repeat (exact .here _ _ _)); (iterate 2 exact rfl)) | (first | apply H.seq | apply H.region | apply H.nil | apply H.then_normal) | (apply H.store1; (iterate 4 exact rfl); (repeat (exact .here _ _ _))) | (apply H.cond_true; exact rfl) | (first | apply H.ret | apply H.then_ret))
        exact H.ret1 rfl rfl (fin ht) ⟨rfl, rfl, rfl⟩
    · have ht : ¬ s.tok most = true := by
        simp [Cs.tok, h2, hk, h3]
      have e1 : s.text most = [] := by unfold Cs.text; rw [if_neg ht]
      rw [e1]
      refine Fn.enter Try.func88 rfl Try.ntmps88 rfl (L := [(0, _), (1, _)]) ⟨rfl, rfl, trivial⟩ fun base => ?_
      repeat (first | ((first | apply H.move | apply H.assign | apply H.nilCheck); (iterate 3 exact rfl)) | (apply H.fieldAddr; (iterate 3 exact rfl); exact inferInstance; exact rfl) | (apply H.load1; (iterate 3 exact rfl); apply Rd1.ofRow; (repeat (exact .here _ _ _)); (iterate 2 exact rfl)) | (first | apply H.seq | apply H.region | apply H.nil | apply H.then_normal) | ((apply H.ptrNil); (iterate 5 exact rfl)) | (apply H.cond_false; exact rfl) | (apply H.skip))
      refine H.imp (cutH_fold hb hc) ?_
      refine H.callR rfl rfl rfl hh ?_
      repeat (first | ((first | apply H.move | apply H.assign | apply H.nilCheck); (iterate 3 exact rfl)) | (apply H.fieldAddr; (iterate 3 exact rfl); exact inferInstance; exact rfl) | (first | apply H.seq | apply H.region | apply H.nil | apply H.then_normal) | ((apply H.conv_int; (iterate 2 exact rfl)); (with_reducible apply wr_i64; omega); exact rfl))
      refine H.cutOpen fun p2 c2 hb2 hc2 => ?_
      repeat (first | ((first | apply H.move | apply H.nilCheck); (iterate 3 exact rfl)) | (apply H.fieldAddr; (iterate 3 exact rfl); exact inferInstance; exact rfl) | (apply H.load1; (iterate 3 exact rfl); apply Rd1.ofRow; (repeat (exact .here _ _ _)); (iterate 2 exact rfl)) | (first | apply H.seq | apply H.region | apply H.nil | apply H.then_normal) | ((apply H.cmp); (iterate 5 exact rfl)) | (apply H.pickT; (iterate 4 exact rfl)) | ((apply H.not); (iterate 4 exact rfl)) | (apply H.store1; (iterate 4 exact rfl); (repeat (exact .here _ _ _)); (repeat (first | exact .here _ _ _ | apply SetV.there))) | (apply H.cond_yes; exact rfl; (omega)))
      refine H.imp (cutH_fold hb2 hc2) ?_
      refine H.callR rfl rfl rfl (take_no f F cb (.inl rfl)) ?_
      repeat (first | ((first | apply H.move | apply H.assign | apply H.nilCheck); (iterate 3 exact rfl)) | (apply H.fieldAddr; (iterate 3 exact rfl); exact inferInstance; exact rfl) | (first | apply H.seq | apply H.region | apply H.nil | apply H.then_normal))
      refine H.cutOpen fun p4 c4 hb4 hc4 => ?_
      repeat (first | ((first | apply H.move | apply H.assign | apply H.nilCheck); (iterate 3 exact rfl)) | (apply H.fieldAddr; (iterate 3 exact rfl); exact inferInstance; exact rfl) | (apply H.load1; (iterate 3 exact rfl); apply Rd1.ofRow; (repeat (exact .here _ _ _)); (iterate 2 exact rfl)) | (first | apply H.seq | apply H.region | apply H.nil | apply H.then_normal) | (apply H.store1; (iterate 4 exact rfl); (repeat (exact .here _ _ _))) | (apply H.cond_true; exact rfl) | (first | apply H.ret | apply H.then_ret))
      exact H.ret1 rfl rfl (fin ht) ⟨rfl, rfl, rfl⟩
  · have ht : ¬ s.tok most = true := by simp [Cs.tok, h2]
    have e1 : s.text most = [] := by unfold Cs.text; rw [if_neg ht]
    have hs : s.skip 2 = ⟨s.l, true⟩ := by unfold Cs.skip; rw [if_neg h2]
    rw [hs] at hh
    rw [e1]
    generalize hk : s.num 2 = k at hn hh
    refine Fn.enter Try.func88 rfl Try.ntmps88 rfl (L := [(0, _), (1, _)]) ⟨rfl, rfl, trivial⟩ fun base => ?_
    repeat (first | ((first | apply H.move | apply H.assign | apply H.nilCheck); (iterate 3 exact rfl)) | (apply H.fieldAddr; (iterate 3 exact rfl); exact inferInstance; exact rfl) | (apply H.load1; (iterate 3 exact rfl); apply Rd1.ofRow; (repeat (exact .here _ _ _)); (iterate 2 exact rfl)) | (first | apply H.seq | apply H.region | apply H.nil | apply H.then_normal) | ((apply H.ptrNil); (iterate 5 exact rfl)) | (apply H.cond_false; exact rfl) | (apply H.skip))
    refine H.imp (cutH_fold hb hc) ?_
    refine H.callR rfl rfl rfl hh ?_
    repeat (first | ((first | apply H.move | apply H.assign | apply H.nilCheck); (iterate 3 exact rfl)) | (apply H.fieldAddr; (iterate 3 exact rfl); exact inferInstance; exact rfl) | (first | apply H.seq | apply H.region | apply H.nil | apply H.then_normal) | ((apply H.conv_int; (iterate 2 exact rfl)); (with_reducible apply wr_i64; omega); exact rfl))
    refine H.cutOpen fun p2 c2 hb2 hc2 => ?_
    repeat (first | ((apply H.move); (iterate 3 exact rfl)) | (apply H.load1; (iterate 3 exact rfl); apply Rd1.ofRow; (repeat (exact .here _ _ _)); (iterate 2 exact rfl)) | (first | apply H.seq | apply H.region | apply H.nil | apply H.then_normal) | (apply H.pass; (iterate 2 exact rfl)) | ((first | apply H.pickF | apply H.not); (iterate 4 exact rfl)) | (apply H.cond_false; exact rfl) | (apply H.skip))
    refine H.imp (cutH_fold hb2 hc2) ?_
    refine H.callR rfl rfl rfl (take_no f F cb (.inl rfl)) ?_
    repeat (first | ((first | apply H.move | apply H.assign | apply H.nilCheck); (iterate 3 exact rfl)) | (apply H.fieldAddr; (iterate 3 exact rfl); exact inferInstance; exact rfl) | (first | apply H.seq | apply H.region | apply H.nil | apply H.then_normal))
    refine H.cutOpen fun p4 c4 hb4 hc4 => ?_
    repeat (first | ((first | apply H.move | apply H.assign | apply H.nilCheck); (iterate 3 exact rfl)) | (apply H.fieldAddr; (iterate 3 exact rfl); exact inferInstance; exact rfl) | (apply H.load1; (iterate 3 exact rfl); apply Rd1.ofRow; (repeat (exact .here _ _ _)); (iterate 2 exact rfl)) | (first | apply H.seq | apply H.region | apply H.nil | apply H.then_normal) | (apply H.store1; (iterate 4 exact rfl); (repeat (exact .here _ _ _))) | (apply H.cond_true; exact rfl) | (first | apply H.ret | apply H.then_ret))
    exact H.ret1 rfl rfl (fin ht) ⟨rfl, rfl, rfl⟩
theorem hash_cs (hl : s.l.length ≤ 1000000000) :
    Fn Try.prog 75 [.pointer (some ⟨cb, 0, none⟩)] f (cutC f cb s :: F) (Ret (.agg (b32 s.hash).toArray) f (cutC f cb (s.skip 32) :: F)) := by
  refine Fn.enter Try.func75 rfl Try.ntmps75 rfl (L := [(0, _)]) ⟨rfl, trivial⟩ fun base => ?_
  repeat ((first | apply H.seq | apply H.region))
  refine H.alloc rfl rfl rfl fun hb => ?_
  repeat ((first | apply H.seq | apply H.nil | apply H.then_normal))
  refine H.drawB (by kernel_rfl) (by decide +kernel) (by first | exact blind_fn | exact blind_seq blind_fn | exact blind_seq (blind_seq blind_fn) | (repeat (first | exact blind_fn | refine blind_seq ?_ | refine blind_block ?_ | refine blind_loop ?_))) (S := []) rfl ?_
  refine HB.quiet [(0, false), (1, false)] 2 (by kernel_rfl) ?_
  refine HQ.sliceArr (lo := none) (hi := none) (mx := none) (lv := 0) (hv := 32) (mv := 32) rfl rfl rfl rfl rfl (fun h => by cases h) (by decide) (by decide) (by decide) rfl ?_
  repeat (((apply HQ.move); (iterate 3 exact rfl)))
  refine HQ.more rfl ?_
  refine HB.ev1 (i := 2) (by kernel_rfl) rfl ?_
  refine H.front (.there _ (.here _ _)) ?_
  refine H.callE2 rfl rfl rfl (raw_cs f _ cb s 32 (by omega)) fun p1 c1 => ?_
  repeat ((apply H.nil))
  refine H.on0 rfl ?_
  refine HB.ev1 (i := 3) (by kernel_rfl) rfl ?_
  by_cases h : s.ok 32 = true
  · have hr : (s.raw 32).length = 32 := by
      unfold Cs.raw; rw [if_pos h, List.length_take]
      have := ((Cs.ok_iff _ _).1 h).2
      omega
    have hs : Src Try.prog f _ (.slice p1 (s.raw 32).length c1) 1 (s.raw 32).length (bytesV (s.raw 32)) := Src.slcS (.here (cutC f cb (s.skip 32) :: row hb 54 (zeros [.int .u8 0] 32) :: F) _ (slc p1 (s.raw 32).length c1 5 1 (bytesV (s.raw 32)))) (by rw [bytesV_len]; exact (Nat.mul_one _).symm)
    refine H.copy rfl rfl rfl rfl hs.len (k0 := (s.raw 32).length) (by rw [hr]; rfl) hs.cells (ls' := bytesV (s.raw 32)) ?_ ?_ (bytesV_one _) (by repeat (first | exact .here _ _ _ | apply At.there)) ?_
    · unfold splice
      rw [bytesV_len, hr]; exact List.append_nil _
    · rw [bytesV_len, hr]; exact Nat.le_refl _
    repeat ((apply H.nil))
    refine H.on0 rfl ?_
    refine HB.done (by kernel_rfl) ?_
    repeat ((first | apply H.seq | apply H.region | apply H.then_normal))
    have e : bytesV (s.raw 32) = b32 s.hash := by rw [b32_bytes]; unfold Cs.hash; rw [b32L_get hr]
    rw [e]
    refine H.loadN (ls := b32 s.hash) rfl rfl rfl (Rd.ofRow (by repeat (first | exact .here _ _ _ | apply At.there))) rfl rfl ?_
    refine H.storeN (ls := b32 s.hash) (vs := b32 s.hash) (ls' := b32 s.hash) rfl rfl rfl (allOne_mem rfl) rfl rfl (Nat.le_refl 32) (by repeat (first | exact .here _ _ _ | apply At.there)) ?_
    repeat (first | (first | apply H.nil | apply H.then_normal) | (apply H.ret))
    refine H.drop (.here _ _) ?_
    exact H.retD rfl rfl rfl (Rd.ofRow (by repeat (first | exact .here _ _ _ | apply At.there))) rfl (fun _ s => s.drop (.there _ (.here _ _))) ⟨rfl, rfl, rfl⟩
  · have hr : s.raw 32 = [] := by unfold Cs.raw; rw [if_neg h]
    have hh : b32 s.hash = zeros [.int .u8 0] 32 := by unfold Cs.hash; rw [hr]; rfl
    rw [hr, hh]
    refine H.copy (m := 0) (k0 := 0) (cs := []) (ls' := zeros [.int .u8 0] 32) rfl rfl rfl rfl (fun w => rfl) rfl (fun base w sa => ?_) rfl (by decide) (fun v hv => by cases hv) (by repeat (first | exact .here _ _ _ | apply At.there)) ?_
    · cases p1 with
      | none => exact run_firstCells_none w 1 0 0 c1
      | some a => exact run_firstCells_some w 1 0 a 0 c1 [] (by simp) (by simp)
    repeat ((apply H.nil))
    refine H.on0 rfl ?_
    refine HB.done (by kernel_rfl) ?_
    repeat ((first | apply H.seq | apply H.region | apply H.then_normal))
    refine H.loadN (ls := zeros [.int .u8 0] 32) rfl rfl rfl (Rd.ofRow (by repeat (first | exact .here _ _ _ | apply At.there))) rfl rfl ?_
    refine H.storeN (ls := zeros [.int .u8 0] 32) (vs := zeros [.int .u8 0] 32) (ls' := zeros [.int .u8 0] 32) rfl rfl rfl (allOne_mem rfl) rfl rfl (Nat.le_refl 32) (by repeat (first | exact .here _ _ _ | apply At.there)) ?_
    repeat (first | (first | apply H.nil | apply H.then_normal) | (apply H.ret))
    refine H.drop (.here _ _) ?_
    exact H.retD rfl rfl rfl (Rd.ofRow (by repeat (first | exact .here _ _ _ | apply At.there))) rfl (fun _ s => s.drop (.there _ (.here _ _))) ⟨rfl, rfl, rfl⟩
end
end Go.Proofs.Ytcaofnfemogleaa

/- Layer 8, plain: a body's bytes put and got, what may be; that what is got of what was put is the body's own. No program in sight. -/
namespace Go.Proofs.Ytcaofnfemogleaa
set_option linter.unusedSectionVars false
set_option linter.unusedSimpArgs false
set_option linter.unusedVariables false
open Go

def Cs.byte (s : Cs) : UInt8 := UInt8.ofNat (s.num 1)
theorem Cs.byte_nat (s : Cs) : ((s.byte.toNat : Nat) : Int) = (s.num 1 : Nat) := by
  have := s.num1_lt
  unfold Cs.byte; rw [UInt8.toNat_ofNat']; omega
def Cs.req (mk mv : Nat) (s : Cs) : Req :=
  let c1 := s.skip 1
  let c2 := c1.skip 1
  let c3 := c2.skip 8
  let c4 := c3.skip 8
  let c5 := c4.textS mk
  let c6 := c5.textS mv
  let c7 := c6.textS mv
  let c8 := c7.textS mk
  ⟨(s.num 1 : Nat), (c2.num 8 : Nat), c1.byte, baOf (c4.text mk), baOf (c5.text mv), baOf (c6.text mv), baOf (c7.text mk), (c3.num 8 : Nat), c8.hash⟩
def Cs.reqS (mk mv : Nat) (s : Cs) : Cs := ((((((((s.skip 1).skip 1).skip 8).skip 8).textS mk).textS mv).textS mv).textS mk).skip 32
/-- Pairs got: so many at most. -/
def Cs.pairs : Nat → Cs → List (Int × Int) → List (Int × Int) × Cs
  | 0, s, acc => (acc, s)
  | n + 1, s, acc => if s.bad then (acc, s) else Cs.pairs n ((s.skip 1).skip 8) (acc ++ [(((s.num 1 : Nat) : Int), (((s.skip 1).num 8 : Nat) : Int))])
def noTag : Nat → UInt8 := fun _ => 0
def Bod.zero (kind : UInt8) : Bod := ⟨kind, 0, 0, Req.zero, [], noTag⟩

def b8 (n : Int) : UInt8 := UInt8.ofNat (n % 256).toNat
def pairB (p : Int × Int) : List UInt8 := b8 p.1 :: be 8 p.2
def Bod.putK (x : Bod) : Nat → List UInt8
  | 1 => be 8 x.view ++ x.req.bytes ++ b32L x.req.tag
  | 2 => be 8 x.view ++ be 8 x.k
  | 3 => be 8 x.view
  | 4 => be 8 x.view ++ [b8 x.q.length] ++ x.q.flatMap pairB
  | 5 => be 8 x.view
  | 6 => be 8 x.k ++ b32L x.dig
  | _ => []
def Bod.put (x : Bod) : List UInt8 := x.putK x.kind.toNat
/-- The kind's own fields, got; and what is left. -/
def Cs.bodyK (mk mv : Nat) (kind : UInt8) (s : Cs) : Nat → Bod × Cs
  | 1 => ({ Bod.zero kind with view := (s.num 8 : Nat), req := (s.skip 8).req mk mv }, (s.skip 8).reqS mk mv)
  | 2 => ({ Bod.zero kind with view := (s.num 8 : Nat), k := ((s.skip 8).num 8 : Nat) }, (s.skip 8).skip 8)
  | 3 => ({ Bod.zero kind with view := (s.num 8 : Nat) }, s.skip 8)
  | 4 => let r := Cs.pairs ((s.skip 8).num 1) ((s.skip 8).skip 1) []
    ({ Bod.zero kind with view := (s.num 8 : Nat), q := r.1 }, r.2)
  | 5 => ({ Bod.zero kind with view := (s.num 8 : Nat) }, s.skip 8)
  | 6 => ({ Bod.zero kind with k := (s.num 8 : Nat), dig := (s.skip 8).hash }, (s.skip 8).skip 32)
  | _ => (Bod.zero kind, s)
def Cs.body (mk mv : Nat) (kind : UInt8) (s : Cs) : Bod × Cs := s.bodyK mk mv kind kind.toNat

/-- A body's own fields alone. -/
def Bod.ownK (x : Bod) : Nat → Bod
  | 1 => { Bod.zero x.kind with view := x.view, req := x.req }
  | 2 => { Bod.zero x.kind with view := x.view, k := x.k }
  | 3 => { Bod.zero x.kind with view := x.view }
  | 4 => { Bod.zero x.kind with view := x.view, q := x.q }
  | 5 => { Bod.zero x.kind with view := x.view }
  | 6 => { Bod.zero x.kind with k := x.k, dig := x.dig }
  | _ => Bod.zero x.kind
def Bod.own (x : Bod) : Bod := x.ownK x.kind.toNat
/-- May a kind's fields be? -/
def Bod.mayK (x : Bod) : Nat → Bool
  | 1 => decide x.req.asked
  | 2 => decide (1 ≤ x.k ∧ x.k ≤ 4611686018427387904)
  | 3 => decide (1 ≤ x.view)
  | 4 => decide (1 ≤ x.view) && (quo 0 x.q && decide (0 < x.q.length))
  | 5 => decide (1 ≤ x.view)
  | 6 => decide (1 ≤ x.k ∧ x.k ≤ 4611686018427387904)
  | _ => false
end Go.Proofs.Ytcaofnfemogleaa

/- Layer 8, messages: how each kind of body is got. -/
namespace Go.Proofs.Ytcaofnfemogleaa
set_option linter.unusedSectionVars false
set_option linter.unusedSimpArgs false
set_option linter.unusedVariables false
open Go
theorem SetV.app {l l' : List Value} {i : Nat} {v : Value} (h : SetV l i v l') (post : List Value) : SetV (l ++ post) i v (l' ++ post) := by
  induction h with
  | here x v t => exact .here _ _ _
  | there x h ih => exact .there _ ih
theorem SetV.mid {l l' : List Value} {i : Nat} {v : Value} (h : SetV l i v l') (pre post : List Value) : SetV (pre ++ l ++ post) (pre.length + i) v (pre ++ l' ++ post) := by
  rw [List.append_assoc, List.append_assoc]
  induction pre with
  | nil => rw [List.length_nil, Nat.zero_add]; exact h.app post
  | cons p pre ih =>
    rw [List.length_cons, show pre.length + 1 + i = pre.length + i + 1 by omega]
    exact .there _ ih
theorem splice_mid (pre l post : List Value) (i : Nat) (vs : List Value) (h : i + vs.length ≤ l.length) : splice (pre ++ l ++ post) (pre.length + i) vs = pre ++ splice l i vs ++ post := by
  unfold splice
  have e1 : (pre ++ l ++ post).take (pre.length + i) = pre ++ l.take i := by
    rw [List.append_assoc, List.take_length_add_append, List.take_append_of_le_length (by omega)]
  have e2 : (pre ++ l ++ post).drop (pre.length + i + vs.length) = l.drop (i + vs.length) ++ post := by
    rw [Nat.add_assoc, List.append_assoc, List.drop_length_add_append, List.drop_append_of_le_length h]
  rw [e1, e2]
  simp only [List.append_assoc]
/-- A body that lies in a row. -/
def bodAt (xb : Nat) (T : TypeId) (pre post : List Value) (x : Bod) (qp : Option Addr) (qc : Nat) : HP := row xb T (pre ++ x.vals qp qc ++ post)
theorem Bod.vals_len (x : Bod) (qp : Option Addr) (qc : Nat) : (x.vals qp qc).length = 76 := rfl
section
variable (f : Frag) (F : List HP) (cb : Nat) (s : Cs) (xb : Nat) (T : TypeId) (pre post : List Value)
theorem getReq_cs (hl : s.l.length ≤ 1000000000) :
    Fn Try.prog 60 [.pointer (some ⟨cb, 0, none⟩)] f (cutC f cb s :: F) (Ret (.agg (s.req 32 128).vals.toArray) f (cutC f cb (s.reqS 32 128) :: F)) := by
  unfold Cs.req Cs.reqS
  dsimp only
  have a1 := s.skip_len 1
  have n1 := s.num1_lt
  refine Fn.enter Try.func60 rfl Try.ntmps60 rfl (L := [(0, _)]) ⟨rfl, trivial⟩ fun base => ?_
  refine H.seq (H.region ?_)
  refine H.alloc (ls := Req.zero.vals) rfl rfl rfl fun rb => ?_
  repeat (first | ((apply H.move); (iterate 3 exact rfl)) | (first | apply H.seq | apply H.region | apply H.nil | apply H.then_normal))
  refine H.front (.there _ (.here _ _)) ?_
  refine H.callR rfl rfl rfl (byte_cs f _ cb s (by omega)) ?_
  repeat (first | ((apply H.move); (iterate 3 exact rfl)) | ((apply H.conv_int; (iterate 2 exact rfl)); (with_reducible apply wr_i64; omega); exact rfl))
  generalize hs1 : s.skip 1 = s1 at a1 ⊢
  have a2 := s1.skip_len 1
  refine H.callR rfl rfl rfl (byte_cs f _ cb s1 (by omega)) ?_
  rw [← Cs.byte_nat s1]
  generalize hs2 : s1.skip 1 = s2 at a2 ⊢
  have a3 := s2.skip_len 8
  repeat (first | ((apply H.move); (iterate 3 exact rfl)) | (apply H.fieldAddr; (iterate 3 exact rfl); exact inferInstance; exact rfl) | (first | apply H.seq | apply H.region | apply H.nil | apply H.then_normal) | (apply H.store1; (iterate 4 exact rfl); (repeat (first | exact .here _ _ _ | apply At.there)); (repeat (first | exact .here _ _ _ | apply SetV.there))))
  refine H.callR rfl rfl rfl (word_cs f _ cb s2 (by omega)) ?_
  generalize hs3 : s2.skip 8 = s3 at a3 ⊢
  have a4 := s3.skip_len 8
  repeat (((apply H.move); (iterate 3 exact rfl)))
  refine H.callR rfl rfl rfl (word_cs f _ cb s3 (by omega)) ?_
  generalize hs4 : s3.skip 8 = s4 at a4 ⊢
  have a5 := s4.textS_len 32
  repeat (first | ((apply H.move); (iterate 3 exact rfl)) | (apply H.fieldAddr; (iterate 3 exact rfl); exact inferInstance; exact rfl) | (first | apply H.seq | apply H.region | apply H.nil | apply H.then_normal) | (apply H.store1; (iterate 4 exact rfl); (repeat (first | exact .here _ _ _ | apply At.there)); (repeat (first | exact .here _ _ _ | apply SetV.there))))
  refine H.callR rfl rfl rfl (text_cs f _ cb s4 (most := 32) (by omega) (by decide)) ?_
  generalize hs5 : s4.textS 32 = s5 at a5 ⊢
  have a6 := s5.textS_len 128
  repeat (((apply H.move); (iterate 3 exact rfl)))
  refine H.callR rfl rfl rfl (text_cs f _ cb s5 (most := 128) (by omega) (by decide)) ?_
  generalize hs6 : s5.textS 128 = s6 at a6 ⊢
  have a7 := s6.textS_len 128
  repeat (first | ((apply H.move); (iterate 3 exact rfl)) | (apply H.fieldAddr; (iterate 3 exact rfl); exact inferInstance; exact rfl) | (first | apply H.seq | apply H.region | apply H.nil | apply H.then_normal) | (apply H.store1; (iterate 4 exact rfl); (repeat (first | exact .here _ _ _ | apply At.there)); (repeat (first | exact .here _ _ _ | apply SetV.there))))
  refine H.callR rfl rfl rfl (text_cs f _ cb s6 (most := 128) (by omega) (by decide)) ?_
  generalize hs7 : s6.textS 128 = s7 at a7 ⊢
  have a8 := s7.textS_len 32
  repeat (((apply H.move); (iterate 3 exact rfl)))
  refine H.callR rfl rfl rfl (text_cs f _ cb s7 (most := 32) (by omega) (by decide)) ?_
  generalize hs8 : s7.textS 32 = s8 at a8 ⊢
  repeat (first | ((apply H.move); (iterate 3 exact rfl)) | (apply H.fieldAddr; (iterate 3 exact rfl); exact inferInstance; exact rfl) | (first | apply H.seq | apply H.region | apply H.nil | apply H.then_normal) | (apply H.store1; (iterate 4 exact rfl); (repeat (first | exact .here _ _ _ | apply At.there)); (repeat (first | exact .here _ _ _ | apply SetV.there))))
  refine H.callR rfl rfl rfl (hash_cs f _ cb s8 (by omega)) ?_
  repeat ((apply H.fieldAddr; (iterate 3 exact rfl); exact inferInstance; exact rfl))
  generalize hr : (⟨(s.num 1 : Nat), (s2.num 8 : Nat), s1.byte, baOf (s4.text 32), baOf (s5.text 128), baOf (s6.text 128), baOf (s7.text 32), (s3.num 8 : Nat), s8.hash⟩ : Req) = r
  refine H.storeN (vs := b32 s8.hash) (ls' := r.vals) rfl rfl rfl (allOne_mem rfl) rfl ?_ ?_ (by repeat (first | exact .here _ _ _ | apply At.there)) ?_
  · subst hr; rfl
  · exact (show 8 + 32 ≤ 40 by decide)
  repeat ((first | apply H.seq | apply H.region | apply H.nil | apply H.then_normal))
  refine H.loadN (ls := r.vals) rfl rfl rfl (Rd.ofRow (by repeat (first | exact .here _ _ _ | apply At.there))) rfl rfl ?_
  refine H.storeN (ls := r.vals) (vs := r.vals) (ls' := r.vals) rfl rfl rfl (allOne_mem rfl) rfl rfl (Nat.le_refl 40) (by repeat (first | exact .here _ _ _ | apply At.there)) ?_
  repeat (first | (first | apply H.nil | apply H.then_normal) | (apply H.ret))
  exact H.retD rfl rfl rfl (Rd.ofRow (by repeat (first | exact .here _ _ _ | apply At.there))) rfl (fun _ s => s.drop (.there _ (.here _ _))) ⟨rfl, rfl, rfl⟩

theorem get_view (hl : s.l.length ≤ 1000000000) (x : Bod) (qp : Option Addr) (qc : Nat) :
    Fn Try.prog 90 [.pointer (some ⟨cb, 0, none⟩), .pointer (some ⟨xb, pre.length, none⟩)] f (cutC f cb s :: bodAt xb T pre post x qp qc :: F)
      (Ret (.tuple #[]) f (cutC f cb (s.skip 8) :: bodAt xb T pre post { x with view := (s.num 8 : Nat) } qp qc :: F)) := by
  refine Fn.enter Try.func90 rfl Try.ntmps90 rfl (L := [(0, _), (1, _)]) ⟨rfl, rfl, trivial⟩ fun base => ?_
  repeat (first | ((apply H.move); (iterate 3 exact rfl)) | (apply H.region))
  refine H.callR rfl rfl rfl (word_cs f _ cb s (by omega)) ?_
  repeat (first | ((apply H.nilCheck); (iterate 3 exact rfl)) | (apply H.fieldAddr; (iterate 3 exact rfl); exact inferInstance; exact rfl) | (apply H.store1; (iterate 4 exact rfl); (repeat (first | exact .here _ _ _ | apply At.there))))
  · exact SetV.mid (l := x.vals qp qc) (l' := ({ x with view := (s.num 8 : Nat) } : Bod).vals qp qc) (i := 1) (by repeat (first | exact .here _ _ _ | apply SetV.there)) pre post
  repeat ((apply H.nil))
  exact H.end0 rfl (fun _ h => h) ⟨rfl, rfl, rfl⟩
theorem get_commit (hl : s.l.length ≤ 1000000000) (x : Bod) (qp : Option Addr) (qc : Nat) :
    Fn Try.prog 64 [.pointer (some ⟨cb, 0, none⟩), .pointer (some ⟨xb, pre.length, none⟩)] f (cutC f cb s :: bodAt xb T pre post x qp qc :: F)
      (Ret (.tuple #[]) f (cutC f cb ((s.skip 8).skip 8) :: bodAt xb T pre post { x with view := (s.num 8 : Nat), k := ((s.skip 8).num 8 : Nat) } qp qc :: F)) := by
  have a1 := s.skip_len 8
  refine Fn.enter Try.func64 rfl Try.ntmps64 rfl (L := [(0, _), (1, _)]) ⟨rfl, rfl, trivial⟩ fun base => ?_
  repeat (first | ((apply H.move); (iterate 3 exact rfl)) | (apply H.region))
  refine H.callR rfl rfl rfl (word_cs f _ cb s (by omega)) ?_
  repeat (((apply H.move); (iterate 3 exact rfl)))
  refine H.callR rfl rfl rfl (word_cs f _ cb (s.skip 8) (by omega)) ?_
  repeat (first | ((apply H.nilCheck); (iterate 3 exact rfl)) | (apply H.fieldAddr; (iterate 3 exact rfl); exact inferInstance; exact rfl) | (apply H.store1; (iterate 4 exact rfl); (repeat (first | exact .here _ _ _ | apply At.there))))
  · exact SetV.mid (l := x.vals qp qc) (l' := ({ x with view := (s.num 8 : Nat) } : Bod).vals qp qc) (i := 1) (by repeat (first | exact .here _ _ _ | apply SetV.there)) pre post
  repeat (first | ((apply H.nilCheck); (iterate 3 exact rfl)) | (apply H.fieldAddr; (iterate 3 exact rfl); exact inferInstance; exact rfl) | (apply H.store1; (iterate 4 exact rfl); (repeat (first | exact .here _ _ _ | apply At.there))))
  · exact SetV.mid (l := ({ x with view := (s.num 8 : Nat) } : Bod).vals qp qc) (l' := ({ x with view := (s.num 8 : Nat), k := ((s.skip 8).num 8 : Nat) } : Bod).vals qp qc) (i := 2) (by repeat (first | exact .here _ _ _ | apply SetV.there)) pre post
  repeat ((apply H.nil))
  exact H.end0 rfl (fun _ h => h) ⟨rfl, rfl, rfl⟩
theorem get_check (hl : s.l.length ≤ 1000000000) (x : Bod) (qp : Option Addr) (qc : Nat) :
    Fn Try.prog 74 [.pointer (some ⟨cb, 0, none⟩), .pointer (some ⟨xb, pre.length, none⟩)] f (cutC f cb s :: bodAt xb T pre post x qp qc :: F)
      (Ret (.tuple #[]) f (cutC f cb ((s.skip 8).skip 32) :: bodAt xb T pre post { x with k := (s.num 8 : Nat), dig := (s.skip 8).hash } qp qc :: F)) := by
  have a1 := s.skip_len 8
  refine Fn.enter Try.func74 rfl Try.ntmps74 rfl (L := [(0, _), (1, _)]) ⟨rfl, rfl, trivial⟩ fun base => ?_
  repeat (first | ((apply H.move); (iterate 3 exact rfl)) | (apply H.region))
  refine H.callR rfl rfl rfl (word_cs f _ cb s (by omega)) ?_
  repeat (((apply H.move); (iterate 3 exact rfl)))
  refine H.callR rfl rfl rfl (hash_cs f _ cb (s.skip 8) (by omega)) ?_
  repeat (first | ((apply H.nilCheck); (iterate 3 exact rfl)) | (apply H.fieldAddr; (iterate 3 exact rfl); exact inferInstance; exact rfl) | (apply H.store1; (iterate 4 exact rfl); (repeat (first | exact .here _ _ _ | apply At.there))))
  · exact SetV.mid (l := x.vals qp qc) (l' := ({ x with k := (s.num 8 : Nat) } : Bod).vals qp qc) (i := 2) (by repeat (first | exact .here _ _ _ | apply SetV.there)) pre post
  repeat (first | ((apply H.nilCheck); (iterate 3 exact rfl)) | (apply H.fieldAddr; (iterate 3 exact rfl); exact inferInstance; exact rfl))
  refine H.storeN (vs := b32 (s.skip 8).hash) (ls' := pre ++ ({ x with k := (s.num 8 : Nat), dig := (s.skip 8).hash } : Bod).vals qp qc ++ post) rfl rfl rfl (allOne_mem rfl) rfl ?_ ?_ (.there _ (.here _ _ _)) ?_
  · exact splice_mid pre (({ x with k := (s.num 8 : Nat) } : Bod).vals qp qc) post 44 _ (Nat.le_refl 76)
  · rw [List.length_append, List.length_append, Bod.vals_len]
    show pre.length + 44 + 32 ≤ _
    omega
  repeat ((apply H.nil))
  exact H.end0 rfl (fun _ h => h) ⟨rfl, rfl, rfl⟩
theorem get_prepare (hl : s.l.length ≤ 1000000000) (x : Bod) (qp : Option Addr) (qc : Nat) :
    Fn Try.prog 58 [.pointer (some ⟨cb, 0, none⟩), .pointer (some ⟨xb, pre.length, none⟩)] f (cutC f cb s :: bodAt xb T pre post x qp qc :: F)
      (Ret (.tuple #[]) f (cutC f cb ((s.skip 8).reqS 32 128) :: bodAt xb T pre post { x with view := (s.num 8 : Nat), req := (s.skip 8).req 32 128 } qp qc :: F)) := by
  have a1 := s.skip_len 8
  refine Fn.enter Try.func58 rfl Try.ntmps58 rfl (L := [(0, _), (1, _)]) ⟨rfl, rfl, trivial⟩ fun base => ?_
  repeat (first | ((apply H.move); (iterate 3 exact rfl)) | (apply H.region))
  refine H.callR rfl rfl rfl (word_cs f _ cb s (by omega)) ?_
  repeat (((apply H.move); (iterate 3 exact rfl)))
  refine H.callR rfl rfl rfl (getReq_cs f _ cb (s.skip 8) (by omega)) ?_
  generalize (s.skip 8).req 32 128 = r
  repeat (first | ((apply H.nilCheck); (iterate 3 exact rfl)) | (apply H.fieldAddr; (iterate 3 exact rfl); exact inferInstance; exact rfl) | (apply H.store1; (iterate 4 exact rfl); (repeat (first | exact .here _ _ _ | apply At.there))))
  · exact SetV.mid (l := x.vals qp qc) (l' := ({ x with view := (s.num 8 : Nat) } : Bod).vals qp qc) (i := 1) (by repeat (first | exact .here _ _ _ | apply SetV.there)) pre post
  repeat (first | ((apply H.nilCheck); (iterate 3 exact rfl)) | (apply H.fieldAddr; (iterate 3 exact rfl); exact inferInstance; exact rfl))
  refine H.storeN (vs := r.vals) (ls' := pre ++ ({ x with view := (s.num 8 : Nat), req := r } : Bod).vals qp qc ++ post) rfl rfl rfl (allOne_mem rfl) rfl ?_ ?_ (.there _ (.here _ _ _)) ?_
  · exact splice_mid pre (({ x with view := (s.num 8 : Nat) } : Bod).vals qp qc) post 3 _ (show 3 + 40 ≤ 76 by decide)
  · rw [List.length_append, List.length_append, Bod.vals_len]
    show pre.length + 3 + 40 ≤ _
    omega
  repeat ((apply H.nil))
  exact H.end0 rfl (fun _ h => h) ⟨rfl, rfl, rfl⟩
end
end Go.Proofs.Ytcaofnfemogleaa

/- Layer 8, messages: how a NewView's body is got. -/
namespace Go.Proofs.Ytcaofnfemogleaa
set_option linter.unusedSectionVars false
set_option linter.unusedSimpArgs false
set_option linter.unusedVariables false
open Go
theorem bodAt_rd {f : Frag} {A A' : List HP} {xb : Nat} {T : TypeId} {pre post : List Value} {x : Bod} {qp : Option Addr} {qc : Nat} (h : At A (bodAt xb T pre post x qp qc) A' (bodAt xb T pre post x qp qc)) : Rd f A xb pre.length (x.vals qp qc) := by
  have h1 := Rd.ofRow (f := f) h
  have h2 := h1.sub (pre := pre) (l := x.vals qp qc) (post := post) rfl
  rwa [Nat.zero_add] at h2
section
variable (f : Frag) (F : List HP) (cb : Nat) (s : Cs) (xb : Nat) (T : TypeId) (pre post : List Value)
/-- Pairs that the call owns. -/
def qs (qp : Option Addr) (qc : Nat) (q : List (Int × Int)) : HP := slc qp q.length qc 87 2 (q.flatMap pairV)
theorem pairsV_one : ∀ (q : List (Int × Int)), ∀ v ∈ q.flatMap pairV, one v = true := by
  intro q v hv
  simp only [List.mem_flatMap] at hv
  obtain ⟨p, _, hp⟩ := hv
  simp only [pairV, List.mem_cons, List.not_mem_nil, or_false] at hp
  rcases hp with rfl | rfl <;> rfl
theorem get_newview (hl : s.l.length ≤ 1000000000) (x : Bod) (hx : x.q = []) :
    Fn Try.prog 68 [.pointer (some ⟨cb, 0, none⟩), .pointer (some ⟨xb, pre.length, none⟩)] f (cutC f cb s :: bodAt xb T pre post x none 0 :: F)
      (RetE (fun _ : Option Addr × Nat => .tuple #[]) f (fun i => cutC f cb (Cs.pairs ((s.skip 8).num 1) ((s.skip 8).skip 1) []).2 ::
        bodAt xb T pre post { x with view := (s.num 8 : Nat), q := (Cs.pairs ((s.skip 8).num 1) ((s.skip 8).skip 1) []).1 } i.1 i.2 :: qs i.1 i.2 (Cs.pairs ((s.skip 8).num 1) ((s.skip 8).skip 1) []).1 :: F)) := by
  have a1 := s.skip_len 8
  have a2 := (s.skip 8).skip_len 1
  have n1 := (s.skip 8).num1_lt
  refine Fn.enter Try.func68 rfl Try.ntmps68 rfl (L := [(0, _), (1, _)]) ⟨rfl, rfl, trivial⟩ fun base => ?_
  repeat (first | ((apply H.move); (iterate 3 exact rfl)) | (first | apply H.seq | apply H.region))
  refine H.callR rfl rfl rfl (word_cs f _ cb s (by omega)) ?_
  repeat (first | ((apply H.nilCheck); (iterate 3 exact rfl)) | (apply H.fieldAddr; (iterate 3 exact rfl); exact inferInstance; exact rfl) | (apply H.store1; (iterate 4 exact rfl); (repeat (first | exact .here _ _ _ | apply At.there))))
  · exact SetV.mid (l := x.vals none 0) (l' := ({ x with view := (s.num 8 : Nat), q := [] } : Bod).vals none 0) (i := 1) (by rw [show x.vals none 0 = ({ x with q := [] } : Bod).vals none 0 by rw [← hx]]; exact (by repeat (first | exact .here _ _ _ | apply SetV.there))) pre post
  repeat (first | ((apply H.move); (iterate 3 exact rfl)) | (first | apply H.seq | apply H.region | apply H.nil | apply H.then_normal))
  refine H.callR rfl rfl rfl (byte_cs f _ cb (s.skip 8) (by omega)) ?_
  repeat (first | ((apply H.assign); (iterate 3 exact rfl)) | (first | apply H.nil | apply H.then_normal) | (apply H.block))
  generalize hs0 : (s.skip 8).skip 1 = s0 at a2 ⊢
  generalize hN : (s.skip 8).num 1 = N at n1 ⊢
  refine H.slc0 87 2 ?_
  refine H.front (.there _ (.here _ _)) ?_
  refine H.front (.there _ (.there _ (.here _ _))) ?_
  refine H.loop (ι := Nat × Cs × List (Int × Int) × Option Addr × Nat) (fun i => [(4, .int .u8 (i.1 : Int)), (0, .pointer (some ⟨cb, 0, none⟩)), (1, .pointer (some ⟨xb, pre.length, none⟩))]) (fun _ => f)
    (fun i => bodAt xb T pre post { x with view := (s.num 8 : Nat), q := i.2.2.1 } i.2.2.2.1 i.2.2.2.2 :: cutC f cb i.2.1 :: qs i.2.2.2.1 i.2.2.2.2 i.2.2.1 :: F)
    (fun i => i.1 < 256 ∧ i.2.2.1.length + i.1 ≤ 255 ∧ i.2.1.l.length ≤ s.l.length ∧ Cs.pairs N s0 [] = Cs.pairs i.1 i.2.1 i.2.2.1) (fun i => i.1) (N, s0, [], none, 0) ⟨n1, by show 0 + N ≤ 255; omega, by show s0.l.length ≤ _; omega, rfl⟩ ⟨rfl, rfl, rfl, trivial⟩ rfl rfl fun i hi => ?_
  obtain ⟨n, s', acc, qp, qc⟩ := i
  obtain ⟨hn, hacc, hlen, hp⟩ : n < 256 ∧ acc.length + n ≤ 255 ∧ s'.l.length ≤ s.l.length ∧ Cs.pairs N s0 [] = Cs.pairs n s' acc := hi
  rw [hp]
  show H _ _ _ [(4, .int .u8 (n : Int)), (0, .pointer (some ⟨cb, 0, none⟩)), (1, .pointer (some ⟨xb, pre.length, none⟩))] _ (bodAt xb T pre post { x with view := (s.num 8 : Nat), q := acc } qp qc :: cutC f cb s' :: qs qp qc acc :: F) _
  cases n with
  | zero =>
    have h0 : ¬ (0 < ((0 : Nat) : Int)) := by omega
    have hp0 : Cs.pairs 0 s' acc = (acc, s') := rfl
    rw [hp0]
    repeat (first | ((apply H.move); (iterate 3 exact rfl)) | (first | apply H.seq | apply H.region | apply H.nil | apply H.then_normal) | ((apply H.cmp); (iterate 5 exact rfl)) | (apply H.pass; (iterate 2 exact rfl)) | ((apply H.pickF); (iterate 4 exact rfl)) | (apply H.cond_false; exact rfl) | (first | apply H.then_exit | apply H.exit | apply H.in_hit | apply H.loop_exit))
    refine H.front (.there _ (.here _ _)) ?_
    exact H.end0 rfl (fun _ h => h) ⟨(qp, qc), rfl, rfl, rfl⟩
  | succ n =>
    have h0 : 0 < ((n + 1 : Nat) : Int) := by omega
    refine H.front (.there _ (.here _ _)) ?_
    repeat (first | ((apply H.move); (iterate 3 exact rfl)) | (first | apply H.seq | apply H.region) | ((apply H.cmp); (iterate 5 exact rfl)) | (apply H.gyes; (iterate 3 exact rfl); (assumption)))
    refine H.callR rfl rfl rfl (ok_cs f _ cb s') ?_
    cases hbad : s'.bad with
    | true =>
      have hp0 : Cs.pairs (n + 1) s' acc = (acc, s') := by simp [Cs.pairs, hbad]
      rw [hp0]
      repeat (first | (first | apply H.nil | apply H.then_normal) | (apply H.pickT; (iterate 4 exact rfl)) | (apply H.cond_false; exact rfl) | (first | apply H.then_exit | apply H.exit | apply H.in_hit | apply H.loop_exit))
      exact H.end0 rfl (fun _ h => h) ⟨(qp, qc), rfl, rfl, rfl⟩
    | false =>
      have hp0 : Cs.pairs (n + 1) s' acc = Cs.pairs n ((s'.skip 1).skip 8) (acc ++ [(((s'.num 1 : Nat) : Int), (((s'.skip 1).num 8 : Nat) : Int))]) := by simp [Cs.pairs, hbad]
      rw [hp0]
      have b1 := s'.skip_len 1
      have b2 := (s'.skip 1).skip_len 8
      have m1 := s'.num1_lt
      repeat (first | (first | apply H.seq | apply H.nil | apply H.then_normal) | (apply H.pickT; (iterate 4 exact rfl)) | (apply H.cond_true; exact rfl) | (first | apply H.skip | apply H.block))
      refine H.front (.there _ (.here _ _)) ?_
      refine H.drawC [0, 1, 2, 3, 4, 5, 6, 7, 8, 9, 10, 11, 12] (by kernel_rfl) (by decide +kernel) (by first | exact blind_fn | exact blind_seq blind_fn | exact blind_seq (blind_seq blind_fn) | (repeat (first | exact blind_fn | refine blind_seq ?_ | refine blind_block ?_ | refine blind_loop ?_))) (S := [_]) rfl ?_
      refine HB.quiet [(0, false), (1, false), (2, false), (3, false), (4, false), (5, false), (8, false)] 9 (by kernel_rfl) ?_
      repeat (first | ((first | apply HQ.move | apply HQ.nilCheck); (iterate 3 exact rfl)) | (apply HQ.fieldAddr; (iterate 3 exact rfl); exact inferInstance; exact rfl))
      refine HQ.load1 rfl rfl rfl (.of (bodAt_rd (by repeat (first | exact .here _ _ _ | apply At.there))) (i := 43) rfl) rfl ?_
      repeat (((apply HQ.move); (iterate 3 exact rfl)))
      refine HQ.more rfl ?_
      refine HB.ev1 (i := 6) (by kernel_rfl) rfl ?_
      refine H.front (.there _ (.here _ _)) ?_
      refine H.callR rfl rfl rfl (byte_cs f _ cb s' (by omega)) ?_
      repeat ((apply H.nil))
      refine H.front (.there _ (.here _ _)) ?_
      refine H.on0 rfl ?_
      refine HB.quiet [(7, false)] 7 (by kernel_rfl) ?_
      repeat (((apply HQ.conv_int; (iterate 2 exact rfl)); (with_reducible apply wr_i64; omega); exact rfl))
      refine HQ.more rfl ?_
      refine HB.ev1 (i := 9) (by kernel_rfl) rfl ?_
      refine H.front (.there _ (.here _ _)) ?_
      refine H.callR rfl rfl rfl (word_cs f _ cb (s'.skip 1) (by omega)) ?_
      repeat ((apply H.nil))
      refine H.front (.there _ (.here _ _)) ?_
      refine H.on0 rfl ?_
      refine HB.quiet [(10, false)] 5 (by kernel_rfl) ?_
      repeat (((apply HQ.build); (iterate 5 exact rfl)))
      refine HQ.more rfl ?_
      generalize hpr : ((((s'.num 1 : Nat) : Int), (((s'.skip 1).num 8 : Nat) : Int)) : Int × Int) = pr
      refine HB.ev1 (i := 11) (by kernel_rfl) rfl ?_
      refine H.buildSlice (out := pairV pr) rfl rfl rfl rfl (by decide) (by decide) (by subst hpr; rfl) rfl fun tb => ?_
      repeat ((apply H.nil))
      refine H.front (.there _ (.here _ _)) ?_
      refine H.on0 rfl ?_
      refine HB.ev1 (i := 12) (by kernel_rfl) rfl ?_
      refine H.append (m := 1) (news := pairV pr) rfl rfl rfl rfl rfl (fun p' c' => (by repeat (first | exact .here _ _ _ | apply At.there))) (Src.slice (Rd.ofRow (by repeat (first | exact .here _ _ _ | apply At.there))) rfl) (allOne_mem rfl) rfl (show acc.length + 1 ≤ _ by omega) (show (acc.length + 1) * _ ≤ _ by omega) fun p' c' => ?_
      repeat ((apply H.nil))
      refine H.on0 rfl ?_
      refine HB.next [] (by kernel_rfl) (S' := []) rfl ?_
      refine HB.quiet [(13, false), (14, false)] 1 (by kernel_rfl) ?_
      repeat (first | ((apply HQ.nilCheck); (iterate 3 exact rfl)) | (apply HQ.fieldAddr; (iterate 3 exact rfl); exact inferInstance; exact rfl))
      refine HQ.more rfl ?_
      refine HB.ev1 (i := 15) (by kernel_rfl) rfl ?_
      repeat ((apply H.store1; (iterate 4 exact rfl); (repeat (exact .here _ _ _))))
      have e : Value.slice p' (acc.length + 1) c' = .slice p' (acc ++ [pr]).length c' := by rw [List.length_append]; rfl
      · rw [e]
        exact SetV.mid (l := ({ x with view := (s.num 8 : Nat), q := acc } : Bod).vals qp qc) (l' := ({ x with view := (s.num 8 : Nat), q := acc ++ [pr] } : Bod).vals p' c') (i := 43) (by repeat (first | exact .here _ _ _ | apply SetV.there)) pre post
      repeat ((apply H.nil))
      refine H.on0 rfl ?_
      refine HB.done (by kernel_rfl) ?_
      refine H.drop (.there _ (.here _ _)) ?_
      repeat (first | ((first | apply H.move | apply H.assign); (iterate 3 exact rfl)) | (first | apply H.region | apply H.nil | apply H.then_normal) | ((apply H.ar; (iterate 4 exact rfl)); (with_reducible apply wr_u8; omega); exact rfl) | (apply H.in_normal))
      refine H.know (d := 4) (u := .int .u8 (n : Int)) rfl (congrArg (Value.int .u8) (by omega)) ?_
      have e2 : qs p' c' (acc ++ [pr]) = slc p' (acc.length + 1) c' 87 2 (acc.flatMap pairV ++ pairV pr) := by
        unfold qs; rw [List.length_append, List.flatMap_append]; simp
      refine H.again (n, (s'.skip 1).skip 8, acc ++ [pr], p', c') ⟨by show n < 256; omega, by show (acc ++ [pr]).length + n ≤ 255; rw [List.length_append]; simp only [List.length_cons, List.length_nil]; omega, by show ((s'.skip 1).skip 8).l.length ≤ _; omega, ?_⟩ (Nat.lt_succ_self n) ⟨rfl, rfl, rfl, trivial⟩ rfl ?_
      · exact rfl
      · show _ = bodAt xb T pre post { x with view := (s.num 8 : Nat), q := acc ++ [pr] } p' c' :: cutC f cb ((s'.skip 1).skip 8) :: qs p' c' (acc ++ [pr]) :: F
        rw [e2]
        rfl
end
end Go.Proofs.Ytcaofnfemogleaa

/- Layer 8, messages: how each kind of body is put; which fields may be. -/
namespace Go.Proofs.Ytcaofnfemogleaa
set_option linter.unusedSectionVars false
set_option linter.unusedSimpArgs false
set_option linter.unusedVariables false
open Go
theorem u8_b8 (z : Int) : IntKind.u8.wrap z = ((b8 z).toNat : Int) := u8_wrap z
theorem row_req {f : Frag} {A A' : List HP} {xb : Nat} {T : TypeId} {x : Bod} {q : Option Addr} {qc : Nat} (h : At A (row xb T (x.vals q qc)) A' (row xb T (x.vals q qc))) : Rd f A xb (0 + 3) x.req.vals := by
  have h1 := Rd.ofRow (f := f) h
  have e : x.vals q qc = [.int .u8 (x.kind.toNat : Nat), .int .u64 x.view, .int .u64 x.k] ++ x.req.vals ++ ([.slice q x.q.length qc] ++ b32 x.dig) := rfl
  rw [e] at h1
  exact h1.sub rfl
theorem row_rtag {f : Frag} {A A' : List HP} {xb : Nat} {T : TypeId} {x : Bod} {q : Option Addr} {qc : Nat} (h : At A (row xb T (x.vals q qc)) A' (row xb T (x.vals q qc))) : Rd f A xb (0 + 3 + 8) (bytesV (b32L x.req.tag)) := by
  have h1 := Rd.ofRow (f := f) h
  have e : x.vals q qc = ([.int .u8 (x.kind.toNat : Nat), .int .u64 x.view, .int .u64 x.k] ++ [.int .i64 x.req.client, .int .u64 x.req.time, .int .u8 (x.req.kind.toNat : Nat), .string x.req.key, .string x.req.val, .string x.req.old, .string x.req.to, .int .u64 x.req.amount]) ++ bytesV (b32L x.req.tag) ++ ([.slice q x.q.length qc] ++ b32 x.dig) := rfl
  rw [e] at h1
  exact h1.sub rfl
theorem row_dig {f : Frag} {A A' : List HP} {xb : Nat} {T : TypeId} {x : Bod} {q : Option Addr} {qc : Nat} (h : At A (row xb T (x.vals q qc)) A' (row xb T (x.vals q qc))) : Rd f A xb (0 + 44) (bytesV (b32L x.dig)) := by
  have h1 := Rd.ofRow (f := f) h
  have e : x.vals q qc = ([.int .u8 (x.kind.toNat : Nat), .int .u64 x.view, .int .u64 x.k] ++ x.req.vals ++ [.slice q x.q.length qc]) ++ bytesV (b32L x.dig) ++ [] := (List.append_nil _).symm
  rw [e] at h1
  exact h1.sub rfl
theorem Req.bytes_len (r : Req) : r.bytes.length = 26 + r.key.size + r.val.size + r.old.size + r.to.size := by
  unfold Req.bytes textB
  simp only [List.length_append, be_len, data_len]
  show 2 + 8 + 8 + _ + _ + _ + _ = _
  omega
section
variable (f : Frag) (A : List HP) (x : Bod) (q : Option Addr) (qc : Nat)
theorem may_prepare : Fn Try.prog 61 [.agg (x.vals q qc).toArray] f A (Ret (.bool (decide x.req.asked)) f A) := by
  refine Fn.enter Try.func61 rfl Try.ntmps61 rfl (L := [(0, _)]) ⟨rfl, trivial⟩ fun base => ?_
  repeat ((first | apply H.seq | apply H.region))
  refine H.box (ls := x.vals q qc) rfl rfl rfl rfl fun xb => ?_
  repeat (first | ((apply H.assign); (iterate 3 exact rfl)) | (apply H.fieldAddr; (iterate 3 exact rfl); exact inferInstance; exact rfl) | (first | apply H.seq | apply H.region | apply H.nil | apply H.then_normal))
  refine H.loadN (ls := x.req.vals) rfl rfl rfl (row_req (by repeat (first | exact .here _ _ _ | apply At.there))) rfl rfl ?_
  refine H.callR rfl rfl rfl (asked_fn f _ x.req) ?_
  repeat (first | ((apply H.assign); (iterate 3 exact rfl)) | (first | apply H.nil | apply H.then_normal) | (apply H.ret))
  refine H.drop (.here _ _) ?_
  exact H.ret1 rfl rfl (fun _ h => h) ⟨rfl, rfl, rfl⟩
theorem may_newview (hq : QAt f q x.q) (hl : x.q.length ≤ 1000000000000) : Fn Try.prog 71 [.agg (x.vals q qc).toArray] f A (Ret (.bool (decide (1 ≤ x.view) && (quo 0 x.q && decide (0 < x.q.length)))) f A) := by
  by_cases hv : 1 ≤ x.view
  · refine Fn.enter Try.func71 rfl Try.ntmps71 rfl (L := [(0, _)]) ⟨rfl, trivial⟩ fun base => ?_
    repeat ((first | apply H.seq | apply H.region))
    refine H.box (ls := x.vals q qc) rfl rfl rfl rfl fun xb => ?_
    repeat (first | ((first | apply H.move | apply H.assign); (iterate 3 exact rfl)) | (apply H.fieldAddr; (iterate 3 exact rfl); exact inferInstance; exact rfl) | (apply H.load1; (iterate 3 exact rfl); apply Rd1.ofRow; (repeat (exact .here _ _ _)); (iterate 2 exact rfl)) | (first | apply H.seq | apply H.region | apply H.nil | apply H.then_normal) | ((apply H.cmp); (iterate 5 exact rfl)) | (apply H.gyes; (iterate 3 exact rfl); (assumption)))
    refine H.callR rfl rfl rfl (quorum_fn f _ hq hl) ?_
    repeat (first | ((apply H.assign); (iterate 3 exact rfl)) | (first | apply H.nil | apply H.then_normal) | (apply H.pickT; (iterate 4 exact rfl)) | (apply H.ret))
    refine H.drop (.here _ _) ?_
    exact H.ret1 rfl rfl (fun _ h => h) ⟨by rw [decide_eq_true hv, Bool.true_and], rfl, rfl⟩
  · refine Fn.enter Try.func71 rfl Try.ntmps71 rfl (L := [(0, _)]) ⟨rfl, trivial⟩ fun base => ?_
    repeat ((first | apply H.seq | apply H.region))
    refine H.box (ls := x.vals q qc) rfl rfl rfl rfl fun xb => ?_
    repeat (first | ((first | apply H.move | apply H.assign); (iterate 3 exact rfl)) | (apply H.fieldAddr; (iterate 3 exact rfl); exact inferInstance; exact rfl) | (apply H.load1; (iterate 3 exact rfl); apply Rd1.ofRow; (repeat (exact .here _ _ _)); (iterate 2 exact rfl)) | (first | apply H.seq | apply H.region | apply H.nil | apply H.then_normal) | ((apply H.cmp); (iterate 5 exact rfl)) | (apply H.pass; (iterate 2 exact rfl)) | ((apply H.pickF); (iterate 4 exact rfl)) | (apply H.ret) | (apply H.gno; (iterate 3 exact rfl); (assumption)))
    refine H.drop (.here _ _) ?_
    exact H.ret1 rfl rfl (fun _ h => h) ⟨by rw [decide_eq_false hv, Bool.false_and], rfl, rfl⟩
theorem put_commit {p : Option Addr} {c : Nat} {l : List UInt8} (hs : Src Try.prog f A (.slice p l.length c) 1 l.length (bytesV l)) (hn : p = none → l = []) (hl : l.length ≤ 100000000) :
    Fn Try.prog 63 [.slice p l.length c, .agg (x.vals q qc).toArray] f A (BytesR (l ++ (be 8 x.view ++ be 8 x.k)) f A) := by
  refine Fn.enter Try.func63 rfl Try.ntmps63 rfl (L := [(0, _), (1, _)]) ⟨rfl, rfl, trivial⟩ fun base => ?_
  repeat ((first | apply H.seq | apply H.region))
  refine H.box (ls := x.vals q qc) rfl rfl rfl rfl fun xb => ?_
  repeat (first | ((apply H.assign); (iterate 3 exact rfl)) | (first | apply H.seq | apply H.nil | apply H.then_normal))
  refine H.drawB (by kernel_rfl) (by decide +kernel) (by first | exact blind_fn | exact blind_seq blind_fn | exact blind_seq (blind_seq blind_fn) | (repeat (first | exact blind_fn | refine blind_seq ?_ | refine blind_block ?_ | refine blind_loop ?_))) (S := [_]) rfl ?_
  refine HB.quiet [(0, false), (1, false), (2, false), (4, false), (5, false)] 3 (by kernel_rfl) ?_
  repeat (first | ((apply HQ.move); (iterate 3 exact rfl)) | (apply HQ.fieldAddr; (iterate 3 exact rfl); exact inferInstance; exact rfl) | (apply HQ.load1; (iterate 3 exact rfl); apply Rd1.ofRow; (repeat (exact .here _ _ _)); (iterate 2 exact rfl)))
  refine HQ.more rfl ?_
  refine HB.ev1 (i := 3) (by kernel_rfl) rfl ?_
  refine H.callE2 rfl rfl rfl (word_fn f _ hs.cons hn (by omega)) fun p1 c1 => ?_
  repeat ((apply H.nil))
  refine H.front (.there _ (.here _ _)) ?_
  refine H.on0 rfl ?_
  refine HB.ev1 (i := 6) (by kernel_rfl) rfl ?_
  have h1 : (l ++ be 8 x.view).length = l.length + 8 := by rw [List.length_append, be_len]
  generalize hl1 : l ++ be 8 x.view = l1 at h1
  refine H.slc_some (.there _ (.here _ _ _)) (by omega) fun b3 hp => ?_
  subst hp
  refine H.callE2 rfl rfl rfl (word_fn (l := l1) f _ (Src.slcS (.there _ (.here _ _ _)) (by rw [bytesV_len]; exact (Nat.mul_one _).symm)) (fun h => by cases h) (by omega)) fun p4 c4 => ?_
  repeat ((apply H.nil))
  refine H.drop (.there _ (.there _ (.here _ _))) ?_
  refine H.front (.there _ (.here _ _)) ?_
  refine H.on0 rfl ?_
  refine HB.quiet [(7, false)] 0 (by kernel_rfl) ?_
  repeat (((apply HQ.assign); (iterate 3 exact rfl)))
  refine HQ.more rfl ?_
  refine HB.done (by kernel_rfl) ?_
  repeat (first | (apply H.then_normal) | (apply H.ret))
  refine H.drop (.here _ _) ?_
  exact H.ret1 rfl rfl (fun _ h => h) ⟨p4, c4, by rw [← List.append_assoc, hl1], rfl, by rw [← List.append_assoc, hl1]; rfl⟩
theorem put_prepare {p : Option Addr} {c : Nat} {l : List UInt8} (hs : Src Try.prog f A (.slice p l.length c) 1 l.length (bytesV l)) (hn : p = none → l = []) (ha : x.req.asked) (hl : l.length ≤ 100000000) :
    Fn Try.prog 55 [.slice p l.length c, .agg (x.vals q qc).toArray] f A (BytesR (l ++ (be 8 x.view ++ x.req.bytes ++ b32L x.req.tag)) f A) := by
  have hb : x.req.bytes.length ≤ 1000 := by
    obtain ⟨_, _, _, _, ⟨k1, k2⟩, k3, k4⟩ := ha
    rw [Req.bytes_len]; omega
  refine Fn.enter Try.func55 rfl Try.ntmps55 rfl (L := [(0, _), (1, _)]) ⟨rfl, rfl, trivial⟩ fun base => ?_
  repeat ((first | apply H.seq | apply H.region))
  refine H.box (ls := x.vals q qc) rfl rfl rfl rfl fun xb => ?_
  repeat (first | ((apply H.assign); (iterate 3 exact rfl)) | (first | apply H.seq | apply H.nil | apply H.then_normal))
  refine H.drawB (by kernel_rfl) (by decide +kernel) (by first | exact blind_fn | exact blind_seq blind_fn | exact blind_seq (blind_seq blind_fn) | (repeat (first | exact blind_fn | refine blind_seq ?_ | refine blind_block ?_ | refine blind_loop ?_))) (S := [_]) rfl ?_
  refine HB.quiet [(0, false), (1, false), (2, false), (4, false), (5, false), (7, false), (8, false), (9, false)] 4 (by kernel_rfl) ?_
  repeat (first | ((apply HQ.move); (iterate 3 exact rfl)) | (apply HQ.fieldAddr; (iterate 3 exact rfl); exact inferInstance; exact rfl) | (apply HQ.load1; (iterate 3 exact rfl); apply Rd1.ofRow; (repeat (exact .here _ _ _)); (iterate 2 exact rfl)))
  refine HQ.loadN (ls := x.req.vals) rfl rfl rfl (row_req (by repeat (first | exact .here _ _ _ | apply At.there))) rfl rfl ?_
  repeat ((apply HQ.fieldAddr; (iterate 3 exact rfl); exact inferInstance; exact rfl))
  refine HQ.sliceArr (lo := none) (hi := none) (mx := none) (lv := 0) (hv := 32) (mv := 32) rfl rfl rfl rfl rfl (fun h => by cases h) (by decide) (by decide) (by decide) rfl ?_
  refine HQ.more rfl ?_
  refine HB.ev1 (i := 3) (by kernel_rfl) rfl ?_
  refine H.callE2 rfl rfl rfl (word_fn f _ hs.cons hn (by omega)) fun p1 c1 => ?_
  repeat ((apply H.nil))
  refine H.front (.there _ (.here _ _)) ?_
  refine H.on0 rfl ?_
  refine HB.ev1 (i := 6) (by kernel_rfl) rfl ?_
  have h1 : (l ++ be 8 x.view).length = l.length + 8 := by rw [List.length_append, be_len]
  generalize hl1 : l ++ be 8 x.view = l1 at h1
  refine H.front (.there _ (.here _ _)) ?_
  refine H.callE2 rfl rfl rfl (request_fn f _ x.req ha (by omega)) fun p2 c2 => ?_
  have h2 : (l1 ++ x.req.bytes).length = l1.length + x.req.bytes.length := List.length_append
  generalize hl2 : l1 ++ x.req.bytes = l2 at h2
  repeat ((apply H.nil))
  refine H.front (.there _ (.here _ _)) ?_
  refine H.on0 rfl ?_
  refine HB.ev1 (i := 10) (by kernel_rfl) rfl ?_
  refine H.append (m := 32) rfl rfl rfl rfl rfl (fun p' c' => (by repeat (first | exact .here _ _ _ | apply At.there))) (Src.slice (row_rtag (by repeat (first | exact .here _ _ _ | apply At.there))) rfl) (bytesV_one _) rfl (by omega) (by omega) fun p3 c3 => ?_
  repeat ((apply H.nil))
  refine H.on0 rfl ?_
  refine HB.quiet [(11, false)] 0 (by kernel_rfl) ?_
  repeat (((apply HQ.assign); (iterate 3 exact rfl)))
  refine HQ.more rfl ?_
  refine HB.done (by kernel_rfl) ?_
  repeat (first | (apply H.then_normal) | (apply H.ret))
  refine H.drop (.here _ _) ?_
  have e3 : (l ++ (be 8 x.view ++ x.req.bytes ++ b32L x.req.tag)) = l2 ++ b32L x.req.tag := by rw [← hl2, ← hl1]; simp only [List.append_assoc]
  exact H.ret1 rfl rfl (fun _ h => h) ⟨p3, c3, by rw [e3, List.length_append]; rfl, rfl, by rw [e3, List.length_append, bytesV_append]; rfl⟩
theorem put_check {p : Option Addr} {c : Nat} {l : List UInt8} (hs : Src Try.prog f A (.slice p l.length c) 1 l.length (bytesV l)) (hn : p = none → l = []) (hl : l.length ≤ 100000000) :
    Fn Try.prog 73 [.slice p l.length c, .agg (x.vals q qc).toArray] f A (BytesR (l ++ (be 8 x.k ++ b32L x.dig)) f A) := by
  refine Fn.enter Try.func73 rfl Try.ntmps73 rfl (L := [(0, _), (1, _)]) ⟨rfl, rfl, trivial⟩ fun base => ?_
  repeat ((first | apply H.seq | apply H.region))
  refine H.box (ls := x.vals q qc) rfl rfl rfl rfl fun xb => ?_
  repeat (first | ((apply H.assign); (iterate 3 exact rfl)) | (first | apply H.seq | apply H.nil | apply H.then_normal))
  refine H.drawB (by kernel_rfl) (by decide +kernel) (by first | exact blind_fn | exact blind_seq blind_fn | exact blind_seq (blind_seq blind_fn) | (repeat (first | exact blind_fn | refine blind_seq ?_ | refine blind_block ?_ | refine blind_loop ?_))) (S := [_]) rfl ?_
  refine HB.quiet [(0, false), (1, false), (2, false), (4, false), (5, false)] 3 (by kernel_rfl) ?_
  repeat (first | ((apply HQ.move); (iterate 3 exact rfl)) | (apply HQ.fieldAddr; (iterate 3 exact rfl); exact inferInstance; exact rfl) | (apply HQ.load1; (iterate 3 exact rfl); apply Rd1.ofRow; (repeat (exact .here _ _ _)); (iterate 2 exact rfl)))
  refine HQ.sliceArr (lo := none) (hi := none) (mx := none) (lv := 0) (hv := 32) (mv := 32) rfl rfl rfl rfl rfl (fun h => by cases h) (by decide) (by decide) (by decide) rfl ?_
  refine HQ.more rfl ?_
  refine HB.ev1 (i := 3) (by kernel_rfl) rfl ?_
  refine H.callE2 rfl rfl rfl (word_fn f _ hs.cons hn (by omega)) fun p1 c1 => ?_
  repeat ((apply H.nil))
  refine H.front (.there _ (.here _ _)) ?_
  refine H.on0 rfl ?_
  refine HB.ev1 (i := 6) (by kernel_rfl) rfl ?_
  have h1 : (l ++ be 8 x.k).length = l.length + 8 := by rw [List.length_append, be_len]
  generalize hl1 : l ++ be 8 x.k = l1 at h1
  refine H.append (m := 32) rfl rfl rfl rfl rfl (fun p' c' => (by repeat (first | exact .here _ _ _ | apply At.there))) (Src.slice (row_dig (by repeat (first | exact .here _ _ _ | apply At.there))) rfl) (bytesV_one _) rfl (by omega) (by omega) fun p3 c3 => ?_
  repeat ((apply H.nil))
  refine H.on0 rfl ?_
  refine HB.quiet [(7, false)] 0 (by kernel_rfl) ?_
  repeat (((apply HQ.assign); (iterate 3 exact rfl)))
  refine HQ.more rfl ?_
  refine HB.done (by kernel_rfl) ?_
  repeat (first | (apply H.then_normal) | (apply H.ret))
  refine H.drop (.here _ _) ?_
  have e3 : (l ++ (be 8 x.k ++ b32L x.dig)) = l1 ++ b32L x.dig := by rw [← hl1]; simp only [List.append_assoc]
  exact H.ret1 rfl rfl (fun _ h => h) ⟨p3, c3, by rw [e3, List.length_append]; rfl, rfl, by rw [e3, List.length_append, bytesV_append]; rfl⟩
theorem put_view {p : Option Addr} {c : Nat} {l : List UInt8} (hs : Src Try.prog f A (.slice p l.length c) 1 l.length (bytesV l)) (hn : p = none → l = []) (hl : l.length ≤ 100000000) :
    Fn Try.prog 89 [.slice p l.length c, .agg (x.vals q qc).toArray] f A (BytesR (l ++ be 8 x.view) f A) := view1_fn f A x q qc hs hn (by omega)
theorem put_newview {p : Option Addr} {c : Nat} {l : List UInt8} (hs : Src Try.prog f A (.slice p l.length c) 1 l.length (bytesV l)) (hn : p = none → l = []) (hq : QAt f q x.q) (hql : x.q.length ≤ 1000) (hl : l.length ≤ 100000000) :
    Fn Try.prog 67 [.slice p l.length c, .agg (x.vals q qc).toArray] f A (BytesR (l ++ (be 8 x.view ++ [b8 x.q.length] ++ x.q.flatMap pairB)) f A) := by
  have h1 : (l ++ be 8 x.view).length = l.length + 8 := by rw [List.length_append, be_len]
  refine Fn.enter Try.func67 rfl Try.ntmps67 rfl (L := [(0, _), (1, _)]) ⟨rfl, rfl, trivial⟩ fun base => ?_
  repeat ((first | apply H.seq | apply H.region))
  refine H.box (ls := x.vals q qc) rfl rfl rfl rfl fun xb => ?_
  repeat (first | ((apply H.assign); (iterate 3 exact rfl)) | (first | apply H.seq | apply H.nil | apply H.then_normal))
  refine H.cut (ι := Option Addr × Nat) (fun i => [(0, .slice i.1 ((l ++ be 8 x.view).length + 1) i.2), (3, .pointer (some ⟨xb, 0, none⟩))]) (fun _ => f) (fun i => row xb 59 (x.vals q qc) :: slc i.1 ((l ++ be 8 x.view).length + 1) i.2 5 1 (bytesV (l ++ be 8 x.view) ++ bytesV [b8 x.q.length]) :: A) (fun _ => True) _ (fun i _ => ?_) ?_
  · obtain ⟨p1, c1⟩ := i
    generalize hl0 : l ++ be 8 x.view ++ [b8 x.q.length] = l0
    have e0 : l0.length = (l ++ be 8 x.view).length + 1 := by rw [← hl0, List.length_append]; rfl
    have e1 : bytesV l0 = bytesV (l ++ be 8 x.view) ++ bytesV [b8 x.q.length] := by rw [← hl0, bytesV_append]
    show H _ _ _ [(0, .slice p1 ((l ++ be 8 x.view).length + 1) c1), _] _ (row _ _ _ :: slc p1 ((l ++ be 8 x.view).length + 1) c1 _ _ (bytesV (l ++ be 8 x.view) ++ bytesV [b8 x.q.length]) :: A) _
    rw [← e0, ← e1]
    repeat (first | ((first | apply H.move | apply H.len_slice); (iterate 3 exact rfl)) | (apply H.fieldAddr; (iterate 3 exact rfl); exact inferInstance; exact rfl) | (apply H.load1; (iterate 3 exact rfl); apply Rd1.ofRow; (repeat (exact .here _ _ _)); (iterate 2 exact rfl)) | (first | apply H.seq | apply H.region | apply H.nil | apply H.then_normal) | (apply H.block))
    refine H.loop (ι := Nat × Option Addr × Nat) (fun i => [(20, .int .i64 (i.1 : Int)), (19, .int .i64 (x.q.length : Nat)), (18, .slice q x.q.length qc), (0, .slice i.2.1 (l0 ++ (x.q.take i.1).flatMap pairB).length i.2.2), (3, .pointer (some ⟨xb, 0, none⟩))]) (fun _ => f)
      (fun i => row xb 59 (x.vals q qc) :: slc i.2.1 (l0 ++ (x.q.take i.1).flatMap pairB).length i.2.2 5 1 (bytesV (l0 ++ (x.q.take i.1).flatMap pairB)) :: A)
      (fun i => i.1 ≤ x.q.length ∧ (l0 ++ (x.q.take i.1).flatMap pairB).length = l0.length + 9 * i.1) (fun i => x.q.length - i.1) (0, p1, c1) ⟨Nat.zero_le _, by simp⟩ ⟨rfl, rfl, rfl, ?_, rfl, trivial⟩ rfl ?_ fun i hi => ?_
    · show some (Value.slice p1 l0.length c1) = some (Value.slice p1 (l0 ++ []).length c1)
      rw [List.append_nil]
    · show _ = _ :: slc p1 (l0 ++ []).length c1 _ 1 (bytesV (l0 ++ [])) :: A
      rw [List.append_nil]
    · obtain ⟨i, p', c'⟩ := i
      obtain ⟨hi, hlen⟩ : i ≤ x.q.length ∧ (l0 ++ (x.q.take i).flatMap pairB).length = l0.length + 9 * i := hi
      show H _ _ _ [(20, .int .i64 (i : Int)), _, _, (0, .slice p' (l0 ++ (x.q.take i).flatMap pairB).length c'), _] _ (_ :: slc p' (l0 ++ (x.q.take i).flatMap pairB).length c' _ 1 (bytesV (l0 ++ (x.q.take i).flatMap pairB)) :: A) _
      generalize hacc : l0 ++ (x.q.take i).flatMap pairB = acc at hlen
      by_cases hlt : i < x.q.length
      · have hx : x.q[i]? = some x.q[i] := List.getElem?_eq_getElem hlt
        generalize x.q[i] = pr at hx
        have e3 : l0 ++ (x.q.take (i + 1)).flatMap pairB = acc ++ [b8 pr.1] ++ be 8 pr.2 := by
          rw [List.take_add_one, hx, ← hacc]; simp [pairB]
        obtain ⟨b, off, cs, T, fr, rfl, hfb, hcs⟩ := hq i pr hx
        have rd : ∀ A, Rd f A b (off + i * 2) (pairV pr) := fun A => Rd.imm hfb hcs
        clear hcs hfb
        repeat (first | (first | apply H.seq | apply H.region | apply H.nil | apply H.then_normal) | ((apply H.cmp); (iterate 5 exact rfl)) | (first | apply H.skip | apply H.block) | (apply H.cond_yes; exact rfl; (omega)))
        refine H.index_slice rfl rfl rfl rfl hlt rfl ?_
        refine H.loadN (ls := pairV pr) rfl rfl rfl (rd _) rfl rfl ?_
        refine H.alloc rfl rfl rfl fun pb => ?_
        refine H.storeN (ls := [.int .i64 0, .int .u64 0]) (vs := pairV pr) (ls' := pairV pr) rfl rfl rfl (allOne_mem rfl) rfl rfl (Nat.le_refl 2) (by repeat (first | exact .here _ _ _ | apply At.there)) ?_
        repeat ((first | apply H.nil | apply H.then_normal))
        refine H.drawB (by kernel_rfl) (by decide +kernel) (by first | exact blind_fn | exact blind_seq blind_fn | exact blind_seq (blind_seq blind_fn) | (repeat (first | exact blind_fn | refine blind_seq ?_ | refine blind_block ?_ | refine blind_loop ?_))) (S := [_]) rfl ?_
        refine HB.quiet [(0, false), (1, false), (2, false), (3, false), (6, false), (7, false)] 4 (by kernel_rfl) ?_
        repeat (first | ((apply HQ.move); (iterate 3 exact rfl)) | (apply HQ.fieldAddr; (iterate 3 exact rfl); exact inferInstance; exact rfl) | (apply HQ.load1; (iterate 3 exact rfl); apply Rd1.ofRow; (repeat (exact .here _ _ _)); (iterate 2 exact rfl)) | ((apply HQ.conv_int; (iterate 2 exact rfl)); (rfl); exact rfl))
        rw [u8_b8]
        refine HQ.more rfl ?_
        refine HB.ev1 (i := 4) (by kernel_rfl) rfl ?_
        refine H.buildSlice (out := bytesV [b8 pr.1]) rfl rfl rfl rfl (by decide) (by decide) rfl rfl fun tb => ?_
        repeat ((apply H.nil))
        refine H.front (.there _ (.here _ _)) ?_
        refine H.on0 rfl ?_
        refine HB.ev1 (i := 5) (by kernel_rfl) rfl ?_
        refine H.append (m := 1) rfl rfl rfl rfl rfl (fun p' c' => (by repeat (first | exact .here _ _ _ | apply At.there))) (Src.slice (Rd.ofRow (.there _ (.here _ _ _))) rfl) (bytesV_one _) rfl (by omega) (by omega) fun p3 c3 => ?_
        repeat ((apply H.nil))
        refine H.drop (.there _ (.here _ _)) ?_
        refine H.on0 rfl ?_
        refine HB.ev1 (i := 8) (by kernel_rfl) rfl ?_
        have f0 : (acc ++ [b8 pr.1]).length = acc.length + 1 := by rw [List.length_append]; rfl
        have f1 : bytesV (acc ++ [b8 pr.1]) = bytesV acc ++ bytesV [b8 pr.1] := bytesV_append _ _
        generalize acc ++ [b8 pr.1] = l4 at f0 f1 e3
        show H _ _ _ _ _ (row _ _ _ :: row _ _ _ :: slc p3 (acc.length + 1) c3 _ _ (bytesV acc ++ bytesV [b8 pr.1]) :: A) _
        rw [← f0, ← f1]
        refine H.slc_some (.there _ (.there _ (.here _ _ _))) (by omega) fun b3 hp => ?_
        subst hp
        refine H.callE2 rfl rfl rfl (word_fn (l := l4) f _ (Src.slcS (.there _ (.there _ (.here _ _ _))) (by rw [bytesV_len]; exact (Nat.mul_one _).symm)) (fun h => by cases h) (by omega)) fun p4 c4 => ?_
        repeat ((apply H.nil))
        refine H.drop (.there _ (.there _ (.there _ (.here _ _)))) ?_
        refine H.front (.there _ (.here _ _)) ?_
        refine H.on0 rfl ?_
        refine HB.quiet [(9, false)] 0 (by kernel_rfl) ?_
        repeat (((apply HQ.assign); (iterate 3 exact rfl)))
        refine HQ.more rfl ?_
        refine HB.done (by kernel_rfl) ?_
        repeat (first | ((apply H.move); (iterate 3 exact rfl)) | (first | apply H.region | apply H.nil | apply H.then_normal) | ((apply H.ar; (iterate 4 exact rfl)); (with_reducible apply wr_i64_n1; omega); exact rfl) | (apply H.in_normal))
        refine H.drop (.here _ _) ?_
        refine H.front (.there _ (.here _ _)) ?_
        refine H.again (i + 1, p4, c4) ⟨by show i + 1 ≤ x.q.length; omega, ?_⟩ (by show x.q.length - (i + 1) < x.q.length - i; omega) ⟨rfl, rfl, rfl, ?_, rfl, trivial⟩ rfl ?_
        · show (l0 ++ (x.q.take (i + 1)).flatMap pairB).length = l0.length + 9 * (i + 1)
          rw [e3, List.length_append, be_len]; omega
        · show some _ = some (Value.slice p4 (l0 ++ (x.q.take (i + 1)).flatMap pairB).length c4)
          rw [e3]
        · show _ = _ :: slc p4 (l0 ++ (x.q.take (i + 1)).flatMap pairB).length c4 _ 1 (bytesV (l0 ++ (x.q.take (i + 1)).flatMap pairB)) :: A
          rw [e3]
      · have : i = x.q.length := by omega
        subst this
        rw [List.take_length] at hacc
        repeat (first | ((first | apply H.move | apply H.assign); (iterate 3 exact rfl)) | (first | apply H.seq | apply H.region | apply H.nil | apply H.then_normal) | ((apply H.cmp); (iterate 5 exact rfl)) | (first | apply H.ret | apply H.then_exit | apply H.exit | apply H.in_hit | apply H.loop_exit) | (apply H.cond_no; exact rfl; (omega)))
        refine H.drop (.here _ _) ?_
        have e9 : l ++ (be 8 x.view ++ [b8 x.q.length] ++ x.q.flatMap pairB) = acc := by rw [← hacc, ← hl0]; simp only [List.append_assoc]
        exact H.ret1 rfl rfl (fun _ h => h) ⟨p', c', by rw [e9], rfl, by rw [e9]⟩
  · refine H.drawB (by kernel_rfl) (by decide +kernel) (by first | exact blind_fn | exact blind_seq blind_fn | exact blind_seq (blind_seq blind_fn) | (repeat (first | exact blind_fn | refine blind_seq ?_ | refine blind_block ?_ | refine blind_loop ?_))) (S := [_]) rfl ?_
    refine HB.quiet [(0, false), (1, false), (2, false), (4, false), (5, false), (6, false), (7, false)] 4 (by kernel_rfl) ?_
    repeat (first | ((first | apply HQ.move | apply HQ.len_slice); (iterate 3 exact rfl)) | (apply HQ.fieldAddr; (iterate 3 exact rfl); exact inferInstance; exact rfl) | (apply HQ.load1; (iterate 3 exact rfl); apply Rd1.ofRow; (repeat (exact .here _ _ _)); (iterate 2 exact rfl)) | ((apply HQ.conv_int; (iterate 2 exact rfl)); (rfl); exact rfl))
    rw [u8_b8]
    refine HQ.more rfl ?_
    refine HB.ev2 (i := 3) (j := 8) (by kernel_rfl) rfl rfl ?_ ?_
    · refine H.callE2 rfl rfl rfl (word_fn f _ hs.cons hn (by omega)) fun p1 c1 => ?_
      repeat ((apply H.nil))
      refine H.front (.there _ (.here _ _)) ?_
      refine H.on0 rfl ?_
      refine HB.ev1 (i := 8) (by kernel_rfl) rfl ?_
      refine H.buildSlice (out := bytesV [b8 x.q.length]) rfl rfl rfl rfl (by decide) (by decide) rfl rfl fun tb => ?_
      repeat ((apply H.nil))
      refine H.front (.there _ (.here _ _)) ?_
      refine H.on0 rfl ?_
      refine HB.ev1 (i := 9) (by kernel_rfl) rfl ?_
      refine H.append (m := 1) rfl rfl rfl rfl rfl (fun p' c' => (by repeat (first | exact .here _ _ _ | apply At.there))) (Src.slice (Rd.ofRow (.there _ (.here _ _ _))) rfl) (bytesV_one _) rfl (by omega) (by omega) fun p3 c3 => ?_
      repeat ((apply H.nil))
      refine H.drop (.there _ (.here _ _)) ?_
      refine H.on0 rfl ?_
      refine HB.quiet [(10, false)] 0 (by kernel_rfl) ?_
      repeat (((apply HQ.assign); (iterate 3 exact rfl)))
      refine HQ.more rfl ?_
      refine HB.done (by kernel_rfl) ?_
      exact H.meet (p3, c3) trivial ⟨rfl, rfl, trivial⟩ rfl rfl
    · refine H.buildSlice (out := bytesV [b8 x.q.length]) rfl rfl rfl rfl (by decide) (by decide) rfl rfl fun tb => ?_
      repeat ((apply H.nil))
      refine H.front (.there _ (.here _ _)) ?_
      refine H.on0 rfl ?_
      refine HB.ev1 (i := 3) (by kernel_rfl) rfl ?_
      refine H.callE2 rfl rfl rfl (word_fn f _ hs.cons.cons hn (by omega)) fun p1 c1 => ?_
      repeat ((apply H.nil))
      refine H.front (.there _ (.here _ _)) ?_
      refine H.on0 rfl ?_
      refine HB.ev1 (i := 9) (by kernel_rfl) rfl ?_
      refine H.append (m := 1) rfl rfl rfl rfl rfl (fun p' c' => (by repeat (first | exact .here _ _ _ | apply At.there))) (Src.slice (Rd.ofRow (.there _ (.there _ (.here _ _ _)))) rfl) (bytesV_one _) rfl (by omega) (by omega) fun p3 c3 => ?_
      repeat ((apply H.nil))
      refine H.drop (.there _ (.there _ (.here _ _))) ?_
      refine H.on0 rfl ?_
      refine HB.quiet [(10, false)] 0 (by kernel_rfl) ?_
      repeat (((apply HQ.assign); (iterate 3 exact rfl)))
      refine HQ.more rfl ?_
      refine HB.done (by kernel_rfl) ?_
      exact H.meet (p3, c3) trivial ⟨rfl, rfl, trivial⟩ rfl rfl
end
end Go.Proofs.Ytcaofnfemogleaa

/- Layer 8, messages: the same pairs, the same bodies. -/
namespace Go.Proofs.Ytcaofnfemogleaa
set_option linter.unusedSectionVars false
set_option linter.unusedSimpArgs false
set_option linter.unusedVariables false
open Go
theorem eqC_pair (p r : Int × Int) : eqC (pairV p) (pairV r) = decide (p = r) := by
  obtain ⟨a, b⟩ := p
  obtain ⟨c, d⟩ := r
  simp only [pairV, eqC, eqv, Bool.and_true, Prod.mk.injEq]
  by_cases h1 : a = c <;> by_cases h2 : b = d <;> simp [h1, h2]
/-- The same bodies? -/
def Bod.eqB (a b : Bod) : Bool := decide ((a.kind.toNat : Int) = b.kind.toNat) && decide (a.view = b.view) && decide (a.k = b.k) && eqC a.req.vals b.req.vals && decide (a.q = b.q) && eqC (b32 a.dig) (b32 b.dig)
/-- May a body be? -/
def Bod.may (x : Bod) : Bool := Bod.eqB x.own x && decide (x.view < 1073741824) && x.mayK x.kind.toNat
section
variable (f : Frag) (F : List HP)
theorem take_eq_succ {α : Type} {l m : List α} {i : Nat} {x y : α} (h : l.take i = m.take i) (hx : l[i]? = some x) (hy : m[i]? = some y) (e : x = y) : l.take (i + 1) = m.take (i + 1) := by
  rw [List.take_add_one, List.take_add_one, h, hx, hy, e]
theorem equalPairs_fn {p r : Option Addr} {c d : Nat} {l m : List (Int × Int)} (hp : QAt f p l) (hr : QAt f r m) (hl : l.length ≤ 1000000000) :
    Fn Try.prog 77 [.slice p l.length c, .slice r m.length d] f F (Ret (.bool (decide (l = m))) f F) := by
  by_cases hlen : (l.length : Int) = m.length
  · have hlen' : l.length = m.length := by omega
    refine Fn.enter Try.func77 rfl Try.ntmps77 rfl (L := [(0, _), (1, _)]) ⟨rfl, rfl, trivial⟩ fun base => ?_
    repeat (first | ((first | apply H.move | apply H.assign | apply H.len_slice); (iterate 3 exact rfl)) | (first | apply H.seq | apply H.region | apply H.nil | apply H.then_normal) | ((apply H.cmp); (iterate 5 exact rfl)) | (first | apply H.skip | apply H.block) | (apply H.cond_no; exact rfl; (omega)))
    rw [decide_eq_false (by omega)]
    skip
    refine H.loop (ι := Nat) (fun i => [(13, .int .i64 (i : Int)), (12, .int .i64 (l.length : Nat)), (0, .slice p l.length c), (1, .slice r m.length d)]) (fun _ => f) (fun _ => F) (fun i => i ≤ l.length ∧ l.take i = m.take i) (fun i => l.length - i) 0 ⟨Nat.zero_le _, rfl⟩ ⟨rfl, rfl, rfl, rfl, trivial⟩ rfl rfl fun i hi => ?_
    obtain ⟨hi, htk⟩ : i ≤ l.length ∧ l.take i = m.take i := hi
    by_cases hlt : i < l.length
    · have hx : l[i]? = some l[i] := List.getElem?_eq_getElem hlt
      have hy : m[i]? = some (m[i]'(by omega)) := List.getElem?_eq_getElem (by omega)
      generalize l[i] = x at hx
      generalize m[i]'(by omega) = y at hy
      obtain ⟨b, off, cs, T, fr, rfl, hfb, hcs⟩ := hp i x hx
      obtain ⟨b2, off2, cs2, T2, fr2, rfl, hfb2, hcs2⟩ := hr i y hy
      have rd : ∀ A, Rd f A b (off + i * 2) (pairV x) := fun A => Rd.imm hfb hcs
      have rd2 : ∀ A, Rd f A b2 (off2 + i * 2) (pairV y) := fun A => Rd.imm hfb2 hcs2
      repeat (first | ((first | apply H.move | apply H.assign); (iterate 3 exact rfl)) | (first | apply H.seq | apply H.region | apply H.nil | apply H.then_normal) | ((apply H.cmp); (iterate 5 exact rfl)) | (first | apply H.skip | apply H.block) | (apply H.cond_yes; exact rfl; (omega)))
      refine H.drawQ (by kernel_rfl) (by decide +kernel) (by first | exact blind_fn | exact blind_seq blind_fn | exact blind_seq (blind_seq blind_fn) | (repeat (first | exact blind_fn | refine blind_seq ?_ | refine blind_block ?_ | refine blind_loop ?_))) ?_
      repeat (((apply HQ.move); (iterate 3 exact rfl)))
      refine HQ.index_slice rfl rfl rfl rfl hlt rfl ?_
      refine HQ.loadN (ls := pairV x) rfl rfl rfl (rd _) rfl rfl ?_
      repeat (((apply HQ.move); (iterate 3 exact rfl)))
      refine HQ.index_slice rfl rfl rfl rfl (by omega) rfl ?_
      refine HQ.loadN (ls := pairV y) rfl rfl rfl (rd2 _) rfl rfl ?_
      refine HQ.aggNe (D := 4) (b := !decide (x = y)) rfl rfl rfl rfl (by kernel_rfl) (by kernel_rfl) (by kernel_rfl) (by kernel_rfl) (by decide) (by rw [eqC_pair]) rfl ?_
      by_cases hxy : x = y
      · rw [decide_eq_true hxy]
        repeat (((apply HQ.done0); exact rfl))
        repeat (first | ((apply H.move); (iterate 3 exact rfl)) | (first | apply H.region | apply H.nil | apply H.then_normal) | ((apply H.ar; (iterate 4 exact rfl)); (with_reducible apply wr_i64_n1; omega); exact rfl) | (apply H.cond_false; exact rfl) | (first | apply H.skip | apply H.in_normal))
        exact H.again (i + 1) ⟨by show i + 1 ≤ l.length; omega, take_eq_succ htk hx hy hxy⟩ (by show l.length - (i + 1) < l.length - i; omega) ⟨rfl, rfl, rfl, rfl, trivial⟩ rfl rfl
      · rw [decide_eq_false hxy]
        repeat (((apply HQ.done0); exact rfl))
        repeat (first | ((apply H.assign); (iterate 3 exact rfl)) | (first | apply H.seq | apply H.region | apply H.nil | apply H.then_normal) | (apply H.cond_true; exact rfl) | (first | apply H.ret | apply H.then_ret | apply H.in_ret | apply H.loop_ret))
        refine H.ret1 rfl rfl (fun _ h => h) ⟨?_, rfl, rfl⟩
        rw [decide_eq_false]
        rintro rfl
        rw [hx] at hy
        exact hxy (Option.some.inj hy)
    · have : i = l.length := by omega
      subst this
      repeat (first | ((apply H.assign); (iterate 3 exact rfl)) | (first | apply H.seq | apply H.region | apply H.nil | apply H.then_normal) | ((apply H.cmp); (iterate 5 exact rfl)) | (first | apply H.ret | apply H.then_exit | apply H.exit | apply H.in_hit | apply H.loop_exit) | (apply H.cond_no; exact rfl; (omega)))
      refine H.ret1 rfl rfl (fun _ h => h) ⟨?_, rfl, rfl⟩
      rw [decide_eq_true]
      rwa [List.take_length, hlen', List.take_length] at htk
  · refine Fn.enter Try.func77 rfl Try.ntmps77 rfl (L := [(0, _), (1, _)]) ⟨rfl, rfl, trivial⟩ fun base => ?_
    repeat (first | ((first | apply H.move | apply H.assign | apply H.len_slice); (iterate 3 exact rfl)) | (first | apply H.seq | apply H.region | apply H.nil | apply H.then_normal) | ((apply H.cmp); (iterate 5 exact rfl)) | (first | apply H.ret | apply H.then_ret) | (apply H.cond_yes; exact rfl; (assumption)))
    refine H.ret1 rfl rfl (fun _ h => h) ⟨?_, rfl, rfl⟩
    rw [decide_eq_false]
    rintro rfl
    exact hlen rfl
theorem same_fn {a b : Bod} {p r : Option Addr} {c d : Nat} (hp : QAt f p a.q) (hr : QAt f r b.q) (hl : a.q.length ≤ 1000000000) :
    Fn Try.prog 47 [.agg (a.vals p c).toArray, .agg (b.vals r d).toArray] f F (Ret (.bool (Bod.eqB a b)) f F) := by
  by_cases h1 : (a.kind.toNat : Int) = b.kind.toNat
  · skip
    by_cases h2 : a.view = b.view
    · skip
      by_cases h3 : a.k = b.k
      · skip
        by_cases h4 : eqC a.req.vals b.req.vals = true
        · skip
          by_cases h5 : a.q = b.q
          · skip
            try simp only [Bool.not_eq_true] at *
            refine Fn.enter Try.func47 rfl Try.ntmps47 rfl (L := [(0, _), (1, _)]) ⟨rfl, rfl, trivial⟩ fun base => ?_
            repeat (first | ((first | apply H.move | apply H.assign); (iterate 3 exact rfl)) | (apply H.fieldAddr; (iterate 3 exact rfl); exact inferInstance; exact rfl) | (apply H.load1; (iterate 3 exact rfl); apply Rd1.ofRow; (repeat (first | exact .here _ _ _ | apply At.there)); (iterate 2 exact rfl)) | (first | apply H.seq | apply H.region | apply H.nil | apply H.then_normal) | ((apply H.cmp); (iterate 5 exact rfl)) | (apply H.pickT; (iterate 4 exact rfl)) | (apply H.ret) | (apply H.gyes; (iterate 3 exact rfl); (assumption)) | ((apply H.gtrue); (iterate 3 exact rfl); assumption) | (refine H.box (ls := a.vals p c) rfl rfl rfl rfl fun ab => ?_) | (refine H.box (ls := b.vals r d) rfl rfl rfl rfl fun bb => ?_) | (refine H.loadN (ls := a.req.vals) rfl rfl rfl (row_req (by repeat (first | exact .here _ _ _ | apply At.there))) rfl rfl ?_) | (refine H.loadN (ls := b.req.vals) rfl rfl rfl (row_req (by repeat (first | exact .here _ _ _ | apply At.there))) rfl rfl ?_) | (refine H.aggEq (xs := a.req.vals) (ys := b.req.vals) (D := 4) rfl rfl rfl rfl (by kernel_rfl) (by kernel_rfl) (by kernel_rfl) (by kernel_rfl) (by decide) rfl rfl ?_) | (refine H.callR rfl rfl rfl (equalPairs_fn f _ hp hr hl) ?_) | (refine H.loadN (ls := bytesV (b32L a.dig)) rfl rfl rfl (row_dig (by repeat (first | exact .here _ _ _ | apply At.there))) rfl rfl ?_) | (refine H.loadN (ls := bytesV (b32L b.dig)) rfl rfl rfl (row_dig (by repeat (first | exact .here _ _ _ | apply At.there))) rfl rfl ?_) | (refine H.aggEq (xs := bytesV (b32L a.dig)) (ys := bytesV (b32L b.dig)) (b := eqC (b32 a.dig) (b32 b.dig)) (D := 4) rfl rfl rfl rfl (by kernel_rfl) (by kernel_rfl) (by kernel_rfl) (by kernel_rfl) (by decide) rfl rfl ?_))
            refine H.drop (.here _ _) ?_
            refine H.drop (.here _ _) ?_
            refine H.ret1 rfl rfl (fun _ h => h) ⟨?_, rfl, rfl⟩
            simp [Bod.eqB, *]
          · skip
            try simp only [Bool.not_eq_true] at *
            refine Fn.enter Try.func47 rfl Try.ntmps47 rfl (L := [(0, _), (1, _)]) ⟨rfl, rfl, trivial⟩ fun base => ?_
            repeat (first | ((first | apply H.move | apply H.assign); (iterate 3 exact rfl)) | (apply H.fieldAddr; (iterate 3 exact rfl); exact inferInstance; exact rfl) | (apply H.load1; (iterate 3 exact rfl); apply Rd1.ofRow; (repeat (first | exact .here _ _ _ | apply At.there)); (iterate 2 exact rfl)) | (first | apply H.seq | apply H.region | apply H.nil | apply H.then_normal) | ((apply H.cmp); (iterate 5 exact rfl)) | (apply H.pass; (iterate 2 exact rfl)) | (apply H.pickT; (iterate 4 exact rfl)) | ((apply H.pickF); (iterate 4 exact rfl)) | (apply H.ret) | (apply H.gyes; (iterate 3 exact rfl); (assumption)) | (apply H.gno; (iterate 3 exact rfl); (assumption)) | ((apply H.gtrue); (iterate 3 exact rfl); assumption) | (refine H.box (ls := a.vals p c) rfl rfl rfl rfl fun ab => ?_) | (refine H.box (ls := b.vals r d) rfl rfl rfl rfl fun bb => ?_) | (refine H.loadN (ls := a.req.vals) rfl rfl rfl (row_req (by repeat (first | exact .here _ _ _ | apply At.there))) rfl rfl ?_) | (refine H.loadN (ls := b.req.vals) rfl rfl rfl (row_req (by repeat (first | exact .here _ _ _ | apply At.there))) rfl rfl ?_) | (refine H.aggEq (xs := a.req.vals) (ys := b.req.vals) (D := 4) rfl rfl rfl rfl (by kernel_rfl) (by kernel_rfl) (by kernel_rfl) (by kernel_rfl) (by decide) rfl rfl ?_) | (refine H.callR rfl rfl rfl (equalPairs_fn f _ hp hr hl) ?_))
            refine H.drop (.here _ _) ?_
            refine H.drop (.here _ _) ?_
            refine H.ret1 rfl rfl (fun _ h => h) ⟨?_, rfl, rfl⟩
            simp [Bod.eqB, *]
        · skip
          try simp only [Bool.not_eq_true] at *
          refine Fn.enter Try.func47 rfl Try.ntmps47 rfl (L := [(0, _), (1, _)]) ⟨rfl, rfl, trivial⟩ fun base => ?_
          repeat (first | ((first | apply H.move | apply H.assign); (iterate 3 exact rfl)) | (apply H.fieldAddr; (iterate 3 exact rfl); exact inferInstance; exact rfl) | (apply H.load1; (iterate 3 exact rfl); apply Rd1.ofRow; (repeat (first | exact .here _ _ _ | apply At.there)); (iterate 2 exact rfl)) | (first | apply H.seq | apply H.region | apply H.nil | apply H.then_normal) | ((apply H.cmp); (iterate 5 exact rfl)) | (apply H.pass; (iterate 2 exact rfl)) | (apply H.pickT; (iterate 4 exact rfl)) | ((apply H.pickF); (iterate 4 exact rfl)) | (apply H.ret) | (apply H.gyes; (iterate 3 exact rfl); (assumption)) | (apply H.gfalse; (iterate 3 exact rfl); assumption) | (refine H.box (ls := a.vals p c) rfl rfl rfl rfl fun ab => ?_) | (refine H.box (ls := b.vals r d) rfl rfl rfl rfl fun bb => ?_) | (refine H.loadN (ls := a.req.vals) rfl rfl rfl (row_req (by repeat (first | exact .here _ _ _ | apply At.there))) rfl rfl ?_) | (refine H.loadN (ls := b.req.vals) rfl rfl rfl (row_req (by repeat (first | exact .here _ _ _ | apply At.there))) rfl rfl ?_) | (refine H.aggEq (xs := a.req.vals) (ys := b.req.vals) (D := 4) rfl rfl rfl rfl (by kernel_rfl) (by kernel_rfl) (by kernel_rfl) (by kernel_rfl) (by decide) rfl rfl ?_))
          refine H.drop (.here _ _) ?_
          refine H.drop (.here _ _) ?_
          refine H.ret1 rfl rfl (fun _ h => h) ⟨?_, rfl, rfl⟩
          simp [Bod.eqB, *]
      · skip
        try simp only [Bool.not_eq_true] at *
        refine Fn.enter Try.func47 rfl Try.ntmps47 rfl (L := [(0, _), (1, _)]) ⟨rfl, rfl, trivial⟩ fun base => ?_
        repeat (first | ((first | apply H.move | apply H.assign); (iterate 3 exact rfl)) | (apply H.fieldAddr; (iterate 3 exact rfl); exact inferInstance; exact rfl) | (apply H.load1; (iterate 3 exact rfl); apply Rd1.ofRow; (repeat (first | exact .here _ _ _ | apply At.there)); (iterate 2 exact rfl)) | (first | apply H.seq | apply H.region | apply H.nil | apply H.then_normal) | ((apply H.cmp); (iterate 5 exact rfl)) | (apply H.pass; (iterate 2 exact rfl)) | (apply H.pickT; (iterate 4 exact rfl)) | ((apply H.pickF); (iterate 4 exact rfl)) | (apply H.ret) | (apply H.gyes; (iterate 3 exact rfl); (assumption)) | (apply H.gno; (iterate 3 exact rfl); (assumption)) | (refine H.box (ls := a.vals p c) rfl rfl rfl rfl fun ab => ?_) | (refine H.box (ls := b.vals r d) rfl rfl rfl rfl fun bb => ?_))
        refine H.drop (.here _ _) ?_
        refine H.drop (.here _ _) ?_
        refine H.ret1 rfl rfl (fun _ h => h) ⟨?_, rfl, rfl⟩
        simp [Bod.eqB, *]
    · skip
      try simp only [Bool.not_eq_true] at *
      refine Fn.enter Try.func47 rfl Try.ntmps47 rfl (L := [(0, _), (1, _)]) ⟨rfl, rfl, trivial⟩ fun base => ?_
      repeat (first | ((first | apply H.move | apply H.assign); (iterate 3 exact rfl)) | (apply H.fieldAddr; (iterate 3 exact rfl); exact inferInstance; exact rfl) | (apply H.load1; (iterate 3 exact rfl); apply Rd1.ofRow; (repeat (first | exact .here _ _ _ | apply At.there)); (iterate 2 exact rfl)) | (first | apply H.seq | apply H.region | apply H.nil | apply H.then_normal) | ((apply H.cmp); (iterate 5 exact rfl)) | (apply H.pass; (iterate 2 exact rfl)) | (apply H.pickT; (iterate 4 exact rfl)) | ((apply H.pickF); (iterate 4 exact rfl)) | (apply H.ret) | (apply H.gyes; (iterate 3 exact rfl); (assumption)) | (apply H.gno; (iterate 3 exact rfl); (assumption)) | (refine H.box (ls := a.vals p c) rfl rfl rfl rfl fun ab => ?_) | (refine H.box (ls := b.vals r d) rfl rfl rfl rfl fun bb => ?_))
      refine H.drop (.here _ _) ?_
      refine H.drop (.here _ _) ?_
      refine H.ret1 rfl rfl (fun _ h => h) ⟨?_, rfl, rfl⟩
      simp [Bod.eqB, *]
  · skip
    try simp only [Bool.not_eq_true] at *
    refine Fn.enter Try.func47 rfl Try.ntmps47 rfl (L := [(0, _), (1, _)]) ⟨rfl, rfl, trivial⟩ fun base => ?_
    repeat (first | ((first | apply H.move | apply H.assign); (iterate 3 exact rfl)) | (apply H.fieldAddr; (iterate 3 exact rfl); exact inferInstance; exact rfl) | (apply H.load1; (iterate 3 exact rfl); apply Rd1.ofRow; (repeat (first | exact .here _ _ _ | apply At.there)); (iterate 2 exact rfl)) | (first | apply H.seq | apply H.region | apply H.nil | apply H.then_normal) | ((apply H.cmp); (iterate 5 exact rfl)) | (apply H.pass; (iterate 2 exact rfl)) | ((apply H.pickF); (iterate 4 exact rfl)) | (apply H.ret) | (apply H.gno; (iterate 3 exact rfl); (assumption)) | (refine H.box (ls := a.vals p c) rfl rfl rfl rfl fun ab => ?_) | (refine H.box (ls := b.vals r d) rfl rfl rfl rfl fun bb => ?_))
    refine H.drop (.here _ _) ?_
    refine H.drop (.here _ _) ?_
    refine H.ret1 rfl rfl (fun _ h => h) ⟨?_, rfl, rfl⟩
    simp [Bod.eqB, *]
end
end Go.Proofs.Ytcaofnfemogleaa

/- Layer 8, messages: the codecs of all kinds. -/
namespace Go.Proofs.Ytcaofnfemogleaa
set_option linter.unusedSectionVars false
set_option linter.unusedSimpArgs false
set_option linter.unusedVariables false
open Go
def fnV (f : FuncId) : Value := .func (.func f) #[] #[]
def codecCells (a b c : FuncId) : List Value := [fnV a, fnV b, fnV c]
def codecV (a b c : FuncId) : Value := .agg (codecCells a b c).toArray
def encU8 : Int → Value := fun k => Value.int .u8 k
instance keyU8 : KeyT Try.prog 5 encU8 := keyT_int ⟨Try.underlying5⟩
def codecsM : List (Int × Value) := [
  (1, codecV 55 58 61),
  (2, codecV 63 64 65),
  (3, codecV 89 90 91),
  (5, codecV 89 90 91),
  (4, codecV 67 68 71),
  (6, codecV 73 74 65)]
/-- It answers what it answers, and leaves what says the same. -/
theorem Fn.monoA {P : Program} {fid : FuncId} {args : List Value} {f : Frag} {A : List HP} {R R' : Value → Frag → List HP → Prop} (h : Fn P fid args f A R)
    (hr : ∀ v f' A', R v f' A' → ∃ A'', R' v f' A'' ∧ ∀ x, stars A' x → stars A'' x) : Fn P fid args f A R' :=
  fun base w s => (h base w s).mono fun _ _ ⟨v, f', A', e, r, s'⟩ => by
    obtain ⟨A'', r', hx⟩ := hr _ _ _ r
    exact ⟨v, f', A'', e, r', s'.imp hx⟩
theorem stars_nil_slc {T : TypeId} {sz : Nat} {x : Frag} {A : List HP} (h : stars A x) : stars (slc none 0 0 T sz [] :: A) x :=
  ⟨nil0, x, (Dj.nil x).symm, (nil_un x).symm, slc_nil none T sz, h⟩
def MayC (fid : FuncId) (kind : Nat) : Prop := ∀ (f : Frag) (A : List HP) (x : Bod) (q : Option Addr) (qc : Nat), QAt f q x.q → x.q.length ≤ 1000000000 → Fn Try.prog fid [.agg (x.vals q qc).toArray] f A (Ret (.bool (x.mayK kind)) f A)
def PutC (fid : FuncId) (kind : Nat) : Prop := ∀ (f : Frag) (A : List HP) (x : Bod) (q : Option Addr) (qc : Nat) (p : Option Addr) (c : Nat) (l : List UInt8), Src Try.prog f A (.slice p l.length c) 1 l.length (bytesV l) → (p = none → l = []) → QAt f q x.q → x.mayK kind = true → x.q.length ≤ 11 → l.length ≤ 100000000 →
  Fn Try.prog fid [.slice p l.length c, .agg (x.vals q qc).toArray] f A (BytesR (l ++ x.putK kind) f A)
def GetR (f : Frag) (F : List HP) (cb : Nat) (xb : Nat) (T : TypeId) (pre post : List Value) (r : Bod × Cs) : Value → Frag → List HP → Prop :=
  RetE (fun _ : Option Addr × Nat => .tuple #[]) f (fun i => cutC f cb r.2 :: bodAt xb T pre post r.1 i.1 i.2 :: qs i.1 i.2 r.1.q :: F)
def GetC (fid : FuncId) (kind : Nat) : Prop := ∀ (f : Frag) (F : List HP) (cb : Nat) (s : Cs) (xb : Nat) (T : TypeId) (pre post : List Value) (k8 : UInt8), s.l.length ≤ 1000000000 →
  Fn Try.prog fid [.pointer (some ⟨cb, 0, none⟩), .pointer (some ⟨xb, pre.length, none⟩)] f (cutC f cb s :: bodAt xb T pre post (Bod.zero k8) none 0 :: F) (GetR f F cb xb T pre post (s.bodyK 32 128 k8 kind))
theorem getC_of {fid : FuncId} {kind : Nat} (h : ∀ (f : Frag) (F : List HP) (cb : Nat) (s : Cs) (xb : Nat) (T : TypeId) (pre post : List Value) (k8 : UInt8), s.l.length ≤ 1000000000 →
    (s.bodyK 32 128 k8 kind).1.q = [] ∧ Fn Try.prog fid [.pointer (some ⟨cb, 0, none⟩), .pointer (some ⟨xb, pre.length, none⟩)] f (cutC f cb s :: bodAt xb T pre post (Bod.zero k8) none 0 :: F)
      (Ret (.tuple #[]) f (cutC f cb (s.bodyK 32 128 k8 kind).2 :: bodAt xb T pre post (s.bodyK 32 128 k8 kind).1 none 0 :: F))) : GetC fid kind := fun f F cb s xb T pre post k8 hl => by
  obtain ⟨hq, hf⟩ := h f F cb s xb T pre post k8 hl
  refine hf.monoA fun v f' A' hr => ?_
  obtain ⟨rfl, rfl, rfl⟩ := hr
  refine ⟨_, ⟨(none, 0), rfl, rfl, rfl⟩, ?_⟩
  refine keep_stars (keep_stars ?_)
  intro x hx
  rw [hq]
  exact stars_nil_slc hx
theorem may1 : MayC 61 1 := fun f A x q qc _ _ => may_prepare f A x q qc
theorem may2 : MayC 65 2 := fun f A x q qc _ _ => k_fn f A x q qc
theorem may6 : MayC 65 6 := fun f A x q qc _ _ => k_fn f A x q qc
theorem may3 : MayC 91 3 := fun f A x q qc _ _ => view3_fn f A x q qc
theorem may5 : MayC 91 5 := fun f A x q qc _ _ => view3_fn f A x q qc
theorem may4 : MayC 71 4 := fun f A x q qc hq hl => may_newview f A x q qc hq (by omega)
theorem put1 : PutC 55 1 := fun f A x q qc p c l hs hn _ hm _ hl => put_prepare f A x q qc hs hn (of_decide_eq_true hm) hl
theorem put2 : PutC 63 2 := fun f A x q qc p c l hs hn _ _ _ hl => put_commit f A x q qc hs hn hl
theorem put3 : PutC 89 3 := fun f A x q qc p c l hs hn _ _ _ hl => put_view f A x q qc hs hn hl
theorem put5 : PutC 89 5 := fun f A x q qc p c l hs hn _ _ _ hl => put_view f A x q qc hs hn hl
theorem put6 : PutC 73 6 := fun f A x q qc p c l hs hn _ _ _ hl => put_check f A x q qc hs hn hl
theorem put4 : PutC 67 4 := fun f A x q qc p c l hs hn hq _ hql hl => put_newview f A x q qc hs hn hq (by omega) hl
theorem get1 : GetC 58 1 := getC_of fun f F cb s xb T pre post k8 hl => ⟨rfl, get_prepare f F cb s xb T pre post hl (Bod.zero k8) none 0⟩
theorem get2 : GetC 64 2 := getC_of fun f F cb s xb T pre post k8 hl => ⟨rfl, get_commit f F cb s xb T pre post hl (Bod.zero k8) none 0⟩
theorem get3 : GetC 90 3 := getC_of fun f F cb s xb T pre post k8 hl => ⟨rfl, get_view f F cb s xb T pre post hl (Bod.zero k8) none 0⟩
theorem get5 : GetC 90 5 := getC_of fun f F cb s xb T pre post k8 hl => ⟨rfl, get_view f F cb s xb T pre post hl (Bod.zero k8) none 0⟩
theorem get6 : GetC 74 6 := getC_of fun f F cb s xb T pre post k8 hl => ⟨rfl, get_check f F cb s xb T pre post hl (Bod.zero k8) none 0⟩
theorem get4 : GetC 68 4 := fun f F cb s xb T pre post k8 hl => get_newview f F cb s xb T pre post hl (Bod.zero k8) rfl
section
variable (f : Frag) (F : List HP)
theorem view_fn : Fn Try.prog 66 [] f F (Ret (codecV 89 90 91) f F) := by
  refine Fn.enter Try.func66 rfl Try.ntmps66 rfl (L := []) trivial fun base => ?_
  repeat ((first | apply H.seq | apply H.region))
  refine H.alloc (ls := [.nilFunc, .nilFunc, .nilFunc]) rfl rfl rfl fun vb => ?_
  repeat (first | (first | apply H.seq | apply H.region | apply H.nil | apply H.then_normal) | ((apply H.build); (iterate 5 exact rfl)))
  refine H.storeN (ls := [.nilFunc, .nilFunc, .nilFunc]) (vs := codecCells _ _ _) (ls' := codecCells _ _ _) rfl rfl rfl (allOne_mem rfl) rfl rfl (Nat.le_refl 3) (by repeat (first | exact .here _ _ _ | apply At.there)) ?_
  repeat (first | (first | apply H.nil | apply H.then_normal) | (apply H.ret))
  exact H.retD rfl rfl rfl (Rd.ofRow (by repeat (first | exact .here _ _ _ | apply At.there))) rfl (fun _ s => s.drop (.here _ _)) ⟨rfl, rfl, rfl⟩
theorem codecs_fn : Fn Try.prog 45 [] f F (RetE (fun b => .map (some b)) f (fun b => mp b encU8 codecsM :: F)) := by
  refine Fn.enter Try.func45 rfl Try.ntmps45 rfl (L := []) trivial fun base => ?_
  repeat (first | ((apply H.assign); (iterate 3 exact rfl)) | (first | apply H.seq | apply H.region | apply H.nil | apply H.then_normal))
  refine H.makeMap encU8 rfl rfl fun mb => ?_
  repeat (first | ((first | apply H.move | apply H.assign); (iterate 3 exact rfl)) | (first | apply H.nil | apply H.then_normal) | ((apply H.build); (iterate 5 exact rfl)) | (apply H.ret) | (refine H.mapInsert (enc := encU8) rfl rfl rfl rfl (.here _ _ _) rfl ?_) | (refine H.callR rfl rfl rfl (view_fn f _) ?_))
  exact H.ret1 rfl rfl (fun _ h => h) ⟨mb, rfl, rfl, rfl⟩
end
end Go.Proofs.Ytcaofnfemogleaa

/- Layer 8, messages: may a body be? -/
namespace Go.Proofs.Ytcaofnfemogleaa
set_option linter.unusedSectionVars false
set_option linter.unusedSimpArgs false
set_option linter.unusedVariables false
open Go
theorem BAt.mono {f g : Frag} (h : Le f g) {p : Option Addr} {l : List UInt8} (hb : BAt f p l) : BAt g p l := by
  rcases hb with rfl | ⟨b, off, cs, T, fr, h1, h2, h3⟩
  · exact .inl rfl
  · exact .inr ⟨b, off, cs, T, fr, h1, h _ _ h2, h3⟩
theorem QAt.mono {f g : Frag} (h : Le f g) {p : Option Addr} {l : List (Int × Int)} (hb : QAt f p l) : QAt g p l := fun i x hx => by
  obtain ⟨b, off, cs, T, fr, h1, h2, h3⟩ := hb i x hx
  exact ⟨b, off, cs, T, fr, h1, h _ _ h2, h3⟩
theorem flat_pair_get : ∀ (q : List (Int × Int)) (i : Nat) (x : Int × Int), q[i]? = some x → ∀ j, j < (pairV x).length → (q.flatMap pairV)[i * 2 + j]? = (pairV x)[j]?
  | [], i, x, h, j, hj => by simp at h
  | y :: q, 0, x, h, j, hj => by
    simp at h; subst h
    rw [List.flatMap_cons, Nat.zero_mul, Nat.zero_add, List.getElem?_append_left hj]
  | y :: q, i + 1, x, h, j, hj => by
    rw [List.flatMap_cons, List.getElem?_append_right (by show (2 : Nat) ≤ _; omega)]
    rw [show (i + 1) * 2 + j - (pairV y).length = i * 2 + j by show (i + 1) * 2 + j - 2 = _; omega]
    exact flat_pair_get q i x (by simpa using h) j hj
theorem qs_qat {f g : Frag} {p : Option Addr} {c : Nat} {q : List (Int × Int)} (h : qs p c q g) (hd : Dj f g) : QAt (un f g) p q := fun i x hx => by
  obtain ⟨_, _, h3⟩ := h
  have hi : i < q.length := by
    rcases Nat.lt_or_ge i q.length with h | h
    · exact h
    · simp [List.getElem?_eq_none h] at hx
  rcases h3 with ⟨h0, _, _⟩ | ⟨b, sp, rfl, h4, h5, rfl⟩
  · omega
  · refine ⟨b, 0, (q.flatMap pairV ++ sp).toArray, 87, (0, 0), rfl, ?_, fun j hj => ?_⟩
    · show (f b).or (sing b _ b) = _
      have : f b = none := by
        rcases hd b with h | h
        · exact h
        · simp [sing] at h
      rw [this]
      simp [sing]
    · rw [Nat.zero_add]
      simp only [List.getElem?_toArray]
      have h6 := flat_pair_get q i x hx j hj
      rw [List.getElem?_append_left ?_, h6]
      rcases Nat.lt_or_ge (i * 2 + j) (q.flatMap pairV).length with h | h
      · exact h
      · rw [List.getElem?_eq_none h] at h6
        rw [List.getElem?_eq_getElem hj] at h6
        cases h6
/-- What is got of what is put of it. -/
def Bod.back (x : Bod) (kind : Nat) : Bod := ((⟨x.putK kind, false⟩ : Cs).bodyK 32 128 x.kind kind).1
/-- May a body be, as the program asks it? -/
def Bod.mayP (x : Bod) (kind : Nat) : Bool := decide (x.view < 1073741824) && (x.mayK kind && (decide (x.q.length ≤ 11) && Bod.eqB x (x.back kind)))
section
variable (f : Frag) (F : List HP)
theorem flat_pairB_len : ∀ q : List (Int × Int), (q.flatMap pairB).length = 9 * q.length
  | [] => rfl
  | p :: q => by
    rw [List.flatMap_cons, List.length_append, flat_pairB_len q]
    show (be 8 p.2).length + 1 + 9 * q.length = 9 * (q.length + 1)
    rw [be_len]; omega
theorem putK_len (x : Bod) (kind : Nat) (hm : x.mayK kind = true) (hq : x.q.length ≤ 11) : 0 < (x.putK kind).length ∧ (x.putK kind).length ≤ 2000 := by
  match kind, hm with
  | 1, hm =>
    obtain ⟨_, _, _, _, ⟨k1, k2⟩, k3, k4⟩ := of_decide_eq_true hm
    show 0 < (be 8 x.view ++ x.req.bytes ++ b32L x.req.tag).length ∧ (be 8 x.view ++ x.req.bytes ++ b32L x.req.tag).length ≤ 2000
    rw [List.length_append, List.length_append, be_len, Req.bytes_len]
    show 0 < 8 + _ + 32 ∧ 8 + _ + 32 ≤ 2000
    omega
  | 2, _ => simp [Bod.putK, be_len]
  | 3, _ => simp [Bod.putK, be_len]
  | 4, _ =>
    show 0 < (be 8 x.view ++ [b8 x.q.length] ++ x.q.flatMap pairB).length ∧ (be 8 x.view ++ [b8 x.q.length] ++ x.q.flatMap pairB).length ≤ 2000
    rw [List.length_append, List.length_append, be_len, flat_pairB_len]
    show 0 < 8 + 1 + _ ∧ 8 + 1 + _ ≤ 2000
    omega
  | 5, _ => simp [Bod.putK, be_len]
  | 6, _ => simp [Bod.putK, be_len, b32L]
theorem body_fn {x : Bod} {q : Option Addr} {qc : Nat} (kind : Nat) (hk : x.kind.toNat = kind) (f1 f2 f3 : FuncId) [Fun Try.prog f1] [Fun Try.prog f2] [Fun Try.prog f3] (hput : PutC f1 kind) (hget : GetC f2 kind) (hmay : MayC f3 kind)
    (hcod : getKV codecsM (kind : Int) = some (codecV f1 f2 f3)) (hq : QAt f q x.q) (hl : x.q.length ≤ 1000000000) :
    Fn Try.prog 38 [.agg (x.vals q qc).toArray] f F (Ret (.bool (x.mayP kind)) f F) := by
  refine Fn.enter Try.func38 rfl Try.ntmps38 rfl (L := [(0, _)]) ⟨rfl, trivial⟩ fun base => ?_
  repeat ((first | apply H.seq | apply H.region))
  refine H.box (ls := x.vals q qc) rfl rfl rfl rfl fun xb => ?_
  repeat (first | ((apply H.assign); (iterate 3 exact rfl)) | (first | apply H.seq | apply H.nil | apply H.then_normal))
  have hz : ∀ z, (getKV codecsM (kind : Int)).getD z = codecV f1 f2 f3 := fun z => by rw [hcod]; rfl
  have hi : (getKV codecsM (kind : Int)).isSome = true := by rw [hcod]; rfl
  have hkv : Value.int .u8 (x.kind.toNat : Nat) = encU8 (kind : Int) := by rw [hk]; rfl
  refine H.cut (ι := Nat) (fun i => [(1, .pointer (some ⟨xb, 0, none⟩)), (3, .pointer (some ⟨i, 0, none⟩)), (4, .bool true)]) (fun _ => f) (fun i => row i 92 (codecCells f1 f2 f3) :: row xb 59 (x.vals q qc) :: F) (fun _ => True) _ (fun i _ => ?_) ?_
  · by_cases h1 : x.view < 1073741824
    · by_cases h2 : x.mayK kind = true
      · have hm : ∀ A, Fn Try.prog f3 [.agg (x.vals q qc).toArray] f A (Ret (.bool true) f A) := fun A => by have := hmay f A x q qc hq hl; rwa [h2] at this
        by_cases h3 : x.q.length ≤ 11
        · skip
          repeat (first | ((first | apply H.move | apply H.len_slice); (iterate 3 exact rfl)) | (apply H.fieldAddr; (iterate 3 exact rfl); exact inferInstance; exact rfl) | (apply H.load1; (iterate 3 exact rfl); apply Rd1.ofRow; (repeat (first | exact .here _ _ _ | apply At.there)); (iterate 2 exact rfl)) | (first | apply H.seq | apply H.region | apply H.nil | apply H.then_normal) | ((first | apply H.cmp | apply H.build); (iterate 5 exact rfl)) | ((first | apply H.pickF | apply H.not); (iterate 4 exact rfl)) | (apply H.skip) | (apply H.gno; (iterate 3 exact rfl); (omega)) | (apply H.cond_no; exact rfl; (omega)) | (refine H.loadN (ls := x.vals q qc) rfl rfl rfl (Rd.ofRow (by repeat (first | exact .here _ _ _ | apply At.there))) rfl rfl ?_) | (refine H.callVR (fs := []) (cs := []) (vs := [.agg (x.vals q qc).toArray]) rfl rfl rfl rfl (hm _) ?_))
          refine H.alloc (ls := (Bod.zero 0).vals none 0) rfl rfl rfl fun yb => ?_
          refine H.storeN (ls := (Bod.zero 0).vals none 0) (vs := (Bod.zero x.kind).vals none 0) (ls' := (Bod.zero x.kind).vals none 0) rfl rfl rfl (allOne_mem rfl) rfl rfl (Nat.le_refl 76) (by repeat (first | exact .here _ _ _ | apply At.there)) ?_
          repeat ((first | apply H.seq | apply H.nil | apply H.then_normal))
          refine H.front (.there _ (.there _ (.here _ _))) ?_
          refine H.front (.there _ (.there _ (.here _ _))) ?_
          refine H.drawB (by kernel_rfl) (by decide +kernel) (by first | exact blind_fn | exact blind_seq blind_fn | exact blind_seq (blind_seq blind_fn) | (repeat (first | exact blind_fn | refine blind_seq ?_ | refine blind_block ?_ | refine blind_loop ?_))) (S := [_, _]) rfl ?_
          refine HB.quiet [(0, false), (1, false), (2, false), (3, false), (4, false)] 3 (by kernel_rfl) ?_
          repeat (first | (apply HQ.fieldAddr; (iterate 3 exact rfl); exact inferInstance; exact rfl) | (apply HQ.load1; (iterate 3 exact rfl); apply Rd1.ofRow; (repeat (exact .here _ _ _)); (iterate 2 exact rfl)))
          refine HQ.loadN (ls := x.vals q qc) rfl rfl rfl (Rd.ofRow (by repeat (first | exact .here _ _ _ | apply At.there))) rfl rfl ?_
          refine HQ.more rfl ?_
          refine HB.ev1 (i := 5) (by kernel_rfl) rfl ?_
          refine H.callVE2 (fs := []) (cs := []) (vs := [.slice none 0 0, .agg (x.vals q qc).toArray]) rfl rfl rfl rfl (hput f _ x q qc none 0 [] Src.nil (fun _ => rfl) hq h2 h3 (by decide)) fun p1 c1 => ?_
          have hb := putK_len x kind h2 h3
          rw [List.nil_append]
          generalize hbs : x.putK kind = bs at hb ⊢
          have hbk : x.back kind = ((⟨bs, false⟩ : Cs).bodyK 32 128 x.kind kind).1 := by rw [← hbs]; rfl
          repeat ((apply H.nil))
          refine H.front (.there _ (.there _ (.here _ _))) ?_
          refine H.front (.there _ (.there _ (.here _ _))) ?_
          refine H.on0 rfl ?_
          refine HB.ev1 (i := 6) (by kernel_rfl) rfl ?_
          refine H.slc_some (.there _ (.there _ (.here _ _ _))) hb.1 fun b1 hp => ?_
          subst hp
          refine H.call rfl rfl rfl (octNew_fn f _ (Src.slcS (.there _ (.there _ (.here _ _ _))) (by rw [bytesV_len]; exact (Nat.mul_one _).symm)) (fun h => by cases h) (by omega)) fun v f' A' hr => ?_
          obtain ⟨g1, cb, p2, c2, rfl, hg1, hd1, rfl, rfl⟩ := hr
          repeat ((apply H.nil))
          refine H.front (.there _ (.there _ (.here _ _))) ?_
          refine H.front (.there _ (.there _ (.here _ _))) ?_
          refine H.on [] (Le.un _ _) rfl ?_
          refine HB.ev1 (i := 7) (by kernel_rfl) rfl ?_
          have e : row yb 59 ((Bod.zero x.kind).vals none 0) = bodAt yb 59 [] [] (Bod.zero x.kind) none 0 := by unfold bodAt; rw [List.append_nil]; rfl
          refine H.front (.there _ (.there _ (.there _ (.there _ (.here _ _))))) ?_
          refine H.front (.there _ (.there _ (.there _ (.here _ _)))) ?_
          rw [e]
          refine H.callVE (fs := []) (cs := []) (vs := [.pointer (some ⟨cb, 0, none⟩), .pointer (some ⟨yb, 0, none⟩)]) rfl rfl rfl rfl (hget (un f g1) _ cb ⟨bs, false⟩ yb 59 [] [] x.kind (by show bs.length ≤ _; omega)) fun i2 => ?_
          rw [← hbk]
          generalize ((⟨bs, false⟩ : Cs).bodyK 32 128 x.kind kind).2 = s2
          repeat ((apply H.nil))
          refine H.front (.there _ (.there _ (.there _ (.there _ (.here _ _))))) ?_
          refine H.front (.there _ (.there _ (.there _ (.there _ (.here _ _))))) ?_
          refine H.on0 rfl ?_
          refine HB.done (by kernel_rfl) ?_
          refine H.freeze (.there _ (.there _ (.there _ (.there _ (.here _ _))))) fun g2 hg2 hd2 => ?_
          have hq2 : QAt (un (un f g1) g2) q x.q := (hq.mono (Le.un f g1)).mono (Le.un _ g2)
          have hy2 : QAt (un (un f g1) g2) i2.1 (x.back kind).q := qs_qat hg2 hd2
          repeat ((first | apply H.seq | apply H.region | apply H.then_normal))
          refine H.loadN (ls := x.vals q qc) rfl rfl rfl (Rd.ofRow (by repeat (first | exact .here _ _ _ | apply At.there))) rfl rfl ?_
          refine H.loadN (ls := (x.back kind).vals i2.1 i2.2) rfl rfl rfl (bodAt_rd (pre := []) (post := []) (by repeat (first | exact .here _ _ _ | apply At.there))) rfl rfl ?_
          refine H.callR rfl rfl rfl (same_fn _ _ hq2 hy2 hl) ?_
          repeat (first | ((apply H.assign); (iterate 3 exact rfl)) | (first | apply H.nil | apply H.then_normal) | (apply H.ret))
          refine H.thaw hg2 hd2 ?_
          refine H.drop (.here _ _) ?_
          refine H.thaw hg1 hd1 ?_
          repeat refine H.drop (.here _ _) ?_
          refine H.ret1 rfl rfl (fun _ h => h) ⟨?_, rfl, rfl⟩
          simp [Bod.mayP, h1, h2, h3]
        · skip
          repeat (first | ((first | apply H.move | apply H.assign | apply H.len_slice); (iterate 3 exact rfl)) | (apply H.fieldAddr; (iterate 3 exact rfl); exact inferInstance; exact rfl) | (apply H.load1; (iterate 3 exact rfl); apply Rd1.ofRow; (repeat (first | exact .here _ _ _ | apply At.there)); (iterate 2 exact rfl)) | (first | apply H.seq | apply H.region | apply H.nil | apply H.then_normal) | ((apply H.cmp); (iterate 5 exact rfl)) | ((first | apply H.pickF | apply H.not); (iterate 4 exact rfl)) | (first | apply H.ret | apply H.then_ret) | (apply H.gno; (iterate 3 exact rfl); (omega)) | (apply H.cond_yes; exact rfl; (omega)) | (refine H.loadN (ls := x.vals q qc) rfl rfl rfl (Rd.ofRow (by repeat (first | exact .here _ _ _ | apply At.there))) rfl rfl ?_) | (refine H.callVR (fs := []) (cs := []) (vs := [.agg (x.vals q qc).toArray]) rfl rfl rfl rfl (hm _) ?_))
          refine H.drop (.here _ _) ?_
          refine H.drop (.here _ _) ?_
          refine H.ret1 rfl rfl (fun _ h => h) ⟨?_, rfl, rfl⟩
          simp [Bod.mayP, *]
      · have hm : ∀ A, Fn Try.prog f3 [.agg (x.vals q qc).toArray] f A (Ret (.bool false) f A) := fun A => by have := hmay f A x q qc hq hl; rwa [Bool.eq_false_iff.2 h2] at this
        repeat (first | ((first | apply H.move | apply H.assign | apply H.len_slice); (iterate 3 exact rfl)) | (apply H.fieldAddr; (iterate 3 exact rfl); exact inferInstance; exact rfl) | (apply H.load1; (iterate 3 exact rfl); apply Rd1.ofRow; (repeat (first | exact .here _ _ _ | apply At.there)); (iterate 2 exact rfl)) | (first | apply H.seq | apply H.region | apply H.nil | apply H.then_normal) | ((apply H.cmp); (iterate 5 exact rfl)) | (apply H.pass; (iterate 2 exact rfl)) | (apply H.pickT; (iterate 4 exact rfl)) | ((first | apply H.pickF | apply H.not); (iterate 4 exact rfl)) | (apply H.cond_true; exact rfl) | (first | apply H.ret | apply H.then_ret) | (apply H.gno; (iterate 3 exact rfl); (omega)) | (refine H.loadN (ls := x.vals q qc) rfl rfl rfl (Rd.ofRow (by repeat (first | exact .here _ _ _ | apply At.there))) rfl rfl ?_) | (refine H.callVR (fs := []) (cs := []) (vs := [.agg (x.vals q qc).toArray]) rfl rfl rfl rfl (hm _) ?_))
        refine H.drop (.here _ _) ?_
        refine H.drop (.here _ _) ?_
        refine H.ret1 rfl rfl (fun _ h => h) ⟨?_, rfl, rfl⟩
        simp [Bod.mayP, *]
    · have hm : ∀ A, Fn Try.prog f3 [.agg (x.vals q qc).toArray] f A (Ret (.bool (x.mayK kind)) f A) := fun A => hmay f A x q qc hq hl
      repeat (first | ((first | apply H.move | apply H.assign | apply H.len_slice); (iterate 3 exact rfl)) | (apply H.fieldAddr; (iterate 3 exact rfl); exact inferInstance; exact rfl) | (apply H.load1; (iterate 3 exact rfl); apply Rd1.ofRow; (repeat (first | exact .here _ _ _ | apply At.there)); (iterate 2 exact rfl)) | (first | apply H.seq | apply H.region | apply H.nil | apply H.then_normal) | ((apply H.cmp); (iterate 5 exact rfl)) | (apply H.pass; (iterate 2 exact rfl)) | (apply H.pickT; (iterate 4 exact rfl)) | ((first | apply H.pickF | apply H.not); (iterate 4 exact rfl)) | (apply H.cond_true; exact rfl) | (first | apply H.ret | apply H.then_ret) | (apply H.gyes; (iterate 3 exact rfl); (omega)))
      refine H.drop (.here _ _) ?_
      refine H.drop (.here _ _) ?_
      refine H.ret1 rfl rfl (fun _ h => h) ⟨?_, rfl, rfl⟩
      simp [Bod.mayP, *]
  · refine H.drawB (by kernel_rfl) (by decide +kernel) (by first | exact blind_fn | exact blind_seq blind_fn | exact blind_seq (blind_seq blind_fn) | (repeat (first | exact blind_fn | refine blind_seq ?_ | refine blind_block ?_ | refine blind_loop ?_))) (S := [_]) rfl ?_
    refine HB.quiet [(1, false), (2, false)] 8 (by kernel_rfl) ?_
    repeat (first | (apply HQ.fieldAddr; (iterate 3 exact rfl); exact inferInstance; exact rfl) | (apply HQ.load1; (iterate 3 exact rfl); apply Rd1.ofRow; (repeat (exact .here _ _ _)); (iterate 2 exact rfl)))
    refine HQ.more rfl ?_
    refine HB.ev2 (i := 0) (j := 7) (by kernel_rfl) rfl rfl ?_ ?_
    · refine H.callE rfl rfl rfl (codecs_fn f _) fun mb => ?_
      repeat ((apply H.nil))
      refine H.front (.there _ (.here _ _)) ?_
      refine H.on [_] (Le.refl _) rfl ?_
      refine HB.quiet [(3, false), (4, false), (5, false), (6, false)] 3 (by kernel_rfl) ?_
      refine HQ.lookup2 (enc := encU8) (k := (kind : Int)) rfl rfl rfl (by repeat (first | exact .here _ _ _ | apply At.there)) hkv (hz _) hi rfl ?_
      repeat (first | ((apply HQ.move); (iterate 3 exact rfl)) | ((apply HQ.extract); (iterate 4 exact rfl)))
      refine HQ.more rfl ?_
      refine HB.ev1 (i := 7) (by kernel_rfl) rfl ?_
      refine H.alloc (ls := [.nilFunc, .nilFunc, .nilFunc]) rfl rfl rfl fun vb => ?_
      repeat ((apply H.nil))
      refine H.front (.there _ (.there _ (.here _ _))) ?_
      refine H.front (.there _ (.there _ (.here _ _))) ?_
      refine H.on0 rfl ?_
      refine HB.ev1 (i := 8) (by kernel_rfl) rfl ?_
      refine H.storeN (ls := [.nilFunc, .nilFunc, .nilFunc]) (vs := codecCells f1 f2 f3) (ls' := codecCells f1 f2 f3) rfl rfl rfl (allOne_mem rfl) rfl rfl (Nat.le_refl 3) (by repeat (first | exact .here _ _ _ | apply At.there)) ?_
      repeat ((apply H.nil))
      refine H.on0 rfl ?_
      refine HB.quiet [(9, false)] 0 (by kernel_rfl) ?_
      repeat (((apply HQ.assign); (iterate 3 exact rfl)))
      refine HQ.more rfl ?_
      refine HB.done (by kernel_rfl) ?_
      refine H.drop (.there _ (.here _ _)) ?_
      refine H.front (.there _ (.here _ _)) ?_
      exact H.meet vb trivial ⟨rfl, rfl, rfl, trivial⟩ rfl rfl
    · refine H.alloc (ls := [.nilFunc, .nilFunc, .nilFunc]) rfl rfl rfl fun vb => ?_
      repeat ((apply H.nil))
      refine H.front (.there _ (.here _ _)) ?_
      refine H.on0 rfl ?_
      refine HB.ev1 (i := 0) (by kernel_rfl) rfl ?_
      refine H.callE rfl rfl rfl (codecs_fn f _) fun mb => ?_
      repeat ((apply H.nil))
      refine H.front (.there _ (.here _ _)) ?_
      refine H.on [_] (Le.refl _) rfl ?_
      refine HB.quiet [(3, false), (4, false), (5, false), (6, false)] 2 (by kernel_rfl) ?_
      refine HQ.lookup2 (enc := encU8) (k := (kind : Int)) rfl rfl rfl (by repeat (first | exact .here _ _ _ | apply At.there)) hkv (hz _) hi rfl ?_
      repeat (first | ((apply HQ.move); (iterate 3 exact rfl)) | ((apply HQ.extract); (iterate 4 exact rfl)))
      refine HQ.more rfl ?_
      refine HB.ev1 (i := 8) (by kernel_rfl) rfl ?_
      refine H.storeN (ls := [.nilFunc, .nilFunc, .nilFunc]) (vs := codecCells f1 f2 f3) (ls' := codecCells f1 f2 f3) rfl rfl rfl (allOne_mem rfl) rfl rfl (Nat.le_refl 3) (by repeat (first | exact .here _ _ _ | apply At.there)) ?_
      repeat ((apply H.nil))
      refine H.on0 rfl ?_
      refine HB.quiet [(9, false)] 0 (by kernel_rfl) ?_
      repeat (((apply HQ.assign); (iterate 3 exact rfl)))
      refine HQ.more rfl ?_
      refine HB.done (by kernel_rfl) ?_
      refine H.drop (.there _ (.here _ _)) ?_
      refine H.front (.there _ (.here _ _)) ?_
      exact H.meet vb trivial ⟨rfl, rfl, rfl, trivial⟩ rfl rfl
end
end Go.Proofs.Ytcaofnfemogleaa
