/- Parts of the proof, one behind the other, each under its own heading. No conditions. -/
import Derived.Test.YtcaofnfemogleaaZ05
import Derived.ProofKit
import Derived.Lib.SmallJoins
import Derived.Deep.Slices
import Derived.Deep.Fields
/- Layer 3: the document's tags. -/
namespace Go.Proofs.Ytcaofnfemogleaa
set_option linter.unusedSectionVars false
set_option linter.unusedSimpArgs false
set_option linter.unusedVariables false
open Go
theorem u8_bv (x : UInt8) : BitVec.ofInt 8 (x.toNat : Int) = x.toBitVec := by
  simp [BitVec.ofInt_natCast]
theorem u8_wrapN (x : UInt8) : IntKind.u8.wrap ((x.toNat : Nat) : Int) = (x.toNat : Int) := by
  have := x.toNat_lt
  rw [wr_u8 (by omega)]
theorem u8_xor (x y : UInt8) : bitsI .xor .u8 (x.toNat : Int) (y.toNat : Int) = some (((x ^^^ y).toNat : Nat) : Int) := by
  have e : (BitVec.ofInt 8 (x.toNat : Int) ^^^ BitVec.ofInt 8 (y.toNat : Int)).toNat = (x ^^^ y).toNat := by rw [u8_bv, u8_bv]; rfl
  show some (IntKind.u8.wrap ((BitVec.ofInt 8 (x.toNat : Int) ^^^ BitVec.ofInt 8 (y.toNat : Int)).toNat : Int)) = _
  rw [e, u8_wrapN]
namespace Sha
/-- A key filled to 64 bytes. -/
def full (key : List UInt8) : List UInt8 := key ++ List.replicate (64 - key.length) 0
def turn (key : List UInt8) (t : UInt8) : List UInt8 := (full key).map (· ^^^ t)
/-- A key's tag of bytes (a key of 64 bytes at most). -/
def hmac (key b : List UInt8) : Nat → UInt8 := sum (turn key 0x5c ++ b32L (sum (turn key 0x36 ++ b)))
def word32 (word : List UInt8) (i : Int) : List UInt8 := b32L (sum (word ++ be 8 i))
/-- "ratchet replica". -/
def replicaW : List UInt8 := [114, 97, 116, 99, 104, 101, 116, 32, 114, 101, 112, 108, 105, 99, 97]
def numbered (i n : Int) (b : List UInt8) : Nat → UInt8 := hmac (word32 replicaW i) (be 8 n ++ b)
theorem full_len {key : List UInt8} (h : key.length ≤ 64) : (full key).length = 64 := by
  unfold full; rw [List.length_append, List.length_replicate]; omega
theorem turn_len {key : List UInt8} (h : key.length ≤ 64) (t : UInt8) : (turn key t).length = 64 := by
  unfold turn; rw [List.length_map, full_len h]
end Sha
section
variable (f : Frag) (F : List HP)
theorem with_fn {p : Option Addr} {c : Nat} {key : List UInt8} {t : UInt8} (hs : Src Try.prog f F (.slice p key.length c) 1 key.length (bytesV key)) (hl : key.length ≤ 64) :
    Fn Try.prog 80 [.slice p key.length c, .int .u8 (t.toNat : Nat)] f F (BytesR (Sha.turn key t) f F) := by
  refine Fn.enter Try.func80 rfl Try.ntmps80 rfl (L := [(0, _), (1, _)]) ⟨rfl, rfl, trivial⟩ fun base => ?_
  repeat (first | ((apply H.assign); (iterate 3 exact rfl)) | (first | apply H.seq | apply H.region | apply H.nil | apply H.then_normal))
  refine H.buildSlice rfl rfl rfl rfl (by decide) (by decide) rfl rfl fun eb => ?_
  refine H.asSlc (k := 0) (sz := 1) rfl (by decide) ?_
  repeat (((apply H.move); (iterate 3 exact rfl)))
  refine H.append (xs := []) rfl rfl rfl rfl rfl (fun p' c' => .here _ _ _) hs.cons (bytesV_one key) rfl (by omega) (by omega) fun p1 c1 => ?_
  rw [Nat.zero_add, List.nil_append]
  repeat (first | ((first | apply H.move | apply H.assign | apply H.len_slice); (iterate 3 exact rfl)) | (first | apply H.seq | apply H.region | apply H.nil | apply H.then_normal) | ((apply H.cmp); (iterate 5 exact rfl)) | (first | apply H.skip | apply H.block) | (apply H.cond_no; exact rfl; (omega)))
  refine H.loop (ι := Nat × Option Addr × Nat) (fun i => [(5, .slice i.2.1 (key ++ List.replicate i.1 0).length i.2.2), (1, .int .u8 (t.toNat : Nat))]) (fun _ => f)
    (fun i => slc i.2.1 (key ++ List.replicate i.1 0).length i.2.2 5 1 (bytesV (key ++ List.replicate i.1 0)) :: F) (fun i => i.1 ≤ 64 - key.length) (fun i => 64 - key.length - i.1) (0, p1, c1) (Nat.zero_le _) ⟨?_, rfl, trivial⟩ rfl ?_ fun i hi => ?_
  · show some (Value.slice p1 key.length c1) = some (Value.slice p1 (key ++ []).length c1)
    rw [List.append_nil]
  · show _ = slc p1 (key ++ []).length c1 _ 1 (bytesV (key ++ [])) :: F
    rw [List.append_nil]
  obtain ⟨i, p', c'⟩ := i
  have hi : i ≤ 64 - key.length := hi
  show H _ _ _ [(5, .slice p' (key ++ List.replicate i 0).length c'), _] _ (slc p' (key ++ List.replicate i 0).length c' _ 1 (bytesV (key ++ List.replicate i 0)) :: _) _
  have hal : (key ++ List.replicate i 0).length = key.length + i := by rw [List.length_append, List.length_replicate]
  by_cases hlt : i < 64 - key.length
  · have e3 : key ++ List.replicate (i + 1) 0 = (key ++ List.replicate i 0) ++ [0] := by rw [List.replicate_succ', ← List.append_assoc]
    generalize key ++ List.replicate i 0 = acc at hal e3 ⊢
    repeat (first | ((first | apply H.move | apply H.len_slice); (iterate 3 exact rfl)) | (first | apply H.seq | apply H.region | apply H.nil | apply H.then_normal) | ((apply H.cmp); (iterate 5 exact rfl)) | (first | apply H.skip | apply H.block) | (apply H.cond_yes; exact rfl; (omega)))
    refine H.buildSlice (out := bytesV [0]) rfl rfl rfl rfl (by decide) (by decide) rfl rfl fun tb => ?_
    refine H.append (m := 1) (xs := bytesV acc) rfl rfl rfl rfl rfl (fun p' c' => (by repeat (first | exact .here _ _ _ | apply At.there))) (Src.slice (Rd.ofRow (.here _ _ _)) rfl) (bytesV_one _) rfl (by omega) (by omega) fun p3 c3 => ?_
    refine H.drop (x := row tb _ _) (by repeat (first | exact .here _ _ | apply Pull.there)) ?_
    repeat (first | ((apply H.assign); (iterate 3 exact rfl)) | (apply H.nil) | (apply H.in_normal))
    refine H.again (i + 1, p3, c3) (by show i + 1 ≤ _; omega) (by show 64 - key.length - (i + 1) < 64 - key.length - i; omega) ⟨?_, rfl, trivial⟩ rfl ?_
    · show some (Value.slice p3 (acc.length + 1) c3) = some (Value.slice p3 (key ++ List.replicate (i + 1) 0).length c3)
      rw [e3, List.length_append]; rfl
    · show _ = slc p3 (key ++ List.replicate (i + 1) 0).length c3 _ 1 (bytesV (key ++ List.replicate (i + 1) 0)) :: _
      rw [e3, List.length_append, bytesV_append]; rfl
  · have hip : i = 64 - key.length := by omega
    subst hip
    have hfl := Sha.full_len hl
    have htl := Sha.turn_len hl t
    have hget : ∀ i, i < 64 → (Sha.turn key t).getD i 0 = (Sha.full key).getD i 0 ^^^ t := fun i hi => by
      unfold Sha.turn
      rw [List.getD_eq_getElem?_getD, List.getElem?_map, List.getElem?_eq_getElem (by rw [hfl]; exact hi), List.getD_eq_getElem?_getD, List.getElem?_eq_getElem (by rw [hfl]; exact hi)]
      rfl
    have hfk : key ++ List.replicate (64 - key.length) 0 = Sha.full key := rfl
    rw [hfk] at hal ⊢
    generalize Sha.full key = K at hfl hget hal ⊢
    generalize Sha.turn key t = T at htl hget ⊢
    repeat (first | ((first | apply H.move | apply H.assign | apply H.len_slice); (iterate 3 exact rfl)) | (first | apply H.seq | apply H.region | apply H.nil | apply H.then_normal) | ((apply H.cmp); (iterate 5 exact rfl)) | (first | apply H.then_exit | apply H.exit | apply H.block | apply H.in_hit | apply H.loop_exit) | (apply H.cond_no; exact rfl; (omega)))
    refine H.slc_some (.here _ _ _) (by omega) fun kb hp => ?_
    subst hp
    refine H.loop (ι := Nat) (fun i => [(7, .int .i64 (i : Int)), (5, .slice (some ⟨kb, 0, none⟩) K.length c'), (1, .int .u8 (t.toNat : Nat))]) (fun _ => f)
      (fun i => slc (some ⟨kb, 0, none⟩) K.length c' 5 1 ((bytesV T).take i ++ (bytesV K).drop i) :: F) (fun i => i ≤ 64) (fun i => 64 - i) 0 (Nat.zero_le _) ⟨rfl, rfl, rfl, trivial⟩ rfl rfl fun i hi => ?_
    have hi : i ≤ 64 := hi
    have hTK : (bytesV T).length = (bytesV K).length := by rw [bytesV_len, bytesV_len, hfl, htl]
    by_cases hli : i < 64
    · have hset : SetV ((bytesV T).take i ++ (bytesV K).drop i) i (.int .u8 ((K.getD i 0 ^^^ t).toNat : Nat)) ((bytesV T).take (i + 1) ++ (bytesV K).drop (i + 1)) := by
        rw [← hget i hli]
        exact fill_set (bytesV_get (by omega)) hTK
      have hg : ((bytesV T).take i ++ (bytesV K).drop i)[i]? = some (.int .u8 ((K.getD i 0).toNat : Nat)) := fill_get2 (Nat.le_refl _) hTK (bytesV_get (by omega))
      show H _ _ _ _ _ (slc _ _ _ _ _ ((bytesV T).take i ++ (bytesV K).drop i) :: _) _
      repeat (first | ((apply H.move); (iterate 3 exact rfl)) | (first | apply H.seq | apply H.region | apply H.nil | apply H.then_normal) | ((apply H.cmp); (iterate 5 exact rfl)) | (first | apply H.skip | apply H.block) | (apply H.cond_yes; exact rfl; (omega)))
      refine H.index1 (i := i) rfl rfl rfl rfl (by omega) rfl ?_
      refine H.load1 rfl rfl rfl (.of (Rd.ofSlc (.here _ _ _) (by omega)) hg) rfl ?_
      repeat (((apply H.move); (iterate 3 exact rfl)))
      refine H.bits rfl rfl rfl (u8_xor _ _) rfl rfl ?_
      refine H.index1 (i := i) rfl rfl rfl rfl (by omega) rfl ?_
      refine H.store_slc (xs' := (bytesV T).take (i + 1) ++ (bytesV K).drop (i + 1)) rfl rfl rfl rfl (.here _ _ _) (by rw [Nat.zero_add]; exact hset) ?_
      repeat (first | ((first | apply H.move | apply H.assign); (iterate 3 exact rfl)) | (first | apply H.region | apply H.nil | apply H.then_normal) | ((apply H.ar; (iterate 4 exact rfl)); (with_reducible apply wr_i64_n1; omega); exact rfl) | (apply H.in_normal))
      exact H.again (i + 1) (by show i + 1 ≤ 64; omega) (by show 64 - (i + 1) < 64 - i; omega) ⟨rfl, rfl, rfl, trivial⟩ rfl rfl
    · have hi64 : i = 64 := by omega
      subst hi64
      have hfull : (bytesV T).take 64 ++ (bytesV K).drop 64 = bytesV T := by
        rw [List.take_of_length_le (by rw [bytesV_len, htl]; exact Nat.le_refl _), List.drop_eq_nil_of_le (by rw [bytesV_len, hfl]; exact Nat.le_refl _), List.append_nil]
      rw [hfull]
      have hKT : K.length = T.length := by omega
      rw [hKT]
      repeat (first | ((first | apply H.move | apply H.assign); (iterate 3 exact rfl)) | (first | apply H.seq | apply H.region | apply H.nil | apply H.then_normal) | ((apply H.cmp); (iterate 5 exact rfl)) | (apply H.cond_false; exact rfl) | (first | apply H.ret | apply H.then_exit | apply H.exit | apply H.in_hit | apply H.loop_exit))
      exact H.ret1 rfl rfl (fun _ h => h) ⟨_, c', rfl, rfl, rfl⟩
theorem hmac_fn {p r : Option Addr} {c d : Nat} {key b : List UInt8} (hs : ∀ G, Src Try.prog f (G ++ F) (.slice p key.length c) 1 key.length (bytesV key)) (hs2 : ∀ G, Src Try.prog f (G ++ F) (.slice r b.length d) 1 b.length (bytesV b)) (hl : key.length ≤ 64) (hl2 : b.length ≤ 100000000) :
    Fn Try.prog 51 [.slice p key.length c, .slice r b.length d] f F (Ret (.agg (b32 (Sha.hmac key b)).toArray) f F) := by
  refine Fn.enter Try.func51 rfl Try.ntmps51 rfl (L := [(0, _), (1, _)]) ⟨rfl, rfl, trivial⟩ fun base => ?_
  repeat ((first | apply H.seq | apply H.region))
  refine H.alloc (ls := zb 32) rfl rfl rfl fun ob => ?_
  repeat (first | ((apply H.move); (iterate 3 exact rfl)) | (first | apply H.seq | apply H.region | apply H.nil | apply H.then_normal))
  refine H.callE2 rfl rfl rfl (with_fn (t := 0x36) f _ (hs [_]) hl) fun p1 c1 => ?_
  have h1 := Sha.turn_len hl 0x36
  generalize hT : Sha.turn key 0x36 = T at h1
  repeat (((apply H.move); (iterate 3 exact rfl)))
  refine H.append (xs := bytesV T) rfl rfl rfl rfl rfl (fun p' c' => .here _ _ _) (hs2 [_, _]) (bytesV_one b) rfl (by omega) (by omega) fun p2 c2 => ?_
  have e1 : (T ++ b).length = T.length + b.length := List.length_append
  have e2 : bytesV (T ++ b) = bytesV T ++ bytesV b := bytesV_append _ _
  rw [← e1, ← e2]
  refine H.callR rfl rfl rfl (rsum_fn f _ (b := T ++ b) (Src.slcS (.here _ _ _) (by rw [bytesV_len]; exact (Nat.mul_one _).symm)) (by omega)) ?_
  refine H.drop (.here _ _) ?_
  refine H.alloc (ls := zb 32) rfl rfl rfl fun ib => ?_
  refine H.storeN (ls := zb 32) (vs := b32 (Sha.sum (T ++ b))) (ls' := b32 (Sha.sum (T ++ b))) rfl rfl rfl (allOne_mem rfl) rfl rfl (Nat.le_refl 32) (by repeat (first | exact .here _ _ _ | apply At.there)) ?_
  generalize hin : Sha.sum (T ++ b) = inn
  repeat ((first | apply H.seq | apply H.nil | apply H.then_normal))
  refine H.drawB (by kernel_rfl) (by decide +kernel) (by first | exact blind_fn | exact blind_seq blind_fn | exact blind_seq (blind_seq blind_fn) | (repeat (first | exact blind_fn | refine blind_seq ?_ | refine blind_block ?_ | refine blind_loop ?_))) (S := [_]) rfl ?_
  refine HB.quiet [(0, false), (2, false)] 4 (by kernel_rfl) ?_
  repeat (((apply HQ.move); (iterate 3 exact rfl)))
  refine HQ.sliceArr (lo := none) (hi := none) (mx := none) (lv := 0) (hv := 32) (mv := 32) rfl rfl rfl rfl rfl (fun h => by cases h) (by decide) (by decide) (by decide) rfl ?_
  refine HQ.more rfl ?_
  refine HB.ev1 (i := 1) (by kernel_rfl) rfl ?_
  refine H.callE2 rfl rfl rfl (with_fn (t := 0x5c) f _ (hs [_, _]) hl) fun p3 c3 => ?_
  have h2 := Sha.turn_len hl 0x5c
  generalize hT2 : Sha.turn key 0x5c = T2 at h2
  repeat ((apply H.nil))
  refine H.front (x := row ib _ _) (by repeat (first | exact .here _ _ | apply Pull.there)) ?_
  refine H.on0 rfl ?_
  refine HB.ev1 (i := 3) (by kernel_rfl) rfl ?_
  refine H.append (xs := bytesV T2) (m := 32) (news := bytesV (b32L inn)) rfl rfl rfl rfl rfl (fun p' c' => (by repeat (first | exact .here _ _ _ | apply At.there))) (Src.slice (Rd.ofRow (.here _ _ _)) rfl) (bytesV_one _) rfl (by omega) (by omega) fun p4 c4 => ?_
  repeat ((apply H.nil))
  refine H.on0 rfl ?_
  refine HB.ev1 (i := 4) (by kernel_rfl) rfl ?_
  have e3 : (T2 ++ b32L inn).length = T2.length + 32 := by rw [List.length_append]; rfl
  have e4 : bytesV (T2 ++ b32L inn) = bytesV T2 ++ bytesV (b32L inn) := bytesV_append _ _
  have hfin : Sha.hmac key b = Sha.sum (T2 ++ b32L inn) := by unfold Sha.hmac; rw [hT, hT2, hin]
  rw [hfin]
  generalize T2 ++ b32L inn = l4 at e3 e4 ⊢
  rw [← e3, ← e4]
  refine H.callR rfl rfl rfl (rsum_fn f _ (b := l4) (Src.slcS (by repeat (first | exact .here _ _ _ | apply At.there)) (by rw [bytesV_len]; exact (Nat.mul_one _).symm)) (by omega)) ?_
  repeat ((apply H.nil))
  refine H.on0 rfl ?_
  refine HB.ev1 (i := 5) (by kernel_rfl) rfl ?_
  refine H.storeN (ls := zb 32) (vs := b32 (Sha.sum l4)) (ls' := b32 (Sha.sum l4)) rfl rfl rfl (allOne_mem rfl) rfl rfl (Nat.le_refl 32) (by repeat (first | exact .here _ _ _ | apply At.there)) ?_
  repeat ((apply H.nil))
  refine H.on0 rfl ?_
  refine HB.done (by kernel_rfl) ?_
  repeat (first | (apply H.then_normal) | (apply H.ret))
  refine H.drop (.here _ _) ?_
  refine H.drop (x := slc _ _ _ _ _ _) (by repeat (first | exact .here _ _ | apply Pull.there)) ?_
  exact H.retD rfl rfl rfl (Rd.ofRow (by repeat (first | exact .here _ _ _ | apply At.there))) rfl (fun _ s => s.drop (.here _ _)) ⟨rfl, rfl, rfl⟩
end
end Go.Proofs.Ytcaofnfemogleaa

/- Layers 3 and 8: the document's keys, and a message with its tag. -/
namespace Go.Proofs.Ytcaofnfemogleaa
set_option linter.unusedSectionVars false
set_option linter.unusedSimpArgs false
set_option linter.unusedVariables false
open Go
/-- A message with the tag that it must have. -/
def Msg.signed (m : Msg) : Msg := if m.may = true then { m with tag := Sha.numbered m.origin m.number m.tagged } else m
theorem Msg.tagged_len {m : Msg} (h : m.may = true) : m.tagged.length ≤ 3000 := by
  have h1 := Bod.may_spec (Msg.may_body h)
  have h2 := Bod.may_q (Msg.may_body h)
  have h3 := (putK_len m.body m.body.kind.toNat h1.2.2 h2).2
  unfold Msg.tagged Bod.put
  simp only [List.length_append, List.length_cons, List.length_nil, depsB_len]
  omega
section
variable (f : Frag) (F : List HP)
theorem rkey_fn {w : ByteArray} {i most : Int} (h1 : 1 ≤ i) (h2 : i ≤ most) (h3 : most ≤ 1000) (hw : w.size ≤ 1000) :
    Fn Try.prog 81 [.string w, .int .i64 i, .int .i64 most] f F (BytesR (Sha.word32 w.data.toList i) f F) := by
  have hwl := data_len w
  refine Fn.enter Try.func81 rfl Try.ntmps81 rfl (L := [(0, _), (1, _), (2, _)]) ⟨rfl, rfl, rfl, trivial⟩ fun base => ?_
  repeat (first | ((first | apply H.move | apply H.assign); (iterate 3 exact rfl)) | (first | apply H.seq | apply H.region | apply H.nil | apply H.then_normal) | ((apply H.cmp); (iterate 5 exact rfl)) | ((apply H.pickF); (iterate 4 exact rfl)) | (apply H.skip) | (apply H.gno; (iterate 3 exact rfl); (omega)) | (apply H.cond_no; exact rfl; (omega)))
  refine H.convSB rfl rfl rfl fun sb sc => ?_
  repeat (first | ((apply H.move); (iterate 3 exact rfl)) | ((apply H.conv_int; (iterate 2 exact rfl)); (with_reducible apply wr_u64; omega); exact rfl))
  have hs : Src Try.prog f (strRow sb w sc 5 :: F) (.slice (some ⟨sb, 0, none⟩) w.data.toList.length sc) 1 w.data.toList.length (bytesV w.data.toList) := by
    rw [hwl]; exact Src.strRow (.here _ _ _)
  have hfn := rword_fn (n := i) f _ hs (by omega)
  rw [hwl] at hfn
  refine H.callE2 rfl rfl rfl hfn fun p1 c1 => ?_
  have e1 : (w.data.toList ++ be 8 i).length ≤ 2000 := by rw [List.length_append, be_len, hwl]; omega
  unfold Sha.word32
  generalize w.data.toList ++ be 8 i = l1 at e1
  refine H.callR rfl rfl rfl (rsum_fn f _ (b := l1) (Src.slcS (.here _ _ _) (by rw [bytesV_len]; exact (Nat.mul_one _).symm)) (by omega)) ?_
  refine H.drop (.here _ _) ?_
  refine H.drop (.here _ _) ?_
  refine H.alloc (ls := zb 32) rfl rfl rfl fun db => ?_
  refine H.storeN (ls := zb 32) (vs := b32 (Sha.sum l1)) (ls' := b32 (Sha.sum l1)) rfl rfl rfl (allOne_mem rfl) rfl rfl (Nat.le_refl 32) (by repeat (first | exact .here _ _ _ | apply At.there)) ?_
  generalize Sha.sum l1 = d
  repeat ((first | apply H.seq | apply H.region | apply H.nil | apply H.then_normal))
  refine H.buildSlice rfl rfl rfl rfl (by decide) (by decide) rfl rfl fun eb => ?_
  refine H.asSlc (k := 0) (sz := 1) rfl (by decide) ?_
  refine H.sliceArr (lo := none) (hi := none) (mx := none) (lv := 0) (hv := 32) (mv := 32) rfl rfl rfl rfl rfl (fun h => by cases h) (by decide) (by decide) (by decide) rfl ?_
  refine H.append (xs := []) (m := 32) (news := bytesV (b32L d)) rfl rfl rfl rfl rfl (fun p' c' => .here _ _ _) (Src.slice (Rd.ofRow (.there _ (.here _ _ _))) rfl) (bytesV_one _) rfl (by omega) (by omega) fun p4 c4 => ?_
  repeat (first | ((apply H.assign); (iterate 3 exact rfl)) | (first | apply H.nil | apply H.then_normal) | (apply H.ret))
  refine H.drop (x := row db _ _) (by repeat (first | exact .here _ _ | apply Pull.there)) ?_
  exact H.ret1 rfl rfl (fun _ h => h) ⟨p4, c4, rfl, rfl, rfl⟩
theorem rreplica_fn {i : Int} (h1 : 1 ≤ i) (h2 : i ≤ 11) : Fn Try.prog 52 [.int .i64 i] f F (BytesR (Sha.word32 Sha.replicaW i) f F) := by
  refine Fn.enter Try.func52 rfl Try.ntmps52 rfl (L := [(0, _)]) ⟨rfl, trivial⟩ fun base => ?_
  repeat (first | ((first | apply H.move | apply H.assign); (iterate 3 exact rfl)) | (first | apply H.seq | apply H.region | apply H.nil | apply H.then_normal))
  refine H.callE2 rfl rfl rfl (rkey_fn (w := ⟨#[114, 97, 116, 99, 104, 101, 116, 32, 114, 101, 112, 108, 105, 99, 97]⟩) f _ h1 h2 (by decide) (by decide)) fun p1 c1 => ?_
  repeat (first | ((apply H.assign); (iterate 3 exact rfl)) | (first | apply H.nil | apply H.then_normal) | (apply H.ret))
  exact H.ret1 rfl rfl (fun _ h => h) ⟨p1, c1, rfl, rfl, rfl⟩
theorem rnumbered_fn {i n : Int} {r : Option Addr} {d : Nat} {b : List UInt8} (h1 : 1 ≤ i) (h2 : i ≤ 11) (hs : ∀ G, Src Try.prog f (G ++ F) (.slice r b.length d) 1 b.length (bytesV b)) (hl : b.length ≤ 10000000) :
    Fn Try.prog 40 [.int .i64 i, .int .u64 n, .slice r b.length d] f F (Ret (.agg (b32 (Sha.numbered i n b)).toArray) f F) := by
  refine Fn.enter Try.func40 rfl Try.ntmps40 rfl (L := [(0, _), (1, _), (2, _)]) ⟨rfl, rfl, rfl, trivial⟩ fun base => ?_
  repeat ((first | apply H.seq | apply H.region))
  refine H.alloc (ls := zb 32) rfl rfl rfl fun ob => ?_
  repeat (first | ((apply H.move); (iterate 3 exact rfl)) | (first | apply H.seq | apply H.region | apply H.nil | apply H.then_normal))
  refine H.callE2 rfl rfl rfl (rreplica_fn f _ h1 h2) fun p1 c1 => ?_
  repeat (((apply H.move); (iterate 3 exact rfl)))
  refine H.callE2 rfl rfl rfl (rword_fn (l := []) (n := n) f _ Src.nil (by decide)) fun p2 c2 => ?_
  rw [List.nil_append]
  have h8 := be_len 8 n
  repeat (((apply H.move); (iterate 3 exact rfl)))
  refine H.append (xs := bytesV (be 8 n)) rfl rfl rfl rfl rfl (fun p' c' => .here _ _ _) (hs [_, _, _]) (bytesV_one b) rfl (by omega) (by omega) fun p3 c3 => ?_
  have e1 : (be 8 n ++ b).length = (be 8 n).length + b.length := List.length_append
  have e2 : bytesV (be 8 n ++ b) = bytesV (be 8 n) ++ bytesV b := bytesV_append _ _
  unfold Sha.numbered
  have hk : (Sha.word32 Sha.replicaW i).length = 32 := rfl
  generalize Sha.word32 Sha.replicaW i = key at hk ⊢
  generalize be 8 n ++ b = l1 at e1 e2 ⊢
  rw [← e1, ← e2]
  refine H.callR rfl rfl rfl (hmac_fn f _ (key := key) (b := l1) (fun G => Src.append (Src.slcS (.there _ (.here _ _ _)) (by rw [bytesV_len]; exact (Nat.mul_one _).symm))) (fun G => Src.append (Src.slcS (.here _ _ _) (by rw [bytesV_len]; exact (Nat.mul_one _).symm))) (by omega) (by omega)) ?_
  refine H.drop (.here _ _) ?_
  refine H.drop (.here _ _) ?_
  refine H.storeN (ls := zb 32) (vs := b32 (Sha.hmac key l1)) (ls' := b32 (Sha.hmac key l1)) rfl rfl rfl (allOne_mem rfl) rfl rfl (Nat.le_refl 32) (by repeat (first | exact .here _ _ _ | apply At.there)) ?_
  repeat (first | (first | apply H.nil | apply H.then_normal) | (apply H.ret))
  exact H.retD rfl rfl rfl (Rd.ofRow (by repeat (first | exact .here _ _ _ | apply At.there))) rfl (fun _ s => s.drop (.here _ _)) ⟨rfl, rfl, rfl⟩
theorem splice_tag (m : Msg) (q : Option Addr) (qc : Nat) (t : Nat → UInt8) : splice (m.vals q qc) (0 + 89) (b32 t) = ({ m with tag := t } : Msg).vals q qc := by
  unfold Msg.vals
  generalize hp : ([.int .i64 m.origin, .int .u64 m.number] ++ v11 m.deps ++ m.body.vals q qc : List Value) = p
  have hl : p.length = 89 := by rw [← hp]; rfl
  unfold splice
  rw [Nat.zero_add, ← hl, List.take_left, List.drop_eq_nil_of_le (by rw [List.length_append]; exact Nat.le_refl _), List.append_nil]
theorem Msg.vals_len (m : Msg) (q : Option Addr) (qc : Nat) : (m.vals q qc).length = 121 := rfl
theorem rtagged_fn {m : Msg} {q : Option Addr} {qc : Nat} (hq : QAt f q m.body.q) (hl : m.body.q.length ≤ 1000000000) :
    Fn Try.prog 33 [.agg (m.vals q qc).toArray] f F (Ret (.agg (m.signed.vals q qc).toArray) f F) := by
  have hmay := fun G => rmay_fn (m := m) (qc := qc) f G hq hl
  have e0 : m.may = (decide m.outer && m.body.may) := rfl
  rw [← e0] at hmay
  unfold Msg.signed
  by_cases hm : m.may = true
  · rw [if_pos hm]
    have hbl := Msg.tagged_len hm
    have hout : m.outer := by
      unfold Msg.may at hm
      simp only [Bool.and_eq_true, decide_eq_true_eq] at hm
      exact hm.1
    have hby : ∀ G, Fn Try.prog 41 [.agg (m.vals q qc).toArray] f G (BytesR m.tagged f G) := fun G => by
      have := rbytes_fn (m := m) (qc := qc) f G hq hl
      unfold Msg.bytes at this
      rwa [if_pos hm] at this
    rw [hm] at hmay
    refine Fn.enter Try.func33 rfl Try.ntmps33 rfl (L := [(0, _)]) ⟨rfl, trivial⟩ fun base => ?_
    repeat ((first | apply H.seq | apply H.region))
    refine H.box (ls := m.vals q qc) rfl rfl rfl rfl fun mb => ?_
    refine H.alloc (ls := (⟨0, 0, fun _ => 0, Bod.zero 0, noTag⟩ : Msg).vals none 0) rfl rfl rfl fun ob => ?_
    repeat ((first | apply H.seq | apply H.region | apply H.nil | apply H.then_normal))
    refine H.loadN (ls := m.vals q qc) rfl rfl rfl (Rd.ofRow (by repeat (first | exact .here _ _ _ | apply At.there))) rfl rfl ?_
    refine H.callR rfl rfl rfl (hmay _) ?_
    repeat (first | (first | apply H.nil | apply H.then_normal) | (apply H.cond_true; exact rfl))
    refine H.front (x := row mb _ _) (by repeat (first | exact .here _ _ | apply Pull.there)) ?_
    refine H.drawC [0, 1, 2, 3, 4, 5, 6] (by kernel_rfl) (by decide +kernel) (by first | exact blind_fn | exact blind_seq blind_fn | exact blind_seq (blind_seq blind_fn) | (repeat (first | exact blind_fn | refine blind_seq ?_ | refine blind_block ?_ | refine blind_loop ?_))) (S := [_]) rfl ?_
    refine HB.quiet [(0, false), (1, false), (2, false), (3, false), (4, false)] 4 (by kernel_rfl) ?_
    repeat (first | (apply HQ.fieldAddr; (iterate 3 exact rfl); exact inferInstance; exact rfl) | (apply HQ.load1; (iterate 3 exact rfl); apply Rd1.ofRow; (repeat (exact .here _ _ _)); (iterate 2 exact rfl)))
    refine HQ.loadN (ls := m.vals q qc) rfl rfl rfl (Rd.ofRow (by repeat (first | exact .here _ _ _ | apply At.there))) rfl rfl ?_
    refine HQ.more rfl ?_
    refine HB.ev1 (i := 5) (by kernel_rfl) rfl ?_
    refine H.callE2 rfl rfl rfl (hby _) fun p1 c1 => ?_
    generalize m.tagged = tg at hbl ⊢
    repeat ((apply H.nil))
    refine H.front (x := row mb _ _) (by repeat (first | exact .here _ _ | apply Pull.there)) ?_
    refine H.on0 rfl ?_
    refine HB.ev1 (i := 6) (by kernel_rfl) rfl ?_
    refine H.callR rfl rfl rfl (rnumbered_fn f _ hout.1 hout.2.1 (b := tg) (fun G => Src.append (Src.slcS (.there _ (.here _ _ _)) (by rw [bytesV_len]; exact (Nat.mul_one _).symm))) (by omega)) ?_
    repeat ((apply H.nil))
    refine H.on0 rfl ?_
    refine HB.next [] (by kernel_rfl) (S' := []) rfl ?_
    refine HB.quiet [(7, false)] 1 (by kernel_rfl) ?_
    repeat ((apply HQ.fieldAddr; (iterate 3 exact rfl); exact inferInstance; exact rfl))
    refine HQ.more rfl ?_
    refine HB.ev1 (i := 8) (by kernel_rfl) rfl ?_
    generalize Sha.numbered m.origin m.number tg = t
    refine H.storeN (ls := m.vals q qc) (vs := b32 t) (ls' := ({ m with tag := t } : Msg).vals q qc) rfl rfl rfl (allOne_mem rfl) rfl (splice_tag m q qc t) (show 89 + 32 ≤ 121 by decide) (by repeat (first | exact .here _ _ _ | apply At.there)) ?_
    repeat ((apply H.nil))
    refine H.on0 rfl ?_
    refine HB.done (by kernel_rfl) ?_
    repeat ((first | apply H.seq | apply H.region | apply H.then_normal))
    refine H.loadN (ls := ({ m with tag := t } : Msg).vals q qc) rfl rfl rfl (Rd.ofRow (by repeat (first | exact .here _ _ _ | apply At.there))) rfl rfl ?_
    refine H.storeN (ls := (⟨0, 0, fun _ => 0, Bod.zero 0, noTag⟩ : Msg).vals none 0) (vs := ({ m with tag := t } : Msg).vals q qc) (ls' := ({ m with tag := t } : Msg).vals q qc) rfl rfl rfl (allOne_mem rfl) rfl rfl (Nat.le_refl 121) (by repeat (first | exact .here _ _ _ | apply At.there)) ?_
    repeat (first | (first | apply H.nil | apply H.then_normal) | (apply H.ret))
    refine H.drop (x := row mb _ _) (by repeat (first | exact .here _ _ | apply Pull.there)) ?_
    refine H.drop (x := slc _ _ _ _ _ _) (by repeat (first | exact .here _ _ | apply Pull.there)) ?_
    exact H.retD rfl rfl rfl (Rd.ofRow (by repeat (first | exact .here _ _ _ | apply At.there))) rfl (fun _ s => s.drop (.here _ _)) ⟨rfl, rfl, rfl⟩
  · rw [if_neg hm]
    rw [Bool.eq_false_iff.2 hm] at hmay
    refine Fn.enter Try.func33 rfl Try.ntmps33 rfl (L := [(0, _)]) ⟨rfl, trivial⟩ fun base => ?_
    repeat ((first | apply H.seq | apply H.region))
    refine H.box (ls := m.vals q qc) rfl rfl rfl rfl fun mb => ?_
    refine H.alloc (ls := (⟨0, 0, fun _ => 0, Bod.zero 0, noTag⟩ : Msg).vals none 0) rfl rfl rfl fun ob => ?_
    repeat ((first | apply H.seq | apply H.region | apply H.nil | apply H.then_normal))
    refine H.loadN (ls := m.vals q qc) rfl rfl rfl (Rd.ofRow (by repeat (first | exact .here _ _ _ | apply At.there))) rfl rfl ?_
    refine H.callR rfl rfl rfl (hmay _) ?_
    repeat (first | (first | apply H.seq | apply H.region | apply H.nil | apply H.then_normal) | (apply H.cond_false; exact rfl) | (apply H.skip))
    refine H.loadN (ls := m.vals q qc) rfl rfl rfl (Rd.ofRow (by repeat (first | exact .here _ _ _ | apply At.there))) rfl rfl ?_
    refine H.storeN (ls := (⟨0, 0, fun _ => 0, Bod.zero 0, noTag⟩ : Msg).vals none 0) (vs := m.vals q qc) (ls' := m.vals q qc) rfl rfl rfl (allOne_mem rfl) rfl rfl (Nat.le_refl 121) (by repeat (first | exact .here _ _ _ | apply At.there)) ?_
    repeat (first | (first | apply H.nil | apply H.then_normal) | (apply H.ret))
    refine H.drop (x := row mb _ _) (by repeat (first | exact .here _ _ | apply Pull.there)) ?_
    exact H.retD rfl rfl rfl (Rd.ofRow (by repeat (first | exact .here _ _ _ | apply At.there))) rfl (fun _ s => s.drop (.here _ _)) ⟨rfl, rfl, rfl⟩
end
end Go.Proofs.Ytcaofnfemogleaa

/- Layer 8, plain: what the program asks of a body, and what the document asks, are one. No program in sight. -/
namespace Go.Proofs.Ytcaofnfemogleaa
set_option linter.unusedSectionVars false
set_option linter.unusedSimpArgs false
set_option linter.unusedVariables false
open Go
theorem byteAt_nat (n : Nat) (j : Nat) : (byteAt (n : Int) j).toNat = n / 256 ^ j % 256 := by
  unfold byteAt
  have e : (n : Int).fdiv (2 ^ (8 * j)) % 256 = ((n / 256 ^ j % 256 : Nat) : Int) := by
    rw [show ((2 : Int) ^ (8 * j)) = ((2 ^ (8 * j) : Nat) : Int) by simp, Int.fdiv_eq_ediv_of_nonneg _ (Int.natCast_nonneg _), Nat.pow_mul]
    rfl
  rw [e, Int.toNat_natCast, UInt8.toNat_ofNat']
  omega
theorem numB_beTop (k n : Nat) : ∀ i, i ≤ k → numB (beTop k (n : Int) i) = n / 256 ^ (k - i) % 256 ^ i
  | 0, _ => by simp [beTop, numB, Nat.mod_one]
  | i + 1, h => by
    unfold beTop
    rw [numB_snoc, numB_beTop k n i (by omega), byteAt_nat]
    have e1 : k - i = (k - (i + 1)) + 1 := by omega
    have e2 : k - 1 - i = k - (i + 1) := by omega
    rw [e1, e2]
    generalize k - (i + 1) = m
    rw [Nat.pow_succ, Nat.pow_succ, ← Nat.div_div_eq_div_mul]
    generalize n / 256 ^ m = a
    rw [Nat.mul_comm (256 ^ i) 256, Nat.mod_mul]
    omega
theorem numB_be {k n : Nat} (h : n < 256 ^ k) : numB (be k (n : Int)) = n := by
  unfold be
  rw [numB_beTop k n k (Nat.le_refl _), Nat.sub_self, Nat.pow_zero, Nat.div_one, Nat.mod_eq_of_lt h]
theorem numB_be8 {z : Int} (h : 0 ≤ z ∧ z ≤ 18446744073709551615) : ((numB (be 8 z) : Nat) : Int) = z := by
  obtain ⟨n, rfl⟩ := Int.eq_ofNat_of_zero_le h.1
  rw [numB_be (by have : (256 : Nat) ^ 8 = 18446744073709551616 := by decide
                  omega)]
section
variable {a r : List UInt8} {n : Nat}
theorem Cs.ok_app (h : a.length = n) : (⟨a ++ r, false⟩ : Cs).ok n = true := by
  rw [Cs.ok_iff]; exact ⟨rfl, by show n ≤ (a ++ r).length; rw [List.length_append]; omega⟩
theorem Cs.num_app (h : a.length = n) : (⟨a ++ r, false⟩ : Cs).num n = numB a := by
  unfold Cs.num; rw [if_pos (Cs.ok_app h)]; show numB ((a ++ r).take n) = _; rw [← h, List.take_left]
theorem Cs.skip_app (h : a.length = n) : (⟨a ++ r, false⟩ : Cs).skip n = ⟨r, false⟩ := by
  unfold Cs.skip; rw [if_pos (Cs.ok_app h)]; show (⟨(a ++ r).drop n, false⟩ : Cs) = _; rw [← h, List.drop_left]
theorem Cs.raw_app (h : a.length = n) : (⟨a ++ r, false⟩ : Cs).raw n = a := by
  unfold Cs.raw; rw [if_pos (Cs.ok_app h)]; show (a ++ r).take n = _; rw [← h, List.take_left]
theorem Cs.num8_be {z : Int} (h : 0 ≤ z ∧ z ≤ 18446744073709551615) : (((⟨be 8 z ++ r, false⟩ : Cs).num 8 : Nat) : Int) = z := by
  rw [Cs.num_app (be_len _ _), numB_be8 h]
theorem Cs.num1_b {b : UInt8} : (⟨b :: r, false⟩ : Cs).num 1 = b.toNat := by
  have := Cs.num_app (a := [b]) (r := r) (n := 1) rfl
  rw [List.singleton_append] at this
  rw [this]; simp [numB]
theorem Cs.skip1_b {b : UInt8} : (⟨b :: r, false⟩ : Cs).skip 1 = ⟨r, false⟩ := Cs.skip_app (a := [b]) rfl
theorem Cs.text_app {s : ByteArray} {most : Nat} (h : s.size ≤ most) (hm : most < 65536) :
    (⟨textB s ++ r, false⟩ : Cs).text most = s.data.toList ∧ (⟨textB s ++ r, false⟩ : Cs).textS most = ⟨r, false⟩ := by
  unfold textB
  rw [List.append_assoc]
  have h2 : (⟨be 2 (s.size : Nat) ++ (s.data.toList ++ r), false⟩ : Cs).num 2 = s.size := by
    rw [Cs.num_app (be_len _ _), numB_be (by have : (256 : Nat) ^ 2 = 65536 := by decide
                                             omega)]
  have hok : (⟨be 2 (s.size : Nat) ++ (s.data.toList ++ r), false⟩ : Cs).ok 2 = true := Cs.ok_app (be_len _ _)
  have hdl := data_len s
  have ht : (⟨be 2 (s.size : Nat) ++ (s.data.toList ++ r), false⟩ : Cs).tok most = true := by
    unfold Cs.tok
    rw [hok, h2]
    simp only [Bool.true_and, Bool.and_eq_true]
    refine ⟨Nat.ble_eq_true_of_le h, Nat.ble_eq_true_of_le ?_⟩
    show 2 + s.size ≤ (be 2 (s.size : Nat) ++ (s.data.toList ++ r)).length
    rw [List.length_append, List.length_append, be_len, hdl]; omega
  constructor
  · unfold Cs.text
    rw [if_pos ht, h2]
    show ((be 2 (s.size : Nat) ++ (s.data.toList ++ r)).drop 2).take s.size = _
    rw [List.drop_left' (be_len _ _), List.take_left' hdl]
  · unfold Cs.textS
    rw [if_pos ht, h2]
    show (⟨(be 2 (s.size : Nat) ++ (s.data.toList ++ r)).drop (2 + s.size), false⟩ : Cs) = _
    rw [← List.drop_drop, List.drop_left' (be_len _ _), List.drop_left' hdl]
theorem Cs.hash_app {t : Nat → UInt8} : b32 ((⟨b32L t ++ r, false⟩ : Cs).hash) = b32 t := by
  have e := Cs.raw_app (a := b32L t) (r := r) (n := 32) rfl
  unfold Cs.hash
  simp only [e]
  rfl
end
theorem baOf_data (s : ByteArray) : baOf s.data.toList = s := by
  unfold baOf
  rw [Array.toArray_toList]
/-- The numbers lie in their types. -/
def Req.Ok (r : Req) : Prop := (0 ≤ r.time ∧ r.time ≤ 18446744073709551615) ∧ (0 ≤ r.amount ∧ r.amount ≤ 18446744073709551615)
def Bod.Ok (x : Bod) : Prop := (0 ≤ x.view ∧ x.view ≤ 18446744073709551615) ∧ (0 ≤ x.k ∧ x.k ≤ 18446744073709551615) ∧ x.req.Ok
theorem req_back {q : Req} (h : q.Ok) (ha : q.asked) (r : List UInt8) :
    ((⟨q.bytes ++ b32L q.tag ++ r, false⟩ : Cs).req 32 128).vals = q.vals ∧ (⟨q.bytes ++ b32L q.tag ++ r, false⟩ : Cs).reqS 32 128 = ⟨r, false⟩ := by
  obtain ⟨ht, hm⟩ := h
  obtain ⟨c1, c2, _, _, ⟨k1, k2⟩, k3, k4⟩ := ha
  have e : q.bytes ++ b32L q.tag ++ r = b8 q.client :: q.kind :: (be 8 q.time ++ (be 8 q.amount ++ (textB q.key ++ (textB q.val ++ (textB q.old ++ (textB q.to ++ (b32L q.tag ++ r))))))) := by
    unfold Req.bytes Req.head
    simp only [List.append_assoc, List.cons_append, List.nil_append]
    rfl
  rw [e]
  unfold Cs.req Cs.reqS
  dsimp only
  have t1 := Cs.text_app (s := q.key) (most := 32) (r := textB q.val ++ (textB q.old ++ (textB q.to ++ (b32L q.tag ++ r)))) k1 (by decide)
  have t2 := Cs.text_app (s := q.val) (most := 128) (r := textB q.old ++ (textB q.to ++ (b32L q.tag ++ r))) k3 (by decide)
  have t3 := Cs.text_app (s := q.old) (most := 128) (r := textB q.to ++ (b32L q.tag ++ r)) k4 (by decide)
  have t4 := Cs.text_app (s := q.to) (most := 32) (r := b32L q.tag ++ r) k2 (by decide)
  rw [Cs.num1_b, Cs.skip1_b, Cs.skip1_b, Cs.skip_app (be_len _ _), Cs.skip_app (be_len _ _), t1.1, t1.2, t2.1, t2.2, t3.1, t3.2, t4.1, t4.2, Cs.num8_be ht, Cs.num8_be hm]
  constructor
  · unfold Cs.byte
    rw [Cs.num1_b]
    unfold Req.vals
    rw [Cs.hash_app, baOf_data, baOf_data, baOf_data, baOf_data, b8_small (by omega)]
    simp
  · exact Cs.skip_app (a := b32L q.tag) rfl
theorem pairs_back : ∀ (q : List (Int × Int)) (w : Int) (r : List UInt8) (acc : List (Int × Int)), 0 ≤ w → quo w q = true → Cs.pairs q.length ⟨q.flatMap pairB ++ r, false⟩ acc = (acc ++ q, ⟨r, false⟩)
  | [], w, r, acc, _, _ => by simp [Cs.pairs]
  | p :: q, w, r, acc, hw, h => by
    unfold quo at h
    split at h
    · cases h
    · rename_i hn
      have ih := pairs_back q p.1 r (acc ++ [p]) (by omega) h
      have e : (p :: q).flatMap pairB ++ r = b8 p.1 :: (be 8 p.2 ++ (q.flatMap pairB ++ r)) := by
        simp [pairB]
      rw [e]
      show (if false = true then _ else Cs.pairs q.length (((⟨_, false⟩ : Cs).skip 1).skip 8) (acc ++ [((((⟨_, false⟩ : Cs).num 1 : Nat) : Int), ((((⟨_, false⟩ : Cs).skip 1).num 8 : Nat) : Int))])) = _
      rw [if_neg (by decide), Cs.skip1_b, Cs.skip_app (be_len _ _), Cs.num1_b, Cs.num8_be (by omega), b8_small (by omega), ih]
      simp
/-- Bodies that nobody tells apart. -/
def Bod.E (a b : Bod) : Prop := a.kind = b.kind ∧ a.view = b.view ∧ a.k = b.k ∧ a.req.vals = b.req.vals ∧ a.q = b.q ∧ b32 a.dig = b32 b.dig
theorem Bod.E.eqB {x a b : Bod} (h : Bod.E a b) : Bod.eqB x a = Bod.eqB x b := by
  obtain ⟨h1, h2, h3, h4, h5, h6⟩ := h
  unfold Bod.eqB
  rw [h1, h2, h3, h4, h5, h6]
theorem eqv_comm (a b : Value) : eqv a b = eqv b a := by
  cases a with
  | bool x =>
    cases b with
    | bool y => cases x <;> cases y <;> rfl
    | _ => rfl
  | int k x =>
    cases b with
    | int l y =>
      show (x == y) = (y == x)
      rw [Bool.eq_iff_iff, beq_iff_eq, beq_iff_eq]; exact eq_comm
    | _ => rfl
  | string x =>
    cases b with
    | string y =>
      show (x == y) = (y == x)
      rw [beq_toListBytes, beq_toListBytes, Bool.eq_iff_iff, beq_iff_eq, beq_iff_eq]; exact eq_comm
    | _ => rfl
  | _ => cases b <;> rfl
theorem eqC_comm : ∀ (a b : List Value), eqC a b = eqC b a
  | [], [] => rfl
  | [], _ :: _ => rfl
  | _ :: _, [] => rfl
  | x :: xs, y :: ys => by simp only [eqC]; rw [eqv_comm, eqC_comm xs ys]
theorem Bod.eqB_comm (a b : Bod) : Bod.eqB a b = Bod.eqB b a := by
  unfold Bod.eqB
  rw [eqC_comm a.req.vals, eqC_comm (b32 a.dig), show decide (((a.kind.toNat : Nat) : Int) = b.kind.toNat) = decide (((b.kind.toNat : Nat) : Int) = a.kind.toNat) from decide_eq_decide.2 eq_comm,
    show decide (a.view = b.view) = decide (b.view = a.view) from decide_eq_decide.2 eq_comm, show decide (a.k = b.k) = decide (b.k = a.k) from decide_eq_decide.2 eq_comm, show decide (a.q = b.q) = decide (b.q = a.q) from decide_eq_decide.2 eq_comm]
theorem own_q {x : Bod} (h : x.kind.toNat ≠ 4) : x.own.q = [] := by
  unfold Bod.own
  generalize x.kind.toNat = k at h
  match k, h with
  | 0, _ => rfl
  | 1, _ => rfl
  | 2, _ => rfl
  | 3, _ => rfl
  | 4, h => exact absurd rfl h
  | 5, _ => rfl
  | 6, _ => rfl
  | k + 7, _ => rfl
theorem back_own {x : Bod} (hx : x.Ok) (hm : x.mayK x.kind.toNat = true) : Bod.E (x.back x.kind.toNat) x.own := by
  obtain ⟨hv, hk, hr⟩ := hx
  unfold Bod.back Bod.own
  generalize x.kind.toNat = k at hm
  match k, hm with
  | 0, hm => exact absurd hm (by simp [Bod.mayK])
  | k + 7, hm => exact absurd hm (by simp [Bod.mayK])
  | 1, hm =>
    have ha : x.req.asked := of_decide_eq_true hm
    have e : x.putK 1 = be 8 x.view ++ (x.req.bytes ++ b32L x.req.tag ++ []) := by simp [Bod.putK]
    rw [e]
    have h1 := req_back hr ha []
    refine ⟨rfl, ?_, rfl, ?_, rfl, rfl⟩
    · exact Cs.num8_be hv
    · show (((⟨_, false⟩ : Cs).skip 8).req 32 128).vals = _
      rw [Cs.skip_app (be_len _ _)]
      exact h1.1
  | 2, _ =>
    have e : x.putK 2 = be 8 x.view ++ (be 8 x.k ++ []) := by simp [Bod.putK]
    rw [e]
    refine ⟨rfl, Cs.num8_be hv, ?_, rfl, rfl, rfl⟩
    show ((((⟨_, false⟩ : Cs).skip 8).num 8 : Nat) : Int) = _
    rw [Cs.skip_app (be_len _ _)]
    exact Cs.num8_be hk
  | 3, _ =>
    have e : x.putK 3 = be 8 x.view ++ [] := by simp [Bod.putK]
    rw [e]
    exact ⟨rfl, Cs.num8_be hv, rfl, rfl, rfl, rfl⟩
  | 5, _ =>
    have e : x.putK 5 = be 8 x.view ++ [] := by simp [Bod.putK]
    rw [e]
    exact ⟨rfl, Cs.num8_be hv, rfl, rfl, rfl, rfl⟩
  | 6, _ =>
    have e : x.putK 6 = be 8 x.k ++ (b32L x.dig ++ []) := by simp [Bod.putK]
    rw [e]
    refine ⟨rfl, rfl, Cs.num8_be hk, rfl, rfl, ?_⟩
    show b32 (((⟨_, false⟩ : Cs).skip 8).hash) = _
    rw [Cs.skip_app (be_len _ _)]
    exact Cs.hash_app
  | 4, hm =>
    simp only [Bod.mayK, Bool.and_eq_true, decide_eq_true_eq] at hm
    have hlen := quo_len x.q 0 (by omega) hm.2.1
    have e : x.putK 4 = be 8 x.view ++ (b8 x.q.length :: (x.q.flatMap pairB ++ [])) := by simp [Bod.putK]
    rw [e]
    have hn : (b8 x.q.length).toNat = x.q.length := by have := b8_small (z := (x.q.length : Int)) (by omega); omega
    have hp := pairs_back x.q 0 [] [] (Int.le_refl 0) hm.2.1
    refine ⟨rfl, Cs.num8_be hv, rfl, rfl, ?_, rfl⟩
    show (Cs.pairs (((⟨_, false⟩ : Cs).skip 8).num 1) (((⟨_, false⟩ : Cs).skip 8).skip 1) []).1 = _
    rw [Cs.skip_app (be_len _ _), Cs.num1_b, Cs.skip1_b, hn, hp]
    rfl
theorem mayB_eq {x : Bod} (hx : x.Ok) : x.mayB = x.may := by
  unfold Bod.mayB Bod.may Bod.mayP
  cases hm : x.mayK x.kind.toNat with
  | false => simp
  | true =>
    have hk : 1 ≤ x.kind.toNat ∧ x.kind.toNat ≤ 6 := by
      generalize x.kind.toNat = k at hm
      match k, hm with
      | 0, hm => exact absurd hm (by simp [Bod.mayK])
      | k + 7, hm => exact absurd hm (by simp [Bod.mayK])
      | 1, _ => decide
      | 2, _ => decide
      | 3, _ => decide
      | 4, _ => decide
      | 5, _ => decide
      | 6, _ => decide
    rw [decide_eq_true hk, Bod.E.eqB (back_own hx hm), Bod.eqB_comm x x.own]
    simp only [Bool.true_and, Bool.and_true]
    have hlen : Bod.eqB x.own x = true → x.q.length ≤ 11 := fun h => by
      have hq := Bod.eqB_q h
      by_cases h4 : x.kind.toNat = 4
      · rw [h4] at hm
        simp only [Bod.mayK, Bool.and_eq_true, decide_eq_true_eq] at hm
        have := quo_len x.q 0 (by omega) hm.2.1
        omega
      · rw [own_q h4] at hq
        rw [← hq]; exact Nat.zero_le _
    cases he : Bod.eqB x.own x with
    | false => simp
    | true => simp [hlen he]
end Go.Proofs.Ytcaofnfemogleaa

/- The engine, part r: from a contract of a law to its row: 'it returns true, and each argument reads as it did'. No program in sight; no conditions. -/
namespace Go.Proofs.Ytcaofnfemogleaa
set_option linter.unusedSectionVars false
set_option linter.unusedSimpArgs false
set_option linter.unusedVariables false
open Go Go.ChangeShapes Go.WideShapes Go.RowKit Go.Deep

/-- The memory as it stands when the law is called. -/
def memOf (W : World) : Frag := fun k => W.heap[k]?
theorem sat_start (W : World) : Sat W W (memOf W) [] :=
  ⟨rfl, rfl, rfl, Nat.le_refl _, fun _ _ h => h, nil0, rfl, Dj.nil _, fun k o h => by cases h⟩
theorem Sat.below {W w : World} {A : List HP} (s : Sat W w (memOf W) A) : Below W.heap.size W w :=
  ⟨s.os, s.tape, s.output, s.size, fun k hk => by
    have e : W.heap[k]? = some W.heap[k] := Array.getElem?_eq_getElem hk
    rw [e]; exact s.imm k _ e⟩

section
variable {H' : Type} {enc : TypeId × Value → H'} {P : Program}
theorem trodAll_below {W W' : World} (hl : laidOutB P = true) (hb : Below W.heap.size W W') {sp : Nat → Bool} : ∀ {ts : List TypeId} {vs : List Value} {ds : List (DataW H')} {ps : List MemPlace},
    (∀ t ∈ ts, P.readableRec t = true ∧ t < P.types.size) → DataW.TrodAll enc P W 0 (fun _ => true) true ts vs ds ps → (∀ x ∈ ps, x.block < W.heap.size) → (∀ x ∈ ps, sp x.block = true) →
    DataW.TrodAll enc P W' 0 sp true ts vs ds ps
  | [], [], [], _, _, h, _, _ => h
  | t :: ts, v :: vs, d :: ds, ps, hr, h, hlt, hsp => by
    obtain ⟨p, q, h1, h2, rfl⟩ := h
    exact ⟨p, q, WideElems.Trod_stays hl (hr t (by simp)).1 (hr t (by simp)).2 h1 (fun x hx => hb.same (hlt x (by simp [hx]))) (fun x hx => hsp x (by simp [hx])),
      trodAll_below hl hb (fun u hu => hr u (by simp [hu])) h2 (fun x hx => hlt x (by simp [hx])) (fun x hx => hsp x (by simp [hx])), rfl⟩

theorem trodAll_len {W : World} {b : Nat} {sp : Nat → Bool} {hd : Bool} : ∀ {ts : List TypeId} {vs : List Value} {ds : List (DataW H')} {ps : List MemPlace}, DataW.TrodAll enc P W b sp hd ts vs ds ps → ds.length = ts.length
  | [], [], [], _, _ => rfl
  | _ :: _, _ :: _, _ :: _, _, h => by
    obtain ⟨p, q, h1, h2, rfl⟩ := h
    simp [trodAll_len h2]

theorem post_own {fn : Func} {s : ChangeSpec} {apart fresh handsOn again : Bool} {W W' : World} {args : Array Value} {v : Value} {ds : List (DataW H')} {p : List MemPlace}
    (hW : DataW.Whole enc P fn.params.toList s.vars apart W args.toList ds [] p) (hv : s.vars = [])
    (hA : DataW.TrodAll enc P W 0 (fun _ => true) true fn.params.toList args.toList ds p)
    (hl : laidOutB P = true) (hts : ∀ t ∈ fn.params.toList, P.readableRec t = true ∧ t < P.types.size)
    (hres : ∀ (b : Nat) (sp : Nat → Bool) (hd : Bool), DataW.TrodAll enc P W' b sp hd fn.resultTypes.toList (v.resultList fn.resultTypes.size) (s.fn H' (ds ++ [])).results [])
    (hargs : (s.fn H' (ds ++ [])).args = ds) (hvars : (s.fn H' (ds ++ [])).vars = [])
    (hb : Below W.heap.size W W')
    (hok : ∀ (j : Nat) (t : TypeId) (r : Value), fn.resultTypes[j]? = some t → (v.resultList fn.resultTypes.size)[j]? = some r → Value.okWide P W' .any 0 t r) :
    s.post enc P fn apart fresh handsOn again W args v W' := by
  have hlt := hW.lt
  have hold : ∀ x ∈ p, (fun b => decide (b < W.heap.size)) x.block = true := fun x hx => by simpa using hlt x hx
  have args' : ∀ sp : Nat → Bool, (∀ x ∈ p, sp x.block = true) → DataW.TrodAll enc P W' 0 sp true fn.params.toList args.toList (s.fn H' (ds ++ [])).args p := fun sp hsp => by
    rw [hargs]; exact trodAll_below hl hb hts hA hlt hsp
  have vars' : ∀ sp : Nat → Bool, DataW.TrodVars enc P W' sp s.vars (s.fn H' (ds ++ [])).vars [] := fun sp => by rw [hvars, hv]; exact rfl
  refine ⟨ds, [], p, [], p, [], hW, hres _ _ _, args' _ hold, vars' _, World.keptBut_mono (fun x hx => ⟨hx, ?_⟩) (hb.frame (· ∈ p)), fun _ => ?_⟩
  · exact .inr (by simpa using hx)
  · obtain ⟨_, _, _, _, _, hz, hn⟩ := hW
    refine ⟨hok, _, _, ([] ++ p) ++ [], ⟨[] ++ p, [], trodAll_append (args' _ (fun _ _ => rfl)) (hres _ _ _), vars' _, rfl, ?_, ?_⟩, ?_⟩
    · intro b off hp
      have hp' : MemPlace.cell b off ∈ p := by simpa using hp
      rw [hb.frozen (p := ⟨b, off, none⟩) (hlt _ hp')]
      exact hz b off hp'
    · intro ha
      have := hn ha
      simpa using this
    · intro x hx _
      simpa using hx
end

/-! ### Arguments: what their cells are -/

/-- These cells read as a value of the type t. -/
def Reads (P : Program) (W : World) (t : TypeId) (cs : List Value) : Prop :=
  ∃ (H' : Type) (enc : TypeId × Value → H') (base : Nat) (spare : Nat → Bool) (held : Bool) (fuel : Nat) (x : DataW H' × List MemPlace), DataW.trod enc P W base spare held fuel t cs = some x
def ArgOk (P : Program) (W : World) (t : TypeId) (v : Value) : Prop := (∃ b, Value.okWide P W .any b t v) ∧ Reads P W t v.cells.toList
def ArgsOk (P : Program) (W : World) : List TypeId → List Value → Prop
  | [], [] => True
  | t :: ts, v :: vs => ArgOk P W t v ∧ ArgsOk P W ts vs
  | _, _ => False
theorem argsOk_of {H' : Type} {enc : TypeId × Value → H'} {P : Program} {W : World} {b : Nat} {sp : Nat → Bool} {hd : Bool} : ∀ {ts : List TypeId} {vs : List Value} {ds : List (DataW H')} {ps : List MemPlace},
    DataW.TrodAll enc P W b sp hd ts vs ds ps → (∀ (j : Nat) t v, ts[j]? = some t → vs[j]? = some v → ∃ b, Value.okWide P W .any b t v) → ArgsOk P W ts vs
  | [], [], [], _, _, _ => trivial
  | t :: ts, v :: vs, d :: ds, _, h, hv => by
    obtain ⟨p, q, ⟨n, h1⟩, h2, rfl⟩ := h
    exact ⟨⟨hv 0 t v rfl rfl, H', enc, b, sp, hd, n, _, h1⟩, argsOk_of h2 fun j t v => hv (j + 1) t v⟩

/-- A number's bounds. -/
theorem wf_int {k : IntKind} {z : Int} (h : (Lit.int k z).wf = true) : k.min ≤ z ∧ z ≤ k.max := by
  simpa [Lit.wf] using h
theorem Reads.int {P : Program} {W : World} {t : TypeId} {cs : List Value} {k : IntKind} (ht : P.underlying t = some (.int k)) (h : Reads P W t cs) : ∃ z, cs = [.int k z] ∧ k.min ≤ z ∧ z ≤ k.max := by
  obtain ⟨H', enc, b, sp, hd, n, x, h⟩ := h
  obtain ⟨z, h1, _, h2⟩ := DataW.trod_int ht h
  exact ⟨z, h1, wf_int h2⟩
theorem ArgOk.int {P : Program} {W : World} {t : TypeId} {v : Value} {k : IntKind} (ht : P.underlying t = some (.int k)) (h : ArgOk P W t v) : ∃ z, v = .int k z ∧ k.min ≤ z ∧ z ≤ k.max := by
  obtain ⟨⟨b, h1⟩, h2⟩ := h
  obtain ⟨z, rfl⟩ := okWide_int ht h1
  obtain ⟨z', e, h3⟩ := h2.int ht
  simp [Value.cells] at e
  subst e
  exact ⟨z, rfl, h3⟩
theorem Reads.struct {P : Program} {W : World} {t : TypeId} {cs : List Value} {fs : Array Field} (ht : P.underlying t = some (.struct fs)) (h : Reads P W t cs) :
    cs.length = P.cellsOf t ∧ ∀ (i : Nat) (f : Field), fs[i]? = some f → Reads P W f.type ((cs.drop f.offset).take (P.cellsOf f.type)) := by
  obtain ⟨H', enc, b, sp, hd, n, x, h⟩ := h
  obtain ⟨xs, n, rfl, _, h1, h2, h3⟩ := DataW.trod_struct ht h
  refine ⟨h1, fun i f hf => ?_⟩
  have hi : i < xs.length := by rw [h2]; exact (Array.getElem?_eq_some_iff.1 hf).1
  exact ⟨H', enc, b, sp, hd, n, xs[i], (h3 i f hf).trans (List.getElem?_eq_getElem hi)⟩
theorem ArgOk.struct {P : Program} {W : World} {t : TypeId} {v : Value} {fs : Array Field} (ht : P.underlying t = some (.struct fs)) (h : ArgOk P W t v) : ∃ cs, v = .agg cs ∧ Reads P W t cs.toList := by
  obtain ⟨⟨b, h1⟩, h2⟩ := h
  obtain ⟨cs, rfl, _⟩ := okWide_struct ht h1
  exact ⟨cs, rfl, h2⟩

/-- The elements of a slice that stands in memory: element i's cells are g i. -/
def ElemsAt (f : Frag) (p : Option Addr) (sz n : Nat) (g : Nat → List Value) : Prop :=
  ∀ i, i < n → (g i).length = sz ∧ ∃ b off cs T fr, p = some ⟨b, off, none⟩ ∧ f b = some (.cells cs T fr) ∧ ∀ j, j < sz → cs[off + i * sz + j]? = (g i)[j]?
theorem add_add' (a : Addr) (i j : Nat) : (a.add i).add j = a.add (i + j) := by
  unfold Addr.add
  by_cases h : i = 0
  · subst h; simp
  · by_cases h2 : j = 0
    · subst h2; simp
    · have : ¬ i + j = 0 := by omega
      simp [h, h2, this, Nat.add_assoc]
theorem cell_spot {W : World} {a : Addr} {v : Value} (h : W.cell? a = some v) : ∃ cs T fr, a = ⟨a.block, a.off, none⟩ ∧ W.heap[a.block]? = some (.cells cs T fr) ∧ cs[a.off]? = some v := by
  unfold World.cell? at h
  split at h
  · rename_i c T fr e
    split at h
    · cases h
    · rename_i hs
      refine ⟨c, T, fr, ?_, e, h⟩
      obtain ⟨b, o, s⟩ := a
      cases s with
      | none => rfl
      | some x => simp at hs
  · cases h
theorem Reads.slice {P : Program} {W : World} {t e : TypeId} {cs : List Value} (ht : P.underlying t = some (.slice e)) (h0 : 0 < P.cellsOf e) (h : Reads P W t cs) :
    ∃ (p : Option Addr) (n c : Nat) (g : Nat → List Value), cs = [.slice p n c] ∧ n ≤ c ∧ c ≤ maxLen ∧ ElemsAt (memOf W) p (P.cellsOf e) n g ∧ ∀ i, i < n → Reads P W e (g i) := by
  obtain ⟨H', enc, b, sp, hd, n, x, h⟩ := h
  rcases open_slice ht h with ⟨rfl, _⟩ | ⟨a, len, cap, m, k, D, Pl, rfl, hb, hl, hm, hmm, _, hi⟩
  · exact ⟨none, 0, 0, fun _ => [], rfl, Nat.le_refl _, by simp [maxLen], fun i hi => by omega, fun i hi => by omega⟩
  · have hlm : len ≤ m := by subst hmm; split <;> omega
    have hi' : ∀ i, ∃ cs', i < len → (W.cells? b (a.add (i * P.cellsOf e)) (P.cellsOf e) = some cs' ∧ Reads P W e cs') := fun i => by
      by_cases hil : i < len
      · obtain ⟨cs', h1, h2⟩ := hi i (by omega)
        exact ⟨cs', fun _ => ⟨h1, H', enc, b, sp, hd, k, _, h2⟩⟩
      · exact ⟨[], fun h => absurd h hil⟩
    obtain ⟨g, hG⟩ : ∃ g : Nat → List Value, ∀ i, i < len → W.cells? b (a.add (i * P.cellsOf e)) (P.cellsOf e) = some (g i) ∧ Reads P W e (g i) := ⟨fun i => (hi' i).choose, fun i h => (hi' i).choose_spec h⟩
    refine ⟨some a, len, cap, g, rfl, hl, hm, fun i hil => ?_, fun i hil => (hG i hil).2⟩
    obtain ⟨_, hlen, hget⟩ := World.cells?_some (hG i hil).1
    refine ⟨hlen, ?_⟩
    -- the base address bears no spot
    have hspot : ∃ cs T fr, a = ⟨a.block, a.off, none⟩ ∧ W.heap[a.block]? = some (.cells cs T fr) := by
      obtain ⟨_, hl0, hg0⟩ := World.cells?_some (hG 0 (by omega)).1
      have h00 := hg0 0 h0
      have : (g 0)[0]? = some ((g 0)[0]'(by omega)) := List.getElem?_eq_getElem (by omega)
      rw [this] at h00
      have e1 : (a.add (0 * P.cellsOf e)).add 0 = a := by simp [Addr.add]
      rw [e1] at h00
      obtain ⟨cs, T, fr, h1, h2, _⟩ := cell_spot h00
      exact ⟨cs, T, fr, h1, h2⟩
    obtain ⟨cs, T, fr, hs, hh⟩ := hspot
    refine ⟨a.block, a.off, cs, T, fr, by rw [← hs], hh, fun j hj => ?_⟩
    have hg := hget j hj
    have hv : (g i)[j]? = some ((g i)[j]'(by omega)) := List.getElem?_eq_getElem (by omega)
    rw [hv] at hg
    have ha : (a.add (i * P.cellsOf e)).add j = ⟨a.block, a.off + (i * P.cellsOf e + j), none⟩ := by
      rw [add_add', hs, add_none]
    rw [ha] at hg
    simp only [World.cell?, hh, Option.isSome_none, Bool.false_eq_true, if_false] at hg
    rw [hv, ← hg, Nat.add_assoc]
theorem ArgOk.slice {P : Program} {W : World} {t e : TypeId} {v : Value} (ht : P.underlying t = some (.slice e)) (h0 : 0 < P.cellsOf e) (h : ArgOk P W t v) :
    ∃ (p : Option Addr) (n c : Nat) (g : Nat → List Value), v = .slice p n c ∧ n ≤ c ∧ c ≤ maxLen ∧ ElemsAt (memOf W) p (P.cellsOf e) n g ∧ ∀ i, i < n → Reads P W e (g i) := by
  obtain ⟨⟨b, h1⟩, h2⟩ := h
  obtain ⟨p, n, c, g, e1, r⟩ := h2.slice ht h0
  refine ⟨p, n, c, g, ?_, r⟩
  obtain ⟨p', n', c', rfl⟩ := okWide_slice ht h1
  simpa [Value.cells] using e1

theorem elems_list {α : Type} {vals : α → List Value} {Q : α → Prop} {g : Nat → List Value} : ∀ {n : Nat}, (∀ i, i < n → ∃ x, Q x ∧ g i = vals x) → ∃ xs : List α, xs.length = n ∧ (∀ x ∈ xs, Q x) ∧ ∀ i x, xs[i]? = some x → g i = vals x
  | 0, _ => ⟨[], rfl, by simp, by simp⟩
  | n + 1, h => by
    obtain ⟨xs, h1, h2, h3⟩ := elems_list (n := n) fun i hi => h i (by omega)
    obtain ⟨x, hq, hx⟩ := h n (by omega)
    refine ⟨xs ++ [x], by simp [h1], ?_, ?_⟩
    · intro y hy
      simp only [List.mem_append, List.mem_singleton] at hy
      rcases hy with hy | rfl
      · exact h2 y hy
      · exact hq
    · intro i y hy
      rw [List.getElem?_append] at hy
      split at hy
      · exact h3 i y hy
      · rename_i hi
        have : i - xs.length = 0 := by
          rcases Nat.eq_zero_or_pos (i - xs.length) with h | h
          · exact h
          · rw [List.getElem?_eq_none (by simp; omega)] at hy; cases hy
        rw [this] at hy
        have e : i = n := by omega
        simp at hy
        subst hy; subst e
        exact hx
/-- A list that stands in memory, sz cells an element. -/
def ListAt {α : Type} (f : Frag) (p : Option Addr) (sz : Nat) (vals : α → List Value) (xs : List α) : Prop :=
  ∀ i x, xs[i]? = some x → ∃ b off cs T fr, p = some ⟨b, off, none⟩ ∧ f b = some (.cells cs T fr) ∧ ∀ j, j < (vals x).length → cs[off + i * sz + j]? = (vals x)[j]?
theorem Reads.list {P : Program} {W : World} {t e : TypeId} {cs : List Value} {α : Type} {vals : α → List Value} {Q : α → Prop} {sz : Nat} (ht : P.underlying t = some (.slice e)) (hsz : P.cellsOf e = sz) (h0 : 0 < sz)
    (hr : ∀ cs, Reads P W e cs → ∃ x, Q x ∧ cs = vals x) (h : Reads P W t cs) :
    ∃ (p : Option Addr) (c : Nat) (xs : List α), cs = [.slice p xs.length c] ∧ xs.length ≤ c ∧ c ≤ maxLen ∧ (∀ x ∈ xs, Q x) ∧ ListAt (memOf W) p sz vals xs := by
  subst hsz
  obtain ⟨p, n, c, g, e1, h1, h2, h3, h4⟩ := h.slice ht h0
  obtain ⟨xs, rfl, hq, hg⟩ := elems_list fun i hi => hr _ (h4 i hi)
  refine ⟨p, c, xs, e1, h1, h2, hq, fun i x hx => ?_⟩
  have hi : i < xs.length := by
    rcases Nat.lt_or_ge i xs.length with h | h
    · exact h
    · rw [List.getElem?_eq_none h] at hx; cases hx
  obtain ⟨hl, b, off, cs, T, fr, a1, a2, a3⟩ := h3 i hi
  refine ⟨b, off, cs, T, fr, a1, a2, fun j hj => ?_⟩
  rw [← hg i x hx] at hj ⊢
  exact a3 j (by omega)
theorem ArgOk.list {P : Program} {W : World} {t e : TypeId} {v : Value} {α : Type} {vals : α → List Value} {Q : α → Prop} {sz : Nat} (ht : P.underlying t = some (.slice e)) (hsz : P.cellsOf e = sz) (h0 : 0 < sz)
    (hr : ∀ cs, Reads P W e cs → ∃ x, Q x ∧ cs = vals x) (h : ArgOk P W t v) :
    ∃ (p : Option Addr) (c : Nat) (xs : List α), v = .slice p xs.length c ∧ xs.length ≤ c ∧ c ≤ maxLen ∧ (∀ x ∈ xs, Q x) ∧ ListAt (memOf W) p sz vals xs := by
  obtain ⟨⟨b, h1⟩, h2⟩ := h
  obtain ⟨p, c, xs, e1, r⟩ := h2.list ht hsz h0 hr
  refine ⟨p, c, xs, ?_, r⟩
  obtain ⟨p', n', c', rfl⟩ := okWide_slice ht h1
  simpa [Value.cells] using e1

/-- A law that returns true and leaves its arguments. -/
theorem lawRow {H' : Type} {enc : TypeId × Value → H'} {a : Assume} {C : Checked} {os : Os} {fid : FuncId} {fn : Func} {s : ChangeSpec} {conds : List PathCond} {apart fresh handsOn again : Bool} {tb : TypeId}
    (own : ownKnob C.prog.godebug = none) (started : os.Started) (noInit : C.prog.inits.idxOf? fid = none) (hfn : C.prog.funcs[fid]? = some fn)
    (witness : ∃ (w : World) (tape : Tape) (i : Input), w.os = os ∧ (w.forCall tape i).Shaped C.prog ∧ i.vars = [] ∧ Input.okWide C.prog (w.forCall tape i) .any w.heap.size fid i ∧
      s.pre6 enc C.prog fn conds apart (w.forCall tape i).memory i.args ∧ a.holds C.prog (lone (Frame.enter C.prog fid i.args .normal) [] (w.forCall tape i)))
    (htb : C.prog.underlying tb = some .bool) (hres : fn.resultTypes = #[tb]) (hv : s.vars = []) (hl : laidOutB C.prog = true)
    (hts : fn.params.toList.all (fun t => C.prog.readableRec t && Nat.blt t C.prog.types.size) = true)
    (hs : ∀ ds : List (DataW H'), ds.length = fn.params.toList.length → s.fn H' ds = { results := [.lit (.bool true)], args := ds })
    (law : ∀ (W : World) (args : List Value), ArgsOk C.prog W fn.params.toList args → Fn C.prog fid args (memOf W) [] (Ret (.bool true) (memOf W) [])) :
    ReturnsInHanded a C os fid .any (s.pre6 enc C.prog fn conds apart) (s.post enc C.prog fn apart fresh handsOn again) := by
  refine returnsInHanded_of_change own started noInit hfn witness ?_
  intro W base args ds gs before hval hW _ _
  have hW' := hW
  obtain ⟨p, q, hA, hV, rfl, _, _⟩ := hW
  rw [hv] at hV
  obtain ⟨rfl, rfl⟩ := trodVars_none hV
  rw [List.append_nil] at hW'
  have hts' : ∀ t ∈ fn.params.toList, C.prog.readableRec t = true ∧ t < C.prog.types.size := fun t ht => by
    have := List.all_eq_true.1 hts t ht
    simp only [Bool.and_eq_true] at this
    exact ⟨this.1, by have := this.2; simpa [Nat.blt_eq] using this⟩
  have hlen := trodAll_len hA
  have e := hs ds hlen
  have hc := law W args.toList (argsOk_of hA fun j t v h1 h2 => ⟨base, hval j t v (by simpa using h1) (by simpa using h2)⟩) W W (sat_start W)
  refine hc.mono ?_
  rintro x w' ⟨v, f', A', rfl, ⟨rfl, rfl, rfl⟩, hsat⟩
  refine ⟨_, rfl, post_own hW' hv hA hl hts' ?_ (by rw [List.append_nil, e]) (by rw [List.append_nil, e]) hsat.below ?_⟩
  · intro b sp hd
    rw [List.append_nil, e, hres]
    exact trodAll_mk1 (shut_bool htb true)
  · exact ok_one hres rfl (okWide_bool_mk htb true)

end Go.Proofs.Ytcaofnfemogleaa

/- The engine, part n: lists of structs in slices, owned or not; what several things are owned together. No program in sight; no conditions. -/
namespace Go.Proofs.Ytcaofnfemogleaa
set_option linter.unusedSectionVars false
set_option linter.unusedSimpArgs false
set_option linter.unusedVariables false
open Go
/-! ### Lists of structs -/
section
variable {α : Type} {vals : α → List Value} {sz : Nat}
theorem flat_len (hv : ∀ x, (vals x).length = sz) : ∀ xs : List α, (xs.flatMap vals).length = xs.length * sz
  | [] => by simp
  | x :: xs => by rw [List.flatMap_cons, List.length_append, hv, flat_len hv xs, List.length_cons, Nat.add_mul]; omega
theorem flat_split (xs : List α) {i : Nat} {x : α} (h : xs[i]? = some x) : xs.flatMap vals = (xs.take i).flatMap vals ++ vals x ++ (xs.drop (i + 1)).flatMap vals := by
  have hi : i < xs.length := by
    rcases Nat.lt_or_ge i xs.length with h' | h'
    · exact h'
    · rw [List.getElem?_eq_none h'] at h; cases h
  have e : xs = xs.take i ++ x :: xs.drop (i + 1) := by
    have h2 : xs[i] = x := by rw [List.getElem?_eq_getElem hi] at h; exact Option.some.inj h
    rw [← h2, List.getElem_cons_drop, List.take_append_drop]
  conv => lhs; rw [e]
  simp
theorem flat_get (hv : ∀ x, (vals x).length = sz) {xs : List α} {i : Nat} {x : α} (h : xs[i]? = some x) {j : Nat} (hj : j < sz) : (xs.flatMap vals)[i * sz + j]? = (vals x)[j]? := by
  have hi : i < xs.length := by
    rcases Nat.lt_or_ge i xs.length with h' | h'
    · exact h'
    · rw [List.getElem?_eq_none h'] at h; cases h
  have hl : ((xs.take i).flatMap vals).length = i * sz := by rw [flat_len hv, List.length_take, Nat.min_eq_left (by omega)]
  rw [flat_split xs h, List.append_assoc, List.getElem?_append_right (by omega), hl, show i * sz + j - i * sz = j by omega, List.getElem?_append_left (by rw [hv]; exact hj)]
theorem SetV.app' {l l' : List Value} {i : Nat} {v : Value} (h : SetV l i v l') (post : List Value) : SetV (l ++ post) i v (l' ++ post) := by
  induction h with
  | here x v t => exact .here _ _ _
  | there x h ih => exact .there _ ih
theorem SetV.mid' {l l' : List Value} {i : Nat} {v : Value} (h : SetV l i v l') (pre post : List Value) : SetV (pre ++ l ++ post) (pre.length + i) v (pre ++ l' ++ post) := by
  rw [List.append_assoc, List.append_assoc]
  induction pre with
  | nil => rw [List.length_nil, Nat.zero_add]; exact h.app' post
  | cons p pre ih =>
    rw [List.length_cons, show pre.length + 1 + i = pre.length + i + 1 by omega]
    exact .there _ ih
theorem flat_set (hv : ∀ x, (vals x).length = sz) {xs : List α} {i k : Nat} {x y : α} {v : Value} (h : xs[i]? = some x) (hs : SetV (vals x) k v (vals y)) : SetV (xs.flatMap vals) (i * sz + k) v ((xs.set i y).flatMap vals) := by
  have hi : i < xs.length := by
    rcases Nat.lt_or_ge i xs.length with h' | h'
    · exact h'
    · rw [List.getElem?_eq_none h'] at h; cases h
  have hl : ((xs.take i).flatMap vals).length = i * sz := by rw [flat_len hv, List.length_take, Nat.min_eq_left (by omega)]
  have h2 : (xs.set i y)[i]? = some y := by rw [List.getElem?_set_self hi]
  rw [flat_split xs h, flat_split (xs.set i y) h2]
  have e1 : (xs.set i y).take i = xs.take i := by rw [List.take_set_of_le (Nat.le_refl _)]
  have e2 : (xs.set i y).drop (i + 1) = xs.drop (i + 1) := by rw [List.drop_set_of_lt (by omega)]
  rw [e1, e2, ← hl]
  exact hs.mid' _ _
theorem flat_take (hv : ∀ x, (vals x).length = sz) (xs : List α) (k : Nat) : (xs.flatMap vals).take (k * sz) = (xs.take k).flatMap vals := by
  rcases Nat.lt_or_ge k xs.length with h | h
  · have hl : ((xs.take k).flatMap vals).length = k * sz := by rw [flat_len hv, List.length_take, Nat.min_eq_left (by omega)]
    conv => lhs; rw [← List.take_append_drop k xs, List.flatMap_append]
    rw [← hl, List.take_left]
  · rw [List.take_of_length_le (by rw [flat_len hv]; exact Nat.mul_le_mul_right _ h), List.take_of_length_le h]
theorem flat_drop (hv : ∀ x, (vals x).length = sz) (xs : List α) {k : Nat} (h : k ≤ xs.length) : (xs.flatMap vals).drop (k * sz) = (xs.drop k).flatMap vals := by
  have hl : ((xs.take k).flatMap vals).length = k * sz := by rw [flat_len hv, List.length_take, Nat.min_eq_left (by omega)]
  conv => lhs; rw [← List.take_append_drop k xs, List.flatMap_append]
  rw [← hl, List.drop_left]

/-- Elements of an owned slice. -/
theorem Rd.slcElem {f : Frag} {A A' : List HP} {b n c : Nat} {T : TypeId} {xs : List α} (hv : ∀ x, (vals x).length = sz) (h0 : 0 < sz) (h : At A (slc (some ⟨b, 0, none⟩) n c T sz (xs.flatMap vals)) A' (slc (some ⟨b, 0, none⟩) n c T sz (xs.flatMap vals)))
    {i : Nat} {x : α} (hx : xs[i]? = some x) : Rd f A b (i * sz) (vals x) := by
  have hi : i < xs.length := by
    rcases Nat.lt_or_ge i xs.length with h' | h'
    · exact h'
    · rw [List.getElem?_eq_none h'] at hx; cases hx
  have hl : ((xs.take i).flatMap vals).length = i * sz := by rw [flat_len hv, List.length_take, Nat.min_eq_left (by omega)]
  intro base w s
  obtain ⟨h1, h2, h3⟩ := s.slc_at h
  rw [flat_len hv] at h1
  rcases h3 with ⟨rfl, rfl⟩ | ⟨b', sp, e, _, _, hw⟩
  · rw [Nat.zero_mul] at h1
    rcases Nat.mul_eq_zero.1 h1 with h | h <;> omega
  · cases e
    refine ⟨_, _, _, hw, fun j hj => ?_⟩
    rw [hv] at hj
    have := flat_get hv hx hj
    simp only [List.getElem?_toArray]
    rw [List.getElem?_append_left ?_, this]
    rcases Nat.lt_or_ge (i * sz + j) (xs.flatMap vals).length with h | h
    · exact h
    · rw [List.getElem?_eq_none h] at this
      rw [List.getElem?_eq_getElem (by rw [hv]; exact hj)] at this
      cases this
theorem Le.right {f g : Frag} (h : Dj f g) : Le g (Proofs.Ytcaofnfemogleaa.un f g) := fun k o hk => by
  rcases h k with e | e
  · simp [Proofs.Ytcaofnfemogleaa.un, e, hk]
  · rw [e] at hk; cases hk
theorem ListAt.mono {f g : Frag} (h : Le f g) {p : Option Addr} {xs : List α} (hl : ListAt f p sz vals xs) : ListAt g p sz vals xs := fun i x hx => by
  obtain ⟨b, off, cs, T, fr, h1, h2, h3⟩ := hl i x hx
  exact ⟨b, off, cs, T, fr, h1, h _ _ h2, h3⟩
theorem ListAt.nil (f : Frag) (p : Option Addr) : ListAt f p sz vals ([] : List α) := fun i x h => by simp at h
/-- What was owned, and is turned no more. -/
theorem slc_listAt {g : Frag} (hv : ∀ x, (vals x).length = sz) {p : Option Addr} {c : Nat} {T : TypeId} {xs : List α} (h : slc p xs.length c T sz (xs.flatMap vals) g) : ListAt g p sz vals xs := fun i x hx => by
  obtain ⟨_, _, h3⟩ := h
  have hi : i < xs.length := by
    rcases Nat.lt_or_ge i xs.length with h' | h'
    · exact h'
    · rw [List.getElem?_eq_none h'] at hx; cases hx
  rcases h3 with ⟨h0, _, _⟩ | ⟨b, sp, rfl, h4, h5, rfl⟩
  · omega
  · refine ⟨b, 0, (xs.flatMap vals ++ sp).toArray, T, (0, 0), rfl, by simp [sing], fun j hj => ?_⟩
    have hj' : j < sz := by rw [← hv x]; exact hj
    have := flat_get hv hx hj'
    rw [Nat.zero_add]
    simp only [List.getElem?_toArray]
    rw [List.getElem?_append_left ?_, this]
    rcases Nat.lt_or_ge (i * sz + j) (xs.flatMap vals).length with h | h
    · exact h
    · rw [List.getElem?_eq_none h] at this
      rw [List.getElem?_eq_getElem hj] at this
      cases this
/-- Such a list, to be appended or copied. -/
theorem ListAt.src {P : Program} {f : Frag} {A : List HP} (hv : ∀ x, (vals x).length = sz) (h0 : 0 < sz) {p : Option Addr} {c : Nat} {xs : List α} (h : ListAt f p sz vals xs) : Src P f A (.slice p xs.length c) sz xs.length (xs.flatMap vals) := by
  cases xs with
  | nil =>
    refine ⟨fun w => rfl, fun base w s => ?_, by simp⟩
    cases p with
    | none => exact run_firstCells_none w sz 0 0 c
    | some a => exact run_firstCells_some w sz 0 a 0 c [] (by simp) (by simp)
  | cons x0 r =>
    obtain ⟨b, off, cs, T, fr, rfl, hf, _⟩ := h 0 x0 rfl
    refine Src.slice (Rd.imm hf fun i hi => ?_) (flat_len hv _)
    rw [flat_len hv] at hi
    have hq : i / sz < (x0 :: r).length := (Nat.div_lt_iff_lt_mul h0).2 hi
    obtain ⟨b2, off2, cs2, T2, fr2, e2, hf2, h3⟩ := h (i / sz) _ (List.getElem?_eq_getElem hq)
    cases e2
    rw [hf] at hf2
    cases hf2
    have hm : i % sz < sz := Nat.mod_lt _ h0
    have h4 := h3 (i % sz) (by rw [hv]; exact hm)
    have h5 := flat_get hv (List.getElem?_eq_getElem hq) hm
    have h6 : i / sz * sz + i % sz = i := by rw [Nat.mul_comm]; exact Nat.div_add_mod i sz
    rw [h6] at h5
    rw [Nat.add_assoc, h6] at h4
    rw [h4, h5]
end
/-! ### Parts of an owned slice -/
theorem Src.slcTake {P : Program} {f : Frag} {A A' : List HP} {p : Option Addr} {n c c' sz k : Nat} {T : TypeId} {xs : List Value} (h : At A (slc p n c T sz xs) A' (slc p n c T sz xs)) (hk : k ≤ n) (hx : xs.length = n * sz) : Src P f A (.slice p k c') sz k (xs.take (k * sz)) := by
  have hl : (xs.take (k * sz)).length = k * sz := by rw [List.length_take, hx, Nat.min_eq_left (Nat.mul_le_mul_right _ hk)]
  refine ⟨fun w => rfl, fun base w s => ?_, hl⟩
  have hs := (Src.slcS (P := P) (f := f) h hx).cells base w s
  obtain ⟨_, _, h3⟩ := s.slc_at h
  rcases h3 with ⟨rfl, rfl⟩ | ⟨b, sp, rfl, _, hcs, hw⟩
  · have : k = 0 := by omega
    subst this
    rw [Nat.zero_mul, List.take_zero]
    cases p with
    | none => exact run_firstCells_none w sz 0 0 c'
    | some a => exact run_firstCells_some w sz 0 a 0 c' [] (by simp) (by simp)
  · refine run_firstCells_some w sz k ⟨b, 0, none⟩ k c' _ hl (fun j v hj => ?_)
    rw [add_none]
    have hjl : j < k * sz := by
      rcases Nat.lt_or_ge j (k * sz) with h | h
      · exact h
      · rw [List.getElem?_eq_none (by rw [hl]; exact h)] at hj; cases hj
    rw [List.getElem?_take, if_pos hjl] at hj
    have : j < xs.length := by rw [hx]; exact Nat.lt_of_lt_of_le hjl (Nat.mul_le_mul_right _ hk)
    simp [World.cell?, hw, List.getElem?_append_left this, hj]
theorem Src.slcDrop {P : Program} {f : Frag} {A A' : List HP} {p : Option Addr} {n c c' sz k : Nat} {T : TypeId} {xs : List Value} (h : At A (slc p n c T sz xs) A' (slc p n c T sz xs)) (hk : k ≤ n) (hx : xs.length = n * sz) : Src P f A (.slice (slP p k c sz) (n - k) c') sz (n - k) (xs.drop (k * sz)) := by
  have hl : (xs.drop (k * sz)).length = (n - k) * sz := by rw [List.length_drop, hx, Nat.sub_mul]
  refine ⟨fun w => rfl, fun base w s => ?_, hl⟩
  obtain ⟨_, _, h3⟩ := s.slc_at h
  have empty : n - k = 0 → (Builtin.firstCells sz (n - k) (.slice (slP p k c sz) (n - k) c')).run P w = .ok (xs.drop (k * sz)).toArray w := fun e => by
    have hn : xs.drop (k * sz) = [] := List.eq_nil_of_length_eq_zero (by rw [hl, e, Nat.zero_mul])
    rw [hn, e]
    cases slP p k c sz with
    | none => exact run_firstCells_none w sz 0 0 c'
    | some a => exact run_firstCells_some w sz 0 a 0 c' [] (by simp) (by simp)
  rcases h3 with ⟨rfl, rfl⟩ | ⟨b, sp, rfl, hnc, hcs, hw⟩
  · exact empty (by omega)
  · by_cases e : n - k = 0
    · exact empty e
    · have hck : ¬ c = k := by omega
      unfold slP
      rw [if_neg hck, Option.map_some, add_none, Nat.zero_add]
      refine run_firstCells_some w sz (n - k) ⟨b, k * sz, none⟩ (n - k) c' _ hl (fun j v hj => ?_)
      rw [add_none]
      rw [List.getElem?_drop] at hj
      have : k * sz + j < xs.length := by
        rcases Nat.lt_or_ge (k * sz + j) xs.length with h | h
        · exact h
        · rw [List.getElem?_eq_none h] at hj; cases hj
      simp [World.cell?, hw, List.getElem?_append_left this, hj]

/-! ### Results: a struct in a cell of its own, and a value -/
theorem results_cell_tmp {P : Program} {fn : Func} {t u : Tmp} {ty : TypeId} {tmps : Array Value} {w : World} {b off : Nat} {v x : Value} (h : fn.results = #[.cell t ty, .tmp u]) (hp : tmps.getD t undef = .pointer (some ⟨b, off, none⟩)) (hx : tmps.getD u undef = x)
    (hl : (loadVar ty ⟨b, off, none⟩).run P w = .ok v w) : (results fn tmps).run P w = .ok (.tuple #[v, x]) w := by
  have hp' : tmps[t]?.getD undef = .pointer (some ⟨b, off, none⟩) := by simpa using hp
  have hx' : tmps[u]?.getD undef = x := by simpa using hx
  simp only [results, h]
  simp [Sem.run_bind, asAddr, hp', hx', hl]
theorem H.retCT {P : Program} {base : World} {n : Nat} {L : Env} {f : Frag} {A : List HP} {fn : Func} {R : Value → Frag → List HP → Prop} {t u : Nat} {x : Value} {ty : TypeId} {dd : TypeDesc} {m b off : Nat} {ls : List Value} {A' : List HP} [hu : Und P ty dd] [hs : Siz P ty m] (hr : fn.results = #[.cell t ty, .tmp u]) (hv : look? L t = some (.pointer (some ⟨b, off, none⟩))) (hx : look? L u = some x) (ha : aggD dd = true)
    (hrd : Rd f A b off ls) (hm : ls.length = m) (hA : ∀ w, Sat base w f A → Sat base w f A') (h : R (.tuple #[.agg ls.toArray, x]) f A') : H P base n L f A (.out .ret (.fn (FnPost P fn base R))) := .mk fun a w hf s => by
  show bodyPost P fn (fun e w' => ∃ v f' A', e = .returned v ∧ R v f' A' ∧ Sat base w' f' A') .ret a w
  refine bodyPost_ret (v := .tuple #[.agg ls.toArray, x]) ?_ hf.defers ⟨_, f, A', rfl, h, hA w s⟩
  have h1 := hf.get t _ hv
  have h1' := hf.get u _ hx
  have h2 : a.tmps.getD t undef = .pointer (some ⟨b, off, none⟩) := by simp [Array.getD_eq_getD_getElem?, h1]
  have h2' : a.tmps.getD u undef = x := by simp [Array.getD_eq_getD_getElem?, h1']
  have h3 := run_loadAtN (P := P) hu ha hs (hrd base w s) hm
  unfold Instr.loadAt Instr.sureAddr at h3
  exact results_cell_tmp hr h2 h2' (by simpa using h3)
theorem H.endCT {P : Program} {base : World} {n : Nat} {L : Env} {f : Frag} {A : List HP} {fn : Func} {R : Value → Frag → List HP → Prop} {t u : Nat} {x : Value} {ty : TypeId} {dd : TypeDesc} {m b off : Nat} {ls : List Value} {A' : List HP} [hu : Und P ty dd] [hs : Siz P ty m] (hr : fn.results = #[.cell t ty, .tmp u]) (hv : look? L t = some (.pointer (some ⟨b, off, none⟩))) (hx : look? L u = some x) (ha : aggD dd = true)
    (hrd : Rd f A b off ls) (hm : ls.length = m) (hA : ∀ w, Sat base w f A → Sat base w f A') (h : R (.tuple #[.agg ls.toArray, x]) f A') : H P base n L f A (.out .ret (.fn (FnPost P fn base R))) := H.retCT hr hv hx ha hrd hm hA h

/-! ### 'clear' of a part of a row -/
theorem H.clear {P : Program} {base : World} {n : Nat} {L : Env} {f : Frag} {A : List HP} {q : Post} {l rest : List Oper} {ty : TypeId} {pos : String} {af : Array Edge} {gd : Option (Nat × Bool)}
    {t e T : TypeId} {x : Operand} {b off m c : Nat} {z : Value} {ls ls' : List Value} {A' : List HP} [hu : Und P t (.slice e)] [hz : Zer P e z] (hw : want? l L gd = true) (hx : ev? L x = some (.slice (some ⟨b, off, none⟩) (m + 1) c))
    (hv : ∀ v ∈ (Builtin.zeroCells z.cells (m + 1)).toList, one v = true) (hset : splice ls off (Builtin.zeroCells z.cells (m + 1)).toList = ls') (hle : off + (Builtin.zeroCells z.cells (m + 1)).toList.length ≤ ls.length) (h0 : (Builtin.zeroCells z.cells (m + 1)).toList ≠ [])
    (hA : At A (row b T ls) A' (row b T ls')) (k : H P base n L f A' (.ops l rest q)) : H P base n L f A (.ops l (⟨none, .call ⟨.builtin .clear, #[x], #[t]⟩, ty, pos, af, gd⟩ :: rest) q) := .mk fun a w hf s => by
  show wpList P l.toArray (q.den P) _ a w
  unfold wpList
  rw [if_pos (hf.want (o := ⟨none, _, ty, pos, af, gd⟩) hw)]
  refine .inl ?_
  subst hset
  have hb := s.got hA
  have h1 := run_storeCells (P := P) (off := off) (Builtin.zeroCells z.cells (m + 1)).toList ls 0 w hb hv hle
  rw [if_neg h0] at h1
  have h2 : (execOp a.eval ⟨none, .call ⟨.builtin .clear, #[x], #[t]⟩, ty, pos, af, gd⟩).run P w = .ok (.value (.tuple #[])) (World.putRow' w b T (splice ls (off + 0) (Builtin.zeroCells z.cells (m + 1)).toList)) := by
    simp only [execOp, resolve, invoke, builtin, Builtin.clear_, hf.eval hx, Sem.run_bind, Sem.run_pure, Result.andThen_ok, List.map_toArray, List.map_cons, List.map_nil]
    simp [hu.run, hz.run, h1]
  simp only [Oper.wp, h2, Oper.upon]
  exact k.out _ _ hf (s.putRow hA)

/-! ### What several things are owned together -/
def pack {ι : Type} (φ : ι → Prop) (B : ι → List HP) : HP := fun x => ∃ i, φ i ∧ stars (B i) x
theorem pack_fold {ι : Type} {φ : ι → Prop} {B : ι → List HP} {A : List HP} (i : ι) (h : φ i) : ∀ x, stars (B i ++ A) x → stars (pack φ B :: A) x :=
  fold_stars fun x hx => ⟨i, h, hx⟩
theorem H.unpack {ι : Type} {P : Program} {base : World} {n : Nat} {L : Env} {f : Frag} {A : List HP} {K : Kont} {φ : ι → Prop} {B : ι → List HP} (k : ∀ i, φ i → H P base n L f (B i ++ A) K) : H P base n L f (pack φ B :: A) K :=
  H.unfold (ι := { i // φ i }) (B := fun i => B i.1) (fun h ⟨i, hi, hx⟩ => ⟨⟨i, hi⟩, hx⟩) fun i => k i.1 i.2
theorem Fn.unpack {ι : Type} {P : Program} {fid : FuncId} {args : List Value} {f : Frag} {A : List HP} {R : Value → Frag → List HP → Prop} {φ : ι → Prop} {B : ι → List HP} (k : ∀ i, φ i → Fn P fid args f (B i ++ A) R) : Fn P fid args f (pack φ B :: A) R :=
  Fn.unfold (ι := { i // φ i }) (B := fun i => B i.1) (fun h ⟨i, hi, hx⟩ => ⟨⟨i, hi⟩, hx⟩) fun i => k i.1 i.2
end Go.Proofs.Ytcaofnfemogleaa

/- Layer 24: packets, as Lean data; what pairs and packets may be; copies. -/
namespace Go.Proofs.Ytcaofnfemogleaa
set_option linter.unusedSectionVars false
set_option linter.unusedSimpArgs false
set_option linter.unusedVariables false
open Go
/-- A message's value: its pairs lie at qp. -/
structure MV where
  m : Msg
  qp : Option Addr
  qc : Nat
def MV.vals (x : MV) : List Value := x.m.vals x.qp x.qc
theorem MV.len (x : MV) : x.vals.length = 121 := rfl
def MV.Good (f : Frag) (x : MV) : Prop := QAt f x.qp x.m.body.q ∧ x.m.body.q.length ≤ 1000000 ∧ x.m.body.Ok
theorem MV.Good.mono {f g : Frag} (h : Le f g) {x : MV} (hx : x.Good f) : x.Good g := ⟨QAt.mono h hx.1, hx.2⟩
structure Pkt where
  src : Int
  dst : Int
  known : Nat → Int
  msgs : List MV
  mp : Option Addr
  mc : Nat
def Pkt.vals (p : Pkt) : List Value := [.int .i64 p.src, .int .i64 p.dst] ++ v11 p.known ++ [.slice p.mp p.msgs.length p.mc]
theorem Pkt.len (p : Pkt) : p.vals.length = 14 := rfl
def MsAt (f : Frag) (p : Option Addr) (l : List MV) : Prop := ListAt f p 121 MV.vals l ∧ (∀ x ∈ l, x.Good f) ∧ l.length ≤ 1000000
def Pkt.Good (f : Frag) (p : Pkt) : Prop := MsAt f p.mp p.msgs
theorem MsAt.mono {f g : Frag} (h : Le f g) {p : Option Addr} {l : List MV} (hx : MsAt f p l) : MsAt g p l := ⟨hx.1.mono h, fun x m => (hx.2.1 x m).mono h, hx.2.2⟩
theorem Pkt.Good.mono {f g : Frag} (h : Le f g) {p : Pkt} (hx : p.Good f) : p.Good g := MsAt.mono h hx
/-- What a packet says, wherever it lies. -/
structure Core where
  src : Int
  dst : Int
  known : Nat → Int
  msgs : List Msg
def Pkt.core (p : Pkt) : Core := ⟨p.src, p.dst, p.known, p.msgs.map MV.m⟩
def Pkt.zero : Pkt := ⟨0, 0, fun _ => 0, [], none, 0⟩
theorem Pkt.zero_good (f : Frag) : Pkt.zero.Good f := ⟨ListAt.nil f none, (fun x h => by cases h), Nat.zero_le _⟩
def pairP (i j : Int) : Prop := 1 ≤ i ∧ i ≤ 11 ∧ 1 ≤ j ∧ j ≤ 11 ∧ i ≠ j
instance (i j : Int) : Decidable (pairP i j) := by unfold pairP; infer_instance
/-- May a packet be? -/
def Pkt.may (p : Pkt) : Bool := (p.msgs.all fun x => x.m.may) && (decide (pairP p.src p.dst) && decide (p.msgs.length ≤ 8))
def Core.may (p : Core) : Bool := (p.msgs.all Msg.may) && (decide (pairP p.src p.dst) && decide (p.msgs.length ≤ 8))
theorem Pkt.may_core (p : Pkt) : p.may = p.core.may := by
  unfold Pkt.may Core.may Pkt.core
  rw [List.all_map, List.length_map]
  rfl
theorem min2z (i j : Int) : (if j < i then j else i) = min i j := by rw [Int.min_def]; split <;> split <;> omega
theorem max2z (i j : Int) : (if i < j then j else i) = max i j := by rw [Int.max_def]; split <;> split <;> omega
section
variable (f : Frag) (F : List HP)
theorem pair_fn (i j : Int) : Fn Try.prog 25 [.int .i64 i, .int .i64 j] f F (Ret (.bool (decide (pairP i j))) f F) := by
  by_cases h1 : 1 ≤ min i j
  · by_cases h2 : max i j ≤ 11
    · skip
      refine Fn.enter Try.func25 rfl Try.ntmps25 rfl (L := [(0, _), (1, _)]) ⟨rfl, rfl, trivial⟩ fun base => ?_
      repeat (first | ((first | apply H.move | apply H.assign); (iterate 3 exact rfl)) | (first | apply H.seq | apply H.region | apply H.nil | apply H.then_normal) | ((apply H.cmp); (iterate 5 exact rfl)) | (apply H.pickT; (iterate 4 exact rfl)) | (apply H.ret) | (apply H.gyes; (iterate 3 exact rfl); (assumption)) | (refine H.min2 (z := min i j) rfl rfl rfl (min2z i j) rfl ?_) | (refine H.max2 (z := max i j) rfl rfl rfl (max2z i j) rfl ?_))
      refine H.ret1 rfl rfl (fun _ h => h) ⟨?_, rfl, rfl⟩
      congr 1
      apply decide_eq_decide.2
      unfold pairP
      omega
    · skip
      refine Fn.enter Try.func25 rfl Try.ntmps25 rfl (L := [(0, _), (1, _)]) ⟨rfl, rfl, trivial⟩ fun base => ?_
      repeat (first | ((first | apply H.move | apply H.assign); (iterate 3 exact rfl)) | (first | apply H.seq | apply H.region | apply H.nil | apply H.then_normal) | ((apply H.cmp); (iterate 5 exact rfl)) | (apply H.pass; (iterate 2 exact rfl)) | (apply H.pickT; (iterate 4 exact rfl)) | ((apply H.pickF); (iterate 4 exact rfl)) | (apply H.ret) | (apply H.gyes; (iterate 3 exact rfl); (assumption)) | (apply H.gno; (iterate 3 exact rfl); (assumption)) | (refine H.min2 (z := min i j) rfl rfl rfl (min2z i j) rfl ?_) | (refine H.max2 (z := max i j) rfl rfl rfl (max2z i j) rfl ?_))
      refine H.ret1 rfl rfl (fun _ h => h) ⟨?_, rfl, rfl⟩
      congr 1
      rw [decide_eq_false (by unfold pairP; omega)]
  · skip
    refine Fn.enter Try.func25 rfl Try.ntmps25 rfl (L := [(0, _), (1, _)]) ⟨rfl, rfl, trivial⟩ fun base => ?_
    repeat (first | ((first | apply H.move | apply H.assign); (iterate 3 exact rfl)) | (first | apply H.seq | apply H.region | apply H.nil | apply H.then_normal) | ((apply H.cmp); (iterate 5 exact rfl)) | (apply H.pass; (iterate 2 exact rfl)) | ((apply H.pickF); (iterate 4 exact rfl)) | (apply H.ret) | (apply H.gno; (iterate 3 exact rfl); (assumption)) | (refine H.min2 (z := min i j) rfl rfl rfl (min2z i j) rfl ?_))
    refine H.ret1 rfl rfl (fun _ h => h) ⟨?_, rfl, rfl⟩
    congr 1
    rw [decide_eq_false (by unfold pairP; omega)]
theorem two_fn (i j : Int) : Fn Try.prog 31 [.int .i64 i, .int .i64 j] f F (Ret (.bool (decide (pairP i j))) f F) := by
  by_cases h1 : 1 ≤ i
  · skip
    by_cases h2 : i ≤ 11
    · skip
      by_cases h3 : 1 ≤ j
      · skip
        by_cases h4 : j ≤ 11
        · skip
          refine Fn.enter Try.func31 rfl Try.ntmps31 rfl (L := [(0, _), (1, _)]) ⟨rfl, rfl, trivial⟩ fun base => ?_
          repeat (first | ((first | apply H.move | apply H.assign); (iterate 3 exact rfl)) | (first | apply H.seq | apply H.region | apply H.nil | apply H.then_normal) | ((apply H.cmp); (iterate 5 exact rfl)) | (apply H.pickT; (iterate 4 exact rfl)) | (apply H.ret) | (apply H.gyes; (iterate 3 exact rfl); (assumption)))
          refine H.ret1 rfl rfl (fun _ h => h) ⟨?_, rfl, rfl⟩
          congr 1
          unfold pairP
          simp [*]
        · skip
          refine Fn.enter Try.func31 rfl Try.ntmps31 rfl (L := [(0, _), (1, _)]) ⟨rfl, rfl, trivial⟩ fun base => ?_
          repeat (first | ((first | apply H.move | apply H.assign); (iterate 3 exact rfl)) | (first | apply H.seq | apply H.region | apply H.nil | apply H.then_normal) | ((apply H.cmp); (iterate 5 exact rfl)) | (apply H.pass; (iterate 2 exact rfl)) | (apply H.pickT; (iterate 4 exact rfl)) | ((apply H.pickF); (iterate 4 exact rfl)) | (apply H.ret) | (apply H.gyes; (iterate 3 exact rfl); (assumption)) | (apply H.gno; (iterate 3 exact rfl); (assumption)))
          refine H.ret1 rfl rfl (fun _ h => h) ⟨?_, rfl, rfl⟩
          congr 1
          unfold pairP
          simp [*]
      · skip
        refine Fn.enter Try.func31 rfl Try.ntmps31 rfl (L := [(0, _), (1, _)]) ⟨rfl, rfl, trivial⟩ fun base => ?_
        repeat (first | ((first | apply H.move | apply H.assign); (iterate 3 exact rfl)) | (first | apply H.seq | apply H.region | apply H.nil | apply H.then_normal) | ((apply H.cmp); (iterate 5 exact rfl)) | (apply H.pass; (iterate 2 exact rfl)) | (apply H.pickT; (iterate 4 exact rfl)) | ((apply H.pickF); (iterate 4 exact rfl)) | (apply H.ret) | (apply H.gyes; (iterate 3 exact rfl); (assumption)) | (apply H.gno; (iterate 3 exact rfl); (assumption)))
        refine H.ret1 rfl rfl (fun _ h => h) ⟨?_, rfl, rfl⟩
        congr 1
        unfold pairP
        simp [*]
    · skip
      refine Fn.enter Try.func31 rfl Try.ntmps31 rfl (L := [(0, _), (1, _)]) ⟨rfl, rfl, trivial⟩ fun base => ?_
      repeat (first | ((first | apply H.move | apply H.assign); (iterate 3 exact rfl)) | (first | apply H.seq | apply H.region | apply H.nil | apply H.then_normal) | ((apply H.cmp); (iterate 5 exact rfl)) | (apply H.pass; (iterate 2 exact rfl)) | (apply H.pickT; (iterate 4 exact rfl)) | ((apply H.pickF); (iterate 4 exact rfl)) | (apply H.ret) | (apply H.gyes; (iterate 3 exact rfl); (assumption)) | (apply H.gno; (iterate 3 exact rfl); (assumption)))
      refine H.ret1 rfl rfl (fun _ h => h) ⟨?_, rfl, rfl⟩
      congr 1
      unfold pairP
      simp [*]
  · skip
    refine Fn.enter Try.func31 rfl Try.ntmps31 rfl (L := [(0, _), (1, _)]) ⟨rfl, rfl, trivial⟩ fun base => ?_
    repeat (first | ((first | apply H.move | apply H.assign); (iterate 3 exact rfl)) | (first | apply H.seq | apply H.region | apply H.nil | apply H.then_normal) | ((apply H.cmp); (iterate 5 exact rfl)) | (apply H.pass; (iterate 2 exact rfl)) | ((apply H.pickF); (iterate 4 exact rfl)) | (apply H.ret) | (apply H.gno; (iterate 3 exact rfl); (assumption)))
    refine H.ret1 rfl rfl (fun _ h => h) ⟨?_, rfl, rfl⟩
    congr 1
    unfold pairP
    simp [*]
theorem mmay_fn {x : MV} (hx : x.Good f) : Fn Try.prog 30 [.agg x.vals.toArray] f F (Ret (.bool x.m.may) f F) := by
  have := may_fn (m := x.m) (qc := x.qc) f F hx.1 (by have := hx.2.1; omega)
  rw [mayB_eq hx.2.2] at this
  exact this
theorem netMay_fn {p : Pkt} (hp : p.Good f) : Fn Try.prog 17 [.agg p.vals.toArray] f F (Ret (.bool p.may) f F) := by
  obtain ⟨hat, hgood, hlen⟩ := hp
  refine Fn.enter Try.func17 rfl Try.ntmps17 rfl (L := [(0, _)]) ⟨rfl, trivial⟩ fun base => ?_
  repeat ((first | apply H.seq | apply H.region))
  refine H.box (ls := p.vals) rfl rfl rfl rfl fun pb => ?_
  repeat (first | ((first | apply H.move | apply H.assign | apply H.len_slice); (iterate 3 exact rfl)) | (apply H.fieldAddr; (iterate 3 exact rfl); exact inferInstance; exact rfl) | (apply H.load1; (iterate 3 exact rfl); apply Rd1.ofRow; (repeat (exact .here _ _ _)); (iterate 2 exact rfl)) | (first | apply H.seq | apply H.region | apply H.nil | apply H.then_normal) | (apply H.block))
  refine H.loop (ι := Nat) (fun i => [(8, .int .i64 (i : Int)), (7, .int .i64 (p.msgs.length : Nat)), (6, .slice p.mp p.msgs.length p.mc), (1, .pointer (some ⟨pb, 0, none⟩))]) (fun _ => f) (fun _ => row pb 34 p.vals :: F)
    (fun i => i ≤ p.msgs.length ∧ (p.msgs.all fun x => x.m.may) = ((p.msgs.drop i).all fun x => x.m.may)) (fun i => p.msgs.length - i) 0 ⟨Nat.zero_le _, rfl⟩ ⟨rfl, rfl, rfl, rfl, trivial⟩ rfl rfl fun i hi => ?_
  obtain ⟨hi, hall⟩ : i ≤ p.msgs.length ∧ (p.msgs.all fun x => x.m.may) = ((p.msgs.drop i).all fun x => x.m.may) := hi
  by_cases hlt : i < p.msgs.length
  · obtain ⟨x, hx⟩ : ∃ x, p.msgs[i]? = some x := ⟨p.msgs[i], List.getElem?_eq_getElem hlt⟩
    have hxg : x.Good f := hgood x (List.mem_of_getElem? hx)
    have hdr : p.msgs.drop i = x :: p.msgs.drop (i + 1) := by
      rw [List.getElem?_eq_getElem hlt] at hx
      rw [← Option.some.inj hx]; exact List.drop_eq_getElem_cons hlt
    rw [hdr, List.all_cons] at hall
    obtain ⟨b, off, cs, T, fr, hmp, hfb, hcs⟩ := hat i x hx
    have rd : ∀ A, Rd f A b (off + i * 121) x.vals := fun A => Rd.imm hfb hcs
    clear hcs hfb
    obtain ⟨mp, hmp'⟩ : ∃ mp, mp = p.mp := ⟨_, rfl⟩
    repeat (first | (first | apply H.seq | apply H.region | apply H.nil | apply H.then_normal) | ((apply H.cmp); (iterate 5 exact rfl)) | (first | apply H.skip | apply H.block) | (apply H.cond_yes; exact rfl; (omega)))
    refine H.index_slice (b := b) (off := off) rfl (by rw [← hmp]; rfl) rfl rfl hlt rfl ?_
    refine H.loadN (ls := x.vals) rfl rfl rfl (rd _) rfl rfl ?_
    refine H.alloc (ls := (⟨0, 0, fun _ => 0, Bod.zero 0, noTag⟩ : Msg).vals none 0) rfl rfl rfl fun mb => ?_
    refine H.storeN (ls := (⟨0, 0, fun _ => 0, Bod.zero 0, noTag⟩ : Msg).vals none 0) (vs := x.vals) (ls' := x.vals) rfl rfl rfl (allOne_mem rfl) rfl rfl (Nat.le_refl 121) (by repeat (first | exact .here _ _ _ | apply At.there)) ?_
    repeat ((first | apply H.seq | apply H.region | apply H.nil | apply H.then_normal))
    refine H.loadN (ls := x.vals) rfl rfl rfl (Rd.ofRow (by repeat (first | exact .here _ _ _ | apply At.there))) rfl rfl ?_
    refine H.callR rfl rfl rfl (mmay_fn f _ hxg) ?_
    cases hxm : x.m.may with
    | true =>
      rw [hxm, Bool.true_and] at hall
      have hn : (!true) = false := rfl
      repeat (first | ((apply H.move); (iterate 3 exact rfl)) | (first | apply H.region | apply H.nil | apply H.then_normal) | ((apply H.ar; (iterate 4 exact rfl)); (with_reducible apply wr_i64_n1; omega); exact rfl) | ((apply H.not); (iterate 4 exact rfl)) | (apply H.cond_false; exact rfl) | (first | apply H.skip | apply H.in_normal))
      refine H.drop (.here _ _) ?_
      exact H.again (i + 1) ⟨by show i + 1 ≤ p.msgs.length; omega, hall⟩ (by show p.msgs.length - (i + 1) < p.msgs.length - i; omega) ⟨rfl, rfl, rfl, rfl, trivial⟩ rfl rfl
    | false =>
      rw [hxm, Bool.false_and] at hall
      have hn : (!false) = true := rfl
      repeat (first | ((apply H.assign); (iterate 3 exact rfl)) | (first | apply H.seq | apply H.region | apply H.nil | apply H.then_normal) | ((apply H.not); (iterate 4 exact rfl)) | (apply H.cond_true; exact rfl) | (first | apply H.ret | apply H.then_ret | apply H.in_ret | apply H.loop_ret))
      refine H.drop (.here _ _) ?_
      refine H.drop (.here _ _) ?_
      refine H.ret1 rfl rfl (fun _ h => h) ⟨?_, rfl, rfl⟩
      unfold Pkt.may
      rw [hall]; rfl
  · have hil : i = p.msgs.length := by omega
    subst hil
    rw [List.drop_length] at hall
    by_cases h1 : pairP p.src p.dst
    · skip
      repeat (first | ((first | apply H.move | apply H.assign | apply H.len_slice); (iterate 3 exact rfl)) | (apply H.fieldAddr; (iterate 3 exact rfl); exact inferInstance; exact rfl) | (apply H.load1; (iterate 3 exact rfl); apply Rd1.ofRow; (repeat (exact .here _ _ _)); (iterate 2 exact rfl)) | (first | apply H.seq | apply H.region | apply H.nil | apply H.then_normal) | ((apply H.cmp); (iterate 5 exact rfl)) | (apply H.pickT; (iterate 4 exact rfl)) | (first | apply H.ret | apply H.then_exit | apply H.exit | apply H.in_hit | apply H.loop_exit) | (apply H.gyes; (iterate 3 exact rfl); (assumption)) | (apply H.cond_no; exact rfl; (omega)) | (refine H.callR rfl rfl rfl (pair_fn f _ p.src p.dst) ?_))
      refine H.drop (.here _ _) ?_
      refine H.ret1 rfl rfl (fun _ h => h) ⟨?_, rfl, rfl⟩
      unfold Pkt.may
      rw [hall, decide_eq_true h1]
      simp
      omega
    · skip
      repeat (first | ((first | apply H.move | apply H.assign | apply H.len_slice); (iterate 3 exact rfl)) | (apply H.fieldAddr; (iterate 3 exact rfl); exact inferInstance; exact rfl) | (apply H.load1; (iterate 3 exact rfl); apply Rd1.ofRow; (repeat (exact .here _ _ _)); (iterate 2 exact rfl)) | (first | apply H.seq | apply H.region | apply H.nil | apply H.then_normal) | ((apply H.cmp); (iterate 5 exact rfl)) | (apply H.pass; (iterate 2 exact rfl)) | ((apply H.pickF); (iterate 4 exact rfl)) | (first | apply H.ret | apply H.then_exit | apply H.exit | apply H.in_hit | apply H.loop_exit) | (apply H.gno; (iterate 3 exact rfl); (assumption)) | (apply H.cond_no; exact rfl; (omega)) | (refine H.callR rfl rfl rfl (pair_fn f _ p.src p.dst) ?_))
      refine H.drop (.here _ _) ?_
      refine H.ret1 rfl rfl (fun _ h => h) ⟨?_, rfl, rfl⟩
      unfold Pkt.may
      rw [decide_eq_false h1]
      simp
end
end Go.Proofs.Ytcaofnfemogleaa

/- Layer 24: a packet in memory of its own; the document's May. -/
namespace Go.Proofs.Ytcaofnfemogleaa
set_option linter.unusedSectionVars false
set_option linter.unusedSimpArgs false
set_option linter.unusedVariables false
open Go
theorem ListAt.none_nil {α : Type} {f : Frag} {sz : Nat} {vals : α → List Value} {p : Option Addr} {xs : List α} (h : ListAt f p sz vals xs) (hp : p = none) : xs = [] := by
  cases xs with
  | nil => rfl
  | cons x r =>
    obtain ⟨b, off, cs, T, fr, h1, _⟩ := h 0 x rfl
    rw [hp] at h1; cases h1
theorem MVs_one (l : List MV) : ∀ v ∈ l.flatMap MV.vals, one v = true := by
  intro v hv
  simp only [List.mem_flatMap] at hv
  obtain ⟨x, _, hx⟩ := hv
  exact allOne_mem (show allOne x.vals = true from rfl) v hx
theorem Pkts_one (l : List Pkt) : ∀ v ∈ l.flatMap Pkt.vals, one v = true := by
  intro v hv
  simp only [List.mem_flatMap] at hv
  obtain ⟨x, _, hx⟩ := hv
  exact allOne_mem (show allOne x.vals = true from rfl) v hx
def msl (p : Option Addr) (c : Nat) (l : List MV) : HP := slc p l.length c 61 121 (l.flatMap MV.vals)
theorem set_same {α : Type} {l : List α} {i : Nat} {a : α} (h : l[i]? = some a) : l.set i a = l := by
  apply List.ext_getElem?
  intro j
  rw [List.getElem?_set]
  split
  · rename_i e; subst e
    split
    · rw [h]
    · rename_i hn
      rw [List.getElem?_eq_none (by omega)] at h; cases h
  · rfl
section
variable (f : Frag) (F : List HP)
theorem cloneM_fn {p : Option Addr} {c : Nat} {l : List MV} (h : ListAt f p 121 MV.vals l) (hl : l.length ≤ 1000000) :
    Fn Try.prog 42 [.slice p l.length c] f F (fun v f' A' => ∃ p c, v = .slice p l.length c ∧ f' = f ∧ A' = msl p c l :: F) := by
  have hs := h.src (P := Try.prog) (A := F) (c := c) MV.len (by decide)
  cases p with
  | none =>
    have := h.none_nil rfl
    subst this
    refine Fn.enter Try.func42 rfl Try.ntmps42 rfl (L := [(0, _)]) ⟨rfl, trivial⟩ fun base => ?_
    repeat (first | ((first | apply H.move | apply H.assign); (iterate 3 exact rfl)) | (first | apply H.seq | apply H.region | apply H.nil | apply H.then_normal) | ((apply H.sliceNil); (iterate 5 exact rfl)) | (apply H.cond_true; exact rfl) | (first | apply H.ret | apply H.then_ret))
    refine H.slc0 61 121 ?_
    exact H.ret1 rfl rfl (fun _ h => h) ⟨none, 0, rfl, rfl, rfl⟩
  | some a =>
    refine Fn.enter Try.func42 rfl Try.ntmps42 rfl (L := [(0, _)]) ⟨rfl, trivial⟩ fun base => ?_
    repeat (first | ((first | apply H.move | apply H.assign); (iterate 3 exact rfl)) | (first | apply H.seq | apply H.region | apply H.nil | apply H.then_normal) | ((apply H.sliceNil); (iterate 5 exact rfl)) | (apply H.cond_false; exact rfl) | (apply H.skip))
    refine H.buildSlice rfl rfl rfl rfl (by decide) (by decide) rfl rfl fun eb => ?_
    refine H.asSlc (k := 0) (sz := 121) rfl (by decide) ?_
    repeat (((apply H.move); (iterate 3 exact rfl)))
    refine H.append (xs := []) rfl rfl rfl rfl rfl (fun p' c' => .here _ _ _) hs.cons (MVs_one l) rfl (by omega) (by omega) fun p' c' => ?_
    rw [Nat.zero_add]
    repeat (first | ((apply H.assign); (iterate 3 exact rfl)) | (first | apply H.nil | apply H.then_normal) | (apply H.ret))
    exact H.ret1 rfl rfl (fun _ h => h) ⟨p', c', rfl, rfl, rfl⟩
theorem cloneQ_fn {p : Option Addr} {c : Nat} {l : List (Int × Int)} (h : QAt f p l) (hl : l.length ≤ 1000000) :
    Fn Try.prog 43 [.slice p l.length c] f F (fun v f' A' => ∃ p c, v = .slice p l.length c ∧ f' = f ∧ A' = qs p c l :: F) := by
  have h' : ListAt f p 2 pairV l := h
  have hs := ListAt.src (P := Try.prog) (A := F) (c := c) (sz := 2) (vals := pairV) (fun _ => rfl) (by decide) h'
  cases p with
  | none =>
    have := h'.none_nil rfl
    subst this
    refine Fn.enter Try.func43 rfl Try.ntmps43 rfl (L := [(0, _)]) ⟨rfl, trivial⟩ fun base => ?_
    repeat (first | ((first | apply H.move | apply H.assign); (iterate 3 exact rfl)) | (first | apply H.seq | apply H.region | apply H.nil | apply H.then_normal) | ((apply H.sliceNil); (iterate 5 exact rfl)) | (apply H.cond_true; exact rfl) | (first | apply H.ret | apply H.then_ret))
    refine H.slc0 87 2 ?_
    exact H.ret1 rfl rfl (fun _ h => h) ⟨none, 0, rfl, rfl, rfl⟩
  | some a =>
    refine Fn.enter Try.func43 rfl Try.ntmps43 rfl (L := [(0, _)]) ⟨rfl, trivial⟩ fun base => ?_
    repeat (first | ((first | apply H.move | apply H.assign); (iterate 3 exact rfl)) | (first | apply H.seq | apply H.region | apply H.nil | apply H.then_normal) | ((apply H.sliceNil); (iterate 5 exact rfl)) | (apply H.cond_false; exact rfl) | (apply H.skip))
    refine H.buildSlice rfl rfl rfl rfl (by decide) (by decide) rfl rfl fun eb => ?_
    refine H.asSlc (k := 0) (sz := 2) rfl (by decide) ?_
    repeat (((apply H.move); (iterate 3 exact rfl)))
    refine H.append (xs := []) rfl rfl rfl rfl rfl (fun p' c' => .here _ _ _) hs.cons (pairsV_one l) rfl (by omega) (by omega) fun p' c' => ?_
    rw [Nat.zero_add]
    repeat (first | ((apply H.assign); (iterate 3 exact rfl)) | (first | apply H.nil | apply H.then_normal) | (apply H.ret))
    exact H.ret1 rfl rfl (fun _ h => h) ⟨p', c', rfl, rfl, rfl⟩
theorem qs_qat0 {g : Frag} {p : Option Addr} {c : Nat} {q : List (Int × Int)} (h : qs p c q g) : QAt g p q := slc_listAt (vals := pairV) (fun _ => rfl) h
/-- A new fragment beside f. -/
def Grow (f f' : Frag) (g : Frag) : Prop := Dj f g ∧ f' = un f g
theorem Dj.un3 {f g h : Frag} (h1 : Dj f g) (h2 : Dj (un f g) h) : Dj f (un g h) := Dj.un_right.2 ⟨h1, (Dj.un_left.1 h2).1⟩
theorem copied_fn {p : Pkt} (hp : p.Good f) : Fn Try.prog 34 [.agg p.vals.toArray] f F
    (fun v f' A' => ∃ (g : Frag) (p' : Pkt), v = .agg p'.vals.toArray ∧ p'.core = p.core ∧ p'.Good g ∧ Dj f g ∧ f' = un f g ∧ A' = F) := by
  obtain ⟨hat, hgood, hlen⟩ := hp
  refine Fn.enter Try.func34 rfl Try.ntmps34 rfl (L := [(0, _)]) ⟨rfl, trivial⟩ fun base => ?_
  repeat ((first | apply H.seq | apply H.region))
  refine H.box (ls := p.vals) rfl rfl rfl rfl fun pb => ?_
  refine H.alloc (ls := Pkt.zero.vals) rfl rfl rfl fun ob => ?_
  repeat (first | (apply H.fieldAddr; (iterate 3 exact rfl); exact inferInstance; exact rfl) | (apply H.load1; (iterate 3 exact rfl); apply Rd1.ofRow; (repeat (first | exact .here _ _ _ | apply At.there)); (iterate 2 exact rfl)) | (first | apply H.seq | apply H.region | apply H.nil | apply H.then_normal))
  refine H.callE2 rfl rfl rfl (cloneM_fn f _ hat hlen) fun mp mc => ?_
  repeat (first | ((first | apply H.move | apply H.len_slice); (iterate 3 exact rfl)) | (apply H.fieldAddr; (iterate 3 exact rfl); exact inferInstance; exact rfl) | (apply H.load1; (iterate 3 exact rfl); apply Rd1.ofRow; (repeat (first | exact .here _ _ _ | apply At.there)); (iterate 2 exact rfl)) | (first | apply H.seq | apply H.region | apply H.nil | apply H.then_normal) | (apply H.store1; (iterate 4 exact rfl); (repeat (first | exact .here _ _ _ | apply At.there)); (repeat (first | exact .here _ _ _ | apply SetV.there))) | (apply H.block))
  refine H.loop (ι := Nat × List MV × Frag) (fun i => [(12, .int .i64 (i.1 : Int)), (11, .int .i64 (p.msgs.length : Nat)), (10, .slice mp p.msgs.length mc), (1, .pointer (some ⟨pb, 0, none⟩)), (2, .pointer (some ⟨ob, 0, none⟩))]) (fun i => un f i.2.2)
    (fun i => msl mp mc i.2.1 :: row ob 34 Pkt.zero.vals :: row pb 34 ({ p with mp := mp, mc := mc } : Pkt).vals :: F)
    (fun i => i.1 ≤ p.msgs.length ∧ Dj f i.2.2 ∧ i.2.1.map MV.m = p.msgs.map MV.m ∧ (∀ j x, j < i.1 → i.2.1[j]? = some x → x.Good i.2.2) ∧ (∀ j, i.1 ≤ j → i.2.1[j]? = p.msgs[j]?)) (fun i => p.msgs.length - i.1)
    (0, p.msgs, nil0) ⟨Nat.zero_le _, Dj.nil f, rfl, fun j x hj => absurd hj (Nat.not_lt_zero j), fun j _ => rfl⟩ ⟨rfl, rfl, rfl, rfl, rfl, trivial⟩ (un_nil f).symm rfl fun i hi => ?_
  obtain ⟨i, ms, G⟩ := i
  obtain ⟨hi, hdj, hms, hlo, hhi⟩ : i ≤ p.msgs.length ∧ Dj f G ∧ ms.map MV.m = p.msgs.map MV.m ∧ (∀ j x, j < i → ms[j]? = some x → x.Good G) ∧ (∀ j, i ≤ j → ms[j]? = p.msgs[j]?) := hi
  have hml : ms.length = p.msgs.length := by have := congrArg List.length hms; simpa using this
  show H _ _ _ [(12, .int .i64 (i : Int)), _, (10, .slice mp p.msgs.length mc), _, _] (un f G) (msl mp mc ms :: _ :: row pb _ _ :: F) _
  by_cases hlt : i < p.msgs.length
  · obtain ⟨x, hx⟩ : ∃ x, p.msgs[i]? = some x := ⟨p.msgs[i], List.getElem?_eq_getElem hlt⟩
    have hxm : ms[i]? = some x := by rw [hhi i (Nat.le_refl _)]; exact hx
    have hxg : x.Good f := hgood x (List.mem_of_getElem? hx)
    have hxq : QAt (un f G) x.qp x.m.body.q := hxg.1.mono (Le.un f G)
    refine H.slc_some (.here _ _ _) (by omega) fun mb hb => ?_
    subst hb
    repeat (first | ((apply H.move); (iterate 3 exact rfl)) | (first | apply H.seq | apply H.region | apply H.nil | apply H.then_normal) | ((apply H.cmp); (iterate 5 exact rfl)) | (first | apply H.skip | apply H.block) | (apply H.cond_yes; exact rfl; (omega)))
    refine H.index0 rfl rfl rfl rfl hlt rfl ?_
    refine H.loadN (ls := x.vals) rfl rfl rfl (Rd.slcElem MV.len (by decide) (.here _ _ _) hxm) rfl rfl ?_
    refine H.alloc (ls := (⟨0, 0, fun _ => 0, Bod.zero 0, noTag⟩ : Msg).vals none 0) rfl rfl rfl fun xb => ?_
    repeat (((apply H.assign); (iterate 3 exact rfl)))
    refine H.storeN (ls := (⟨0, 0, fun _ => 0, Bod.zero 0, noTag⟩ : Msg).vals none 0) (vs := x.vals) (ls' := x.vals) rfl rfl rfl (allOne_mem rfl) rfl rfl (Nat.le_refl 121) (by repeat (first | exact .here _ _ _ | apply At.there)) ?_
    repeat ((first | apply H.nil | apply H.then_normal))
    refine H.front (x := row pb _ _) (by repeat (first | exact .here _ _ | apply Pull.there)) ?_
    refine H.front (x := row xb _ _) (by repeat (first | exact .here _ _ | apply Pull.there)) ?_
    refine H.drawB (by kernel_rfl) (by decide +kernel) (by first | exact blind_fn | exact blind_seq blind_fn | exact blind_seq (blind_seq blind_fn) | (repeat (first | exact blind_fn | refine blind_seq ?_ | refine blind_block ?_ | refine blind_loop ?_))) (S := [_, _]) rfl ?_
    refine HB.quiet [(0, false), (1, false), (2, false), (3, false), (4, false), (5, false)] 5 (by kernel_rfl) ?_
    repeat (first | ((apply HQ.move); (iterate 3 exact rfl)) | (apply HQ.fieldAddr; (iterate 3 exact rfl); exact inferInstance; exact rfl) | (apply HQ.load1; (iterate 3 exact rfl); apply Rd1.ofRow; (repeat (first | exact .here _ _ _ | apply At.there)); (iterate 2 exact rfl)))
    refine HQ.more rfl ?_
    refine HB.ev1 (i := 6) (by kernel_rfl) rfl ?_
    refine H.callE2 rfl rfl rfl (cloneQ_fn _ _ hxq hxg.2.1) fun qp' qc' => ?_
    repeat ((apply H.nil))
    refine H.freeze (.here _ _) fun g2 hg2 hd2 => ?_
    refine H.on [] (Le.un _ _) rfl ?_
    refine HB.quiet [(7, false), (8, false), (9, false)] 1 (by kernel_rfl) ?_
    refine HQ.index0 rfl rfl rfl rfl hlt rfl ?_
    repeat ((apply HQ.fieldAddr; (iterate 3 exact rfl); exact inferInstance; exact rfl))
    refine HQ.more rfl ?_
    refine HB.ev1 (i := 10) (by kernel_rfl) rfl ?_
    refine H.store_slc (xs := ms.flatMap MV.vals) (xs' := (ms.set i ⟨x.m, qp', qc'⟩).flatMap MV.vals) rfl rfl rfl rfl (by repeat (first | exact .here _ _ _ | apply At.there)) (by rw [show i * 121 + 13 + 43 = i * 121 + 56 by omega]; exact flat_set MV.len hxm (by repeat (first | exact .here _ _ _ | apply SetV.there))) ?_
    repeat ((apply H.nil))
    refine H.on0 rfl ?_
    refine HB.done (by kernel_rfl) ?_
    repeat (first | ((apply H.move); (iterate 3 exact rfl)) | (first | apply H.region | apply H.nil | apply H.then_normal) | ((apply H.ar; (iterate 4 exact rfl)); (with_reducible apply wr_i64_n1; omega); exact rfl) | (apply H.in_normal))
    refine H.drop (x := row xb _ _) (by repeat (first | exact .here _ _ | apply Pull.there)) ?_
    refine H.front (x := row ob _ _) (by repeat (first | exact .here _ _ | apply Pull.there)) ?_
    refine H.front (x := slc _ _ _ _ _ _) (by repeat (first | exact .here _ _ | apply Pull.there)) ?_
    have hdg : Dj G g2 := (Dj.un_left.1 hd2).2
    refine H.again (i + 1, ms.set i ⟨x.m, qp', qc'⟩, un G g2) ⟨by show i + 1 ≤ p.msgs.length; omega, Dj.un3 hdj hd2, ?_, ?_, ?_⟩ (by show p.msgs.length - (i + 1) < p.msgs.length - i; omega) ⟨rfl, rfl, rfl, rfl, rfl, trivial⟩ (un_assoc _ _ _) ?_
    · show (ms.set i ⟨x.m, qp', qc'⟩).map MV.m = _
      rw [List.map_set, set_same (by rw [List.getElem?_map, hxm]; rfl), hms]
    · intro j y hj hy
      have hj : j < i + 1 := hj
      have hy : (ms.set i ⟨x.m, qp', qc'⟩)[j]? = some y := hy
      by_cases e : i = j
      · subst e
        rw [List.getElem?_set_self (by omega)] at hy
        cases hy
        exact ⟨(qs_qat0 hg2).mono (Le.right hdg), hxg.2⟩
      · rw [List.getElem?_set_ne e] at hy
        exact (hlo j y (by omega) hy).mono (Le.un _ _)
    · intro j hj
      have hj : i + 1 ≤ j := hj
      show (ms.set i ⟨x.m, qp', qc'⟩)[j]? = _
      rw [List.getElem?_set_ne (by omega)]
      exact hhi j (by omega)
    · show _ = msl _ mc (ms.set i ⟨x.m, qp', qc'⟩) :: _
      unfold msl
      rw [List.length_set, hml]
  · have hil : i = p.msgs.length := by omega
    subst hil
    repeat (first | (first | apply H.seq | apply H.region | apply H.nil | apply H.then_normal) | ((apply H.cmp); (iterate 5 exact rfl)) | (first | apply H.then_exit | apply H.exit | apply H.in_hit | apply H.loop_exit) | (apply H.cond_no; exact rfl; (omega)))
    refine H.freeze (.here _ _) fun g3 hg3 hd3 => ?_
    have hdg : Dj G g3 := (Dj.un_left.1 hd3).2
    refine H.loadN (ls := ({ p with mp := mp, mc := mc } : Pkt).vals) rfl rfl rfl (Rd.ofRow (by repeat (first | exact .here _ _ _ | apply At.there))) rfl rfl ?_
    refine H.storeN (ls := Pkt.zero.vals) (vs := ({ p with mp := mp, mc := mc } : Pkt).vals) (ls' := ({ p with mp := mp, mc := mc } : Pkt).vals) rfl rfl rfl (allOne_mem rfl) rfl rfl (Nat.le_refl 14) (by repeat (first | exact .here _ _ _ | apply At.there)) ?_
    repeat (first | (first | apply H.nil | apply H.then_normal) | (apply H.ret))
    refine H.drop (x := row pb _ _) (by repeat (first | exact .here _ _ | apply Pull.there)) ?_
    refine H.retD (ls := ({ p with mp := mp, mc := mc } : Pkt).vals) rfl rfl rfl (Rd.ofRow (by repeat (first | exact .here _ _ _ | apply At.there))) rfl (fun _ s => s.drop (.here _ _)) ⟨un G g3, { p with msgs := ms, mp := mp, mc := mc }, ?_, ?_, ?_, Dj.un3 hdj hd3, un_assoc _ _ _, rfl⟩
    · unfold Pkt.vals
      rw [hml]
    · unfold Pkt.core
      rw [hms]
    · refine ⟨(slc_listAt MV.len hg3).mono (Le.right hdg), fun x hx => ?_, by show ms.length ≤ _; omega⟩
      obtain ⟨j, hj⟩ := List.getElem?_of_mem hx
      refine (hlo j x ?_ hj).mono (Le.un _ _)
      rcases Nat.lt_or_ge j ms.length with h | h
      · omega
      · rw [List.getElem?_eq_none h] at hj; cases hj
end
end Go.Proofs.Ytcaofnfemogleaa

/- Layer 24: the net, as Lean data and in memory; slices of packets put together. -/
namespace Go.Proofs.Ytcaofnfemogleaa
set_option linter.unusedSectionVars false
set_option linter.unusedSimpArgs false
set_option linter.unusedVariables false
open Go
def lostV (c : Nat → Bool) (n : Nat) : List Value := (List.range n).map fun k => .bool (c k)
theorem lostV_len (c : Nat → Bool) (n : Nat) : (lostV c n).length = n := by simp [lostV]
theorem lostV_get (c : Nat → Bool) {n k : Nat} (h : k < n) : (lostV c n)[k]? = some (.bool (c k)) := by
  unfold lostV
  rw [List.getElem?_map, List.getElem?_range h]; rfl
def updB (c : Nat → Bool) (k : Nat) (b : Bool) : Nat → Bool := fun i => if i = k then b else c i
theorem lostV_set (c : Nat → Bool) {n k : Nat} (b : Bool) (h : k < n) : SetV (lostV c n) k (.bool b) (lostV (updB c k b) n) := by
  have e : lostV (updB c k b) n = (lostV c n).set k (.bool b) := by
    apply List.ext_getElem?
    intro i
    rw [List.getElem?_set]
    unfold lostV
    rw [List.getElem?_map, List.getElem?_map, List.length_map, List.length_range]
    by_cases e : k = i
    · subst e
      rw [if_pos rfl, if_pos h, List.getElem?_range h]
      simp [updB]
    · rw [if_neg e]
      by_cases hi : i < n
      · rw [List.getElem?_range hi]
        have : ¬ i = k := fun h => e h.symm
        simp [updB, this]
      · rw [List.getElem?_eq_none (by simpa using hi)]; rfl
  rw [e]
  exact SetV.mk _ (by rw [lostV_len]; exact h)
structure NetM where
  row : List Pkt
  lost : Nat → Bool
/-- The same, wherever the packets lie. -/
structure NetC where
  row : List Core
  lost : Nat → Bool
def NetM.core (N : NetM) : NetC := ⟨N.row.map Pkt.core, N.lost⟩
def NetC.push (c : NetC) (p : Core) : Int × NetC := if 256 ≤ c.row.length then (7, c) else (0, { c with row := c.row ++ [p] })
def NetC.put (c : NetC) (p : Core) : Int × NetC := if p.may = true then (if c.lost (p.src.toNat * 12 + p.dst.toNat) = true then (0, c) else c.push p) else (1, c)
def NetC.twice (c : NetC) (k : Int) : Int × NetC := match (if 0 ≤ k then c.row[k.toNat]? else none) with
  | some p => c.push p
  | none => (4, c)
def NetC.got (c : NetC) (k : Int) : Option Core := if 0 ≤ k then c.row[k.toNat]? else none
def NetC.took (c : NetC) (k : Int) : NetC := if 0 ≤ k then { c with row := c.row.eraseIdx k.toNat } else c
def NetC.cut (c : NetC) (i j : Int) : Int × NetC := if pairP i j then (0, { c with lost := updB (updB c.lost (i.toNat * 12 + j.toNat) true) (j.toNat * 12 + i.toNat) true }) else (1, c)
def Core.zero : Core := ⟨0, 0, fun _ => 0, []⟩
def psl (p : Option Addr) (c : Nat) (l : List Pkt) : HP := slc p l.length c 34 14 (l.flatMap Pkt.vals)
/-- The net at nb; its packets' messages lie in h. -/
def netH (h : Frag) (nb : Nat) (N : NetM) : HP := pack (fun _ : Option Addr × Nat => (∀ p ∈ N.row, p.Good h) ∧ N.row.length ≤ 256)
  (fun i => [row nb 68 (.slice i.1 N.row.length i.2 :: lostV N.lost 144), psl i.1 i.2 N.row])
/-- What a call of the net leaves. -/
def NetR (f fN : Frag) (nb : Nat) (F : List HP) (r : Int × NetC) : Value → Frag → List HP → Prop := fun v f' A' =>
  ∃ (g : Frag) (N : NetM), v = .int .i64 r.1 ∧ N.core = r.2 ∧ Dj f g ∧ f' = un f g ∧ A' = netH (un fN g) nb N :: F
theorem lost_rd {f : Frag} {A A' : List HP} {nb : Nat} {T : TypeId} {s : Value} {c : Nat → Bool} (h : At A (row nb T (s :: lostV c 144)) A' (row nb T (s :: lostV c 144))) {i j : Nat} (hi : i < 12) (hj : j < 12) : Rd1 f A nb (0 + 1 + i * 12 + j * 1) (.bool (c (i * 12 + j))) := by
  have h1 := Rd.ofRow (f := f) h
  have h2 : (s :: lostV c 144)[1 + (i * 12 + j)]? = some (.bool (c (i * 12 + j))) := by
    rw [Nat.add_comm 1, List.getElem?_cons_succ]
    exact lostV_get c (by omega)
  have h3 := Rd1.of h1 h2
  rw [show 0 + 1 + i * 12 + j * 1 = 0 + (1 + (i * 12 + j)) by omega]
  exact h3
theorem lost_set (s : Value) (c : Nat → Bool) (b : Bool) {i j : Nat} (hi : i < 12) (hj : j < 12) : SetV (s :: lostV c 144) (0 + 1 + i * 12 + j * 1) (.bool b) (s :: lostV (updB c (i * 12 + j) b) 144) := by
  rw [show 0 + 1 + i * 12 + j * 1 = (i * 12 + j) + 1 by omega]
  exact .there _ (lostV_set c b (by omega))
def tot2 (a b : Nat) : Nat → Nat
  | 0 => 0
  | 1 => a
  | _ => a + b
def acc2 {α : Type} (a b : List α) : Nat → List α
  | 0 => []
  | 1 => a
  | _ => a ++ b
section
variable (f : Frag) (F : List HP)
theorem growP_fn (m : Nat) (hm : m ≤ 1000000) : Fn Try.prog 35 [.slice none 0 0, .int .i64 (m : Nat)] f F (fun v f' A' => ∃ p c, v = .slice p 0 c ∧ f' = f ∧ A' = psl p c [] :: F) := by
  by_cases hg : 0 < m
  · refine Fn.enter Try.func35 rfl Try.ntmps35 rfl (L := [(0, _), (1, _)]) ⟨rfl, rfl, trivial⟩ fun base => ?_
    repeat (first | ((first | apply H.move | apply H.assign | apply H.len_slice | apply H.cap_slice); (iterate 3 exact rfl)) | (first | apply H.seq | apply H.region | apply H.nil | apply H.then_normal) | ((apply H.cmp); (iterate 5 exact rfl)) | ((apply H.ar; (iterate 4 exact rfl)); (with_reducible apply wr_i64; omega); exact rfl) | (apply H.cond_false; exact rfl) | (apply H.skip) | (apply H.cond_yes; exact rfl; (omega)))
    refine H.slc0 34 14 ?_
    refine H.sliceTo (hv := 0) rfl rfl rfl rfl (Nat.le_refl _) rfl ?_
    repeat (((apply H.move); (iterate 3 exact rfl)))
    refine H.appendZ (m := m) rfl rfl rfl rfl (by omega) (fun p' c' => .here _ _ _) rfl (by omega) (by omega) (by omega) (by omega) fun p' c' => ?_
    repeat (((first | apply H.move | apply H.len_slice); (iterate 3 exact rfl)))
    refine H.slc_cap (.here _ _ _) fun hc' _ _ => ?_
    refine H.sliceTo (hv := 0) rfl rfl rfl rfl (Nat.zero_le _) rfl ?_
    refine H.slc_trunc (m' := 0) (ys := []) (Nat.zero_le _) hc' (by simp) ?_
    repeat (first | ((first | apply H.move | apply H.assign); (iterate 3 exact rfl)) | (first | apply H.seq | apply H.region | apply H.nil | apply H.then_normal) | (apply H.ret))
    exact H.ret1 rfl rfl (fun _ h => h) ⟨p', c', rfl, rfl, rfl⟩
  · have hm0 : m = 0 := by omega
    subst hm0
    refine Fn.enter Try.func35 rfl Try.ntmps35 rfl (L := [(0, _), (1, _)]) ⟨rfl, rfl, trivial⟩ fun base => ?_
    repeat (first | ((first | apply H.move | apply H.assign | apply H.len_slice | apply H.cap_slice); (iterate 3 exact rfl)) | (first | apply H.seq | apply H.region | apply H.nil | apply H.then_normal) | ((apply H.cmp); (iterate 5 exact rfl)) | ((apply H.ar; (iterate 4 exact rfl)); (with_reducible apply wr_i64; omega); exact rfl) | (apply H.cond_false; exact rfl) | (first | apply H.skip | apply H.ret))
    refine H.slc0 34 14 ?_
    exact H.ret1 rfl rfl (fun _ h => h) ⟨none, 0, rfl, rfl, rfl⟩
theorem concat_fn {sb : Nat} {p1 p2 : Option Addr} {c1 c2 : Nat} {l1 l2 : List Pkt} (h1 : ∀ G, Src Try.prog f (G ++ F) (.slice p1 l1.length c1) 14 l1.length (l1.flatMap Pkt.vals)) (h2 : ∀ G, Src Try.prog f (G ++ F) (.slice p2 l2.length c2) 14 l2.length (l2.flatMap Pkt.vals))
    (hl1 : l1.length ≤ 1000) (hl2 : l2.length ≤ 1000) :
    Fn Try.prog 28 [.slice (some ⟨sb, 0, none⟩) 2 2] f (row sb 26 [.slice p1 l1.length c1, .slice p2 l2.length c2] :: F)
      (fun v f' A' => ∃ p c, v = .slice p (l1 ++ l2).length c ∧ f' = f ∧ A' = psl p c (l1 ++ l2) :: F) := by
  refine Fn.enter Try.func28 rfl Try.ntmps28 rfl (L := [(0, _)]) ⟨rfl, trivial⟩ fun base => ?_
  repeat (first | ((first | apply H.move | apply H.assign | apply H.len_slice); (iterate 3 exact rfl)) | (first | apply H.seq | apply H.region | apply H.nil | apply H.then_normal) | (apply H.block))
  refine H.loop (ι := Nat) (fun i => [(11, .int .i64 (i : Int)), (10, .int .i64 ((2 : Nat) : Int)), (9, .slice (some ⟨sb, 0, none⟩) 2 2), (3, .int .i64 (tot2 l1.length l2.length i : Nat)), (0, .slice (some ⟨sb, 0, none⟩) 2 2)]) (fun _ => f)
    (fun _ => row sb 26 [.slice p1 l1.length c1, .slice p2 l2.length c2] :: F) (fun i => i ≤ 2) (fun i => 2 - i) 0 (Nat.zero_le _) ⟨rfl, rfl, rfl, rfl, rfl, trivial⟩ rfl rfl fun i hi => ?_
  have hi : i ≤ 2 := hi
  match i, hi with
  | 0, _ =>
    repeat (first | (first | apply H.seq | apply H.region | apply H.nil | apply H.then_normal) | ((apply H.cmp); (iterate 5 exact rfl)) | (apply H.cond_true; exact rfl) | (first | apply H.skip | apply H.block))
    refine H.index1 (i := 0) rfl rfl rfl rfl (by decide) rfl ?_
    refine H.load1 rfl rfl rfl (Rd1.ofRow (by repeat (first | exact .here _ _ _ | apply At.there)) rfl) rfl ?_
    have e : tot2 l1.length l2.length 0 = 0 := rfl
    rw [e]
    repeat (first | ((first | apply H.move | apply H.assign | apply H.len_slice); (iterate 3 exact rfl)) | (first | apply H.seq | apply H.region | apply H.nil | apply H.then_normal) | ((apply H.cmp); (iterate 5 exact rfl)) | ((apply H.ar; (iterate 4 exact rfl)); (first | (with_reducible apply wr_i64_n1; omega) | (with_reducible apply wr_i64_nn; omega)); exact rfl) | (apply H.cond_false; exact rfl) | (first | apply H.skip | apply H.in_normal))
    exact H.again 1 (by decide) (by decide) ⟨rfl, rfl, rfl, by show some (Value.int .i64 ((0 + l1.length : Nat) : Int)) = some (Value.int .i64 ((l1.length : Nat) : Int)); rw [Nat.zero_add], rfl, trivial⟩ rfl rfl
  | 1, _ =>
    repeat (first | (first | apply H.seq | apply H.region | apply H.nil | apply H.then_normal) | ((apply H.cmp); (iterate 5 exact rfl)) | (apply H.cond_true; exact rfl) | (first | apply H.skip | apply H.block))
    refine H.index1 (i := 1) rfl rfl rfl rfl (by decide) rfl ?_
    refine H.load1 rfl rfl rfl (Rd1.ofRow (by repeat (first | exact .here _ _ _ | apply At.there)) rfl) rfl ?_
    have e : tot2 l1.length l2.length 1 = l1.length := rfl
    rw [e]
    repeat (first | ((first | apply H.move | apply H.assign | apply H.len_slice); (iterate 3 exact rfl)) | (first | apply H.seq | apply H.region | apply H.nil | apply H.then_normal) | ((apply H.cmp); (iterate 5 exact rfl)) | ((apply H.ar; (iterate 4 exact rfl)); (first | (with_reducible apply wr_i64_n1; omega) | (with_reducible apply wr_i64_nn; omega)); exact rfl) | (apply H.cond_false; exact rfl) | (first | apply H.skip | apply H.in_normal))
    exact H.again 2 (by decide) (by decide) ⟨rfl, rfl, rfl, rfl, rfl, trivial⟩ rfl rfl
  | 2, _ =>
    repeat (first | ((apply H.move); (iterate 3 exact rfl)) | (first | apply H.seq | apply H.region | apply H.nil | apply H.then_normal) | ((apply H.cmp); (iterate 5 exact rfl)) | (apply H.cond_false; exact rfl) | (first | apply H.then_exit | apply H.exit | apply H.in_hit | apply H.loop_exit))
    have e : tot2 l1.length l2.length 2 = l1.length + l2.length := rfl
    rw [e]
    refine H.callE2 rfl rfl rfl (growP_fn f _ (l1.length + l2.length) (by omega)) fun p0 c0 => ?_
    repeat (first | ((first | apply H.move | apply H.assign | apply H.len_slice); (iterate 3 exact rfl)) | (first | apply H.seq | apply H.region | apply H.nil | apply H.then_normal) | (apply H.block))
    refine H.loop (ι := Nat × Option Addr × Nat) (fun i => [(27, .int .i64 (i.1 : Int)), (26, .int .i64 ((2 : Nat) : Int)), (25, .slice (some ⟨sb, 0, none⟩) 2 2), (6, .slice i.2.1 (acc2 l1 l2 i.1).length i.2.2)]) (fun _ => f)
      (fun i => psl i.2.1 i.2.2 (acc2 l1 l2 i.1) :: row sb 26 [.slice p1 l1.length c1, .slice p2 l2.length c2] :: F) (fun i => i.1 ≤ 2) (fun i => 2 - i.1) (0, p0, c0) (Nat.zero_le _) ⟨rfl, rfl, rfl, rfl, trivial⟩ rfl rfl fun i hi => ?_
    obtain ⟨i, p', c'⟩ := i
    have hi : i ≤ 2 := hi
    match i, hi with
    | 0, _ =>
      show H _ _ _ [_, _, _, (6, .slice p' 0 c')] _ (slc p' 0 c' _ 14 [] :: _ :: F) _
      repeat (first | (first | apply H.seq | apply H.region | apply H.nil | apply H.then_normal) | ((apply H.cmp); (iterate 5 exact rfl)) | (apply H.cond_true; exact rfl) | (first | apply H.skip | apply H.block))
      refine H.index1 (i := 0) rfl rfl rfl rfl (by decide) rfl ?_
      refine H.load1 rfl rfl rfl (Rd1.ofRow (by repeat (first | exact .here _ _ _ | apply At.there)) rfl) rfl ?_
      repeat (first | ((first | apply H.move | apply H.assign); (iterate 3 exact rfl)) | (first | apply H.region | apply H.nil | apply H.then_normal))
      refine H.append (xs := []) rfl rfl rfl rfl rfl (fun p' c' => .here _ _ _) (h1 [_, _]) (Pkts_one _) rfl (by omega) (by omega) fun p3 c3 => ?_
      rw [Nat.zero_add]
      repeat (first | ((first | apply H.move | apply H.assign); (iterate 3 exact rfl)) | (first | apply H.region | apply H.nil | apply H.then_normal) | ((apply H.ar; (iterate 4 exact rfl)); (with_reducible apply wr_i64_n1; omega); exact rfl) | (apply H.in_normal))
      exact H.again (1, p3, c3) (by show 1 ≤ 2; decide) (by show 2 - 1 < 2 - 0; decide) ⟨rfl, rfl, rfl, rfl, trivial⟩ rfl rfl
    | 1, _ =>
      show H _ _ _ [_, _, _, (6, .slice p' l1.length c')] _ (slc p' l1.length c' _ 14 (l1.flatMap Pkt.vals) :: _ :: F) _
      repeat (first | (first | apply H.seq | apply H.region | apply H.nil | apply H.then_normal) | ((apply H.cmp); (iterate 5 exact rfl)) | (apply H.cond_true; exact rfl) | (first | apply H.skip | apply H.block))
      refine H.index1 (i := 1) rfl rfl rfl rfl (by decide) rfl ?_
      refine H.load1 rfl rfl rfl (Rd1.ofRow (by repeat (first | exact .here _ _ _ | apply At.there)) rfl) rfl ?_
      repeat (first | ((first | apply H.move | apply H.assign); (iterate 3 exact rfl)) | (first | apply H.region | apply H.nil | apply H.then_normal))
      refine H.append (xs := l1.flatMap Pkt.vals) rfl rfl rfl rfl rfl (fun p' c' => .here _ _ _) (h2 [_, _]) (Pkts_one _) rfl (by omega) (by omega) fun p3 c3 => ?_
      repeat (first | ((first | apply H.move | apply H.assign); (iterate 3 exact rfl)) | (first | apply H.region | apply H.nil | apply H.then_normal) | ((apply H.ar; (iterate 4 exact rfl)); (with_reducible apply wr_i64_n1; omega); exact rfl) | (apply H.in_normal))
      have e1 : (l1 ++ l2).length = l1.length + l2.length := List.length_append
      have e2 : (l1 ++ l2).flatMap Pkt.vals = l1.flatMap Pkt.vals ++ l2.flatMap Pkt.vals := List.flatMap_append
      refine H.again (2, p3, c3) (by show 2 ≤ 2; decide) (by show 2 - 2 < 2 - 1; decide) ⟨rfl, rfl, rfl, ?_, trivial⟩ rfl ?_
      · show some _ = some (Value.slice p3 (l1 ++ l2).length c3)
        rw [e1]
      · show _ = psl p3 c3 (l1 ++ l2) :: _
        unfold psl
        rw [e1, e2]
    | 2, _ =>
      show H _ _ _ [_, _, _, (6, .slice p' (l1 ++ l2).length c')] _ (psl p' c' (l1 ++ l2) :: _ :: F) _
      repeat (first | ((first | apply H.move | apply H.assign); (iterate 3 exact rfl)) | (first | apply H.seq | apply H.region | apply H.nil | apply H.then_normal) | ((apply H.cmp); (iterate 5 exact rfl)) | (apply H.cond_false; exact rfl) | (first | apply H.ret | apply H.then_exit | apply H.exit | apply H.in_hit | apply H.loop_exit))
      refine H.drop (x := row sb _ _) (by repeat (first | exact .here _ _ | apply Pull.there)) ?_
      exact H.ret1 rfl rfl (fun _ h => h) ⟨p', c', rfl, rfl, rfl⟩
end
end Go.Proofs.Ytcaofnfemogleaa

/- Layer 24: the program's net: New, Len, has, push, Put, Twice. -/
namespace Go.Proofs.Ytcaofnfemogleaa
set_option linter.unusedSectionVars false
set_option linter.unusedSimpArgs false
set_option linter.unusedVariables false
open Go
theorem Pkt.zero_vals : Pkt.zero.vals = [.int .i64 0, .int .i64 0, .int .u64 0, .int .u64 0, .int .u64 0, .int .u64 0, .int .u64 0, .int .u64 0, .int .u64 0, .int .u64 0, .int .u64 0, .int .u64 0, .int .u64 0, .slice none 0 0] := rfl
def netRow (i : Option Addr × Nat) (N : NetM) : List Value := .slice i.1 N.row.length i.2 :: lostV N.lost 144
def NetM.new : NetM := ⟨[], fun _ => false⟩
theorem netH_fold {h : Frag} {nb : Nat} {N : NetM} {F : List HP} (i : Option Addr × Nat) (hi : (∀ p ∈ N.row, p.Good h) ∧ N.row.length ≤ 256) :
    ∀ x, stars (row nb 68 (.slice i.1 N.row.length i.2 :: lostV N.lost 144) :: psl i.1 i.2 N.row :: F) x → stars (netH h nb N :: F) x :=
  pack_fold (B := fun i : Option Addr × Nat => [row nb 68 (.slice i.1 N.row.length i.2 :: lostV N.lost 144), psl i.1 i.2 N.row]) (A := F) i hi
section
variable (f : Frag) (F : List HP) (h : Frag) (nb : Nat) (N : NetM)
theorem netNew_fn : Fn Try.prog 8 [] f F (RetE (fun nb => .pointer (some ⟨nb, 0, none⟩)) f (fun nb => netH h nb NetM.new :: F)) := by
  refine Fn.enter Try.func8 rfl Try.ntmps8 rfl (L := []) trivial fun base => ?_
  repeat (first | ((apply H.assign); (iterate 3 exact rfl)) | (first | apply H.seq | apply H.region | apply H.nil | apply H.then_normal) | ((apply H.build); (iterate 5 exact rfl)))
  refine H.box (ls := netRow (none, 0) NetM.new) rfl rfl rfl rfl fun nb => ?_
  repeat (first | ((apply H.assign); (iterate 3 exact rfl)) | (first | apply H.nil | apply H.then_normal) | (apply H.ret))
  refine H.slc0 34 14 ?_
  refine H.front (x := row nb _ _) (by repeat (first | exact .here _ _ | apply Pull.there)) ?_
  exact H.ret1 rfl rfl (netH_fold (N := NetM.new) (none, 0) ⟨(fun p hp => by cases hp), by decide⟩) ⟨nb, rfl, rfl, rfl⟩
theorem netLen_fn : Fn Try.prog 12 [.pointer (some ⟨nb, 0, none⟩)] f (netH h nb N :: F) (Ret (.int .i64 (N.row.length : Nat)) f (netH h nb N :: F)) := by
  refine Fn.unpack fun i hi => ?_
  refine Fn.enter Try.func12 rfl Try.ntmps12 rfl (L := [(0, _)]) ⟨rfl, trivial⟩ fun base => ?_
  repeat (first | ((first | apply H.move | apply H.assign | apply H.nilCheck | apply H.len_slice); (iterate 3 exact rfl)) | (apply H.fieldAddr; (iterate 3 exact rfl); exact inferInstance; exact rfl) | (apply H.load1; (iterate 3 exact rfl); apply Rd1.ofRow; (repeat (exact .here _ _ _)); (iterate 2 exact rfl)) | (first | apply H.seq | apply H.region | apply H.nil | apply H.then_normal) | ((apply H.ptrNil); (iterate 5 exact rfl)) | (apply H.cond_false; exact rfl) | (first | apply H.skip | apply H.ret))
  exact H.ret1 rfl rfl (netH_fold i hi) ⟨rfl, rfl, rfl⟩
theorem netHas_fn (k : Int) : Fn Try.prog 27 [.pointer (some ⟨nb, 0, none⟩), .int .i64 k] f (netH h nb N :: F) (Ret (.bool (decide (0 ≤ k ∧ k < N.row.length))) f (netH h nb N :: F)) := by
  by_cases h1 : 0 ≤ k
  · refine Fn.enter Try.func27 rfl Try.ntmps27 rfl (L := [(0, _), (1, _)]) ⟨rfl, rfl, trivial⟩ fun base => ?_
    repeat (first | ((first | apply H.move | apply H.assign); (iterate 3 exact rfl)) | (first | apply H.seq | apply H.region | apply H.nil | apply H.then_normal) | ((apply H.cmp); (iterate 5 exact rfl)) | (apply H.gyes; (iterate 3 exact rfl); (assumption)))
    refine H.callR rfl rfl rfl (netLen_fn f F h nb N) ?_
    repeat (first | ((apply H.assign); (iterate 3 exact rfl)) | (first | apply H.nil | apply H.then_normal) | ((apply H.cmp); (iterate 5 exact rfl)) | (apply H.pickT; (iterate 4 exact rfl)) | (apply H.ret))
    refine H.ret1 rfl rfl (fun _ h => h) ⟨?_, rfl, rfl⟩
    congr 1
    apply decide_eq_decide.2
    omega
  · refine Fn.enter Try.func27 rfl Try.ntmps27 rfl (L := [(0, _), (1, _)]) ⟨rfl, rfl, trivial⟩ fun base => ?_
    repeat (first | ((first | apply H.move | apply H.assign); (iterate 3 exact rfl)) | (first | apply H.seq | apply H.region | apply H.nil | apply H.then_normal) | ((apply H.cmp); (iterate 5 exact rfl)) | (apply H.pass; (iterate 2 exact rfl)) | ((apply H.pickF); (iterate 4 exact rfl)) | (apply H.ret) | (apply H.gno; (iterate 3 exact rfl); (assumption)))
    refine H.ret1 rfl rfl (fun _ h => h) ⟨?_, rfl, rfl⟩
    rw [decide_eq_false (by omega)]
theorem netPush_fn {p : Pkt} (hh : Le h f) (hp : p.Good f) : Fn Try.prog 26 [.pointer (some ⟨nb, 0, none⟩), .agg p.vals.toArray] f (netH h nb N :: F) (NetR f h nb F (N.core.push p.core)) := by
  refine Fn.unpack fun i hi => ?_
  obtain ⟨hgood, hlen⟩ := hi
  have hcl : N.core.row.length = N.row.length := by simp [NetM.core]
  unfold NetC.push
  rw [hcl]
  by_cases hf : 256 ≤ N.row.length
  · rw [if_pos hf]
    refine Fn.enter Try.func26 rfl Try.ntmps26 rfl (L := [(0, _), (1, _)]) ⟨rfl, rfl, trivial⟩ fun base => ?_
    repeat ((first | apply H.seq | apply H.region))
    refine H.box (ls := p.vals) rfl rfl rfl rfl fun pb => ?_
    repeat (first | ((first | apply H.move | apply H.assign | apply H.nilCheck | apply H.len_slice); (iterate 3 exact rfl)) | (apply H.fieldAddr; (iterate 3 exact rfl); exact inferInstance; exact rfl) | (apply H.load1; (iterate 3 exact rfl); apply Rd1.ofRow; (repeat (first | exact .here _ _ _ | apply At.there)); (iterate 2 exact rfl)) | (first | apply H.seq | apply H.region | apply H.nil | apply H.then_normal) | ((apply H.cmp); (iterate 5 exact rfl)) | (first | apply H.ret | apply H.then_ret) | (apply H.cond_yes; exact rfl; (omega)))
    refine H.drop (x := row pb _ _) (by repeat (first | exact .here _ _ | apply Pull.there)) ?_
    exact H.ret1 rfl rfl (netH_fold i ⟨hgood, hlen⟩) ⟨nil0, N, rfl, rfl, Dj.nil f, (un_nil f).symm, by rw [un_nil]; rfl⟩
  · rw [if_neg hf]
    refine Fn.enter Try.func26 rfl Try.ntmps26 rfl (L := [(0, _), (1, _)]) ⟨rfl, rfl, trivial⟩ fun base => ?_
    repeat ((first | apply H.seq | apply H.region))
    refine H.box (ls := p.vals) rfl rfl rfl rfl fun pb => ?_
    repeat (first | ((first | apply H.move | apply H.assign | apply H.nilCheck | apply H.len_slice); (iterate 3 exact rfl)) | (apply H.fieldAddr; (iterate 3 exact rfl); exact inferInstance; exact rfl) | (apply H.load1; (iterate 3 exact rfl); apply Rd1.ofRow; (repeat (first | exact .here _ _ _ | apply At.there)); (iterate 2 exact rfl)) | (first | apply H.seq | apply H.region | apply H.nil | apply H.then_normal) | ((apply H.cmp); (iterate 5 exact rfl)) | (apply H.skip) | (apply H.cond_no; exact rfl; (omega)))
    refine H.front (x := row nb _ _) (by repeat (first | exact .here _ _ | apply Pull.there)) ?_
    refine H.front (x := row pb _ _) (by repeat (first | exact .here _ _ | apply Pull.there)) ?_
    refine H.drawC [0, 1, 2, 3, 4, 5, 6, 7, 8] (by kernel_rfl) (by decide +kernel) (by first | exact blind_fn | exact blind_seq blind_fn | exact blind_seq (blind_seq blind_fn) | (repeat (first | exact blind_fn | refine blind_seq ?_ | refine blind_block ?_ | refine blind_loop ?_))) (S := [_, _]) rfl ?_
    refine HB.quiet [(0, false), (1, false), (2, false), (3, false), (4, false), (5, false)] 6 (by kernel_rfl) ?_
    repeat (first | ((first | apply HQ.move | apply HQ.nilCheck); (iterate 3 exact rfl)) | (apply HQ.fieldAddr; (iterate 3 exact rfl); exact inferInstance; exact rfl) | (apply HQ.load1; (iterate 3 exact rfl); apply Rd1.ofRow; (repeat (first | exact .here _ _ _ | apply At.there)); (iterate 2 exact rfl)))
    refine HQ.loadN (ls := p.vals) rfl rfl rfl (Rd.ofRow (by repeat (first | exact .here _ _ _ | apply At.there))) rfl rfl ?_
    refine HQ.more rfl ?_
    refine HB.ev1 (i := 6) (by kernel_rfl) rfl ?_
    refine H.call rfl rfl rfl (copied_fn f _ hp) fun v f' A' hr => ?_
    obtain ⟨g, p', rfl, hcore, hpg, hdj, rfl, rfl⟩ := hr
    repeat ((apply H.nil))
    refine H.on [] (Le.un _ _) rfl ?_
    refine HB.ev1 (i := 7) (by kernel_rfl) rfl ?_
    refine H.buildSlice (out := p'.vals) rfl rfl rfl rfl (by decide) (by decide) rfl rfl fun tb => ?_
    repeat ((apply H.nil))
    refine H.front (x := row nb _ _) (by repeat (first | exact .here _ _ | apply Pull.there)) ?_
    refine H.front (x := row pb _ _) (by repeat (first | exact .here _ _ | apply Pull.there)) ?_
    refine H.on0 rfl ?_
    refine HB.ev1 (i := 8) (by kernel_rfl) rfl ?_
    refine H.append (m := 1) (xs := N.row.flatMap Pkt.vals) (news := p'.vals) rfl rfl rfl rfl rfl (fun p' c' => (by repeat (first | exact .here _ _ _ | apply At.there))) (Src.slice (Rd.ofRow (.there _ (.there _ (.here _ _ _)))) rfl) (allOne_mem rfl) rfl (by omega) (by omega) fun p3 c3 => ?_
    repeat ((apply H.nil))
    refine H.on0 rfl ?_
    refine HB.next [] (by kernel_rfl) (S' := []) rfl ?_
    refine HB.quiet [(9, false), (10, false)] 1 (by kernel_rfl) ?_
    repeat (first | ((apply HQ.nilCheck); (iterate 3 exact rfl)) | (apply HQ.fieldAddr; (iterate 3 exact rfl); exact inferInstance; exact rfl))
    refine HQ.more rfl ?_
    refine HB.ev1 (i := 11) (by kernel_rfl) rfl ?_
    repeat (first | (apply H.nil) | (apply H.store1; (iterate 4 exact rfl); (repeat (first | exact .here _ _ _ | apply At.there))))
    refine H.on0 rfl ?_
    refine HB.done (by kernel_rfl) ?_
    repeat (first | ((apply H.assign); (iterate 3 exact rfl)) | (first | apply H.seq | apply H.region | apply H.nil | apply H.then_normal) | (apply H.ret))
    refine H.drop (x := row pb _ _) (by repeat (first | exact .here _ _ | apply Pull.there)) ?_
    refine H.drop (x := row tb _ _) (by repeat (first | exact .here _ _ | apply Pull.there)) ?_
    have e1 : (N.row ++ [p']).length = N.row.length + 1 := by rw [List.length_append]; rfl
    have e2 : (N.row ++ [p']).flatMap Pkt.vals = N.row.flatMap Pkt.vals ++ p'.vals := by simp
    have hfold := netH_fold (h := un h g) (nb := nb) (N := ⟨N.row ++ [p'], N.lost⟩) (F := F) (p3, c3) ⟨fun p hp => ?_, by show (N.row ++ [p']).length ≤ 256; rw [e1]; omega⟩
    · unfold psl at hfold
      rw [e1, e2] at hfold
      refine H.ret1 rfl rfl hfold ⟨g, ⟨N.row ++ [p'], N.lost⟩, rfl, ?_, hdj, rfl, rfl⟩
      simp [NetM.core, hcore]
    · rw [List.mem_append] at hp
      have hdh : Dj h g := fun k => by
        rcases hdj k with e | e
        · cases hk : h k with
          | none => exact .inl rfl
          | some o => rw [hh k o hk] at e; cases e
        · exact .inr e
      rcases hp with hp | hp
      · exact (hgood p hp).mono (Le.un h g)
      · rw [List.mem_singleton] at hp
        subst hp
        exact hpg.mono (Le.right hdh)
end
end Go.Proofs.Ytcaofnfemogleaa

/- Layer 24: the program's net: Put, Twice, Take, Drop, Cut. -/
namespace Go.Proofs.Ytcaofnfemogleaa
set_option linter.unusedSectionVars false
set_option linter.unusedSimpArgs false
set_option linter.unusedVariables false
open Go
theorem NetM.core_len (N : NetM) : N.core.row.length = N.row.length := by simp [NetM.core]
theorem NetM.core_get (N : NetM) (k : Nat) : N.core.row[k]? = (N.row[k]?).map Pkt.core := by simp [NetM.core]
section
variable (f : Frag) (F : List HP) (h : Frag) (nb : Nat) (N : NetM)
theorem pairP_of_may {p : Core} (hm : p.may = true) : pairP p.src p.dst := by
  unfold Core.may at hm
  simp only [Bool.and_eq_true, decide_eq_true_eq] at hm
  exact hm.2.1
theorem netPut_fn {p : Pkt} (hh : Le h f) (hp : p.Good f) : Fn Try.prog 10 [.pointer (some ⟨nb, 0, none⟩), .agg p.vals.toArray] f (netH h nb N :: F) (NetR f h nb F (N.core.put p.core)) := by
  have hmay := fun G => netMay_fn f G hp
  rw [Pkt.may_core] at hmay
  unfold NetC.put
  by_cases hm : p.core.may = true
  · rw [if_pos hm]
    rw [hm] at hmay
    have hpp : pairP p.src p.dst := pairP_of_may hm
    obtain ⟨a1, a2, a3, a4, _⟩ := hpp
    have hn : (!true) = false := rfl
    have hlost : N.core.lost (p.core.src.toNat * 12 + p.core.dst.toNat) = N.lost (p.src.toNat * 12 + p.dst.toNat) := rfl
    rw [hlost]
    refine Fn.enter Try.func10 rfl Try.ntmps10 rfl (L := [(0, _), (1, _)]) ⟨rfl, rfl, trivial⟩ fun base => ?_
    repeat ((first | apply H.seq | apply H.region))
    refine H.box (ls := p.vals) rfl rfl rfl rfl fun pb => ?_
    repeat (first | ((first | apply H.move | apply H.assign); (iterate 3 exact rfl)) | (first | apply H.seq | apply H.region | apply H.nil | apply H.then_normal) | ((apply H.ptrNil); (iterate 5 exact rfl)) | (apply H.cond_false; exact rfl) | (apply H.skip))
    refine H.loadN (ls := p.vals) rfl rfl rfl (Rd.ofRow (by repeat (first | exact .here _ _ _ | apply At.there))) rfl rfl ?_
    refine H.callR rfl rfl rfl (hmay _) ?_
    repeat (first | (first | apply H.seq | apply H.nil | apply H.then_normal) | ((apply H.not); (iterate 4 exact rfl)) | (apply H.cond_false; exact rfl) | (apply H.skip))
    refine H.front (x := netH h nb N) (by repeat (first | exact .here _ _ | apply Pull.there)) ?_
    refine H.unpack fun i hi => ?_
    refine H.drawQ (by kernel_rfl) (by decide +kernel) (by first | exact blind_fn | exact blind_seq blind_fn | exact blind_seq (blind_seq blind_fn) | (repeat (first | exact blind_fn | refine blind_seq ?_ | refine blind_block ?_ | refine blind_loop ?_))) ?_
    repeat (first | (apply HQ.load1; (iterate 3 exact rfl); exact lost_rd (.here _ _ _) (by omega) (by omega); exact rfl) | ((first | apply HQ.move | apply HQ.nilCheck); (iterate 3 exact rfl)) | (apply HQ.fieldAddr; (iterate 3 exact rfl); exact inferInstance; exact rfl) | (apply HQ.load1; (iterate 3 exact rfl); apply Rd1.ofRow; (repeat (first | exact .here _ _ _ | apply At.there)); (iterate 2 exact rfl)) | ((apply HQ.done0); exact rfl) | (apply HQ.index_arrT; (iterate 3 exact rfl); omega; exact rfl))
    cases hl : N.lost (p.src.toNat * 12 + p.dst.toNat) with
    | true =>
      rw [if_pos rfl]
      repeat (first | ((apply H.assign); (iterate 3 exact rfl)) | (first | apply H.seq | apply H.region | apply H.nil | apply H.then_normal) | (apply H.cond_true; exact rfl) | (first | apply H.ret | apply H.then_ret))
      refine H.drop (x := row pb _ _) (by repeat (first | exact .here _ _ | apply Pull.there)) ?_
      exact H.ret1 rfl rfl (netH_fold i hi) ⟨nil0, N, rfl, rfl, Dj.nil f, (un_nil f).symm, by rw [un_nil]⟩
    | false =>
      rw [if_neg (by decide)]
      repeat (first | ((apply H.move); (iterate 3 exact rfl)) | (first | apply H.seq | apply H.region | apply H.then_normal) | (apply H.cond_false; exact rfl) | (apply H.skip))
      refine H.imp (netH_fold i hi) ?_
      refine H.loadN (ls := p.vals) rfl rfl rfl (Rd.ofRow (by repeat (first | exact .here _ _ _ | apply At.there))) rfl rfl ?_
      refine H.call rfl rfl rfl (netPush_fn f _ h nb N hh hp) fun v f' A' hr => ?_
      obtain ⟨g, N', rfl, hc, hdj, rfl, rfl⟩ := hr
      repeat (first | ((apply H.assign); (iterate 3 exact rfl)) | (first | apply H.nil | apply H.then_normal) | (apply H.ret))
      refine H.drop (x := row pb _ _) (by repeat (first | exact .here _ _ | apply Pull.there)) ?_
      exact H.ret1 rfl rfl (fun _ h => h) ⟨g, N', rfl, hc, hdj, rfl, rfl⟩
  · rw [if_neg hm]
    rw [Bool.eq_false_iff.2 hm] at hmay
    have hn : (!false) = true := rfl
    refine Fn.enter Try.func10 rfl Try.ntmps10 rfl (L := [(0, _), (1, _)]) ⟨rfl, rfl, trivial⟩ fun base => ?_
    repeat ((first | apply H.seq | apply H.region))
    refine H.box (ls := p.vals) rfl rfl rfl rfl fun pb => ?_
    repeat (first | ((first | apply H.move | apply H.assign); (iterate 3 exact rfl)) | (first | apply H.seq | apply H.region | apply H.nil | apply H.then_normal) | ((apply H.ptrNil); (iterate 5 exact rfl)) | (apply H.cond_false; exact rfl) | (apply H.skip))
    refine H.loadN (ls := p.vals) rfl rfl rfl (Rd.ofRow (by repeat (first | exact .here _ _ _ | apply At.there))) rfl rfl ?_
    refine H.callR rfl rfl rfl (hmay _) ?_
    repeat (first | ((apply H.assign); (iterate 3 exact rfl)) | (first | apply H.seq | apply H.region | apply H.nil | apply H.then_normal) | ((apply H.not); (iterate 4 exact rfl)) | (apply H.cond_true; exact rfl) | (first | apply H.ret | apply H.then_ret))
    refine H.drop (x := row pb _ _) (by repeat (first | exact .here _ _ | apply Pull.there)) ?_
    exact H.ret1 rfl rfl (fun _ h => h) ⟨nil0, N, rfl, rfl, Dj.nil f, (un_nil f).symm, by rw [un_nil]⟩
theorem netTwice_fn (k : Int) (hh : Le h f) : Fn Try.prog 11 [.pointer (some ⟨nb, 0, none⟩), .int .i64 k] f (netH h nb N :: F) (NetR f h nb F (N.core.twice k)) := by
  unfold NetC.twice
  by_cases hk : 0 ≤ k ∧ k < N.row.length
  · obtain ⟨x, hx⟩ : ∃ x, N.row[k.toNat]? = some x := ⟨N.row[k.toNat]'(by omega), List.getElem?_eq_getElem (by omega)⟩
    rw [if_pos hk.1, NetM.core_get, hx]
    show Fn _ _ _ _ _ (NetR f h nb F (N.core.push x.core))
    have hn : (!true) = false := rfl
    refine Fn.enter Try.func11 rfl Try.ntmps11 rfl (L := [(0, _), (1, _)]) ⟨rfl, rfl, trivial⟩ fun base => ?_
    repeat (first | ((first | apply H.move | apply H.assign); (iterate 3 exact rfl)) | (first | apply H.seq | apply H.region | apply H.nil | apply H.then_normal) | ((apply H.ptrNil); (iterate 5 exact rfl)) | (apply H.cond_false; exact rfl) | (apply H.skip))
    refine H.callR rfl rfl rfl (netHas_fn f F h nb N k) ?_
    rw [decide_eq_true hk]
    repeat (first | ((first | apply H.move | apply H.nilCheck); (iterate 3 exact rfl)) | (apply H.fieldAddr; (iterate 3 exact rfl); exact inferInstance; exact rfl) | (first | apply H.seq | apply H.region | apply H.nil | apply H.then_normal) | ((apply H.not); (iterate 4 exact rfl)) | (apply H.cond_false; exact rfl) | (apply H.skip))
    refine H.unpack fun i hi => ?_
    have hxg : x.Good h := hi.1 x (List.mem_of_getElem? hx)
    obtain ⟨pp, pc⟩ := i
    refine H.slc_some (.there _ (.here _ _ _)) (by omega) fun sb hb => ?_
    have hb : pp = _ := hb
    subst hb
    repeat (first | ((apply H.move); (iterate 3 exact rfl)) | (apply H.load1; (iterate 3 exact rfl); apply Rd1.ofRow; (repeat (exact .here _ _ _)); (iterate 2 exact rfl)))
    refine H.index0 (i := k.toNat) rfl rfl rfl (by omega) (by omega) rfl ?_
    refine H.loadN (ls := x.vals) rfl rfl rfl (Rd.slcElem Pkt.len (by decide) (.there _ (.here _ _ _)) hx) rfl rfl ?_
    refine H.imp (netH_fold _ hi) ?_
    refine H.call rfl rfl rfl (netPush_fn f _ h nb N hh (hxg.mono hh)) fun v f' A' hr => ?_
    obtain ⟨g, N', rfl, hc, hdj, rfl, rfl⟩ := hr
    repeat (first | ((apply H.assign); (iterate 3 exact rfl)) | (first | apply H.nil | apply H.then_normal) | (apply H.ret))
    exact H.ret1 rfl rfl (fun _ h => h) ⟨g, N', rfl, hc, hdj, rfl, rfl⟩
  · have hnone : (if 0 ≤ k then N.core.row[k.toNat]? else none) = none := by
      by_cases h0 : 0 ≤ k
      · rw [if_pos h0]
        exact List.getElem?_eq_none (by rw [NetM.core_len]; omega)
      · rw [if_neg h0]
    rw [hnone]
    have hn : (!false) = true := rfl
    refine Fn.enter Try.func11 rfl Try.ntmps11 rfl (L := [(0, _), (1, _)]) ⟨rfl, rfl, trivial⟩ fun base => ?_
    repeat (first | ((first | apply H.move | apply H.assign); (iterate 3 exact rfl)) | (first | apply H.seq | apply H.region | apply H.nil | apply H.then_normal) | ((apply H.ptrNil); (iterate 5 exact rfl)) | (apply H.cond_false; exact rfl) | (apply H.skip))
    refine H.callR rfl rfl rfl (netHas_fn f F h nb N k) ?_
    rw [decide_eq_false hk]
    repeat (first | ((apply H.assign); (iterate 3 exact rfl)) | (first | apply H.seq | apply H.region | apply H.nil | apply H.then_normal) | ((apply H.not); (iterate 4 exact rfl)) | (apply H.cond_true; exact rfl) | (first | apply H.ret | apply H.then_ret))
    exact H.ret1 rfl rfl (fun _ h => h) ⟨nil0, N, rfl, rfl, Dj.nil f, (un_nil f).symm, by rw [un_nil]⟩
/-- What is taken: a packet (a zero one, if there is none), and whether it is one. -/
def TakeR (f h : Frag) (nb : Nat) (F : List HP) (c : NetC) (k : Int) : Value → Frag → List HP → Prop := fun v f' A' =>
  ∃ (p : Pkt) (N : NetM), v = .tuple #[.agg p.vals.toArray, .bool (c.got k).isSome] ∧ p.core = (c.got k).getD Core.zero ∧ p.Good h ∧ N.core = c.took k ∧ f' = f ∧ A' = netH h nb N :: F
theorem netTake_fn (k : Int) : Fn Try.prog 13 [.pointer (some ⟨nb, 0, none⟩), .int .i64 k] f (netH h nb N :: F) (TakeR f h nb F N.core k) := by
  by_cases hk : 0 ≤ k ∧ k < N.row.length
  · obtain ⟨x, hx⟩ : ∃ x, N.row[k.toNat]? = some x := ⟨N.row[k.toNat]'(by omega), List.getElem?_eq_getElem (by omega)⟩
    have hgot : N.core.got k = some x.core := by unfold NetC.got; rw [if_pos hk.1, NetM.core_get, hx]; rfl
    have htook : N.core.took k = ({ row := N.row.take k.toNat ++ N.row.drop (k.toNat + 1), lost := N.lost } : NetM).core := by
      unfold NetC.took NetM.core
      rw [if_pos hk.1, List.eraseIdx_eq_take_drop_succ]
      simp
    have hl1 : (N.row.take k.toNat).length = k.toNat := by rw [List.length_take]; omega
    have hl2 : (N.row.drop (k.toNat + 1)).length = N.row.length - (k.toNat + 1) := List.length_drop
    refine Fn.enter Try.func13 rfl Try.ntmps13 rfl (L := [(0, _), (1, _)]) ⟨rfl, rfl, trivial⟩ fun base => ?_
    repeat ((first | apply H.seq | apply H.region))
    refine H.alloc (ls := Pkt.zero.vals) rfl rfl rfl fun ob => ?_
    repeat (first | ((first | apply H.move | apply H.assign); (iterate 3 exact rfl)) | (first | apply H.seq | apply H.region | apply H.nil | apply H.then_normal))
    refine H.front (x := netH h nb N) (by repeat (first | exact .here _ _ | apply Pull.there)) ?_
    refine H.callR rfl rfl rfl (netHas_fn f _ h nb N k) ?_
    rw [decide_eq_true hk]
    repeat (first | ((first | apply H.move | apply H.assign | apply H.nilCheck); (iterate 3 exact rfl)) | (apply H.fieldAddr; (iterate 3 exact rfl); exact inferInstance; exact rfl) | (first | apply H.seq | apply H.region | apply H.nil | apply H.then_normal) | (apply H.cond_true; exact rfl))
    refine H.unpack fun i hi => ?_
    have hxg : x.Good h := hi.1 x (List.mem_of_getElem? hx)
    obtain ⟨pp, pc⟩ := i
    refine H.slc_some (.there _ (.here _ _ _)) (by omega) fun sb hb => ?_
    have hb : pp = _ := hb
    subst hb
    refine H.slc_cap (.there _ (.here _ _ _)) fun hcap _ hpl => ?_
    repeat (first | ((apply H.move); (iterate 3 exact rfl)) | (apply H.load1; (iterate 3 exact rfl); apply Rd1.ofRow; (repeat (exact .here _ _ _)); (iterate 2 exact rfl)))
    refine H.index0 (i := k.toNat) rfl rfl rfl (by omega) (by omega) rfl ?_
    refine H.loadN (ls := x.vals) rfl rfl rfl (Rd.slcElem Pkt.len (by decide) (.there _ (.here _ _ _)) hx) rfl rfl ?_
    refine H.storeN (ls := Pkt.zero.vals) (vs := x.vals) (ls' := x.vals) rfl rfl rfl (allOne_mem rfl) rfl rfl (Nat.le_refl 14) (by repeat (first | exact .here _ _ _ | apply At.there)) ?_
    repeat ((first | apply H.nil | apply H.then_normal))
    refine H.drawC [0, 1, 2, 3, 4, 5, 6, 7, 8, 9, 10, 11, 12, 13, 14, 15] (by kernel_rfl) (by decide +kernel) (by first | exact blind_fn | exact blind_seq blind_fn | exact blind_seq (blind_seq blind_fn) | (repeat (first | exact blind_fn | refine blind_seq ?_ | refine blind_block ?_ | refine blind_loop ?_))) (S := [_]) rfl ?_
    refine HB.quiet [(0, false), (1, false), (2, false), (3, false), (4, false), (5, false), (6, false), (7, false), (8, false), (9, false), (10, false), (11, false), (12, false), (13, false)] 5 (by kernel_rfl) ?_
    repeat (first | ((first | apply HQ.move | apply HQ.nilCheck); (iterate 3 exact rfl)) | (apply HQ.fieldAddr; (iterate 3 exact rfl); exact inferInstance; exact rfl) | (apply HQ.load1; (iterate 3 exact rfl); apply Rd1.ofRow; (repeat (exact .here _ _ _)); (iterate 2 exact rfl)))
    refine HQ.slice (lo := none) (hi := some (.tmp 22)) (mx := none) (lv := 0) (hv := k.toNat) (mv := pc) rfl rfl rfl ⟨_, _, rfl, by omega⟩ rfl (fun h => by cases h) (Nat.zero_le _) (by omega) (Nat.le_refl _) rfl ?_
    rw [slP0]
    repeat (first | ((first | apply HQ.move | apply HQ.nilCheck); (iterate 3 exact rfl)) | (apply HQ.fieldAddr; (iterate 3 exact rfl); exact inferInstance; exact rfl) | (apply HQ.load1; (iterate 3 exact rfl); apply Rd1.ofRow; (repeat (exact .here _ _ _)); (iterate 2 exact rfl)) | ((apply HQ.ar; (iterate 4 exact rfl)); (with_reducible apply wr_i64; omega); exact rfl))
    refine HQ.slice (lo := some (.tmp 29)) (hi := none) (mx := none) (lv := k.toNat + 1) (hv := N.row.length) (mv := pc) rfl rfl ⟨_, _, rfl, by omega⟩ rfl rfl (fun h => by cases h) (by omega) hcap (Nat.le_refl _) rfl ?_
    refine HQ.more rfl ?_
    refine HB.ev1 (i := 14) (by kernel_rfl) rfl ?_
    refine H.buildSlice (out := [.slice (some ⟨sb, 0, none⟩) (k.toNat - 0) (pc - 0), .slice (slP (some ⟨sb, 0, none⟩) (k.toNat + 1) pc 14) (N.row.length - (k.toNat + 1)) (pc - (k.toNat + 1))]) rfl rfl rfl rfl (by decide) (by decide) rfl rfl fun vb => ?_
    repeat ((apply H.nil))
    refine H.front (x := row nb _ _) (by repeat (first | exact .here _ _ | apply Pull.there)) ?_
    refine H.on0 rfl ?_
    refine HB.ev1 (i := 15) (by kernel_rfl) rfl ?_
    refine H.front (x := row vb _ _) (by repeat (first | exact .here _ _ | apply Pull.there)) ?_
    have hcat := concat_fn f (F := row nb 68 (.slice (some ⟨sb, 0, none⟩) N.row.length pc :: lostV N.lost 144) :: psl (some ⟨sb, 0, none⟩) pc N.row :: row ob 34 x.vals :: F) (sb := vb) (p1 := some ⟨sb, 0, none⟩) (p2 := slP (some ⟨sb, 0, none⟩) (k.toNat + 1) pc 14) (c1 := pc - 0) (c2 := pc - (k.toNat + 1)) (l1 := N.row.take k.toNat) (l2 := N.row.drop (k.toNat + 1))
      (fun G => by rw [hl1, ← flat_take Pkt.len]; exact Src.append (Src.slcTake (.there _ (.here _ _ _)) (by omega) hpl))
      (fun G => by rw [hl2, ← flat_drop Pkt.len _ (by omega)]; exact Src.append (Src.slcDrop (.there _ (.here _ _ _)) (by omega) hpl)) (by omega) (by omega)
    rw [hl1, hl2] at hcat
    refine H.callE2 rfl rfl rfl hcat fun p3 c3 => ?_
    repeat ((apply H.nil))
    refine H.front (x := row nb _ _) (by repeat (first | exact .here _ _ | apply Pull.there)) ?_
    refine H.on0 rfl ?_
    refine HB.next [] (by kernel_rfl) (S' := []) rfl ?_
    refine HB.quiet [(16, false), (17, false)] 1 (by kernel_rfl) ?_
    repeat (first | ((apply HQ.nilCheck); (iterate 3 exact rfl)) | (apply HQ.fieldAddr; (iterate 3 exact rfl); exact inferInstance; exact rfl))
    refine HQ.more rfl ?_
    refine HB.ev1 (i := 18) (by kernel_rfl) rfl ?_
    repeat (first | (apply H.nil) | (apply H.store1; (iterate 4 exact rfl); (repeat (exact .here _ _ _))))
    refine H.on0 rfl ?_
    refine HB.done (by kernel_rfl) ?_
    repeat ((first | apply H.seq | apply H.region | apply H.then_normal))
    refine H.drop (x := psl (some ⟨sb, 0, none⟩) pc N.row) (by repeat (first | exact .here _ _ | apply Pull.there)) ?_
    refine H.loadN (ls := x.vals) rfl rfl rfl (Rd.ofRow (by repeat (first | exact .here _ _ _ | apply At.there))) rfl rfl ?_
    repeat (((apply H.move); (iterate 3 exact rfl)))
    refine H.storeN (ls := x.vals) (vs := x.vals) (ls' := x.vals) rfl rfl rfl (allOne_mem rfl) rfl rfl (Nat.le_refl 14) (by repeat (first | exact .here _ _ _ | apply At.there)) ?_
    repeat (first | ((apply H.assign); (iterate 3 exact rfl)) | (first | apply H.nil | apply H.then_normal) | (apply H.ret))
    refine H.front (x := psl p3 c3 _) (by repeat (first | exact .here _ _ | apply Pull.there)) ?_
    refine H.front (x := row nb _ _) (by repeat (first | exact .here _ _ | apply Pull.there)) ?_
    refine H.front (x := row ob _ _) (by repeat (first | exact .here _ _ | apply Pull.there)) ?_
    have hi' : (∀ p ∈ (⟨N.row.take k.toNat ++ N.row.drop (k.toNat + 1), N.lost⟩ : NetM).row, p.Good h) ∧ (⟨N.row.take k.toNat ++ N.row.drop (k.toNat + 1), N.lost⟩ : NetM).row.length ≤ 256 := by
      refine ⟨fun p hp => hi.1 p ?_, ?_⟩
      · rcases List.mem_append.1 hp with hp | hp
        · exact List.mem_of_mem_take hp
        · exact List.mem_of_mem_drop hp
      · show (N.row.take k.toNat ++ N.row.drop (k.toNat + 1)).length ≤ 256
        rw [List.length_append, hl1, hl2]
        have := hi.2
        omega
    refine H.retCT (ls := x.vals) rfl rfl rfl rfl (Rd.ofRow (.here _ _ _)) rfl (fun _ s => (s.drop (.here _ _)).imp (netH_fold (p3, c3) hi')) ⟨x, ⟨N.row.take k.toNat ++ N.row.drop (k.toNat + 1), N.lost⟩, ?_, ?_, hxg, htook.symm, rfl, rfl⟩
    · rw [hgot]; rfl
    · rw [hgot]; rfl
  · have hgot : N.core.got k = none := by
      unfold NetC.got
      by_cases h0 : 0 ≤ k
      · rw [if_pos h0]
        exact List.getElem?_eq_none (by rw [NetM.core_len]; omega)
      · rw [if_neg h0]
    have htook : N.core.took k = N.core := by
      unfold NetC.took
      by_cases h0 : 0 ≤ k
      · rw [if_pos h0, List.eraseIdx_of_length_le (by rw [NetM.core_len]; omega)]
      · rw [if_neg h0]
    refine Fn.enter Try.func13 rfl Try.ntmps13 rfl (L := [(0, _), (1, _)]) ⟨rfl, rfl, trivial⟩ fun base => ?_
    repeat ((first | apply H.seq | apply H.region))
    refine H.alloc (ls := Pkt.zero.vals) rfl rfl rfl fun ob => ?_
    repeat (first | ((first | apply H.move | apply H.assign); (iterate 3 exact rfl)) | (first | apply H.seq | apply H.region | apply H.nil | apply H.then_normal))
    refine H.front (x := netH h nb N) (by repeat (first | exact .here _ _ | apply Pull.there)) ?_
    refine H.callR rfl rfl rfl (netHas_fn f _ h nb N k) ?_
    rw [decide_eq_false hk]
    repeat (first | ((first | apply H.move | apply H.assign); (iterate 3 exact rfl)) | (first | apply H.seq | apply H.region | apply H.nil | apply H.then_normal) | (apply H.cond_false; exact rfl) | (apply H.skip))
    refine H.loadN (ls := Pkt.zero.vals) rfl rfl rfl (Rd.ofRow (by repeat (first | exact .here _ _ _ | apply At.there))) rfl rfl ?_
    repeat (((apply H.move); (iterate 3 exact rfl)))
    refine H.storeN (ls := Pkt.zero.vals) (vs := Pkt.zero.vals) (ls' := Pkt.zero.vals) rfl rfl rfl (allOne_mem rfl) rfl rfl (Nat.le_refl 14) (by repeat (first | exact .here _ _ _ | apply At.there)) ?_
    repeat (first | ((apply H.assign); (iterate 3 exact rfl)) | (first | apply H.nil | apply H.then_normal) | (apply H.ret))
    refine H.front (x := row ob _ _) (by repeat (first | exact .here _ _ | apply Pull.there)) ?_
    refine H.retCT (ls := Pkt.zero.vals) rfl rfl rfl rfl (Rd.ofRow (.here _ _ _)) rfl (fun _ s => s.drop (.here _ _)) ⟨Pkt.zero, N, ?_, ?_, Pkt.zero_good h, htook.symm, rfl, rfl⟩
    · rw [hgot]; rfl
    · rw [hgot]; rfl
theorem netDrop_fn (k : Int) : Fn Try.prog 21 [.pointer (some ⟨nb, 0, none⟩), .int .i64 k] f (netH h nb N :: F)
    (fun v f' A' => ∃ N' : NetM, v = .bool (N.core.got k).isSome ∧ N'.core = N.core.took k ∧ f' = f ∧ A' = netH h nb N' :: F) := by
  refine Fn.enter Try.func21 rfl Try.ntmps21 rfl (L := [(0, _), (1, _)]) ⟨rfl, rfl, trivial⟩ fun base => ?_
  repeat (first | ((first | apply H.move | apply H.assign); (iterate 3 exact rfl)) | (first | apply H.seq | apply H.region | apply H.nil | apply H.then_normal))
  refine H.call rfl rfl rfl (netTake_fn f F h nb N k) fun v f' A' hr => ?_
  obtain ⟨p, N', rfl, hc, hg, hN, rfl, rfl⟩ := hr
  repeat (first | ((apply H.move); (iterate 3 exact rfl)) | ((apply H.extract); (iterate 4 exact rfl)))
  refine H.alloc (ls := Pkt.zero.vals) rfl rfl rfl fun ob => ?_
  refine H.storeN (ls := Pkt.zero.vals) (vs := p.vals) (ls' := p.vals) rfl rfl rfl (allOne_mem rfl) rfl rfl (Nat.le_refl 14) (by repeat (first | exact .here _ _ _ | apply At.there)) ?_
  repeat (first | ((first | apply H.move | apply H.assign); (iterate 3 exact rfl)) | (first | apply H.seq | apply H.region | apply H.nil | apply H.then_normal) | (apply H.ret))
  refine H.drop (.here _ _) ?_
  exact H.ret1 rfl rfl (fun _ h => h) ⟨N', rfl, hN, rfl, rfl⟩
theorem netCut_fn (i j : Int) : Fn Try.prog 9 [.pointer (some ⟨nb, 0, none⟩), .int .i64 i, .int .i64 j] f (netH h nb N :: F)
    (fun v f' A' => ∃ N' : NetM, v = .int .i64 (N.core.cut i j).1 ∧ N'.core = (N.core.cut i j).2 ∧ f' = f ∧ A' = netH h nb N' :: F) := by
  unfold NetC.cut
  by_cases hp : pairP i j
  · rw [if_pos hp]
    have hpp := hp
    obtain ⟨a1, a2, a3, a4, _⟩ := hpp
    have hn : (!true) = false := rfl
    have ei : ((i.toNat : Nat) : Int) = i := by omega
    have ej : ((j.toNat : Nat) : Int) = j := by omega
    refine Fn.enter Try.func9 rfl Try.ntmps9 rfl (L := [(0, _), (1, _), (2, _)]) ⟨rfl, rfl, rfl, trivial⟩ fun base => ?_
    repeat (first | ((first | apply H.move | apply H.assign); (iterate 3 exact rfl)) | (first | apply H.seq | apply H.region | apply H.nil | apply H.then_normal) | ((apply H.ptrNil); (iterate 5 exact rfl)) | (apply H.cond_false; exact rfl) | (apply H.skip))
    refine H.callR rfl rfl rfl (pair_fn f _ i j) ?_
    rw [decide_eq_true hp]
    repeat (first | ((first | apply H.move | apply H.nilCheck); (iterate 3 exact rfl)) | (apply H.fieldAddr; (iterate 3 exact rfl); exact inferInstance; exact rfl) | (first | apply H.seq | apply H.region | apply H.nil | apply H.then_normal) | ((apply H.not); (iterate 4 exact rfl)) | (apply H.cond_false; exact rfl) | (apply H.skip))
    refine H.unpack fun ii hi => ?_
    skip
    refine H.index_arrT rfl rfl rfl (by omega) rfl ?_
    refine H.index_arrT rfl rfl rfl (by omega) rfl ?_
    refine H.store1 rfl rfl rfl rfl (.here _ _ _) (lost_set _ _ _ (by omega) (by omega)) ?_
    repeat (first | ((first | apply H.move | apply H.nilCheck); (iterate 3 exact rfl)) | (apply H.fieldAddr; (iterate 3 exact rfl); exact inferInstance; exact rfl) | (first | apply H.seq | apply H.region | apply H.nil | apply H.then_normal))
    refine H.index_arrT rfl rfl rfl (by omega) rfl ?_
    refine H.index_arrT rfl rfl rfl (by omega) rfl ?_
    refine H.store1 rfl rfl rfl rfl (.here _ _ _) (lost_set _ _ _ (by omega) (by omega)) ?_
    repeat (first | ((apply H.assign); (iterate 3 exact rfl)) | (first | apply H.seq | apply H.region | apply H.nil | apply H.then_normal) | (apply H.ret))
    exact H.ret1 rfl rfl (netH_fold (N := ⟨N.row, updB (updB N.lost (i.toNat * 12 + j.toNat) true) (j.toNat * 12 + i.toNat) true⟩) ii hi) ⟨⟨N.row, _⟩, rfl, rfl, rfl, rfl⟩
  · rw [if_neg hp]
    have hn : (!false) = true := rfl
    refine Fn.enter Try.func9 rfl Try.ntmps9 rfl (L := [(0, _), (1, _), (2, _)]) ⟨rfl, rfl, rfl, trivial⟩ fun base => ?_
    repeat (first | ((first | apply H.move | apply H.assign); (iterate 3 exact rfl)) | (first | apply H.seq | apply H.region | apply H.nil | apply H.then_normal) | ((apply H.ptrNil); (iterate 5 exact rfl)) | (apply H.cond_false; exact rfl) | (apply H.skip))
    refine H.callR rfl rfl rfl (pair_fn f _ i j) ?_
    rw [decide_eq_false hp]
    repeat (first | ((apply H.assign); (iterate 3 exact rfl)) | (first | apply H.seq | apply H.region | apply H.nil | apply H.then_normal) | ((apply H.not); (iterate 4 exact rfl)) | (apply H.cond_true; exact rfl) | (first | apply H.ret | apply H.then_ret))
    exact H.ret1 rfl rfl (fun _ h => h) ⟨N, rfl, rfl, rfl, rfl⟩
end
end Go.Proofs.Ytcaofnfemogleaa

/- Layer 24: the program's net: Heal; where there is none. -/
namespace Go.Proofs.Ytcaofnfemogleaa
set_option linter.unusedSectionVars false
set_option linter.unusedSimpArgs false
set_option linter.unusedVariables false
open Go
def NetC.heal (c : NetC) : NetC := { c with lost := fun _ => false }
section
variable (f : Frag) (F : List HP) (h : Frag) (nb : Nat) (N : NetM)
theorem netHeal_fn : Fn Try.prog 15 [.pointer (some ⟨nb, 0, none⟩)] f (netH h nb N :: F) (Ret (.tuple #[]) f (netH h nb ⟨N.row, fun _ => false⟩ :: F)) := by
  refine Fn.unpack fun i hi => ?_
  refine Fn.enter Try.func15 rfl Try.ntmps15 rfl (L := [(0, _)]) ⟨rfl, trivial⟩ fun base => ?_
  repeat (first | ((first | apply H.move | apply H.nilCheck); (iterate 3 exact rfl)) | (apply H.fieldAddr; (iterate 3 exact rfl); exact inferInstance; exact rfl) | (first | apply H.seq | apply H.region | apply H.nil | apply H.then_normal) | ((apply H.ptrNil); (iterate 5 exact rfl)) | (apply H.cond_true; exact rfl))
  refine H.sliceArr (lo := none) (hi := none) (mx := none) (lv := 0) (hv := 12) (mv := 12) rfl rfl rfl rfl rfl (fun h => by cases h) (by decide) (by decide) (by decide) rfl ?_
  have hz : ∀ s : Value, splice (s :: lostV N.lost 144) (0 + 1) (lostV (fun _ => false) 144) = s :: lostV (fun _ => false) 144 := fun s => by
    unfold splice
    rw [List.drop_eq_nil_of_le (by rw [List.length_cons, lostV_len, lostV_len]; omega), List.append_nil]
    rfl
  have e : (Builtin.zeroCells (Value.agg (List.replicate 12 (Value.bool false)).toArray).cells (11 + 1)).toList = lostV (fun _ => false) 144 := by kernel_rfl
  refine H.clear (m := 11) (ls' := .slice i.1 N.row.length i.2 :: lostV (fun _ => false) 144) rfl rfl ?_ ?_ ?_ ?_ (.here _ _ _) ?_
  · rw [e]; exact allOne_mem rfl
  · rw [e]; exact hz _
  · rw [e, List.length_cons, lostV_len, lostV_len]; omega
  · rw [e]; intro h; have := congrArg List.length h; rw [lostV_len] at this; cases this
  repeat ((apply H.nil))
  exact H.end0 rfl (netH_fold (N := ⟨N.row, fun _ => false⟩) i hi) ⟨rfl, rfl, rfl⟩
theorem netLen_nil : Fn Try.prog 12 [.pointer none] f F (Ret (.int .i64 0) f F) := by
  refine Fn.enter Try.func12 rfl Try.ntmps12 rfl (L := [(0, _)]) ⟨rfl, trivial⟩ fun base => ?_
  repeat (first | ((first | apply H.move | apply H.assign); (iterate 3 exact rfl)) | (first | apply H.seq | apply H.region | apply H.nil | apply H.then_normal) | ((apply H.ptrNil); (iterate 5 exact rfl)) | (apply H.cond_true; exact rfl) | (first | apply H.ret | apply H.then_ret))
  exact H.ret1 rfl rfl (fun _ h => h) ⟨rfl, rfl, rfl⟩
theorem netHas_nil (k : Int) : Fn Try.prog 27 [.pointer none, .int .i64 k] f F (Ret (.bool false) f F) := by
  by_cases h1 : 0 ≤ k
  · refine Fn.enter Try.func27 rfl Try.ntmps27 rfl (L := [(0, _), (1, _)]) ⟨rfl, rfl, trivial⟩ fun base => ?_
    repeat (first | ((first | apply H.move | apply H.assign); (iterate 3 exact rfl)) | (first | apply H.seq | apply H.region | apply H.nil | apply H.then_normal) | ((apply H.cmp); (iterate 5 exact rfl)) | (apply H.gyes; (iterate 3 exact rfl); (assumption)))
    refine H.callR rfl rfl rfl (netLen_nil f F) ?_
    repeat (first | ((apply H.assign); (iterate 3 exact rfl)) | (first | apply H.nil | apply H.then_normal) | ((apply H.cmp); (iterate 5 exact rfl)) | (apply H.pickT; (iterate 4 exact rfl)) | (apply H.ret))
    refine H.ret1 rfl rfl (fun _ h => h) ⟨?_, rfl, rfl⟩
    rw [decide_eq_false (by omega)]
  · refine Fn.enter Try.func27 rfl Try.ntmps27 rfl (L := [(0, _), (1, _)]) ⟨rfl, rfl, trivial⟩ fun base => ?_
    repeat (first | ((first | apply H.move | apply H.assign); (iterate 3 exact rfl)) | (first | apply H.seq | apply H.region | apply H.nil | apply H.then_normal) | ((apply H.cmp); (iterate 5 exact rfl)) | (apply H.pass; (iterate 2 exact rfl)) | ((apply H.pickF); (iterate 4 exact rfl)) | (apply H.ret) | (apply H.gno; (iterate 3 exact rfl); (assumption)))
    exact H.ret1 rfl rfl (fun _ h => h) ⟨rfl, rfl, rfl⟩
theorem netTake_nil (k : Int) : Fn Try.prog 13 [.pointer none, .int .i64 k] f F (Ret (.tuple #[.agg Pkt.zero.vals.toArray, .bool false]) f F) := by
  refine Fn.enter Try.func13 rfl Try.ntmps13 rfl (L := [(0, _), (1, _)]) ⟨rfl, rfl, trivial⟩ fun base => ?_
  repeat ((first | apply H.seq | apply H.region))
  refine H.alloc (ls := Pkt.zero.vals) rfl rfl rfl fun ob => ?_
  repeat (first | ((first | apply H.move | apply H.assign); (iterate 3 exact rfl)) | (first | apply H.seq | apply H.region | apply H.nil | apply H.then_normal))
  refine H.callR rfl rfl rfl (netHas_nil f _ k) ?_
  repeat (first | ((first | apply H.move | apply H.assign); (iterate 3 exact rfl)) | (first | apply H.seq | apply H.region | apply H.nil | apply H.then_normal) | (apply H.cond_false; exact rfl) | (apply H.skip))
  refine H.loadN (ls := Pkt.zero.vals) rfl rfl rfl (Rd.ofRow (by repeat (first | exact .here _ _ _ | apply At.there))) rfl rfl ?_
  repeat (((apply H.move); (iterate 3 exact rfl)))
  refine H.storeN (ls := Pkt.zero.vals) (vs := Pkt.zero.vals) (ls' := Pkt.zero.vals) rfl rfl rfl (allOne_mem rfl) rfl rfl (Nat.le_refl 14) (by repeat (first | exact .here _ _ _ | apply At.there)) ?_
  repeat (first | ((apply H.assign); (iterate 3 exact rfl)) | (first | apply H.nil | apply H.then_normal) | (apply H.ret))
  exact H.retCT (ls := Pkt.zero.vals) rfl rfl rfl rfl (Rd.ofRow (.here _ _ _)) rfl (fun _ s => s.drop (.here _ _)) ⟨rfl, rfl, rfl⟩
theorem netDrop_nil (k : Int) : Fn Try.prog 21 [.pointer none, .int .i64 k] f F (Ret (.bool false) f F) := by
  refine Fn.enter Try.func21 rfl Try.ntmps21 rfl (L := [(0, _), (1, _)]) ⟨rfl, rfl, trivial⟩ fun base => ?_
  repeat (first | ((first | apply H.move | apply H.assign); (iterate 3 exact rfl)) | (first | apply H.seq | apply H.region | apply H.nil | apply H.then_normal))
  refine H.callR rfl rfl rfl (netTake_nil f F k) ?_
  repeat (first | ((apply H.move); (iterate 3 exact rfl)) | ((apply H.extract); (iterate 4 exact rfl)))
  refine H.alloc (ls := Pkt.zero.vals) rfl rfl rfl fun ob => ?_
  refine H.storeN (ls := Pkt.zero.vals) (vs := Pkt.zero.vals) (ls' := Pkt.zero.vals) rfl rfl rfl (allOne_mem rfl) rfl rfl (Nat.le_refl 14) (by repeat (first | exact .here _ _ _ | apply At.there)) ?_
  repeat (first | ((first | apply H.move | apply H.assign); (iterate 3 exact rfl)) | (first | apply H.seq | apply H.region | apply H.nil | apply H.then_normal) | (apply H.ret))
  refine H.drop (.here _ _) ?_
  exact H.ret1 rfl rfl (fun _ h => h) ⟨rfl, rfl, rfl⟩
theorem netPut_nil {p : Pkt} : Fn Try.prog 10 [.pointer none, .agg p.vals.toArray] f F (Ret (.int .i64 2) f F) := by
  refine Fn.enter Try.func10 rfl Try.ntmps10 rfl (L := [(0, _), (1, _)]) ⟨rfl, rfl, trivial⟩ fun base => ?_
  repeat ((first | apply H.seq | apply H.region))
  refine H.box (ls := p.vals) rfl rfl rfl rfl fun pb => ?_
  repeat (first | ((first | apply H.move | apply H.assign); (iterate 3 exact rfl)) | (first | apply H.seq | apply H.region | apply H.nil | apply H.then_normal) | ((apply H.ptrNil); (iterate 5 exact rfl)) | (apply H.cond_true; exact rfl) | (first | apply H.ret | apply H.then_ret))
  refine H.drop (.here _ _) ?_
  exact H.ret1 rfl rfl (fun _ h => h) ⟨rfl, rfl, rfl⟩
theorem netTwice_nil (k : Int) : Fn Try.prog 11 [.pointer none, .int .i64 k] f F (Ret (.int .i64 2) f F) := by
  refine Fn.enter Try.func11 rfl Try.ntmps11 rfl (L := [(0, _), (1, _)]) ⟨rfl, rfl, trivial⟩ fun base => ?_
  repeat (first | ((first | apply H.move | apply H.assign); (iterate 3 exact rfl)) | (first | apply H.seq | apply H.region | apply H.nil | apply H.then_normal) | ((apply H.ptrNil); (iterate 5 exact rfl)) | (apply H.cond_true; exact rfl) | (first | apply H.ret | apply H.then_ret))
  exact H.ret1 rfl rfl (fun _ h => h) ⟨rfl, rfl, rfl⟩
theorem netCut_nil (i j : Int) : Fn Try.prog 9 [.pointer none, .int .i64 i, .int .i64 j] f F (Ret (.int .i64 2) f F) := by
  refine Fn.enter Try.func9 rfl Try.ntmps9 rfl (L := [(0, _), (1, _), (2, _)]) ⟨rfl, rfl, rfl, trivial⟩ fun base => ?_
  repeat (first | ((first | apply H.move | apply H.assign); (iterate 3 exact rfl)) | (first | apply H.seq | apply H.region | apply H.nil | apply H.then_normal) | ((apply H.ptrNil); (iterate 5 exact rfl)) | (apply H.cond_true; exact rfl) | (first | apply H.ret | apply H.then_ret))
  exact H.ret1 rfl rfl (fun _ h => h) ⟨rfl, rfl, rfl⟩
theorem netHeal_nil : Fn Try.prog 15 [.pointer none] f F (Ret (.tuple #[]) f F) := by
  refine Fn.enter Try.func15 rfl Try.ntmps15 rfl (L := [(0, _)]) ⟨rfl, trivial⟩ fun base => ?_
  repeat (first | ((apply H.move); (iterate 3 exact rfl)) | (first | apply H.seq | apply H.region | apply H.nil | apply H.then_normal) | ((apply H.ptrNil); (iterate 5 exact rfl)) | (apply H.cond_false; exact rfl) | (apply H.skip))
  exact H.end0 rfl (fun _ h => h) ⟨rfl, rfl, rfl⟩
end
end Go.Proofs.Ytcaofnfemogleaa

/- Layer 24: the document's net. -/
namespace Go.Proofs.Ytcaofnfemogleaa
set_option linter.unusedSectionVars false
set_option linter.unusedSimpArgs false
set_option linter.unusedVariables false
open Go
def NetC.rput (c : NetC) (p : Core) : Int × NetC := if p.may = true then (if c.lost ((p.src.toNat - 1) * 11 + (p.dst.toNat - 1)) = true then (0, c) else c.push p) else (1, c)
def NetC.rcut (c : NetC) (i j : Int) : Int × NetC := if pairP i j then (0, { c with lost := updB (updB c.lost ((i.toNat - 1) * 11 + (j.toNat - 1)) true) ((j.toNat - 1) * 11 + (i.toNat - 1)) true }) else (1, c)
/-- The document's net at rb; its packets' messages lie in h. -/
def refH (h : Frag) (rb : Nat) (N : NetM) : HP := pack (fun _ : Option Addr × Nat => (∀ p ∈ N.row, p.Good h) ∧ N.row.length ≤ 256)
  (fun i => [row rb 48 (.slice i.1 N.row.length i.2 :: lostV N.lost 121), psl i.1 i.2 N.row])
theorem refH_fold {h : Frag} {nb : Nat} {N : NetM} {F : List HP} (i : Option Addr × Nat) (hi : (∀ p ∈ N.row, p.Good h) ∧ N.row.length ≤ 256) :
    ∀ x, stars (row nb 48 (.slice i.1 N.row.length i.2 :: lostV N.lost 121) :: psl i.1 i.2 N.row :: F) x → stars (refH h nb N :: F) x :=
  pack_fold (B := fun i : Option Addr × Nat => [row nb 48 (.slice i.1 N.row.length i.2 :: lostV N.lost 121), psl i.1 i.2 N.row]) (A := F) i hi
theorem rlost_rd {f : Frag} {A A' : List HP} {nb : Nat} {T : TypeId} {s : Value} {c : Nat → Bool} (h : At A (row nb T (s :: lostV c 121)) A' (row nb T (s :: lostV c 121))) {i j : Nat} (hi : i < 11) (hj : j < 11) : Rd1 f A nb (0 + 1 + i * 11 + j * 1) (.bool (c (i * 11 + j))) := by
  have h1 := Rd.ofRow (f := f) h
  have h2 : (s :: lostV c 121)[1 + (i * 11 + j)]? = some (.bool (c (i * 11 + j))) := by
    rw [Nat.add_comm 1, List.getElem?_cons_succ]
    exact lostV_get c (by omega)
  have h3 := Rd1.of h1 h2
  rw [show 0 + 1 + i * 11 + j * 1 = 0 + (1 + (i * 11 + j)) by omega]
  exact h3
theorem rlost_set (s : Value) (c : Nat → Bool) (b : Bool) {i j : Nat} (hi : i < 11) (hj : j < 11) : SetV (s :: lostV c 121) (0 + 1 + i * 11 + j * 1) (.bool b) (s :: lostV (updB c (i * 11 + j) b) 121) := by
  rw [show 0 + 1 + i * 11 + j * 1 = (i * 11 + j) + 1 by omega]
  exact .there _ (lostV_set c b (by omega))
section
variable (f : Frag) (F : List HP) (h : Frag) (nb : Nat) (N : NetM)
theorem rmmay_fn {x : MV} (hx : x.Good f) : Fn Try.prog 32 [.agg x.vals.toArray] f F (Ret (.bool x.m.may) f F) :=
  rmay_fn (m := x.m) (qc := x.qc) f F hx.1 (by have := hx.2.1; omega)
theorem rnetMay_fn {p : Pkt} (hp : p.Good f) : Fn Try.prog 19 [.agg p.vals.toArray] f F (Ret (.bool p.core.may) f F) := by
  rw [← Pkt.may_core]
  obtain ⟨hat, hgood, hlen⟩ := hp
  by_cases h1 : pairP p.src p.dst
  · have hn : (!true) = false := rfl
    by_cases h2 : p.msgs.length ≤ 8
    · refine Fn.enter Try.func19 rfl Try.ntmps19 rfl (L := [(0, _)]) ⟨rfl, trivial⟩ fun base => ?_
      repeat ((first | apply H.seq | apply H.region))
      refine H.box (ls := p.vals) rfl rfl rfl rfl fun pb => ?_
      repeat (first | ((apply H.assign); (iterate 3 exact rfl)) | (apply H.fieldAddr; (iterate 3 exact rfl); exact inferInstance; exact rfl) | (apply H.load1; (iterate 3 exact rfl); apply Rd1.ofRow; (repeat (exact .here _ _ _)); (iterate 2 exact rfl)) | (first | apply H.seq | apply H.region | apply H.nil | apply H.then_normal))
      refine H.callR rfl rfl rfl (two_fn f _ p.src p.dst) ?_
      rw [decide_eq_true h1]
      repeat (first | ((first | apply H.move | apply H.assign | apply H.len_slice); (iterate 3 exact rfl)) | (apply H.fieldAddr; (iterate 3 exact rfl); exact inferInstance; exact rfl) | (apply H.load1; (iterate 3 exact rfl); apply Rd1.ofRow; (repeat (exact .here _ _ _)); (iterate 2 exact rfl)) | (first | apply H.seq | apply H.region | apply H.nil | apply H.then_normal) | ((apply H.cmp); (iterate 5 exact rfl)) | ((first | apply H.pickF | apply H.not); (iterate 4 exact rfl)) | (first | apply H.skip | apply H.block) | (apply H.cond_no; exact rfl; (omega)))
      refine H.loop (ι := Nat) (fun i => [(3, .int .i64 (i : Int)), (1, .pointer (some ⟨pb, 0, none⟩))]) (fun _ => f) (fun _ => row pb 34 p.vals :: F)
        (fun i => i ≤ p.msgs.length ∧ (p.msgs.all fun x => x.m.may) = ((p.msgs.drop i).all fun x => x.m.may)) (fun i => p.msgs.length - i) 0 ⟨Nat.zero_le _, rfl⟩ ⟨rfl, rfl, trivial⟩ rfl rfl fun i hi => ?_
      obtain ⟨hi, hall⟩ : i ≤ p.msgs.length ∧ (p.msgs.all fun x => x.m.may) = ((p.msgs.drop i).all fun x => x.m.may) := hi
      by_cases hlt : i < p.msgs.length
      · obtain ⟨x, hx⟩ : ∃ x, p.msgs[i]? = some x := ⟨p.msgs[i], List.getElem?_eq_getElem hlt⟩
        have hxg : x.Good f := hgood x (List.mem_of_getElem? hx)
        have hdr : p.msgs.drop i = x :: p.msgs.drop (i + 1) := by
          rw [List.getElem?_eq_getElem hlt] at hx
          rw [← Option.some.inj hx]; exact List.drop_eq_getElem_cons hlt
        rw [hdr, List.all_cons] at hall
        obtain ⟨b, off, cs, T, fr, hmp, hfb, hcs⟩ := hat i x hx
        have rd : ∀ A, Rd f A b (off + i * 121) x.vals := fun A => Rd.imm hfb hcs
        clear hcs hfb
        repeat (first | ((first | apply H.move | apply H.len_slice); (iterate 3 exact rfl)) | (apply H.fieldAddr; (iterate 3 exact rfl); exact inferInstance; exact rfl) | (apply H.load1; (iterate 3 exact rfl); apply Rd1.ofRow; (repeat (exact .here _ _ _)); (iterate 2 exact rfl)) | (first | apply H.seq | apply H.region | apply H.nil | apply H.then_normal) | ((apply H.cmp); (iterate 5 exact rfl)) | (first | apply H.skip | apply H.block) | (apply H.cond_yes; exact rfl; (omega)))
        refine H.index_slice (b := b) (off := off) rfl (by rw [← hmp]; rfl) rfl rfl hlt rfl ?_
        refine H.loadN (ls := x.vals) rfl rfl rfl (rd _) rfl rfl ?_
        refine H.callR rfl rfl rfl (rmmay_fn f _ hxg) ?_
        cases hxm : x.m.may with
        | true =>
          rw [hxm, Bool.true_and] at hall
          repeat (first | ((first | apply H.move | apply H.assign); (iterate 3 exact rfl)) | (first | apply H.region | apply H.nil | apply H.then_normal) | ((apply H.ar; (iterate 4 exact rfl)); (with_reducible apply wr_i64_n1; omega); exact rfl) | ((apply H.not); (iterate 4 exact rfl)) | (apply H.cond_false; exact rfl) | (first | apply H.skip | apply H.in_normal))
          exact H.again (i + 1) ⟨by show i + 1 ≤ p.msgs.length; omega, hall⟩ (by show p.msgs.length - (i + 1) < p.msgs.length - i; omega) ⟨rfl, rfl, trivial⟩ rfl rfl
        | false =>
          rw [hxm, Bool.false_and] at hall
          have hn : (!false) = true := rfl
          repeat (first | ((apply H.assign); (iterate 3 exact rfl)) | (first | apply H.seq | apply H.region | apply H.nil | apply H.then_normal) | ((apply H.not); (iterate 4 exact rfl)) | (apply H.cond_true; exact rfl) | (first | apply H.ret | apply H.then_ret | apply H.in_ret | apply H.loop_ret))
          refine H.drop (.here _ _) ?_
          refine H.ret1 rfl rfl (fun _ h => h) ⟨?_, rfl, rfl⟩
          unfold Pkt.may
          rw [hall]; rfl
      · have hil : i = p.msgs.length := by omega
        subst hil
        rw [List.drop_length] at hall
        repeat (first | ((first | apply H.move | apply H.assign | apply H.len_slice); (iterate 3 exact rfl)) | (apply H.fieldAddr; (iterate 3 exact rfl); exact inferInstance; exact rfl) | (apply H.load1; (iterate 3 exact rfl); apply Rd1.ofRow; (repeat (exact .here _ _ _)); (iterate 2 exact rfl)) | (first | apply H.seq | apply H.region | apply H.nil | apply H.then_normal) | ((apply H.cmp); (iterate 5 exact rfl)) | (first | apply H.ret | apply H.then_exit | apply H.exit | apply H.in_hit | apply H.loop_exit) | (apply H.cond_no; exact rfl; (omega)))
        refine H.drop (.here _ _) ?_
        refine H.ret1 rfl rfl (fun _ h => h) ⟨?_, rfl, rfl⟩
        unfold Pkt.may
        rw [hall, decide_eq_true h1, decide_eq_true h2]
        rfl
    · refine Fn.enter Try.func19 rfl Try.ntmps19 rfl (L := [(0, _)]) ⟨rfl, trivial⟩ fun base => ?_
      repeat ((first | apply H.seq | apply H.region))
      refine H.box (ls := p.vals) rfl rfl rfl rfl fun pb => ?_
      repeat (first | ((apply H.assign); (iterate 3 exact rfl)) | (apply H.fieldAddr; (iterate 3 exact rfl); exact inferInstance; exact rfl) | (apply H.load1; (iterate 3 exact rfl); apply Rd1.ofRow; (repeat (exact .here _ _ _)); (iterate 2 exact rfl)) | (first | apply H.seq | apply H.region | apply H.nil | apply H.then_normal))
      refine H.callR rfl rfl rfl (two_fn f _ p.src p.dst) ?_
      rw [decide_eq_true h1]
      repeat (first | ((first | apply H.move | apply H.assign | apply H.len_slice); (iterate 3 exact rfl)) | (apply H.fieldAddr; (iterate 3 exact rfl); exact inferInstance; exact rfl) | (apply H.load1; (iterate 3 exact rfl); apply Rd1.ofRow; (repeat (exact .here _ _ _)); (iterate 2 exact rfl)) | (first | apply H.seq | apply H.region | apply H.nil | apply H.then_normal) | ((apply H.cmp); (iterate 5 exact rfl)) | ((first | apply H.pickF | apply H.not); (iterate 4 exact rfl)) | (first | apply H.ret | apply H.then_ret) | (apply H.cond_yes; exact rfl; (omega)))
      refine H.drop (.here _ _) ?_
      refine H.ret1 rfl rfl (fun _ h => h) ⟨?_, rfl, rfl⟩
      unfold Pkt.may
      rw [decide_eq_false h2]; simp
  · have hn : (!false) = true := rfl
    refine Fn.enter Try.func19 rfl Try.ntmps19 rfl (L := [(0, _)]) ⟨rfl, trivial⟩ fun base => ?_
    repeat ((first | apply H.seq | apply H.region))
    refine H.box (ls := p.vals) rfl rfl rfl rfl fun pb => ?_
    repeat (first | ((apply H.assign); (iterate 3 exact rfl)) | (apply H.fieldAddr; (iterate 3 exact rfl); exact inferInstance; exact rfl) | (apply H.load1; (iterate 3 exact rfl); apply Rd1.ofRow; (repeat (exact .here _ _ _)); (iterate 2 exact rfl)) | (first | apply H.seq | apply H.region | apply H.nil | apply H.then_normal))
    refine H.callR rfl rfl rfl (two_fn f _ p.src p.dst) ?_
    rw [decide_eq_false h1]
    repeat (first | ((first | apply H.move | apply H.assign | apply H.len_slice); (iterate 3 exact rfl)) | (first | apply H.seq | apply H.region | apply H.nil | apply H.then_normal) | (apply H.pass; (iterate 2 exact rfl)) | (apply H.pickT; (iterate 4 exact rfl)) | ((apply H.not); (iterate 4 exact rfl)) | (apply H.cond_true; exact rfl) | (first | apply H.ret | apply H.then_ret))
    refine H.drop (.here _ _) ?_
    refine H.ret1 rfl rfl (fun _ h => h) ⟨?_, rfl, rfl⟩
    unfold Pkt.may
    rw [decide_eq_false h1]; simp
def RefR (f h : Frag) (rb : Nat) (F : List HP) (r : Int × NetC) : Value → Frag → List HP → Prop := fun v f' A' =>
  ∃ (N : NetM), v = .int .i64 r.1 ∧ N.core = r.2 ∧ f' = f ∧ A' = refH h rb N :: F
theorem rnetPut_fn {p : Pkt} (hh : Le h f) (hp : p.Good h) : Fn Try.prog 18 [.pointer (some ⟨nb, 0, none⟩), .agg p.vals.toArray] f (refH h nb N :: F) (RefR f h nb F (N.core.rput p.core)) := by
  have hmay := fun G => rnetMay_fn f G (hp.mono hh)
  unfold NetC.rput
  by_cases hm : p.core.may = true
  · rw [if_pos hm]
    rw [hm] at hmay
    have hpp : pairP p.src p.dst := pairP_of_may hm
    obtain ⟨a1, a2, a3, a4, _⟩ := hpp
    have hn : (!true) = false := rfl
    have hlost : N.core.lost ((p.core.src.toNat - 1) * 11 + (p.core.dst.toNat - 1)) = N.lost ((p.src.toNat - 1) * 11 + (p.dst.toNat - 1)) := rfl
    rw [hlost]
    refine Fn.enter Try.func18 rfl Try.ntmps18 rfl (L := [(0, _), (1, _)]) ⟨rfl, rfl, trivial⟩ fun base => ?_
    repeat ((first | apply H.seq | apply H.region))
    refine H.box (ls := p.vals) rfl rfl rfl rfl fun pb => ?_
    repeat (first | ((apply H.assign); (iterate 3 exact rfl)) | (first | apply H.seq | apply H.region | apply H.nil | apply H.then_normal))
    refine H.loadN (ls := p.vals) rfl rfl rfl (Rd.ofRow (by repeat (first | exact .here _ _ _ | apply At.there))) rfl rfl ?_
    refine H.callR rfl rfl rfl (hmay _) ?_
    repeat (first | (first | apply H.seq | apply H.nil | apply H.then_normal) | ((apply H.not); (iterate 4 exact rfl)) | (apply H.cond_false; exact rfl) | (apply H.skip))
    refine H.front (x := refH h nb N) (by repeat (first | exact .here _ _ | apply Pull.there)) ?_
    refine H.unpack fun i hi => ?_
    have hcl : N.core.row.length = N.row.length := NetM.core_len N
    refine H.drawQ (by kernel_rfl) (by decide +kernel) (by first | exact blind_fn | exact blind_seq blind_fn | exact blind_seq (blind_seq blind_fn) | (repeat (first | exact blind_fn | refine blind_seq ?_ | refine blind_block ?_ | refine blind_loop ?_))) ?_
    repeat (first | (apply HQ.index_array (i := p.src.toNat - 1) (sz := 11); (iterate 3 exact rfl); omega; omega; exact rfl) | (apply HQ.index_array (i := p.dst.toNat - 1) (sz := 1); (iterate 3 exact rfl); omega; omega; exact rfl) | (apply HQ.load1; (iterate 3 exact rfl); exact rlost_rd (.here _ _ _) (by omega) (by omega); exact rfl) | ((first | apply HQ.move | apply HQ.nilCheck); (iterate 3 exact rfl)) | (apply HQ.fieldAddr; (iterate 3 exact rfl); exact inferInstance; exact rfl) | (apply HQ.load1; (iterate 3 exact rfl); apply Rd1.ofRow; (repeat (first | exact .here _ _ _ | apply At.there)); (iterate 2 exact rfl)) | ((apply HQ.done0); exact rfl) | ((apply HQ.ar; (iterate 4 exact rfl)); (with_reducible apply wr_i64; omega); exact rfl))
    cases hl : N.lost ((p.src.toNat - 1) * 11 + (p.dst.toNat - 1)) with
    | true =>
      rw [if_pos rfl]
      repeat (first | ((apply H.assign); (iterate 3 exact rfl)) | (first | apply H.seq | apply H.region | apply H.nil | apply H.then_normal) | (apply H.cond_true; exact rfl) | (first | apply H.ret | apply H.then_ret))
      refine H.drop (x := row pb _ _) (by repeat (first | exact .here _ _ | apply Pull.there)) ?_
      exact H.ret1 rfl rfl (refH_fold i hi) ⟨N, rfl, rfl, rfl, rfl⟩
    | false =>
      rw [if_neg (by decide)]
      unfold NetC.push
      rw [hcl]
      by_cases hf : 256 ≤ N.row.length
      · rw [if_pos hf]
        repeat (first | ((first | apply H.move | apply H.assign | apply H.nilCheck | apply H.len_slice); (iterate 3 exact rfl)) | (apply H.fieldAddr; (iterate 3 exact rfl); exact inferInstance; exact rfl) | (apply H.load1; (iterate 3 exact rfl); apply Rd1.ofRow; (repeat (exact .here _ _ _)); (iterate 2 exact rfl)) | (first | apply H.seq | apply H.region | apply H.nil | apply H.then_normal) | ((apply H.cmp); (iterate 5 exact rfl)) | (apply H.cond_false; exact rfl) | (first | apply H.skip | apply H.ret | apply H.then_ret) | (apply H.cond_yes; exact rfl; (omega)))
        refine H.drop (x := row pb _ _) (by repeat (first | exact .here _ _ | apply Pull.there)) ?_
        exact H.ret1 rfl rfl (refH_fold i hi) ⟨N, rfl, rfl, rfl, rfl⟩
      · rw [if_neg hf]
        repeat (first | ((first | apply H.move | apply H.nilCheck | apply H.len_slice); (iterate 3 exact rfl)) | (apply H.fieldAddr; (iterate 3 exact rfl); exact inferInstance; exact rfl) | (apply H.load1; (iterate 3 exact rfl); apply Rd1.ofRow; (repeat (exact .here _ _ _)); (iterate 2 exact rfl)) | (first | apply H.seq | apply H.region | apply H.nil | apply H.then_normal) | ((apply H.cmp); (iterate 5 exact rfl)) | (apply H.cond_false; exact rfl) | (apply H.skip) | (apply H.cond_no; exact rfl; (omega)))
        refine H.front (x := row pb _ _) (by repeat (first | exact .here _ _ | apply Pull.there)) ?_
        refine H.drawC [0, 1, 2, 3, 4, 5, 6, 7] (by kernel_rfl) (by decide +kernel) (by first | exact blind_fn | exact blind_seq blind_fn | exact blind_seq (blind_seq blind_fn) | (repeat (first | exact blind_fn | refine blind_seq ?_ | refine blind_block ?_ | refine blind_loop ?_))) (S := [_, _]) rfl ?_
        refine HB.quiet [(0, false), (1, false), (2, false), (3, false), (4, false), (5, false)] 5 (by kernel_rfl) ?_
        repeat (first | ((first | apply HQ.move | apply HQ.nilCheck); (iterate 3 exact rfl)) | (apply HQ.fieldAddr; (iterate 3 exact rfl); exact inferInstance; exact rfl) | (apply HQ.load1; (iterate 3 exact rfl); apply Rd1.ofRow; (repeat (first | exact .here _ _ _ | apply At.there)); (iterate 2 exact rfl)))
        refine HQ.loadN (ls := p.vals) rfl rfl rfl (Rd.ofRow (by repeat (first | exact .here _ _ _ | apply At.there))) rfl rfl ?_
        refine HQ.more rfl ?_
        refine HB.ev1 (i := 6) (by kernel_rfl) rfl ?_
        refine H.buildSlice (out := p.vals) rfl rfl rfl rfl (by decide) (by decide) rfl rfl fun tb => ?_
        repeat ((apply H.nil))
        refine H.front (x := row nb _ _) (by repeat (first | exact .here _ _ | apply Pull.there)) ?_
        refine H.front (x := row pb _ _) (by repeat (first | exact .here _ _ | apply Pull.there)) ?_
        refine H.on0 rfl ?_
        refine HB.ev1 (i := 7) (by kernel_rfl) rfl ?_
        refine H.append (m := 1) (xs := N.row.flatMap Pkt.vals) (news := p.vals) rfl rfl rfl rfl rfl (fun p' c' => (by repeat (first | exact .here _ _ _ | apply At.there))) (Src.slice (Rd.ofRow (.there _ (.there _ (.here _ _ _)))) rfl) (allOne_mem rfl) rfl (by omega) (by omega) fun p3 c3 => ?_
        repeat ((apply H.nil))
        refine H.on0 rfl ?_
        refine HB.next [] (by kernel_rfl) (S' := []) rfl ?_
        refine HB.quiet [(8, false), (9, false)] 1 (by kernel_rfl) ?_
        repeat (first | ((apply HQ.nilCheck); (iterate 3 exact rfl)) | (apply HQ.fieldAddr; (iterate 3 exact rfl); exact inferInstance; exact rfl))
        refine HQ.more rfl ?_
        refine HB.ev1 (i := 10) (by kernel_rfl) rfl ?_
        repeat (first | (apply H.nil) | (apply H.store1; (iterate 4 exact rfl); (repeat (first | exact .here _ _ _ | apply At.there))))
        refine H.on0 rfl ?_
        refine HB.done (by kernel_rfl) ?_
        repeat (first | ((apply H.assign); (iterate 3 exact rfl)) | (first | apply H.seq | apply H.region | apply H.nil | apply H.then_normal) | (apply H.ret))
        refine H.drop (x := row pb _ _) (by repeat (first | exact .here _ _ | apply Pull.there)) ?_
        refine H.drop (x := row tb _ _) (by repeat (first | exact .here _ _ | apply Pull.there)) ?_
        have e1 : (N.row ++ [p]).length = N.row.length + 1 := by rw [List.length_append]; rfl
        have e2 : (N.row ++ [p]).flatMap Pkt.vals = N.row.flatMap Pkt.vals ++ p.vals := by simp
        have hfold := refH_fold (h := h) (nb := nb) (N := ⟨N.row ++ [p], N.lost⟩) (F := F) (p3, c3) ⟨fun x hx => ?_, by show (N.row ++ [p]).length ≤ 256; rw [e1]; omega⟩
        · unfold psl at hfold
          rw [e1, e2] at hfold
          refine H.ret1 rfl rfl hfold ⟨⟨N.row ++ [p], N.lost⟩, rfl, ?_, rfl, rfl⟩
          simp [NetM.core]
        · rcases List.mem_append.1 hx with hx | hx
          · exact hi.1 x hx
          · rw [List.mem_singleton] at hx
            subst hx
            exact hp
  · rw [if_neg hm]
    rw [Bool.eq_false_iff.2 hm] at hmay
    have hn : (!false) = true := rfl
    refine Fn.enter Try.func18 rfl Try.ntmps18 rfl (L := [(0, _), (1, _)]) ⟨rfl, rfl, trivial⟩ fun base => ?_
    repeat ((first | apply H.seq | apply H.region))
    refine H.box (ls := p.vals) rfl rfl rfl rfl fun pb => ?_
    repeat (first | ((apply H.assign); (iterate 3 exact rfl)) | (first | apply H.seq | apply H.region | apply H.nil | apply H.then_normal))
    refine H.loadN (ls := p.vals) rfl rfl rfl (Rd.ofRow (by repeat (first | exact .here _ _ _ | apply At.there))) rfl rfl ?_
    refine H.callR rfl rfl rfl (hmay _) ?_
    repeat (first | ((apply H.assign); (iterate 3 exact rfl)) | (first | apply H.seq | apply H.region | apply H.nil | apply H.then_normal) | ((apply H.not); (iterate 4 exact rfl)) | (apply H.cond_true; exact rfl) | (first | apply H.ret | apply H.then_ret))
    refine H.drop (x := row pb _ _) (by repeat (first | exact .here _ _ | apply Pull.there)) ?_
    exact H.ret1 rfl rfl (fun _ h => h) ⟨N, rfl, rfl, rfl, rfl⟩
end
end Go.Proofs.Ytcaofnfemogleaa
