/- Parts of the proof, one behind the other, each under its own heading. No conditions. -/
import Derived.Test.YtdcjlgigcbinjaaGreatDoorZ04
import Derived.Laws.MakeOwn
import Derived.OpenShut
import Derived.Test.YtdcjlgigcbinjaaGreatDoorRows
set_option linter.unusedSectionVars false
set_option linter.unusedSimpArgs false
set_option linter.unusedVariables false
/- Layer 2: the program's digest. Condition: the table of the standard stands in the fragment. -/
namespace Go.Proofs.YtdcjlgigcbinjaaGreatDoor
open Go
theorem Fn.frozen {P : Program} {fid : FuncId} {args : List Value} {f : Frag} {F F' : List HP} {x : HP} {v : Value} (h : ∀ g, x g → Dj f g → Fn P fid args (un f g) F (Ret v (un f g) F')) : Fn P fid args f (x :: F) (Ret v f (x :: F')) := fun base w s => by
 obtain ⟨g, hx, hd, s'⟩ := s.freeze (.here F x)
 refine (h g hx hd base w s').mono ?_
 rintro e w' ⟨u, f', A', rfl, ⟨rfl, rfl, rfl⟩, s2⟩
 exact ⟨_, f, _, rfl, ⟨rfl, rfl, rfl⟩, s2.thaw hx hd⟩
theorem row_bat {f g : Frag} {b : Nat} {T : TypeId} {l : List UInt8} (h : row b T (bytesV l) g) (hd : Dj f g) : BAt (un f g) (some ⟨b, 0, none⟩) l := by
 have hg : g = sing b (.cells (bytesV l).toArray T (0, 0)) := h
 refine .inr ⟨b, 0, (bytesV l).toArray, T, (0, 0), rfl, ?_, fun i hi => by simp⟩
 have : f b = none := by
  rcases hd b with h | h
  ·exact h
  ·rw [hg] at h
   simp [sing] at h
 unfold un
 rw [this, hg]
 simp [sing]
theorem fill_splice {a z : List Value} {i k : Nat} (hz : z.length = a.length) (h : i + k ≤ a.length) : splice (a.take i ++ z.drop i) i ((a.drop i).take k) = a.take (i + k) ++ z.drop (i + k) := by
 have hl : (a.take i).length = i := by rw [List.length_take]; omega
 have hk : ((a.drop i).take k).length = k := by rw [List.length_take, List.length_drop]; omega
 have d1 : (a.take i ++ z.drop i).drop (i + k) = z.drop (i + k) := by
  rw [List.drop_append, hl, @List.drop_eq_nil_of_le _ (a.take i) (i + k) (by rw [hl]; omega), List.nil_append, List.drop_drop]
  congr 1
  omega
 have t1 : (a.take i ++ z.drop i).take i = a.take i := by rw [List.take_append_of_le_length (by omega), List.take_of_length_le (by omega)]
 unfold splice
 rw [hk, t1, d1, List.take_add]
theorem padZ_lt (n : Nat) : Sha.padZ n < 64 := by unfold Sha.padZ; omega
theorem zal {ls vs : List Value} (h : vs.length = ls.length) : splice ls 0 vs = vs := by
 unfold splice
 rw [List.take_zero, List.nil_append, Nat.zero_add, h, List.drop_length, List.append_nil]
theorem hRow_one (s : Sha.S8) (part : List UInt8) (n all : Nat) : ∀ v ∈ hRow s part n all, one v = true := fun v hv => by
 unfold hRow at hv
 rw [List.mem_append, List.mem_append] at hv
 rcases hv with (hv | hv) | hv
 ·exact zae (l := s.vals) rfl v hv
 ·exact zai part v hv
 ·exact zae (l := [.int .i64 (n : Nat), .int .u64 (all : Nat)]) rfl v hv
def endB (b : List UInt8) (j : Nat) : List UInt8 := b ++ [0x80] ++ List.replicate j 0
theorem endB_len (b : List UInt8) (j : Nat) : (endB b j).length = b.length + 1 + j := by
 unfold endB
 rw [List.length_append, List.length_append, List.length_replicate]
 rfl
theorem endB_succ (b : List UInt8) (j : Nat) : endB b j ++ [0] = endB b (j + 1) := by
 unfold endB
 rw [List.append_assoc, List.replicate_succ']
theorem HSt.n_eq {b : List UInt8} {s : Sha.S8} {part : List UInt8} {n : Nat} (h : HSt b s part n) : n = b.length % 64 := by
 obtain ⟨⟨q, h1, _, _⟩, h4, _⟩ := h
 omega
theorem HSt.s_eq {b : List UInt8} {s : Sha.S8} {part : List UInt8} {n : Nat} (h : HSt b s part n) : s = Sha.blocks Sha.start b (b.length / 64) := by
 obtain ⟨⟨q, h1, h2, _⟩, h4, _⟩ := h
 rw [h2]
 congr 1
 omega
def four (x : UInt32) : List UInt8 := [(x >>> (UInt32.ofNat 24)).toUInt8, (x >>> (UInt32.ofNat 16)).toUInt8, (x >>> (UInt32.ofNat 8)).toUInt8, x.toUInt8]
theorem shr0 (x : UInt32) : x >>> (UInt32.ofNat 0) = x := by
 apply UInt32.toBitVec_inj.1
 simp
theorem four_out (s : Sha.S8) {i : Nat} (h : i < 8) : four (s.get i) = ((b32L s.out).drop (4 * i)).take 4 := by
 match i, h with
 | 0, _ => show _ = [s.out 0, s.out 1, s.out 2, s.out 3]; unfold four Sha.S8.out; rw [show (24 - 8 * (3 % 4)) = 0 from rfl, shr0]
 | 1, _ => show _ = [s.out 4, s.out 5, s.out 6, s.out 7]; unfold four Sha.S8.out; rw [show (24 - 8 * (7 % 4)) = 0 from rfl, shr0]
 | 2, _ => show _ = [s.out 8, s.out 9, s.out 10, s.out 11]; unfold four Sha.S8.out; rw [show (24 - 8 * (11 % 4)) = 0 from rfl, shr0]
 | 3, _ => show _ = [s.out 12, s.out 13, s.out 14, s.out 15]; unfold four Sha.S8.out; rw [show (24 - 8 * (15 % 4)) = 0 from rfl, shr0]
 | 4, _ => show _ = [s.out 16, s.out 17, s.out 18, s.out 19]; unfold four Sha.S8.out; rw [show (24 - 8 * (19 % 4)) = 0 from rfl, shr0]
 | 5, _ => show _ = [s.out 20, s.out 21, s.out 22, s.out 23]; unfold four Sha.S8.out; rw [show (24 - 8 * (23 % 4)) = 0 from rfl, shr0]
 | 6, _ => show _ = [s.out 24, s.out 25, s.out 26, s.out 27]; unfold four Sha.S8.out; rw [show (24 - 8 * (27 % 4)) = 0 from rfl, shr0]
 | 7, _ => show _ = [s.out 28, s.out 29, s.out 30, s.out 31]; unfold four Sha.S8.out; rw [show (24 - 8 * (31 % 4)) = 0 from rfl, shr0]
def outRow (t : Nat → UInt8) (i : Nat) : List Value := (bytesV (b32L t)).take i ++ (List.replicate 32 (.int .u8 0)).drop i
theorem outRow_splice (s : Sha.S8) {i : Nat} (h : i < 8) : splice (outRow s.out (4 * i)) (4 * i) (bytesV (four (s.get i))) = outRow s.out (4 * (i + 1)) := by
 rw [four_out s h]
 unfold outRow
 have e : bytesV (((b32L s.out).drop (4 * i)).take 4) = ((bytesV (b32L s.out)).drop (4 * i)).take 4 := by unfold bytesV; rw [List.map_take, List.map_drop]
 rw [e, fill_splice (by rw [List.length_replicate]; rfl) (by show 4 * i + 4 ≤ 32; omega), show 4 * (i + 1) = 4 * i + 4 by omega]
section
variable (f : Frag) (F : List HP)
theorem swriteO_fn (htab : TabAt f) {hb cb : Nat} {T : TypeId} {b c : List UInt8} {cap : Nat} (hcap : c.length ≤ cap) (hl : b.length + c.length ≤ 1000000000000) : Fn Tryz.prog 76 [.pointer (some ⟨hb, 0, none⟩), .slice (some ⟨cb, 0, none⟩) c.length cap] f (row cb T (bytesV c) :: hashH hb b :: F) (Ret (.tuple #[]) f (row cb T (bytesV c) :: hashH hb (b ++ c) :: F)) :=
 Fn.frozen fun g hg hd => swrite_fn (un f g) F (IntsAt.mono (Le.un f g) htab) (row_bat hg hd) hcap hl
set_option maxRecDepth 20000 in
set_option maxHeartbeats 1600000 in
theorem hsum_fn (htab : TabAt f) {hb : Nat} {b : List UInt8} (hl : b.length ≤ 1000000000) : Fn Tryz.prog 77 [.pointer (some ⟨hb, 0, none⟩)] f (hashH hb b :: F) (Ret (.agg (b32 (Sha.sum b)).toArray) f (hashH hb b :: F)) := by
 have e1 : IntKind.u64.wrap (((b.length : Nat) : Int) * 8) = ((b.length * 8 : Nat) : Int) := by rw [wr_u64 (by omega)]; omega
 have hpad := padZ_lt b.length
 refine Fn.enter Tryz.func77 rfl Tryz.ntmps77 rfl (L := [(0, _)]) ⟨rfl, trivial⟩ fun base => ?_
 refine gA ?_
 refine H.Am (ls := outRow (Sha.sum b) 0) rfl rfl rfl fun ob => ?_
 refine gA ?_
 refine H.callE rfl rfl rfl (snew_fn f _) fun eb => ?_
 refine gG ?_
 refine H.unpack fun i0 hi0 => ?_
 obtain ⟨s1, part1, n1⟩ := i0
 have hi0 : HSt [] s1 part1 n1 := hi0
 refine H.Aa (x := hashH hb b) (by repeat constructor) ?_
 refine H.unpack fun i1 hi1 => ?_
 obtain ⟨s0, part0, n0⟩ := i1
 have hi1 : HSt b s0 part0 n0 := hi1
 show H _ _ _ _ _ (row hb _ (hRow s0 part0 n0 b.length) :: _) _
 refine H.Ag (ls := hRow s0 part0 n0 b.length) rfl rfl rfl (Rd.ofRow (by repeat constructor)) (hRow_len _ _ _ _ hi1.len) rfl ?_
 refine H.imp (hashH_fold hi1) ?_
 refine H.Aa (x := row ob _ _) (by repeat constructor) ?_
 refine H.Aa (x := row eb _ _) (by repeat constructor) ?_
 show H _ _ _ _ _ (row eb _ (hRow s1 part1 n1 0) :: _) _
 refine gO ?_
 refine H.Ak (ls := hRow s1 part1 n1 0) (vs := hRow s0 part0 n0 b.length) (ls' := hRow s0 part0 n0 b.length) rfl rfl rfl (hRow_one _ _ _ _) (hRow_len _ _ _ _ hi1.len) (zal (by rw [hRow_len _ _ _ _ hi1.len, hRow_len _ _ _ _ hi0.len])) (by rw [hRow_len _ _ _ _ hi1.len, hRow_len _ _ _ _ hi0.len]; decide) (by repeat constructor) ?_
 repeat (first | (refine H.Ad rfl rfl rfl (.at0 (Rd.ofRow (by repeat constructor)) (hRow_all s0 part0 n0 b.length hi1.len)) rfl ?_) | (apply H.ar; (iterate 4 exact rfl); exact e1; exact rfl) | ((first | apply H.Aj | apply H.Ar | apply H.Ax); (iterate 3 exact rfl)) | (apply H.Aq; (iterate 3 exact rfl); exact inferInstance; exact rfl) | (first | apply H.seq | apply H.Au | apply H.nil | apply H.Av))
 refine H.Aa (x := row eb _ _) (by repeat constructor) ?_
 refine H.imp (hashH_fold hi1) ?_
 refine H.Be (out := bytesV [0x80]) rfl rfl rfl rfl (by decide) (by decide) rfl rfl fun cb => ?_
 refine H.Ah rfl rfl rfl (swriteO_fn f _ htab (c := [0x80]) (Nat.le_refl 1) (by show b.length + 1 ≤ _; omega)) ?_
 refine H.Ab (.here _ _) ?_
 clear hi0 hi1
 refine gX ?_
 refine H.Aw (ι := Nat) (fun j => [(3, .pointer (some ⟨eb, 0, none⟩)), (2, .pointer (some ⟨ob, 0, none⟩)), (4, .int .u64 ((b.length * 8 : Nat) : Int))]) (fun _ => f)
  (fun j => hashH eb (endB b j) :: row ob 47 (outRow (Sha.sum b) 0) :: hashH hb b :: F) (fun j => j ≤ Sha.padZ b.length) (fun j => Sha.padZ b.length - j) 0 (Nat.zero_le _) ⟨rfl, rfl, rfl, trivial⟩ rfl (by rw [show endB b 0 = b ++ [0x80] from List.append_nil _]) fun j hj => ?_
 have hj : j ≤ Sha.padZ b.length := hj
 refine H.unpack fun i1 hi1 => ?_
 obtain ⟨s0, part0, n0⟩ := i1
 have hi1 : HSt (endB b j) s0 part0 n0 := hi1
 have hn := hi1.n_eq
 rw [endB_len] at hn
 show H _ _ _ _ _ (row eb _ (hRow s0 part0 n0 (endB b j).length) :: _) _
 by_cases hlt : j < Sha.padZ b.length
 ·have hne : n0 ≠ 56 := by rw [hn]; exact Sha.pad_not hlt
  repeat (first | (refine H.Ad rfl rfl rfl (.at0 (Rd.ofRow (by repeat constructor)) (hRow_n s0 part0 n0 _ hi1.len)) rfl ?_) | ((first | apply H.Aj | apply H.Ax); (iterate 3 exact rfl)) | (apply H.Aq; (iterate 3 exact rfl); exact inferInstance; exact rfl) | (first | apply H.seq | apply H.Au | apply H.nil | apply H.Av) | ((apply H.cmp); (iterate 5 exact rfl)) | (first | apply H.Bk | apply H.Bl) | (apply H.Bq; exact rfl; (omega)))
  refine H.imp (hashH_fold hi1) ?_
  refine H.Be (out := bytesV [0]) rfl rfl rfl rfl (by decide) (by decide) rfl rfl fun cb => ?_
  refine H.Ah rfl rfl rfl (swriteO_fn f _ htab (c := [0]) (Nat.le_refl 1) (by rw [endB_len]; show b.length + 1 + j + 1 ≤ _; omega)) ?_
  refine H.Ab (.here _ _) ?_
  refine gX ?_
  exact H.Ao (j + 1) (by show j + 1 ≤ _; omega) (by show Sha.padZ b.length - (j + 1) < Sha.padZ b.length - j; omega) ⟨rfl, rfl, rfl, trivial⟩ rfl (by rw [endB_succ]; rfl)
 ·have hjp : j = Sha.padZ b.length := by omega
  have hne : n0 = 56 := by rw [hn, hjp]; exact Sha.pad_is _
  repeat (first | (refine H.Ad rfl rfl rfl (.at0 (Rd.ofRow (by repeat constructor)) (hRow_n s0 part0 n0 _ hi1.len)) rfl ?_) | ((first | apply H.Aj | apply H.Ar | apply H.Ax); (iterate 3 exact rfl)) | (apply H.Aq; (iterate 3 exact rfl); exact inferInstance; exact rfl) | (first | apply H.seq | apply H.Au | apply H.nil | apply H.Av) | ((apply H.cmp); (iterate 5 exact rfl)) | (first | apply H.By | apply H.exit | apply H.Bl | apply H.Bw | apply H.Ca) | (apply H.Bu; exact rfl; (omega)))
  refine H.imp (hashH_fold hi1) ?_
  rw [hjp]
  clear hi1 hn hne hlt hj hjp
  have hel := endB_len b (Sha.padZ b.length)
  refine H.Aw (ι := Nat) (fun i => [(5, .int .i64 (7 - (i : Int))), (3, .pointer (some ⟨eb, 0, none⟩)), (2, .pointer (some ⟨ob, 0, none⟩)), (4, .int .u64 ((b.length * 8 : Nat) : Int))]) (fun _ => f)
   (fun i => hashH eb (endB b (Sha.padZ b.length) ++ beTop 8 ((b.length * 8 : Nat) : Int) i) :: row ob 47 (outRow (Sha.sum b) 0) :: hashH hb b :: F) (fun i => i ≤ 8) (fun i => 8 - i) 0 (Nat.zero_le _) ⟨rfl, rfl, rfl, rfl, trivial⟩ rfl (by rw [show beTop 8 ((b.length * 8 : Nat) : Int) 0 = [] from rfl, List.append_nil]; rfl) fun i hi => ?_
  have hi : i ≤ 8 := hi
  show H _ _ _ ((5, .int .i64 (7 - (i : Int))) :: _) _ _ _
  generalize hbits : ((b.length * 8 : Nat) : Int) = nb at *
  by_cases hlt : i < 8
  ·have e2 : IntKind.i64.wrap (8 * (7 - (i : Int))) = 8 * (7 - (i : Int)) := wr_i64 (by omega)
   have hexp : min (8 * (7 - (i : Int))).toNat IntKind.u64.bits = 8 * (8 - 1 - i) := by simp only [IntKind.bits]; omega
   have hsh : nb.fdiv (2 ^ (min (8 * (7 - (i : Int))).toNat IntKind.u64.bits)) = nb.fdiv (2 ^ (8 * (8 - 1 - i))) := by rw [hexp]
   repeat (first | (apply H.ar; (iterate 4 exact rfl); exact e2; exact rfl) | ((apply H.Aj); (iterate 3 exact rfl)) | (first | apply H.seq | apply H.Au | apply H.nil | apply H.Av) | ((apply H.cmp); (iterate 5 exact rfl)) | (first | apply H.Bk | apply H.Bl) | (apply H.Bq; exact rfl; (omega)))
   refine H.shift rfl rfl rfl rfl (by omega) hsh rfl ?_
   refine H.Bh rfl rfl (byteAt_wrap nb (8 - 1 - i)) rfl ?_
   refine H.Be (out := bytesV [byteAt nb (8 - 1 - i)]) rfl rfl rfl rfl (by decide) (by decide) rfl rfl fun cb => ?_
   refine H.Ah rfl rfl rfl (swriteO_fn f _ htab (c := [byteAt nb (8 - 1 - i)]) (Nat.le_refl 1) (by rw [List.length_append, hel, beTop_len]; show _ + 1 ≤ _; omega)) ?_
   refine H.Ab (.here _ _) ?_
   refine ge ?_
   refine H.know (d := 5) (u := .int .i64 (7 - ((i + 1 : Nat) : Int))) rfl (congrArg (Value.int .i64) (by omega)) ?_
   exact H.Ao (i + 1) (by show i + 1 ≤ 8; omega) (by show 8 - (i + 1) < 8 - i; omega) ⟨rfl, rfl, rfl, rfl, trivial⟩ rfl (by show _ = hashH eb (endB b (Sha.padZ b.length) ++ (beTop 8 nb i ++ [byteAt nb (8 - 1 - i)])) :: _; rw [List.append_assoc])
  ·have hi8 : i = 8 := by omega
   subst hi8
   refine gY ?_
   refine H.unpack fun i1 hi1 => ?_
   obtain ⟨s0, part0, n0⟩ := i1
   have hi1 : HSt (endB b (Sha.padZ b.length) ++ beTop 8 nb 8) s0 part0 n0 := hi1
   have hpd : endB b (Sha.padZ b.length) ++ beTop 8 nb 8 = Sha.padded b := by rw [← hbits]; rfl
   have hs := hi1.s_eq
   rw [hpd] at hs
   have hsum : Sha.sum b = s0.out := by rw [hs]; rfl
   rw [hsum]
   show H _ _ _ _ _ (row eb _ (hRow s0 part0 n0 _) :: _) _
   repeat (first | (refine H.Ag (ls := s0.vals) rfl rfl rfl (hRow_rds (by repeat constructor)) rfl rfl ?_) | ((apply H.Aj); (iterate 3 exact rfl)) | (first | apply H.nil | apply H.Av) | (apply H.Bl))
   clear hs hsum hpd hi1
   refine H.Ab (x := row eb _ _) (by repeat constructor) ?_
   refine H.Aw (ι := Nat) (fun i => [(48, .int .i64 (i : Int)), (47, .agg s0.vals.toArray), (2, .pointer (some ⟨ob, 0, none⟩))]) (fun _ => f)
    (fun i => row ob 47 (outRow s0.out (4 * i)) :: hashH hb b :: F) (fun i => i ≤ 8) (fun i => 8 - i) 0 (Nat.zero_le _) ⟨rfl, rfl, rfl, trivial⟩ rfl rfl fun i hi => ?_
   have hi : i ≤ 8 := hi
   by_cases hlt : i < 8
   ·have hg2 := Sha.S8.get_vals s0 hlt
    have hset := outRow_splice s0 hlt
    have e4 : IntKind.i64.wrap (4 * (i : Int)) = ((4 * i : Nat) : Int) := by rw [wr_i64 (by omega)]; omega
    show H _ _ _ _ _ (row ob _ (outRow s0.out (4 * i)) :: _) _
    generalize s0.get i = x at hg2 hset
    repeat (first | (apply H.ar; (iterate 4 exact rfl); exact e4; exact rfl) | ((first | apply H.Aj | apply H.Ar); (iterate 3 exact rfl)) | (first | apply H.seq | apply H.Au | apply H.nil | apply H.Av) | ((apply H.cmp); (iterate 5 exact rfl)) | (first | apply H.Bk | apply H.Bl) | (apply H.Bq; exact rfl; (omega)) | (apply H.indexV (i := i); (iterate 4 exact rfl); exact hlt; exact rfl; exact hg2; exact rfl))
    refine H.Cf (lo := some (.tmp 53)) (mx := none) (hi := none) (lv := 4 * i) (hv := 32) (mv := 32) rfl rfl ⟨_, _, rfl, rfl⟩ rfl rfl (fun h => by cases h) (by omega) (by omega) (by decide) rfl ?_
    rw [slP_ne (by omega)]
    refine gO ?_
    refine H.shift (op := .shr) rfl rfl rfl (u32_shr x 24 (by decide)) (by decide) rfl rfl ?_
    refine H.Bh rfl rfl (u8_ofU32 _) rfl ?_
    refine gO ?_
    refine H.shift (op := .shr) rfl rfl rfl (u32_shr x 16 (by decide)) (by decide) rfl rfl ?_
    refine H.Bh rfl rfl (u8_ofU32 _) rfl ?_
    refine gO ?_
    refine H.shift (op := .shr) rfl rfl rfl (u32_shr x 8 (by decide)) (by decide) rfl rfl ?_
    refine H.Bh rfl rfl (u8_ofU32 _) rfl ?_
    repeat (first | (refine H.Bh rfl rfl (u8_ofU32 x) rfl ?_) | ((apply H.Aj); (iterate 3 exact rfl)))
    refine H.Be (out := bytesV (four x)) rfl rfl rfl rfl (by decide) (by decide) rfl rfl fun cb => ?_
    refine H.copy (k0 := 4) (m := 4) (cs := bytesV (four x)) (ls := outRow s0.out (4 * i)) (ls' := outRow s0.out (4 * (i + 1))) rfl rfl rfl rfl
     (Src.slice (P := Tryz.prog) (f := f) (A := [row cb 5 (bytesV (four x))]) (sz := 1) (m := 4) (Rd.ofRow (by repeat constructor)) rfl).len (Nat.min_eq_left (by omega)) (Src.slice (m := 4) (Rd.ofRow (by repeat constructor)) rfl).copy
     (by rw [show 0 + 4 * i * 1 = 4 * i by omega]; exact hset) (by show 0 + 4 * i * 1 + 4 ≤ _; unfold outRow; rw [List.length_append, List.length_take, List.length_drop, List.length_replicate]; show _ ≤ min _ 32 + _; omega) (zai _) (by repeat constructor) ?_
    refine ge ?_
    refine H.Ab (x := row cb _ _) (by repeat constructor) ?_
    exact H.Ao (i + 1) (by show i + 1 ≤ 8; omega) (by show 8 - (i + 1) < 8 - i; omega) ⟨rfl, rfl, rfl, trivial⟩ rfl rfl
   ·have hi8 : i = 8 := by omega
    subst hi8
    refine gM ?_
    refine H.Ag (ls := b32 s0.out) rfl rfl rfl (Rd.ofRow (by repeat constructor)) rfl rfl ?_
    refine H.Ak (ls := b32 s0.out) (vs := b32 s0.out) (ls' := b32 s0.out) rfl rfl rfl (zae rfl) rfl rfl (Nat.le_refl 32) (by repeat constructor) ?_
    refine gX ?_
    exact H.Bd rfl rfl rfl (Rd.ofRow (by repeat constructor)) rfl (fun _ s => s.drop (.here _ _)) ⟨rfl, rfl, rfl⟩
end
theorem u8_bv (x : UInt8) : BitVec.ofInt 8 (x.toNat : Int) = x.toBitVec := by
 simp [BitVec.ofInt_natCast]
theorem u8_wrapN (x : UInt8) : IntKind.u8.wrap ((x.toNat : Nat) : Int) = (x.toNat : Int) := by
 have := x.toNat_lt
 rw [wr_u8 (by omega)]
theorem u8_xor (x y : UInt8) : bitsI .xor .u8 (x.toNat : Int) (y.toNat : Int) = some (((x ^^^ y).toNat : Nat) : Int) := by
 have e : (BitVec.ofInt 8 (x.toNat : Int) ^^^ BitVec.ofInt 8 (y.toNat : Int)).toNat = (x ^^^ y).toNat := by rw [u8_bv, u8_bv]; rfl
 show some (IntKind.u8.wrap ((BitVec.ofInt 8 (x.toNat : Int) ^^^ BitVec.ofInt 8 (y.toNat : Int)).toNat : Int)) = _
 rw [e, u8_wrapN]
namespace Sha
def full (key : List UInt8) : List UInt8 := key ++ List.replicate (64 - key.length) 0
def turn (key : List UInt8) (t : UInt8) : List UInt8 := (full key).map (· ^^^ t)
def hmac (key b : List UInt8) : Nat → UInt8 := sum (turn key 0x5c ++ b32L (sum (turn key 0x36 ++ b)))
def word32 (word : List UInt8) (i : Int) : List UInt8 := b32L (sum (word ++ be 8 i))
def replicaW : List UInt8 := [114, 97, 116, 99, 104, 101, 116, 32, 114, 101, 112, 108, 105, 99, 97]
def numbered (i n : Int) (b : List UInt8) : Nat → UInt8 := hmac (word32 replicaW i) (be 8 n ++ b)
theorem full_len {key : List UInt8} (h : key.length ≤ 64) : (full key).length = 64 := by
 unfold full; rw [List.length_append, List.length_replicate]; omega
theorem turn_len {key : List UInt8} (h : key.length ≤ 64) (t : UInt8) : (turn key t).length = 64 := by
 unfold turn; rw [List.length_map, full_len h]
end Sha
section
variable (f : Frag) (F : List HP)
theorem with_fn {p : Option Addr} {c : Nat} {key : List UInt8} {t : UInt8} (hs : Src Tryz.prog f F (.slice p key.length c) 1 key.length (bytesV key)) (hl : key.length ≤ 64) :
  Fn Tryz.prog 128 [.slice p key.length c, .int .u8 (t.toNat : Nat)] f F (BytesR (Sha.turn key t) f F) := by
 refine Fn.enter Tryz.func128 rfl Tryz.ntmps128 rfl (L := [(0, _), (1, _)]) ⟨rfl, rfl, trivial⟩ fun base => ?_
 refine gO ?_
 refine H.Be rfl rfl rfl rfl (by decide) (by decide) rfl rfl fun eb => ?_
 refine H.asSlc (k := 0) (sz := 1) rfl (by decide) ?_
 refine gO ?_
 refine H.Bf (xs := []) rfl rfl rfl rfl rfl (fun p' c' => .here _ _ _) hs.cons (zai key) rfl (by omega) (by omega) fun p1 c1 => ?_
 rw [Nat.zero_add, List.nil_append]
 refine gN ?_
 refine H.Aw (ι := Nat × Option Addr × Nat) (fun i => [(5, .slice i.2.1 (key ++ List.replicate i.1 0).length i.2.2), (1, .int .u8 (t.toNat : Nat))]) (fun _ => f)
  (fun i => slc i.2.1 (key ++ List.replicate i.1 0).length i.2.2 5 1 (bytesV (key ++ List.replicate i.1 0)) :: F) (fun i => i.1 ≤ 64 - key.length) (fun i => 64 - key.length - i.1) (0, p1, c1) (Nat.zero_le _) ⟨?_, rfl, trivial⟩ rfl ?_ fun i hi => ?_
 ·show some (Value.slice p1 key.length c1) = some (Value.slice p1 (key ++ []).length c1)
  rw [List.append_nil]
 ·show _ = slc p1 (key ++ []).length c1 _ 1 (bytesV (key ++ [])) :: F
  rw [List.append_nil]
 obtain ⟨i, p', c'⟩ := i
 have hi : i ≤ 64 - key.length := hi
 show H _ _ _ [(5, .slice p' (key ++ List.replicate i 0).length c'), _] _ (slc p' (key ++ List.replicate i 0).length c' _ 1 (bytesV (key ++ List.replicate i 0)) :: _) _
 have hal : (key ++ List.replicate i 0).length = key.length + i := by rw [List.length_append, List.length_replicate]
 by_cases hlt : i < 64 - key.length
 ·have e3 : key ++ List.replicate (i + 1) 0 = (key ++ List.replicate i 0) ++ [0] := by rw [List.replicate_succ', ← List.append_assoc]
  generalize key ++ List.replicate i 0 = acc at hal e3 ⊢
  refine gI ?_
  refine H.Be (out := bytesV [0]) rfl rfl rfl rfl (by decide) (by decide) rfl rfl fun tb => ?_
  refine H.Bf (m := 1) (xs := bytesV acc) rfl rfl rfl rfl rfl (fun p' c' => (by repeat constructor)) (Src.slice (Rd.ofRow (.here _ _ _)) rfl) (zai _) rfl (by omega) (by omega) fun p3 c3 => ?_
  refine H.Ab (x := row tb _ _) (by repeat constructor) ?_
  refine gX ?_
  refine H.Ao (i + 1, p3, c3) (by show i + 1 ≤ _; omega) (by show 64 - key.length - (i + 1) < 64 - key.length - i; omega) ⟨?_, rfl, trivial⟩ rfl ?_
  ·show some (Value.slice p3 (acc.length + 1) c3) = some (Value.slice p3 (key ++ List.replicate (i + 1) 0).length c3)
   rw [e3, List.length_append]; rfl
  ·show _ = slc p3 (key ++ List.replicate (i + 1) 0).length c3 _ 1 (bytesV (key ++ List.replicate (i + 1) 0)) :: _
   rw [e3, List.length_append, zag]; rfl
 ·have hip : i = 64 - key.length := by omega
  subst hip
  have hfl := Sha.full_len hl
  have htl := Sha.turn_len hl t
  have hget : ∀ i, i < 64 → (Sha.turn key t).getD i 0 = (Sha.full key).getD i 0 ^^^ t := fun i hi => by
   unfold Sha.turn
   rw [List.getD_eq_getElem?_getD, List.getElem?_map, List.getElem?_eq_getElem (by rw [hfl]; exact hi), List.getD_eq_getElem?_getD, List.getElem?_eq_getElem (by rw [hfl]; exact hi)]
   rfl
  have hfk : key ++ List.replicate (64 - key.length) 0 = Sha.full key := rfl
  rw [hfk] at hal ⊢
  generalize Sha.full key = K at hfl hget hal ⊢
  generalize Sha.turn key t = T at htl hget ⊢
  refine gN ?_
  refine H.Bp (.here _ _ _) (by omega) fun kb hp => ?_
  subst hp
  refine H.Aw (ι := Nat) (fun i => [(7, .int .i64 (i : Int)), (5, .slice (some ⟨kb, 0, none⟩) K.length c'), (1, .int .u8 (t.toNat : Nat))]) (fun _ => f)
   (fun i => slc (some ⟨kb, 0, none⟩) K.length c' 5 1 ((bytesV T).take i ++ (bytesV K).drop i) :: F) (fun i => i ≤ 64) (fun i => 64 - i) 0 (Nat.zero_le _) ⟨rfl, rfl, rfl, trivial⟩ rfl rfl fun i hi => ?_
  have hi : i ≤ 64 := hi
  have hTK : (bytesV T).length = (bytesV K).length := by rw [zaf, zaf, hfl, htl]
  by_cases hli : i < 64
  ·have hset : SetV ((bytesV T).take i ++ (bytesV K).drop i) i (.int .u8 ((K.getD i 0 ^^^ t).toNat : Nat)) ((bytesV T).take (i + 1) ++ (bytesV K).drop (i + 1)) := by
    rw [← hget i hli]
    exact fill_set (bytesV_get (by omega)) hTK
   have hg : ((bytesV T).take i ++ (bytesV K).drop i)[i]? = some (.int .u8 ((K.getD i 0).toNat : Nat)) := fill_get2 (Nat.le_refl _) hTK (bytesV_get (by omega))
   show H _ _ _ _ _ (slc _ _ _ _ _ ((bytesV T).take i ++ (bytesV K).drop i) :: _) _
   refine gI ?_
   refine H.index1 (i := i) rfl rfl rfl rfl (by omega) rfl ?_
   refine H.Ad rfl rfl rfl (.of (Rd.ofSlc (.here _ _ _) (by omega)) hg) rfl ?_
   refine gO ?_
   refine H.bits rfl rfl rfl (u8_xor _ _) rfl rfl ?_
   refine H.index1 (i := i) rfl rfl rfl rfl (by omega) rfl ?_
   refine H.store_slc (xs' := (bytesV T).take (i + 1) ++ (bytesV K).drop (i + 1)) rfl rfl rfl rfl (.here _ _ _) (by rw [Nat.zero_add]; exact hset) ?_
   refine ge ?_
   exact H.Ao (i + 1) (by show i + 1 ≤ 64; omega) (by show 64 - (i + 1) < 64 - i; omega) ⟨rfl, rfl, rfl, trivial⟩ rfl rfl
  ·have hi64 : i = 64 := by omega
   subst hi64
   have hfull : (bytesV T).take 64 ++ (bytesV K).drop 64 = bytesV T := by
    rw [List.take_of_length_le (by rw [zaf, htl]; exact Nat.le_refl _), List.drop_eq_nil_of_le (by rw [zaf, hfl]; exact Nat.le_refl _), List.append_nil]
   rw [hfull]
   have hKT : K.length = T.length := by omega
   rw [hKT]
   refine gM ?_
   exact H.Ac rfl rfl (fun _ h => h) ⟨_, c', rfl, rfl, rfl⟩
theorem hmac_fn {p r : Option Addr} {c d : Nat} {key b : List UInt8} (hs : ∀ G, Src Tryz.prog f (G ++ F) (.slice p key.length c) 1 key.length (bytesV key)) (hs2 : ∀ G, Src Tryz.prog f (G ++ F) (.slice r b.length d) 1 b.length (bytesV b)) (hl : key.length ≤ 64) (hl2 : b.length ≤ 100000000) :
  Fn Tryz.prog 99 [.slice p key.length c, .slice r b.length d] f F (Ret (.agg (b32 (Sha.hmac key b)).toArray) f F) := by
 refine Fn.enter Tryz.func99 rfl Tryz.ntmps99 rfl (L := [(0, _), (1, _)]) ⟨rfl, rfl, trivial⟩ fun base => ?_
 refine gA ?_
 refine H.Am (ls := zb 32) rfl rfl rfl fun ob => ?_
 refine gO ?_
 refine H.Az rfl rfl rfl (with_fn (t := 0x36) f _ (hs [_]) hl) fun p1 c1 => ?_
 have h1 := Sha.turn_len hl 0x36
 generalize hT : Sha.turn key 0x36 = T at h1
 refine gO ?_
 refine H.Bf (xs := bytesV T) rfl rfl rfl rfl rfl (fun p' c' => .here _ _ _) (hs2 [_, _]) (zai b) rfl (by omega) (by omega) fun p2 c2 => ?_
 have e1 : (T ++ b).length = T.length + b.length := List.length_append
 have e2 : bytesV (T ++ b) = bytesV T ++ bytesV b := zag _ _
 rw [← e1, ← e2]
 refine H.Ah rfl rfl rfl (rsum_fn f _ (b := T ++ b) (Src.slcS (.here _ _ _) (by rw [zaf]; exact (Nat.mul_one _).symm)) (by omega)) ?_
 refine H.Ab (.here _ _) ?_
 refine H.Am (ls := zb 32) rfl rfl rfl fun ib => ?_
 refine H.Ak (ls := zb 32) (vs := b32 (Sha.sum (T ++ b))) (ls' := b32 (Sha.sum (T ++ b))) rfl rfl rfl (zae rfl) rfl rfl (Nat.le_refl 32) (by repeat constructor) ?_
 generalize hin : Sha.sum (T ++ b) = inn
 refine gA ?_
 refine H.Ay (by kernel_rfl) (by decide +kernel) (by repeat (first | exact zab | refine zaa ?_ | refine zac ?_ | refine zad ?_)) (S := [_]) rfl ?_
 refine HB.Af [(0, false), (2, false)] 4 (by kernel_rfl) ?_
 refine gB ?_
 refine HQ.Cf (lo := none) (hi := none) (mx := none) (lv := 0) (hv := 32) (mv := 32) rfl rfl rfl rfl rfl (fun h => by cases h) (by decide) (by decide) (by decide) rfl ?_
 refine HQ.Ae rfl ?_
 refine HB.ev1 (i := 1) (by kernel_rfl) rfl ?_
 refine H.Az rfl rfl rfl (with_fn (t := 0x5c) f _ (hs [_, _]) hl) fun p3 c3 => ?_
 have h2 := Sha.turn_len hl 0x5c
 generalize hT2 : Sha.turn key 0x5c = T2 at h2
 refine gA ?_
 refine H.Aa (x := row ib _ _) (by repeat constructor) ?_
 refine H.on0 rfl ?_
 refine HB.ev1 (i := 3) (by kernel_rfl) rfl ?_
 refine H.Bf (xs := bytesV T2) (m := 32) (news := bytesV (b32L inn)) rfl rfl rfl rfl rfl (fun p' c' => (by repeat constructor)) (Src.slice (Rd.ofRow (.here _ _ _)) rfl) (zai _) rfl (by omega) (by omega) fun p4 c4 => ?_
 refine gA ?_
 refine H.on0 rfl ?_
 refine HB.ev1 (i := 4) (by kernel_rfl) rfl ?_
 have e3 : (T2 ++ b32L inn).length = T2.length + 32 := by rw [List.length_append]; rfl
 have e4 : bytesV (T2 ++ b32L inn) = bytesV T2 ++ bytesV (b32L inn) := zag _ _
 have hfin : Sha.hmac key b = Sha.sum (T2 ++ b32L inn) := by unfold Sha.hmac; rw [hT, hT2, hin]
 rw [hfin]
 generalize T2 ++ b32L inn = l4 at e3 e4 ⊢
 rw [← e3, ← e4]
 refine H.Ah rfl rfl rfl (rsum_fn f _ (b := l4) (Src.slcS (by repeat constructor) (by rw [zaf]; exact (Nat.mul_one _).symm)) (by omega)) ?_
 refine gA ?_
 refine H.on0 rfl ?_
 refine HB.ev1 (i := 5) (by kernel_rfl) rfl ?_
 refine H.Ak (ls := zb 32) (vs := b32 (Sha.sum l4)) (ls' := b32 (Sha.sum l4)) rfl rfl rfl (zae rfl) rfl rfl (Nat.le_refl 32) (by repeat constructor) ?_
 refine gA ?_
 refine H.on0 rfl ?_
 refine HB.Al (by kernel_rfl) ?_
 refine gX ?_
 refine H.Ab (.here _ _) ?_
 refine H.Ab (x := slc _ _ _ _ _ _) (by repeat constructor) ?_
 exact H.Bd rfl rfl rfl (Rd.ofRow (by repeat constructor)) rfl (fun _ s => s.drop (.here _ _)) ⟨rfl, rfl, rfl⟩
end
def Msg.signed (m : Msg) : Msg := if m.may = true then { m with tag := Sha.numbered m.origin m.number m.tagged } else m
theorem Msg.tagged_len {m : Msg} (h : m.may = true) : m.tagged.length ≤ 3000 := by
 have h1 := Bod.may_spec (Msg.may_body h)
 have h2 := Bod.may_q (Msg.may_body h)
 have h3 := (putK_len m.body m.body.kind.toNat h1.2.2 h2).2
 unfold Msg.tagged Bod.put
 simp only [List.length_append, List.length_cons, List.length_nil, depsB_len]
 omega
section
variable (f : Frag) (F : List HP)
theorem rkey_fn {w : ByteArray} {i most : Int} (h1 : 1 ≤ i) (h2 : i ≤ most) (h3 : most ≤ 1000) (hw : w.size ≤ 1000) :
  Fn Tryz.prog 129 [.string w, .int .i64 i, .int .i64 most] f F (BytesR (Sha.word32 w.data.toList i) f F) := by
 have hwl := data_len w
 refine Fn.enter Tryz.func129 rfl Tryz.ntmps129 rfl (L := [(0, _), (1, _), (2, _)]) ⟨rfl, rfl, rfl, trivial⟩ fun base => ?_
 refine gZ ?_
 refine H.convSB rfl rfl rfl fun sb sc => ?_
 refine ge ?_
 have hs : Src Tryz.prog f (strRow sb w sc 5 :: F) (.slice (some ⟨sb, 0, none⟩) w.data.toList.length sc) 1 w.data.toList.length (bytesV w.data.toList) := by
  rw [hwl]; exact Src.strRow (.here _ _ _)
 have hfn := zbb (n := i) f _ hs (by omega)
 rw [hwl] at hfn
 refine H.Az rfl rfl rfl hfn fun p1 c1 => ?_
 have e1 : (w.data.toList ++ be 8 i).length ≤ 2000 := by rw [List.length_append, be_len, hwl]; omega
 unfold Sha.word32
 generalize w.data.toList ++ be 8 i = l1 at e1
 refine H.Ah rfl rfl rfl (rsum_fn f _ (b := l1) (Src.slcS (.here _ _ _) (by rw [zaf]; exact (Nat.mul_one _).symm)) (by omega)) ?_
 refine H.Ab (.here _ _) ?_
 refine H.Ab (.here _ _) ?_
 refine H.Am (ls := zb 32) rfl rfl rfl fun db => ?_
 refine H.Ak (ls := zb 32) (vs := b32 (Sha.sum l1)) (ls' := b32 (Sha.sum l1)) rfl rfl rfl (zae rfl) rfl rfl (Nat.le_refl 32) (by repeat constructor) ?_
 generalize Sha.sum l1 = d
 refine gA ?_
 refine H.Be rfl rfl rfl rfl (by decide) (by decide) rfl rfl fun eb => ?_
 refine H.asSlc (k := 0) (sz := 1) rfl (by decide) ?_
 refine H.Cf (lo := none) (hi := none) (mx := none) (lv := 0) (hv := 32) (mv := 32) rfl rfl rfl rfl rfl (fun h => by cases h) (by decide) (by decide) (by decide) rfl ?_
 refine H.Bf (xs := []) (m := 32) (news := bytesV (b32L d)) rfl rfl rfl rfl rfl (fun p' c' => .here _ _ _) (Src.slice (Rd.ofRow (.there _ (.here _ _ _))) rfl) (zai _) rfl (by omega) (by omega) fun p4 c4 => ?_
 refine gX ?_
 refine H.Ab (x := row db _ _) (by repeat constructor) ?_
 exact H.Ac rfl rfl (fun _ h => h) ⟨p4, c4, rfl, rfl, rfl⟩
theorem rreplica_fn {i : Int} (h1 : 1 ≤ i) (h2 : i ≤ 11) : Fn Tryz.prog 100 [.int .i64 i] f F (BytesR (Sha.word32 Sha.replicaW i) f F) := by
 refine Fn.enter Tryz.func100 rfl Tryz.ntmps100 rfl (L := [(0, _)]) ⟨rfl, trivial⟩ fun base => ?_
 refine gO ?_
 refine H.Az rfl rfl rfl (rkey_fn (w := ⟨#[114, 97, 116, 99, 104, 101, 116, 32, 114, 101, 112, 108, 105, 99, 97]⟩) f _ h1 h2 (by decide) (by decide)) fun p1 c1 => ?_
 refine gX ?_
 exact H.Ac rfl rfl (fun _ h => h) ⟨p1, c1, rfl, rfl, rfl⟩
theorem rnumbered_fn {i n : Int} {r : Option Addr} {d : Nat} {b : List UInt8} (h1 : 1 ≤ i) (h2 : i ≤ 11) (hs : ∀ G, Src Tryz.prog f (G ++ F) (.slice r b.length d) 1 b.length (bytesV b)) (hl : b.length ≤ 10000000) :
  Fn Tryz.prog 68 [.int .i64 i, .int .u64 n, .slice r b.length d] f F (Ret (.agg (b32 (Sha.numbered i n b)).toArray) f F) := by
 refine Fn.enter Tryz.func68 rfl Tryz.ntmps68 rfl (L := [(0, _), (1, _), (2, _)]) ⟨rfl, rfl, rfl, trivial⟩ fun base => ?_
 refine gA ?_
 refine H.Am (ls := zb 32) rfl rfl rfl fun ob => ?_
 refine gO ?_
 refine H.Az rfl rfl rfl (rreplica_fn f _ h1 h2) fun p1 c1 => ?_
 refine gO ?_
 refine H.Az rfl rfl rfl (zbb (l := []) (n := n) f _ Src.nil (by decide)) fun p2 c2 => ?_
 rw [List.nil_append]
 have h8 := be_len 8 n
 refine gO ?_
 refine H.Bf (xs := bytesV (be 8 n)) rfl rfl rfl rfl rfl (fun p' c' => .here _ _ _) (hs [_, _, _]) (zai b) rfl (by omega) (by omega) fun p3 c3 => ?_
 have e1 : (be 8 n ++ b).length = (be 8 n).length + b.length := List.length_append
 have e2 : bytesV (be 8 n ++ b) = bytesV (be 8 n) ++ bytesV b := zag _ _
 unfold Sha.numbered
 have hk : (Sha.word32 Sha.replicaW i).length = 32 := rfl
 generalize Sha.word32 Sha.replicaW i = key at hk ⊢
 generalize be 8 n ++ b = l1 at e1 e2 ⊢
 rw [← e1, ← e2]
 refine H.Ah rfl rfl rfl (hmac_fn f _ (key := key) (b := l1) (fun G => Src.append (Src.slcS (.there _ (.here _ _ _)) (by rw [zaf]; exact (Nat.mul_one _).symm))) (fun G => Src.append (Src.slcS (.here _ _ _) (by rw [zaf]; exact (Nat.mul_one _).symm))) (by omega) (by omega)) ?_
 refine H.Ab (.here _ _) ?_
 refine H.Ab (.here _ _) ?_
 refine H.Ak (ls := zb 32) (vs := b32 (Sha.hmac key l1)) (ls' := b32 (Sha.hmac key l1)) rfl rfl rfl (zae rfl) rfl rfl (Nat.le_refl 32) (by repeat constructor) ?_
 refine gX ?_
 exact H.Bd rfl rfl rfl (Rd.ofRow (by repeat constructor)) rfl (fun _ s => s.drop (.here _ _)) ⟨rfl, rfl, rfl⟩
theorem splice_tag (m : Msg) (q : Option Addr) (qc : Nat) (t : Nat → UInt8) : splice (m.vals q qc) (0 + 89) (b32 t) = ({ m with tag := t } : Msg).vals q qc := by
 unfold Msg.vals
 generalize hp : ([.int .i64 m.origin, .int .u64 m.number] ++ v11 m.deps ++ m.body.vals q qc : List Value) = p
 have hl : p.length = 89 := by rw [← hp]; rfl
 unfold splice
 rw [Nat.zero_add, ← hl, List.take_left, List.drop_eq_nil_of_le (by rw [List.length_append]; exact Nat.le_refl _), List.append_nil]
theorem rtagged_fn {m : Msg} {q : Option Addr} {qc : Nat} (hq : QAt f q m.body.q) (hl : m.body.q.length ≤ 1000000000) :
  Fn Tryz.prog 43 [.agg (m.vals q qc).toArray] f F (Ret (.agg (m.signed.vals q qc).toArray) f F) := by
 have hmay := fun G => rmay_fn (m := m) (qc := qc) f G hq hl
 have e0 : m.may = (decide m.outer && m.body.may) := rfl
 rw [← e0] at hmay
 unfold Msg.signed
 by_cases hm : m.may = true
 ·rw [if_pos hm]
  have hbl := Msg.tagged_len hm
  have hout : m.outer := by
   unfold Msg.may at hm
   simp only [Bool.and_eq_true, decide_eq_true_eq] at hm
   exact hm.1
  have hby : ∀ G, Fn Tryz.prog 69 [.agg (m.vals q qc).toArray] f G (BytesR m.tagged f G) := fun G => by
   have := rbytes_fn (m := m) (qc := qc) f G hq hl
   unfold Msg.bytes at this
   rwa [if_pos hm] at this
  rw [hm] at hmay
  refine Fn.enter Tryz.func43 rfl Tryz.ntmps43 rfl (L := [(0, _)]) ⟨rfl, trivial⟩ fun base => ?_
  refine gA ?_
  refine H.box (ls := m.vals q qc) rfl rfl rfl rfl fun mb => ?_
  refine H.Am (ls := (⟨0, 0, fun _ => 0, Bod.zero 0, noTag⟩ : Msg).vals none 0) rfl rfl rfl fun ob => ?_
  refine gA ?_
  refine H.Ag (ls := m.vals q qc) rfl rfl rfl (Rd.ofRow (by repeat constructor)) rfl rfl ?_
  refine H.Ah rfl rfl rfl (hmay _) ?_
  refine ge ?_
  refine H.Aa (x := row mb _ _) (by repeat constructor) ?_
  refine H.Bt [0, 1, 2, 3, 4, 5, 6] (by kernel_rfl) (by decide +kernel) (by repeat (first | exact zab | refine zaa ?_ | refine zac ?_ | refine zad ?_)) (S := [_]) rfl ?_
  refine HB.Af [(0, false), (1, false), (2, false), (3, false), (4, false)] 4 (by kernel_rfl) ?_
  refine gE ?_
  refine HQ.Ag (ls := m.vals q qc) rfl rfl rfl (Rd.ofRow (by repeat constructor)) rfl rfl ?_
  refine HQ.Ae rfl ?_
  refine HB.ev1 (i := 5) (by kernel_rfl) rfl ?_
  refine H.Az rfl rfl rfl (hby _) fun p1 c1 => ?_
  generalize m.tagged = tg at hbl ⊢
  refine gA ?_
  refine H.Aa (x := row mb _ _) (by repeat constructor) ?_
  refine H.on0 rfl ?_
  refine HB.ev1 (i := 6) (by kernel_rfl) rfl ?_
  refine H.Ah rfl rfl rfl (rnumbered_fn f _ hout.1 hout.2.1 (b := tg) (fun G => Src.append (Src.slcS (.there _ (.here _ _ _)) (by rw [zaf]; exact (Nat.mul_one _).symm))) (by omega)) ?_
  refine gA ?_
  refine H.on0 rfl ?_
  refine HB.next [] (by kernel_rfl) (S' := []) rfl ?_
  refine HB.Af [(7, false)] 1 (by kernel_rfl) ?_
  refine gC ?_
  refine HQ.Ae rfl ?_
  refine HB.ev1 (i := 8) (by kernel_rfl) rfl ?_
  generalize Sha.numbered m.origin m.number tg = t
  refine H.Ak (ls := m.vals q qc) (vs := b32 t) (ls' := ({ m with tag := t } : Msg).vals q qc) rfl rfl rfl (zae rfl) rfl (splice_tag m q qc t) (show 89 + 32 ≤ 121 by decide) (by repeat constructor) ?_
  refine gA ?_
  refine H.on0 rfl ?_
  refine HB.Al (by kernel_rfl) ?_
  refine gA ?_
  refine H.Ag (ls := ({ m with tag := t } : Msg).vals q qc) rfl rfl rfl (Rd.ofRow (by repeat constructor)) rfl rfl ?_
  refine H.Ak (ls := (⟨0, 0, fun _ => 0, Bod.zero 0, noTag⟩ : Msg).vals none 0) (vs := ({ m with tag := t } : Msg).vals q qc) (ls' := ({ m with tag := t } : Msg).vals q qc) rfl rfl rfl (zae rfl) rfl rfl (Nat.le_refl 121) (by repeat constructor) ?_
  refine gX ?_
  refine H.Ab (x := row mb _ _) (by repeat constructor) ?_
  refine H.Ab (x := slc _ _ _ _ _ _) (by repeat constructor) ?_
  exact H.Bd rfl rfl rfl (Rd.ofRow (by repeat constructor)) rfl (fun _ s => s.drop (.here _ _)) ⟨rfl, rfl, rfl⟩
 ·rw [if_neg hm]
  rw [Bool.eq_false_iff.2 hm] at hmay
  refine Fn.enter Tryz.func43 rfl Tryz.ntmps43 rfl (L := [(0, _)]) ⟨rfl, trivial⟩ fun base => ?_
  refine gA ?_
  refine H.box (ls := m.vals q qc) rfl rfl rfl rfl fun mb => ?_
  refine H.Am (ls := (⟨0, 0, fun _ => 0, Bod.zero 0, noTag⟩ : Msg).vals none 0) rfl rfl rfl fun ob => ?_
  refine gA ?_
  refine H.Ag (ls := m.vals q qc) rfl rfl rfl (Rd.ofRow (by repeat constructor)) rfl rfl ?_
  refine H.Ah rfl rfl rfl (hmay _) ?_
  refine gR ?_
  refine H.Ag (ls := m.vals q qc) rfl rfl rfl (Rd.ofRow (by repeat constructor)) rfl rfl ?_
  refine H.Ak (ls := (⟨0, 0, fun _ => 0, Bod.zero 0, noTag⟩ : Msg).vals none 0) (vs := m.vals q qc) (ls' := m.vals q qc) rfl rfl rfl (zae rfl) rfl rfl (Nat.le_refl 121) (by repeat constructor) ?_
  refine gX ?_
  refine H.Ab (x := row mb _ _) (by repeat constructor) ?_
  exact H.Bd rfl rfl rfl (Rd.ofRow (by repeat constructor)) rfl (fun _ s => s.drop (.here _ _)) ⟨rfl, rfl, rfl⟩
end
theorem byteAt_nat (n : Nat) (j : Nat) : (byteAt (n : Int) j).toNat = n / 256 ^ j % 256 := by
 unfold byteAt
 have e : (n : Int).fdiv (2 ^ (8 * j)) % 256 = ((n / 256 ^ j % 256 : Nat) : Int) := by
  rw [show ((2 : Int) ^ (8 * j)) = ((2 ^ (8 * j) : Nat) : Int) by simp, Int.fdiv_eq_ediv_of_nonneg _ (Int.natCast_nonneg _), Nat.pow_mul]
  rfl
 rw [e, Int.toNat_natCast, UInt8.toNat_ofNat']
 omega
theorem numB_beTop (k n : Nat) : ∀ i, i ≤ k → numB (beTop k (n : Int) i) = n / 256 ^ (k - i) % 256 ^ i
 | 0, _ => by simp [beTop, numB, Nat.mod_one]
 | i + 1, h => by
  unfold beTop
  rw [numB_snoc, numB_beTop k n i (by omega), byteAt_nat]
  have e1 : k - i = (k - (i + 1)) + 1 := by omega
  have e2 : k - 1 - i = k - (i + 1) := by omega
  rw [e1, e2]
  generalize k - (i + 1) = m
  rw [Nat.pow_succ, Nat.pow_succ, ← Nat.div_div_eq_div_mul]
  generalize n / 256 ^ m = a
  rw [Nat.mul_comm (256 ^ i) 256, Nat.mod_mul]
  omega
theorem numB_be {k n : Nat} (h : n < 256 ^ k) : numB (be k (n : Int)) = n := by
 unfold be
 rw [numB_beTop k n k (Nat.le_refl _), Nat.sub_self, Nat.pow_zero, Nat.div_one, Nat.mod_eq_of_lt h]
theorem numB_be8 {z : Int} (h : 0 ≤ z ∧ z ≤ 18446744073709551615) : ((numB (be 8 z) : Nat) : Int) = z := by
  obtain ⟨n, rfl⟩ := Int.eq_ofNat_of_zero_le h.1
  rw [numB_be (by have : (256 : Nat) ^ 8 = 18446744073709551616 := by decide
                  omega)]
section
variable {a r : List UInt8} {n : Nat}
theorem Cs.ok_app (h : a.length = n) : (⟨a ++ r, false⟩ : Cs).ok n = true := by
 rw [Cs.ok_iff]; exact ⟨rfl, by show n ≤ (a ++ r).length; rw [List.length_append]; omega⟩
theorem Cs.num_app (h : a.length = n) : (⟨a ++ r, false⟩ : Cs).num n = numB a := by
 unfold Cs.num; rw [if_pos (Cs.ok_app h)]; show numB ((a ++ r).take n) = _; rw [← h, List.take_left]
theorem Cs.skip_app (h : a.length = n) : (⟨a ++ r, false⟩ : Cs).skip n = ⟨r, false⟩ := by
 unfold Cs.skip; rw [if_pos (Cs.ok_app h)]; show (⟨(a ++ r).drop n, false⟩ : Cs) = _; rw [← h, List.drop_left]
theorem Cs.raw_app (h : a.length = n) : (⟨a ++ r, false⟩ : Cs).raw n = a := by
 unfold Cs.raw; rw [if_pos (Cs.ok_app h)]; show (a ++ r).take n = _; rw [← h, List.take_left]
theorem Cs.num8_be {z : Int} (h : 0 ≤ z ∧ z ≤ 18446744073709551615) : (((⟨be 8 z ++ r, false⟩ : Cs).num 8 : Nat) : Int) = z := by
 rw [Cs.num_app (be_len _ _), numB_be8 h]
theorem Cs.num1_b {b : UInt8} : (⟨b :: r, false⟩ : Cs).num 1 = b.toNat := by
 have := Cs.num_app (a := [b]) (r := r) (n := 1) rfl
 rw [List.singleton_append] at this
 rw [this]; simp [numB]
theorem Cs.skip1_b {b : UInt8} : (⟨b :: r, false⟩ : Cs).skip 1 = ⟨r, false⟩ := Cs.skip_app (a := [b]) rfl
theorem Cs.text_app {s : ByteArray} {most : Nat} (h : s.size ≤ most) (hm : most < 65536) :
    (⟨textB s ++ r, false⟩ : Cs).text most = s.data.toList ∧ (⟨textB s ++ r, false⟩ : Cs).textS most = ⟨r, false⟩ := by
  unfold textB
  rw [List.append_assoc]
  have h2 : (⟨be 2 (s.size : Nat) ++ (s.data.toList ++ r), false⟩ : Cs).num 2 = s.size := by
    rw [Cs.num_app (be_len _ _), numB_be (by have : (256 : Nat) ^ 2 = 65536 := by decide
                                             omega)]
  have hok : (⟨be 2 (s.size : Nat) ++ (s.data.toList ++ r), false⟩ : Cs).ok 2 = true := Cs.ok_app (be_len _ _)
  have hdl := data_len s
  have ht : (⟨be 2 (s.size : Nat) ++ (s.data.toList ++ r), false⟩ : Cs).tok most = true := by
    unfold Cs.tok
    rw [hok, h2]
    simp only [Bool.true_and, Bool.and_eq_true]
    refine ⟨Nat.ble_eq_true_of_le h, Nat.ble_eq_true_of_le ?_⟩
    show 2 + s.size ≤ (be 2 (s.size : Nat) ++ (s.data.toList ++ r)).length
    rw [List.length_append, List.length_append, be_len, hdl]; omega
  constructor
  · unfold Cs.text
    rw [if_pos ht, h2]
    show ((be 2 (s.size : Nat) ++ (s.data.toList ++ r)).drop 2).take s.size = _
    rw [List.drop_left' (be_len _ _), List.take_left' hdl]
  · unfold Cs.textS
    rw [if_pos ht, h2]
    show (⟨(be 2 (s.size : Nat) ++ (s.data.toList ++ r)).drop (2 + s.size), false⟩ : Cs) = _
    rw [← List.drop_drop, List.drop_left' (be_len _ _), List.drop_left' hdl]
theorem Cs.hash_app {t : Nat → UInt8} : b32 ((⟨b32L t ++ r, false⟩ : Cs).hash) = b32 t := by
 have e := Cs.raw_app (a := b32L t) (r := r) (n := 32) rfl
 unfold Cs.hash
 simp only [e]
 rfl
end
theorem baOf_data (s : ByteArray) : baOf s.data.toList = s := by
 unfold baOf
 rw [Array.toArray_toList]
def Req.Ok (r : Req) : Prop := (0 ≤ r.time ∧ r.time ≤ 18446744073709551615) ∧ (0 ≤ r.amount ∧ r.amount ≤ 18446744073709551615)
def Bod.Ok (x : Bod) : Prop := (0 ≤ x.view ∧ x.view ≤ 18446744073709551615) ∧ (0 ≤ x.k ∧ x.k ≤ 18446744073709551615) ∧ x.req.Ok
theorem req_back {q : Req} (h : q.Ok) (ha : q.asked) (r : List UInt8) :
  ((⟨q.bytes ++ b32L q.tag ++ r, false⟩ : Cs).req 32 128).vals = q.vals ∧ (⟨q.bytes ++ b32L q.tag ++ r, false⟩ : Cs).reqS 32 128 = ⟨r, false⟩ := by
 obtain ⟨ht, hm⟩ := h
 obtain ⟨c1, c2, _, _, ⟨k1, k2⟩, k3, k4⟩ := ha
 have e : q.bytes ++ b32L q.tag ++ r = b8 q.client :: q.kind :: (be 8 q.time ++ (be 8 q.amount ++ (textB q.key ++ (textB q.val ++ (textB q.old ++ (textB q.to ++ (b32L q.tag ++ r))))))) := by
  unfold Req.bytes Req.head
  simp only [List.append_assoc, List.cons_append, List.nil_append]
  rfl
 rw [e]
 unfold Cs.req Cs.reqS
 dsimp only
 have t1 := Cs.text_app (s := q.key) (most := 32) (r := textB q.val ++ (textB q.old ++ (textB q.to ++ (b32L q.tag ++ r)))) k1 (by decide)
 have t2 := Cs.text_app (s := q.val) (most := 128) (r := textB q.old ++ (textB q.to ++ (b32L q.tag ++ r))) k3 (by decide)
 have t3 := Cs.text_app (s := q.old) (most := 128) (r := textB q.to ++ (b32L q.tag ++ r)) k4 (by decide)
 have t4 := Cs.text_app (s := q.to) (most := 32) (r := b32L q.tag ++ r) k2 (by decide)
 rw [Cs.num1_b, Cs.skip1_b, Cs.skip1_b, Cs.skip_app (be_len _ _), Cs.skip_app (be_len _ _), t1.1, t1.2, t2.1, t2.2, t3.1, t3.2, t4.1, t4.2, Cs.num8_be ht, Cs.num8_be hm]
 constructor
 ·unfold Cs.byte
  rw [Cs.num1_b]
  unfold Req.vals
  rw [Cs.hash_app, baOf_data, baOf_data, baOf_data, baOf_data, b8_small (by omega)]
  simp
 ·exact Cs.skip_app (a := b32L q.tag) rfl
theorem pairs_back : ∀ (q : List (Int × Int)) (w : Int) (r : List UInt8) (acc : List (Int × Int)), 0 ≤ w → quo w q = true → Cs.pairs q.length ⟨q.flatMap pairB ++ r, false⟩ acc = (acc ++ q, ⟨r, false⟩)
 | [], w, r, acc, _, _ => by simp [Cs.pairs]
 | p :: q, w, r, acc, hw, h => by
  unfold quo at h
  split at h
  ·cases h
  ·rename_i hn
   have ih := pairs_back q p.1 r (acc ++ [p]) (by omega) h
   have e : (p :: q).flatMap pairB ++ r = b8 p.1 :: (be 8 p.2 ++ (q.flatMap pairB ++ r)) := by
    simp [pairB]
   rw [e]
   show (if false = true then _ else Cs.pairs q.length (((⟨_, false⟩ : Cs).skip 1).skip 8) (acc ++ [((((⟨_, false⟩ : Cs).num 1 : Nat) : Int), ((((⟨_, false⟩ : Cs).skip 1).num 8 : Nat) : Int))])) = _
   rw [if_neg (by decide), Cs.skip1_b, Cs.skip_app (be_len _ _), Cs.num1_b, Cs.num8_be (by omega), b8_small (by omega), ih]
   simp
def Bod.E (a b : Bod) : Prop := a.kind = b.kind ∧ a.view = b.view ∧ a.k = b.k ∧ a.req.vals = b.req.vals ∧ a.q = b.q ∧ b32 a.dig = b32 b.dig
theorem Bod.E.eqB {x a b : Bod} (h : Bod.E a b) : Bod.eqB x a = Bod.eqB x b := by
 obtain ⟨h1, h2, h3, h4, h5, h6⟩ := h
 unfold Bod.eqB
 rw [h1, h2, h3, h4, h5, h6]
theorem eqv_comm (a b : Value) : eqv a b = eqv b a := by
 cases a with
 | bool x =>
  cases b with
  | bool y => cases x <;> cases y <;> rfl
  | _ => rfl
 | int k x =>
  cases b with
  | int l y =>
   show (x == y) = (y == x)
   rw [Bool.eq_iff_iff, beq_iff_eq, beq_iff_eq]; exact eq_comm
  | _ => rfl
 | string x =>
  cases b with
  | string y =>
   show (x == y) = (y == x)
   rw [beq_toListBytes, beq_toListBytes, Bool.eq_iff_iff, beq_iff_eq, beq_iff_eq]; exact eq_comm
  | _ => rfl
 | _ => cases b <;> rfl
theorem eqC_comm : ∀ (a b : List Value), eqC a b = eqC b a
 | [], [] => rfl
 | [], _ :: _ => rfl
 | _ :: _, [] => rfl
 | x :: xs, y :: ys => by simp only [eqC]; rw [eqv_comm, eqC_comm xs ys]
theorem Bod.eqB_comm (a b : Bod) : Bod.eqB a b = Bod.eqB b a := by
 unfold Bod.eqB
 rw [eqC_comm a.req.vals, eqC_comm (b32 a.dig), show decide (((a.kind.toNat : Nat) : Int) = b.kind.toNat) = decide (((b.kind.toNat : Nat) : Int) = a.kind.toNat) from decide_eq_decide.2 eq_comm,
  show decide (a.view = b.view) = decide (b.view = a.view) from decide_eq_decide.2 eq_comm, show decide (a.k = b.k) = decide (b.k = a.k) from decide_eq_decide.2 eq_comm, show decide (a.q = b.q) = decide (b.q = a.q) from decide_eq_decide.2 eq_comm]
theorem own_q {x : Bod} (h : x.kind.toNat ≠ 4) : x.own.q = [] := by
 unfold Bod.own
 generalize x.kind.toNat = k at h
 match k, h with
 | 0, _ => rfl
 | 1, _ => rfl
 | 2, _ => rfl
 | 3, _ => rfl
 | 4, h => exact absurd rfl h
 | 5, _ => rfl
 | 6, _ => rfl
 | k + 7, _ => rfl
theorem back_own {x : Bod} (hx : x.Ok) (hm : x.mayK x.kind.toNat = true) : Bod.E (x.back x.kind.toNat) x.own := by
 obtain ⟨hv, hk, hr⟩ := hx
 unfold Bod.back Bod.own
 generalize x.kind.toNat = k at hm
 match k, hm with
 | 0, hm => exact absurd hm (by simp [Bod.mayK])
 | k + 7, hm => exact absurd hm (by simp [Bod.mayK])
 | 1, hm =>
  have ha : x.req.asked := of_decide_eq_true hm
  have e : x.putK 1 = be 8 x.view ++ (x.req.bytes ++ b32L x.req.tag ++ []) := by simp [Bod.putK]
  rw [e]
  have h1 := req_back hr ha []
  refine ⟨rfl, ?_, rfl, ?_, rfl, rfl⟩
  ·exact Cs.num8_be hv
  ·show (((⟨_, false⟩ : Cs).skip 8).req 32 128).vals = _
   rw [Cs.skip_app (be_len _ _)]
   exact h1.1
 | 2, _ =>
  have e : x.putK 2 = be 8 x.view ++ (be 8 x.k ++ []) := by simp [Bod.putK]
  rw [e]
  refine ⟨rfl, Cs.num8_be hv, ?_, rfl, rfl, rfl⟩
  show ((((⟨_, false⟩ : Cs).skip 8).num 8 : Nat) : Int) = _
  rw [Cs.skip_app (be_len _ _)]
  exact Cs.num8_be hk
 | 3, _ =>
  have e : x.putK 3 = be 8 x.view ++ [] := by simp [Bod.putK]
  rw [e]
  exact ⟨rfl, Cs.num8_be hv, rfl, rfl, rfl, rfl⟩
 | 5, _ =>
  have e : x.putK 5 = be 8 x.view ++ [] := by simp [Bod.putK]
  rw [e]
  exact ⟨rfl, Cs.num8_be hv, rfl, rfl, rfl, rfl⟩
 | 6, _ =>
  have e : x.putK 6 = be 8 x.k ++ (b32L x.dig ++ []) := by simp [Bod.putK]
  rw [e]
  refine ⟨rfl, rfl, Cs.num8_be hk, rfl, rfl, ?_⟩
  show b32 (((⟨_, false⟩ : Cs).skip 8).hash) = _
  rw [Cs.skip_app (be_len _ _)]
  exact Cs.hash_app
 | 4, hm =>
  simp only [Bod.mayK, Bool.and_eq_true, decide_eq_true_eq] at hm
  have hlen := quo_len x.q 0 (by omega) hm.2.1
  have e : x.putK 4 = be 8 x.view ++ (b8 x.q.length :: (x.q.flatMap pairB ++ [])) := by simp [Bod.putK]
  rw [e]
  have hn : (b8 x.q.length).toNat = x.q.length := by have := b8_small (z := (x.q.length : Int)) (by omega); omega
  have hp := pairs_back x.q 0 [] [] (Int.le_refl 0) hm.2.1
  refine ⟨rfl, Cs.num8_be hv, rfl, rfl, ?_, rfl⟩
  show (Cs.pairs (((⟨_, false⟩ : Cs).skip 8).num 1) (((⟨_, false⟩ : Cs).skip 8).skip 1) []).1 = _
  rw [Cs.skip_app (be_len _ _), Cs.num1_b, Cs.skip1_b, hn, hp]
  rfl
theorem mayB_eq {x : Bod} (hx : x.Ok) : x.mayB = x.may := by
 unfold Bod.mayB Bod.may Bod.mayP
 cases hm : x.mayK x.kind.toNat with
 | false => simp
 | true =>
  have hk : 1 ≤ x.kind.toNat ∧ x.kind.toNat ≤ 6 := by
   generalize x.kind.toNat = k at hm
   match k, hm with
   | 0, hm => exact absurd hm (by simp [Bod.mayK])
   | k + 7, hm => exact absurd hm (by simp [Bod.mayK])
   | 1, _ => decide
   | 2, _ => decide
   | 3, _ => decide
   | 4, _ => decide
   | 5, _ => decide
   | 6, _ => decide
  rw [decide_eq_true hk, Bod.E.eqB (back_own hx hm), Bod.eqB_comm x x.own]
  simp only [Bool.true_and, Bool.and_true]
  have hlen : Bod.eqB x.own x = true → x.q.length ≤ 11 := fun h => by
   have hq := Bod.eqB_q h
   by_cases h4 : x.kind.toNat = 4
   ·rw [h4] at hm
    simp only [Bod.mayK, Bool.and_eq_true, decide_eq_true_eq] at hm
    have := quo_len x.q 0 (by omega) hm.2.1
    omega
   ·rw [own_q h4] at hq
    rw [← hq]; exact Nat.zero_le _
  cases he : Bod.eqB x.own x with
  | false => simp
  | true => simp [hlen he]
structure MV where
 m : Msg
 qp : Option Addr
 qc : Nat
def MV.vals (x : MV) : List Value := x.m.vals x.qp x.qc
theorem MV.len (x : MV) : x.vals.length = 121 := rfl
def MV.Good (f : Frag) (x : MV) : Prop := QAt f x.qp x.m.body.q ∧ x.m.body.q.length ≤ 1000000 ∧ x.m.body.Ok
theorem MV.Good.mono {f g : Frag} (h : Le f g) {x : MV} (hx : x.Good f) : x.Good g := ⟨QAt.mono h hx.1, hx.2⟩
section
variable (f : Frag) (F : List HP)
theorem mmay_fn {x : MV} (hx : x.Good f) : Fn Tryz.prog 46 [.agg x.vals.toArray] f F (Ret (.bool x.m.may) f F) := by
 have := may_fn (m := x.m) (qc := x.qc) f F hx.1 (by have := hx.2.1; omega)
 rw [mayB_eq hx.2.2] at this
 exact this
theorem rmmay_fn {x : MV} (hx : x.Good f) : Fn Tryz.prog 47 [.agg x.vals.toArray] f F (Ret (.bool x.m.may) f F) :=
 rmay_fn (m := x.m) (qc := x.qc) f F hx.1 (by have := hx.2.1; omega)
end
abbrev D32 := { l : List UInt8 // l.length = 32 }
def dV (d : D32) : List Value := bytesV d.1
def dZ : D32 := ⟨List.replicate 32 0, rfl⟩
def dOf (t : Nat → UInt8) : D32 := ⟨b32L t, rfl⟩
theorem dV_len (d : D32) : (dV d).length = 32 := by unfold dV; rw [zaf]; exact d.2
theorem dV_one (d : D32) : ∀ v ∈ dV d, one v = true := zai d.1
theorem eqC_bytes : ∀ a b : List UInt8, eqC (bytesV a) (bytesV b) = decide (a = b)
 | [], [] => rfl
 | [], _ :: _ => rfl
 | _ :: _, [] => rfl
 | x :: a, y :: b => by
  show (eqv (.int .u8 (x.toNat : Nat)) (.int .u8 (y.toNat : Nat)) && eqC (bytesV a) (bytesV b)) = _
  rw [eqC_bytes a b]
  have e : eqv (.int .u8 (x.toNat : Nat)) (.int .u8 (y.toNat : Nat)) = decide (x = y) := by
   show (((x.toNat : Nat) : Int) == ((y.toNat : Nat) : Int)) = _
   by_cases h : x = y
   ·subst h; simp
   ·have : ¬ ((x.toNat : Nat) : Int) = ((y.toNat : Nat) : Int) := fun h2 => h (UInt8.toNat_inj.1 (by omega))
    rw [decide_eq_false h]
    simpa using this
  rw [e]
  by_cases h1 : x = y <;> by_cases h2 : a = b <;> simp [h1, h2]
theorem dV_plain : ∀ l : List UInt8, plnC (bytesV l) = true
 | [] => rfl
 | _ :: l => dV_plain l
def encN (k : Int × Int) : Value := .agg ([.int .i64 k.1, .int .u64 k.2] : List Value).toArray
def encD (d : D32) : Value := .agg (dV d).toArray
instance keyN : KeyT Tryz.prog 113 encN := keyT_agg (cellsK := fun k : Int × Int => [.int .i64 k.1, .int .u64 k.2]) (D := 4) (by kernel_rfl) (fun k => by kernel_rfl) (by decide) (fun a b => by
  obtain ⟨a1, a2⟩ := a
  obtain ⟨b1, b2⟩ := b
  show (a1 == b1 && (a2 == b2 && true)) = _
  by_cases h1 : a1 = b1 <;> by_cases h2 : a2 = b2 <;> simp [h1, h2]) (fun k => rfl)
theorem dV_shp (d : D32) : shp Tryz.prog 4 47 (dV d) = true := by
 unfold dV
 rw [← b32L_get d.2]
 generalize (fun i => d.1.getD i 0) = t
 kernel_rfl
instance keyD : KeyT Tryz.prog 47 encD := keyT_agg (cellsK := dV) (D := 4) (by kernel_rfl) dV_shp (by decide) (fun a b => by
  unfold dV
  rw [eqC_bytes]
  by_cases h : a.1 = b.1
  ·rw [decide_eq_true h, decide_eq_true (Subtype.ext h)]
  ·rw [decide_eq_false h, decide_eq_false (fun e => h (by rw [e]))]) (fun d => dV_plain d.1)
abbrev CM := List ((Int × Int) × D32)
def mpV (M : CM) : List ((Int × Int) × Value) := M.map fun e => (e.1, encD e.2)
def tld : CM → Int × Int → Option D32
 | [], _ => none
 | (k', d) :: r, k => if k = k' then some d else tld r k
theorem getKV_mpV : ∀ (M : CM) (k : Int × Int), getKV (mpV M) k = (tld M k).map encD
 | [], _ => rfl
 | (k', d) :: r, k => by
  show (if k = k' then some (encD d) else getKV (mpV r) k) = (if k = k' then some d else tld r k).map encD
  rw [getKV_mpV r k]
  split <;> rfl
theorem putKV_mpV : ∀ (M : CM) (k : Int × Int) (d : D32), tld M k = none → putKV (mpV M) k (encD d) = mpV (M ++ [(k, d)])
 | [], _, _, _ => rfl
 | (k', u) :: r, k, d, h => by
  have h1 : ¬ k = k' := fun e => by
   have : tld ((k', u) :: r) k = some u := if_pos e
   rw [this] at h; cases h
  have h2 : tld r k = none := by
   have : tld ((k', u) :: r) k = tld r k := if_neg h1
   rw [this] at h; exact h
  show (if k = k' then _ else (k', encD u) :: putKV (mpV r) k (encD d)) = _
  rw [if_neg h1, putKV_mpV r k d h2]
  rfl
theorem tld_snoc (M : CM) (k j : Int × Int) (d : D32) : tld (M ++ [(k, d)]) j = (tld M j).or (if j = k then some d else none) := by
 induction M with
 | nil => show (if j = k then some d else none) = _; simp [tld]
 | cons e r ih =>
  show (if j = e.1 then some e.2 else tld (r ++ [(k, d)]) j) = (if j = e.1 then some e.2 else tld r j).or _
  rw [ih]
  split <;> simp
theorem tld_mem : ∀ {M : CM} {k : Int × Int} {d : D32}, tld M k = some d → (k, d) ∈ M
 | (k', u) :: r, k, d, h => by
  by_cases e : k = k'
  ·have : tld ((k', u) :: r) k = some u := if_pos e
   rw [this] at h
   cases h
   rw [e]
   exact List.mem_cons_self
  ·have : tld ((k', u) :: r) k = tld r k := if_neg e
   rw [this] at h
   exact List.mem_cons_of_mem _ (tld_mem h)
def chkRow (n : Nat) (mb : Nat) : List Value := [.int .i64 (n : Nat), .map (some mb)]
def chkH (cb n : Nat) (M : CM) : HP := pack (fun _ : Nat => True) (fun mb => [row cb 104 (chkRow n mb), mp mb encN (mpV M)])
theorem chkH_fold {cb n mb : Nat} {M : CM} {F : List HP} : ∀ x, stars (row cb 104 (chkRow n mb) :: mp mb encN (mpV M) :: F) x → stars (chkH cb n M :: F) x :=
 pack_fold (ι := Nat) (B := fun mb => [row cb 104 (chkRow n mb), mp mb encN (mpV M)]) mb trivial
def CM.take (M : CM) (n : Nat) (m : Msg) : Bool × CM :=
 if m.may = true ∧ m.origin ≤ (n : Int) ∧ (m.body.kind.toNat : Int) = 6 ∧ tld M (m.origin, m.body.k) = none then (true, M ++ [((m.origin, m.body.k), dOf m.body.dig)]) else (false, M)
theorem mv_dig {f : Frag} {A A' : List HP} {mb : Nat} {T : TypeId} {x : MV} (h : At A (row mb T x.vals) A' (row mb T x.vals)) : Rd f A mb (0 + 13 + 44) (bytesV (b32L x.m.body.dig)) := by
 have h1 := Rd.ofRow (f := f) h
 unfold MV.vals Msg.vals Bod.vals at h1
 rw [← b32_bytes]
 have h2 := Rd.sub (f := f) (A := A) (b := mb) (off := 0) (k := 57) (pre := [.int .i64 x.m.origin, .int .u64 x.m.number] ++ v11 x.m.deps ++ ([.int .u8 (x.m.body.kind.toNat : Nat), .int .u64 x.m.body.view, .int .u64 x.m.body.k] ++ x.m.body.req.vals ++ [.slice x.qp x.m.body.q.length x.qc])) (l := b32 x.m.body.dig) (post := b32 x.m.tag) (by simpa only [List.append_assoc] using h1) rfl
 exact h2
section
variable (f : Frag) (F : List HP)
theorem cnew_fn {n : Nat} (h3 : 3 ≤ n) (h11 : n ≤ 11) (hodd : n % 2 = 1) : Fn Tryz.prog 14 [.int .i64 (n : Nat)] f F (RetE (fun cb => .tuple #[.pointer (some ⟨cb, 0, none⟩), .int .i64 0]) f (fun cb => chkH cb n [] :: F)) := by
 have hr : ((n : Nat) : Int).tmod 2 = 1 := by rw [show (2 : Int) = ((2 : Nat) : Int) from rfl, tmod64, hodd]; rfl
 refine Fn.enter Tryz.func14 rfl Tryz.ntmps14 rfl (L := [(0, _)]) ⟨rfl, trivial⟩ fun base => ?_
 repeat (first | ((first | apply H.Aj | apply H.Ar); (iterate 3 exact rfl)) | (first | apply H.seq | apply H.Au | apply H.nil | apply H.Av) | ((apply H.cmp); (iterate 5 exact rfl)) | ((apply H.Bb); (iterate 4 exact rfl)) | (apply H.Cg; exact rfl) | (apply H.Bk) | (apply H.gno; (iterate 3 exact rfl); (omega)) | (refine H.rem rfl rfl rfl (by decide) hr rfl ?_))
 refine H.makeMap encN rfl rfl fun mb => ?_
 refine gV ?_
 refine H.box (ls := chkRow n mb) rfl rfl rfl rfl fun cb => ?_
 refine gX ?_
 refine H.imp (chkH_fold (M := [])) ?_
 exact H.ret2 rfl rfl rfl (fun _ h => h) ⟨cb, rfl, rfl, rfl⟩
theorem cnew_no : Fn Tryz.prog 14 [.int .i64 1] f F (Ret (.tuple #[.pointer none, .int .i64 1]) f F) := by
 refine Fn.enter Tryz.func14 rfl Tryz.ntmps14 rfl (L := [(0, _)]) ⟨rfl, trivial⟩ fun base => ?_
 refine gU ?_
 exact H.ret2 rfl rfl rfl (fun _ h => h) ⟨rfl, rfl, rfl⟩
set_option maxRecDepth 20000 in
set_option maxHeartbeats 1600000 in
theorem ctake_fn {cb n : Nat} {M : CM} {x : MV} (hx : x.Good f) : Fn Tryz.prog 17 [.pointer (some ⟨cb, 0, none⟩), .agg x.vals.toArray] f (chkH cb n M :: F) (Ret (.bool (M.take n x.m).1) f (chkH cb n (M.take n x.m).2 :: F)) := by
 refine Fn.unpack fun mb _ => ?_
 have hmay := fun G => mmay_fn f G hx
 cases hm : x.m.may with
 | false =>
  rw [hm] at hmay
  have hno : M.take n x.m = (false, M) := if_neg (fun h => by rw [hm] at h; cases h.1)
  rw [hno]
  clear hm
  refine Fn.enter Tryz.func17 rfl Tryz.ntmps17 rfl (L := [(0, _), (1, _)]) ⟨rfl, rfl, trivial⟩ fun base => ?_
  show H _ _ _ _ _ (row cb _ (chkRow n mb) :: mp mb encN (mpV M) :: F) _
  refine gA ?_
  refine H.box (ls := x.vals) rfl rfl rfl rfl fun xb => ?_
  refine gO ?_
  refine H.Ay (by kernel_rfl) (by decide +kernel) (by repeat (first | exact zab | refine zaa ?_ | refine zac ?_ | refine zad ?_)) (S := [_, _]) rfl ?_
  refine HB.Af [(0, false), (1, false), (2, false), (3, false)] 18 (by kernel_rfl) ?_
  repeat (first | (refine HQ.Ag (ls := x.vals) rfl rfl rfl (Rd.ofRow (by repeat constructor)) rfl rfl ?_) | ((apply HQ.Aj); (iterate 3 exact rfl)) | ((apply HQ.ptrNil); (iterate 5 exact rfl)))
  refine HQ.Ae rfl ?_
  refine HB.ev1 (i := 4) (by kernel_rfl) rfl ?_
  refine H.Ah rfl rfl rfl (hmay _) ?_
  refine gA ?_
  refine H.on0 rfl ?_
  refine HB.Af [(5, false), (6, false), (7, false), (8, false), (9, false), (10, false), (11, false), (12, false), (13, false), (14, false), (15, false), (16, false), (17, false), (18, false), (19, false), (20, false), (21, false)] 0 (by kernel_rfl) ?_
  repeat (first | (refine HQ.not (c := true) rfl rfl rfl rfl ?_) | ((first | apply HQ.Aj | apply HQ.Ax); (iterate 3 exact rfl)) | (apply HQ.Bm; (iterate 2 exact rfl)) | (apply HQ.Bi; (iterate 4 exact rfl)) | ((apply HQ.Bb); (iterate 4 exact rfl)))
  refine HQ.Ae rfl ?_
  refine HB.Al (by kernel_rfl) ?_
  refine ge ?_
  refine H.Ab (x := row xb _ _) (by repeat constructor) ?_
  refine H.imp chkH_fold ?_
  exact H.Ac rfl rfl (fun _ h => h) ⟨rfl, rfl, rfl⟩
 | true =>
  rw [hm] at hmay
  by_cases h1 : x.m.origin ≤ (n : Int)
  ·by_cases h2 : (x.m.body.kind.toNat : Int) = 6
   ·cases ht : tld M (x.m.origin, x.m.body.k) with
    | some d =>
     have hno : M.take n x.m = (false, M) := if_neg (fun h => by rw [ht] at h; cases h.2.2.2)
     rw [hno]
     clear hm hno
     have hget : getKV (mpV M) (x.m.origin, x.m.body.k) = some (encD d) := by rw [getKV_mpV, ht]; rfl
     have hg1 : (getKV (mpV M) (x.m.origin, x.m.body.k)).getD (encD dZ) = encD d := by rw [hget]; rfl
     have hg2 : (getKV (mpV M) (x.m.origin, x.m.body.k)).isSome = true := by rw [hget]; rfl
     clear hget ht
     refine Fn.enter Tryz.func17 rfl Tryz.ntmps17 rfl (L := [(0, _), (1, _)]) ⟨rfl, rfl, trivial⟩ fun base => ?_
     show H _ _ _ _ _ (row cb _ (chkRow n mb) :: mp mb encN (mpV M) :: F) _
     refine gA ?_
     refine H.box (ls := x.vals) rfl rfl rfl rfl fun xb => ?_
     refine gO ?_
     refine H.Ay (by kernel_rfl) (by decide +kernel) (by repeat (first | exact zab | refine zaa ?_ | refine zac ?_ | refine zad ?_)) (S := [_, _]) rfl ?_
     refine HB.Af [(0, false), (1, false), (2, false), (3, false)] 18 (by kernel_rfl) ?_
     repeat (first | (refine HQ.Ag (ls := x.vals) rfl rfl rfl (Rd.ofRow (by repeat constructor)) rfl rfl ?_) | ((apply HQ.Aj); (iterate 3 exact rfl)) | ((apply HQ.ptrNil); (iterate 5 exact rfl)))
     refine HQ.Ae rfl ?_
     refine HB.ev1 (i := 4) (by kernel_rfl) rfl ?_
     refine H.Ah rfl rfl rfl (hmay _) ?_
     refine gA ?_
     refine H.on0 rfl ?_
     refine HB.Af [(5, false), (6, false), (7, false), (8, false), (9, false), (10, false), (11, false), (12, false), (13, false), (14, false), (15, false), (16, false), (17, false), (18, false), (19, false), (20, false), (21, false)] 0 (by kernel_rfl) ?_
     repeat (first | (refine HQ.not (c := false) rfl rfl rfl rfl ?_) | ((first | apply HQ.Aj | apply HQ.Ax); (iterate 3 exact rfl)) | (apply HQ.Aq; (iterate 3 exact rfl); exact inferInstance; exact rfl) | (apply HQ.Ad; (iterate 3 exact rfl); apply Rd1.ofRow; (repeat (first | exact .here _ _ _ | apply At.there)); (iterate 2 exact rfl)) | ((apply HQ.cmp); (iterate 5 exact rfl)) | ((apply HQ.Bb); (iterate 4 exact rfl)) | (apply HQ.gno; (iterate 3 exact rfl); (omega)))
     refine HQ.Ae rfl ?_
     refine HB.Al (by kernel_rfl) ?_
     refine gQ ?_
     refine H.Am (ls := [.int .i64 0, .int .u64 0]) rfl rfl rfl fun kb => ?_
     refine H.Ak (ls := [.int .i64 0, .int .u64 0]) (vs := [.int .i64 x.m.origin, .int .u64 x.m.body.k]) (ls' := [.int .i64 x.m.origin, .int .u64 x.m.body.k]) rfl rfl rfl (zae rfl) rfl rfl (Nat.le_refl 2) (by repeat constructor) ?_
     refine gA ?_
     refine H.Ay (by kernel_rfl) (by decide +kernel) (by repeat (first | exact zab | refine zaa ?_ | refine zac ?_ | refine zad ?_)) (S := [_, _, _, _]) rfl ?_
     refine HB.Af [(0, false), (1, false), (2, false), (3, false), (4, false), (5, false), (6, false), (7, false), (8, false)] 3 (by kernel_rfl) ?_
     repeat (first | (refine HQ.Ag (ls := [.int .i64 x.m.origin, .int .u64 x.m.body.k]) rfl rfl rfl (Rd.ofRow (by repeat constructor)) rfl rfl ?_) | ((first | apply HQ.Aj | apply HQ.Ax); (iterate 3 exact rfl)) | (apply HQ.Aq; (iterate 3 exact rfl); exact inferInstance; exact rfl) | (apply HQ.Ad; (iterate 3 exact rfl); apply Rd1.ofRow; (repeat (first | exact .here _ _ _ | apply At.there)); (iterate 2 exact rfl)) | ((apply HQ.Cc); (iterate 4 exact rfl)) | (refine HQ.lookup2 (k := (x.m.origin, x.m.body.k)) rfl rfl rfl (by repeat constructor) rfl hg1 hg2 rfl ?_))
     refine HQ.Ae rfl ?_
     refine HB.ev1 (i := 9) (by kernel_rfl) rfl ?_
     refine H.Am (ls := dV dZ) rfl rfl rfl fun db => ?_
     refine gA ?_
     refine H.Aa (x := mp _ _ _) (by repeat constructor) ?_
     refine H.Aa (x := row cb _ _) (by repeat constructor) ?_
     refine H.Aa (x := row xb _ _) (by repeat constructor) ?_
     refine H.Aa (x := row kb _ _) (by repeat constructor) ?_
     refine H.on0 rfl ?_
     refine HB.ev1 (i := 10) (by kernel_rfl) rfl ?_
     refine H.Ak (ls := dV dZ) (vs := dV d) (ls' := dV d) rfl rfl rfl (dV_one _) (dV_len _) (zal (by first | rw [dV_len, dV_len] | rfl)) (by first | (rw [dV_len, dV_len]; decide) | exact Nat.le_refl 32) (by repeat constructor) ?_
     refine gA ?_
     refine H.on0 rfl ?_
     refine HB.Af [(11, false)] 0 (by kernel_rfl) ?_
     refine gB ?_
     refine HQ.Ae rfl ?_
     refine HB.Al (by kernel_rfl) ?_
     refine ge ?_
     refine H.Ab (x := row db _ _) (by repeat constructor) ?_
     refine H.Ab (x := row kb _ _) (by repeat constructor) ?_
     refine H.Ab (x := row xb _ _) (by repeat constructor) ?_
     refine H.imp chkH_fold ?_
     exact H.Ac rfl rfl (fun _ h => h) ⟨rfl, rfl, rfl⟩
    | none =>
     have hyes : M.take n x.m = (true, M ++ [((x.m.origin, x.m.body.k), dOf x.m.body.dig)]) := if_pos ⟨hm, h1, h2, ht⟩
     rw [hyes]
     clear hm hyes
     have hget : getKV (mpV M) (x.m.origin, x.m.body.k) = none := by rw [getKV_mpV, ht]; rfl
     have hput := putKV_mpV M (x.m.origin, x.m.body.k) (dOf x.m.body.dig) ht
     have hg1 : (getKV (mpV M) (x.m.origin, x.m.body.k)).getD (encD dZ) = encD dZ := by rw [hget]; rfl
     have hg2 : (getKV (mpV M) (x.m.origin, x.m.body.k)).isSome = false := by rw [hget]; rfl
     clear hget ht
     refine Fn.enter Tryz.func17 rfl Tryz.ntmps17 rfl (L := [(0, _), (1, _)]) ⟨rfl, rfl, trivial⟩ fun base => ?_
     show H _ _ _ _ _ (row cb _ (chkRow n mb) :: mp mb encN (mpV M) :: F) _
     refine gA ?_
     refine H.box (ls := x.vals) rfl rfl rfl rfl fun xb => ?_
     refine gO ?_
     refine H.Ay (by kernel_rfl) (by decide +kernel) (by repeat (first | exact zab | refine zaa ?_ | refine zac ?_ | refine zad ?_)) (S := [_, _]) rfl ?_
     refine HB.Af [(0, false), (1, false), (2, false), (3, false)] 18 (by kernel_rfl) ?_
     repeat (first | (refine HQ.Ag (ls := x.vals) rfl rfl rfl (Rd.ofRow (by repeat constructor)) rfl rfl ?_) | ((apply HQ.Aj); (iterate 3 exact rfl)) | ((apply HQ.ptrNil); (iterate 5 exact rfl)))
     refine HQ.Ae rfl ?_
     refine HB.ev1 (i := 4) (by kernel_rfl) rfl ?_
     refine H.Ah rfl rfl rfl (hmay _) ?_
     refine gA ?_
     refine H.on0 rfl ?_
     refine HB.Af [(5, false), (6, false), (7, false), (8, false), (9, false), (10, false), (11, false), (12, false), (13, false), (14, false), (15, false), (16, false), (17, false), (18, false), (19, false), (20, false), (21, false)] 0 (by kernel_rfl) ?_
     repeat (first | (refine HQ.not (c := false) rfl rfl rfl rfl ?_) | ((first | apply HQ.Aj | apply HQ.Ax); (iterate 3 exact rfl)) | (apply HQ.Aq; (iterate 3 exact rfl); exact inferInstance; exact rfl) | (apply HQ.Ad; (iterate 3 exact rfl); apply Rd1.ofRow; (repeat (first | exact .here _ _ _ | apply At.there)); (iterate 2 exact rfl)) | ((apply HQ.cmp); (iterate 5 exact rfl)) | ((apply HQ.Bb); (iterate 4 exact rfl)) | (apply HQ.gno; (iterate 3 exact rfl); (omega)))
     refine HQ.Ae rfl ?_
     refine HB.Al (by kernel_rfl) ?_
     refine gQ ?_
     refine H.Am (ls := [.int .i64 0, .int .u64 0]) rfl rfl rfl fun kb => ?_
     refine H.Ak (ls := [.int .i64 0, .int .u64 0]) (vs := [.int .i64 x.m.origin, .int .u64 x.m.body.k]) (ls' := [.int .i64 x.m.origin, .int .u64 x.m.body.k]) rfl rfl rfl (zae rfl) rfl rfl (Nat.le_refl 2) (by repeat constructor) ?_
     refine gA ?_
     refine H.Ay (by kernel_rfl) (by decide +kernel) (by repeat (first | exact zab | refine zaa ?_ | refine zac ?_ | refine zad ?_)) (S := [_, _, _, _]) rfl ?_
     refine HB.Af [(0, false), (1, false), (2, false), (3, false), (4, false), (5, false), (6, false), (7, false), (8, false)] 3 (by kernel_rfl) ?_
     repeat (first | (refine HQ.Ag (ls := [.int .i64 x.m.origin, .int .u64 x.m.body.k]) rfl rfl rfl (Rd.ofRow (by repeat constructor)) rfl rfl ?_) | ((first | apply HQ.Aj | apply HQ.Ax); (iterate 3 exact rfl)) | (apply HQ.Aq; (iterate 3 exact rfl); exact inferInstance; exact rfl) | (apply HQ.Ad; (iterate 3 exact rfl); apply Rd1.ofRow; (repeat (first | exact .here _ _ _ | apply At.there)); (iterate 2 exact rfl)) | ((apply HQ.Cc); (iterate 4 exact rfl)) | (refine HQ.lookup2 (k := (x.m.origin, x.m.body.k)) rfl rfl rfl (by repeat constructor) rfl hg1 hg2 rfl ?_))
     refine HQ.Ae rfl ?_
     refine HB.ev1 (i := 9) (by kernel_rfl) rfl ?_
     refine H.Am (ls := dV dZ) rfl rfl rfl fun db => ?_
     refine gA ?_
     refine H.Aa (x := mp _ _ _) (by repeat constructor) ?_
     refine H.Aa (x := row cb _ _) (by repeat constructor) ?_
     refine H.Aa (x := row xb _ _) (by repeat constructor) ?_
     refine H.Aa (x := row kb _ _) (by repeat constructor) ?_
     refine H.on0 rfl ?_
     refine HB.ev1 (i := 10) (by kernel_rfl) rfl ?_
     refine H.Ak (ls := dV dZ) (vs := dV dZ) (ls' := dV dZ) rfl rfl rfl (dV_one _) (dV_len _) (zal (by first | rw [dV_len, dV_len] | rfl)) (by first | (rw [dV_len, dV_len]; decide) | exact Nat.le_refl 32) (by repeat constructor) ?_
     refine gA ?_
     refine H.on0 rfl ?_
     refine HB.Af [(11, false)] 0 (by kernel_rfl) ?_
     refine gB ?_
     refine HQ.Ae rfl ?_
     refine HB.Al (by kernel_rfl) ?_
     refine gT ?_
     refine H.Ab (x := row db _ _) (by repeat constructor) ?_
     refine H.Bt [0, 1, 2, 3, 4, 5, 6, 7] (by kernel_rfl) (by decide +kernel) (by repeat (first | exact zab | refine zaa ?_ | refine zac ?_ | refine zad ?_)) (S := [_, _, _, _]) rfl ?_
     refine HB.Af [(0, false), (1, false), (2, false), (3, false), (4, false), (5, false), (6, false), (7, false)] 1 (by kernel_rfl) ?_
     repeat (first | (refine HQ.Ag (ls := [.int .i64 x.m.origin, .int .u64 x.m.body.k]) rfl rfl rfl (Rd.ofRow (by repeat constructor)) rfl rfl ?_) | (refine HQ.Ag (ls := bytesV (b32L x.m.body.dig)) rfl rfl rfl (mv_dig (by repeat constructor)) rfl rfl ?_) | ((first | apply HQ.Aj | apply HQ.Ax); (iterate 3 exact rfl)) | (apply HQ.Aq; (iterate 3 exact rfl); exact inferInstance; exact rfl) | (apply HQ.Ad; (iterate 3 exact rfl); apply Rd1.ofRow; (repeat (first | exact .here _ _ _ | apply At.there)); (iterate 2 exact rfl)))
     refine HQ.Ae rfl ?_
     refine HB.next [] (by kernel_rfl) (S' := []) rfl ?_
     refine HB.ev1 (i := 8) (by kernel_rfl) rfl ?_
     refine H.mapUpdate (k := (x.m.origin, x.m.body.k)) (v := encD (dOf x.m.body.dig)) rfl rfl rfl rfl (by repeat constructor) rfl ?_
     rw [hput]
     refine gA ?_
     refine H.on0 rfl ?_
     refine HB.Al (by kernel_rfl) ?_
     refine gX ?_
     refine H.Ab (x := row kb _ _) (by repeat constructor) ?_
     refine H.Ab (x := row xb _ _) (by repeat constructor) ?_
     refine H.imp chkH_fold ?_
     exact H.Ac rfl rfl (fun _ h => h) ⟨rfl, rfl, rfl⟩
   ·have hno : M.take n x.m = (false, M) := if_neg (fun h => h2 h.2.2.1)
    rw [hno]
    clear hm hno
    refine Fn.enter Tryz.func17 rfl Tryz.ntmps17 rfl (L := [(0, _), (1, _)]) ⟨rfl, rfl, trivial⟩ fun base => ?_
    show H _ _ _ _ _ (row cb _ (chkRow n mb) :: mp mb encN (mpV M) :: F) _
    refine gA ?_
    refine H.box (ls := x.vals) rfl rfl rfl rfl fun xb => ?_
    refine gO ?_
    refine H.Ay (by kernel_rfl) (by decide +kernel) (by repeat (first | exact zab | refine zaa ?_ | refine zac ?_ | refine zad ?_)) (S := [_, _]) rfl ?_
    refine HB.Af [(0, false), (1, false), (2, false), (3, false)] 18 (by kernel_rfl) ?_
    repeat (first | (refine HQ.Ag (ls := x.vals) rfl rfl rfl (Rd.ofRow (by repeat constructor)) rfl rfl ?_) | ((apply HQ.Aj); (iterate 3 exact rfl)) | ((apply HQ.ptrNil); (iterate 5 exact rfl)))
    refine HQ.Ae rfl ?_
    refine HB.ev1 (i := 4) (by kernel_rfl) rfl ?_
    refine H.Ah rfl rfl rfl (hmay _) ?_
    refine gA ?_
    refine H.on0 rfl ?_
    refine HB.Af [(5, false), (6, false), (7, false), (8, false), (9, false), (10, false), (11, false), (12, false), (13, false), (14, false), (15, false), (16, false), (17, false), (18, false), (19, false), (20, false), (21, false)] 0 (by kernel_rfl) ?_
    repeat (first | (refine HQ.not (c := false) rfl rfl rfl rfl ?_) | ((first | apply HQ.Aj | apply HQ.Ax); (iterate 3 exact rfl)) | (apply HQ.Aq; (iterate 3 exact rfl); exact inferInstance; exact rfl) | (apply HQ.Ad; (iterate 3 exact rfl); apply Rd1.ofRow; (repeat (first | exact .here _ _ _ | apply At.there)); (iterate 2 exact rfl)) | ((apply HQ.cmp); (iterate 5 exact rfl)) | ((apply HQ.Bb); (iterate 4 exact rfl)) | (apply HQ.gno; (iterate 3 exact rfl); (omega)))
    refine HQ.Ae rfl ?_
    refine HB.Al (by kernel_rfl) ?_
    refine gI ?_
    refine H.Ab (x := row xb _ _) (by repeat constructor) ?_
    refine H.imp chkH_fold ?_
    exact H.Ac rfl rfl (fun _ h => h) ⟨rfl, rfl, rfl⟩
  ·have hno : M.take n x.m = (false, M) := if_neg (fun h => h1 h.2.1)
   rw [hno]
   clear hm hno
   refine Fn.enter Tryz.func17 rfl Tryz.ntmps17 rfl (L := [(0, _), (1, _)]) ⟨rfl, rfl, trivial⟩ fun base => ?_
   show H _ _ _ _ _ (row cb _ (chkRow n mb) :: mp mb encN (mpV M) :: F) _
   refine gA ?_
   refine H.box (ls := x.vals) rfl rfl rfl rfl fun xb => ?_
   refine gO ?_
   refine H.Ay (by kernel_rfl) (by decide +kernel) (by repeat (first | exact zab | refine zaa ?_ | refine zac ?_ | refine zad ?_)) (S := [_, _]) rfl ?_
   refine HB.Af [(0, false), (1, false), (2, false), (3, false)] 18 (by kernel_rfl) ?_
   repeat (first | (refine HQ.Ag (ls := x.vals) rfl rfl rfl (Rd.ofRow (by repeat constructor)) rfl rfl ?_) | ((apply HQ.Aj); (iterate 3 exact rfl)) | ((apply HQ.ptrNil); (iterate 5 exact rfl)))
   refine HQ.Ae rfl ?_
   refine HB.ev1 (i := 4) (by kernel_rfl) rfl ?_
   refine H.Ah rfl rfl rfl (hmay _) ?_
   refine gA ?_
   refine H.on0 rfl ?_
   refine HB.Af [(5, false), (6, false), (7, false), (8, false), (9, false), (10, false), (11, false), (12, false), (13, false), (14, false), (15, false), (16, false), (17, false), (18, false), (19, false), (20, false), (21, false)] 0 (by kernel_rfl) ?_
   repeat (first | (refine HQ.not (c := false) rfl rfl rfl rfl ?_) | ((first | apply HQ.Aj | apply HQ.Ax); (iterate 3 exact rfl)) | (apply HQ.Aq; (iterate 3 exact rfl); exact inferInstance; exact rfl) | (apply HQ.Ad; (iterate 3 exact rfl); apply Rd1.ofRow; (repeat (first | exact .here _ _ _ | apply At.there)); (iterate 2 exact rfl)) | ((apply HQ.cmp); (iterate 5 exact rfl)) | (apply HQ.Bm; (iterate 2 exact rfl)) | (apply HQ.Bi; (iterate 4 exact rfl)) | ((apply HQ.Bb); (iterate 4 exact rfl)) | (apply HQ.Bo; (iterate 3 exact rfl); (omega)))
   refine HQ.Ae rfl ?_
   refine HB.Al (by kernel_rfl) ?_
   refine ge ?_
   refine H.Ab (x := row xb _ _) (by repeat constructor) ?_
   refine H.imp chkH_fold ?_
   exact H.Ac rfl rfl (fun _ h => h) ⟨rfl, rfl, rfl⟩
end
def cntD (T : Nat → Option D32) (d : D32) : Nat → Nat
 | 0 => 0
 | r + 1 => cntD T d r + (if T (r + 1) = some d then 1 else 0)
def digR (n : Nat) (T : Nat → Option D32) : Option D32 → Prop
 | some d => n / 2 < cntD T d n
 | none => ∀ d, cntD T d n ≤ n / 2
def dgV (o : Option D32) : Value := .tuple #[encD (o.getD dZ), .bool o.isSome]
theorem cntD_le (T : Nat → Option D32) (d : D32) (r : Nat) : ∀ k, cntD T d r ≤ cntD T d (r + k)
 | 0 => Nat.le_refl _
 | k + 1 => Nat.le_trans (cntD_le T d r k) (by show _ ≤ cntD T d (r + k) + _; omega)
theorem cntD_two (T : Nat → Option D32) {a b : D32} (h : a ≠ b) : ∀ r, cntD T a r + cntD T b r ≤ r
 | 0 => Nat.le_refl _
 | r + 1 => by
  have ih := cntD_two T h r
  show cntD T a r + (if T (r + 1) = some a then 1 else 0) + (cntD T b r + (if T (r + 1) = some b then 1 else 0)) ≤ r + 1
  by_cases h1 : T (r + 1) = some a
  ·rw [if_pos h1, if_neg (fun h2 => h (by rw [h1] at h2; exact Option.some.inj h2))]
   omega
  ·rw [if_neg h1]
   split <;> omega
theorem digR_one {n : Nat} {T : Nat → Option D32} {a b : Option D32} (ha : digR n T a) (hb : digR n T b) : a = b := by
 cases a with
 | none =>
  cases b with
  | none => rfl
  | some d => exact absurd (ha d) (by have : n / 2 < cntD T d n := hb; omega)
 | some c =>
  cases b with
  | none => exact absurd (hb c) (by have : n / 2 < cntD T c n := ha; omega)
  | some d =>
   by_cases e : c = d
   ·rw [e]
   ·have h1 : n / 2 < cntD T c n := ha
    have h2 : n / 2 < cntD T d n := hb
    have := cntD_two T e n
    omega
def tells (M : CM) (k : Int) : Nat → Option D32 := fun r => tld M ((r : Int), k)
section
variable (f : Frag) (F : List HP)
set_option maxRecDepth 20000 in
set_option maxHeartbeats 1600000 in
theorem cdig_core {cb n mb : Nat} {M : CM} {k : Int} {es : List ((Int × Int) × Value × Nat)} {clock : Nat} (hes : es.map kvOf = mpV M) (hn : n ≤ 11) :
  Fn Tryz.prog 19 [.pointer (some ⟨cb, 0, none⟩), .int .u64 k] f (row cb 104 (chkRow n mb) :: mpS mb encN es clock :: F) (RetP (digR n (tells M k)) dgV f (fun _ => row cb 104 (chkRow n mb) :: mpS mb encN es clock :: F)) := by
 have hhalf : IntKind.wrap .i64 (((n : Nat) : Int).tdiv 2) = ((n / 2 : Nat) : Int) := by
  rw [show (2 : Int) = ((2 : Nat) : Int) from rfl, tdiv64, wr_i64 (by omega)]
 refine Fn.enter Tryz.func19 rfl Tryz.ntmps19 rfl (L := [(0, _), (1, _)]) ⟨rfl, rfl, trivial⟩ fun base => ?_
 refine gA ?_
 refine H.Am (ls := dV dZ) rfl rfl rfl fun ob => ?_
 refine gY ?_
 refine H.makeMap encD rfl rfl fun vb => ?_
 refine gX ?_
 refine H.Aw (ι := Nat × List (D32 × Value)) (fun i => [(7, .int .i64 ((i.1 + 1 : Nat) : Int)), (6, .map (some vb)), (0, .pointer (some ⟨cb, 0, none⟩)), (1, .int .u64 k), (4, .pointer (some ⟨ob, 0, none⟩)), (5, .bool false)]) (fun _ => f)
  (fun i => mp vb encD i.2 :: row ob 47 (dV dZ) :: row cb 104 (chkRow n mb) :: mpS mb encN es clock :: F)
  (fun i => i.1 ≤ n ∧ (∀ d, (getKV i.2 d).getD (.int .i64 0) = .int .i64 (cntD (tells M k) d i.1 : Nat)) ∧ ∀ d, cntD (tells M k) d i.1 ≤ n / 2) (fun i => n - i.1) (0, []) ⟨Nat.zero_le _, fun d => rfl, fun d => Nat.zero_le _⟩ ⟨rfl, rfl, rfl, rfl, rfl, rfl, trivial⟩ rfl rfl fun i hi => ?_
 obtain ⟨r, V⟩ := i
 obtain ⟨hr, hV, hle⟩ : r ≤ n ∧ (∀ d, (getKV V d).getD (.int .i64 0) = .int .i64 (cntD (tells M k) d r : Nat)) ∧ ∀ d, cntD (tells M k) d r ≤ n / 2 := hi
 show H _ _ _ ((7, .int .i64 ((r + 1 : Nat) : Int)) :: _) _ (mp vb encD V :: _) _
 by_cases hlt : r < n
 ·cases hT : tells M k (r + 1) with
  | none =>
   have hget : getKV (es.map kvOf) (((r + 1 : Nat) : Int), k) = none := by rw [hes, getKV_mpV]; show (tells M k (r + 1)).map encD = none; rw [hT]; rfl
   have hg1 : (getKV (es.map kvOf) (((r + 1 : Nat) : Int), k)).getD (encD dZ) = encD dZ := by rw [hget]; rfl
   have hg2 : (getKV (es.map kvOf) (((r + 1 : Nat) : Int), k)).isSome = false := by rw [hget]; rfl
   repeat (first | ((first | apply H.Aj | apply H.Ax); (iterate 3 exact rfl)) | (apply H.Aq; (iterate 3 exact rfl); exact inferInstance; exact rfl) | (apply H.Ad; (iterate 3 exact rfl); apply Rd1.ofRow; (repeat (first | exact .here _ _ _ | apply At.there)); (iterate 2 exact rfl)) | (first | apply H.seq | apply H.Au | apply H.nil | apply H.Av) | ((first | apply H.cmp | apply H.Bc); (iterate 5 exact rfl)) | ((apply H.Cc); (iterate 4 exact rfl)) | (first | apply H.Bk | apply H.Bl) | (apply H.Bq; exact rfl; (omega)) | (refine H.lookup2S (k := (((r + 1 : Nat) : Int), k)) rfl rfl rfl (by repeat constructor) rfl hg1 hg2 rfl ?_))
   refine H.Am (ls := dV dZ) rfl rfl rfl fun xb => ?_
   refine H.Ak (ls := dV dZ) (vs := dV dZ) (ls' := dV dZ) rfl rfl rfl (dV_one _) rfl (zal rfl) (Nat.le_refl 32) (by repeat constructor) ?_
   repeat (first | (refine H.not (c := true) rfl rfl rfl rfl ?_) | ((first | apply H.Aj | apply H.Ar); (iterate 3 exact rfl)) | (first | apply H.seq | apply H.Au | apply H.nil | apply H.Av) | ((apply H.ar; (iterate 4 exact rfl)); (with_reducible apply zaq; omega); exact rfl) | (apply H.Ch; exact rfl) | (first | apply H.By | apply H.exit | apply H.Bw))
   refine H.Ab (x := row xb _ _) (by repeat constructor) ?_
   have hcn : ∀ d, cntD (tells M k) d (r + 1) = cntD (tells M k) d r := fun d => by
    show cntD (tells M k) d r + (if tells M k (r + 1) = some d then 1 else 0) = _
    rw [hT, if_neg (fun h => by cases h)]
    omega
   exact H.Ao (r + 1, V) ⟨by show r + 1 ≤ n; omega, fun d => by show _ = Value.int .i64 ((cntD (tells M k) d (r + 1) : Nat) : Int); rw [hcn]; exact hV d, fun d => by show cntD (tells M k) d (r + 1) ≤ n / 2; rw [hcn]; exact hle d⟩ (by show n - (r + 1) < n - r; omega) ⟨rfl, rfl, rfl, rfl, rfl, rfl, trivial⟩ rfl rfl
  | some x =>
   have hget : getKV (es.map kvOf) (((r + 1 : Nat) : Int), k) = some (encD x) := by rw [hes, getKV_mpV]; show (tells M k (r + 1)).map encD = some (encD x); rw [hT]; rfl
   have hg1 : (getKV (es.map kvOf) (((r + 1 : Nat) : Int), k)).getD (encD dZ) = encD x := by rw [hget]; rfl
   have hg2 : (getKV (es.map kvOf) (((r + 1 : Nat) : Int), k)).isSome = true := by rw [hget]; rfl
   have hcx := hV x
   obtain ⟨c, hc⟩ : ∃ c, cntD (tells M k) x r = c := ⟨_, rfl⟩
   rw [hc] at hcx
   have hcl : c ≤ n / 2 := by rw [← hc]; exact hle x
   have hV2 : ∀ d, (getKV (putKV (putKV V x (.int .i64 (c : Nat))) x (.int .i64 ((c + 1 : Nat) : Int))) d).getD (.int .i64 0) = .int .i64 ((cntD (tells M k) d r + (if d = x then 1 else 0) : Nat) : Int) := fun d => by
    by_cases e : d = x
    ·subst e; rw [getKV_put_same, if_pos rfl, hc]; rfl
    ·rw [getKV_put_ne _ _ _ _ e, getKV_put_ne _ _ _ _ e, hV d, if_neg e]; rfl
   have hcx2 : (getKV (putKV V x (.int .i64 (c : Nat))) x).getD (.int .i64 0) = .int .i64 (c : Nat) := by rw [getKV_put_same]; rfl
   repeat (first | ((first | apply H.Aj | apply H.Ax); (iterate 3 exact rfl)) | (apply H.Aq; (iterate 3 exact rfl); exact inferInstance; exact rfl) | (apply H.Ad; (iterate 3 exact rfl); apply Rd1.ofRow; (repeat (first | exact .here _ _ _ | apply At.there)); (iterate 2 exact rfl)) | (first | apply H.seq | apply H.Au | apply H.nil | apply H.Av) | ((first | apply H.cmp | apply H.Bc); (iterate 5 exact rfl)) | ((apply H.Cc); (iterate 4 exact rfl)) | (first | apply H.Bk | apply H.Bl) | (apply H.Bq; exact rfl; (omega)) | (refine H.lookup2S (k := (((r + 1 : Nat) : Int), k)) rfl rfl rfl (by repeat constructor) rfl hg1 hg2 rfl ?_))
   refine H.Am (ls := dV dZ) rfl rfl rfl fun xb => ?_
   refine H.Ak (ls := dV dZ) (vs := dV x) (ls' := dV x) rfl rfl rfl (dV_one _) (dV_len _) (zal (by first | rw [dV_len, dV_len] | rfl)) (by first | (rw [dV_len, dV_len]; decide) | exact Nat.le_refl 32) (by repeat constructor) ?_
   repeat (first | (refine H.not (c := false) rfl rfl rfl rfl ?_) | ((first | apply H.Aj | apply H.Ar); (iterate 3 exact rfl)) | (first | apply H.seq | apply H.Au | apply H.nil | apply H.Av) | (apply H.Cg; exact rfl) | (apply H.Bk))
   refine H.Ay (by kernel_rfl) (by decide +kernel) (by repeat (first | exact zab | refine zaa ?_ | refine zac ?_ | refine zad ?_)) (S := [_]) rfl ?_
   refine HB.Af [(0, false), (1, false)] 5 (by kernel_rfl) ?_
   repeat (first | (refine HQ.Ag (ls := dV x) rfl rfl rfl (Rd.ofRow (by repeat constructor)) (dV_len x) rfl ?_) | ((apply HQ.Aj); (iterate 3 exact rfl)))
   refine HQ.Ae rfl ?_
   refine HB.ev2 (i := 2) (j := 4) (by kernel_rfl) rfl rfl ?_ ?_
   ·refine H.lookup (k := x) rfl rfl rfl (by repeat constructor) rfl hcx rfl ?_
    refine gA ?_
    refine H.on0 rfl ?_
    refine HB.Af [(3, false)] 3 (by kernel_rfl) ?_
    refine gL ?_
    refine HQ.Ae rfl ?_
    refine HB.ev1 (i := 4) (by kernel_rfl) rfl ?_
    refine H.mapEntry (k := x) rfl rfl rfl (fun st => (by repeat constructor)) rfl rfl fun st => ?_
    rw [hcx]
    refine gA ?_
    refine H.on0 rfl ?_
    refine HB.Af [(5, false)] 1 (by kernel_rfl) ?_
    refine gP ?_
    refine HQ.Ae rfl ?_
    refine HB.ev1 (i := 6) (by kernel_rfl) rfl ?_
    refine H.entryStore rfl rfl rfl rfl (by repeat constructor) ?_
    refine gA ?_
    refine H.on0 rfl ?_
    refine HB.Al (by kernel_rfl) ?_
    refine gA ?_
    have hsum := hV2 x
    rw [if_pos rfl] at hsum
    have hget2 : (getKV (putKV (putKV V x (.int .i64 (c : Nat))) x (.int .i64 ((c + 1 : Nat) : Int))) x).getD (.int .i64 0) = .int .i64 ((c + 1 : Nat) : Int) := by rw [getKV_put_same]; rfl
    generalize putKV (putKV V x (.int .i64 (c : Nat))) x (.int .i64 ((c + 1 : Nat) : Int)) = V2 at hV2 hget2 ⊢
    by_cases hgt : n / 2 < c + 1
    ·refine H.Bg (by kernel_rfl) (by decide +kernel) (by repeat (first | exact zab | refine zaa ?_ | refine zac ?_ | refine zad ?_)) ?_
     repeat (first | (refine HQ.Ag (ls := dV x) rfl rfl rfl (Rd.ofRow (by repeat constructor)) (dV_len x) rfl ?_) | ((first | apply HQ.Aj | apply HQ.Ax); (iterate 3 exact rfl)) | (apply HQ.Aq; (iterate 3 exact rfl); exact inferInstance; exact rfl) | (apply HQ.Ad; (iterate 3 exact rfl); apply Rd1.ofRow; (repeat (first | exact .here _ _ _ | apply At.there)); (iterate 2 exact rfl)) | ((apply HQ.done0); exact rfl) | ((apply HQ.cmp); (iterate 5 exact rfl)) | (refine HQ.lookup (k := x) rfl rfl rfl (by repeat constructor) rfl hget2 rfl ?_) | (refine HQ.quo rfl rfl rfl (by decide) hhalf rfl ?_))
     refine gI ?_
     refine H.Ag (ls := dV x) rfl rfl rfl (Rd.ofRow (by repeat constructor)) (dV_len x) rfl ?_
     refine H.Ak (ls := dV dZ) (vs := dV x) (ls' := dV x) rfl rfl rfl (dV_one _) (dV_len _) (zal (by first | rw [dV_len, dV_len] | rfl)) (by first | (rw [dV_len, dV_len]; decide) | exact Nat.le_refl 32) (by repeat constructor) ?_
     refine gX ?_
     refine H.Ab (x := row xb _ _) (by repeat constructor) ?_
     refine H.Ab (x := mp vb _ _) (by repeat constructor) ?_
     have hres : digR n (tells M k) (some x) := by
      show n / 2 < cntD (tells M k) x n
      have h1 := cntD_le (tells M k) x (r + 1) (n - (r + 1))
      rw [show r + 1 + (n - (r + 1)) = n by omega] at h1
      have h2 : cntD (tells M k) x (r + 1) = c + 1 := by
       show cntD (tells M k) x r + (if tells M k (r + 1) = some x then 1 else 0) = c + 1
       rw [if_pos hT, hc]
      omega
     exact H.retCT rfl rfl rfl rfl (Rd.ofRow (by repeat constructor)) (dV_len x) (fun _ s => s.drop (.here _ _)) ⟨some x, hres, rfl, rfl, rfl⟩
    ·refine H.Bg (by kernel_rfl) (by decide +kernel) (by repeat (first | exact zab | refine zaa ?_ | refine zac ?_ | refine zad ?_)) ?_
     repeat (first | (refine HQ.Ag (ls := dV x) rfl rfl rfl (Rd.ofRow (by repeat constructor)) (dV_len x) rfl ?_) | ((first | apply HQ.Aj | apply HQ.Ax); (iterate 3 exact rfl)) | (apply HQ.Aq; (iterate 3 exact rfl); exact inferInstance; exact rfl) | (apply HQ.Ad; (iterate 3 exact rfl); apply Rd1.ofRow; (repeat (first | exact .here _ _ _ | apply At.there)); (iterate 2 exact rfl)) | ((apply HQ.done0); exact rfl) | ((apply HQ.cmp); (iterate 5 exact rfl)) | (refine HQ.lookup (k := x) rfl rfl rfl (by repeat constructor) rfl hget2 rfl ?_) | (refine HQ.quo rfl rfl rfl (by decide) hhalf rfl ?_))
     refine gN ?_
     refine H.Ab (x := row xb _ _) (by repeat constructor) ?_
     exact H.Ao (r + 1, V2) ⟨by show r + 1 ≤ n; omega, fun d => by
       rw [hV2 d]
       show Value.int .i64 ((cntD (tells M k) d r + (if d = x then 1 else 0) : Nat) : Int) = Value.int .i64 ((cntD (tells M k) d r + (if tells M k (r + 1) = some d then 1 else 0) : Nat) : Int)
       rw [hT]
       by_cases e : d = x
       ·subst e; simp
       ·rw [if_neg e, if_neg (fun h => e (Option.some.inj h).symm)], fun d => by
       show cntD (tells M k) d r + (if tells M k (r + 1) = some d then 1 else 0) ≤ n / 2
       rw [hT]
       by_cases e : x = d
       ·subst e; rw [if_pos rfl, hc]; omega
       ·rw [if_neg (fun h => e (Option.some.inj h))]; exact hle d⟩ (by show n - (r + 1) < n - r; omega) ⟨rfl, rfl, rfl, rfl, rfl, rfl, trivial⟩ rfl rfl
   ·refine H.mapEntry (k := x) rfl rfl rfl (fun st => (by repeat constructor)) rfl rfl fun st => ?_
    rw [hcx]
    refine gA ?_
    refine H.on0 rfl ?_
    refine HB.Af [(5, false)] 3 (by kernel_rfl) ?_
    refine gP ?_
    refine HQ.Ae rfl ?_
    refine HB.ev1 (i := 2) (by kernel_rfl) rfl ?_
    refine H.lookupAt (k := x) rfl rfl rfl (by repeat constructor) rfl hcx2 rfl ?_
    refine gA ?_
    refine H.on0 rfl ?_
    refine HB.Af [(3, false)] 1 (by kernel_rfl) ?_
    refine gL ?_
    refine HQ.Ae rfl ?_
    refine HB.ev1 (i := 6) (by kernel_rfl) rfl ?_
    refine H.entryStore rfl rfl rfl rfl (by repeat constructor) ?_
    refine gA ?_
    refine H.on0 rfl ?_
    refine HB.Al (by kernel_rfl) ?_
    refine gA ?_
    have hsum := hV2 x
    rw [if_pos rfl] at hsum
    have hget2 : (getKV (putKV (putKV V x (.int .i64 (c : Nat))) x (.int .i64 ((c + 1 : Nat) : Int))) x).getD (.int .i64 0) = .int .i64 ((c + 1 : Nat) : Int) := by rw [getKV_put_same]; rfl
    generalize putKV (putKV V x (.int .i64 (c : Nat))) x (.int .i64 ((c + 1 : Nat) : Int)) = V2 at hV2 hget2 ⊢
    by_cases hgt : n / 2 < c + 1
    ·refine H.Bg (by kernel_rfl) (by decide +kernel) (by repeat (first | exact zab | refine zaa ?_ | refine zac ?_ | refine zad ?_)) ?_
     repeat (first | (refine HQ.Ag (ls := dV x) rfl rfl rfl (Rd.ofRow (by repeat constructor)) (dV_len x) rfl ?_) | ((first | apply HQ.Aj | apply HQ.Ax); (iterate 3 exact rfl)) | (apply HQ.Aq; (iterate 3 exact rfl); exact inferInstance; exact rfl) | (apply HQ.Ad; (iterate 3 exact rfl); apply Rd1.ofRow; (repeat (first | exact .here _ _ _ | apply At.there)); (iterate 2 exact rfl)) | ((apply HQ.done0); exact rfl) | ((apply HQ.cmp); (iterate 5 exact rfl)) | (refine HQ.lookup (k := x) rfl rfl rfl (by repeat constructor) rfl hget2 rfl ?_) | (refine HQ.quo rfl rfl rfl (by decide) hhalf rfl ?_))
     refine gI ?_
     refine H.Ag (ls := dV x) rfl rfl rfl (Rd.ofRow (by repeat constructor)) (dV_len x) rfl ?_
     refine H.Ak (ls := dV dZ) (vs := dV x) (ls' := dV x) rfl rfl rfl (dV_one _) (dV_len _) (zal (by first | rw [dV_len, dV_len] | rfl)) (by first | (rw [dV_len, dV_len]; decide) | exact Nat.le_refl 32) (by repeat constructor) ?_
     refine gX ?_
     refine H.Ab (x := row xb _ _) (by repeat constructor) ?_
     refine H.Ab (x := mp vb _ _) (by repeat constructor) ?_
     have hres : digR n (tells M k) (some x) := by
      show n / 2 < cntD (tells M k) x n
      have h1 := cntD_le (tells M k) x (r + 1) (n - (r + 1))
      rw [show r + 1 + (n - (r + 1)) = n by omega] at h1
      have h2 : cntD (tells M k) x (r + 1) = c + 1 := by
       show cntD (tells M k) x r + (if tells M k (r + 1) = some x then 1 else 0) = c + 1
       rw [if_pos hT, hc]
      omega
     exact H.retCT rfl rfl rfl rfl (Rd.ofRow (by repeat constructor)) (dV_len x) (fun _ s => s.drop (.here _ _)) ⟨some x, hres, rfl, rfl, rfl⟩
    ·refine H.Bg (by kernel_rfl) (by decide +kernel) (by repeat (first | exact zab | refine zaa ?_ | refine zac ?_ | refine zad ?_)) ?_
     repeat (first | (refine HQ.Ag (ls := dV x) rfl rfl rfl (Rd.ofRow (by repeat constructor)) (dV_len x) rfl ?_) | ((first | apply HQ.Aj | apply HQ.Ax); (iterate 3 exact rfl)) | (apply HQ.Aq; (iterate 3 exact rfl); exact inferInstance; exact rfl) | (apply HQ.Ad; (iterate 3 exact rfl); apply Rd1.ofRow; (repeat (first | exact .here _ _ _ | apply At.there)); (iterate 2 exact rfl)) | ((apply HQ.done0); exact rfl) | ((apply HQ.cmp); (iterate 5 exact rfl)) | (refine HQ.lookup (k := x) rfl rfl rfl (by repeat constructor) rfl hget2 rfl ?_) | (refine HQ.quo rfl rfl rfl (by decide) hhalf rfl ?_))
     refine gN ?_
     refine H.Ab (x := row xb _ _) (by repeat constructor) ?_
     exact H.Ao (r + 1, V2) ⟨by show r + 1 ≤ n; omega, fun d => by
       rw [hV2 d]
       show Value.int .i64 ((cntD (tells M k) d r + (if d = x then 1 else 0) : Nat) : Int) = Value.int .i64 ((cntD (tells M k) d r + (if tells M k (r + 1) = some d then 1 else 0) : Nat) : Int)
       rw [hT]
       by_cases e : d = x
       ·subst e; simp
       ·rw [if_neg e, if_neg (fun h => e (Option.some.inj h).symm)], fun d => by
       show cntD (tells M k) d r + (if tells M k (r + 1) = some d then 1 else 0) ≤ n / 2
       rw [hT]
       by_cases e : x = d
       ·subst e; rw [if_pos rfl, hc]; omega
       ·rw [if_neg (fun h => e (Option.some.inj h))]; exact hle d⟩ (by show n - (r + 1) < n - r; omega) ⟨rfl, rfl, rfl, rfl, rfl, rfl, trivial⟩ rfl rfl
 ·have hrn : r = n := by omega
  subst hrn
  have hres : digR r (tells M k) none := hle
  refine gQ ?_
  refine H.Ag (ls := dV dZ) rfl rfl rfl (Rd.ofRow (by repeat constructor)) rfl rfl ?_
  refine H.Ak (ls := dV dZ) (vs := dV dZ) (ls' := dV dZ) rfl rfl rfl (dV_one _) rfl (zal rfl) (Nat.le_refl 32) (by repeat constructor) ?_
  refine gX ?_
  refine H.Ab (x := mp vb _ _) (by repeat constructor) ?_
  exact H.retCT rfl rfl rfl rfl (Rd.ofRow (by repeat constructor)) rfl (fun _ s => s.drop (.here _ _)) ⟨none, hres, rfl, rfl, rfl⟩
theorem cdig_fn {cb n : Nat} {M : CM} {k : Int} (hn : n ≤ 11) : Fn Tryz.prog 19 [.pointer (some ⟨cb, 0, none⟩), .int .u64 k] f (chkH cb n M :: F) (RetP (digR n (tells M k)) dgV f (fun _ => chkH cb n M :: F)) := by
 refine Fn.unpack fun mb _ => ?_
 show Fn _ _ _ _ (row cb _ (chkRow n mb) :: mp mb encN (mpV M) :: F) _
 refine Fn.front (.there _ (.here _ _)) ?_
 refine Fn.openMap fun es clock hes => ?_
 refine Fn.front (.there _ (.here _ _)) ?_
 refine Fn.monoA (cdig_core f F hes hn) ?_
 rintro v f' A' ⟨o, ho, rfl, rfl, rfl⟩
 refine ⟨_, ⟨o, ho, rfl, rfl, rfl⟩, fun x hx => chkH_fold x (keep_stars (fun y hy => ?_) x hx)⟩
 rw [← hes]
 exact mpS_fold y hy
end
theorem results_tmp_cell {P : Program} {fn : Func} {t u : Tmp} {ty : TypeId} {tmps : Array Value} {w : World} {b off : Nat} {v x : Value} (h : fn.results = #[.tmp u, .cell t ty]) (hp : tmps.getD t undef = .pointer (some ⟨b, off, none⟩)) (hx : tmps.getD u undef = x)
  (hl : (loadVar ty ⟨b, off, none⟩).run P w = .ok v w) : (results fn tmps).run P w = .ok (.tuple #[x, v]) w := by
 have hp' : tmps[t]?.getD undef = .pointer (some ⟨b, off, none⟩) := by simpa using hp
 have hx' : tmps[u]?.getD undef = x := by simpa using hx
 simp only [results, h]
 simp [Sem.run_bind, asAddr, hp', hx', hl]
theorem H.retTC {P : Program} {base : World} {n : Nat} {L : Env} {f : Frag} {A : List HP} {fn : Func} {R : Value → Frag → List HP → Prop} {t u : Nat} {x : Value} {ty : TypeId} {dd : TypeDesc} {m b off : Nat} {ls : List Value} {A' : List HP} [hu : Und P ty dd] [hs : Siz P ty m] (hr : fn.results = #[.tmp u, .cell t ty]) (hv : look? L t = some (.pointer (some ⟨b, off, none⟩))) (hx : look? L u = some x) (ha : aggD dd = true)
  (hrd : Rd f A b off ls) (hm : ls.length = m) (hA : ∀ w, Sat base w f A → Sat base w f A') (h : R (.tuple #[x, .agg ls.toArray]) f A') : H P base n L f A (.out .ret (.fn (FnPost P fn base R))) := .mk fun a w hf s => by
 show bodyPost P fn (fun e w' => ∃ v f' A', e = .returned v ∧ R v f' A' ∧ Sat base w' f' A') .ret a w
 refine bodyPost_ret (v := .tuple #[x, .agg ls.toArray]) ?_ hf.defers ⟨_, f, A', rfl, h, hA w s⟩
 have h1 := hf.get t _ hv
 have h1' := hf.get u _ hx
 have h2 : a.tmps.getD t undef = .pointer (some ⟨b, off, none⟩) := by simp [Array.getD_eq_getD_getElem?, h1]
 have h2' : a.tmps.getD u undef = x := by simp [Array.getD_eq_getD_getElem?, h1']
 have h3 := run_loadAtN (P := P) hu ha hs (hrd base w s) hm
 unfold Instr.loadAt Instr.sureAddr at h3
 exact results_tmp_cell hr h2 h2' (by simpa using h3)
def stR (n : Nat) (M : CM) (r : Int × D32) : Prop := (r = (0, dZ) ∨ (0 < r.1 ∧ digR n (tells M r.1) (some r.2))) ∧ ∀ k d, 0 < k → digR n (tells M k) (some d) → k ≤ r.1
def stV (r : Int × D32) : Value := .tuple #[.int .u64 r.1, encD r.2]
theorem cntD_pos {T : Nat → Option D32} {d : D32} : ∀ {r : Nat}, 0 < cntD T d r → ∃ i, T i = some d
 | 0, h => absurd h (Nat.lt_irrefl _)
 | r + 1, h => by
  by_cases e : T (r + 1) = some d
  ·exact ⟨_, e⟩
  ·have h : 0 < cntD T d r + (if T (r + 1) = some d then 1 else 0) := h
   rw [if_neg e] at h
   exact cntD_pos h
theorem mem_keys {M : CM} {es : List ((Int × Int) × Value × Nat)} (hes : es.map kvOf = mpV M) {k : Int × Int} {d : D32} (h : (k, d) ∈ M) : ∃ e ∈ es, e.1 = k := by
 have h1 : (k, encD d) ∈ mpV M := List.mem_map.2 ⟨_, h, rfl⟩
 rw [← hes] at h1
 obtain ⟨e, he, h2⟩ := List.mem_map.1 h1
 exact ⟨e, he, congrArg (·.1) h2⟩
def unseen (es : List ((Int × Int) × Value × Nat)) (seen : List (Int × Int)) : Nat := (es.filter fun e => !seen.contains e.1).length
theorem unseen_lt {es : List ((Int × Int) × Value × Nat)} {seen : List (Int × Int)} {e : (Int × Int) × Value × Nat} (he : e ∈ es) (hn : e.1 ∉ seen) : unseen es (e.1 :: seen) < unseen es seen := by
 unfold unseen
 refine filter_lt (fun x : (Int × Int) × Value × Nat => !seen.contains x.1) (fun x => !(e.1 :: seen).contains x.1) (fun x hx => ?_) e ?_ ?_ es he
 ·simp only [Bool.not_eq_true', List.contains_eq_mem, decide_eq_false_iff_not, List.mem_cons, not_or] at hx ⊢
  exact hx.2
 ·simpa using hn
 ·simp
section
variable (f : Frag) (F : List HP)
set_option maxRecDepth 20000 in
set_option maxHeartbeats 1600000 in
theorem cst_core {cb n mb : Nat} {M : CM} {es : List ((Int × Int) × Value × Nat)} {clock : Nat} (hes : es.map kvOf = mpV M) (hn : n ≤ 11) :
  Fn Tryz.prog 22 [.pointer (some ⟨cb, 0, none⟩)] f (row cb 104 (chkRow n mb) :: mpS mb encN es clock :: F) (RetP (stR n M) stV f (fun _ => row cb 104 (chkRow n mb) :: mpS mb encN es clock :: F)) := by
 refine Fn.enter Tryz.func22 rfl Tryz.ntmps22 rfl (L := [(0, _)]) ⟨rfl, trivial⟩ fun base => ?_
 refine gO ?_
 refine H.Am (ls := dV dZ) rfl rfl rfl fun ob => ?_
 refine gY ?_
 refine H.range rfl rfl (by repeat constructor) rfl fun rb => ?_
 refine gX ?_
 refine H.Aw (ι := List (Int × Int) × Int × D32) (fun i => [(14, .pointer (some ⟨rb, 0, none⟩)), (0, .pointer (some ⟨cb, 0, none⟩)), (2, .int .u64 i.2.1), (3, .pointer (some ⟨ob, 0, none⟩))]) (fun _ => f)
  (fun i => itr rb mb es clock i.1 :: row ob 47 (dV i.2.2) :: row cb 104 (chkRow n mb) :: mpS mb encN es clock :: F)
  (fun i => ((i.2 = (0, dZ)) ∨ (0 < i.2.1 ∧ digR n (tells M i.2.1) (some i.2.2))) ∧ ∀ key ∈ i.1, ∀ d', digR n (tells M key.2) (some d') → key.2 ≤ i.2.1) (fun i => unseen es i.1) ([], 0, dZ) ⟨.inl rfl, fun key hk => by cases hk⟩ ⟨rfl, rfl, rfl, rfl, trivial⟩ rfl rfl fun i hi => ?_
 obtain ⟨seen, k, d⟩ := i
 obtain ⟨hkd0, hall0⟩ : (((k, d) : Int × D32) = (0, dZ) ∨ (0 < k ∧ digR n (tells M k) (some d))) ∧ ∀ key ∈ seen, ∀ d', digR n (tells M key.2) (some d') → key.2 ≤ k := hi
 show H _ _ _ [_, _, (2, .int .u64 k), _] _ (itr rb mb es clock seen :: row ob _ (dV d) :: _) _
 refine gA ?_
 refine H.next rfl rfl (by repeat constructor) (by repeat constructor) (fun _ => (by repeat constructor)) rfl (fun hend => ?_) (fun e he hns => ?_)
 ·have hres : stR n M (k, d) := ⟨hkd0, fun k' d' h0 hd' => by
   have h1 : n / 2 < cntD (tells M k') d' n := hd'
   obtain ⟨r, hr⟩ := cntD_pos (show 0 < cntD (tells M k') d' n by omega)
   obtain ⟨e, he, hk⟩ := mem_keys hes (tld_mem hr)
   have h2 := hend e he
   rw [hk] at h2
   exact hall0 _ h2 d' hd'⟩
  refine gR ?_
  refine H.Ab (x := itr _ _ _ _ _) (by repeat constructor) ?_
  refine H.Ay (by kernel_rfl) (by decide +kernel) (by repeat (first | exact zab | refine zaa ?_ | refine zac ?_ | refine zad ?_)) (S := [_]) rfl ?_
  refine HB.Af [(0, false), (1, false), (2, false)] 1 (by kernel_rfl) ?_
  repeat (first | (refine HQ.Ag (ls := dV d) rfl rfl rfl (Rd.ofRow (by repeat constructor)) (dV_len d) rfl ?_) | ((first | apply HQ.Aj | apply HQ.Ar); (iterate 3 exact rfl)))
  refine HQ.Ae rfl ?_
  refine HB.ev1 (i := 3) (by kernel_rfl) rfl ?_
  refine H.Ak (ls := dV d) (vs := dV d) (ls' := dV d) rfl rfl rfl (dV_one _) (dV_len _) (zal rfl) (by rw [dV_len]; decide) (by repeat constructor) ?_
  refine gA ?_
  refine H.on0 rfl ?_
  refine HB.Al (by kernel_rfl) ?_
  refine gX ?_
  exact H.retTC rfl rfl rfl rfl (Rd.ofRow (by repeat constructor)) (dV_len d) (fun _ s => s.drop (.here _ _)) ⟨(k, d), hres, rfl, rfl, rfl⟩
 ·skip
  refine gG ?_
  refine H.entry rfl rfl (by repeat constructor) (by repeat constructor) he rfl ?_
  refine gR ?_
  refine H.Am (ls := [.int .i64 0, .int .u64 0]) rfl rfl rfl fun kb => ?_
  refine H.Ak (ls := [.int .i64 0, .int .u64 0]) (vs := [.int .i64 e.1.1, .int .u64 e.1.2]) (ls' := [.int .i64 e.1.1, .int .u64 e.1.2]) rfl rfl rfl (zae rfl) rfl rfl (Nat.le_refl 2) (by repeat constructor) ?_
  refine gK ?_
  refine H.Aa (x := mpS _ _ _ _) (by repeat constructor) ?_
  refine H.Aa (x := row cb _ _) (by repeat constructor) ?_
  refine H.callP rfl rfl rfl (cdig_core f _ hes hn) fun o ho => ?_
  refine gR ?_
  refine H.Am (ls := dV dZ) rfl rfl rfl fun yb => ?_
  refine H.Ak (ls := dV dZ) (vs := dV (o.getD dZ)) (ls' := dV (o.getD dZ)) rfl rfl rfl (dV_one _) (dV_len _) (zal (by rw [dV_len, dV_len])) (by rw [dV_len, dV_len]; decide) (by repeat constructor) ?_
  refine H.Aa (x := mpS _ _ _ _) (by repeat constructor) ?_
  refine H.Aa (x := row cb _ _) (by repeat constructor) ?_
  refine H.Aa (x := row ob _ _) (by repeat constructor) ?_
  refine H.Aa (x := itr _ _ _ _ _) (by repeat constructor) ?_
  cases o with
  | none =>
   have hnew : ∀ d', digR n (tells M e.1.2) (some d') → e.1.2 ≤ k := fun d' hd' => by cases digR_one ho hd'
   refine gT ?_
   refine H.Ab (x := row kb _ _) (by repeat constructor) ?_
   refine H.Ab (x := row yb _ _) (by repeat constructor) ?_
   have hkd := hkd0
   have hall := hall0
   generalize k = kk at hkd hall hnew ⊢
   generalize d = dd at hkd ⊢
   exact H.Ao (e.1 :: seen, kk, dd) ⟨hkd, by
     intro key hkey d' hd'
     rcases List.mem_cons.1 hkey with h | h
     ·rw [h] at hd' ⊢
      exact hnew d' hd'
     ·exact hall key h d' hd'⟩ (unseen_lt he hns) ⟨rfl, rfl, rfl, rfl, trivial⟩ rfl rfl
  | some x =>
   by_cases hgt : k < e.1.2
   ·have hk0 : 0 ≤ k := by
     rcases hkd0 with h | h
     ·cases h; exact Int.le_refl _
     ·omega
    have hnew : ∀ d', digR n (tells M e.1.2) (some d') → e.1.2 ≤ e.1.2 := fun _ _ => Int.le_refl _
    have hkd : ((e.1.2, x) : Int × D32) = (0, dZ) ∨ (0 < e.1.2 ∧ digR n (tells M e.1.2) (some x)) := .inr ⟨by omega, ho⟩
    have hall : ∀ key ∈ seen, ∀ d', digR n (tells M key.2) (some d') → key.2 ≤ e.1.2 := fun key hk d' hd' => by
     have := hall0 key hk d' hd'
     omega
    refine gc ?_
    refine H.Aa (x := row kb _ _) (by repeat constructor) ?_
    refine H.Aa (x := row yb _ _) (by repeat constructor) ?_
    refine H.Ay (by kernel_rfl) (by decide +kernel) (by repeat (first | exact zab | refine zaa ?_ | refine zac ?_ | refine zad ?_)) (S := [_, _]) rfl ?_
    refine HB.Af [(0, false), (1, false), (2, false), (3, false)] 1 (by kernel_rfl) ?_
    repeat (first | (refine HQ.Ag (ls := dV x) rfl rfl rfl (Rd.ofRow (by repeat constructor)) (dV_len x) rfl ?_) | ((apply HQ.Ar); (iterate 3 exact rfl)) | (apply HQ.Aq; (iterate 3 exact rfl); exact inferInstance; exact rfl) | (apply HQ.Ad; (iterate 3 exact rfl); apply Rd1.ofRow; (repeat (first | exact .here _ _ _ | apply At.there)); (iterate 2 exact rfl)))
    refine HQ.Ae rfl ?_
    refine HB.ev1 (i := 4) (by kernel_rfl) rfl ?_
    refine H.Ak (ls := dV d) (vs := dV x) (ls' := dV x) rfl rfl rfl (dV_one _) (dV_len _) (zal (by rw [dV_len, dV_len])) (by rw [dV_len, dV_len]; decide) (by repeat constructor) ?_
    refine gA ?_
    refine H.on0 rfl ?_
    refine HB.Al (by kernel_rfl) ?_
    refine gX ?_
    refine H.Ab (x := row kb _ _) (by repeat constructor) ?_
    refine H.Ab (x := row yb _ _) (by repeat constructor) ?_
    clear hkd0 hall0 hk0 hgt
    obtain ⟨kk, hkk⟩ : ∃ kk, e.1.2 = kk := ⟨_, rfl⟩
    rw [hkk] at hkd hall ⊢
    generalize x = dd at hkd ⊢
    have hnew : ∀ d', digR n (tells M e.1.2) (some d') → e.1.2 ≤ kk := fun _ _ => by rw [hkk]; exact Int.le_refl _
    exact H.Ao (e.1 :: seen, kk, dd) ⟨hkd, by
      intro key hkey d' hd'
      rcases List.mem_cons.1 hkey with h | h
      ·rw [h] at hd' ⊢
       exact hnew d' hd'
      ·exact hall key h d' hd'⟩ (unseen_lt he hns) ⟨rfl, rfl, rfl, rfl, trivial⟩ rfl rfl
   ·have hnew : ∀ d', digR n (tells M e.1.2) (some d') → e.1.2 ≤ k := fun _ _ => by omega
    refine gc ?_
    refine H.Ab (x := row kb _ _) (by repeat constructor) ?_
    refine H.Ab (x := row yb _ _) (by repeat constructor) ?_
    have hkd := hkd0
    have hall := hall0
    clear hkd0 hall0 hgt
    generalize k = kk at hkd hall hnew ⊢
    generalize d = dd at hkd ⊢
    exact H.Ao (e.1 :: seen, kk, dd) ⟨hkd, by
      intro key hkey d' hd'
      rcases List.mem_cons.1 hkey with h | h
      ·rw [h] at hd' ⊢
       exact hnew d' hd'
      ·exact hall key h d' hd'⟩ (unseen_lt he hns) ⟨rfl, rfl, rfl, rfl, trivial⟩ rfl rfl
theorem cst_fn {cb n : Nat} {M : CM} (hn : n ≤ 11) : Fn Tryz.prog 22 [.pointer (some ⟨cb, 0, none⟩)] f (chkH cb n M :: F) (RetP (stR n M) stV f (fun _ => chkH cb n M :: F)) := by
 refine Fn.unpack fun mb _ => ?_
 show Fn _ _ _ _ (row cb _ (chkRow n mb) :: mp mb encN (mpV M) :: F) _
 refine Fn.front (.there _ (.here _ _)) ?_
 refine Fn.openMap fun es clock hes => ?_
 refine Fn.front (.there _ (.here _ _)) ?_
 refine Fn.monoA (cst_core f F hes hn) ?_
 rintro v f' A' ⟨o, ho, rfl, rfl, rfl⟩
 refine ⟨_, ⟨o, ho, rfl, rfl, rfl⟩, fun x hx => chkH_fold x (keep_stars (fun y hy => ?_) x hx)⟩
 rw [← hes]
 exact mpS_fold y hy
end
theorem rowM_bat {f g : Frag} {b : Nat} {T : TypeId} {l : List UInt8} (h : rowM b T (bytesV l) g) (hd : Dj f g) : BAt (un f g) (some ⟨b, 0, none⟩) l := by
 have hg : g = sing b (.cells (bytesV l).toArray T ((bytesV l).length, (bytesV l).length + 1)) := h
 refine .inr ⟨b, 0, (bytesV l).toArray, T, ((bytesV l).length, (bytesV l).length + 1), rfl, ?_, fun i hi => by simp⟩
 have : f b = none := by
  rcases hd b with h | h
  ·exact h
  ·rw [hg] at h
   simp [sing] at h
 unfold un
 rw [this, hg]
 simp [sing]
theorem mv_one (x : MV) : ∀ v ∈ x.vals, one v = true := zae rfl
def oneM0 (o k : Int) (t : Nat → UInt8) : Msg := ⟨o, 1, fun _ => 0, { Bod.zero 6 with k := k, dig := t }, noTag⟩
def oneMV (o k : Int) (t : Nat → UInt8) : MV := ⟨(oneM0 o k t).signed, none, 0⟩
theorem signed_may (m : Msg) : m.signed.may = m.may := by
 unfold Msg.signed
 split
 ·rfl
 ·rfl
theorem signed_f (m : Msg) : m.signed.origin = m.origin ∧ m.signed.body = m.body := by
 unfold Msg.signed
 split
 ·exact ⟨rfl, rfl⟩
 ·exact ⟨rfl, rfl⟩
theorem oneMV_good (f : Frag) {o k : Int} {t : Nat → UInt8} (hk : 0 ≤ k ∧ k ≤ 18446744073709551615) : (oneMV o k t).Good f := by
 refine ⟨?_, ?_, ?_⟩
 ·show QAt f none (oneM0 o k t).signed.body.q
  rw [(signed_f _).2]
  exact QAt.nil f none
 ·show (oneM0 o k t).signed.body.q.length ≤ 1000000
  rw [(signed_f _).2]
  exact Nat.zero_le _
 ·show (oneM0 o k t).signed.body.Ok
  rw [(signed_f _).2]
  exact ⟨⟨Int.le_refl _, by show (0 : Int) ≤ _; decide⟩, hk, ⟨Int.le_refl _, by show (0 : Int) ≤ _; decide⟩, ⟨Int.le_refl _, by show (0 : Int) ≤ _; decide⟩⟩
section
variable (f : Frag) (F : List HP)
theorem shaSum_fn (htab : TabAt f) {p : Option Addr} {cap : Nat} {b : List UInt8} (hb : BAt f p b) (hcap : b.length ≤ cap) (hl : b.length ≤ 1000000000) : Fn Tryz.prog 48 [.slice p b.length cap] f F (Ret (.agg (b32 (Sha.sum b)).toArray) f F) := by
 refine Fn.enter Tryz.func48 rfl Tryz.ntmps48 rfl (L := [(0, _)]) ⟨rfl, trivial⟩ fun base => ?_
 refine gA ?_
 refine H.Am (ls := dV dZ) rfl rfl rfl fun ob => ?_
 refine gA ?_
 refine H.callE rfl rfl rfl (snew_fn f _) fun hb' => ?_
 refine gO ?_
 refine H.Ah rfl rfl rfl (swrite_fn f _ htab hb hcap (by show 0 + b.length ≤ _; omega)) ?_
 refine gO ?_
 refine H.Ah rfl rfl rfl (hsum_fn f _ htab (b := [] ++ b) (by show b.length ≤ _; exact hl)) ?_
 refine H.Ak (ls := dV dZ) (vs := b32 (Sha.sum ([] ++ b))) (ls' := b32 (Sha.sum ([] ++ b))) rfl rfl rfl (zae rfl) rfl rfl (Nat.le_refl 32) (by repeat constructor) ?_
 refine gX ?_
 refine H.Ab (x := hashH _ _) (by repeat constructor) ?_
 exact H.Bd rfl rfl rfl (Rd.ofRow (by repeat constructor)) rfl (fun _ s => s.drop (.here _ _)) ⟨rfl, rfl, rfl⟩
def rightB (b : List UInt8) (o : Option D32) : Bool := decide (o = some (dOf (Sha.sum b)))
set_option maxHeartbeats 1600000 in
theorem cright_fn (htab : TabAt f) {cb n : Nat} {M : CM} {k : Int} {p : Option Addr} {cap : Nat} {b : List UInt8} (hn : n ≤ 11) (hb : BAt f p b) (hcap : b.length ≤ cap) (hl : b.length ≤ 1000000000) :
  Fn Tryz.prog 21 [.pointer (some ⟨cb, 0, none⟩), .int .u64 k, .slice p b.length cap] f (chkH cb n M :: F) (RetP (digR n (tells M k)) (fun o => .bool (rightB b o)) f (fun _ => chkH cb n M :: F)) := by
 refine Fn.enter Tryz.func21 rfl Tryz.ntmps21 rfl (L := [(0, _), (1, _), (2, _)]) ⟨rfl, rfl, rfl, trivial⟩ fun base => ?_
 refine gO ?_
 refine H.callP rfl rfl rfl (cdig_fn f _ hn) fun o ho => ?_
 refine gR ?_
 refine H.Am (ls := dV dZ) rfl rfl rfl fun db => ?_
 refine H.Ak (ls := dV dZ) (vs := dV (o.getD dZ)) (ls' := dV (o.getD dZ)) rfl rfl rfl (dV_one _) (dV_len _) (zal (by rw [dV_len, dV_len])) (by rw [dV_len, dV_len]; decide) (by repeat constructor) ?_
 cases o with
 | none =>
  refine gO ?_
  refine H.Ay (by kernel_rfl) (by decide +kernel) (by repeat (first | exact zab | refine zaa ?_ | refine zac ?_ | refine zad ?_)) (S := [_]) rfl ?_
  refine HB.Af [(0, false), (1, false), (2, false), (4, false)] 4 (by kernel_rfl) ?_
  refine gP ?_
  refine HQ.Ae rfl ?_
  refine HB.ev1 (i := 3) (by kernel_rfl) rfl ?_
  refine gD ?_
  refine H.on0 rfl ?_
  refine HB.Af [(5, false), (6, false), (7, false)] 0 (by kernel_rfl) ?_
  refine gP ?_
  refine HQ.Ae rfl ?_
  refine HB.Al (by kernel_rfl) ?_
  refine gX ?_
  refine H.Ab (x := row db _ _) (by repeat constructor) ?_
  exact H.Ac rfl rfl (fun _ h => h) ⟨none, ho, rfl, rfl, rfl⟩
 | some d =>
  have heq : eqC (dV (dOf (Sha.sum b))) (dV d) = rightB b (some d) := by
   unfold dV rightB
   rw [eqC_bytes]
   by_cases h : (dOf (Sha.sum b)).1 = d.1
   ·rw [decide_eq_true h, decide_eq_true (by rw [Subtype.ext h])]
   ·rw [decide_eq_false h, decide_eq_false (fun e => h (by rw [Option.some.inj e]))]
  show H _ _ _ _ _ (row db _ (dV d) :: _) _
  refine gO ?_
  refine H.Ay (by kernel_rfl) (by decide +kernel) (by repeat (first | exact zab | refine zaa ?_ | refine zac ?_ | refine zad ?_)) (S := [_]) rfl ?_
  refine HB.Af [(0, false), (1, false), (2, false), (4, false)] 4 (by kernel_rfl) ?_
  repeat (first | (refine HQ.Ag (ls := dV d) rfl rfl rfl (Rd.ofRow (by repeat constructor)) (dV_len d) rfl ?_) | ((apply HQ.Aj); (iterate 3 exact rfl)))
  refine HQ.Ae rfl ?_
  refine HB.ev1 (i := 3) (by kernel_rfl) rfl ?_
  refine H.Ah rfl rfl rfl (shaSum_fn f _ htab hb hcap hl) ?_
  refine gA ?_
  refine H.on0 rfl ?_
  refine HB.Af [(5, false), (6, false), (7, false)] 0 (by kernel_rfl) ?_
  refine HQ.aggEq (xs := dV (dOf (Sha.sum b))) (ys := dV d) (D := 4) rfl rfl rfl rfl (by kernel_rfl) (dV_shp _) (dV_shp _) (by kernel_rfl) (by decide) heq rfl ?_
  refine gP ?_
  refine HQ.Ae rfl ?_
  refine HB.Al (by kernel_rfl) ?_
  refine gX ?_
  refine H.Ab (x := row db _ _) (by repeat constructor) ?_
  exact H.Ac rfl rfl (fun _ h => h) ⟨some d, ho, rfl, rfl, rfl⟩
set_option maxHeartbeats 1600000 in
theorem one21_fn {o k : Int} {t : Nat → UInt8} : Fn Tryz.prog 15 [.int .i64 o, .int .u64 k, .agg (b32 t).toArray] f F (Ret (.agg (oneMV o k t).vals.toArray) f F) := by
 have htag := fun G => rtagged_fn f G (m := oneM0 o k t) (q := none) (qc := 0) (QAt.nil f none) (Nat.zero_le _)
 refine Fn.enter Tryz.func15 rfl Tryz.ntmps15 rfl (L := [(0, _), (1, _), (2, _)]) ⟨rfl, rfl, rfl, trivial⟩ fun base => ?_
 refine gA ?_
 refine H.box (ls := b32 t) rfl rfl rfl rfl fun tb => ?_
 refine H.Am (ls := (⟨⟨0, 0, fun _ => 0, Bod.zero 0, noTag⟩, none, 0⟩ : MV).vals) rfl rfl rfl fun mb => ?_
 repeat (first | (refine H.Ag (ls := b32 t) rfl rfl rfl (Rd.ofRow (by repeat constructor)) rfl rfl ?_) | (refine H.Bc (t := 52) (out := ({ Bod.zero 6 with k := k, dig := t } : Bod).vals none 0) rfl rfl rfl (by kernel_rfl) rfl ?_) | (refine H.Bc (t := 54) (out := (oneM0 o k t).vals none 0) rfl rfl rfl (by kernel_rfl) rfl ?_) | ((apply H.Aj); (iterate 3 exact rfl)) | (first | apply H.seq | apply H.Au | apply H.nil | apply H.Av))
 refine H.Ah rfl rfl rfl (htag _) ?_
 refine H.Ak (ls := (⟨⟨0, 0, fun _ => 0, Bod.zero 0, noTag⟩, none, 0⟩ : MV).vals) (vs := (oneMV o k t).vals) (ls' := (oneMV o k t).vals) rfl rfl rfl (mv_one _) (MV.len _) (zal ((MV.len _).trans (MV.len _).symm)) (by rw [MV.len, MV.len]; decide) (by repeat constructor) ?_
 refine gX ?_
 refine H.Ab (x := row tb _ _) (by repeat constructor) ?_
 exact H.Bd rfl rfl rfl (Rd.ofRow (by repeat constructor)) (MV.len _) (fun _ s => s.drop (.here _ _)) ⟨rfl, rfl, rfl⟩
end
theorem H.weaken {P : Program} {base : World} {n : Nat} {L : Env} {f g : Frag} {A : List HP} {K : Kont} (h : Le f g) (k : H P base n L f A K) : H P base n L g A K := .mk fun a w hf s => k.out a w hf (s.weak h)
theorem bod_refl {k : Int} {t : Nat → UInt8} : Bod.eqB ({ Bod.zero 6 with k := k, dig := t } : Bod) ({ Bod.zero 6 with k := k, dig := t } : Bod) = true := by
 unfold Bod.eqB
 have e1 : eqC (b32 t) (b32 t) = true := by rw [b32_bytes, eqC_bytes]; exact decide_eq_true rfl
 have e2 : eqC Req.zero.vals Req.zero.vals = true := by decide +kernel
 show (decide _ && decide _ && decide _ && eqC Req.zero.vals Req.zero.vals && decide _ && eqC (b32 t) (b32 t)) = true
 rw [e1, e2]
 simp
theorem oneM0_may {o k : Int} {t : Nat → UInt8} (ho : 1 ≤ o ∧ o ≤ 11) (hk : 1 ≤ k ∧ k ≤ 4611686018427387904) : (oneM0 o k t).may = true := by
 have h1 : (oneM0 o k t).outer := ⟨ho.1, ho.2, by show (1 : Int) ≤ 1; decide, by show (1 : Int) ≤ 65536; decide, by show (0 : Int) = 1 - 1; decide, (maxTo_le _ _ 10).2 (fun i _ => by show (0 : Int) ≤ 65536; decide)⟩
 have h2 : (oneM0 o k t).body.may = true := by
  unfold Bod.may
  have e1 : Bod.eqB (oneM0 o k t).body.own (oneM0 o k t).body = true := bod_refl
  have e2 : decide ((oneM0 o k t).body.view < 1073741824) = true := rfl
  have e3 : (oneM0 o k t).body.mayK (oneM0 o k t).body.kind.toNat = true := decide_eq_true hk
  rw [e1, e2, e3]
  rfl
 unfold Msg.may
 rw [decide_eq_true h1, h2]
 rfl
theorem take_one {M : CM} {n : Nat} {o k : Int} {t : Nat → UInt8} (ho : 1 ≤ o ∧ o ≤ 11) (hk : 1 ≤ k ∧ k ≤ 4611686018427387904) (hn : o ≤ n) : M.take n (oneMV o k t).m = if tld M (o, k) = none then (true, M ++ [((o, k), dOf t)]) else (false, M) := by
 have e1 : (oneMV o k t).m.origin = o := (signed_f _).1
 have e2 : (oneMV o k t).m.body = (oneM0 o k t).body := (signed_f _).2
 have e3 : (oneMV o k t).m.may = true := (signed_may _).trans (oneM0_may ho hk)
 unfold CM.take
 rw [e1, e2, e3]
 by_cases h : tld M (o, k) = none
 ·rw [if_pos h, if_pos ⟨rfl, hn, rfl, h⟩]
  rfl
 ·rw [if_neg h, if_neg (fun hh => h hh.2.2.2)]
theorem stR_one {n : Nat} {M : CM} {a b : Int × D32} (ha : stR n M a) (hb : stR n M b) : a = b := by
 obtain ⟨a1, a2⟩ := ha
 obtain ⟨b1, b2⟩ := hb
 rcases a1 with rfl | ⟨a0, ad⟩
 ·rcases b1 with rfl | ⟨b0, bd⟩
  ·rfl
  ·have := a2 _ _ b0 bd
   have : b.1 ≤ 0 := this
   omega
 ·rcases b1 with rfl | ⟨b0, bd⟩
  ·have : a.1 ≤ 0 := b2 _ _ a0 ad
   omega
  ·have h1 := a2 _ _ b0 bd
   have h2 := b2 _ _ a0 ad
   have h3 : a.1 = b.1 := by omega
   have h4 : some a.2 = some b.2 := digR_one ad (by rw [h3]; exact bd)
   exact Prod.ext h3 (Option.some.inj h4)
theorem sum_ab : dOf (Sha.sum [97]) ≠ dOf (Sha.sum [98]) := fun h => by
 have h1 : (dOf (Sha.sum [97])).1.head? = (dOf (Sha.sum [98])).1.head? := by rw [h]
 have h2 : some (Sha.sum [97] 0) = some (Sha.sum [98] 0) := h1
 exact absurd (Option.some.inj h2) (by decide +kernel)
def wM1 (x : D32) : CM := [((1, 4), x)]
def wM2 (x : D32) : CM := [((1, 4), x), ((3, 4), x)]
theorem w1_tells (x : D32) (k : Int) (r : Nat) : tells (wM1 x) k r = if ((r : Int), k) = (1, 4) then some x else none := rfl
theorem w1_stR (x : D32) : stR 3 (wM1 x) (0, dZ) := by
 refine ⟨.inl rfl, fun k d h0 hd => ?_⟩
 have h : 1 < cntD (tells (wM1 x) k) d 3 := hd
 have h1 : cntD (tells (wM1 x) k) d 3 ≤ 1 := by
  show 0 + (if tells (wM1 x) k 1 = some d then 1 else 0) + (if tells (wM1 x) k 2 = some d then 1 else 0) + (if tells (wM1 x) k 3 = some d then 1 else 0) ≤ 1
  rw [w1_tells, w1_tells, w1_tells, if_neg (show ¬ (((2 : Nat) : Int), k) = (1, 4) from fun h => by cases h), if_neg (show ¬ (((3 : Nat) : Int), k) = (1, 4) from fun h => by cases h)]
  simp
  split <;> omega
 omega
theorem w2_stR (x : D32) : stR 3 (wM2 x) (4, x) := by
 refine ⟨.inr ⟨show (0 : Int) < 4 by decide, ?_⟩, fun k d h0 hd => ?_⟩
 ·show 1 < cntD (tells (wM2 x) 4) x 3
  show 1 < 0 + (if tells (wM2 x) 4 1 = some x then 1 else 0) + (if tells (wM2 x) 4 2 = some x then 1 else 0) + (if tells (wM2 x) 4 3 = some x then 1 else 0)
  rw [if_pos (show tells (wM2 x) 4 1 = some x from rfl), if_pos (show tells (wM2 x) 4 3 = some x from rfl)]
  omega
 ·have h : 1 < cntD (tells (wM2 x) k) d 3 := hd
  obtain ⟨r, hr⟩ := cntD_pos (show 0 < cntD (tells (wM2 x) k) d 3 by omega)
  have hm := tld_mem hr
  show k ≤ 4
  rcases List.mem_cons.1 hm with h | h
  ·cases h; exact Int.le_refl _
  ·rcases List.mem_cons.1 h with h | h
   ·cases h; exact Int.le_refl _
   ·cases h
theorem w2_dig (x : D32) : digR 3 (tells (wM2 x) 4) (some x) := (w2_stR x).1.resolve_left (fun h => by cases h) |>.2
section
variable (f : Frag) (F : List HP)
set_option maxRecDepth 20000 in
set_option maxHeartbeats 3200000 in
theorem works21_fn (htab : TabAt f) : Fn Tryz.prog 12 [] f F (Ret (.bool true) f F) := by
 have hsab := sum_ab
 have hz : b32 (fun _ => 0) = dV dZ := rfl
 refine Fn.enter Tryz.func12 rfl Tryz.ntmps12 rfl (L := []) trivial fun base => ?_
 refine gO ?_
 refine H.callE rfl rfl rfl (cnew_fn f F (n := 3) (by decide) (by decide) rfl) fun cb => ?_
 refine gR ?_
 refine H.Ah rfl rfl rfl (cnew_no f _) ?_
 refine gY ?_
 refine H.Be (out := bytesV [97]) rfl rfl rfl rfl (by decide) (by decide) rfl rfl fun ab => ?_
 refine H.convBB rfl rfl (by repeat constructor) rfl ?_
 refine H.Ah rfl rfl rfl (rsum_fn f _ (b := [97]) (Src.slice (m := 1) (Rd.ofM (by repeat constructor)) rfl) (by decide)) ?_
 refine H.Am (ls := dV dZ) rfl rfl rfl fun db => ?_
 generalize ht : Sha.sum [97] = t
 refine H.Ak (ls := dV dZ) (vs := b32 t) (ls' := b32 t) rfl rfl rfl (zae rfl) rfl rfl (Nat.le_refl 32) (by repeat constructor) ?_
 refine gO ?_
 refine H.Ab (x := rowM ab _ _) (by repeat constructor) ?_
 refine H.Ag (ls := b32 t) rfl rfl rfl (Rd.ofRow (by repeat constructor)) rfl rfl ?_
 refine H.Ah rfl rfl rfl (one21_fn f _ (o := 1) (k := 4) (t := t)) ?_
 refine H.Aa (x := chkH _ _ _) (by repeat constructor) ?_
 have hT1 := fun G => ctake_fn f G (cb := cb) (n := 3) (M := []) (oneMV_good f (o := 1) (k := 4) (t := t) (by decide))
 rw [take_one (by decide) (by decide) (by decide), if_pos (show tld [] (1, 4) = none from rfl)] at hT1
 refine H.Ah rfl rfl rfl (hT1 _) ?_
 clear hT1
 show H _ _ _ _ _ (chkH cb 3 (wM1 (dOf t)) :: _) _
 refine gO ?_
 refine H.callP rfl rfl rfl (cst_fn f _ (by decide)) fun r hr => ?_
 obtain rfl := stR_one hr (w1_stR (dOf t))
 clear hr
 refine gR ?_
 refine H.Am (ls := dV dZ) rfl rfl rfl fun eb => ?_
 refine gO ?_
 refine H.Ak (ls := dV dZ) (vs := dV dZ) (ls' := dV dZ) rfl rfl rfl (dV_one _) rfl (zal rfl) (Nat.le_refl 32) (by repeat constructor) ?_
 refine gO ?_
 refine H.Ag (ls := b32 t) rfl rfl rfl (Rd.ofRow (by repeat constructor)) rfl rfl ?_
 refine H.Ah rfl rfl rfl (one21_fn f _ (o := 3) (k := 4) (t := t)) ?_
 refine H.Aa (x := chkH _ _ _) (by repeat constructor) ?_
 have hT1 := fun G => ctake_fn f G (cb := cb) (n := 3) (M := wM1 (dOf t)) (oneMV_good f (o := 3) (k := 4) (t := t) (by decide))
 rw [take_one (by decide) (by decide) (by decide), if_pos (show tld (wM1 (dOf t)) (3, 4) = none from rfl)] at hT1
 refine H.Ah rfl rfl rfl (hT1 _) ?_
 clear hT1
 show H _ _ _ _ _ (chkH cb 3 (wM2 (dOf t)) :: _) _
 refine gO ?_
 refine H.buildA (out := b32 (fun _ => 0)) rfl rfl rfl rfl rfl ?_
 refine H.Ah rfl rfl rfl (one21_fn f _ (o := 3) (k := 4) (t := fun _ => 0)) ?_
 have hT1 := fun G => ctake_fn f G (cb := cb) (n := 3) (M := wM2 (dOf t)) (oneMV_good f (o := 3) (k := 4) (t := fun _ => 0) (by decide))
 rw [take_one (by decide) (by decide) (by decide), if_neg (show ¬ tld (wM2 (dOf t)) (3, 4) = none from fun h => by cases h)] at hT1
 refine H.Ah rfl rfl rfl (hT1 _) ?_
 clear hT1
 refine gO ?_
 refine H.callP rfl rfl rfl (cst_fn f _ (by decide)) fun r hr => ?_
 obtain rfl := stR_one hr (w2_stR (dOf t))
 clear hr
 refine gR ?_
 refine H.Am (ls := dV dZ) rfl rfl rfl fun gb => ?_
 refine gO ?_
 refine H.Ak (ls := dV dZ) (vs := b32 t) (ls' := b32 t) rfl rfl rfl (zae rfl) rfl rfl (Nat.le_refl 32) (by repeat constructor) ?_
 have heq : eqC (b32 t) (b32 t) = true := by rw [b32_bytes, eqC_bytes]; exact decide_eq_true rfl
 have hr1 : rightB [97] (some (dOf t)) = true := by unfold rightB; rw [ht]; exact decide_eq_true rfl
 have hr2 : rightB [98] (some (dOf t)) = false := by
  unfold rightB
  rw [← ht]
  exact decide_eq_false (fun h => hsab (Option.some.inj h))
 clear ht hsab
 repeat (first | (refine H.Ag (ls := b32 t) rfl rfl rfl (Rd.ofRow (by repeat constructor)) rfl rfl ?_) | ((apply H.Aj); (iterate 3 exact rfl)) | (first | apply H.seq | apply H.Au | apply H.nil | apply H.Av) | ((apply H.cmp); (iterate 5 exact rfl)) | (apply H.Bi; (iterate 4 exact rfl)) | ((apply H.not); (iterate 4 exact rfl)) | (apply H.Bo; (iterate 3 exact rfl); (omega)) | (refine H.aggEq (xs := b32 t) (ys := b32 t) (D := 4) rfl rfl rfl rfl (by kernel_rfl) (by kernel_rfl) (by kernel_rfl) (by kernel_rfl) (by decide) heq rfl ?_))
 refine H.Be (out := bytesV [97]) rfl rfl rfl rfl (by decide) (by decide) rfl rfl fun ab => ?_
 refine H.convBB rfl rfl (by repeat constructor) rfl ?_
 refine H.freeze (x := rowM ab _ _) (by repeat constructor) fun g hg hd => ?_
 refine H.Aa (x := chkH _ _ _) (by repeat constructor) ?_
 refine H.callP rfl rfl rfl (cright_fn (un f g) _ (IntsAt.mono (Le.un f g) htab) (b := [97]) (by decide) (rowM_bat hg hd) (Nat.le_refl 1) (by decide)) fun o ho => ?_
 obtain rfl := digR_one ho (w2_dig (dOf t))
 rw [hr1]
 clear ho hr1
 refine H.weaken (Le.un f g) ?_
 clear hg hd
 refine gU ?_
 refine H.Be (out := bytesV [98]) rfl rfl rfl rfl (by decide) (by decide) rfl rfl fun bb => ?_
 refine H.convBB rfl rfl (by repeat constructor) rfl ?_
 refine H.freeze (x := rowM bb _ _) (by repeat constructor) fun g hg hd => ?_
 refine H.callP rfl rfl rfl (cright_fn (un f g) _ (IntsAt.mono (Le.un f g) htab) (b := [98]) (by decide) (rowM_bat hg hd) (Nat.le_refl 1) (by decide)) fun o ho => ?_
 obtain rfl := digR_one ho (w2_dig (dOf t))
 rw [hr2]
 clear ho hr2
 refine H.weaken (Le.un f g) ?_
 clear hg hd
 refine gT ?_
 refine H.Ab (x := chkH _ _ _) (by repeat constructor) ?_
 refine H.Ab (x := row gb _ _) (by repeat constructor) ?_
 refine H.Ab (x := row eb _ _) (by repeat constructor) ?_
 refine H.Ab (x := row db _ _) (by repeat constructor) ?_
 exact H.Ac rfl rfl (fun _ h => h) ⟨rfl, rfl, rfl⟩
end
def vot (k : Int) (d : D32) (M : CM) : Nat := (M.filter fun e => decide (e.1.2 = k) && decide (e.2 = d)).length
theorem vot_cons (k : Int) (d : D32) (e : (Int × Int) × D32) (M : CM) : vot k d (e :: M) = (if e.1.2 = k ∧ e.2 = d then 1 else 0) + vot k d M := by
 unfold vot
 rw [List.filter_cons]
 by_cases h : e.1.2 = k ∧ e.2 = d
 ·rw [if_pos h, if_pos (by rw [decide_eq_true h.1, decide_eq_true h.2]; rfl), List.length_cons]; omega
 ·rw [if_neg h, if_neg (fun h2 => h (by rw [Bool.and_eq_true, decide_eq_true_eq, decide_eq_true_eq] at h2; exact h2)), Nat.zero_add]
def DI (n : Nat) : CM → Prop
 | [] => True
 | e :: M => tld M e.1 = none ∧ 1 ≤ e.1.1 ∧ e.1.1 ≤ (n : Int) ∧ DI n M
theorem DI.snoc {n : Nat} {k : Int × Int} {d : D32} : ∀ {M : CM}, DI n M → tld M k = none → 1 ≤ k.1 ∧ k.1 ≤ (n : Int) → DI n (M ++ [(k, d)])
 | [], _, _, h => ⟨rfl, h.1, h.2, trivial⟩
 | e :: M, ⟨a, b, c, r⟩, ht, h => by
  have h1 : ¬ k = e.1 := fun he => by
   have : tld (e :: M) k = some e.2 := if_pos he
   rw [this] at ht; cases ht
  have h2 : tld M k = none := by
   have : tld (e :: M) k = tld M k := if_neg h1
   rwa [this] at ht
  refine ⟨?_, b, c, DI.snoc r h2 h⟩
  show tld (M ++ [(k, d)]) e.1 = none
  rw [tld_snoc, a, if_neg (fun he => h1 he.symm)]
  rfl
theorem cntD_put {T T' : Nat → Option D32} {r0 : Nat} {x d : D32} (h0 : T r0 = none) (h1 : T' r0 = some x) (h2 : ∀ r, r ≠ r0 → T' r = T r) : ∀ n, cntD T' d n = (if (1 ≤ r0 ∧ r0 ≤ n) ∧ x = d then 1 else 0) + cntD T d n
 | 0 => by rw [if_neg (show ¬ ((1 ≤ r0 ∧ r0 ≤ 0) ∧ x = d) from fun h => by omega)]; rfl
 | n + 1 => by
  show cntD T' d n + (if T' (n + 1) = some d then 1 else 0) = _ + (cntD T d n + (if T (n + 1) = some d then 1 else 0))
  have ih := cntD_put (d := d) h0 h1 h2 n
  by_cases e : n + 1 = r0
  ·subst e
   have a1 : (if (1 ≤ n + 1 ∧ n + 1 ≤ n) ∧ x = d then 1 else 0) = 0 := if_neg (fun h => by omega)
   rw [ih, h0, h1, a1, if_neg (show ¬ (none : Option D32) = some d from fun h => by cases h)]
   by_cases e2 : x = d
   ·rw [if_pos (show some x = some d by rw [e2]), if_pos (show (1 ≤ n + 1 ∧ n + 1 ≤ n + 1) ∧ x = d from ⟨⟨by omega, Nat.le_refl _⟩, e2⟩)]; omega
   ·rw [if_neg (show ¬ some x = some d from fun h => e2 (Option.some.inj h)), if_neg (show ¬ ((1 ≤ n + 1 ∧ n + 1 ≤ n + 1) ∧ x = d) from fun h => e2 h.2)]; omega
  ·rw [ih, h2 _ e]
   generalize (if T (n + 1) = some d then 1 else 0) = z
   by_cases h : (1 ≤ r0 ∧ r0 ≤ n) ∧ x = d
   ·rw [if_pos h, if_pos (show (1 ≤ r0 ∧ r0 ≤ n + 1) ∧ x = d from ⟨⟨h.1.1, by omega⟩, h.2⟩)]; omega
   ·rw [if_neg h, if_neg (show ¬ ((1 ≤ r0 ∧ r0 ≤ n + 1) ∧ x = d) from fun h' => h ⟨⟨h'.1.1, by omega⟩, h'.2⟩)]; omega
theorem vot_cnt {n : Nat} (k : Int) (d : D32) : ∀ {M : CM}, DI n M → vot k d M = cntD (tells M k) d n
 | [], _ => by
  have h : ∀ n, cntD (tells [] k) d n = 0 := fun n => by
   induction n with
   | zero => rfl
   | succ n ih => show cntD (tells [] k) d n + (if tells [] k (n + 1) = some d then 1 else 0) = 0; rw [ih, if_neg (fun h => by cases h)]
  rw [h]; rfl
 | e :: M, ⟨a, b, c, r⟩ => by
  rw [vot_cons, vot_cnt k d r]
  by_cases hk : e.1.2 = k
  ·have he : e.1 = (((e.1.1.toNat : Nat) : Int), k) := by rw [Int.toNat_of_nonneg (by omega), ← hk]
   rw [cntD_put (T := tells M k) (T' := tells (e :: M) k) (r0 := e.1.1.toNat) (x := e.2) (d := d) (by show tld M (_, k) = none; rw [← he]; exact a) (if_pos he.symm) (fun r hr => if_neg (fun h => hr (by rw [← h]; rfl))) n]
   by_cases hd : e.2 = d
   ·rw [if_pos ⟨hk, hd⟩, if_pos ⟨by omega, hd⟩]
   ·rw [if_neg (fun h => hd h.2), if_neg (fun h => hd h.2)]
  ·rw [if_neg (fun h => hk h.1), Nat.zero_add]
   have : tells (e :: M) k = tells M k := funext fun r => if_neg (fun h => hk (by rw [← h]))
   rw [this]
theorem dig_found {n : Nat} {M : CM} {k : Int} {e : (Int × Int) × D32} (hI : DI n M) (hodd : n % 2 = 1) (hv : (n - 1) / 2 + 1 ≤ vot k e.2 M) : digR n (tells M k) (some e.2) := by
 show n / 2 < _
 rw [← vot_cnt k e.2 hI]
 omega
theorem dig_none {n : Nat} {M : CM} {k : Int} (hI : DI n M) (hodd : n % 2 = 1) (hv : ∀ e ∈ M, e.1.2 = k → vot k e.2 M < (n - 1) / 2 + 1) : digR n (tells M k) none := fun d => by
 rcases Nat.eq_zero_or_pos (cntD (tells M k) d n) with h | h
 ·omega
 ·obtain ⟨r, hr⟩ := cntD_pos h
  have h1 := hv _ (tld_mem hr) rfl
  rw [vot_cnt k _ hI] at h1
  show cntD _ d n ≤ n / 2
  have h1 : cntD (tells M k) d n < (n - 1) / 2 + 1 := h1
  omega
theorem tld_none {M : CM} {k : Int × Int} : tld M k = none ↔ ∀ e ∈ M, e.1 ≠ k := by
 induction M with
 | nil => exact ⟨fun _ e h => (by cases h), fun _ => rfl⟩
 | cons x M ih =>
  show (if k = x.1 then some x.2 else tld M k) = none ↔ _
  by_cases h : k = x.1
  ·rw [if_pos h]
   exact ⟨fun h2 => (by cases h2), fun h2 => absurd h.symm (h2 x List.mem_cons_self)⟩
  ·rw [if_neg h, ih]
   refine ⟨fun h2 e he => ?_, fun h2 e he => h2 e (List.mem_cons_of_mem _ he)⟩
   rcases List.mem_cons.1 he with rfl | he
   ·exact fun h3 => h h3.symm
   ·exact h2 e he
theorem DI.take {n : Nat} {M : CM} {m : Msg} (h : DI n M) (hm : m.may = true → 1 ≤ m.origin) : DI n (M.take n m).2 := by
 unfold CM.take
 split
 ·rename_i h1
  exact h.snoc h1.2.2.2 ⟨hm h1.1, h1.2.1⟩
 ·exact h
theorem st_final {n : Nat} {M : CM} {b : Int × D32} (h1 : b = (0, dZ) ∨ (0 < b.1 ∧ digR n (tells M b.1) (some b.2))) (h2 : ∀ e ∈ M, ∀ d, digR n (tells M e.1.2) (some d) → e.1.2 ≤ b.1) : stR n M b :=
 ⟨h1, fun k d h0 hd => by
  have h : n / 2 < cntD (tells M k) d n := hd
  obtain ⟨r, hr⟩ := cntD_pos (show 0 < cntD (tells M k) d n by omega)
  exact h2 _ (tld_mem hr) d hd⟩
section rules
variable {P : Program} {base : World} {n : Nat} {L : Env} {f : Frag} {A : List HP} {q : Post}
variable {l rest : List Oper} {d : Nat} {ty : TypeId} {pos : String} {af : Array Edge} {gd : Option (Nat × Bool)}
theorem H.makeS {t e : TypeId} {x y : Operand} {kl kc : IntKind} {u v : Int} {m sz bytes : Nat} {z : Value} {zs : List Value} [hu : Und P t (.slice e)] [hsz : Siz P e sz] [hb : Byt P e bytes] [hz : Zer P e z] (hw : want? l L gd = true)
  (hx : ev? L x = some (.int kl u)) (hy : ev? L y = some (.int kc v)) (hum : u = (m : Nat)) (hvm : v = (m : Nat)) (hzs : cellsL z = zs) (h0 : zs.length = sz) (h1 : 0 < sz) (hm : bytes * m ≤ 281474976710656) (h63 : m ≤ 9223372036854775807) (hd : Nat.ble (d + 1) n = true)
  (k : ∀ b, H P base n ((d, .slice (some ⟨b, 0, none⟩) m m) :: L) f (row b e (zeros zs m) :: A) (.ops l rest q)) : H P base n L f A (.ops l (⟨some d, .makeSlice t x y, ty, pos, af, gd⟩ :: rest) q) :=
 H.opE (fun b => .slice (some ⟨b, 0, none⟩) m m) (fun _ => f) (fun b => row b e (zeros zs m) :: A) (fun _ => True) hw hd (fun a w hfr s => by
  subst hzs; subst h0; subst hum; subst hvm
  obtain ⟨i, hi, hi1, hi2, hi3⟩ := info_of hsz hb hz
  have h4 : z.cells = (cellsL z).toArray := by rw [← cellsL_eq]
  have e1 := zeros_array (cellsL z) m h1
  refine ⟨w.heap.size, w.alloc (.cells (zeros (cellsL z) m).toArray e (0, 0)), trivial, ?_, s.alloc rfl rfl rfl rfl⟩
  have hbm : ((bytes * m : Nat) : Int) ≤ 281474976710656 := by omega
  rw [Int.natCast_mul] at hbm
  have hr := run_make (P := P) w t e i z hu.eq hi hi3 kl kc (m : Int) (m : Int) (by omega) (Int.le_refl _) (by rw [hi2]; exact hbm) (by omega)
  rw [Int.toNat_natCast, hi1, h4] at hr
  unfold madeCells at hr
  rw [e1] at hr
  show Sem.run P (Instr.makeSlice t (a.eval x) (a.eval y) >>= fun v => pure (Next.value v)) w = _
  simp only [hfr.eval hx, hfr.eval hy, Sem.run_bind, hr, Result.andThen_ok, Sem.run_pure]) (fun b _ => k b)
end rules
theorem zeros_one (z : Value) : ∀ n : Nat, zeros [z] n = List.replicate n z
 | 0 => rfl
 | n + 1 => by rw [List.replicate_succ, ← zeros_one z n]; rfl
section
variable (f : Frag) (F : List HP)
end
section rules
variable {P : Program} {base : World} {n : Nat} {L : Env} {f : Frag} {A : List HP} {q : Post}
variable {l rest : List Oper} {d : Nat} {ty : TypeId} {pos : String} {af : Array Edge} {gd : Option (Nat × Bool)}
end rules
section
variable (f : Frag) (F : List HP)
end
structure BP where
 p : Option Addr
 c : Nat
 l : List UInt8
def flat (ps : List BP) : List UInt8 := ps.flatMap BP.l
def upto (ps : List BP) (i : Nat) : List UInt8 := flat (ps.take i)
section
variable (f : Frag) (F : List HP)
end
def eq32 (a b : Nat → UInt8) : Bool := eqC (b32 a) (b32 b)
section
variable (f : Frag) (F : List HP)
end
section
variable (f : Frag) (F : List HP)
end
def Msg.right (m : Msg) : Bool := m.may && eq32 m.tag (Sha.numbered m.origin m.number m.tagged)
theorem Msg.may_outer {m : Msg} (h : m.may = true) : m.outer := by
 unfold Msg.may at h
 simp only [Bool.and_eq_true, decide_eq_true_eq] at h
 exact h.1
section
variable (f : Frag) (F : List HP)
end
theorem eqv_refl (v : Value) (h : (match v with | .bool _ | .int _ _ | .string _ => true | _ => false) = true) : eqv v v = true := by
 cases v <;> simp at h <;> simp [eqv]
 rename_i s
 rw [beq_toListBytes]
 simp
def plainC : List Value → Bool
 | [] => true
 | v :: r => (match v with | .bool _ | .int _ _ | .string _ => true | _ => false) && plainC r
theorem eqC_refl : ∀ {l : List Value}, plainC l = true → eqC l l = true
 | [], _ => rfl
 | v :: r, h => by
  simp only [plainC, Bool.and_eq_true] at h
  simp only [eqC, eqv_refl v h.1, eqC_refl h.2, Bool.and_true]
theorem eq32_refl (t : Nat → UInt8) : eq32 t t = true := eqC_refl (l := b32 t) rfl
section
variable (f : Frag) (F : List HP)
end
end Go.Proofs.YtdcjlgigcbinjaaGreatDoor

namespace Go.Proofs.YtdcjlgigcbinjaaGreatDoor
open Go Go.ChangeShapes Go.WideShapes Go.RowKit Go.Deep
/-! ### Cells of arrays, strings and structs -/
theorem Reads.string {P : Program} {W : World} {t : TypeId} {cs : List Value} (ht : P.underlying t = some .string) (h : Reads P W t cs) : ∃ s : ByteArray, cs = [.string s] ∧ s.size ≤ maxLen := by
 obtain ⟨H', enc, b, sp, hd, n, x, h⟩ := h
 obtain ⟨s, h1, _, h2⟩ := DataW.trod_string ht h
 exact ⟨s, h1, h2⟩
theorem pieces_one : ∀ (n : Nat) (cs : List Value) (g : Nat → Value), cs.length = n → (∀ i, i < n → (cs.drop i).take 1 = [g i]) → cs = (List.range n).map g := by
 intro n cs g hl h
 apply List.ext_getElem?
 intro i
 rw [List.getElem?_map]
 by_cases hi : i < n
 ·rw [List.getElem?_range hi]
  have h1 := congrArg (fun l => l[0]?) (h i hi)
  simp only [List.getElem?_take, List.getElem?_drop] at h1
  simpa using h1
 ·rw [List.getElem?_eq_none (by omega), List.getElem?_eq_none (by simpa using hi)]; rfl
theorem Reads.ints {P : Program} {W : World} {t e : TypeId} {n : Nat} {k : IntKind} {cs : List Value} (ht : P.underlying t = some (.array n e)) (he : P.underlying e = some (.int k)) (h1 : P.cellsOf e = 1) (hn : P.cellsOf t = n) (h : Reads P W t cs) :
  ∃ d : Nat → Int, cs = (List.range n).map (fun i => .int k (d i)) ∧ ∀ i, i < n → k.min ≤ d i ∧ d i ≤ k.max := by
 obtain ⟨H', enc, b, sp, hd, fu, x, h⟩ := h
 obtain ⟨xs, m, rfl, rfl, hlen, hl, hel⟩ := DataW.trod_array ht h
 have key : ∀ i, ∃ z, i < n → (cs.drop i).take 1 = [.int k z] ∧ k.min ≤ z ∧ z ≤ k.max := fun i => by
  by_cases hi : i < n
  ·have h2 := hel i hi
   rw [h1, Nat.mul_one, List.getElem?_eq_getElem (by omega)] at h2
   have h3 : Reads P W e ((cs.drop i).take 1) := ⟨H', enc, b, sp, hd, m, _, h2⟩
   obtain ⟨z, e1, e2⟩ := h3.int he
   exact ⟨z, fun _ => ⟨e1, e2⟩⟩
  ·exact ⟨0, fun h => absurd h hi⟩
 refine ⟨fun i => (key i).choose, pieces_one n cs (fun i => .int k (key i).choose) (by rw [hlen, hn]) fun i hi => ((key i).choose_spec hi).1, fun i hi => ((key i).choose_spec hi).2⟩
def AllReads (P : Program) (W : World) : List TypeId → List (List Value) → Prop
 | [], [] => True
 | t :: ts, p :: ps => Reads P W t p ∧ AllReads P W ts ps
 | _, _ => False
def contigB (P : Program) (end_ : Nat) : List Field → Nat → Bool
 | [], a => Nat.beq a end_
 | f :: r, a => Nat.beq f.offset a && contigB P end_ r (a + P.cellsOf f.type)
theorem parts_of {P : Program} {W : World} {cs : List Value} {m : Nat} (hm : cs.length = m) : ∀ (l : List Field) (a : Nat), (∀ f ∈ l, Reads P W f.type ((cs.drop f.offset).take (P.cellsOf f.type))) → contigB P m l a = true →
  ∃ ps : List (List Value), cs.drop a = ps.flatten ∧ AllReads P W (l.map (·.type)) ps
 | [], a, _, hc => ⟨[], by
   have : a = m := Nat.eq_of_beq_eq_true hc
   rw [List.drop_eq_nil_of_le (by omega)]; rfl, trivial⟩
 | f :: r, a, h, hc => by
  simp only [contigB, Bool.and_eq_true] at hc
  have e : f.offset = a := Nat.eq_of_beq_eq_true hc.1
  obtain ⟨ps, e1, e2⟩ := parts_of hm r (a + P.cellsOf f.type) (fun x hx => h x (by simp [hx])) hc.2
  have h0 := h f (by simp)
  rw [e] at h0
  refine ⟨(cs.drop a).take (P.cellsOf f.type) :: ps, ?_, h0, e2⟩
  rw [List.flatten_cons, ← e1, ← List.drop_drop, List.take_append_drop]
theorem Reads.parts {P : Program} {W : World} {t : TypeId} {cs : List Value} {fs : List Field} (ht : P.underlying t = some (.struct fs.toArray)) (hc : contigB P (P.cellsOf t) fs 0 = true) (h : Reads P W t cs) :
  ∃ ps : List (List Value), cs = ps.flatten ∧ AllReads P W (fs.map (·.type)) ps := by
 obtain ⟨h1, h2⟩ := h.struct ht
 obtain ⟨ps, e1, e2⟩ := parts_of (P := P) (W := W) h1 fs 0 (fun f hf => by
  obtain ⟨i, hi⟩ := List.getElem?_of_mem hf
  exact h2 i f (by simpa using hi)) hc
 exact ⟨ps, by simpa using e1, e2⟩
/-! ### Messages, packets, steps -/
theorem u8_back {z : Int} (h : IntKind.min .u8 ≤ z ∧ z ≤ IntKind.max .u8) : (((UInt8.ofNat z.toNat).toNat : Nat) : Int) = z := by
 have h1 : (0 : Int) ≤ z := h.1
 have h2 : z ≤ 255 := h.2
 rw [UInt8.toNat_ofNat']
 omega
theorem reads_vecT {W : World} {cs : List Value} (h : Reads Tryz.prog W 44 cs) : ∃ d : Nat → Int, (∀ i, i < 11 → 0 ≤ d i ∧ d i ≤ 18446744073709551615) ∧ cs = v11 d := by
 obtain ⟨d, e, hd⟩ := h.ints Tryz.underlying44 Tryz.underlying42 (by kernel_rfl) (by kernel_rfl)
 exact ⟨d, fun i hi => hd i hi, e⟩
theorem reads_32 {W : World} {cs : List Value} (h : Reads Tryz.prog W 47 cs) : ∃ d : Nat → UInt8, cs = b32 d := by
 obtain ⟨d, e, hb⟩ := h.ints Tryz.underlying47 Tryz.underlying5 (by kernel_rfl) (by kernel_rfl)
 refine ⟨fun i => UInt8.ofNat (d i).toNat, ?_⟩
 have e2 : b32 (fun i => UInt8.ofNat (d i).toNat) = (List.range 32).map (fun i => Value.int .u8 ((UInt8.ofNat (d i).toNat).toNat : Nat)) := rfl
 rw [e, e2]
 refine List.map_congr_left fun i hi => ?_
 rw [List.mem_range] at hi
 rw [u8_back (hb i hi)]
theorem reads_pair {W : World} {cs : List Value} (h : Reads Tryz.prog W 88 cs) : ∃ x : Int × Int, True ∧ cs = pairV x := by
 obtain ⟨ps, rfl, hh⟩ := h.parts Tryz.underlying88 (by kernel_rfl)
 have h : AllReads Tryz.prog W [3, 42] ps := hh
 match ps, h with
 | [p0, p1], ⟨r0, r1, _⟩ =>
  obtain ⟨z0, rfl, _⟩ := r0.int Tryz.underlying3
  obtain ⟨z1, rfl, _⟩ := r1.int Tryz.underlying42
  exact ⟨(z0, z1), trivial, rfl⟩
theorem reads_op {W : World} {cs : List Value} (h : Reads Tryz.prog W 46 cs) : ∃ (k : UInt8) (a b c d : ByteArray) (n : Int), cs = [.int .u8 (k.toNat : Nat), .string a, .string b, .string c, .string d, .int .u64 n] ∧ 0 ≤ n ∧ n ≤ 18446744073709551615 := by
 obtain ⟨ps, rfl, hh⟩ := h.parts Tryz.underlying46 (by kernel_rfl)
 have h : AllReads Tryz.prog W [5, 9, 9, 9, 9, 42] ps := hh
 match ps, h with
 | [p0, p1, p2, p3, p4, p5], ⟨r0, r1, r2, r3, r4, r5, _⟩ =>
  obtain ⟨z0, rfl, hz⟩ := r0.int Tryz.underlying5
  obtain ⟨s1, rfl, _⟩ := r1.string Tryz.underlying9
  obtain ⟨s2, rfl, _⟩ := r2.string Tryz.underlying9
  obtain ⟨s3, rfl, _⟩ := r3.string Tryz.underlying9
  obtain ⟨s4, rfl, _⟩ := r4.string Tryz.underlying9
  obtain ⟨z5, rfl, h5⟩ := r5.int Tryz.underlying42
  refine ⟨UInt8.ofNat z0.toNat, s1, s2, s3, s4, z5, ?_, h5⟩
  rw [u8_back hz]
  rfl
theorem reads_req {W : World} {cs : List Value} (h : Reads Tryz.prog W 49 cs) : ∃ r : Req, r.Ok ∧ cs = r.vals := by
 obtain ⟨ps, rfl, hh⟩ := h.parts Tryz.underlying49 (by kernel_rfl)
 have h : AllReads Tryz.prog W [3, 42, 46, 47] ps := hh
 match ps, h with
 | [p0, p1, p2, p3], ⟨r0, r1, r2, r3, _⟩ =>
  obtain ⟨z0, rfl, _⟩ := r0.int Tryz.underlying3
  obtain ⟨z1, rfl, h1⟩ := r1.int Tryz.underlying42
  obtain ⟨k, a, b, c, d, n, rfl, hn⟩ := reads_op r2
  obtain ⟨t, rfl⟩ := reads_32 r3
  exact ⟨⟨z0, z1, k, a, b, c, d, n, t⟩, ⟨h1, hn⟩, rfl⟩
theorem reads_body {W : World} {cs : List Value} (h : Reads Tryz.prog W 52 cs) : ∃ (x : Bod) (q : Option Addr) (c : Nat), x.Ok ∧ QAt (memOf W) q x.q ∧ cs = x.vals q c := by
 obtain ⟨ps, rfl, hh⟩ := h.parts Tryz.underlying52 (by kernel_rfl)
 have h : AllReads Tryz.prog W [5, 42, 42, 49, 50, 47] ps := hh
 match ps, h with
 | [p0, p1, p2, p3, p4, p5], ⟨r0, r1, r2, r3, r4, r5, _⟩ =>
  obtain ⟨z0, rfl, hz⟩ := r0.int Tryz.underlying5
  obtain ⟨z1, rfl, h1⟩ := r1.int Tryz.underlying42
  obtain ⟨z2, rfl, h2⟩ := r2.int Tryz.underlying42
  obtain ⟨r, hr, rfl⟩ := reads_req r3
  obtain ⟨p, c, xs, rfl, _, _, _, hat⟩ := r4.list (sz := 2) Tryz.underlying50 (by kernel_rfl) (by decide) fun cs => reads_pair
  obtain ⟨t, rfl⟩ := reads_32 r5
  refine ⟨⟨UInt8.ofNat z0.toNat, z1, z2, r, xs, t⟩, p, c, ⟨h1, h2, hr⟩, hat, ?_⟩
  unfold Bod.vals
  rw [u8_back hz]
  rfl
def MV.Has (f : Frag) (x : MV) : Prop := QAt f x.qp x.m.body.q ∧ x.m.body.Ok
def Msg.Typ (m : Msg) : Prop := m.body.Ok ∧ ∀ i, i < 11 → 0 ≤ m.deps i
theorem reads_msgT {W : World} {cs : List Value} (h : Reads Tryz.prog W 54 cs) : ∃ x : MV, x.Has (memOf W) ∧ x.m.Typ ∧ cs = x.vals := by
 obtain ⟨ps, rfl, hh⟩ := h.parts Tryz.underlying54 (by kernel_rfl)
 have h : AllReads Tryz.prog W [3, 42, 44, 52, 47] ps := hh
 match ps, h with
 | [p0, p1, p2, p3, p4], ⟨r0, r1, r2, r3, r4, _⟩ =>
  obtain ⟨z0, rfl, _⟩ := r0.int Tryz.underlying3
  obtain ⟨z1, rfl, _⟩ := r1.int Tryz.underlying42
  obtain ⟨d, hd, rfl⟩ := reads_vecT r2
  obtain ⟨x, q, c, hx, hq, rfl⟩ := reads_body r3
  obtain ⟨t, rfl⟩ := reads_32 r4
  exact ⟨⟨⟨z0, z1, d, x, t⟩, q, c⟩, ⟨hq, hx⟩, ⟨hx, fun i hi => (hd i hi).1⟩, rfl⟩
end Go.Proofs.YtdcjlgigcbinjaaGreatDoor

namespace Go.Proofs.YtdcjlgigcbinjaaGreatDoor
open Go
/-! ### Cells that are told apart by eqC alone -/
def kdV : Value → Value
 | .int k _ => .int k 0
 | .string _ => .bool true
 | .bool _ => .bool false
 | v => v
theorem eqv_eq {a b : Value} (h : eqv a b = true) (hk : kdV a = kdV b) : a = b := by
 cases a with
 | bool x =>
  cases b <;> simp [eqv] at h
  subst h; rfl
 | int k x =>
  cases b with
  | int l y =>
   simp [eqv] at h
   simp [kdV] at hk
   subst h; subst hk; rfl
  | _ => simp [eqv] at h
 | string x =>
  cases b with
  | string y =>
   simp only [eqv] at h
   rw [beq_toListBytes, ByteArray.toList_eq, ByteArray.toList_eq, beq_iff_eq] at h
   rw [show x = y from ByteArray.ext (Array.ext' h)]
  | _ => simp [eqv] at h
 | _ => simp [eqv] at h
theorem eqC_eq : ∀ {a b : List Value}, eqC a b = true → a.map kdV = b.map kdV → a = b
 | [], [], _, _ => rfl
 | [], _ :: _, h, _ => by simp [eqC] at h
 | _ :: _, [], h, _ => by simp [eqC] at h
 | x :: xs, y :: ys, h, hk => by
  simp only [eqC, Bool.and_eq_true] at h
  simp only [List.map_cons, List.cons.injEq] at hk
  rw [eqv_eq h.1 hk.1, eqC_eq h.2 hk.2]
theorem u8_inj {a b : UInt8} (h : Value.int .u8 (a.toNat : Nat) = Value.int .u8 (b.toNat : Nat)) : a = b := by
 simp only [Value.int.injEq, true_and] at h
 exact UInt8.toNat_inj.1 (by omega)
theorem bytesV_inj : ∀ {a b : List UInt8}, bytesV a = bytesV b → a = b
 | [], [], _ => rfl
 | [], _ :: _, h => by simp [bytesV] at h
 | _ :: _, [], h => by simp [bytesV] at h
 | x :: xs, y :: ys, h => by
  simp only [bytesV, List.map_cons, List.cons.injEq] at h
  rw [u8_inj h.1, bytesV_inj h.2]
theorem b32_L {a b : Nat → UInt8} (h : b32 a = b32 b) : b32L a = b32L b := bytesV_inj (by rw [← b32_bytes, ← b32_bytes]; exact h)
theorem eq32_iff {a b : Nat → UInt8} : eqC (b32 a) (b32 b) = true ↔ b32 a = b32 b :=
 ⟨fun h => eqC_eq h rfl, fun h => by rw [h]; exact eq32_refl b⟩
theorem v11_iff {a b : Nat → Int} : v11 a = v11 b ↔ ∀ i, i < 11 → a i = b i := by
 constructor
 ·intro h i hi
  have h1 := zas a hi
  have h2 := zas b hi
  rw [h, h2] at h1
  simp only [Option.some.injEq, Value.int.injEq, true_and] at h1
  exact h1.symm
 ·intro h
  unfold v11
  rw [h 0 (by decide), h 1 (by decide), h 2 (by decide), h 3 (by decide), h 4 (by decide), h 5 (by decide), h 6 (by decide), h 7 (by decide), h 8 (by decide), h 9 (by decide), h 10 (by decide)]
theorem eqReq_iff {a b : Req} : eqC a.vals b.vals = true ↔ a.vals = b.vals :=
 ⟨fun h => eqC_eq h rfl, fun h => by rw [h]; exact eqC_refl rfl⟩
theorem Bod.E.refl (a : Bod) : Bod.E a a := ⟨rfl, rfl, rfl, rfl, rfl, rfl⟩
theorem Bod.E.symm {a b : Bod} (h : Bod.E a b) : Bod.E b a := ⟨h.1.symm, h.2.1.symm, h.2.2.1.symm, h.2.2.2.1.symm, h.2.2.2.2.1.symm, h.2.2.2.2.2.symm⟩
theorem Bod.E.trans {a b c : Bod} (h : Bod.E a b) (g : Bod.E b c) : Bod.E a c := ⟨h.1.trans g.1, h.2.1.trans g.2.1, h.2.2.1.trans g.2.2.1, h.2.2.2.1.trans g.2.2.2.1, h.2.2.2.2.1.trans g.2.2.2.2.1, h.2.2.2.2.2.trans g.2.2.2.2.2⟩
theorem Bod.eqB_iff {a b : Bod} : Bod.eqB a b = true ↔ Bod.E a b := by
 unfold Bod.eqB Bod.E
 rw [Bool.and_eq_true, Bool.and_eq_true, Bool.and_eq_true, Bool.and_eq_true, Bool.and_eq_true, decide_eq_true_eq, decide_eq_true_eq, decide_eq_true_eq, decide_eq_true_eq, eqReq_iff, eq32_iff]
 constructor
 ·rintro ⟨⟨⟨⟨⟨h1, h2⟩, h3⟩, h4⟩, h5⟩, h6⟩
  exact ⟨UInt8.toNat_inj.1 (by omega), h2, h3, h4, h5, h6⟩
 ·rintro ⟨h1, h2, h3, h4, h5, h6⟩
  exact ⟨⟨⟨⟨⟨by rw [h1], h2⟩, h3⟩, h4⟩, h5⟩, h6⟩
/-! ### What the same bodies, and messages, have in common -/
theorem Req.vals_inj {a b : Req} (h : a.vals = b.vals) : a.client = b.client ∧ a.time = b.time ∧ a.kind = b.kind ∧ a.key = b.key ∧ a.val = b.val ∧ a.old = b.old ∧ a.to = b.to ∧ a.amount = b.amount ∧ b32 a.tag = b32 b.tag := by
 unfold Req.vals at h
 have h1 := List.append_inj h rfl
 have h2 := h1.1
 simp only [List.cons.injEq, Value.int.injEq, Value.string.injEq, true_and, and_true] at h2
 obtain ⟨a1, a2, a3, a4, a5, a6, a7, a8⟩ := h2
 exact ⟨a1, a2, UInt8.toNat_inj.1 (by omega), a4, a5, a6, a7, a8, h1.2⟩
theorem Req.bytes_congr {a b : Req} (h : a.vals = b.vals) : a.bytes = b.bytes ∧ (a.asked ↔ b.asked) ∧ b32L a.tag = b32L b.tag := by
 obtain ⟨h1, h2, h3, h4, h5, h6, h7, h8, h9⟩ := Req.vals_inj h
 unfold Req.bytes Req.head Req.asked
 rw [h1, h2, h3, h4, h5, h6, h7, h8]
 exact ⟨rfl, Iff.rfl, b32_L h9⟩
theorem Bod.mayK_congr {a b : Bod} (h : Bod.E a b) (k : Nat) : a.mayK k = b.mayK k := by
 obtain ⟨h1, h2, h3, h4, h5, h6⟩ := h
 obtain ⟨_, r2, _⟩ := Req.bytes_congr h4
 unfold Bod.mayK
 rw [h2, h3, h5, decide_eq_decide.2 r2]
theorem Bod.own_congr {a b : Bod} (h : Bod.E a b) : Bod.E a.own b.own := by
 obtain ⟨h1, h2, h3, h4, h5, h6⟩ := h
 unfold Bod.own
 rw [h1]
 generalize b.kind.toNat = k
 match k with
 | 0 => exact ⟨h1, rfl, rfl, rfl, rfl, rfl⟩
 | 1 => exact ⟨h1, h2, rfl, h4, rfl, rfl⟩
 | 2 => exact ⟨h1, h2, h3, rfl, rfl, rfl⟩
 | 3 => exact ⟨h1, h2, rfl, rfl, rfl, rfl⟩
 | 4 => exact ⟨h1, h2, rfl, rfl, h5, rfl⟩
 | 5 => exact ⟨h1, h2, rfl, rfl, rfl, rfl⟩
 | 6 => exact ⟨h1, rfl, h3, rfl, rfl, h6⟩
 | k + 7 => exact ⟨h1, rfl, rfl, rfl, rfl, rfl⟩
theorem Bod.may_congr {a b : Bod} (h : Bod.E a b) : a.may = b.may := by
 have h0 := Bod.own_congr h
 unfold Bod.may
 rw [Bod.mayK_congr h, h.1, h.2.1, Bool.eq_iff_iff.2 (Bod.eqB_iff.trans (Iff.trans ⟨fun g => h0.symm.trans (g.trans h), fun g => h0.trans (g.trans h.symm)⟩ Bod.eqB_iff.symm))]
theorem maxTo_congr {a b : Nat → Int} : ∀ n, (∀ i, i ≤ n → a i = b i) → maxTo a n = maxTo b n
 | 0, h => h 0 (Nat.le_refl _)
 | n + 1, h => by
  unfold maxTo
  rw [maxTo_congr n fun i hi => h i (by omega), h (n + 1) (Nat.le_refl _)]
def Msg.E0 (a b : Msg) : Prop := a.origin = b.origin ∧ a.number = b.number ∧ v11 a.deps = v11 b.deps ∧ Bod.E a.body b.body
theorem Msg.may_congr {a b : Msg} (h : Msg.E0 a b) : a.may = b.may := by
 obtain ⟨h1, h2, h3, h4⟩ := h
 have h5 := v11_iff.1 h3
 unfold Msg.may
 rw [Bod.may_congr h4]
 have e : a.outer ↔ b.outer := by
  unfold Msg.outer
  rw [h1, h2, maxTo_congr 10 fun i hi => h5 i (by omega)]
  constructor
  ·rintro ⟨a1, a2, a3, a4, a5, a6⟩
   exact ⟨a1, a2, a3, a4, by rw [← h5 _ (by omega)]; exact a5, a6⟩
  ·rintro ⟨a1, a2, a3, a4, a5, a6⟩
   exact ⟨a1, a2, a3, a4, by rw [h5 _ (by omega)]; exact a5, a6⟩
 rw [decide_eq_decide.2 e]
def rngH (g : Nat → HP) : Nat → List HP
 | 0 => []
 | k + 1 => g k :: rngH g k
def fam (g : Nat → HP) (k : Nat) : HP := fun h => stars (rngH g k) h
def updF {α : Type} (g : Nat → α) (i : Nat) (x : α) : Nat → α := fun j => if j = i then x else g j
theorem zaj {α : Type} (g : Nat → α) (i : Nat) (x : α) : updF g i x i = x := if_pos rfl
theorem zan {α : Type} (g : Nat → α) {i j : Nat} (x : α) (h : j ≠ i) : updF g i x j = g j := if_neg h
theorem updF_self {α : Type} (g : Nat → α) (i : Nat) : updF g i (g i) = g := by
 funext j; unfold updF; split
 ·rename_i h; rw [h]
 ·rfl
theorem updF_updF {α : Type} (g : Nat → α) (i : Nat) (x y : α) : updF (updF g i x) i y = updF g i y := by
 funext j; unfold updF; split <;> rfl
theorem rngH_congr {g g' : Nat → HP} : ∀ k, (∀ j, j < k → g j = g' j) → rngH g k = rngH g' k
 | 0, _ => rfl
 | k + 1, h => by unfold rngH; rw [h k (by omega), rngH_congr k fun j hj => h j (by omega)]
theorem fam_pull {g : Nat → HP} {i : Nat} : ∀ {k : Nat}, i < k → stars (rngH g k) = star (g i) (stars (rngH (updF g i emp) k))
 | 0, h => by omega
 | k + 1, h => by
  by_cases e : i = k
  ·subst e
   have e1 : rngH (updF g i emp) i = rngH g i := rngH_congr i fun j hj => zan g emp (by omega)
   show star (g i) (stars (rngH g i)) = star (g i) (star (updF g i emp i) (stars (rngH (updF g i emp) i)))
   rw [zaj, emp_star, e1]
  ·show star (g k) (stars (rngH g k)) = star (g i) (star (updF g i emp k) (stars (rngH (updF g i emp) k)))
   rw [fam_pull (g := g) (i := i) (k := k) (by omega), zan g emp (fun h => e h.symm), zaw]
theorem fam_put {g : Nat → HP} {i k : Nat} {x : HP} (h : i < k) : star x (stars (rngH (updF g i emp) k)) = stars (rngH (updF g i x) k) := by
 rw [fam_pull (g := updF g i x) h, zaj, updF_updF]
theorem fam_pullA {g : Nat → HP} {i k : Nat} (A : List HP) (h : i < k) : stars (fam g k :: A) = stars (g i :: fam (updF g i emp) k :: A) := by
 show star (stars (rngH g k)) (stars A) = star (g i) (star (stars (rngH (updF g i emp) k)) (stars A))
 rw [fam_pull h, zbe]
theorem fam_putA {g : Nat → HP} {i k : Nat} {x : HP} (A : List HP) (h : i < k) : stars (x :: fam (updF g i emp) k :: A) = stars (fam (updF g i x) k :: A) := by
 show star x (star (stars (rngH (updF g i emp) k)) (stars A)) = star (stars (rngH (updF g i x) k)) (stars A)
 rw [← zbe, fam_put h]
section
variable {P : Program} {base : World} {n : Nat} {L : Env} {f : Frag} {A : List HP} {K : Kont} {g : Nat → HP} {i k : Nat}
theorem H.famPull (h : i < k) (kk : H P base n L f (g i :: fam (updF g i emp) k :: A) K) : H P base n L f (fam g k :: A) K :=
 H.conv (fam_pullA A h) kk
theorem H.famPut {x : HP} (h : i < k) (kk : H P base n L f (fam (updF g i x) k :: A) K) : H P base n L f (x :: fam (updF g i emp) k :: A) K :=
 H.conv (fam_putA A h) kk
theorem H.famBack (h : i < k) (kk : H P base n L f (fam g k :: A) K) : H P base n L f (g i :: fam (updF g i emp) k :: A) K :=
 H.famPut h (by rw [updF_self]; exact kk)
end
abbrev Strm := Nat → List Msg
def aboveB (a b : Nat → Int) : Bool := (List.range 11).any fun i => decide (b i < a i)
def knownS (S : Strm) : Nat → Int := fun i => ((S i).length : Nat)
def orgI (m : Msg) : Nat := (m.origin - 1).toNat
def fitsB (n : Nat) (m : Msg) : Bool := m.may && (decide (m.origin ≤ (n : Int)) && (m.body.q.all (fun p => decide (p.1 ≤ (n : Int))) && (List.range 11).all (fun i => decide (i < n) || decide (m.deps i ≤ 0))))
def lastD (l : List Msg) : Nat → Int := match l.getLast? with
 | some x => x.deps
 | none => fun _ => 0
def chk (n : Nat) (S : Strm) (m : Msg) : Int :=
 if fitsB n m = false then 1 else if m.right = false then 11 else
 if m.number ≤ ((S (orgI m)).length : Nat) then 13 else
 if m.number = (((S (orgI m)).length + 1 : Nat) : Int) ∧ 0 < (S (orgI m)).length ∧ aboveB (lastD (S (orgI m))) m.deps = true then 1 else
 if (((S (orgI m)).length + 1 : Nat) : Int) < m.number ∨ aboveB m.deps (knownS S) = true then 12 else 0
def addS (S : Strm) (m : Msg) : Strm := updF S (orgI m) (S (orgI m) ++ [m])
/-! ### The streams of a list of messages -/
def strm (l : List Msg) : Strm := fun i => l.filter fun m => decide (orgI m = i)
theorem strm_snoc (l : List Msg) (m : Msg) : strm (l ++ [m]) = addS (strm l) m := by
 funext i
 unfold strm addS updF
 rw [List.filter_append]
 by_cases h : i = orgI m
 ·rw [if_pos h, ← h]
  simp [h]
 ·rw [if_neg h]
  have : decide (orgI m = i) = false := decide_eq_false fun e => h e.symm
  simp [this]
def cnt (l : List Msg) (i : Nat) : Nat := (strm l i).length
theorem cnt_snoc (l : List Msg) (m : Msg) (i : Nat) : cnt (l ++ [m]) i = cnt l i + (if i = orgI m then 1 else 0) := by
 unfold cnt
 rw [strm_snoc]
 unfold addS updF
 split
 ·rename_i h; rw [h, List.length_append]; rfl
 ·rfl
structure MOK (n : Nat) (pre : List Msg) (m : Msg) : Prop where
 org : 1 ≤ m.origin ∧ m.origin ≤ (n : Int)
 fits : fitsB n m = true
 right : m.right = true
 num : m.number = ((cnt pre (orgI m) + 1 : Nat) : Int)
 dep : ∀ i, i < 11 → 0 ≤ m.deps i ∧ m.deps i ≤ (cnt pre i : Nat)
 mono : ∀ x ∈ pre, orgI x = orgI m → ∀ i, i < 11 → x.deps i ≤ m.deps i
def WOK (n : Nat) (all : List Msg) : Prop := ∀ j m, all[j]? = some m → MOK n (all.take j) m
theorem WOK.snoc {n : Nat} {all : List Msg} {m : Msg} (h : WOK n all) (hm : MOK n all m) : WOK n (all ++ [m]) := fun j x hj => by
 rcases Nat.lt_or_ge j all.length with hlt | hge
 ·rw [List.getElem?_append_left hlt] at hj
  rw [List.take_append_of_le_length (by omega)]
  exact h j x hj
 ·rw [List.getElem?_append_right hge] at hj
  have e : j = all.length := by
   rcases Nat.eq_or_lt_of_le hge with e | e
   ·exact e.symm
   ·rw [List.getElem?_eq_none (by simp; omega)] at hj; cases hj
  subst e
  rw [Nat.sub_self] at hj
  simp at hj
  subst hj
  rw [List.take_left]
  exact hm
theorem WOK.nil (n : Nat) : WOK n [] := fun j m h => by simp at h
theorem take_snoc {α : Type} {l : List α} {k : Nat} {x : α} (h : l[k]? = some x) : l.take (k + 1) = l.take k ++ [x] := by
 rw [List.take_add_one, h]; rfl
theorem take_all {α : Type} (l : List α) : l.take l.length = l := List.take_length
theorem strm_num {n : Nat} {all : List Msg} (h : WOK n all) : ∀ k i p x, (strm (all.take k) i)[p]? = some x → x.number = ((p + 1 : Nat) : Int)
 | 0, i, p, x, hx => by simp [strm] at hx
 | k + 1, i, p, x, hx => by
  cases hm : all[k]? with
  | none =>
   have e : all.take (k + 1) = all.take k := by rw [List.take_add_one, hm]; simp
   rw [e] at hx
   exact strm_num h k i p x hx
  | some m =>
   have hok := h k m hm
   rw [take_snoc hm, strm_snoc] at hx
   unfold addS updF at hx
   by_cases hi : i = orgI m
   ·rw [if_pos hi] at hx
    rcases Nat.lt_or_ge p (strm (all.take k) (orgI m)).length with hlt | hge
    ·rw [List.getElem?_append_left hlt] at hx
     exact strm_num h k _ p x hx
    ·rw [List.getElem?_append_right hge] at hx
     have e : p = (strm (all.take k) (orgI m)).length := by
      rcases Nat.eq_or_lt_of_le hge with e | e
      ·exact e.symm
      ·rw [List.getElem?_eq_none (by simp; omega)] at hx; cases hx
     subst e
     rw [Nat.sub_self] at hx
     simp at hx
     subst hx
     exact hok.num
   ·rw [if_neg hi] at hx
    exact strm_num h k i p x hx
theorem strm_numA {n : Nat} {all : List Msg} (h : WOK n all) {i p : Nat} {x : Msg} (hx : (strm all i)[p]? = some x) : x.number = ((p + 1 : Nat) : Int) := by
 refine strm_num h all.length i p x ?_
 rw [take_all]; exact hx
theorem strm_mem {l : List Msg} {x : Msg} (hx : x ∈ l) : ∃ p : Nat, (strm l (orgI x))[p]? = some x := by
 have : x ∈ strm l (orgI x) := by unfold strm; rw [List.mem_filter]; exact ⟨hx, by simp⟩
 exact List.getElem?_of_mem this
theorem strm_org {l : List Msg} {i p : Nat} {x : Msg} (h : (strm l i)[p]? = some x) : x ∈ l ∧ orgI x = i := by
 have := List.mem_of_getElem? h
 unfold strm at this
 rw [List.mem_filter] at this
 exact ⟨this.1, of_decide_eq_true this.2⟩
structure Knw (all : List Msg) (u : Nat → Int) : Prop where
 le : ∀ i, 0 ≤ u i ∧ u i ≤ (cnt all i : Nat)
 closed : ∀ x ∈ all, x.number ≤ u (orgI x) → ∀ i, i < 11 → x.deps i ≤ u i
end Go.Proofs.YtdcjlgigcbinjaaGreatDoor
