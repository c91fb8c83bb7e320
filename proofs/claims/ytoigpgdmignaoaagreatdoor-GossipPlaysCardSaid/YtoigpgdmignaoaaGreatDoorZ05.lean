/- Parts of the proof, one behind the other, each under its own heading. No conditions. -/
import Derived.Test.YtoigpgdmignaoaaGreatDoorZ04
import Derived.Laws.MakeOwn
import Derived.OpenShut
import Derived.Test.YtoigpgdmignaoaaGreatDoorRows
set_option linter.unusedSectionVars false
set_option linter.unusedSimpArgs false
set_option linter.unusedVariables false
/- Layers 3 and 8: the document's keys, and a message with its tag. -/
namespace Go.Proofs.YtoigpgdmignaoaaGreatDoor
open Go
def Msg.signed (m : Msg) : Msg := if m.may = true then { m with tag := Sha.numbered m.origin m.number m.tagged } else m
theorem Msg.tagged_len {m : Msg} (h : m.may = true) : m.tagged.length ≤ 3000 := by
 have h1 := Bod.may_spec (Msg.may_body h)
 have h2 := Bod.may_q (Msg.may_body h)
 have h3 := (putK_len m.body m.body.kind.toNat h1.2.2 h2).2
 unfold Msg.tagged Bod.put
 simp only [List.length_append, List.length_cons, List.length_nil, depsB_len]
 omega
section
variable (f : Frag) (F : List HP)
theorem rkey_fn {w : ByteArray} {i most : Int} (h1 : 1 ≤ i) (h2 : i ≤ most) (h3 : most ≤ 1000) (hw : w.size ≤ 1000) :
  Fn Tryz.prog 113 [.string w, .int .i64 i, .int .i64 most] f F (BytesR (Sha.word32 w.data.toList i) f F) := by
 have hwl := zay w
 refine Fn.enter Tryz.func113 rfl Tryz.ntmps113 rfl (L := [(0, _), (1, _), (2, _)]) ⟨rfl, rfl, rfl, trivial⟩ fun base => ?_
 refine gZ ?_
 refine H.convSB rfl rfl rfl fun sb sc => ?_
 refine gI ?_
 have hs : Src Tryz.prog f (strRow sb w sc 5 :: F) (.slice (some ⟨sb, 0, none⟩) w.data.toList.length sc) 1 w.data.toList.length (bytesV w.data.toList) := by
  rw [hwl]; exact Src.strRow (.here _ _ _)
 have hfn := zbf (n := i) f _ hs (by omega)
 rw [hwl] at hfn
 refine H.Ay rfl rfl rfl hfn fun p1 c1 => ?_
 have e1 : (w.data.toList ++ be 8 i).length ≤ 2000 := by rw [List.length_append, be_len, hwl]; omega
 unfold Sha.word32
 generalize w.data.toList ++ be 8 i = l1 at e1
 refine H.Ad rfl rfl rfl (rsum_fn f _ (b := l1) (Src.slcS (.here _ _ _) (by rw [zaf]; exact (Nat.mul_one _).symm)) (by omega)) ?_
 refine H.Ab (.here _ _) ?_
 refine H.Ab (.here _ _) ?_
 refine H.Au (ls := zb 32) rfl rfl rfl fun db => ?_
 refine H.Ak (ls := zb 32) (vs := b32 (Sha.sum l1)) (ls' := b32 (Sha.sum l1)) rfl rfl rfl (zad rfl) rfl rfl (Nat.le_refl 32) (by repeat constructor) ?_
 generalize Sha.sum l1 = d
 refine gC ?_
 refine H.Bb rfl rfl rfl rfl (by decide) (by decide) rfl rfl fun eb => ?_
 refine H.asSlc (k := 0) (sz := 1) rfl (by decide) ?_
 refine H.Cd (lo := none) (hi := none) (mx := none) (lv := 0) (hv := 32) (mv := 32) rfl rfl rfl rfl rfl (fun h => by cases h) (by decide) (by decide) (by decide) rfl ?_
 refine H.Bd (xs := []) (m := 32) (news := bytesV (b32L d)) rfl rfl rfl rfl rfl (fun p' c' => .here _ _ _) (Src.slice (Rd.ofRow (.there _ (.here _ _ _))) rfl) (zaj _) rfl (by omega) (by omega) fun p4 c4 => ?_
 refine gf ?_
 refine H.Ab (x := row db _ _) (by repeat constructor) ?_
 exact H.Ac rfl rfl (fun _ h => h) ⟨p4, c4, rfl, rfl, rfl⟩
theorem rreplica_fn {i : Int} (h1 : 1 ≤ i) (h2 : i ≤ 11) : Fn Tryz.prog 90 [.int .i64 i] f F (BytesR (Sha.word32 Sha.replicaW i) f F) := by
 refine Fn.enter Tryz.func90 rfl Tryz.ntmps90 rfl (L := [(0, _)]) ⟨rfl, trivial⟩ fun base => ?_
 refine gO ?_
 refine H.Ay rfl rfl rfl (rkey_fn (w := ⟨#[114, 97, 116, 99, 104, 101, 116, 32, 114, 101, 112, 108, 105, 99, 97]⟩) f _ h1 h2 (by decide) (by decide)) fun p1 c1 => ?_
 refine gf ?_
 exact H.Ac rfl rfl (fun _ h => h) ⟨p1, c1, rfl, rfl, rfl⟩
theorem rnumbered_fn {i n : Int} {r : Option Addr} {d : Nat} {b : List UInt8} (h1 : 1 ≤ i) (h2 : i ≤ 11) (hs : ∀ G, Src Tryz.prog f (G ++ F) (.slice r b.length d) 1 b.length (bytesV b)) (hl : b.length ≤ 10000000) :
  Fn Tryz.prog 64 [.int .i64 i, .int .u64 n, .slice r b.length d] f F (Ret (.agg (b32 (Sha.numbered i n b)).toArray) f F) := by
 refine Fn.enter Tryz.func64 rfl Tryz.ntmps64 rfl (L := [(0, _), (1, _), (2, _)]) ⟨rfl, rfl, rfl, trivial⟩ fun base => ?_
 refine gC ?_
 refine H.Au (ls := zb 32) rfl rfl rfl fun ob => ?_
 refine gO ?_
 refine H.Ay rfl rfl rfl (rreplica_fn f _ h1 h2) fun p1 c1 => ?_
 refine gO ?_
 refine H.Ay rfl rfl rfl (zbf (l := []) (n := n) f _ Src.nil (by decide)) fun p2 c2 => ?_
 rw [List.nil_append]
 have h8 := be_len 8 n
 refine gO ?_
 refine H.Bd (xs := bytesV (be 8 n)) rfl rfl rfl rfl rfl (fun p' c' => .here _ _ _) (hs [_, _, _]) (zaj b) rfl (by omega) (by omega) fun p3 c3 => ?_
 have e1 : (be 8 n ++ b).length = (be 8 n).length + b.length := List.length_append
 have e2 : bytesV (be 8 n ++ b) = bytesV (be 8 n) ++ bytesV b := zag _ _
 unfold Sha.numbered
 have hk : (Sha.word32 Sha.replicaW i).length = 32 := rfl
 generalize Sha.word32 Sha.replicaW i = key at hk ⊢
 generalize be 8 n ++ b = l1 at e1 e2 ⊢
 rw [← e1, ← e2]
 refine H.Ad rfl rfl rfl (hmac_fn f _ (key := key) (b := l1) (fun G => Src.append (Src.slcS (.there _ (.here _ _ _)) (by rw [zaf]; exact (Nat.mul_one _).symm))) (fun G => Src.append (Src.slcS (.here _ _ _) (by rw [zaf]; exact (Nat.mul_one _).symm))) (by omega) (by omega)) ?_
 refine H.Ab (.here _ _) ?_
 refine H.Ab (.here _ _) ?_
 refine H.Ak (ls := zb 32) (vs := b32 (Sha.hmac key l1)) (ls' := b32 (Sha.hmac key l1)) rfl rfl rfl (zad rfl) rfl rfl (Nat.le_refl 32) (by repeat constructor) ?_
 refine gf ?_
 exact H.Ba rfl rfl rfl (Rd.ofRow (by repeat constructor)) rfl (fun _ s => s.drop (.here _ _)) ⟨rfl, rfl, rfl⟩
theorem splice_tag (m : Msg) (q : Option Addr) (qc : Nat) (t : Nat → UInt8) : splice (m.vals q qc) (0 + 89) (b32 t) = ({ m with tag := t } : Msg).vals q qc := by
 unfold Msg.vals
 generalize hp : ([.int .i64 m.origin, .int .u64 m.number] ++ v11 m.deps ++ m.body.vals q qc : List Value) = p
 have hl : p.length = 89 := by rw [← hp]; rfl
 unfold splice
 rw [Nat.zero_add, ← hl, List.take_left, List.drop_eq_nil_of_le (by rw [List.length_append]; exact Nat.le_refl _), List.append_nil]
theorem rtagged_fn {m : Msg} {q : Option Addr} {qc : Nat} (hq : QAt f q m.body.q) (hl : m.body.q.length ≤ 1000000000) :
  Fn Tryz.prog 33 [.agg (m.vals q qc).toArray] f F (Ret (.agg (m.signed.vals q qc).toArray) f F) := by
 have hmay := fun G => rmay_fn (m := m) (qc := qc) f G hq hl
 have e0 : m.may = (decide m.outer && m.body.may) := rfl
 rw [← e0] at hmay
 unfold Msg.signed
 by_cases hm : m.may = true
 ·rw [if_pos hm]
  have hbl := Msg.tagged_len hm
  have hout : m.outer := by
   unfold Msg.may at hm
   simp only [Bool.and_eq_true, decide_eq_true_eq] at hm
   exact hm.1
  have hby : ∀ G, Fn Tryz.prog 61 [.agg (m.vals q qc).toArray] f G (BytesR m.tagged f G) := fun G => by
   have := rbytes_fn (m := m) (qc := qc) f G hq hl
   unfold Msg.bytes at this
   rwa [if_pos hm] at this
  rw [hm] at hmay
  refine Fn.enter Tryz.func33 rfl Tryz.ntmps33 rfl (L := [(0, _)]) ⟨rfl, trivial⟩ fun base => ?_
  refine gC ?_
  refine H.box (ls := m.vals q qc) rfl rfl rfl rfl fun mb => ?_
  refine H.Au (ls := (⟨0, 0, fun _ => 0, Bod.zero 0, noTag⟩ : Msg).vals none 0) rfl rfl rfl fun ob => ?_
  refine gC ?_
  refine H.Ah (ls := m.vals q qc) rfl rfl rfl (Rd.ofRow (by repeat constructor)) rfl rfl ?_
  refine H.Ad rfl rfl rfl (hmay _) ?_
  refine gG ?_
  refine H.Aa (x := row mb _ _) (by repeat constructor) ?_
  refine H.Bu [0, 1, 2, 3, 4, 5, 6] (by kernel_rfl) (by decide +kernel) (by repeat (first | exact zab | refine zaa ?_ | refine zac ?_ | refine zae ?_)) (S := [_]) rfl ?_
  refine HB.Ag [(0, false), (1, false), (2, false), (3, false), (4, false)] 4 (by kernel_rfl) ?_
  refine gW ?_
  refine HQ.Ah (ls := m.vals q qc) rfl rfl rfl (Rd.ofRow (by repeat constructor)) rfl rfl ?_
  refine HQ.Ae rfl ?_
  refine HB.ev1 (i := 5) (by kernel_rfl) rfl ?_
  refine H.Ay rfl rfl rfl (hby _) fun p1 c1 => ?_
  generalize m.tagged = tg at hbl ⊢
  refine gC ?_
  refine H.Aa (x := row mb _ _) (by repeat constructor) ?_
  refine H.on0 rfl ?_
  refine HB.ev1 (i := 6) (by kernel_rfl) rfl ?_
  refine H.Ad rfl rfl rfl (rnumbered_fn f _ hout.1 hout.2.1 (b := tg) (fun G => Src.append (Src.slcS (.there _ (.here _ _ _)) (by rw [zaf]; exact (Nat.mul_one _).symm))) (by omega)) ?_
  refine gC ?_
  refine H.on0 rfl ?_
  refine HB.next [] (by kernel_rfl) (S' := []) rfl ?_
  refine HB.Ag [(7, false)] 1 (by kernel_rfl) ?_
  refine gE ?_
  refine HQ.Ae rfl ?_
  refine HB.ev1 (i := 8) (by kernel_rfl) rfl ?_
  generalize Sha.numbered m.origin m.number tg = t
  refine H.Ak (ls := m.vals q qc) (vs := b32 t) (ls' := ({ m with tag := t } : Msg).vals q qc) rfl rfl rfl (zad rfl) rfl (splice_tag m q qc t) (show 89 + 32 ≤ 121 by decide) (by repeat constructor) ?_
  refine gC ?_
  refine H.on0 rfl ?_
  refine HB.Al (by kernel_rfl) ?_
  refine gC ?_
  refine H.Ah (ls := ({ m with tag := t } : Msg).vals q qc) rfl rfl rfl (Rd.ofRow (by repeat constructor)) rfl rfl ?_
  refine H.Ak (ls := (⟨0, 0, fun _ => 0, Bod.zero 0, noTag⟩ : Msg).vals none 0) (vs := ({ m with tag := t } : Msg).vals q qc) (ls' := ({ m with tag := t } : Msg).vals q qc) rfl rfl rfl (zad rfl) rfl rfl (Nat.le_refl 121) (by repeat constructor) ?_
  refine gf ?_
  refine H.Ab (x := row mb _ _) (by repeat constructor) ?_
  refine H.Ab (x := slc _ _ _ _ _ _) (by repeat constructor) ?_
  exact H.Ba rfl rfl rfl (Rd.ofRow (by repeat constructor)) rfl (fun _ s => s.drop (.here _ _)) ⟨rfl, rfl, rfl⟩
 ·rw [if_neg hm]
  rw [Bool.eq_false_iff.2 hm] at hmay
  refine Fn.enter Tryz.func33 rfl Tryz.ntmps33 rfl (L := [(0, _)]) ⟨rfl, trivial⟩ fun base => ?_
  refine gC ?_
  refine H.box (ls := m.vals q qc) rfl rfl rfl rfl fun mb => ?_
  refine H.Au (ls := (⟨0, 0, fun _ => 0, Bod.zero 0, noTag⟩ : Msg).vals none 0) rfl rfl rfl fun ob => ?_
  refine gC ?_
  refine H.Ah (ls := m.vals q qc) rfl rfl rfl (Rd.ofRow (by repeat constructor)) rfl rfl ?_
  refine H.Ad rfl rfl rfl (hmay _) ?_
  refine gV ?_
  refine H.Ah (ls := m.vals q qc) rfl rfl rfl (Rd.ofRow (by repeat constructor)) rfl rfl ?_
  refine H.Ak (ls := (⟨0, 0, fun _ => 0, Bod.zero 0, noTag⟩ : Msg).vals none 0) (vs := m.vals q qc) (ls' := m.vals q qc) rfl rfl rfl (zad rfl) rfl rfl (Nat.le_refl 121) (by repeat constructor) ?_
  refine gf ?_
  refine H.Ab (x := row mb _ _) (by repeat constructor) ?_
  exact H.Ba rfl rfl rfl (Rd.ofRow (by repeat constructor)) rfl (fun _ s => s.drop (.here _ _)) ⟨rfl, rfl, rfl⟩
end
section rules
variable {P : Program} {base : World} {n : Nat} {L : Env} {f : Frag} {A : List HP} {q : Post}
variable {l rest : List Oper} {d : Nat} {ty : TypeId} {pos : String} {af : Array Edge} {gd : Option (Nat × Bool)}
theorem H.makeS {t e : TypeId} {x y : Operand} {kl kc : IntKind} {u v : Int} {m sz bytes : Nat} {z : Value} {zs : List Value} [hu : Und P t (.slice e)] [hsz : Siz P e sz] [hb : Byt P e bytes] [hz : Zer P e z] (hw : want? l L gd = true)
  (hx : ev? L x = some (.int kl u)) (hy : ev? L y = some (.int kc v)) (hum : u = (m : Nat)) (hvm : v = (m : Nat)) (hzs : cellsL z = zs) (h0 : zs.length = sz) (h1 : 0 < sz) (hm : bytes * m ≤ 281474976710656) (h63 : m ≤ 9223372036854775807) (hd : Nat.ble (d + 1) n = true)
  (k : ∀ b, H P base n ((d, .slice (some ⟨b, 0, none⟩) m m) :: L) f (row b e (zeros zs m) :: A) (.ops l rest q)) : H P base n L f A (.ops l (⟨some d, .makeSlice t x y, ty, pos, af, gd⟩ :: rest) q) :=
 H.opE (fun b => .slice (some ⟨b, 0, none⟩) m m) (fun _ => f) (fun b => row b e (zeros zs m) :: A) (fun _ => True) hw hd (fun a w hfr s => by
  subst hzs; subst h0; subst hum; subst hvm
  obtain ⟨i, hi, hi1, hi2, hi3⟩ := info_of hsz hb hz
  have h4 : z.cells = (cellsL z).toArray := by rw [← cellsL_eq]
  have e1 := zeros_array (cellsL z) m h1
  refine ⟨w.heap.size, w.alloc (.cells (zeros (cellsL z) m).toArray e (0, 0)), trivial, ?_, s.alloc rfl rfl rfl rfl⟩
  have hbm : ((bytes * m : Nat) : Int) ≤ 281474976710656 := by omega
  rw [Int.natCast_mul] at hbm
  have hr := run_make (P := P) w t e i z hu.eq hi hi3 kl kc (m : Int) (m : Int) (by omega) (Int.le_refl _) (by rw [hi2]; exact hbm) (by omega)
  rw [Int.toNat_natCast, hi1, h4] at hr
  unfold madeCells at hr
  rw [e1] at hr
  show Sem.run P (Instr.makeSlice t (a.eval x) (a.eval y) >>= fun v => pure (Next.value v)) w = _
  simp only [hfr.eval hx, hfr.eval hy, Sem.run_bind, hr, Result.andThen_ok, Sem.run_pure]) (fun b _ => k b)
end rules
theorem strRow_bat {b c : Nat} {s : ByteArray} {T : TypeId} {f g : Frag} (h : strRow b s c T g) (hd : Dj f g) : BAt (un f g) (some ⟨b, 0, none⟩) s.data.toList := by
 have hg : g = sing b (.cells (bytesRow s c) T ((bytesRow s c).size, (bytesRow s c).size + 1)) := h
 refine .inr ⟨b, 0, bytesRow s c, T, ((bytesRow s c).size, (bytesRow s c).size + 1), rfl, ?_, fun i hi => ?_⟩
 ·have : f b = none := by
   rcases hd b with h | h
   ·exact h
   ·rw [hg] at h
    simp [sing] at h
  unfold un
  rw [this, hg]
  simp [sing]
 ·rw [Nat.zero_add]
  exact bytesRow_get s c (by rw [zay] at hi; exact hi)
theorem zeros_one (z : Value) : ∀ n : Nat, zeros [z] n = List.replicate n z
 | 0 => rfl
 | n + 1 => by rw [List.replicate_succ, ← zeros_one z n]; rfl
def parts2 (a b : List UInt8) : Nat → List UInt8
 | 0 => []
 | 1 => a
 | _ => a ++ b
def pt2 (pb : Nat) (p : Option Addr) (m c : Nat) (q : Option Addr) (k d : Nat) : HP := row pb 55 [.slice p m c, .slice q k d]
section
variable (f : Frag) (F : List HP)
theorem tdig_fn (htab : TabAt f) {pb : Nat} {p q : Option Addr} {c d : Nat} {a b : List UInt8} (ha : BAt f p a) (hb : BAt f q b) (hc : a.length ≤ c) (hd : b.length ≤ d) (hl : a.length + b.length ≤ 100000000) :
  Fn Tryz.prog 162 [.slice (some ⟨pb, 0, none⟩) 2 2] f (pt2 pb p a.length c q b.length d :: F) (Ret (.agg (b32 (Sha.sum (a ++ b))).toArray) f (pt2 pb p a.length c q b.length d :: F)) := by
 unfold pt2
 refine Fn.enter Tryz.func162 rfl Tryz.ntmps162 rfl (L := [(0, _)]) ⟨rfl, trivial⟩ fun base => ?_
 refine gC ?_
 refine H.Au (ls := zb 32) rfl rfl rfl fun ob => ?_
 refine gC ?_
 refine H.callE rfl rfl rfl (snew_fn f _) fun hb' => ?_
 refine gf ?_
 refine H.Ax (ι := Nat) (fun i => [(9, .int .i64 (i : Int)), (8, .int .i64 ((2 : Nat) : Int)), (7, .slice (some ⟨pb, 0, none⟩) 2 2), (3, .pointer (some ⟨hb', 0, none⟩)), (2, .pointer (some ⟨ob, 0, none⟩))]) (fun _ => f)
  (fun i => hashH hb' (parts2 a b i) :: row ob 40 (zb 32) :: row pb 55 [.slice p a.length c, .slice q b.length d] :: F) (fun i => i ≤ 2) (fun i => 2 - i) 0 (Nat.zero_le _) ⟨rfl, rfl, rfl, rfl, rfl, trivial⟩ rfl rfl fun i hi => ?_
 have hi : i ≤ 2 := hi
 match i, hi with
 | 0, _ =>
  refine gc ?_
  refine H.Cg (i := 0) rfl rfl rfl rfl (by decide) rfl ?_
  refine H.Af rfl rfl rfl (Rd1.ofRow (by repeat constructor) rfl) rfl ?_
  refine gO ?_
  refine H.Ad rfl rfl rfl (swrite_fn f _ htab (b := []) ha hc (by show 0 + a.length ≤ _; omega)) ?_
  refine gI ?_
  exact H.Am 1 (by decide) (by decide) ⟨rfl, rfl, rfl, rfl, rfl, trivial⟩ rfl rfl
 | 1, _ =>
  refine gc ?_
  refine H.Cg (i := 1) rfl rfl rfl rfl (by decide) rfl ?_
  refine H.Af rfl rfl rfl (Rd1.ofRow (by repeat constructor) rfl) rfl ?_
  refine gO ?_
  refine H.Ad rfl rfl rfl (swrite_fn f _ htab (b := a) hb hd (by omega)) ?_
  refine gI ?_
  exact H.Am 2 (by decide) (by decide) ⟨rfl, rfl, rfl, rfl, rfl, trivial⟩ rfl rfl
 | 2, _ =>
  have e2 : a ++ b = parts2 a b 2 := rfl
  have hpl : (parts2 a b 2).length ≤ 1000000000 := by show (a ++ b).length ≤ _; rw [List.length_append]; omega
  rw [e2]
  show H _ _ _ _ _ (hashH hb' (parts2 a b 2) :: _) _
  generalize parts2 a b 2 = ab at hpl ⊢
  refine gV ?_
  refine H.Ad rfl rfl rfl (hsum_fn f _ htab (b := ab) hpl) ?_
  refine H.Ak (ls := zb 32) (vs := b32 (Sha.sum ab)) (ls' := b32 (Sha.sum ab)) rfl rfl rfl (zad rfl) rfl rfl (Nat.le_refl 32) (by repeat constructor) ?_
  refine gf ?_
  refine H.Ab (x := hashH _ _) (by repeat constructor) ?_
  exact H.Ba rfl rfl rfl (Rd.ofRow (by repeat constructor)) rfl (fun _ s => s.drop (.here _ _)) ⟨rfl, rfl, rfl⟩
theorem turned_fn {p : Option Addr} {c : Nat} {key : List UInt8} {t : UInt8} (hk : BAt f p key) (hl : key.length ≤ 64) :
  Fn Tryz.prog 163 [.slice p key.length c, .int .u8 (t.toNat : Nat)] f F (BytesR (Sha.turn key t) f F) := by
 have hfirst := fun A => BAt.first (P := Tryz.prog) (A := A) (c := c) hk (Nat.le_refl _)
 rw [List.take_length] at hfirst
 have hlen := (BAt.src (P := Tryz.prog) (A := []) (c := c) hk).len
 have hspl : splice (zb 64) 0 (bytesV key) = bytesV (Sha.full key) := by
  unfold splice Sha.full zb
  rw [List.take_zero, List.nil_append, zag, zaf, Nat.zero_add, List.drop_replicate]
  congr 1
  unfold bytesV
  rw [List.map_replicate]
  rfl
 have hfl := Sha.full_len hl
 have htl := Sha.turn_len hl t
 have hget : ∀ i, i < 64 → (Sha.turn key t).getD i 0 = (Sha.full key).getD i 0 ^^^ t := fun i hi => by
  unfold Sha.turn
  rw [List.getD_eq_getElem?_getD, List.getElem?_map, List.getElem?_eq_getElem (by rw [hfl]; exact hi), List.getD_eq_getElem?_getD, List.getElem?_eq_getElem (by rw [hfl]; exact hi)]
  rfl
 refine Fn.enter Tryz.func163 rfl Tryz.ntmps163 rfl (L := [(0, _), (1, _)]) ⟨rfl, rfl, trivial⟩ fun base => ?_
 refine gH ?_
 refine H.makeS (m := 64) (zs := [.int .u8 0]) rfl rfl rfl rfl rfl rfl rfl (by decide) (by decide) (by decide) rfl fun rb => ?_
 rw [show zeros [Value.int .u8 0] 64 = zb 64 from zeros_one _ _]
 refine gO ?_
 refine H.copy (k0 := key.length) (m := key.length) (cs := bytesV key) (ls := zb 64) (ls' := bytesV (Sha.full key)) rfl rfl rfl rfl hlen (Nat.min_eq_left hl) (hfirst _) hspl (by rw [zaf, show (zb 64).length = 64 from List.length_replicate]; omega) (zaj _) (by repeat constructor) ?_
 refine H.asSlc (k := 64) (sz := 1) (by rw [zaf, hfl]) (by decide) ?_
 generalize Sha.full key = K at hfl hget hspl ⊢
 generalize Sha.turn key t = T at htl hget ⊢
 refine gf ?_
 refine H.Ax (ι := Nat) (fun i => [(19, .int .i64 (i : Int)), (6, .slice (some ⟨rb, 0, none⟩) 64 64), (1, .int .u8 (t.toNat : Nat))]) (fun _ => f)
  (fun i => slc (some ⟨rb, 0, none⟩) 64 64 5 1 ((bytesV T).take i ++ (bytesV K).drop i) :: F) (fun i => i ≤ 64) (fun i => 64 - i) 0 (Nat.zero_le _) ⟨rfl, rfl, rfl, trivial⟩ rfl rfl fun i hi => ?_
 have hi : i ≤ 64 := hi
 have hTK : (bytesV T).length = (bytesV K).length := by rw [zaf, zaf, hfl, htl]
 by_cases hli : i < 64
 ·have hset : SetV ((bytesV T).take i ++ (bytesV K).drop i) i (.int .u8 ((K.getD i 0 ^^^ t).toNat : Nat)) ((bytesV T).take (i + 1) ++ (bytesV K).drop (i + 1)) := by
   rw [← hget i hli]
   exact fill_set (zbk (by omega)) hTK
  have hg : ((bytesV T).take i ++ (bytesV K).drop i)[i]? = some (.int .u8 ((K.getD i 0).toNat : Nat)) := fill_get2 (Nat.le_refl _) hTK (zbk (by omega))
  show H _ _ _ _ _ (slc _ _ _ _ _ ((bytesV T).take i ++ (bytesV K).drop i) :: _) _
  refine gL ?_
  refine H.Cg (i := i) rfl rfl rfl rfl (by omega) rfl ?_
  refine H.Af rfl rfl rfl (.of (Rd.ofSlc (.here _ _ _) (by omega)) hg) rfl ?_
  refine gO ?_
  refine H.Br (op := .xor) rfl rfl rfl (u8_xor _ _) rfl rfl ?_
  refine H.Cg (i := i) rfl rfl rfl rfl (by omega) rfl ?_
  refine H.store_slc (xs' := (bytesV T).take (i + 1) ++ (bytesV K).drop (i + 1)) rfl rfl rfl rfl (.here _ _ _) (by rw [Nat.zero_add]; exact hset) ?_
  refine gI ?_
  exact H.Am (i + 1) (by show i + 1 ≤ 64; omega) (by show 64 - (i + 1) < 64 - i; omega) ⟨rfl, rfl, rfl, trivial⟩ rfl rfl
 ·have hi64 : i = 64 := by omega
  subst hi64
  have hfull : (bytesV T).take 64 ++ (bytesV K).drop 64 = bytesV T := by
   rw [List.take_of_length_le (by rw [zaf, htl]; exact Nat.le_refl _), List.drop_eq_nil_of_le (by rw [zaf, hfl]; exact Nat.le_refl _), List.append_nil]
  rw [hfull]
  refine gV ?_
  refine H.Ac rfl rfl (A' := slc (some ⟨rb, 0, none⟩) T.length 64 5 1 (bytesV T) :: F) ?_ ⟨_, 64, by rw [htl], rfl, rfl⟩
  rw [htl]
  exact fun _ h => h
end
section rules
variable {P : Program} {base : World} {n : Nat} {L : Env} {f : Frag} {A : List HP} {q : Post}
variable {l rest : List Oper} {d : Nat} {ty : TypeId} {pos : String} {af : Array Edge} {gd : Option (Nat × Bool)}
theorem H.convSBc {s t e : TypeId} {x : Operand} {bs : ByteArray} [hs : Und P s .string] [ht : Und P t (.slice e)] [he : Und P e (.int .u8)] (hw : want? l L gd = true) (hx : ev? L x = some (.string bs)) (hd : Nat.ble (d + 1) n = true)
  (k : ∀ b c, bs.size ≤ c → H P base n ((d, .slice (some ⟨b, 0, none⟩) bs.size c) :: L) f (strRow b bs c e :: A) (.ops l rest q)) : H P base n L f A (.ops l (⟨some d, .convert s t x, ty, pos, af, gd⟩ :: rest) q) :=
 H.opE (ι := Nat × Nat) (fun i => .slice (some ⟨i.1, 0, none⟩) bs.size i.2) (fun _ => f) (fun i => strRow i.1 bs i.2 e :: A) (fun i => bs.size ≤ i.2) hw hd (fun a w hfr s' => by
  have h1 := run_bytes_of_string (P := P) w s t e bs hs.eq ht.eq he.eq
  have h2 : (execOp a.eval ⟨some d, .convert s t x, ty, pos, af, gd⟩).run P w = .ok (.value (.slice (some ⟨w.heap.size, 0, none⟩) bs.size (grownCap w bs.size 0 e))) (w.drew.alloc (.cells (bytesRow bs (grownCap w bs.size 0 e)) e ((bytesRow bs (grownCap w bs.size 0 e)).size, (bytesRow bs (grownCap w bs.size 0 e)).size + 1))) := by
   simp only [execOp, hfr.eval hx, Sem.run_bind, h1, Result.andThen_ok, Sem.run_pure]
  exact ⟨(w.heap.size, grownCap w bs.size 0 e), _, grownCap_ge w bs.size 0 e, h2, Sat.alloc (w := w) s' rfl rfl rfl rfl⟩) (fun i hi => k i.1 i.2 hi)
end rules
section
variable (f : Frag) (F : List HP)
theorem tdig_sb (htab : TabAt f) {pb : Nat} {p q : Option Addr} {c d : Nat} {a b : List UInt8} (hb : BAt f q b) (hc : a.length ≤ c) (hd : b.length ≤ d) (hl : a.length + b.length ≤ 100000000) :
  Fn Tryz.prog 162 [.slice (some ⟨pb, 0, none⟩) 2 2] f (slc p a.length c 5 1 (bytesV a) :: pt2 pb p a.length c q b.length d :: F) (Ret (.agg (b32 (Sha.sum (a ++ b))).toArray) f (slc p a.length c 5 1 (bytesV a) :: pt2 pb p a.length c q b.length d :: F)) :=
 Fn.frozen fun g hg hj => tdig_fn (un f g) F (IntsAt.mono (Le.un f g) htab) (slc_bat _ hg hj) (BAt.mono (Le.un f g) hb) hc hd hl
theorem tdig_sr (htab : TabAt f) {pb ib : Nat} {p : Option Addr} {c d : Nat} {a b : List UInt8} {T : TypeId} (hc : a.length ≤ c) (hd : b.length ≤ d) (hl : a.length + b.length ≤ 100000000) :
  Fn Tryz.prog 162 [.slice (some ⟨pb, 0, none⟩) 2 2] f (slc p a.length c 5 1 (bytesV a) :: row ib T (bytesV b) :: pt2 pb p a.length c (some ⟨ib, 0, none⟩) b.length d :: F)
   (Ret (.agg (b32 (Sha.sum (a ++ b))).toArray) f (slc p a.length c 5 1 (bytesV a) :: row ib T (bytesV b) :: pt2 pb p a.length c (some ⟨ib, 0, none⟩) b.length d :: F)) :=
 Fn.frozen fun g hg hj => Fn.frozen fun g2 hg2 hj2 => tdig_fn (un (un f g) g2) F (IntsAt.mono (Le.un _ g2) (IntsAt.mono (Le.un f g) htab)) (BAt.mono (Le.un _ g2) (slc_bat _ hg hj)) (row_bat hg2 hj2) hc hd hl
theorem tdig_ts (htab : TabAt f) {pb sb : Nat} {p : Option Addr} {c d : Nat} {a : ByteArray} {b : List UInt8} {T : TypeId} (hc : a.size ≤ c) (hd : b.length ≤ d) (hl : a.size + b.length ≤ 100000000) :
  Fn Tryz.prog 162 [.slice (some ⟨pb, 0, none⟩) 2 2] f (strRow sb a c T :: slc p b.length d 5 1 (bytesV b) :: pt2 pb (some ⟨sb, 0, none⟩) a.size c p b.length d :: F)
   (Ret (.agg (b32 (Sha.sum (a.data.toList ++ b))).toArray) f (strRow sb a c T :: slc p b.length d 5 1 (bytesV b) :: pt2 pb (some ⟨sb, 0, none⟩) a.size c p b.length d :: F)) :=
 Fn.frozen fun g hg hj => Fn.frozen fun g2 hg2 hj2 => by
  have h := tdig_fn (un (un f g) g2) F (pb := pb) (c := c) (IntsAt.mono (Le.un _ g2) (IntsAt.mono (Le.un f g) htab)) (BAt.mono (Le.un _ g2) (strRow_bat hg hj)) (slc_bat _ hg2 hj2) (by rw [zay]; exact hc) hd (by rw [zay]; exact hl)
  rwa [zay] at h
theorem thmac_fn (htab : TabAt f) {p r : Option Addr} {c d : Nat} {key b : List UInt8} (hk : BAt f p key) (hb : BAt f r b) (hd : b.length ≤ d) (hl : key.length ≤ 64) (hl2 : b.length ≤ 10000000) :
  Fn Tryz.prog 123 [.slice p key.length c, .slice r b.length d] f F (Ret (.agg (b32 (Sha.hmac key b)).toArray) f F) := by
 refine Fn.enter Tryz.func123 rfl Tryz.ntmps123 rfl (L := [(0, _), (1, _)]) ⟨rfl, rfl, trivial⟩ fun base => ?_
 refine gC ?_
 refine H.Au (ls := zb 32) rfl rfl rfl fun ob => ?_
 refine gO ?_
 refine H.Ay rfl rfl rfl (turned_fn (t := 0x36) f _ hk hl) fun p1 c1 => ?_
 have h1 := Sha.turn_len hl 0x36
 generalize hT : Sha.turn key 0x36 = T at h1
 refine H.slc_cap (.here _ _ _) fun hc1 _ _ => ?_
 refine gO ?_
 refine H.Bb (out := [.slice p1 T.length c1, .slice r b.length d]) rfl rfl rfl rfl (by decide) (by decide) rfl rfl fun pb => ?_
 refine H.Aa (x := slc _ _ _ _ _ _) (by repeat constructor) ?_
 refine H.Ad rfl rfl rfl (tdig_sb f _ htab (a := T) (b := b) hb hc1 hd (by omega)) ?_
 refine H.Ab (x := slc _ _ _ _ _ _) (by repeat constructor) ?_
 refine H.Ab (x := pt2 _ _ _ _ _ _ _) (by repeat constructor) ?_
 refine H.Au (ls := zb 32) rfl rfl rfl fun ib => ?_
 refine H.Ak (ls := zb 32) (vs := b32 (Sha.sum (T ++ b))) (ls' := b32 (Sha.sum (T ++ b))) rfl rfl rfl (zad rfl) rfl rfl (Nat.le_refl 32) (by repeat constructor) ?_
 generalize hin : Sha.sum (T ++ b) = inn
 refine gC ?_
 refine H.Az (by kernel_rfl) (by decide +kernel) (by repeat (first | exact zab | refine zaa ?_ | refine zac ?_ | refine zae ?_)) (S := [_]) rfl ?_
 refine HB.Ag [(0, false), (2, false)] 4 (by kernel_rfl) ?_
 refine gD ?_
 refine HQ.Cd (lo := none) (hi := none) (mx := none) (lv := 0) (hv := 32) (mv := 32) rfl rfl rfl rfl rfl (fun h => by cases h) (by decide) (by decide) (by decide) rfl ?_
 refine HQ.Ae rfl ?_
 refine HB.ev1 (i := 1) (by kernel_rfl) rfl ?_
 refine H.Ay rfl rfl rfl (turned_fn (t := 0x5c) f _ hk hl) fun p3 c3 => ?_
 have h2 := Sha.turn_len hl 0x5c
 generalize hT2 : Sha.turn key 0x5c = T2 at h2
 refine H.slc_cap (.here _ _ _) fun hc3 _ _ => ?_
 refine gC ?_
 refine H.Aa (x := row ib _ _) (by repeat constructor) ?_
 refine H.on0 rfl ?_
 refine HB.ev1 (i := 3) (by kernel_rfl) rfl ?_
 refine H.Bb (out := [.slice p3 T2.length c3, .slice (some ⟨ib, 0, none⟩) 32 32]) rfl rfl rfl rfl (by decide) (by decide) rfl rfl fun pb2 => ?_
 refine gC ?_
 refine H.Aa (x := row ib _ _) (by repeat constructor) ?_
 refine H.on0 rfl ?_
 refine HB.ev1 (i := 4) (by kernel_rfl) rfl ?_
 refine H.Aa (x := slc _ _ _ _ _ _) (by repeat constructor) ?_
 have hfin : Sha.hmac key b = Sha.sum (T2 ++ b32L inn) := by unfold Sha.hmac; rw [hT, hT2, hin]
 rw [hfin]
 refine H.Ad rfl rfl rfl (tdig_sr f _ htab (a := T2) (b := b32L inn) (d := 32) hc3 (Nat.le_refl 32) (by show T2.length + 32 ≤ _; omega)) ?_
 generalize T2 ++ b32L inn = l4
 refine gC ?_
 refine H.Aa (x := row ib _ _) (by repeat constructor) ?_
 refine H.on0 rfl ?_
 refine HB.ev1 (i := 5) (by kernel_rfl) rfl ?_
 refine H.Ak (ls := zb 32) (vs := b32 (Sha.sum l4)) (ls' := b32 (Sha.sum l4)) rfl rfl rfl (zad rfl) rfl rfl (Nat.le_refl 32) (by repeat constructor) ?_
 refine gC ?_
 refine H.on0 rfl ?_
 refine HB.Al (by kernel_rfl) ?_
 refine gf ?_
 refine H.Ab (x := slc _ _ _ _ _ _) (by repeat constructor) ?_
 refine H.Ab (x := row ib _ _) (by repeat constructor) ?_
 refine H.Ab (x := pt2 _ _ _ _ _ _ _) (by repeat constructor) ?_
 exact H.Ba rfl rfl rfl (Rd.ofRow (by repeat constructor)) rfl (fun _ s => s.drop (.here _ _)) ⟨rfl, rfl, rfl⟩
theorem tkey_fn (htab : TabAt f) {w : ByteArray} {i most : Int} (h1 : 1 ≤ i) (h2 : i ≤ most) (h3 : most ≤ 1000) (hw : w.size ≤ 1000) :
  Fn Tryz.prog 161 [.string w, .int .i64 i, .int .i64 most] f F (BytesR (Sha.word32 w.data.toList i) f F) := by
 refine Fn.enter Tryz.func161 rfl Tryz.ntmps161 rfl (L := [(0, _), (1, _), (2, _)]) ⟨rfl, rfl, rfl, trivial⟩ fun base => ?_
 refine gZ ?_
 refine H.convSBc rfl rfl rfl fun sb sc hsc => ?_
 refine gI ?_
 refine H.Ay rfl rfl rfl (word_fn (l := []) (n := i) f _ Src.nil (fun _ => rfl) (by decide)) fun p1 c1 => ?_
 rw [List.nil_append]
 have h8 := be_len 8 i
 unfold Sha.word32
 generalize be 8 i = l1 at h8 ⊢
 refine H.slc_cap (.here _ _ _) fun hc1 _ _ => ?_
 skip
 refine H.Bb (out := [.slice (some ⟨sb, 0, none⟩) w.size sc, .slice p1 l1.length c1]) rfl rfl rfl rfl (by decide) (by decide) rfl rfl fun pb => ?_
 refine H.Aa (x := slc _ _ _ _ _ _) (by repeat constructor) ?_
 refine H.Aa (x := strRow _ _ _ _) (by repeat constructor) ?_
 refine H.Ad rfl rfl rfl (tdig_ts f _ htab (a := w) (b := l1) hsc hc1 (by omega)) ?_
 refine H.Ab (x := strRow _ _ _ _) (by repeat constructor) ?_
 refine H.Ab (x := slc _ _ _ _ _ _) (by repeat constructor) ?_
 refine H.Ab (x := pt2 _ _ _ _ _ _ _) (by repeat constructor) ?_
 generalize w.data.toList ++ l1 = l2
 refine H.Au (ls := zb 32) rfl rfl rfl fun db => ?_
 refine H.Ak (ls := zb 32) (vs := b32 (Sha.sum l2)) (ls' := b32 (Sha.sum l2)) rfl rfl rfl (zad rfl) rfl rfl (Nat.le_refl 32) (by repeat constructor) ?_
 generalize Sha.sum l2 = d
 refine gC ?_
 refine H.Cd (lo := none) (hi := none) (mx := none) (lv := 0) (hv := 32) (mv := 32) rfl rfl rfl rfl rfl (fun h => by cases h) (by decide) (by decide) (by decide) rfl ?_
 refine H.Ay rfl rfl rfl (cloneB_fn f _ (l := b32L d) (Src.slice (m := 32) (Rd.ofRow (.here _ _ _)) rfl) (fun h => by cases h) (by show 32 ≤ _; decide)) fun p4 c4 => ?_
 refine gf ?_
 refine H.Ab (x := row db _ _) (by repeat constructor) ?_
 exact H.Ac rfl rfl (fun _ h => h) ⟨p4, c4, rfl, rfl, rfl⟩
theorem treplica_fn (htab : TabAt f) {i : Int} (h1 : 1 ≤ i) (h2 : i ≤ 11) : Fn Tryz.prog 122 [.int .i64 i] f F (BytesR (Sha.word32 Sha.replicaW i) f F) := by
 refine Fn.enter Tryz.func122 rfl Tryz.ntmps122 rfl (L := [(0, _)]) ⟨rfl, trivial⟩ fun base => ?_
 refine gO ?_
 refine H.Ay rfl rfl rfl (tkey_fn (w := ⟨#[114, 97, 116, 99, 104, 101, 116, 32, 114, 101, 112, 108, 105, 99, 97]⟩) f _ htab h1 h2 (by decide) (by decide)) fun p1 c1 => ?_
 refine gf ?_
 exact H.Ac rfl rfl (fun _ h => h) ⟨p1, c1, rfl, rfl, rfl⟩
end
structure BP where
 p : Option Addr
 c : Nat
 l : List UInt8
def BP.val (x : BP) : Value := .slice x.p x.l.length x.c
def flat (ps : List BP) : List UInt8 := ps.flatMap BP.l
def upto (ps : List BP) (i : Nat) : List UInt8 := flat (ps.take i)
theorem upto_succ {ps : List BP} {i : Nat} {x : BP} (h : ps[i]? = some x) : upto ps (i + 1) = upto ps i ++ x.l := by
 unfold upto flat
 rw [List.take_add_one, h, List.flatMap_append]
 simp
theorem upto_le (ps : List BP) (i : Nat) : (upto ps i).length ≤ (flat ps).length := by
 have : flat ps = upto ps i ++ flat (ps.drop i) := by
  unfold upto flat
  rw [← List.flatMap_append, List.take_append_drop]
 rw [this, List.length_append]
 omega
theorem upto_all (ps : List BP) : upto ps ps.length = flat ps := by unfold upto; rw [List.take_length]
section
variable (f : Frag) (F : List HP)
theorem bconcat_fn {sb : Nat} {ps : List BP} (hs : ∀ x ∈ ps, ∀ G, Src Tryz.prog f (G ++ F) (.slice x.p x.l.length x.c) 1 x.l.length (bytesV x.l)) (hl : (flat ps).length ≤ 1000000) (hn : ps.length ≤ 1000) :
  Fn Tryz.prog 124 [.slice (some ⟨sb, 0, none⟩) ps.length ps.length] f (row sb 55 (ps.map BP.val) :: F) (BytesR (flat ps) f F) := by
 have hget : ∀ i, i < ps.length → ∃ x, ps[i]? = some x ∧ (ps.map BP.val)[i]? = some (.slice x.p x.l.length x.c) ∧ x ∈ ps := fun i h =>
  ⟨ps[i], List.getElem?_eq_getElem h, by rw [List.getElem?_map, List.getElem?_eq_getElem h]; rfl, List.getElem_mem h⟩
 have hu := upto_le ps
 refine Fn.enter Tryz.func124 rfl Tryz.ntmps124 rfl (L := [(0, _)]) ⟨rfl, trivial⟩ fun base => ?_
 refine gf ?_
 refine H.Ax (ι := Nat) (fun i => [(11, .int .i64 (i : Int)), (10, .int .i64 (ps.length : Nat)), (9, .slice (some ⟨sb, 0, none⟩) ps.length ps.length), (3, .int .i64 ((upto ps i).length : Nat)), (0, .slice (some ⟨sb, 0, none⟩) ps.length ps.length)]) (fun _ => f)
  (fun _ => row sb 55 (ps.map BP.val) :: F) (fun i => i ≤ ps.length) (fun i => ps.length - i) 0 (Nat.zero_le _) ⟨rfl, rfl, rfl, rfl, rfl, trivial⟩ rfl rfl fun i hi => ?_
 have hi : i ≤ ps.length := hi
 show H _ _ _ [(11, .int .i64 (i : Int)), _, _, (3, .int .i64 ((upto ps i).length : Nat)), _] _ _ _
 by_cases hlt : i < ps.length
 ·obtain ⟨x, hx, hv, _⟩ := hget i hlt
  have hs1 := upto_succ hx
  have hu1 := hu (i + 1)
  rw [hs1, List.length_append] at hu1
  generalize upto ps i = a at hs1 hu1 ⊢
  refine gL ?_
  refine H.Cg (i := i) rfl rfl rfl rfl (by omega) rfl ?_
  refine H.Af rfl rfl rfl (.of (Rd.ofRow (by repeat constructor)) hv) rfl ?_
  refine gX ?_
  refine H.know (d := 3) (u := .int .i64 ((upto ps (i + 1)).length : Nat)) rfl (congrArg (Value.int .i64) (by rw [hs1, List.length_append]; try rfl)) ?_
  exact H.Am (i + 1) (by show i + 1 ≤ _; omega) (by show ps.length - (i + 1) < ps.length - i; omega) ⟨rfl, rfl, rfl, rfl, rfl, trivial⟩ rfl rfl
 ·have hie : i = ps.length := by omega
  subst hie
  rw [upto_all]
  refine gH ?_
  refine H.slc0 5 1 ?_
  refine H.Ay rfl rfl rfl (growB_fn f _ (l := []) (m := (flat ps).length) (by decide) hl) fun p0 c0 => ?_
  refine gf ?_
  refine H.Ax (ι := Nat × Option Addr × Nat) (fun i => [(27, .int .i64 (i.1 : Int)), (26, .int .i64 (ps.length : Nat)), (25, .slice (some ⟨sb, 0, none⟩) ps.length ps.length), (6, .slice i.2.1 (upto ps i.1).length i.2.2)]) (fun _ => f)
   (fun i => slc i.2.1 (upto ps i.1).length i.2.2 5 1 (bytesV (upto ps i.1)) :: row sb 55 (ps.map BP.val) :: F) (fun i => i.1 ≤ ps.length) (fun i => ps.length - i.1) (0, p0, c0) (Nat.zero_le _) ⟨rfl, rfl, rfl, rfl, trivial⟩ rfl rfl fun i hi => ?_
  obtain ⟨i, p', c'⟩ := i
  have hi : i ≤ ps.length := hi
  show H _ _ _ [(27, .int .i64 (i : Int)), _, _, (6, .slice p' (upto ps i).length c')] _ (slc p' (upto ps i).length c' _ 1 (bytesV (upto ps i)) :: _ :: F) _
  by_cases hlt : i < ps.length
  ·obtain ⟨x, hx, hv, hm⟩ := hget i hlt
   have hs1 := upto_succ hx
   have hu1 := hu (i + 1)
   rw [hs1, List.length_append] at hu1
   generalize upto ps i = a at hs1 hu1 ⊢
   refine gL ?_
   refine H.Cg (i := i) rfl rfl rfl rfl (by omega) rfl ?_
   refine H.Af rfl rfl rfl (.of (Rd.ofRow (by repeat constructor)) hv) rfl ?_
   refine gO ?_
   refine H.Bd (xs := bytesV a) rfl rfl rfl rfl rfl (fun p' c' => .here _ _ _) (hs x hm [_, _]) (zaj _) rfl (by omega) (by omega) fun p3 c3 => ?_
   refine gI ?_
   refine H.Am (i + 1, p3, c3) (by show i + 1 ≤ _; omega) (by show ps.length - (i + 1) < ps.length - i; omega) ⟨rfl, rfl, rfl, ?_, trivial⟩ rfl ?_
   ·show some (Value.slice p3 (a.length + x.l.length) c3) = some (Value.slice p3 (upto ps (i + 1)).length c3)
    rw [hs1, List.length_append]
   ·show _ = slc p3 (upto ps (i + 1)).length c3 _ 1 (bytesV (upto ps (i + 1))) :: _
    rw [hs1, List.length_append, zag]
  ·have hie : i = ps.length := by omega
   subst hie
   rw [upto_all]
   refine gH ?_
   refine H.Ab (x := row sb _ _) (by repeat constructor) ?_
   exact H.Ac rfl rfl (fun _ h => h) ⟨p', c', rfl, rfl, rfl⟩
theorem thmac_ss (htab : TabAt f) {p r : Option Addr} {c d : Nat} {key b : List UInt8} (hd : b.length ≤ d) (hl : key.length ≤ 64) (hl2 : b.length ≤ 10000000) :
  Fn Tryz.prog 123 [.slice p key.length c, .slice r b.length d] f (slc p key.length c 5 1 (bytesV key) :: slc r b.length d 5 1 (bytesV b) :: F) (Ret (.agg (b32 (Sha.hmac key b)).toArray) f (slc p key.length c 5 1 (bytesV key) :: slc r b.length d 5 1 (bytesV b) :: F)) :=
 Fn.frozen fun g hg hj => Fn.frozen fun g2 hg2 hj2 => thmac_fn (un (un f g) g2) F (IntsAt.mono (Le.un _ g2) (IntsAt.mono (Le.un f g) htab)) (BAt.mono (Le.un _ g2) (slc_bat _ hg hj)) (slc_bat _ hg2 hj2) hd hl hl2
theorem tnumbered_fn (htab : TabAt f) {i n : Int} {r : Option Addr} {d : Nat} {b : List UInt8} (h1 : 1 ≤ i) (h2 : i ≤ 11) (hs : ∀ G, Src Tryz.prog f (G ++ F) (.slice r b.length d) 1 b.length (bytesV b)) (hl : b.length ≤ 900000) :
  Fn Tryz.prog 106 [.int .i64 i, .int .u64 n, .slice r b.length d] f F (Ret (.agg (b32 (Sha.numbered i n b)).toArray) f F) := by
 refine Fn.enter Tryz.func106 rfl Tryz.ntmps106 rfl (L := [(0, _), (1, _), (2, _)]) ⟨rfl, rfl, rfl, trivial⟩ fun base => ?_
 refine gC ?_
 refine H.Au (ls := zb 32) rfl rfl rfl fun ob => ?_
 refine gO ?_
 refine H.Ay rfl rfl rfl (treplica_fn f _ htab h1 h2) fun p1 c1 => ?_
 refine gO ?_
 refine H.Ay rfl rfl rfl (word_fn (l := []) (n := n) f _ Src.nil (fun _ => rfl) (by decide)) fun p2 c2 => ?_
 rw [List.nil_append]
 have h8 := be_len 8 n
 unfold Sha.numbered
 have hk : (Sha.word32 Sha.replicaW i).length = 32 := rfl
 generalize Sha.word32 Sha.replicaW i = key at hk ⊢
 generalize be 8 n = w at h8 ⊢
 repeat (((apply H.Aj); (iterate 3 exact rfl)))
 refine H.Bb (out := [.slice p2 w.length c2, .slice r b.length d]) rfl rfl rfl rfl (by decide) (by decide) rfl rfl fun pb => ?_
 refine H.Ay rfl rfl rfl (bconcat_fn f _ (ps := [⟨p2, c2, w⟩, ⟨r, d, b⟩]) (fun x hx G => ?_) (by show (w ++ (b ++ [])).length ≤ _; rw [List.append_nil, List.length_append]; omega) (by show 2 ≤ 1000; decide)) fun p3 c3 => ?_
 ·rcases List.mem_cons.1 hx with rfl | hx
  ·exact Src.append (Src.slcS (.here _ _ _) (by rw [zaf]; exact (Nat.mul_one _).symm))
  ·rcases List.mem_cons.1 hx with rfl | hx
   ·have h := hs (G ++ [slc p2 w.length c2 5 1 (bytesV w), slc p1 key.length c1 5 1 (bytesV key), row ob 40 (zb 32)])
    rw [List.append_assoc] at h
    exact h
   ·cases hx
 have hfl : flat [⟨p2, c2, w⟩, ⟨r, d, b⟩] = w ++ b := by show w ++ (b ++ []) = _; rw [List.append_nil]
 rw [hfl]
 have hwl : (w ++ b).length ≤ 10000000 := by rw [List.length_append]; omega
 generalize w ++ b = l1 at hwl ⊢
 refine H.slc_cap (.here _ _ _) fun hc3 _ _ => ?_
 refine H.Aa (x := slc p1 _ _ _ _ _) (by repeat constructor) ?_
 refine H.Ad rfl rfl rfl (thmac_ss f _ htab (key := key) (b := l1) hc3 (by omega) hwl) ?_
 refine H.Ab (.here _ _) ?_
 refine H.Ab (.here _ _) ?_
 refine H.Ab (.here _ _) ?_
 refine H.Ak (ls := zb 32) (vs := b32 (Sha.hmac key l1)) (ls' := b32 (Sha.hmac key l1)) rfl rfl rfl (zad rfl) rfl rfl (Nat.le_refl 32) (by repeat constructor) ?_
 refine gf ?_
 exact H.Ba rfl rfl rfl (Rd.ofRow (by repeat constructor)) rfl (fun _ s => s.drop (.here _ _)) ⟨rfl, rfl, rfl⟩
end
def orx (a b : Nat → UInt8) : Nat → UInt8
 | 0 => 0
 | i + 1 => orx a b i ||| (a i ^^^ b i)
theorem u8_or0 (x y : UInt8) : x ||| y = 0 ↔ x = 0 ∧ y = 0 := by
 rw [← UInt8.toBitVec_inj, ← UInt8.toBitVec_inj, ← UInt8.toBitVec_inj]
 simp
theorem u8_xor0 (x y : UInt8) : x ^^^ y = 0 ↔ x = y := by
 rw [← UInt8.toBitVec_inj, ← UInt8.toBitVec_inj]
 simp
theorem u8_or (x y : UInt8) : bitsI .or .u8 (x.toNat : Int) (y.toNat : Int) = some (((x ||| y).toNat : Nat) : Int) := by
 have e : (BitVec.ofInt 8 (x.toNat : Int) ||| BitVec.ofInt 8 (y.toNat : Int)).toNat = (x ||| y).toNat := by rw [u8_bv, u8_bv]; rfl
 show some (IntKind.u8.wrap ((BitVec.ofInt 8 (x.toNat : Int) ||| BitVec.ofInt 8 (y.toNat : Int)).toNat : Int)) = _
 rw [e, u8_wrapN]
theorem orx_zero (a b : Nat → UInt8) : ∀ i, orx a b i = 0 ↔ ∀ j, j < i → a j = b j
 | 0 => ⟨fun _ j h => by omega, fun _ => rfl⟩
 | i + 1 => by
  show orx a b i ||| (a i ^^^ b i) = 0 ↔ _
  rw [u8_or0, u8_xor0, orx_zero a b i]
  constructor
  ·rintro ⟨h1, h2⟩ j hj
   by_cases e : j = i
   ·rw [e]; exact h2
   ·exact h1 j (by omega)
  ·intro h
   exact ⟨fun j hj => h j (by omega), h i (by omega)⟩
theorem eqC_bytes2 : ∀ a b : List UInt8, eqC (bytesV a) (bytesV b) = decide (a = b)
 | [], [] => rfl
 | [], _ :: _ => rfl
 | _ :: _, [] => rfl
 | x :: a, y :: b => by
  show (eqv (.int .u8 x.toNat) (.int .u8 y.toNat) && eqC (bytesV a) (bytesV b)) = _
  rw [eqC_bytes2 a b]
  show (((x.toNat : Int) == (y.toNat : Int)) && _) = _
  rw [Bool.eq_iff_iff]
  simp only [Bool.and_eq_true, beq_iff_eq, decide_eq_true_eq, List.cons.injEq]
  constructor
  ·rintro ⟨h1, h2⟩
   exact ⟨UInt8.toNat_inj.1 (by omega), h2⟩
  ·rintro ⟨h1, h2⟩
   exact ⟨by rw [h1], h2⟩
theorem b32L_map (a : Nat → UInt8) : b32L a = (List.range 32).map a := rfl
def eq32 (a b : Nat → UInt8) : Bool := eqC (b32 a) (b32 b)
theorem eq32_orx (a b : Nat → UInt8) : eq32 a b = decide (orx a b 32 = 0) := by
 unfold eq32
 rw [b32_bytes, b32_bytes, eqC_bytes2, b32L_map, b32L_map]
 refine decide_eq_decide.2 ?_
 rw [List.map_inj_left, orx_zero]
 constructor
 ·intro h j hj
  exact h j (List.mem_range.2 hj)
 ·intro h j hj
  exact h j (List.mem_range.1 hj)
theorem orx_dec (a b : Nat → UInt8) : decide (((orx a b 32).toNat : Int) = 0) = eq32 a b := by
 rw [eq32_orx]
 refine decide_eq_decide.2 ⟨fun h => UInt8.toNat_inj.1 (by show (orx a b 32).toNat = 0; omega), fun h => by rw [h]; rfl⟩
theorem Src.assoc {P : Program} {f : Frag} {G : List HP} {x : HP} {F : List HP} {v : Value} {sz m : Nat} {news : List Value} (h : Src P f ((G ++ [x]) ++ F) v sz m news) : Src P f (G ++ x :: F) v sz m news := by
 rwa [List.append_assoc] at h
section
variable (f : Frag) (F : List HP)
theorem tsame_fn {a b : Nat → UInt8} : Fn Tryz.prog 105 [.agg (b32 a).toArray, .agg (b32 b).toArray] f F (Ret (.bool (eq32 a b)) f F) := by
 have hdec := orx_dec a b
 refine Fn.enter Tryz.func105 rfl Tryz.ntmps105 rfl (L := [(0, _), (1, _)]) ⟨rfl, rfl, trivial⟩ fun base => ?_
 refine gC ?_
 refine H.box (ls := b32 a) rfl rfl rfl rfl fun ab => ?_
 refine H.box (ls := b32 b) rfl rfl rfl rfl fun bb => ?_
 refine gf ?_
 refine H.Ax (ι := Nat) (fun i => [(7, .int .i64 (i : Int)), (5, .int .u8 ((orx a b i).toNat : Nat)), (2, .pointer (some ⟨ab, 0, none⟩)), (3, .pointer (some ⟨bb, 0, none⟩))]) (fun _ => f)
  (fun _ => row bb 40 (b32 b) :: row ab 40 (b32 a) :: F) (fun i => i ≤ 32) (fun i => 32 - i) 0 (Nat.zero_le _) ⟨rfl, rfl, rfl, rfl, trivial⟩ rfl rfl fun i hi => ?_
 have hi : i ≤ 32 := hi
 show H _ _ _ [_, (5, .int .u8 ((orx a b i).toNat : Nat)), _, _] _ _ _
 by_cases hlt : i < 32
 ·have ha : (b32 a)[i * 1]? = some (.int .u8 ((a i).toNat : Nat)) := by rw [Nat.mul_one]; exact b32_get a hlt
  have hb : (b32 b)[i * 1]? = some (.int .u8 ((b i).toNat : Nat)) := by rw [Nat.mul_one]; exact b32_get b hlt
  have hs : orx a b (i + 1) = orx a b i ||| (a i ^^^ b i) := rfl
  refine gL ?_
  refine H.Bg (by kernel_rfl) (by decide +kernel) (by repeat (first | exact zab | refine zaa ?_ | refine zac ?_ | refine zae ?_)) ?_
  repeat (first | (apply HQ.Aw (i := i); (iterate 3 exact rfl); omega; omega; exact rfl) | (apply HQ.Af; (iterate 3 exact rfl); (first | exact .of (Rd.ofRow (by repeat constructor)) ha | exact .of (Rd.ofRow (by repeat constructor)) hb); exact rfl) | ((first | apply HQ.Aj | apply HQ.Ap); (iterate 3 exact rfl)) | ((apply HQ.done0); exact rfl) | (apply HQ.Br (op := .xor); (iterate 3 exact rfl); exact u8_xor _ _; (iterate 2 exact rfl)) | (apply HQ.Br (op := .or); (iterate 3 exact rfl); exact u8_or _ _; (iterate 2 exact rfl)))
  rw [← hs]
  refine gI ?_
  exact H.Am (i + 1) (by show i + 1 ≤ 32; omega) (by show 32 - (i + 1) < 32 - i; omega) ⟨rfl, rfl, rfl, rfl, trivial⟩ rfl rfl
 ·have hi32 : i = 32 := by omega
  subst hi32
  generalize orx a b 32 = x at hdec ⊢
  rw [← hdec]
  clear hdec
  refine gV ?_
  refine H.Ab (.here _ _) ?_
  refine H.Ab (.here _ _) ?_
  exact H.Ac rfl rfl (fun _ h => h) ⟨rfl, rfl, rfl⟩
set_option maxHeartbeats 1600000 in
theorem ucheck_fn (htab : TabAt f) {i n : Int} {r : Option Addr} {d : Nat} {b : List UInt8} {t : Nat → UInt8} (h1 : 1 ≤ i) (h2 : i ≤ 11) (h3 : 1 ≤ n) (h4 : n ≤ 65536) (hs : ∀ G, Src Tryz.prog f (G ++ F) (.slice r b.length d) 1 b.length (bytesV b)) (hl : b.length ≤ 1024) :
  Fn Tryz.prog 83 [.int .i64 i, .int .u64 n, .slice r b.length d, .agg (b32 t).toArray] f F (Ret (.bool (eq32 t (Sha.numbered i n b))) f F) := by
 have hr : ∀ G, Fn Tryz.prog 103 [.int .i64 i] f G (Ret (.bool true) f G) := fun G => by
  refine Fn.enter Tryz.func103 rfl Tryz.ntmps103 rfl (L := [(0, _)]) ⟨rfl, trivial⟩ fun base => ?_
  refine gO ?_
  refine H.Ay rfl rfl rfl (treplica_fn f _ htab h1 h2) fun p1 c1 => ?_
  have hk : (Sha.word32 Sha.replicaW i).length = 32 := rfl
  generalize Sha.word32 Sha.replicaW i = key at hk ⊢
  refine gH ?_
  refine H.Ab (.here _ _) ?_
  exact H.Ac rfl rfl (fun _ h => h) ⟨congrArg Value.bool (by simp; omega), rfl, rfl⟩
 have hn : ∀ G, Fn Tryz.prog 104 [.int .u64 n] f G (Ret (.bool true) f G) := fun G => by
  refine Fn.enter Tryz.func104 rfl Tryz.ntmps104 rfl (L := [(0, _)]) ⟨rfl, trivial⟩ fun base => ?_
  refine gU ?_
  exact H.Ac rfl rfl (fun _ h => h) ⟨congrArg Value.bool (by simp; omega), rfl, rfl⟩
 refine Fn.enter Tryz.func83 rfl Tryz.ntmps83 rfl (L := [(0, _), (1, _), (2, _), (3, _)]) ⟨rfl, rfl, rfl, rfl, trivial⟩ fun base => ?_
 refine gC ?_
 refine H.box (ls := b32 t) rfl rfl rfl rfl fun tb => ?_
 refine gO ?_
 refine H.Az (by kernel_rfl) (by decide +kernel) (by repeat (first | exact zab | refine zaa ?_ | refine zac ?_ | refine zae ?_)) (S := [_]) rfl ?_
 refine HB.Ag [(0, false)] 19 (by kernel_rfl) ?_
 refine gD ?_
 refine HQ.Ae rfl ?_
 refine HB.ev1 (i := 1) (by kernel_rfl) rfl ?_
 refine H.Ad rfl rfl rfl (hr _) ?_
 refine gC ?_
 refine H.on0 rfl ?_
 refine HB.Ag [(2, false), (3, false)] 16 (by kernel_rfl) ?_
 refine gD ?_
 refine HQ.Ae rfl ?_
 refine HB.ev1 (i := 4) (by kernel_rfl) rfl ?_
 skip
 refine H.Ad rfl rfl rfl (hn _) ?_
 refine gC ?_
 refine H.on0 rfl ?_
 refine HB.Ag [(5, false), (6, false), (7, false), (8, false), (9, false), (10, false), (11, false), (12, false), (13, false), (14, false), (15, false)] 4 (by kernel_rfl) ?_
 repeat (first | (refine HQ.Ah (ls := b32 t) rfl rfl rfl (Rd.ofRow (by repeat constructor)) rfl rfl ?_) | ((first | apply HQ.Aj | apply HQ.Bm); (iterate 3 exact rfl)) | ((apply HQ.cmp); (iterate 5 exact rfl)) | (apply HQ.Bh; (iterate 4 exact rfl)) | (apply HQ.Bl; (iterate 3 exact rfl); (omega)))
 refine HQ.Ae rfl ?_
 refine HB.ev1 (i := 16) (by kernel_rfl) rfl ?_
 skip
 refine H.Ad rfl rfl rfl (tnumbered_fn f _ htab h1 h2 (fun G => (hs (G ++ [_])).assoc) (by omega)) ?_
 generalize Sha.numbered i n b = u
 refine gC ?_
 refine H.on0 rfl ?_
 refine HB.ev1 (i := 17) (by kernel_rfl) rfl ?_
 skip
 refine H.Ad rfl rfl rfl (tsame_fn f _) ?_
 refine gC ?_
 refine H.on0 rfl ?_
 refine HB.Ag [(18, false), (19, false)] 0 (by kernel_rfl) ?_
 refine gN ?_
 refine HQ.Ae rfl ?_
 refine HB.Al (by kernel_rfl) ?_
 refine gf ?_
 refine H.Ab (x := row tb _ _) (by repeat constructor) ?_
 exact H.Ac rfl rfl (fun _ h => h) ⟨rfl, rfl, rfl⟩
end
theorem byteAt_nat (n : Nat) (j : Nat) : (byteAt (n : Int) j).toNat = n / 256 ^ j % 256 := by
 unfold byteAt
 have e : (n : Int).fdiv (2 ^ (8 * j)) % 256 = ((n / 256 ^ j % 256 : Nat) : Int) := by
  rw [show ((2 : Int) ^ (8 * j)) = ((2 ^ (8 * j) : Nat) : Int) by simp, Int.fdiv_eq_ediv_of_nonneg _ (Int.natCast_nonneg _), Nat.pow_mul]
  rfl
 rw [e, Int.toNat_natCast, UInt8.toNat_ofNat']
 omega
theorem numB_beTop (k n : Nat) : ∀ i, i ≤ k → numB (beTop k (n : Int) i) = n / 256 ^ (k - i) % 256 ^ i
 | 0, _ => by simp [beTop, numB, Nat.mod_one]
 | i + 1, h => by
  unfold beTop
  rw [numB_snoc, numB_beTop k n i (by omega), byteAt_nat]
  have e1 : k - i = (k - (i + 1)) + 1 := by omega
  have e2 : k - 1 - i = k - (i + 1) := by omega
  rw [e1, e2]
  generalize k - (i + 1) = m
  rw [Nat.pow_succ, Nat.pow_succ, ← Nat.div_div_eq_div_mul]
  generalize n / 256 ^ m = a
  rw [Nat.mul_comm (256 ^ i) 256, Nat.mod_mul]
  omega
theorem numB_be {k n : Nat} (h : n < 256 ^ k) : numB (be k (n : Int)) = n := by
 unfold be
 rw [numB_beTop k n k (Nat.le_refl _), Nat.sub_self, Nat.pow_zero, Nat.div_one, Nat.mod_eq_of_lt h]
theorem numB_be8 {z : Int} (h : 0 ≤ z ∧ z ≤ 18446744073709551615) : ((numB (be 8 z) : Nat) : Int) = z := by
  obtain ⟨n, rfl⟩ := Int.eq_ofNat_of_zero_le h.1
  rw [numB_be (by have : (256 : Nat) ^ 8 = 18446744073709551616 := by decide
                  omega)]
section
variable {a r : List UInt8} {n : Nat}
theorem Cs.ok_app (h : a.length = n) : (⟨a ++ r, false⟩ : Cs).ok n = true := by
 rw [Cs.ok_iff]; exact ⟨rfl, by show n ≤ (a ++ r).length; rw [List.length_append]; omega⟩
theorem Cs.num_app (h : a.length = n) : (⟨a ++ r, false⟩ : Cs).num n = numB a := by
 unfold Cs.num; rw [if_pos (Cs.ok_app h)]; show numB ((a ++ r).take n) = _; rw [← h, List.take_left]
theorem Cs.skip_app (h : a.length = n) : (⟨a ++ r, false⟩ : Cs).skip n = ⟨r, false⟩ := by
 unfold Cs.skip; rw [if_pos (Cs.ok_app h)]; show (⟨(a ++ r).drop n, false⟩ : Cs) = _; rw [← h, List.drop_left]
theorem Cs.raw_app (h : a.length = n) : (⟨a ++ r, false⟩ : Cs).raw n = a := by
 unfold Cs.raw; rw [if_pos (Cs.ok_app h)]; show (a ++ r).take n = _; rw [← h, List.take_left]
theorem Cs.num8_be {z : Int} (h : 0 ≤ z ∧ z ≤ 18446744073709551615) : (((⟨be 8 z ++ r, false⟩ : Cs).num 8 : Nat) : Int) = z := by
 rw [Cs.num_app (be_len _ _), numB_be8 h]
theorem Cs.num1_b {b : UInt8} : (⟨b :: r, false⟩ : Cs).num 1 = b.toNat := by
 have := Cs.num_app (a := [b]) (r := r) (n := 1) rfl
 rw [List.singleton_append] at this
 rw [this]; simp [numB]
theorem Cs.skip1_b {b : UInt8} : (⟨b :: r, false⟩ : Cs).skip 1 = ⟨r, false⟩ := Cs.skip_app (a := [b]) rfl
theorem Cs.text_app {s : ByteArray} {most : Nat} (h : s.size ≤ most) (hm : most < 65536) :
    (⟨textB s ++ r, false⟩ : Cs).text most = s.data.toList ∧ (⟨textB s ++ r, false⟩ : Cs).textS most = ⟨r, false⟩ := by
  unfold textB
  rw [List.append_assoc]
  have h2 : (⟨be 2 (s.size : Nat) ++ (s.data.toList ++ r), false⟩ : Cs).num 2 = s.size := by
    rw [Cs.num_app (be_len _ _), numB_be (by have : (256 : Nat) ^ 2 = 65536 := by decide
                                             omega)]
  have hok : (⟨be 2 (s.size : Nat) ++ (s.data.toList ++ r), false⟩ : Cs).ok 2 = true := Cs.ok_app (be_len _ _)
  have hdl := zay s
  have ht : (⟨be 2 (s.size : Nat) ++ (s.data.toList ++ r), false⟩ : Cs).tok most = true := by
    unfold Cs.tok
    rw [hok, h2]
    simp only [Bool.true_and, Bool.and_eq_true]
    refine ⟨Nat.ble_eq_true_of_le h, Nat.ble_eq_true_of_le ?_⟩
    show 2 + s.size ≤ (be 2 (s.size : Nat) ++ (s.data.toList ++ r)).length
    rw [List.length_append, List.length_append, be_len, hdl]; omega
  constructor
  · unfold Cs.text
    rw [if_pos ht, h2]
    show ((be 2 (s.size : Nat) ++ (s.data.toList ++ r)).drop 2).take s.size = _
    rw [List.drop_left' (be_len _ _), List.take_left' hdl]
  · unfold Cs.textS
    rw [if_pos ht, h2]
    show (⟨(be 2 (s.size : Nat) ++ (s.data.toList ++ r)).drop (2 + s.size), false⟩ : Cs) = _
    rw [← List.drop_drop, List.drop_left' (be_len _ _), List.drop_left' hdl]
theorem Cs.hash_app {t : Nat → UInt8} : b32 ((⟨b32L t ++ r, false⟩ : Cs).hash) = b32 t := by
 have e := Cs.raw_app (a := b32L t) (r := r) (n := 32) rfl
 unfold Cs.hash
 simp only [e]
 rfl
end
theorem baOf_data (s : ByteArray) : baOf s.data.toList = s := by
 unfold baOf
 rw [Array.toArray_toList]
def Req.Ok (r : Req) : Prop := (0 ≤ r.time ∧ r.time ≤ 18446744073709551615) ∧ (0 ≤ r.amount ∧ r.amount ≤ 18446744073709551615)
def Bod.Ok (x : Bod) : Prop := (0 ≤ x.view ∧ x.view ≤ 18446744073709551615) ∧ (0 ≤ x.k ∧ x.k ≤ 18446744073709551615) ∧ x.req.Ok
theorem req_back {q : Req} (h : q.Ok) (ha : q.asked) (r : List UInt8) :
  ((⟨q.bytes ++ b32L q.tag ++ r, false⟩ : Cs).req 32 128).vals = q.vals ∧ (⟨q.bytes ++ b32L q.tag ++ r, false⟩ : Cs).reqS 32 128 = ⟨r, false⟩ := by
 obtain ⟨ht, hm⟩ := h
 obtain ⟨c1, c2, _, _, ⟨k1, k2⟩, k3, k4⟩ := ha
 have e : q.bytes ++ b32L q.tag ++ r = b8 q.client :: q.kind :: (be 8 q.time ++ (be 8 q.amount ++ (textB q.key ++ (textB q.val ++ (textB q.old ++ (textB q.to ++ (b32L q.tag ++ r))))))) := by
  unfold Req.bytes Req.head
  simp only [List.append_assoc, List.cons_append, List.nil_append]
  rfl
 rw [e]
 unfold Cs.req Cs.reqS
 dsimp only
 have t1 := Cs.text_app (s := q.key) (most := 32) (r := textB q.val ++ (textB q.old ++ (textB q.to ++ (b32L q.tag ++ r)))) k1 (by decide)
 have t2 := Cs.text_app (s := q.val) (most := 128) (r := textB q.old ++ (textB q.to ++ (b32L q.tag ++ r))) k3 (by decide)
 have t3 := Cs.text_app (s := q.old) (most := 128) (r := textB q.to ++ (b32L q.tag ++ r)) k4 (by decide)
 have t4 := Cs.text_app (s := q.to) (most := 32) (r := b32L q.tag ++ r) k2 (by decide)
 rw [Cs.num1_b, Cs.skip1_b, Cs.skip1_b, Cs.skip_app (be_len _ _), Cs.skip_app (be_len _ _), t1.1, t1.2, t2.1, t2.2, t3.1, t3.2, t4.1, t4.2, Cs.num8_be ht, Cs.num8_be hm]
 constructor
 ·unfold Cs.byte
  rw [Cs.num1_b]
  unfold Req.vals
  rw [Cs.hash_app, baOf_data, baOf_data, baOf_data, baOf_data, b8_small (by omega)]
  simp
 ·exact Cs.skip_app (a := b32L q.tag) rfl
theorem pairs_back : ∀ (q : List (Int × Int)) (w : Int) (r : List UInt8) (acc : List (Int × Int)), 0 ≤ w → quo w q = true → Cs.pairs q.length ⟨q.flatMap pairB ++ r, false⟩ acc = (acc ++ q, ⟨r, false⟩)
 | [], w, r, acc, _, _ => by simp [Cs.pairs]
 | p :: q, w, r, acc, hw, h => by
  unfold quo at h
  split at h
  ·cases h
  ·rename_i hn
   have ih := pairs_back q p.1 r (acc ++ [p]) (by omega) h
   have e : (p :: q).flatMap pairB ++ r = b8 p.1 :: (be 8 p.2 ++ (q.flatMap pairB ++ r)) := by
    simp [pairB]
   rw [e]
   show (if false = true then _ else Cs.pairs q.length (((⟨_, false⟩ : Cs).skip 1).skip 8) (acc ++ [((((⟨_, false⟩ : Cs).num 1 : Nat) : Int), ((((⟨_, false⟩ : Cs).skip 1).num 8 : Nat) : Int))])) = _
   rw [if_neg (by decide), Cs.skip1_b, Cs.skip_app (be_len _ _), Cs.num1_b, Cs.num8_be (by omega), b8_small (by omega), ih]
   simp
def Bod.E (a b : Bod) : Prop := a.kind = b.kind ∧ a.view = b.view ∧ a.k = b.k ∧ a.req.vals = b.req.vals ∧ a.q = b.q ∧ b32 a.dig = b32 b.dig
theorem Bod.E.eqB {x a b : Bod} (h : Bod.E a b) : Bod.eqB x a = Bod.eqB x b := by
 obtain ⟨h1, h2, h3, h4, h5, h6⟩ := h
 unfold Bod.eqB
 rw [h1, h2, h3, h4, h5, h6]
theorem eqv_comm (a b : Value) : eqv a b = eqv b a := by
 cases a with
 | bool x =>
  cases b with
  | bool y => cases x <;> cases y <;> rfl
  | _ => rfl
 | int k x =>
  cases b with
  | int l y =>
   show (x == y) = (y == x)
   rw [Bool.eq_iff_iff, beq_iff_eq, beq_iff_eq]; exact eq_comm
  | _ => rfl
 | string x =>
  cases b with
  | string y =>
   show (x == y) = (y == x)
   rw [beq_toListBytes, beq_toListBytes, Bool.eq_iff_iff, beq_iff_eq, beq_iff_eq]; exact eq_comm
  | _ => rfl
 | _ => cases b <;> rfl
theorem eqC_comm : ∀ (a b : List Value), eqC a b = eqC b a
 | [], [] => rfl
 | [], _ :: _ => rfl
 | _ :: _, [] => rfl
 | x :: xs, y :: ys => by simp only [eqC]; rw [eqv_comm, eqC_comm xs ys]
theorem Bod.eqB_comm (a b : Bod) : Bod.eqB a b = Bod.eqB b a := by
 unfold Bod.eqB
 rw [eqC_comm a.req.vals, eqC_comm (b32 a.dig), show decide (((a.kind.toNat : Nat) : Int) = b.kind.toNat) = decide (((b.kind.toNat : Nat) : Int) = a.kind.toNat) from decide_eq_decide.2 eq_comm,
  show decide (a.view = b.view) = decide (b.view = a.view) from decide_eq_decide.2 eq_comm, show decide (a.k = b.k) = decide (b.k = a.k) from decide_eq_decide.2 eq_comm, show decide (a.q = b.q) = decide (b.q = a.q) from decide_eq_decide.2 eq_comm]
theorem own_q {x : Bod} (h : x.kind.toNat ≠ 4) : x.own.q = [] := by
 unfold Bod.own
 generalize x.kind.toNat = k at h
 match k, h with
 | 0, _ => rfl
 | 1, _ => rfl
 | 2, _ => rfl
 | 3, _ => rfl
 | 4, h => exact absurd rfl h
 | 5, _ => rfl
 | 6, _ => rfl
 | k + 7, _ => rfl
theorem back_own {x : Bod} (hx : x.Ok) (hm : x.mayK x.kind.toNat = true) : Bod.E (x.back x.kind.toNat) x.own := by
 obtain ⟨hv, hk, hr⟩ := hx
 unfold Bod.back Bod.own
 generalize x.kind.toNat = k at hm
 match k, hm with
 | 0, hm => exact absurd hm (by simp [Bod.mayK])
 | k + 7, hm => exact absurd hm (by simp [Bod.mayK])
 | 1, hm =>
  have ha : x.req.asked := of_decide_eq_true hm
  have e : x.putK 1 = be 8 x.view ++ (x.req.bytes ++ b32L x.req.tag ++ []) := by simp [Bod.putK]
  rw [e]
  have h1 := req_back hr ha []
  refine ⟨rfl, ?_, rfl, ?_, rfl, rfl⟩
  ·exact Cs.num8_be hv
  ·show (((⟨_, false⟩ : Cs).skip 8).req 32 128).vals = _
   rw [Cs.skip_app (be_len _ _)]
   exact h1.1
 | 2, _ =>
  have e : x.putK 2 = be 8 x.view ++ (be 8 x.k ++ []) := by simp [Bod.putK]
  rw [e]
  refine ⟨rfl, Cs.num8_be hv, ?_, rfl, rfl, rfl⟩
  show ((((⟨_, false⟩ : Cs).skip 8).num 8 : Nat) : Int) = _
  rw [Cs.skip_app (be_len _ _)]
  exact Cs.num8_be hk
 | 3, _ =>
  have e : x.putK 3 = be 8 x.view ++ [] := by simp [Bod.putK]
  rw [e]
  exact ⟨rfl, Cs.num8_be hv, rfl, rfl, rfl, rfl⟩
 | 5, _ =>
  have e : x.putK 5 = be 8 x.view ++ [] := by simp [Bod.putK]
  rw [e]
  exact ⟨rfl, Cs.num8_be hv, rfl, rfl, rfl, rfl⟩
 | 6, _ =>
  have e : x.putK 6 = be 8 x.k ++ (b32L x.dig ++ []) := by simp [Bod.putK]
  rw [e]
  refine ⟨rfl, rfl, Cs.num8_be hk, rfl, rfl, ?_⟩
  show b32 (((⟨_, false⟩ : Cs).skip 8).hash) = _
  rw [Cs.skip_app (be_len _ _)]
  exact Cs.hash_app
 | 4, hm =>
  simp only [Bod.mayK, Bool.and_eq_true, decide_eq_true_eq] at hm
  have hlen := quo_len x.q 0 (by omega) hm.2.1
  have e : x.putK 4 = be 8 x.view ++ (b8 x.q.length :: (x.q.flatMap pairB ++ [])) := by simp [Bod.putK]
  rw [e]
  have hn : (b8 x.q.length).toNat = x.q.length := by have := b8_small (z := (x.q.length : Int)) (by omega); omega
  have hp := pairs_back x.q 0 [] [] (Int.le_refl 0) hm.2.1
  refine ⟨rfl, Cs.num8_be hv, rfl, rfl, ?_, rfl⟩
  show (Cs.pairs (((⟨_, false⟩ : Cs).skip 8).num 1) (((⟨_, false⟩ : Cs).skip 8).skip 1) []).1 = _
  rw [Cs.skip_app (be_len _ _), Cs.num1_b, Cs.skip1_b, hn, hp]
  rfl
theorem mayB_eq {x : Bod} (hx : x.Ok) : x.mayB = x.may := by
 unfold Bod.mayB Bod.may Bod.mayP
 cases hm : x.mayK x.kind.toNat with
 | false => simp
 | true =>
  have hk : 1 ≤ x.kind.toNat ∧ x.kind.toNat ≤ 6 := by
   generalize x.kind.toNat = k at hm
   match k, hm with
   | 0, hm => exact absurd hm (by simp [Bod.mayK])
   | k + 7, hm => exact absurd hm (by simp [Bod.mayK])
   | 1, _ => decide
   | 2, _ => decide
   | 3, _ => decide
   | 4, _ => decide
   | 5, _ => decide
   | 6, _ => decide
  rw [decide_eq_true hk, Bod.E.eqB (back_own hx hm), Bod.eqB_comm x x.own]
  simp only [Bool.true_and, Bool.and_true]
  have hlen : Bod.eqB x.own x = true → x.q.length ≤ 11 := fun h => by
   have hq := Bod.eqB_q h
   by_cases h4 : x.kind.toNat = 4
   ·rw [h4] at hm
    simp only [Bod.mayK, Bool.and_eq_true, decide_eq_true_eq] at hm
    have := quo_len x.q 0 (by omega) hm.2.1
    omega
   ·rw [own_q h4] at hq
    rw [← hq]; exact Nat.zero_le _
  cases he : Bod.eqB x.own x with
  | false => simp
  | true => simp [hlen he]
structure MV where
 m : Msg
 qp : Option Addr
 qc : Nat
def MV.vals (x : MV) : List Value := x.m.vals x.qp x.qc
theorem MV.len (x : MV) : x.vals.length = 121 := rfl
def MV.Good (f : Frag) (x : MV) : Prop := QAt f x.qp x.m.body.q ∧ x.m.body.q.length ≤ 1000000 ∧ x.m.body.Ok
theorem MV.Good.mono {f g : Frag} (h : Le f g) {x : MV} (hx : x.Good f) : x.Good g := ⟨QAt.mono h hx.1, hx.2⟩
section
variable (f : Frag) (F : List HP)
theorem mmay_fn {x : MV} (hx : x.Good f) : Fn Tryz.prog 78 [.agg x.vals.toArray] f F (Ret (.bool x.m.may) f F) := by
 have := may_fn (m := x.m) (qc := x.qc) f F hx.1 (by have := hx.2.1; omega)
 rw [mayB_eq hx.2.2] at this
 exact this
theorem rmmay_fn {x : MV} (hx : x.Good f) : Fn Tryz.prog 54 [.agg x.vals.toArray] f F (Ret (.bool x.m.may) f F) :=
 rmay_fn (m := x.m) (qc := x.qc) f F hx.1 (by have := hx.2.1; omega)
end
theorem HQ.fieldV {P : Program} {base : World} {n : Nat} {L : Env} {f : Frag} {A V : List HP} {q : Post} {l rest : List Oper} {d : Nat} {ty : TypeId} {pos : String} {af : Array Edge} {gd : Option (Nat × Bool)}
  {st : TypeId} {x : Operand} {i : Nat} {fs : List Field} {nm tg pk : String} {ft : TypeId} {fo bo : Nat} {em : Bool} {xs : List Value} {v : Value} {de : TypeDesc} [hu : Und P st (.struct fs.toArray)] (hw : want? l L gd = true)
  (hx : ev? L x = some (.agg xs.toArray)) (hf : nthF fs i = some ⟨nm, ft, fo, em, tg, pk, bo⟩) (he : Und P ft de) (ha : aggD de = false) (hv : nthV xs fo = some v) (hd : Nat.ble (d + 1) n = true) {lst : Lst} {ti : Nat} {tt : List (Nat × Bool)}
  (k : HQ V ⟨lst.setIfInBounds ti true, tt⟩ P base n ((d, v) :: L) f A (.ops l rest q)) : HQ V ⟨lst, (ti, false) :: tt⟩ P base n L f A (.ops l (⟨some d, .field st x i, ty, pos, af, gd⟩ :: rest) q) :=
 HQ.opV hw hd (fun a w hfr _ => by
  rw [nthF_eq] at hf
  rw [nthV_eq] at hv
  have h3 := run_isAgg he w
  simp [execOp, Instr.field, hfr.eval hx, hu.run, hf, asAgg, part, h3, ha, hv]) k
section
variable (f : Frag) (F : List HP)
set_option maxHeartbeats 1600000 in
theorem mtagK_fn {m : Msg} {q : Option Addr} {qc : Nat} (kind : Nat) (hk : m.body.kind.toNat = kind) (f1 f2 f3 : FuncId) [Fun Tryz.prog f1] (hput : PutC f1 kind)
  (hcod : getKV codecsM (kind : Int) = some (codecV f1 f2 f3)) (hq : QAt f q m.body.q) (hm : m.body.mayK kind = true) (hl : m.body.q.length ≤ 11) :
  Fn Tryz.prog 84 [.agg (m.vals q qc).toArray] f F (BytesR m.tagged f F) := by
 have hz : ∀ z, (getKV codecsM (kind : Int)).getD z = codecV f1 f2 f3 := fun z => by rw [hcod]; rfl
 have hkv : Value.int .u8 (m.body.kind.toNat : Nat) = encU8 (kind : Int) := by rw [hk]; rfl
 have htg : m.tagged = [b8 m.origin] ++ depsB m.deps 11 ++ [m.body.kind] ++ m.body.putK kind := by unfold Msg.tagged Bod.put; rw [hk]
 rw [htg]
 clear htg
 refine Fn.enter Tryz.func84 rfl Tryz.ntmps84 rfl (L := [(0, _)]) ⟨rfl, trivial⟩ fun base => ?_
 refine gC ?_
 refine H.box (ls := m.vals q qc) rfl rfl rfl rfl fun mb => ?_
 refine gY ?_
 rw [u8_b8]
 refine H.Bb (out := bytesV [b8 m.origin]) rfl rfl rfl rfl (by decide) (by decide) rfl rfl fun tb => ?_
 refine H.asSlc (k := 1) (sz := 1) rfl (by decide) ?_
 repeat (first | (refine H.Ah (ls := v11 m.deps) rfl rfl rfl (zan (by repeat constructor)) rfl rfl ?_) | ((first | apply H.Aj | apply H.Ap); (iterate 3 exact rfl)) | (apply H.Av; (iterate 3 exact rfl); exact inferInstance; exact rfl) | (first | apply H.seq | apply H.Aq | apply H.nil | apply H.Ao) | (apply H.Bn))
 have hB0l : [b8 m.origin].length = 1 := rfl
 generalize [b8 m.origin] = B0 at hB0l ⊢
 refine H.Aa (.there _ (.here _ _)) ?_
 refine H.Ax (ι := Nat × Option Addr × Nat) (fun i => [(12, .int .i64 (i.1 : Int)), (11, .agg (v11 m.deps).toArray), (3, .slice i.2.1 (B0 ++ depsB m.deps i.1).length i.2.2), (1, .pointer (some ⟨mb, 0, none⟩))]) (fun _ => f)
  (fun i => row mb 47 (m.vals q qc) :: slc i.2.1 (B0 ++ depsB m.deps i.1).length i.2.2 5 1 (bytesV (B0 ++ depsB m.deps i.1)) :: F) (fun i => i.1 ≤ 11) (fun i => 11 - i.1) (0, some ⟨tb, 0, none⟩, 1) (Nat.zero_le _) ⟨rfl, rfl, ?_, rfl, trivial⟩ rfl ?_ fun i hi => ?_
 ·show some (Value.slice _ 1 1) = some (Value.slice _ (B0 ++ []).length 1)
  rw [List.append_nil, hB0l]
 ·show _ = _ :: slc _ (B0 ++ []).length 1 _ 1 (bytesV (B0 ++ [])) :: F
  rw [List.append_nil, hB0l]
 ·obtain ⟨i, p', c'⟩ := i
  have hi : i ≤ 11 := hi
  show H _ _ _ [(12, .int .i64 (i : Int)), _, (3, .slice p' (B0 ++ depsB m.deps i).length c'), _] _ (_ :: slc p' (B0 ++ depsB m.deps i).length c' _ 1 (bytesV (B0 ++ depsB m.deps i)) :: F) _
  have hal : (B0 ++ depsB m.deps i).length = 1 + 8 * i := by rw [List.length_append, depsB_len, hB0l]
  by_cases hlt : i < 11
  ·have e1 : B0 ++ depsB m.deps (i + 1) = (B0 ++ depsB m.deps i) ++ be 8 (m.deps i) := by simp only [depsB, List.append_assoc]
   have hg := zam m.deps hlt
   generalize B0 ++ depsB m.deps i = acc at hal e1 ⊢
   repeat (first | ((first | apply H.Aj | apply H.Ap); (iterate 3 exact rfl)) | (first | apply H.seq | apply H.Aq | apply H.nil | apply H.Ao) | ((apply H.cmp); (iterate 5 exact rfl)) | (first | apply H.Bk | apply H.Bn) | (apply H.Bt; exact rfl; (omega)) | (apply H.indexV (i := i); (iterate 4 exact rfl); exact hlt; exact rfl; exact hg; exact rfl))
   refine H.Bq (.there _ (.here _ _ _)) (by omega) fun b1 hp => ?_
   subst hp
   refine H.Ay rfl rfl rfl (word_fn (l := acc) f _ (Src.slcS (by repeat constructor) (by rw [zaf]; exact (Nat.mul_one _).symm)) (fun h => by cases h) (by omega)) fun p1 c1 => ?_
   refine gI ?_
   refine H.Ab (x := slc (some ⟨b1, 0, none⟩) _ c' _ _ _) (by repeat constructor) ?_
   refine H.Aa (.there _ (.here _ _)) ?_
   refine H.Am (i + 1, p1, c1) (by show i + 1 ≤ 11; omega) (by show 11 - (i + 1) < 11 - i; omega) ⟨rfl, rfl, ?_, rfl, trivial⟩ rfl ?_
   ·show some _ = some (Value.slice p1 (B0 ++ depsB m.deps (i + 1)).length c1)
    rw [e1]
   ·show _ = _ :: slc p1 (B0 ++ depsB m.deps (i + 1)).length c1 _ 1 (bytesV (B0 ++ depsB m.deps (i + 1))) :: F
    rw [e1]
  ·have hi11 : i = 11 := by omega
   subst hi11
   generalize hacc : B0 ++ depsB m.deps 11 = acc at hal ⊢
   refine gV ?_
   refine H.Az (by kernel_rfl) (by decide +kernel) (by repeat (first | exact zab | refine zaa ?_ | refine zac ?_ | refine zae ?_)) (S := [_]) rfl ?_
   refine HB.Ag [(1, false), (2, false), (3, false), (6, false), (7, false), (8, false), (9, false), (12, false), (13, false)] 7 (by kernel_rfl) ?_
   repeat (first | (refine HQ.Ah (ls := m.body.vals q qc) rfl rfl rfl (msg_body (by repeat constructor)) rfl rfl ?_) | ((apply HQ.Aj); (iterate 3 exact rfl)) | (apply HQ.Av; (iterate 3 exact rfl); exact inferInstance; exact rfl) | (apply HQ.Af; (iterate 3 exact rfl); apply Rd1.ofRow; (repeat (exact .here _ _ _)); (iterate 2 exact rfl)))
   refine HQ.Ae rfl ?_
   refine HB.ev2 (i := 0) (j := 10) (by kernel_rfl) rfl rfl ?_ ?_
   ·refine H.callE rfl rfl rfl (codecs_fn f _) fun cb => ?_
    refine gC ?_
    refine H.Aa (.there _ (.here _ _)) ?_
    refine H.on [_] (Le.refl _) rfl ?_
    refine HB.Ag [(4, false), (5, false)] 4 (by kernel_rfl) ?_
    refine HQ.lookup (enc := encU8) (k := (kind : Int)) rfl rfl rfl (by repeat constructor) hkv (hz _) rfl ?_
    refine HQ.fieldV (xs := codecCells f1 f2 f3) rfl rfl rfl inferInstance rfl rfl rfl ?_
    refine HQ.Ae rfl ?_
    refine HB.ev1 (i := 10) (by kernel_rfl) rfl ?_
    refine H.Bb (out := bytesV [m.body.kind]) rfl rfl rfl rfl (by decide) (by decide) rfl rfl fun tb2 => ?_
    refine gC ?_
    refine H.Aa (x := mp _ _ _) (by repeat constructor) ?_
    refine H.Aa (x := row mb _ _) (by repeat constructor) ?_
    refine H.on0 rfl ?_
    refine HB.ev1 (i := 11) (by kernel_rfl) rfl ?_
    refine H.Bd (m := 1) (xs := bytesV acc) rfl rfl rfl rfl rfl (fun p' c' => (by repeat constructor)) (Src.slice (Rd.ofRow (by repeat constructor)) rfl) (zaj _) rfl (by omega) (by omega) fun p2 c2 => ?_
    have e2 : (acc ++ [m.body.kind]).length = acc.length + 1 := by rw [List.length_append]; rfl
    have e3 : bytesV (acc ++ [m.body.kind]) = bytesV acc ++ bytesV [m.body.kind] := zag _ _
    rw [← e3, ← e2]
    generalize acc ++ [m.body.kind] = acc2 at e2 ⊢
    refine H.Ab (x := row tb2 _ _) (by repeat constructor) ?_
    refine gC ?_
    refine H.Aa (x := mp _ _ _) (by repeat constructor) ?_
    refine H.Aa (x := row mb _ _) (by repeat constructor) ?_
    refine H.on0 rfl ?_
    refine HB.ev1 (i := 14) (by kernel_rfl) rfl ?_
    refine H.Aa (x := slc p2 _ _ _ _ _) (by repeat constructor) ?_
    refine H.Bq (.here _ _ _) (by omega) fun b1 hp => ?_
    subst hp
    refine H.callVE2 (fs := []) (cs := []) (vs := [.slice (some ⟨b1, 0, none⟩) acc2.length c2, .agg (m.body.vals q qc).toArray]) rfl rfl rfl rfl (hput f _ m.body q qc _ c2 acc2 (Src.slcS (.here _ _ _) (by rw [zaf]; exact (Nat.mul_one _).symm)) (fun h => by cases h) hq hm hl (by omega)) fun p3 c3 => ?_
    refine gC ?_
    refine H.Aa (x := mp _ _ _) (by repeat constructor) ?_
    refine H.Aa (x := row mb _ _) (by repeat constructor) ?_
    refine H.on0 rfl ?_
    refine HB.Ag [(15, false)] 0 (by kernel_rfl) ?_
    refine gD ?_
    refine HQ.Ae rfl ?_
    refine HB.Al (by kernel_rfl) ?_
    refine gf ?_
    refine H.Ab (x := row mb _ _) (by repeat constructor) ?_
    refine H.Ab (x := mp _ _ _) (by repeat constructor) ?_
    refine H.Ab (x := slc (some ⟨b1, 0, none⟩) _ _ _ _ _) (by repeat constructor) ?_
    exact H.Ac rfl rfl (fun _ h => h) ⟨p3, c3, rfl, rfl, rfl⟩
   ·refine H.Bb (out := bytesV [m.body.kind]) rfl rfl rfl rfl (by decide) (by decide) rfl rfl fun tb2 => ?_
    refine gC ?_
    refine H.Aa (x := row mb _ _) (by repeat constructor) ?_
    refine H.on0 rfl ?_
    refine HB.ev1 (i := 0) (by kernel_rfl) rfl ?_
    refine H.callE rfl rfl rfl (codecs_fn f _) fun cb => ?_
    refine gC ?_
    refine H.Aa (.there _ (.here _ _)) ?_
    refine H.on [_] (Le.refl _) rfl ?_
    refine HB.Ag [(4, false), (5, false)] 3 (by kernel_rfl) ?_
    refine HQ.lookup (enc := encU8) (k := (kind : Int)) rfl rfl rfl (by repeat constructor) hkv (hz _) rfl ?_
    refine HQ.fieldV (xs := codecCells f1 f2 f3) rfl rfl rfl inferInstance rfl rfl rfl ?_
    refine HQ.Ae rfl ?_
    refine HB.ev1 (i := 11) (by kernel_rfl) rfl ?_
    refine H.Bd (m := 1) (xs := bytesV acc) rfl rfl rfl rfl rfl (fun p' c' => (by repeat constructor)) (Src.slice (Rd.ofRow (by repeat constructor)) rfl) (zaj _) rfl (by omega) (by omega) fun p2 c2 => ?_
    have e2 : (acc ++ [m.body.kind]).length = acc.length + 1 := by rw [List.length_append]; rfl
    have e3 : bytesV (acc ++ [m.body.kind]) = bytesV acc ++ bytesV [m.body.kind] := zag _ _
    rw [← e3, ← e2]
    generalize acc ++ [m.body.kind] = acc2 at e2 ⊢
    refine H.Ab (x := row tb2 _ _) (by repeat constructor) ?_
    refine gC ?_
    refine H.Aa (x := mp _ _ _) (by repeat constructor) ?_
    refine H.Aa (x := row mb _ _) (by repeat constructor) ?_
    refine H.on0 rfl ?_
    refine HB.ev1 (i := 14) (by kernel_rfl) rfl ?_
    refine H.Aa (x := slc p2 _ _ _ _ _) (by repeat constructor) ?_
    refine H.Bq (.here _ _ _) (by omega) fun b1 hp => ?_
    subst hp
    refine H.callVE2 (fs := []) (cs := []) (vs := [.slice (some ⟨b1, 0, none⟩) acc2.length c2, .agg (m.body.vals q qc).toArray]) rfl rfl rfl rfl (hput f _ m.body q qc _ c2 acc2 (Src.slcS (.here _ _ _) (by rw [zaf]; exact (Nat.mul_one _).symm)) (fun h => by cases h) hq hm hl (by omega)) fun p3 c3 => ?_
    refine gC ?_
    refine H.Aa (x := mp _ _ _) (by repeat constructor) ?_
    refine H.Aa (x := row mb _ _) (by repeat constructor) ?_
    refine H.on0 rfl ?_
    refine HB.Ag [(15, false)] 0 (by kernel_rfl) ?_
    refine gD ?_
    refine HQ.Ae rfl ?_
    refine HB.Al (by kernel_rfl) ?_
    refine gf ?_
    refine H.Ab (x := row mb _ _) (by repeat constructor) ?_
    refine H.Ab (x := mp _ _ _) (by repeat constructor) ?_
    refine H.Ab (x := slc (some ⟨b1, 0, none⟩) _ _ _ _ _) (by repeat constructor) ?_
    exact H.Ac rfl rfl (fun _ h => h) ⟨p3, c3, rfl, rfl, rfl⟩
theorem mtagged_fn {m : Msg} {q : Option Addr} {qc : Nat} (hq : QAt f q m.body.q) (hm : m.may = true) :
  Fn Tryz.prog 84 [.agg (m.vals q qc).toArray] f F (BytesR m.tagged f F) := by
 have h1 := (Bod.may_spec (Msg.may_body hm)).2.2
 have h2 := Bod.may_q (Msg.may_body hm)
 generalize hk : m.body.kind.toNat = kind at h1
 match kind, hk, h1 with
 | 1, hk, h1 => exact mtagK_fn f F 1 hk _ _ _ put1 (by rfl) hq h1 h2
 | 2, hk, h1 => exact mtagK_fn f F 2 hk _ _ _ put2 (by rfl) hq h1 h2
 | 3, hk, h1 => exact mtagK_fn f F 3 hk _ _ _ put3 (by rfl) hq h1 h2
 | 4, hk, h1 => exact mtagK_fn f F 4 hk _ _ _ put4 (by rfl) hq h1 h2
 | 5, hk, h1 => exact mtagK_fn f F 5 hk _ _ _ put5 (by rfl) hq h1 h2
 | 6, hk, h1 => exact mtagK_fn f F 6 hk _ _ _ put6 (by rfl) hq h1 h2
 | 0, _, h1 => exact absurd h1 (by simp [Bod.mayK])
 | k + 7, _, h1 => exact absurd h1 (by simp [Bod.mayK])
end
def Msg.right (m : Msg) : Bool := m.may && eq32 m.tag (Sha.numbered m.origin m.number m.tagged)
theorem putK_max (x : Bod) (kind : Nat) (hm : x.mayK kind = true) (hq : x.q.length ≤ 11) : (x.putK kind).length ≤ 900 := by
 match kind, hm with
 | 1, hm =>
  obtain ⟨_, _, _, _, ⟨k1, k2⟩, k3, k4⟩ := of_decide_eq_true hm
  show (be 8 x.view ++ x.req.bytes ++ b32L x.req.tag).length ≤ 900
  rw [List.length_append, List.length_append, be_len, Req.bytes_len]
  show 8 + _ + 32 ≤ 900
  omega
 | 2, _ => simp [Bod.putK, be_len]
 | 3, _ => simp [Bod.putK, be_len]
 | 4, _ =>
  show (be 8 x.view ++ [b8 x.q.length] ++ x.q.flatMap pairB).length ≤ 900
  rw [List.length_append, List.length_append, be_len, flat_pairB_len]
  show 8 + 1 + _ ≤ 900
  omega
 | 5, _ => simp [Bod.putK, be_len]
 | 6, _ => simp [Bod.putK, be_len, b32L]
theorem Msg.tagged_max {m : Msg} (h : m.may = true) : m.tagged.length ≤ 1024 := by
 have h1 := Bod.may_spec (Msg.may_body h)
 have h2 := Bod.may_q (Msg.may_body h)
 have h3 := putK_max m.body m.body.kind.toNat h1.2.2 h2
 unfold Msg.tagged Bod.put
 simp only [List.length_append, List.length_cons, List.length_nil, depsB_len]
 omega
theorem Msg.may_outer {m : Msg} (h : m.may = true) : m.outer := by
 unfold Msg.may at h
 simp only [Bool.and_eq_true, decide_eq_true_eq] at h
 exact h.1
theorem msg_tag {f : Frag} {A A' : List HP} {mb : Nat} {T : TypeId} {m : Msg} {q : Option Addr} {qc : Nat} (h : At A (row mb T (m.vals q qc)) A' (row mb T (m.vals q qc))) : Rd f A mb (0 + 89) (b32 m.tag) := by
 have h1 := Rd.ofRow (f := f) h
 have e : m.vals q qc = ([.int .i64 m.origin, .int .u64 m.number] ++ v11 m.deps ++ m.body.vals q qc) ++ b32 m.tag ++ [] := by unfold Msg.vals; rw [List.append_nil]
 rw [e] at h1
 exact h1.sub rfl
section
variable (f : Frag) (F : List HP)
set_option maxHeartbeats 1600000 in
theorem mright_fn (htab : TabAt f) {x : MV} (hx : x.Good f) : Fn Tryz.prog 58 [.agg x.vals.toArray] f F (Ret (.bool x.m.right) f F) := by
 have hmay := fun G => mmay_fn f G hx
 unfold Msg.right
 by_cases hm : x.m.may = true
 ·rw [hm] at hmay ⊢
  rw [Bool.true_and]
  have htg := fun G => mtagged_fn (qc := x.qc) f G hx.1 hm
  have htl := Msg.tagged_max hm
  have hou := Msg.may_outer hm
  generalize x.m.tagged = tg at htg htl ⊢
  obtain ⟨o1, o2, o3, o4, _⟩ := hou
  refine Fn.enter Tryz.func58 rfl Tryz.ntmps58 rfl (L := [(0, _)]) ⟨rfl, trivial⟩ fun base => ?_
  refine gC ?_
  refine H.box (ls := x.vals) rfl rfl rfl rfl fun mb => ?_
  refine gO ?_
  refine H.Az (by kernel_rfl) (by decide +kernel) (by repeat (first | exact zab | refine zaa ?_ | refine zac ?_ | refine zae ?_)) (S := [_]) rfl ?_
  refine HB.Ag [(0, false)] 13 (by kernel_rfl) ?_
  repeat ((refine HQ.Ah (ls := x.vals) rfl rfl rfl (Rd.ofRow (by repeat constructor)) rfl rfl ?_))
  refine HQ.Ae rfl ?_
  refine HB.ev1 (i := 1) (by kernel_rfl) rfl ?_
  refine H.Ad rfl rfl rfl (hmay _) ?_
  refine gC ?_
  refine H.on0 rfl ?_
  refine HB.Ag [(2, false), (3, false), (4, false), (5, false), (6, false), (7, false), (9, false), (10, false)] 4 (by kernel_rfl) ?_
  repeat (first | (refine HQ.Ah (ls := x.vals) rfl rfl rfl (Rd.ofRow (by repeat constructor)) rfl rfl ?_) | (refine HQ.Ah (ls := b32 x.m.tag) rfl rfl rfl (msg_tag (m := x.m) (q := x.qp) (qc := x.qc) (by repeat constructor)) rfl rfl ?_) | ((apply HQ.Aj); (iterate 3 exact rfl)) | (apply HQ.Av; (iterate 3 exact rfl); exact inferInstance; exact rfl) | (apply HQ.Af; (iterate 3 exact rfl); apply Rd1.ofRow; (repeat (exact .here _ _ _)); (iterate 2 exact rfl)))
  refine HQ.Ae rfl ?_
  refine HB.ev1 (i := 8) (by kernel_rfl) rfl ?_
  skip
  refine H.Ay rfl rfl rfl (htg _) fun p1 c1 => ?_
  refine gC ?_
  refine H.Aa (x := row mb _ _) (by repeat constructor) ?_
  refine H.on0 rfl ?_
  refine HB.ev1 (i := 11) (by kernel_rfl) rfl ?_
  skip
  refine H.Ad rfl rfl rfl (ucheck_fn f _ htab o1 o2 o3 o4 (fun G => Src.append (Src.slcS (by repeat constructor) (by rw [zaf]; exact (Nat.mul_one _).symm))) htl) ?_
  refine gC ?_
  refine H.on0 rfl ?_
  refine HB.Ag [(12, false), (13, false)] 0 (by kernel_rfl) ?_
  refine gN ?_
  refine HQ.Ae rfl ?_
  refine HB.Al (by kernel_rfl) ?_
  refine gf ?_
  refine H.Ab (x := row mb _ _) (by repeat constructor) ?_
  refine H.Ab (x := slc p1 _ _ _ _ _) (by repeat constructor) ?_
  exact H.Ac rfl rfl (fun _ h => h) ⟨rfl, rfl, rfl⟩
 ·rw [Bool.eq_false_iff.2 hm] at hmay ⊢
  rw [Bool.false_and]
  refine Fn.enter Tryz.func58 rfl Tryz.ntmps58 rfl (L := [(0, _)]) ⟨rfl, trivial⟩ fun base => ?_
  refine gC ?_
  refine H.box (ls := x.vals) rfl rfl rfl rfl fun mb => ?_
  refine gO ?_
  refine H.Az (by kernel_rfl) (by decide +kernel) (by repeat (first | exact zab | refine zaa ?_ | refine zac ?_ | refine zae ?_)) (S := [_]) rfl ?_
  refine HB.Ag [(0, false)] 13 (by kernel_rfl) ?_
  repeat ((refine HQ.Ah (ls := x.vals) rfl rfl rfl (Rd.ofRow (by repeat constructor)) rfl rfl ?_))
  refine HQ.Ae rfl ?_
  refine HB.ev1 (i := 1) (by kernel_rfl) rfl ?_
  refine H.Ad rfl rfl rfl (hmay _) ?_
  refine gC ?_
  refine H.on0 rfl ?_
  refine HB.Ag [(2, false), (3, false), (4, false), (5, false), (6, false), (7, false), (9, false), (10, false)] 4 (by kernel_rfl) ?_
  refine gN ?_
  refine HQ.Ae rfl ?_
  refine HB.ev1 (i := 8) (by kernel_rfl) rfl ?_
  refine gF ?_
  refine H.on0 rfl ?_
  refine HB.ev1 (i := 11) (by kernel_rfl) rfl ?_
  refine gF ?_
  refine H.on0 rfl ?_
  refine HB.Ag [(12, false), (13, false)] 0 (by kernel_rfl) ?_
  refine gN ?_
  refine HQ.Ae rfl ?_
  refine HB.Al (by kernel_rfl) ?_
  refine gf ?_
  refine H.Ab (x := row mb _ _) (by repeat constructor) ?_
  exact H.Ac rfl rfl (fun _ h => h) ⟨rfl, rfl, rfl⟩
end
def Msg.eqB (a b : Msg) : Bool := decide (a.origin = b.origin) && (decide (a.number = b.number) && (eqC (v11 a.deps) (v11 b.deps) && (Bod.eqB a.body b.body && eqC (b32 a.tag) (b32 b.tag))))
theorem eqv_refl (v : Value) (h : (match v with | .bool _ | .int _ _ | .string _ => true | _ => false) = true) : eqv v v = true := by
 cases v <;> simp at h <;> simp [eqv]
 rename_i s
 rw [beq_toListBytes]
 simp
def plainC : List Value → Bool
 | [] => true
 | v :: r => (match v with | .bool _ | .int _ _ | .string _ => true | _ => false) && plainC r
theorem zbi : ∀ {l : List Value}, plainC l = true → eqC l l = true
 | [], _ => rfl
 | v :: r, h => by
  simp only [plainC, Bool.and_eq_true] at h
  simp only [eqC, eqv_refl v h.1, zbi h.2, Bool.and_true]
theorem Bod.eqB_refl (x : Bod) : Bod.eqB x x = true := by
 unfold Bod.eqB
 rw [zbi (l := x.req.vals) rfl, zbi (l := b32 x.dig) rfl]
 simp
theorem Msg.eqB_refl (m : Msg) : Msg.eqB m m = true := by
 unfold Msg.eqB
 rw [zbi (l := v11 m.deps) rfl, zbi (l := b32 m.tag) rfl, Bod.eqB_refl]
 simp
theorem eq32_refl (t : Nat → UInt8) : eq32 t t = true := zbi (l := b32 t) rfl
section
variable (f : Frag) (F : List HP)
theorem rsameM_fn {x y : MV} (hx : x.Good f) (hy : y.Good f) : Fn Tryz.prog 30 [.agg x.vals.toArray, .agg y.vals.toArray] f F (Ret (.bool (Msg.eqB x.m y.m)) f F) := by
 by_cases h1 : x.m.origin = y.m.origin
 ·skip
  by_cases h2 : x.m.number = y.m.number
  ·skip
   by_cases h3 : eqC (v11 x.m.deps) (v11 y.m.deps) = true
   ·skip
    by_cases h4 : Bod.eqB x.m.body y.m.body = true
    ·skip
     try simp only [Bool.not_eq_true] at *
     refine Fn.enter Tryz.func30 rfl Tryz.ntmps30 rfl (L := [(0, _), (1, _)]) ⟨rfl, rfl, trivial⟩ fun base => ?_
     repeat (first | ((first | apply H.Aj | apply H.Ap); (iterate 3 exact rfl)) | (apply H.Av; (iterate 3 exact rfl); exact inferInstance; exact rfl) | (apply H.Af; (iterate 3 exact rfl); apply Rd1.ofRow; (repeat (first | exact .here _ _ _ | apply At.there)); (iterate 2 exact rfl)) | (first | apply H.seq | apply H.Aq | apply H.nil | apply H.Ao) | ((apply H.cmp); (iterate 5 exact rfl)) | (apply H.Bh; (iterate 4 exact rfl)) | (apply H.ret) | (apply H.Bl; (iterate 3 exact rfl); (assumption)) | ((apply H.gtrue); (iterate 3 exact rfl); assumption) | (refine H.box (ls := x.vals) rfl rfl rfl rfl fun ab => ?_) | (refine H.box (ls := y.vals) rfl rfl rfl rfl fun bb => ?_) | (refine H.Ah (ls := v11 x.m.deps) rfl rfl rfl (zan (by repeat constructor)) rfl rfl ?_) | (refine H.Ah (ls := v11 y.m.deps) rfl rfl rfl (zan (by repeat constructor)) rfl rfl ?_) | (refine H.aggEq (xs := v11 x.m.deps) (ys := v11 y.m.deps) (D := 4) rfl rfl rfl rfl (by kernel_rfl) (by kernel_rfl) (by kernel_rfl) (by kernel_rfl) (by decide) rfl rfl ?_) | (refine H.Ah (ls := x.m.body.vals x.qp x.qc) rfl rfl rfl (msg_body (by repeat constructor)) rfl rfl ?_) | (refine H.Ah (ls := y.m.body.vals y.qp y.qc) rfl rfl rfl (msg_body (by repeat constructor)) rfl rfl ?_) | (refine H.Ad rfl rfl rfl (rsame_fn f _ hx.1 hy.1 (by have := hx.2.1; omega)) ?_) | (refine H.Ah (ls := b32 x.m.tag) rfl rfl rfl (msg_tag (by repeat constructor)) rfl rfl ?_) | (refine H.Ah (ls := b32 y.m.tag) rfl rfl rfl (msg_tag (by repeat constructor)) rfl rfl ?_) | (refine H.aggEq (xs := b32 x.m.tag) (ys := b32 y.m.tag) (D := 4) rfl rfl rfl rfl (by kernel_rfl) (by kernel_rfl) (by kernel_rfl) (by kernel_rfl) (by decide) rfl rfl ?_))
     refine H.Ab (.here _ _) ?_
     refine H.Ab (.here _ _) ?_
     refine H.Ac rfl rfl (fun _ h => h) ⟨?_, rfl, rfl⟩
     simp [Msg.eqB, *]
    ·skip
     try simp only [Bool.not_eq_true] at *
     refine Fn.enter Tryz.func30 rfl Tryz.ntmps30 rfl (L := [(0, _), (1, _)]) ⟨rfl, rfl, trivial⟩ fun base => ?_
     repeat (first | ((first | apply H.Aj | apply H.Ap); (iterate 3 exact rfl)) | (apply H.Av; (iterate 3 exact rfl); exact inferInstance; exact rfl) | (apply H.Af; (iterate 3 exact rfl); apply Rd1.ofRow; (repeat (first | exact .here _ _ _ | apply At.there)); (iterate 2 exact rfl)) | (first | apply H.seq | apply H.Aq | apply H.nil | apply H.Ao) | ((apply H.cmp); (iterate 5 exact rfl)) | (apply H.Bp; (iterate 2 exact rfl)) | (apply H.Bh; (iterate 4 exact rfl)) | ((apply H.Bf); (iterate 4 exact rfl)) | (apply H.ret) | (apply H.Bl; (iterate 3 exact rfl); (assumption)) | ((apply H.gtrue); (iterate 3 exact rfl); assumption) | (apply H.gfalse; (iterate 3 exact rfl); assumption) | (refine H.box (ls := x.vals) rfl rfl rfl rfl fun ab => ?_) | (refine H.box (ls := y.vals) rfl rfl rfl rfl fun bb => ?_) | (refine H.Ah (ls := v11 x.m.deps) rfl rfl rfl (zan (by repeat constructor)) rfl rfl ?_) | (refine H.Ah (ls := v11 y.m.deps) rfl rfl rfl (zan (by repeat constructor)) rfl rfl ?_) | (refine H.aggEq (xs := v11 x.m.deps) (ys := v11 y.m.deps) (D := 4) rfl rfl rfl rfl (by kernel_rfl) (by kernel_rfl) (by kernel_rfl) (by kernel_rfl) (by decide) rfl rfl ?_) | (refine H.Ah (ls := x.m.body.vals x.qp x.qc) rfl rfl rfl (msg_body (by repeat constructor)) rfl rfl ?_) | (refine H.Ah (ls := y.m.body.vals y.qp y.qc) rfl rfl rfl (msg_body (by repeat constructor)) rfl rfl ?_) | (refine H.Ad rfl rfl rfl (rsame_fn f _ hx.1 hy.1 (by have := hx.2.1; omega)) ?_))
     refine H.Ab (.here _ _) ?_
     refine H.Ab (.here _ _) ?_
     refine H.Ac rfl rfl (fun _ h => h) ⟨?_, rfl, rfl⟩
     simp [Msg.eqB, *]
   ·skip
    try simp only [Bool.not_eq_true] at *
    refine Fn.enter Tryz.func30 rfl Tryz.ntmps30 rfl (L := [(0, _), (1, _)]) ⟨rfl, rfl, trivial⟩ fun base => ?_
    repeat (first | ((first | apply H.Aj | apply H.Ap); (iterate 3 exact rfl)) | (apply H.Av; (iterate 3 exact rfl); exact inferInstance; exact rfl) | (apply H.Af; (iterate 3 exact rfl); apply Rd1.ofRow; (repeat (first | exact .here _ _ _ | apply At.there)); (iterate 2 exact rfl)) | (first | apply H.seq | apply H.Aq | apply H.nil | apply H.Ao) | ((apply H.cmp); (iterate 5 exact rfl)) | (apply H.Bp; (iterate 2 exact rfl)) | (apply H.Bh; (iterate 4 exact rfl)) | ((apply H.Bf); (iterate 4 exact rfl)) | (apply H.ret) | (apply H.Bl; (iterate 3 exact rfl); (assumption)) | (apply H.gfalse; (iterate 3 exact rfl); assumption) | (refine H.box (ls := x.vals) rfl rfl rfl rfl fun ab => ?_) | (refine H.box (ls := y.vals) rfl rfl rfl rfl fun bb => ?_) | (refine H.Ah (ls := v11 x.m.deps) rfl rfl rfl (zan (by repeat constructor)) rfl rfl ?_) | (refine H.Ah (ls := v11 y.m.deps) rfl rfl rfl (zan (by repeat constructor)) rfl rfl ?_) | (refine H.aggEq (xs := v11 x.m.deps) (ys := v11 y.m.deps) (D := 4) rfl rfl rfl rfl (by kernel_rfl) (by kernel_rfl) (by kernel_rfl) (by kernel_rfl) (by decide) rfl rfl ?_))
    refine H.Ab (.here _ _) ?_
    refine H.Ab (.here _ _) ?_
    refine H.Ac rfl rfl (fun _ h => h) ⟨?_, rfl, rfl⟩
    simp [Msg.eqB, *]
  ·skip
   try simp only [Bool.not_eq_true] at *
   refine Fn.enter Tryz.func30 rfl Tryz.ntmps30 rfl (L := [(0, _), (1, _)]) ⟨rfl, rfl, trivial⟩ fun base => ?_
   repeat (first | ((first | apply H.Aj | apply H.Ap); (iterate 3 exact rfl)) | (apply H.Av; (iterate 3 exact rfl); exact inferInstance; exact rfl) | (apply H.Af; (iterate 3 exact rfl); apply Rd1.ofRow; (repeat (first | exact .here _ _ _ | apply At.there)); (iterate 2 exact rfl)) | (first | apply H.seq | apply H.Aq | apply H.nil | apply H.Ao) | ((apply H.cmp); (iterate 5 exact rfl)) | (apply H.Bp; (iterate 2 exact rfl)) | (apply H.Bh; (iterate 4 exact rfl)) | ((apply H.Bf); (iterate 4 exact rfl)) | (apply H.ret) | (apply H.Bl; (iterate 3 exact rfl); (assumption)) | (apply H.gno; (iterate 3 exact rfl); (assumption)) | (refine H.box (ls := x.vals) rfl rfl rfl rfl fun ab => ?_) | (refine H.box (ls := y.vals) rfl rfl rfl rfl fun bb => ?_))
   refine H.Ab (.here _ _) ?_
   refine H.Ab (.here _ _) ?_
   refine H.Ac rfl rfl (fun _ h => h) ⟨?_, rfl, rfl⟩
   simp [Msg.eqB, *]
 ·skip
  try simp only [Bool.not_eq_true] at *
  refine Fn.enter Tryz.func30 rfl Tryz.ntmps30 rfl (L := [(0, _), (1, _)]) ⟨rfl, rfl, trivial⟩ fun base => ?_
  repeat (first | ((first | apply H.Aj | apply H.Ap); (iterate 3 exact rfl)) | (apply H.Av; (iterate 3 exact rfl); exact inferInstance; exact rfl) | (apply H.Af; (iterate 3 exact rfl); apply Rd1.ofRow; (repeat (first | exact .here _ _ _ | apply At.there)); (iterate 2 exact rfl)) | (first | apply H.seq | apply H.Aq | apply H.nil | apply H.Ao) | ((apply H.cmp); (iterate 5 exact rfl)) | (apply H.Bp; (iterate 2 exact rfl)) | ((apply H.Bf); (iterate 4 exact rfl)) | (apply H.ret) | (apply H.gno; (iterate 3 exact rfl); (assumption)) | (refine H.box (ls := x.vals) rfl rfl rfl rfl fun ab => ?_) | (refine H.box (ls := y.vals) rfl rfl rfl rfl fun bb => ?_))
  refine H.Ab (.here _ _) ?_
  refine H.Ab (.here _ _) ?_
  refine H.Ac rfl rfl (fun _ h => h) ⟨?_, rfl, rfl⟩
  simp [Msg.eqB, *]
end
end Go.Proofs.YtoigpgdmignaoaaGreatDoor

namespace Go.Proofs.YtoigpgdmignaoaaGreatDoor
open Go Go.ChangeShapes Go.WideShapes Go.RowKit Go.Deep
/-! ### Cells of arrays, strings and structs -/
theorem pieces_one : ∀ (n : Nat) (cs : List Value) (g : Nat → Value), cs.length = n → (∀ i, i < n → (cs.drop i).take 1 = [g i]) → cs = (List.range n).map g := by
 intro n cs g hl h
 apply List.ext_getElem?
 intro i
 rw [List.getElem?_map]
 by_cases hi : i < n
 ·rw [List.getElem?_range hi]
  have h1 := congrArg (fun l => l[0]?) (h i hi)
  simp only [List.getElem?_take, List.getElem?_drop] at h1
  simpa using h1
 ·rw [List.getElem?_eq_none (by omega), List.getElem?_eq_none (by simpa using hi)]; rfl
theorem Reads.ints {P : Program} {W : World} {t e : TypeId} {n : Nat} {k : IntKind} {cs : List Value} (ht : P.underlying t = some (.array n e)) (he : P.underlying e = some (.int k)) (h1 : P.cellsOf e = 1) (hn : P.cellsOf t = n) (h : Reads P W t cs) :
  ∃ d : Nat → Int, cs = (List.range n).map (fun i => .int k (d i)) ∧ ∀ i, i < n → k.min ≤ d i ∧ d i ≤ k.max := by
 obtain ⟨H', enc, b, sp, hd, fu, x, h⟩ := h
 obtain ⟨xs, m, rfl, rfl, hlen, hl, hel⟩ := DataW.trod_array ht h
 have key : ∀ i, ∃ z, i < n → (cs.drop i).take 1 = [.int k z] ∧ k.min ≤ z ∧ z ≤ k.max := fun i => by
  by_cases hi : i < n
  ·have h2 := hel i hi
   rw [h1, Nat.mul_one, List.getElem?_eq_getElem (by omega)] at h2
   have h3 : Reads P W e ((cs.drop i).take 1) := ⟨H', enc, b, sp, hd, m, _, h2⟩
   obtain ⟨z, e1, e2⟩ := h3.int he
   exact ⟨z, fun _ => ⟨e1, e2⟩⟩
  ·exact ⟨0, fun h => absurd h hi⟩
 refine ⟨fun i => (key i).choose, pieces_one n cs (fun i => .int k (key i).choose) (by rw [hlen, hn]) fun i hi => ((key i).choose_spec hi).1, fun i hi => ((key i).choose_spec hi).2⟩
def AllReads (P : Program) (W : World) : List TypeId → List (List Value) → Prop
 | [], [] => True
 | t :: ts, p :: ps => Reads P W t p ∧ AllReads P W ts ps
 | _, _ => False
def contigB (P : Program) (end_ : Nat) : List Field → Nat → Bool
 | [], a => Nat.beq a end_
 | f :: r, a => Nat.beq f.offset a && contigB P end_ r (a + P.cellsOf f.type)
theorem parts_of {P : Program} {W : World} {cs : List Value} {m : Nat} (hm : cs.length = m) : ∀ (l : List Field) (a : Nat), (∀ f ∈ l, Reads P W f.type ((cs.drop f.offset).take (P.cellsOf f.type))) → contigB P m l a = true →
  ∃ ps : List (List Value), cs.drop a = ps.flatten ∧ AllReads P W (l.map (·.type)) ps
 | [], a, _, hc => ⟨[], by
   have : a = m := Nat.eq_of_beq_eq_true hc
   rw [List.drop_eq_nil_of_le (by omega)]; rfl, trivial⟩
 | f :: r, a, h, hc => by
  simp only [contigB, Bool.and_eq_true] at hc
  have e : f.offset = a := Nat.eq_of_beq_eq_true hc.1
  obtain ⟨ps, e1, e2⟩ := parts_of hm r (a + P.cellsOf f.type) (fun x hx => h x (by simp [hx])) hc.2
  have h0 := h f (by simp)
  rw [e] at h0
  refine ⟨(cs.drop a).take (P.cellsOf f.type) :: ps, ?_, h0, e2⟩
  rw [List.flatten_cons, ← e1, ← List.drop_drop, List.take_append_drop]
theorem Reads.parts {P : Program} {W : World} {t : TypeId} {cs : List Value} {fs : List Field} (ht : P.underlying t = some (.struct fs.toArray)) (hc : contigB P (P.cellsOf t) fs 0 = true) (h : Reads P W t cs) :
  ∃ ps : List (List Value), cs = ps.flatten ∧ AllReads P W (fs.map (·.type)) ps := by
 obtain ⟨h1, h2⟩ := h.struct ht
 obtain ⟨ps, e1, e2⟩ := parts_of (P := P) (W := W) h1 fs 0 (fun f hf => by
  obtain ⟨i, hi⟩ := List.getElem?_of_mem hf
  exact h2 i f (by simpa using hi)) hc
 exact ⟨ps, by simpa using e1, e2⟩
/-! ### Messages, packets, steps -/
theorem u8_back {z : Int} (h : IntKind.min .u8 ≤ z ∧ z ≤ IntKind.max .u8) : (((UInt8.ofNat z.toNat).toNat : Nat) : Int) = z := by
 have h1 : (0 : Int) ≤ z := h.1
 have h2 : z ≤ 255 := h.2
 rw [UInt8.toNat_ofNat']
 omega
theorem reads_vecT {W : World} {cs : List Value} (h : Reads Tryz.prog W 37 cs) : ∃ d : Nat → Int, (∀ i, i < 11 → 0 ≤ d i ∧ d i ≤ 18446744073709551615) ∧ cs = v11 d := by
 obtain ⟨d, e, hd⟩ := h.ints Tryz.underlying37 Tryz.underlying35 (by kernel_rfl) (by kernel_rfl)
 exact ⟨d, fun i hi => hd i hi, e⟩
theorem reads_vec {W : World} {cs : List Value} (h : Reads Tryz.prog W 37 cs) : ∃ d : Nat → Int, cs = v11 d := by
 obtain ⟨d, _, e⟩ := reads_vecT h
 exact ⟨d, e⟩
end Go.Proofs.YtoigpgdmignaoaaGreatDoor

namespace Go.Proofs.YtoigpgdmignaoaaGreatDoor
open Go
/-! ### Cells that are told apart by eqC alone -/
def kdV : Value → Value
 | .int k _ => .int k 0
 | .string _ => .bool true
 | .bool _ => .bool false
 | v => v
theorem eqv_eq {a b : Value} (h : eqv a b = true) (hk : kdV a = kdV b) : a = b := by
 cases a with
 | bool x =>
  cases b <;> simp [eqv] at h
  subst h; rfl
 | int k x =>
  cases b with
  | int l y =>
   simp [eqv] at h
   simp [kdV] at hk
   subst h; subst hk; rfl
  | _ => simp [eqv] at h
 | string x =>
  cases b with
  | string y =>
   simp only [eqv] at h
   rw [beq_toListBytes, ByteArray.toList_eq, ByteArray.toList_eq, beq_iff_eq] at h
   rw [show x = y from ByteArray.ext (Array.ext' h)]
  | _ => simp [eqv] at h
 | _ => simp [eqv] at h
theorem eqC_eq : ∀ {a b : List Value}, eqC a b = true → a.map kdV = b.map kdV → a = b
 | [], [], _, _ => rfl
 | [], _ :: _, h, _ => by simp [eqC] at h
 | _ :: _, [], h, _ => by simp [eqC] at h
 | x :: xs, y :: ys, h, hk => by
  simp only [eqC, Bool.and_eq_true] at h
  simp only [List.map_cons, List.cons.injEq] at hk
  rw [eqv_eq h.1 hk.1, eqC_eq h.2 hk.2]
theorem u8_inj {a b : UInt8} (h : Value.int .u8 (a.toNat : Nat) = Value.int .u8 (b.toNat : Nat)) : a = b := by
 simp only [Value.int.injEq, true_and] at h
 exact UInt8.toNat_inj.1 (by omega)
theorem bytesV_inj : ∀ {a b : List UInt8}, bytesV a = bytesV b → a = b
 | [], [], _ => rfl
 | [], _ :: _, h => by simp [bytesV] at h
 | _ :: _, [], h => by simp [bytesV] at h
 | x :: xs, y :: ys, h => by
  simp only [bytesV, List.map_cons, List.cons.injEq] at h
  rw [u8_inj h.1, bytesV_inj h.2]
theorem b32_L {a b : Nat → UInt8} (h : b32 a = b32 b) : b32L a = b32L b := bytesV_inj (by rw [← b32_bytes, ← b32_bytes]; exact h)
theorem eq32_iff {a b : Nat → UInt8} : eqC (b32 a) (b32 b) = true ↔ b32 a = b32 b :=
 ⟨fun h => eqC_eq h rfl, fun h => by rw [h]; exact eq32_refl b⟩
theorem v11_iff {a b : Nat → Int} : v11 a = v11 b ↔ ∀ i, i < 11 → a i = b i := by
 constructor
 ·intro h i hi
  have h1 := zam a hi
  have h2 := zam b hi
  rw [h, h2] at h1
  simp only [Option.some.injEq, Value.int.injEq, true_and] at h1
  exact h1.symm
 ·intro h
  unfold v11
  rw [h 0 (by decide), h 1 (by decide), h 2 (by decide), h 3 (by decide), h 4 (by decide), h 5 (by decide), h 6 (by decide), h 7 (by decide), h 8 (by decide), h 9 (by decide), h 10 (by decide)]
theorem eqReq_iff {a b : Req} : eqC a.vals b.vals = true ↔ a.vals = b.vals :=
 ⟨fun h => eqC_eq h rfl, fun h => by rw [h]; exact zbi rfl⟩
theorem Bod.E.refl (a : Bod) : Bod.E a a := ⟨rfl, rfl, rfl, rfl, rfl, rfl⟩
theorem Bod.E.symm {a b : Bod} (h : Bod.E a b) : Bod.E b a := ⟨h.1.symm, h.2.1.symm, h.2.2.1.symm, h.2.2.2.1.symm, h.2.2.2.2.1.symm, h.2.2.2.2.2.symm⟩
theorem Bod.E.trans {a b c : Bod} (h : Bod.E a b) (g : Bod.E b c) : Bod.E a c := ⟨h.1.trans g.1, h.2.1.trans g.2.1, h.2.2.1.trans g.2.2.1, h.2.2.2.1.trans g.2.2.2.1, h.2.2.2.2.1.trans g.2.2.2.2.1, h.2.2.2.2.2.trans g.2.2.2.2.2⟩
theorem Bod.eqB_iff {a b : Bod} : Bod.eqB a b = true ↔ Bod.E a b := by
 unfold Bod.eqB Bod.E
 rw [Bool.and_eq_true, Bool.and_eq_true, Bool.and_eq_true, Bool.and_eq_true, Bool.and_eq_true, decide_eq_true_eq, decide_eq_true_eq, decide_eq_true_eq, decide_eq_true_eq, eqReq_iff, eq32_iff]
 constructor
 ·rintro ⟨⟨⟨⟨⟨h1, h2⟩, h3⟩, h4⟩, h5⟩, h6⟩
  exact ⟨UInt8.toNat_inj.1 (by omega), h2, h3, h4, h5, h6⟩
 ·rintro ⟨h1, h2, h3, h4, h5, h6⟩
  exact ⟨⟨⟨⟨⟨by rw [h1], h2⟩, h3⟩, h4⟩, h5⟩, h6⟩
/-! ### What the same bodies, and messages, have in common -/
theorem Req.vals_inj {a b : Req} (h : a.vals = b.vals) : a.client = b.client ∧ a.time = b.time ∧ a.kind = b.kind ∧ a.key = b.key ∧ a.val = b.val ∧ a.old = b.old ∧ a.to = b.to ∧ a.amount = b.amount ∧ b32 a.tag = b32 b.tag := by
 unfold Req.vals at h
 have h1 := List.append_inj h rfl
 have h2 := h1.1
 simp only [List.cons.injEq, Value.int.injEq, Value.string.injEq, true_and, and_true] at h2
 obtain ⟨a1, a2, a3, a4, a5, a6, a7, a8⟩ := h2
 exact ⟨a1, a2, UInt8.toNat_inj.1 (by omega), a4, a5, a6, a7, a8, h1.2⟩
theorem Req.bytes_congr {a b : Req} (h : a.vals = b.vals) : a.bytes = b.bytes ∧ (a.asked ↔ b.asked) ∧ b32L a.tag = b32L b.tag := by
 obtain ⟨h1, h2, h3, h4, h5, h6, h7, h8, h9⟩ := Req.vals_inj h
 unfold Req.bytes Req.head Req.asked
 rw [h1, h2, h3, h4, h5, h6, h7, h8]
 exact ⟨rfl, Iff.rfl, b32_L h9⟩
theorem Bod.mayK_congr {a b : Bod} (h : Bod.E a b) (k : Nat) : a.mayK k = b.mayK k := by
 obtain ⟨h1, h2, h3, h4, h5, h6⟩ := h
 obtain ⟨_, r2, _⟩ := Req.bytes_congr h4
 unfold Bod.mayK
 rw [h2, h3, h5, decide_eq_decide.2 r2]
theorem Bod.own_congr {a b : Bod} (h : Bod.E a b) : Bod.E a.own b.own := by
 obtain ⟨h1, h2, h3, h4, h5, h6⟩ := h
 unfold Bod.own
 rw [h1]
 generalize b.kind.toNat = k
 match k with
 | 0 => exact ⟨h1, rfl, rfl, rfl, rfl, rfl⟩
 | 1 => exact ⟨h1, h2, rfl, h4, rfl, rfl⟩
 | 2 => exact ⟨h1, h2, h3, rfl, rfl, rfl⟩
 | 3 => exact ⟨h1, h2, rfl, rfl, rfl, rfl⟩
 | 4 => exact ⟨h1, h2, rfl, rfl, h5, rfl⟩
 | 5 => exact ⟨h1, h2, rfl, rfl, rfl, rfl⟩
 | 6 => exact ⟨h1, rfl, h3, rfl, rfl, h6⟩
 | k + 7 => exact ⟨h1, rfl, rfl, rfl, rfl, rfl⟩
theorem Bod.may_congr {a b : Bod} (h : Bod.E a b) : a.may = b.may := by
 have h0 := Bod.own_congr h
 unfold Bod.may
 rw [Bod.mayK_congr h, h.1, h.2.1, Bool.eq_iff_iff.2 (Bod.eqB_iff.trans (Iff.trans ⟨fun g => h0.symm.trans (g.trans h), fun g => h0.trans (g.trans h.symm)⟩ Bod.eqB_iff.symm))]
theorem maxTo_congr {a b : Nat → Int} : ∀ n, (∀ i, i ≤ n → a i = b i) → maxTo a n = maxTo b n
 | 0, h => h 0 (Nat.le_refl _)
 | n + 1, h => by
  unfold maxTo
  rw [maxTo_congr n fun i hi => h i (by omega), h (n + 1) (Nat.le_refl _)]
def Msg.E0 (a b : Msg) : Prop := a.origin = b.origin ∧ a.number = b.number ∧ v11 a.deps = v11 b.deps ∧ Bod.E a.body b.body
theorem Msg.may_congr {a b : Msg} (h : Msg.E0 a b) : a.may = b.may := by
 obtain ⟨h1, h2, h3, h4⟩ := h
 have h5 := v11_iff.1 h3
 unfold Msg.may
 rw [Bod.may_congr h4]
 have e : a.outer ↔ b.outer := by
  unfold Msg.outer
  rw [h1, h2, maxTo_congr 10 fun i hi => h5 i (by omega)]
  constructor
  ·rintro ⟨a1, a2, a3, a4, a5, a6⟩
   exact ⟨a1, a2, a3, a4, by rw [← h5 _ (by omega)]; exact a5, a6⟩
  ·rintro ⟨a1, a2, a3, a4, a5, a6⟩
   exact ⟨a1, a2, a3, a4, by rw [h5 _ (by omega)]; exact a5, a6⟩
 rw [decide_eq_decide.2 e]
def rngH (g : Nat → HP) : Nat → List HP
 | 0 => []
 | k + 1 => g k :: rngH g k
def fam (g : Nat → HP) (k : Nat) : HP := fun h => stars (rngH g k) h
def updF {α : Type} (g : Nat → α) (i : Nat) (x : α) : Nat → α := fun j => if j = i then x else g j
theorem zah {α : Type} (g : Nat → α) (i : Nat) (x : α) : updF g i x i = x := if_pos rfl
theorem zal {α : Type} (g : Nat → α) {i j : Nat} (x : α) (h : j ≠ i) : updF g i x j = g j := if_neg h
theorem updF_self {α : Type} (g : Nat → α) (i : Nat) : updF g i (g i) = g := by
 funext j; unfold updF; split
 ·rename_i h; rw [h]
 ·rfl
theorem updF_updF {α : Type} (g : Nat → α) (i : Nat) (x y : α) : updF (updF g i x) i y = updF g i y := by
 funext j; unfold updF; split <;> rfl
theorem rngH_congr {g g' : Nat → HP} : ∀ k, (∀ j, j < k → g j = g' j) → rngH g k = rngH g' k
 | 0, _ => rfl
 | k + 1, h => by unfold rngH; rw [h k (by omega), rngH_congr k fun j hj => h j (by omega)]
theorem fam_pull {g : Nat → HP} {i : Nat} : ∀ {k : Nat}, i < k → stars (rngH g k) = star (g i) (stars (rngH (updF g i emp) k))
 | 0, h => by omega
 | k + 1, h => by
  by_cases e : i = k
  ·subst e
   have e1 : rngH (updF g i emp) i = rngH g i := rngH_congr i fun j hj => zal g emp (by omega)
   show star (g i) (stars (rngH g i)) = star (g i) (star (updF g i emp i) (stars (rngH (updF g i emp) i)))
   rw [zah, emp_star, e1]
  ·show star (g k) (stars (rngH g k)) = star (g i) (star (updF g i emp k) (stars (rngH (updF g i emp) k)))
   rw [fam_pull (g := g) (i := i) (k := k) (by omega), zal g emp (fun h => e h.symm), zaw]
theorem fam_put {g : Nat → HP} {i k : Nat} {x : HP} (h : i < k) : star x (stars (rngH (updF g i emp) k)) = stars (rngH (updF g i x) k) := by
 rw [fam_pull (g := updF g i x) h, zah, updF_updF]
theorem fam_pullA {g : Nat → HP} {i k : Nat} (A : List HP) (h : i < k) : stars (fam g k :: A) = stars (g i :: fam (updF g i emp) k :: A) := by
 show star (stars (rngH g k)) (stars A) = star (g i) (star (stars (rngH (updF g i emp) k)) (stars A))
 rw [fam_pull h, zbj]
theorem fam_putA {g : Nat → HP} {i k : Nat} {x : HP} (A : List HP) (h : i < k) : stars (x :: fam (updF g i emp) k :: A) = stars (fam (updF g i x) k :: A) := by
 show star x (star (stars (rngH (updF g i emp) k)) (stars A)) = star (stars (rngH (updF g i x) k)) (stars A)
 rw [← zbj, fam_put h]
section
variable {P : Program} {base : World} {n : Nat} {L : Env} {f : Frag} {A : List HP} {K : Kont} {g : Nat → HP} {i k : Nat}
theorem H.Cj (h : i < k) (kk : H P base n L f (g i :: fam (updF g i emp) k :: A) K) : H P base n L f (fam g k :: A) K :=
 H.conv (fam_pullA A h) kk
theorem H.famPut {x : HP} (h : i < k) (kk : H P base n L f (fam (updF g i x) k :: A) K) : H P base n L f (x :: fam (updF g i emp) k :: A) K :=
 H.conv (fam_putA A h) kk
theorem H.Ck (h : i < k) (kk : H P base n L f (fam g k :: A) K) : H P base n L f (g i :: fam (updF g i emp) k :: A) K :=
 H.famPut h (by rw [updF_self]; exact kk)
end
def c11 (g : Nat → Value) : List Value := [g 0, g 1, g 2, g 3, g 4, g 5, g 6, g 7, g 8, g 9, g 10]
theorem c11_get (g : Nat → Value) {i : Nat} (h : i < 11) : (c11 g)[i]? = some (g i) := by
 match i, h with
 | 0, _ => rfl
 | 1, _ => rfl
 | 2, _ => rfl
 | 3, _ => rfl
 | 4, _ => rfl
 | 5, _ => rfl
 | 6, _ => rfl
 | 7, _ => rfl
 | 8, _ => rfl
 | 9, _ => rfl
 | 10, _ => rfl
theorem c11_set (g : Nat → Value) {i : Nat} (v : Value) (h : i < 11) : SetV (c11 g) i v (c11 (updF g i v)) := by
 have e : c11 (updF g i v) = (c11 g).set i v := by
  match i, h with
  | 0, _ => rfl
  | 1, _ => rfl
  | 2, _ => rfl
  | 3, _ => rfl
  | 4, _ => rfl
  | 5, _ => rfl
  | 6, _ => rfl
  | 7, _ => rfl
  | 8, _ => rfl
  | 9, _ => rfl
  | 10, _ => rfl
 rw [e]
 exact SetV.mk v h
abbrev Strm := Nat → List Msg
def aboveB (a b : Nat → Int) : Bool := (List.range 11).any fun i => decide (b i < a i)
def knownS (S : Strm) : Nat → Int := fun i => ((S i).length : Nat)
def orgI (m : Msg) : Nat := (m.origin - 1).toNat
def fitsB (n : Nat) (m : Msg) : Bool := m.may && (decide (m.origin ≤ (n : Int)) && (m.body.q.all (fun p => decide (p.1 ≤ (n : Int))) && (List.range 11).all (fun i => decide (i < n) || decide (m.deps i ≤ 0))))
def lastD (l : List Msg) : Nat → Int := match l.getLast? with
 | some x => x.deps
 | none => fun _ => 0
def chk (n : Nat) (S : Strm) (m : Msg) : Int :=
 if fitsB n m = false then 1 else if m.right = false then 11 else
 if m.number ≤ ((S (orgI m)).length : Nat) then 13 else
 if m.number = (((S (orgI m)).length + 1 : Nat) : Int) ∧ 0 < (S (orgI m)).length ∧ aboveB (lastD (S (orgI m))) m.deps = true then 1 else
 if (((S (orgI m)).length + 1 : Nat) : Int) < m.number ∨ aboveB m.deps (knownS S) = true then 12 else 0
def addS (S : Strm) (m : Msg) : Strm := updF S (orgI m) (S (orgI m) ++ [m])
theorem zbd {a b : Nat → Int} : aboveB a b = false ↔ ∀ i, i < 11 → a i ≤ b i := by
 unfold aboveB
 rw [List.any_eq_false]
 constructor
 ·intro h i hi
  have := h i (List.mem_range.2 hi)
  simp only [decide_eq_true_eq] at this
  omega
 ·intro h i hi
  have := h i (List.mem_range.1 hi)
  simp only [decide_eq_true_eq]
  omega
theorem chk_ok {n : Nat} {S : Strm} {m : Msg} (h1 : fitsB n m = true) (h2 : m.right = true) (h3 : m.number = (((S (orgI m)).length + 1 : Nat) : Int))
  (h4 : 0 < (S (orgI m)).length → ∀ i, i < 11 → lastD (S (orgI m)) i ≤ m.deps i) (h5 : ∀ i, i < 11 → m.deps i ≤ knownS S i) : chk n S m = 0 := by
 unfold chk
 rw [if_neg (by rw [h1]; decide), if_neg (by rw [h2]; decide), if_neg (by omega), if_neg, if_neg]
 ·rintro (h | h)
  ·omega
  ·rw [zbd.2 h5] at h; cases h
 ·rintro ⟨_, hp, ha⟩
  rw [zbd.2 (h4 hp)] at ha; cases ha
/-! ### The streams of a list of messages -/
def strm (l : List Msg) : Strm := fun i => l.filter fun m => decide (orgI m = i)
theorem strm_snoc (l : List Msg) (m : Msg) : strm (l ++ [m]) = addS (strm l) m := by
 funext i
 unfold strm addS updF
 rw [List.filter_append]
 by_cases h : i = orgI m
 ·rw [if_pos h, ← h]
  simp [h]
 ·rw [if_neg h]
  have : decide (orgI m = i) = false := decide_eq_false fun e => h e.symm
  simp [this]
def cnt (l : List Msg) (i : Nat) : Nat := (strm l i).length
theorem cnt_snoc (l : List Msg) (m : Msg) (i : Nat) : cnt (l ++ [m]) i = cnt l i + (if i = orgI m then 1 else 0) := by
 unfold cnt
 rw [strm_snoc]
 unfold addS updF
 split
 ·rename_i h; rw [h, List.length_append]; rfl
 ·rfl
structure MOK (n : Nat) (pre : List Msg) (m : Msg) : Prop where
 org : 1 ≤ m.origin ∧ m.origin ≤ (n : Int)
 fits : fitsB n m = true
 right : m.right = true
 num : m.number = ((cnt pre (orgI m) + 1 : Nat) : Int)
 dep : ∀ i, i < 11 → 0 ≤ m.deps i ∧ m.deps i ≤ (cnt pre i : Nat)
 mono : ∀ x ∈ pre, orgI x = orgI m → ∀ i, i < 11 → x.deps i ≤ m.deps i
def WOK (n : Nat) (all : List Msg) : Prop := ∀ j m, all[j]? = some m → MOK n (all.take j) m
theorem WOK.snoc {n : Nat} {all : List Msg} {m : Msg} (h : WOK n all) (hm : MOK n all m) : WOK n (all ++ [m]) := fun j x hj => by
 rcases Nat.lt_or_ge j all.length with hlt | hge
 ·rw [List.getElem?_append_left hlt] at hj
  rw [List.take_append_of_le_length (by omega)]
  exact h j x hj
 ·rw [List.getElem?_append_right hge] at hj
  have e : j = all.length := by
   rcases Nat.eq_or_lt_of_le hge with e | e
   ·exact e.symm
   ·rw [List.getElem?_eq_none (by simp; omega)] at hj; cases hj
  subst e
  rw [Nat.sub_self] at hj
  simp at hj
  subst hj
  rw [List.take_left]
  exact hm
theorem WOK.nil (n : Nat) : WOK n [] := fun j m h => by simp at h
theorem lastD_mem {l : List Msg} (h : 0 < l.length) : ∃ x ∈ l, lastD l = x.deps := by
 have hne : l ≠ [] := by intro e; rw [e] at h; simp at h
 refine ⟨l.getLast hne, List.getLast_mem hne, ?_⟩
 unfold lastD
 rw [List.getLast?_eq_some_getLast hne]
theorem MOK.chk {n : Nat} {pre : List Msg} {m : Msg} (h : MOK n pre m) : chk n (strm pre) m = 0 := by
 refine chk_ok h.fits h.right h.num (fun hp i hi => ?_) fun i hi => (h.dep i hi).2
 obtain ⟨x, hx, e⟩ := lastD_mem hp
 rw [e]
 unfold strm at hx
 rw [List.mem_filter] at hx
 exact h.mono x hx.1 (of_decide_eq_true hx.2) i hi
theorem zbm {α : Type} {l : List α} {k : Nat} {x : α} (h : l[k]? = some x) : l.take (k + 1) = l.take k ++ [x] := by
 rw [List.take_add_one, h]; rfl
theorem take_all {α : Type} (l : List α) : l.take l.length = l := List.take_length
theorem strm_num {n : Nat} {all : List Msg} (h : WOK n all) : ∀ k i p x, (strm (all.take k) i)[p]? = some x → x.number = ((p + 1 : Nat) : Int)
 | 0, i, p, x, hx => by simp [strm] at hx
 | k + 1, i, p, x, hx => by
  cases hm : all[k]? with
  | none =>
   have e : all.take (k + 1) = all.take k := by rw [List.take_add_one, hm]; simp
   rw [e] at hx
   exact strm_num h k i p x hx
  | some m =>
   have hok := h k m hm
   rw [zbm hm, strm_snoc] at hx
   unfold addS updF at hx
   by_cases hi : i = orgI m
   ·rw [if_pos hi] at hx
    rcases Nat.lt_or_ge p (strm (all.take k) (orgI m)).length with hlt | hge
    ·rw [List.getElem?_append_left hlt] at hx
     exact strm_num h k _ p x hx
    ·rw [List.getElem?_append_right hge] at hx
     have e : p = (strm (all.take k) (orgI m)).length := by
      rcases Nat.eq_or_lt_of_le hge with e | e
      ·exact e.symm
      ·rw [List.getElem?_eq_none (by simp; omega)] at hx; cases hx
     subst e
     rw [Nat.sub_self] at hx
     simp at hx
     subst hx
     exact hok.num
   ·rw [if_neg hi] at hx
    exact strm_num h k i p x hx
theorem strm_numA {n : Nat} {all : List Msg} (h : WOK n all) {i p : Nat} {x : Msg} (hx : (strm all i)[p]? = some x) : x.number = ((p + 1 : Nat) : Int) := by
 refine strm_num h all.length i p x ?_
 rw [take_all]; exact hx
theorem strm_mem {l : List Msg} {x : Msg} (hx : x ∈ l) : ∃ p : Nat, (strm l (orgI x))[p]? = some x := by
 have : x ∈ strm l (orgI x) := by unfold strm; rw [List.mem_filter]; exact ⟨hx, by simp⟩
 exact List.getElem?_of_mem this
theorem strm_org {l : List Msg} {i p : Nat} {x : Msg} (h : (strm l i)[p]? = some x) : x ∈ l ∧ orgI x = i := by
 have := List.mem_of_getElem? h
 unfold strm at this
 rw [List.mem_filter] at this
 exact ⟨this.1, of_decide_eq_true this.2⟩
def unk (u : Nat → Int) (l : List Msg) : List Msg := l.filter fun m => decide (u (orgI m) < m.number)
structure Knw (all : List Msg) (u : Nat → Int) : Prop where
 le : ∀ i, 0 ≤ u i ∧ u i ≤ (cnt all i : Nat)
 closed : ∀ x ∈ all, x.number ≤ u (orgI x) → ∀ i, i < 11 → x.deps i ≤ u i
structure W12 where
 kv : Nat → Nat → Int
 all : List Msg
def W12.zero : W12 := ⟨fun _ _ => 0, []⟩
structure WInv (n : Nat) (W : W12) : Prop where
 ok : WOK n W.all
 knw : ∀ r, r < n → Knw W.all (W.kv r)
 own : ∀ r, r < n → W.kv r r = (cnt W.all r : Nat)
theorem WInv.zero (n : Nat) : WInv n W12.zero := ⟨WOK.nil n, fun r _ => ⟨fun i => ⟨Int.le_refl _, by show (0 : Int) ≤ _; omega⟩, fun x hx => by cases hx⟩, fun r _ => rfl⟩
def maxV (a b : Nat → Int) : Nat → Int := fun i => if a i < b i then b i else a i
def W12.meet (W : W12) (o j : Nat) : W12 := { W with kv := updF W.kv o (maxV (W.kv o) (W.kv j)) }
theorem maxV_ge (a b : Nat → Int) (i : Nat) : a i ≤ maxV a b i ∧ b i ≤ maxV a b i ∧ (maxV a b i = a i ∨ maxV a b i = b i) := by
 unfold maxV; split <;> omega
theorem WInv.meet {n : Nat} {W : W12} (h : WInv n W) {o j : Nat} (ho : o < n) (hj : j < n) : WInv n (W.meet o j) := by
 have hkn : Knw W.all (maxV (W.kv o) (W.kv j)) := by
  refine ⟨fun i => ?_, fun x hx hn i hi => ?_⟩
  ·have h1 := (h.knw o ho).le i
   have h2 := (h.knw j hj).le i
   have h3 := maxV_ge (W.kv o) (W.kv j) i
   rcases h3.2.2 with e | e <;> rw [e] <;> omega
  ·have h3 := maxV_ge (W.kv o) (W.kv j) (orgI x)
   have h4 := maxV_ge (W.kv o) (W.kv j) i
   rcases h3.2.2 with e | e <;> rw [e] at hn
   ·have := (h.knw o ho).closed x hx hn i hi
    omega
   ·have := (h.knw j hj).closed x hx hn i hi
    omega
 refine ⟨h.ok, fun r hr => ?_, fun r hr => ?_⟩
 ·show Knw W.all (updF W.kv o (maxV (W.kv o) (W.kv j)) r)
  by_cases e : r = o
  ·subst e; rw [zah]; exact hkn
  ·rw [zal _ _ e]; exact h.knw r hr
 ·show updF W.kv o (maxV (W.kv o) (W.kv j)) r r = (cnt W.all r : Nat)
  by_cases e : r = o
  ·subst e
   rw [zah]
   have h1 := h.own r hr
   have h2 := ((h.knw j hj).le r).2
   have h3 := maxV_ge (W.kv r) (W.kv j) r
   rcases h3.2.2 with e | e <;> omega
  ·rw [zal _ _ e]; exact h.own r hr
def W12.say (W : W12) (o : Nat) (m : Msg) : W12 := ⟨updF W.kv o (updF (W.kv o) o (W.kv o o + 1)), W.all ++ [m]⟩
theorem WOK.cnt_zero {n : Nat} {all : List Msg} (h : WOK n all) {i : Nat} (hi : n ≤ i) : cnt all i = 0 := by
 unfold cnt
 rcases Nat.eq_zero_or_pos (strm all i).length with e | e
 ·exact e
 ·obtain ⟨x, hx⟩ : ∃ x, (strm all i)[0]? = some x := ⟨_, List.getElem?_eq_getElem e⟩
  obtain ⟨h1, h2⟩ := strm_org hx
  obtain ⟨j, hj⟩ := List.getElem?_of_mem h1
  have h3 := (h j x hj).org
  unfold orgI at h2
  omega
theorem Msg.signed_E0 (m : Msg) : Msg.E0 m.signed m := by
 unfold Msg.signed
 split
 ·exact ⟨rfl, rfl, rfl, Bod.E.refl _⟩
 ·exact ⟨rfl, rfl, rfl, Bod.E.refl _⟩
theorem Msg.signed_may (m : Msg) : m.signed.may = m.may := Msg.may_congr m.signed_E0
theorem Msg.signed_isright {m : Msg} (hm : m.may = true) : m.signed.right = true := by
 have h2 : ∀ u, ({ m with tag := u } : Msg).right = (m.may && eq32 u (Sha.numbered m.origin m.number m.tagged)) := fun _ => rfl
 unfold Msg.signed
 rw [if_pos hm, h2, hm, eq32_refl]
 rfl
theorem Msg.signed_parts (m : Msg) : m.signed.origin = m.origin ∧ m.signed.number = m.number ∧ m.signed.deps = m.deps ∧ m.signed.body = m.body := by
 unfold Msg.signed
 split
 ·exact ⟨rfl, rfl, rfl, rfl⟩
 ·exact ⟨rfl, rfl, rfl, rfl⟩
theorem WInv.say {n : Nat} (hn : n ≤ 11) {W : W12} (h : WInv n W) {o : Nat} (ho : o < n) {m : Msg} (h1 : m.origin = ((o + 1 : Nat) : Int)) (h2 : m.number = W.kv o o + 1) (h3 : ∀ i, i < 11 → m.deps i = W.kv o i)
  (h4 : m.body.q.all (fun p => decide (p.1 ≤ (n : Int))) = true) (hm : m.may = true) : MOK n W.all m.signed ∧ WInv n (W.say o m.signed) := by
 obtain ⟨e1, e2, e3, e4⟩ := m.signed_parts
 have hk := h.knw o ho
 have hown := h.own o ho
 have horg : orgI m.signed = o := by unfold orgI; rw [e1, h1]; omega
 have hmok : MOK n W.all m.signed := by
  refine ⟨?_, ?_, Msg.signed_isright hm, ?_, fun i hi => ?_, fun x hx hxo i hi => ?_⟩
  ·rw [e1, h1]; omega
  ·unfold fitsB
   rw [Msg.signed_may, hm, e1, e4, h4, e3]
   have a1 : m.origin ≤ (n : Int) := by rw [h1]; omega
   rw [decide_eq_true a1, Bool.true_and, Bool.true_and, Bool.true_and, List.all_eq_true]
   intro i hi
   have hi := List.mem_range.1 hi
   rw [Bool.or_eq_true, decide_eq_true_eq, decide_eq_true_eq]
   by_cases hlt : i < n
   ·exact .inl hlt
   ·refine .inr ?_
    rw [h3 i hi]
    have := (hk.le i).2
    rw [h.ok.cnt_zero (by omega)] at this
    exact this
  ·rw [e2, h2, horg, hown]; omega
  ·rw [e3, h3 i hi]; exact hk.le i
  ·rw [e3, h3 i hi]
   refine hk.closed x hx ?_ i hi
   rw [hxo, horg, hown]
   obtain ⟨p, hp⟩ := strm_mem hx
   have hx1 := strm_numA h.ok hp
   have hx2 : p < (strm W.all (orgI x)).length := by
    rcases Nat.lt_or_ge p (strm W.all (orgI x)).length with h | h
    ·exact h
    ·rw [List.getElem?_eq_none h] at hp; cases hp
   rw [hxo, horg] at hx2
   unfold cnt
   omega
 have hcs : ∀ i, cnt (W.all ++ [m.signed]) i = cnt W.all i + (if i = o then 1 else 0) := fun i => by rw [cnt_snoc, horg]
 refine ⟨hmok, h.ok.snoc hmok, fun r hr => ?_, fun r hr => ?_⟩
 ·show Knw (W.all ++ [m.signed]) (updF W.kv o (updF (W.kv o) o (W.kv o o + 1)) r)
  by_cases e : r = o
  ·subst e
   rw [zah]
   refine ⟨fun i => ?_, fun x hx hxn i hi => ?_⟩
   ·rw [hcs]
    have := hk.le i
    by_cases e : i = r
    ·subst e; rw [zah, if_pos rfl]; omega
    ·rw [zal _ _ e, if_neg e]; omega
   ·have hmono : W.kv r i ≤ updF (W.kv r) r (W.kv r r + 1) i := by
     by_cases e : i = r
     ·subst e; rw [zah]; omega
     ·rw [zal _ _ e]; exact Int.le_refl _
    rcases List.mem_append.1 hx with hx | hx
    ·by_cases hle : x.number ≤ W.kv r (orgI x)
     ·have := hk.closed x hx hle i hi
      omega
     ·have ho2 : orgI x = r := by
       by_cases e : orgI x = r
       ·exact e
       ·rw [zal _ _ e] at hxn; exact absurd hxn hle
      obtain ⟨p, hp⟩ := strm_mem hx
      have hx1 := strm_numA h.ok hp
      have hx2 : p < (strm W.all (orgI x)).length := by
       rcases Nat.lt_or_ge p (strm W.all (orgI x)).length with h | h
       ·exact h
       ·rw [List.getElem?_eq_none h] at hp; cases hp
      rw [ho2] at hx2 hle
      unfold cnt at hown
      omega
    ·rw [List.mem_singleton] at hx
     subst hx
     rw [e3, h3 i hi]
     exact hmono
  ·rw [zal _ _ e]
   have hkr := h.knw r hr
   refine ⟨fun i => ?_, fun x hx hxn i hi => ?_⟩
   ·rw [hcs]
    have := hkr.le i
    split <;> omega
   ·rcases List.mem_append.1 hx with hx | hx
    ·exact hkr.closed x hx hxn i hi
    ·rw [List.mem_singleton] at hx
     subst hx
     rw [horg, e2, h2, hown] at hxn
     have := (hkr.le o).2
     omega
 ·show updF W.kv o (updF (W.kv o) o (W.kv o o + 1)) r r = (cnt (W.all ++ [m.signed]) r : Nat)
  rw [hcs]
  by_cases e : r = o
  ·subst e
   rw [zah, zah, if_pos rfl, hown]; omega
  ·rw [zal _ _ e, if_neg e, Nat.add_zero]; exact h.own r hr
def LOK (n : Nat) (l : List Msg) : Prop := ∀ j m, l[j]? = some m → chk n (strm (l.take j)) m = 0
theorem chk_zero {n : Nat} {S : Strm} {m : Msg} (h : chk n S m = 0) : fitsB n m = true ∧ m.right = true ∧ m.number = (((S (orgI m)).length + 1 : Nat) : Int) ∧ (0 < (S (orgI m)).length → ∀ i, i < 11 → lastD (S (orgI m)) i ≤ m.deps i) ∧ (∀ i, i < 11 → m.deps i ≤ knownS S i) := by
 unfold chk at h
 by_cases h1 : fitsB n m = false
 ·rw [if_pos h1] at h; exact absurd h (by decide)
 ·rw [if_neg h1] at h
  by_cases h2 : m.right = false
  ·rw [if_pos h2] at h; exact absurd h (by decide)
  ·rw [if_neg h2] at h
   by_cases h3 : m.number ≤ ((S (orgI m)).length : Nat)
   ·rw [if_pos h3] at h; exact absurd h (by decide)
   ·rw [if_neg h3] at h
    by_cases h4 : m.number = (((S (orgI m)).length + 1 : Nat) : Int) ∧ 0 < (S (orgI m)).length ∧ aboveB (lastD (S (orgI m))) m.deps = true
    ·rw [if_pos h4] at h; exact absurd h (by decide)
    ·rw [if_neg h4] at h
     by_cases h5 : (((S (orgI m)).length + 1 : Nat) : Int) < m.number ∨ aboveB m.deps (knownS S) = true
     ·rw [if_pos h5] at h; exact absurd h (by decide)
     ·have e : m.number = (((S (orgI m)).length + 1 : Nat) : Int) := by omega
      refine ⟨by simpa using h1, by simpa using h2, e, fun hp => ?_, ?_⟩
      ·refine zbd.1 ?_
       cases ha : aboveB (lastD (S (orgI m))) m.deps with
       | false => rfl
       | true => exact absurd ⟨e, hp, ha⟩ h4
      ·refine zbd.1 ?_
       cases ha : aboveB m.deps (knownS S) with
       | false => rfl
       | true => exact absurd (.inr ha) h5
theorem fits_org {n : Nat} {m : Msg} (h : fitsB n m = true) : 1 ≤ m.origin ∧ m.origin ≤ (n : Int) ∧ m.may = true := by
 unfold fitsB at h
 simp only [Bool.and_eq_true, decide_eq_true_eq] at h
 exact ⟨(Msg.may_outer h.1).1, h.2.1, h.1⟩
theorem LOK.num {n : Nat} {l : List Msg} (h : LOK n l) : ∀ k i p x, (strm (l.take k) i)[p]? = some x → x.number = ((p + 1 : Nat) : Int)
 | 0, i, p, x, hx => by simp [strm] at hx
 | k + 1, i, p, x, hx => by
  cases hm : l[k]? with
  | none =>
   have e : l.take (k + 1) = l.take k := by rw [List.take_add_one, hm]; simp
   rw [e] at hx
   exact h.num k i p x hx
  | some m =>
   have hok := (chk_zero (h k m hm)).2.2.1
   rw [zbm hm, strm_snoc] at hx
   unfold addS updF at hx
   by_cases hi : i = orgI m
   ·rw [if_pos hi] at hx
    rcases Nat.lt_or_ge p (strm (l.take k) (orgI m)).length with hlt | hge
    ·rw [List.getElem?_append_left hlt] at hx
     exact h.num k _ p x hx
    ·rw [List.getElem?_append_right hge] at hx
     have e : p = (strm (l.take k) (orgI m)).length := by
      rcases Nat.eq_or_lt_of_le hge with e | e
      ·exact e.symm
      ·rw [List.getElem?_eq_none (by simp; omega)] at hx; cases hx
     subst e
     rw [Nat.sub_self] at hx
     simp at hx
     subst hx
     exact hok
   ·rw [if_neg hi] at hx
    exact h.num k i p x hx
theorem LOK.numA {n : Nat} {l : List Msg} (h : LOK n l) {i p : Nat} {x : Msg} (hx : (strm l i)[p]? = some x) : x.number = ((p + 1 : Nat) : Int) := by
 refine h.num l.length i p x ?_
 rw [take_all]; exact hx
theorem LOK.snoc {n : Nat} {l : List Msg} {m : Msg} (h : LOK n l) (hm : chk n (strm l) m = 0) : LOK n (l ++ [m]) := fun j x hj => by
 rcases Nat.lt_or_ge j l.length with hlt | hge
 ·rw [List.getElem?_append_left hlt] at hj
  rw [List.take_append_of_le_length (by omega)]
  exact h j x hj
 ·rw [List.getElem?_append_right hge] at hj
  have e : j = l.length := by
   rcases Nat.eq_or_lt_of_le hge with e | e
   ·exact e.symm
   ·rw [List.getElem?_eq_none (by simp; omega)] at hj; cases hj
  subst e
  rw [Nat.sub_self] at hj
  simp at hj
  subst hj
  rw [List.take_left]
  exact hm
theorem LOK.nil (n : Nat) : LOK n [] := fun j m h => by simp at h
theorem LOK.org {n : Nat} {l : List Msg} (h : LOK n l) {x : Msg} (hx : x ∈ l) : 1 ≤ x.origin ∧ x.origin ≤ (n : Int) := by
 obtain ⟨j, hj⟩ := List.getElem?_of_mem hx
 have := fits_org (chk_zero (h j x hj)).1
 exact ⟨this.1, this.2.1⟩
def findM (l : List Msg) (o z : Int) : Option Msg := l.find? fun x => decide (x.origin = o) && decide (x.number = z)
theorem LOK.find {n : Nat} {l : List Msg} (h : LOK n l) {o : Nat} (ho : o < n) (p : Nat) : findM l ((o + 1 : Nat) : Int) ((p + 1 : Nat) : Int) = (strm l o)[p]? := by
 unfold findM
 cases hp : (strm l o)[p]? with
 | none =>
  rw [List.find?_eq_none]
  intro x hx hb
  simp only [Bool.and_eq_true, decide_eq_true_eq] at hb
  obtain ⟨q, hq⟩ := strm_mem hx
  have h1 := h.numA hq
  have h2 : orgI x = o := by unfold orgI; omega
  rw [h2] at hq
  have h3 : q = p := by omega
  subst h3
  rw [hp] at hq; cases hq
 | some x =>
  obtain ⟨hx, hxo⟩ := strm_org hp
  have hxn := h.numA hp
  cases hf : l.find? fun x => decide (x.origin = ((o + 1 : Nat) : Int)) && decide (x.number = ((p + 1 : Nat) : Int)) with
  | none =>
   rw [List.find?_eq_none] at hf
   have := hf x hx
   have h1 := (h.org hx).1
   simp only [Bool.and_eq_true, decide_eq_true_eq, not_and] at this
   exact absurd hxn (this (by unfold orgI at hxo; omega))
  | some y =>
   have hy := List.mem_of_find?_eq_some hf
   have hb := List.find?_some hf
   simp only [Bool.and_eq_true, decide_eq_true_eq] at hb
   obtain ⟨q, hq⟩ := strm_mem hy
   have h1 := h.numA hq
   have h2 : orgI y = o := by unfold orgI; omega
   rw [h2] at hq
   have h3 : q = p := by omega
   subst h3
   rw [hp] at hq
   exact hq.symm
theorem lastD_get {l : List Msg} {x : Msg} (h : l[l.length - 1]? = some x) : lastD l = x.deps := by
 unfold lastD
 rw [List.getLast?_eq_getElem?, h]
def clientW : List UInt8 := [114, 97, 116, 99, 104, 101, 116, 32, 99, 108, 105, 101, 110, 116]
def Req.sig (r : Req) : Nat → UInt8 := Sha.hmac (Sha.word32 clientW r.client) r.bytes
def Req.signed (r : Req) : Req := if r.asked then { r with tag := r.sig } else r
def Req.auth (r : Req) : Bool := decide r.asked && eq32 r.tag r.sig
theorem Req.bytes_max {r : Req} (h : r.asked) : r.bytes.length ≤ 1000 := by
 obtain ⟨_, _, _, _, ⟨h1, h2⟩, h3, h4⟩ := h
 rw [Req.bytes_len]
 omega
theorem req_tag {f : Frag} {A A' : List HP} {rb : Nat} {T : TypeId} {r : Req} (h : At A (row rb T r.vals) A' (row rb T r.vals)) : Rd f A rb (0 + 8) (b32 r.tag) := by
 have h1 := Rd.ofRow (f := f) h
 have e : r.vals = [.int .i64 r.client, .int .u64 r.time, .int .u8 (r.kind.toNat : Nat), .string r.key, .string r.val, .string r.old, .string r.to, .int .u64 r.amount] ++ b32 r.tag ++ [] := by unfold Req.vals; rw [List.append_nil]
 rw [e] at h1
 exact h1.sub rfl
theorem splice_rtag (r : Req) (t : Nat → UInt8) : splice r.vals (0 + 8) (b32 t) = ({ r with tag := t } : Req).vals := rfl
section
variable {P : Program} {base : World} {n : Nat} {L : Env} {f : Frag} {A V : List HP} {q : Post} {l rest : List Oper} {d : Nat} {ty : TypeId} {pos : String} {af : Array Edge} {gd : Option (Nat × Bool)}
theorem HQ.fieldN {st : TypeId} {x : Operand} {i m : Nat} {fs : List Field} {nm tg pk : String} {ft : TypeId} {fo bo : Nat} {em : Bool} {xs ls : List Value} {de : TypeDesc} [hu : Und P st (.struct fs.toArray)] (hw : want? l L gd = true)
  (hx : ev? L x = some (.agg xs.toArray)) (hf : nthF fs i = some ⟨nm, ft, fo, em, tg, pk, bo⟩) (he : Und P ft de) (ha : aggD de = true) (hs : Siz P ft m) (hv : (xs.drop fo).take m = ls) (hd : Nat.ble (d + 1) n = true) {lst : Lst} {ti : Nat} {tt : List (Nat × Bool)}
  (k : HQ V ⟨lst.setIfInBounds ti true, tt⟩ P base n ((d, .agg ls.toArray) :: L) f A (.ops l rest q)) : HQ V ⟨lst, (ti, false) :: tt⟩ P base n L f A (.ops l (⟨some d, .field st x i, ty, pos, af, gd⟩ :: rest) q) :=
 HQ.opV hw hd (fun a w hfr _ => by
  rw [nthF_eq] at hf
  have h3 := run_isAgg he w
  have h4 : xs.toArray.extract fo (fo + m) = ls.toArray := by
   rw [List.extract_toArray, ← hv]
   unfold List.extract
   rw [Nat.add_sub_cancel_left]
  simp [execOp, Instr.field, hfr.eval hx, hu.run, hf, asAgg, part, h3, ha, hs.run]
  simpa using h4) k
end
def dig0 (c : UInt8) : Nat → UInt8
 | 0 => c
 | _ + 1 => 0
theorem signed_ok {r : Req} (h : r.Ok) : r.signed.Ok := by
 unfold Req.signed
 split
 ·exact h
 ·exact h
theorem reqz_ok : Req.zero.Ok := ⟨⟨by decide, by decide⟩, by decide, by decide⟩
theorem cnt_len (l : List Msg) (i : Nat) : cnt l i ≤ l.length := by
 unfold cnt strm
 exact List.length_filter_le _ _
theorem WInv.kv_le {n : Nat} {W : W12} (h : WInv n W) {r : Nat} (hr : r < n) (i : Nat) : 0 ≤ W.kv r i ∧ W.kv r i ≤ (W.all.length : Nat) := by
 have h1 := (h.knw r hr).le i
 have h2 := cnt_len W.all i
 omega
def strmV (l : List MV) : Nat → List MV := fun i => l.filter fun x => decide (orgI x.m = i)
theorem strmV_map (l : List MV) (i : Nat) : (strmV l i).map MV.m = strm (l.map MV.m) i := by
 unfold strmV strm
 rw [List.filter_map]
 rfl
theorem strmV_len (l : List MV) (i : Nat) : (strmV l i).length = cnt (l.map MV.m) i := by
 unfold cnt; rw [← strmV_map, List.length_map]
theorem strmV_snoc (l : List MV) (x : MV) (i : Nat) : strmV (l ++ [x]) i = if i = orgI x.m then strmV l i ++ [x] else strmV l i := by
 unfold strmV
 rw [List.filter_append]
 by_cases h : i = orgI x.m
 ·rw [if_pos h]; simp [h]
 ·rw [if_neg h]
  have : decide (orgI x.m = i) = false := decide_eq_false fun e => h e.symm
  simp [this]
def placesFrom : List Msg → List Msg → List (Nat × Nat)
 | _, [] => []
 | pre, m :: r => (orgI m, cnt pre (orgI m)) :: placesFrom (pre ++ [m]) r
def placesOf (l : List Msg) : List (Nat × Nat) := placesFrom [] l
theorem placesFrom_app : ∀ (a pre b : List Msg), placesFrom pre (a ++ b) = placesFrom pre a ++ placesFrom (pre ++ a) b
 | [], pre, b => by simp [placesFrom]
 | m :: a, pre, b => by
  rw [List.cons_append]
  show _ :: placesFrom (pre ++ [m]) (a ++ b) = (_ :: placesFrom (pre ++ [m]) a) ++ _
  rw [placesFrom_app a (pre ++ [m]) b, List.cons_append]
  simp
theorem placesOf_snoc (l : List Msg) (m : Msg) : placesOf (l ++ [m]) = placesOf l ++ [(orgI m, cnt l (orgI m))] := by
 unfold placesOf
 rw [placesFrom_app]
 rfl
theorem placesFrom_len : ∀ (l pre : List Msg), (placesFrom pre l).length = l.length
 | [], _ => rfl
 | m :: l, pre => by
  show (placesFrom (pre ++ [m]) l).length + 1 = _
  rw [placesFrom_len l]; rfl
theorem placesFrom_get : ∀ (l pre : List Msg) (j : Nat) (m : Msg), l[j]? = some m → (placesFrom pre l)[j]? = some (orgI m, cnt (pre ++ l.take j) (orgI m))
 | [], pre, j, m, h => by simp at h
 | a :: l, pre, 0, m, h => by
  simp at h; subst h
  show some _ = _
  simp
 | a :: l, pre, j + 1, m, h => by
  show (placesFrom (pre ++ [a]) l)[j]? = _
  rw [placesFrom_get l (pre ++ [a]) j m (by simpa using h)]
  simp
theorem placesOf_get {l : List Msg} {j : Nat} {m : Msg} (h : l[j]? = some m) : (placesOf l)[j]? = some (orgI m, cnt (l.take j) (orgI m)) := by
 have := placesFrom_get l [] j m h
 rwa [List.nil_append] at this
def placeV (p : Nat × Nat) : List Value := [.int .i64 (p.1 : Int), .int .i64 (p.2 : Int)]
structure LP where
 P : Nat → Option Addr
 C : Nat → Nat
 po : Option Addr
 co : Nat
def loreCells (n : Nat) (l : List MV) (i : LP) : List Value := [.int .i64 (n : Int)] ++ c11 (fun k => .slice (i.P k) (strmV l k).length (i.C k)) ++ [.slice i.po l.length i.co]
def strH (l : List MV) (i : LP) (k : Nat) : HP := slc (i.P k) (strmV l k).length (i.C k) 47 121 ((strmV l k).flatMap MV.vals)
def ordH (l : List MV) (i : LP) : HP := slc i.po l.length i.co 123 2 ((placesOf (l.map MV.m)).flatMap placeV)
def loreφ (f : Frag) (n : Nat) (l : List MV) : Prop := (∀ x ∈ l, x.Good f) ∧ l.length ≤ 100000 ∧ LOK n (l.map MV.m) ∧ n ≤ 11
def loreH (f : Frag) (lb : Nat) (n : Nat) (l : List MV) : HP := pack (fun _ : LP => loreφ f n l) (fun i => [row lb 120 (loreCells n l i), fam (strH l i) 11, ordH l i])
theorem loreφ.mono {f g : Frag} (h : Le f g) {n : Nat} {l : List MV} (hl : loreφ f n l) : loreφ g n l := ⟨fun x hx => (hl.1 x hx).mono h, hl.2⟩
theorem loreH_mono {f g : Frag} (h : Le f g) {lb n : Nat} {l : List MV} : ∀ x, loreH f lb n l x → loreH g lb n l x := fun x ⟨i, hi, hx⟩ => ⟨i, hi.mono h, hx⟩
theorem H.loreOpen {P : Program} {base : World} {n0 : Nat} {L : Env} {f fl : Frag} {F : List HP} {K : Kont} {lb n : Nat} {l : List MV}
  (k : ∀ i : LP, loreφ fl n l → H P base n0 L f (row lb 120 (loreCells n l i) :: fam (strH l i) 11 :: ordH l i :: F) K) : H P base n0 L f (loreH fl lb n l :: F) K :=
 H.unpack fun i hi => k i hi
theorem zau {fl : Frag} {F : List HP} {lb n : Nat} {l : List MV} (i : LP) (h : loreφ fl n l) : ∀ x, stars (row lb 120 (loreCells n l i) :: fam (strH l i) 11 :: ordH l i :: F) x → stars (loreH fl lb n l :: F) x := fun x hx =>
 pack_fold (ι := LP) (φ := fun _ : LP => loreφ fl n l) (B := fun i => [row lb 120 (loreCells n l i), fam (strH l i) 11, ordH l i]) i h x hx
theorem loreCells_str (n : Nat) (l : List MV) (i : LP) {k : Nat} (h : k < 11) : (loreCells n l i)[1 + k]? = some (.slice (i.P k) (strmV l k).length (i.C k)) := by
 unfold loreCells
 rw [List.append_assoc, List.getElem?_append_right (by show 1 ≤ 1 + k; omega), show 1 + k - [Value.int .i64 (n : Int)].length = k by show 1 + k - 1 = k; omega, List.getElem?_append_left (by show k < 11; exact h), c11_get _ h]
theorem rngH_nil {g : Nat → HP} : ∀ k, (∀ j, j < k → g j nil0) → stars (rngH g k) nil0
 | 0, _ => rfl
 | k + 1, h => ⟨nil0, nil0, Dj.nil _, (un_nil _).symm, h k (by omega), rngH_nil k fun j hj => h j (by omega)⟩
theorem H.addNil {P : Program} {base : World} {n : Nat} {L : Env} {f : Frag} {A : List HP} {K : Kont} (p : HP) (hp : p nil0) (k : H P base n L f (p :: A) K) : H P base n L f A K :=
 H.imp (A' := p :: A) (fun h hh => ⟨nil0, h, (Dj.nil h).symm, (nil_un h).symm, hp, hh⟩) k
def fewZ (z : Int) : Prop := 3 ≤ z ∧ z ≤ 11 ∧ z.tmod 2 = 1
instance (z : Int) : Decidable (fewZ z) := by unfold fewZ; infer_instance
def lp0 : LP := ⟨fun _ => none, fun _ => 0, none, 0⟩
section
variable (f : Frag) (F : List HP)
theorem lfew_fn (z : Int) : Fn Tryz.prog 55 [.int .i64 z] f F (Ret (.bool (decide (fewZ z))) f F) := by
 by_cases h1 : 3 ≤ z
 ·by_cases h2 : z ≤ 11
  ·skip
   refine Fn.enter Tryz.func55 rfl Tryz.ntmps55 rfl (L := [(0, _)]) ⟨rfl, trivial⟩ fun base => ?_
   repeat (first | (refine H.rem (z := z.tmod 2) rfl rfl rfl (by decide) rfl rfl ?_) | ((first | apply H.Aj | apply H.Ap); (iterate 3 exact rfl)) | (first | apply H.seq | apply H.Aq | apply H.nil | apply H.Ao) | ((apply H.cmp); (iterate 5 exact rfl)) | (apply H.Bh; (iterate 4 exact rfl)) | (apply H.ret) | (apply H.Bl; (iterate 3 exact rfl); (assumption)))
   refine H.Ac rfl rfl (fun _ h => h) ⟨?_, rfl, rfl⟩
   simp [fewZ, *]
  ·skip
   refine Fn.enter Tryz.func55 rfl Tryz.ntmps55 rfl (L := [(0, _)]) ⟨rfl, trivial⟩ fun base => ?_
   refine ga ?_
   refine H.Ac rfl rfl (fun _ h => h) ⟨?_, rfl, rfl⟩
   simp [fewZ, *]
 ·skip
  refine Fn.enter Tryz.func55 rfl Tryz.ntmps55 rfl (L := [(0, _)]) ⟨rfl, trivial⟩ fun base => ?_
  refine ga ?_
  refine H.Ac rfl rfl (fun _ h => h) ⟨?_, rfl, rfl⟩
  simp [fewZ, *]
theorem lnew_no {z : Int} (h : ¬ fewZ z) : Fn Tryz.prog 18 [.int .i64 z] f F (Ret (.tuple #[.pointer none, .int .i64 1]) f F) := by
 have hf := fun G => lfew_fn f G z
 rw [decide_eq_false h] at hf
 refine Fn.enter Tryz.func18 rfl Tryz.ntmps18 rfl (L := [(0, _)]) ⟨rfl, trivial⟩ fun base => ?_
 refine gO ?_
 refine H.Ad rfl rfl rfl (hf _) ?_
 refine H.not (b := false) (c := true) rfl rfl rfl rfl ?_
 refine gG ?_
 exact H.ret2 rfl rfl rfl (fun _ h => h) ⟨rfl, rfl, rfl⟩
theorem lnew_fn {n : Nat} (h : fewZ (n : Int)) : Fn Tryz.prog 18 [.int .i64 (n : Int)] f F (RetE (fun lb : Nat => .tuple #[.pointer (some ⟨lb, 0, none⟩), .int .i64 0]) f (fun lb => loreH f lb n [] :: F)) := by
 have hf := fun G => lfew_fn f G (n : Int)
 rw [decide_eq_true h] at hf
 have hn : n ≤ 11 := by have := h.2.1; omega
 refine Fn.enter Tryz.func18 rfl Tryz.ntmps18 rfl (L := [(0, _)]) ⟨rfl, trivial⟩ fun base => ?_
 refine gO ?_
 refine H.Ad rfl rfl rfl (hf _) ?_
 refine H.not (b := true) (c := false) rfl rfl rfl rfl ?_
 repeat (first | (refine H.Bc (t := 120) (out := loreCells n [] lp0) rfl rfl rfl (by kernel_rfl) rfl ?_) | ((apply H.Aj); (iterate 3 exact rfl)) | (first | apply H.seq | apply H.Aq | apply H.nil | apply H.Ao) | (apply H.Ci; exact rfl) | (apply H.Bk))
 refine H.box (ls := loreCells n [] lp0) rfl rfl rfl rfl fun lb => ?_
 refine gf ?_
 refine H.addNil (ordH [] lp0) (slc_nil none _ 2) ?_
 refine H.addNil (fam (strH [] lp0) 11) (rngH_nil 11 fun j _ => slc_nil none _ 121) ?_
 refine H.Aa (.there _ (.there _ (.here _ _))) ?_
 refine H.imp (zau lp0 (fl := f) ⟨fun x hx => (by cases hx), Nat.zero_le _, LOK.nil n, hn⟩) ?_
 exact H.ret2 rfl rfl rfl (fun _ h => h) ⟨lb, rfl, rfl, rfl⟩
set_option maxHeartbeats 800000 in
theorem above_fn (a b : Nat → Int) : Fn Tryz.prog 59 [.agg (v11 a).toArray, .agg (v11 b).toArray] f F (Ret (.bool (aboveB a b)) f F) := by
 refine Fn.enter Tryz.func59 rfl Tryz.ntmps59 rfl (L := [(0, _), (1, _)]) ⟨rfl, rfl, trivial⟩ fun base => ?_
 refine gC ?_
 refine H.box (ls := v11 a) rfl rfl rfl rfl fun ab => ?_
 refine H.box (ls := v11 b) rfl rfl rfl rfl fun bb => ?_
 refine gO ?_
 refine H.Ah (ls := v11 a) rfl rfl rfl (Rd.ofRow (.there _ (.here _ _ _))) rfl rfl ?_
 refine gf ?_
 refine H.Ax (ι := Nat) (fun i => [(8, .int .i64 (i : Int)), (7, .agg (v11 a).toArray), (3, .pointer (some ⟨bb, 0, none⟩))]) (fun _ => f) (fun _ => row bb 37 (v11 b) :: row ab 37 (v11 a) :: F) (fun i => i ≤ 11 ∧ ∀ j, j < i → a j ≤ b j) (fun i => 11 - i) 0 ⟨Nat.zero_le _, fun j hj => by omega⟩ ⟨rfl, rfl, rfl, trivial⟩ rfl rfl fun i hi => ?_
 obtain ⟨hi, hle⟩ : i ≤ 11 ∧ ∀ j, j < i → a j ≤ b j := hi
 by_cases hlt : i < 11
 ·refine gL ?_
  refine H.indexV (xs := v11 a) (i := i) rfl rfl rfl rfl hlt rfl (zam a hlt) rfl ?_
  refine gO ?_
  refine H.Aw (i := i) rfl rfl rfl rfl hlt rfl ?_
  refine H.Af rfl rfl rfl (.of (Rd.ofRow (.here _ _ _)) (by rw [Nat.mul_one]; exact zam b hlt)) rfl ?_
  by_cases hab : b i < a i
  ·refine gL ?_
   refine H.Ab (.here _ _) ?_
   refine H.Ab (.here _ _) ?_
   refine H.Ac rfl rfl (fun _ h => h) ⟨?_, rfl, rfl⟩
   have : aboveB a b = true := by
    unfold aboveB
    rw [List.any_eq_true]
    exact ⟨i, List.mem_range.2 hlt, decide_eq_true hab⟩
   rw [this]
  ·refine gT ?_
   exact H.Am (i + 1) ⟨by show i + 1 ≤ 11; omega, fun j hj => by
    by_cases e : j = i
    ·rw [e]; omega
    ·exact hle j (by omega)⟩ (by show 11 - (i + 1) < 11 - i; omega) ⟨rfl, rfl, rfl, trivial⟩ rfl rfl
 ·refine gH ?_
  refine H.Ab (.here _ _) ?_
  refine H.Ab (.here _ _) ?_
  refine H.Ac rfl rfl (fun _ h => h) ⟨?_, rfl, rfl⟩
  rw [zbd.2 fun j hj => hle j (by omega)]
end
end Go.Proofs.YtoigpgdmignaoaaGreatDoor

namespace Go.Proofs.YtoigpgdmignaoaaGreatDoor
open Go Go.ChangeShapes Go.WideShapes Go.RowKit Go.Deep
theorem reads_byte {W : World} {cs : List Value} (h : Reads Tryz.prog W 5 cs) : ∃ x : UInt8, True ∧ cs = [.int .u8 (x.toNat : Nat)] := by
 obtain ⟨z, rfl, hz⟩ := h.int Tryz.underlying5
 exact ⟨UInt8.ofNat z.toNat, trivial, by rw [u8_back hz]⟩
theorem listAt_bat {f : Frag} {p : Option Addr} {l : List UInt8} (h : ListAt f p 1 (fun x : UInt8 => [Value.int .u8 (x.toNat : Nat)]) l) : BAt f p l := by
 cases l with
 | nil => exact .inl rfl
 | cons x0 r =>
  obtain ⟨b, off, cs, T, fr, h1, h2, _⟩ := h 0 x0 rfl
  refine .inr ⟨b, off, cs, T, fr, h1, h2, fun i hi => ?_⟩
  have hx : (x0 :: r)[i]? = some (x0 :: r)[i] := List.getElem?_eq_getElem hi
  obtain ⟨b', off', cs', T', fr', g1, g2, g3⟩ := h i _ hx
  rw [h1] at g1
  cases g1
  rw [h2] at g2
  cases g2
  have h3 := g3 0 (show 0 < 1 by decide)
  rw [Nat.mul_one, Nat.add_zero] at h3
  rw [h3]
  unfold bytesV
  rw [List.getElem?_map, hx]
  rfl
def kRow (n : Nat) (kv : Nat → Nat → Int) : List Value := (List.range (n * 11)).map fun j => .int .u64 (kv (j / 11) (j % 11))
theorem zbe (n : Nat) (kv : Nat → Nat → Int) : (kRow n kv).length = n * 11 := by unfold kRow; rw [List.length_map, List.length_range]
theorem zbg {n : Nat} {kv : Nat → Nat → Int} {j : Nat} (h : j < n * 11) : (kRow n kv)[j]? = some (.int .u64 (kv (j / 11) (j % 11))) := by
 unfold kRow
 rw [List.getElem?_map, List.getElem?_range h]; rfl
theorem kRow_get {n : Nat} {kv : Nat → Nat → Int} {o k : Nat} (ho : o < n) (hk : k < 11) : (kRow n kv)[o * 11 + k]? = some (.int .u64 (kv o k)) := by
 rw [zbg (by omega), show (o * 11 + k) / 11 = o by omega, show (o * 11 + k) % 11 = k by omega]
theorem kRow_set {n : Nat} {kv : Nat → Nat → Int} {o k : Nat} (z : Int) (ho : o < n) (hk : k < 11) : SetV (kRow n kv) (o * 11 + k) (.int .u64 z) (kRow n (updF kv o (updF (kv o) k z))) := by
 have e : kRow n (updF kv o (updF (kv o) k z)) = (kRow n kv).set (o * 11 + k) (.int .u64 z) := by
  apply List.ext_getElem?
  intro j
  rw [List.getElem?_set, zbe]
  by_cases hj : j < n * 11
  ·rw [zbg hj, zbg hj]
   by_cases e : o * 11 + k = j
   ·rw [if_pos e, if_pos (by omega), show j / 11 = o by omega, show j % 11 = k by omega, zah, zah]
   ·rw [if_neg e]
    by_cases e1 : j / 11 = o
    ·rw [e1, zah, zal _ _ (by omega)]
    ·rw [zal _ _ e1]
  ·rw [if_neg (by omega), List.getElem?_eq_none (by rw [zbe]; omega), List.getElem?_eq_none (by rw [zbe]; omega)]
 rw [e]
 exact SetV.mk _ (by rw [zbe]; omega)
theorem kRow_congr {n : Nat} {kv kv' : Nat → Nat → Int} (h : ∀ r, r < n → ∀ i, i < 11 → kv r i = kv' r i) : kRow n kv = kRow n kv' := by
 apply List.ext_getElem?
 intro j
 by_cases hj : j < n * 11
 ·rw [zbg hj, zbg hj, h (j / 11) (by omega) (j % 11) (by omega)]
 ·rw [List.getElem?_eq_none (by rw [zbe]; omega), List.getElem?_eq_none (by rw [zbe]; omega)]
theorem kRow_zero (n : Nat) : zeros (v11 fun _ => 0) n = kRow n fun _ _ => 0 := by
 have hl : (v11 fun _ => 0).length = 11 := rfl
 apply List.ext_getElem?
 intro j
 by_cases hj : j < n * 11
 ·rw [zbg hj, zeros_get _ _ _ (by rw [hl]; exact hj), hl, zam _ (by omega)]
 ·rw [List.getElem?_eq_none (by rw [zeros_length, hl]; omega), List.getElem?_eq_none (by rw [zbe]; omega)]
theorem Rd.part {f : Frag} {A : List HP} {b off : Nat} {big l : List Value} (h : Rd f A b 0 big) (hl : ∀ i, i < l.length → big[off + i]? = l[i]?) (hle : off + l.length ≤ big.length) : Rd f A b off l := fun base w s => by
 obtain ⟨cs, t, fr, h1, h2⟩ := h base w s
 exact ⟨cs, t, fr, h1, fun i hi => by rw [← hl i hi, ← h2 (off + i) (by omega), Nat.zero_add]⟩
theorem Rd.kRow {f : Frag} {A : List HP} {b n o : Nat} {kv : Nat → Nat → Int} (h : Rd f A b 0 (kRow n kv)) (ho : o < n) : Rd f A b (o * 11) (v11 (kv o)) :=
 h.part (fun i hi => by
  have hi : i < 11 := hi
  rw [kRow_get ho hi, zam _ hi]) (by rw [zbe]; show o * 11 + 11 ≤ _; omega)
theorem v11_upd (d : Nat → Int) (v : Int) {k : Nat} (h : k < 11) : SetV (v11 d) k (.int .u64 v) (v11 (updF d k v)) := by
 have e : v11 (updF d k v) = (v11 d).set k (.int .u64 v) := by
  match k, h with
  | 0, _ => rfl
  | 1, _ => rfl
  | 2, _ => rfl
  | 3, _ => rfl
  | 4, _ => rfl
  | 5, _ => rfl
  | 6, _ => rfl
  | 7, _ => rfl
  | 8, _ => rfl
  | 9, _ => rfl
  | 10, _ => rfl
 rw [e]
 exact SetV.mk _ h
theorem v11_congr {a b : Nat → Int} (h : ∀ i, i < 11 → a i = b i) : v11 a = v11 b := v11_iff.2 h
def KAt (f : Frag) (kb n : Nat) (kv : Nat → Nat → Int) : Prop := ∃ T, f kb = some (.cells (kRow n kv).toArray T (0, 0))
theorem KAt.mono {f g : Frag} (h : Le f g) {kb n : Nat} {kv : Nat → Nat → Int} (hk : KAt f kb n kv) : KAt g kb n kv := by
 obtain ⟨T, hk⟩ := hk
 exact ⟨T, h _ _ hk⟩
theorem KAt.of {kb n : Nat} {T : TypeId} {kv : Nat → Nat → Int} {f g : Frag} (h : row kb T (kRow n kv) g) (hd : Dj f g) : KAt (un f g) kb n kv := by
 have hg : g = sing kb (.cells (kRow n kv).toArray T (0, 0)) := h
 refine ⟨T, Le.right hd _ _ ?_⟩
 rw [hg]; simp [sing]
section
variable (f : Frag) (F : List HP)
end
end Go.Proofs.YtoigpgdmignaoaaGreatDoor

namespace Go.Proofs.YtoigpgdmignaoaaGreatDoor
open Go
theorem updF_lt {d : Nat → Int} {i : Nat} : updF (fun j => if j < i then d j else 0) i (d i) = fun j => if j < i + 1 then d j else 0 := by
 funext j
 show (if j = i then d i else if j < i then d j else 0) = if j < i + 1 then d j else 0
 by_cases e : j = i
 ·subst e; rw [if_pos rfl, if_pos (by omega)]
 ·rw [if_neg e]
  by_cases h : j < i
  ·rw [if_pos h, if_pos (by omega)]
  ·rw [if_neg h, if_neg (by omega)]
theorem c11_rd {f : Frag} {A A' : List HP} {lb n : Nat} {l : List MV} {i : LP} (h : At A (row lb 120 (loreCells n l i)) A' (row lb 120 (loreCells n l i))) : Rd f A lb (0 + 1) (c11 (fun k => .slice (i.P k) (strmV l k).length (i.C k))) := by
 have h1 := Rd.ofRow (f := f) h
 unfold loreCells at h1
 exact h1.sub rfl
theorem knownS_len (l : List MV) (k : Nat) : knownS (strm (l.map MV.m)) k = ((strmV l k).length : Nat) := by
 show (((strm (l.map MV.m) k).length : Nat) : Int) = _
 rw [← strmV_map, List.length_map]
theorem strmV_le (l : List MV) (k : Nat) : (strmV l k).length ≤ l.length := List.length_filter_le _ _
section
variable (f : Frag) (F : List HP)
set_option maxHeartbeats 800000 in
theorem known_fn {fl : Frag} {lb n : Nat} {l : List MV} : Fn Tryz.prog 20 [.pointer (some ⟨lb, 0, none⟩)] f (loreH fl lb n l :: F) (Ret (.agg (v11 (knownS (strm (l.map MV.m)))).toArray) f (loreH fl lb n l :: F)) := by
 have hk := knownS_len l
 generalize knownS (strm (l.map MV.m)) = kn at hk ⊢
 have hle := strmV_le l
 refine Fn.unpack fun i hi => ?_
 have hll := hi.2.1
 refine Fn.enter Tryz.func20 rfl Tryz.ntmps20 rfl (L := [(0, _)]) ⟨rfl, trivial⟩ fun base => ?_
 refine gC ?_
 refine H.Au (ls := v11 fun _ => 0) rfl rfl rfl fun ob => ?_
 refine gQ ?_
 refine H.Ah (ls := c11 (fun k => .slice (i.P k) (strmV l k).length (i.C k))) rfl rfl rfl (c11_rd (.there _ (.here _ _ _))) rfl rfl ?_
 refine gf ?_
 refine H.Ax (ι := Nat) (fun k => [(11, .int .i64 (k : Int)), (10, .agg (c11 (fun k => .slice (i.P k) (strmV l k).length (i.C k))).toArray), (2, .pointer (some ⟨ob, 0, none⟩))]) (fun _ => f)
  (fun k => row ob 37 (v11 fun j => if j < k then kn j else 0) :: row lb 120 (loreCells n l i) :: fam (strH l i) 11 :: ordH l i :: F) (fun k => k ≤ 11) (fun k => 11 - k) 0 (Nat.zero_le _) ⟨rfl, rfl, rfl, trivial⟩ rfl rfl fun k hk11 => ?_
 have hk11 : k ≤ 11 := hk11
 by_cases hlt : k < 11
 ·have h1 := hle k
  have h2 := hk k
  refine gL ?_
  refine H.indexV (i := k) rfl rfl rfl rfl hlt rfl (c11_get _ hlt) rfl ?_
  refine gI ?_
  refine H.Aw (i := k) rfl rfl rfl rfl hlt rfl ?_
  refine H.Bj (v := .int .u64 (kn k)) (ls' := v11 fun j => if j < k + 1 then kn j else 0) rfl rfl (by rw [h2]; rfl) rfl (.here _ _ _) (by rw [Nat.mul_one, Nat.zero_add, ← updF_lt]; exact v11_upd _ _ hlt) ?_
  refine gI ?_
  exact H.Am (k + 1) (by show k + 1 ≤ 11; omega) (by show 11 - (k + 1) < 11 - k; omega) ⟨rfl, rfl, rfl, trivial⟩ rfl rfl
 ·have e : k = 11 := by omega
  subst e
  have e : (v11 fun j => if j < 11 then kn j else 0) = v11 kn := v11_congr fun j hj => if_pos hj
  rw [e]
  refine gV ?_
  refine H.Ah (ls := v11 kn) rfl rfl rfl (Rd.ofRow (.here _ _ _)) rfl rfl ?_
  refine H.Ak (ls := v11 kn) (vs := v11 kn) (ls' := v11 kn) rfl rfl rfl (zad rfl) rfl rfl (Nat.le_refl 11) (.here _ _ _) ?_
  refine gf ?_
  exact H.Ba rfl rfl rfl (Rd.ofRow (.here _ _ _)) rfl (fun _ s => (s.drop (.here _ _)).imp (zau i hi)) ⟨rfl, rfl, rfl⟩
/-! ### slices.ContainsFunc -/
def idxI {α : Type} (pr : α → Bool) (l : List α) : Int := match l.findIdx? pr with
 | some i => (i : Nat)
 | none => -1
theorem idxI_any {α : Type} (pr : α → Bool) (l : List α) : decide (0 ≤ idxI pr l) = l.any pr := by
 unfold idxI
 cases h : l.findIdx? pr with
 | none =>
  rw [List.findIdx?_eq_none_iff] at h
  have : l.any pr = false := by rw [List.any_eq_false]; intro x hx; simp [h x hx]
  rw [this]; decide
 | some i =>
  obtain ⟨hi, h1, _⟩ := List.findIdx?_eq_some_iff_getElem.1 h
  have : l.any pr = true := by rw [List.any_eq_true]; exact ⟨l[i], List.getElem_mem hi, h1⟩
  rw [this]; exact decide_eq_true (show (0 : Int) ≤ (i : Nat) by omega)
theorem idxI_at {α : Type} {pr : α → Bool} {l : List α} {i : Nat} {x : α} (h : l[i]? = some x) (hp : pr x = true) (hb : ∀ j y, j < i → l[j]? = some y → pr y = false) : idxI pr l = (i : Nat) := by
 have hi : i < l.length := by
  rcases Nat.lt_or_ge i l.length with h1 | h1
  ·exact h1
  ·rw [List.getElem?_eq_none h1] at h; cases h
 have hx : l[i] = x := by rw [List.getElem?_eq_getElem hi] at h; exact Option.some.inj h
 have : l.findIdx? pr = some i := List.findIdx?_eq_some_iff_getElem.2 ⟨hi, by rw [hx]; exact hp, fun j hj => by
  have := hb j l[j] hj (List.getElem?_eq_getElem (by omega))
  simp [this]⟩
 unfold idxI
 rw [this]
theorem idxI_none {α : Type} {pr : α → Bool} {l : List α} (hb : ∀ j y, j < l.length → l[j]? = some y → pr y = false) : idxI pr l = -1 := by
 have : l.findIdx? pr = none := by
  rw [List.findIdx?_eq_none_iff]
  intro x hx
  obtain ⟨j, hj⟩ := List.getElem?_of_mem hx
  rcases Nat.lt_or_ge j l.length with h1 | h1
  ·exact hb j x h1 hj
  ·rw [List.getElem?_eq_none h1] at hj; cases hj
 unfold idxI
 rw [this]
theorem idxQ_fn {p : Option Addr} {c : Nat} {q : List (Int × Int)} (hq : QAt f p q) (hl : q.length ≤ 1000000000) {fid : FuncId} {cs : List Value} [Fun Tryz.prog fid] (pr : Int × Int → Bool)
  (hc : ∀ x, x ∈ q → Fn Tryz.prog fid ([] ++ [.agg (pairV x).toArray] ++ cs) f F (Ret (.bool (pr x)) f F)) :
  Fn Tryz.prog 101 [.slice p q.length c, .func (.func fid) #[] cs.toArray] f F (Ret (.int .i64 (idxI pr q)) f F) := by
 refine Fn.enter Tryz.func101 rfl Tryz.ntmps101 rfl (L := [(0, _), (1, _)]) ⟨rfl, rfl, trivial⟩ fun base => ?_
 refine gf ?_
 refine H.Ax (ι := Nat) (fun i => [(8, .int .i64 (i : Int)), (7, .int .i64 (q.length : Nat)), (0, .slice p q.length c), (1, .func (.func fid) #[] cs.toArray)]) (fun _ => f) (fun _ => F) (fun i => i ≤ q.length ∧ ∀ j y, j < i → q[j]? = some y → pr y = false) (fun i => q.length - i) 0 ⟨Nat.zero_le _, fun j y hj => by omega⟩ ⟨rfl, rfl, rfl, rfl, trivial⟩ rfl rfl fun i hi => ?_
 obtain ⟨hi, hb⟩ : i ≤ q.length ∧ ∀ j y, j < i → q[j]? = some y → pr y = false := hi
 by_cases hlt : i < q.length
 ·have hx : q[i]? = some q[i] := List.getElem?_eq_getElem hlt
  generalize q[i] = x at hx
  have hxm := List.mem_of_getElem? hx
  obtain ⟨b, off, cs2, T, fr, rfl, hfb, hcs⟩ := hq i x hx
  have rd : ∀ A, Rd f A b (off + i * 2) (pairV x) := fun A => Rd.imm hfb hcs
  have hcx := hc x hxm
  refine gL ?_
  refine H.Ar rfl rfl rfl rfl hlt rfl ?_
  refine H.Ah (ls := pairV x) rfl rfl rfl (rd _) rfl rfl ?_
  cases hp : pr x with
  | true =>
   rw [hp] at hcx
   refine H.callVR (fs := []) (cs := cs) rfl rfl rfl rfl hcx ?_
   refine gG ?_
   refine H.Ac rfl rfl (fun _ h => h) ⟨?_, rfl, rfl⟩
   rw [idxI_at hx hp hb]
  | false =>
   rw [hp] at hcx
   refine H.callVR (fs := []) (cs := cs) rfl rfl rfl rfl hcx ?_
   refine gV ?_
   refine H.Am (i + 1) ⟨by show i + 1 ≤ q.length; omega, fun j y hj hy => ?_⟩ (by show q.length - (i + 1) < q.length - i; omega) ⟨rfl, rfl, rfl, rfl, trivial⟩ rfl rfl
   by_cases e : j = i
   ·subst e; rw [hx] at hy; cases hy; exact hp
   ·exact hb j y (by omega) hy
 ·have e : i = q.length := by omega
  subst e
  refine gH ?_
  refine H.Ac rfl rfl (fun _ h => h) ⟨?_, rfl, rfl⟩
  rw [idxI_none hb]
theorem hasQ_fn {p : Option Addr} {c : Nat} {q : List (Int × Int)} (hq : QAt f p q) (hl : q.length ≤ 1000000000) {fid : FuncId} {cs : List Value} [Fun Tryz.prog fid] (pr : Int × Int → Bool)
  (hc : ∀ x, x ∈ q → Fn Tryz.prog fid ([] ++ [.agg (pairV x).toArray] ++ cs) f F (Ret (.bool (pr x)) f F)) :
  Fn Tryz.prog 79 [.slice p q.length c, .func (.func fid) #[] cs.toArray] f F (Ret (.bool (q.any pr)) f F) := by
 have h1 := idxI_any pr q
 refine Fn.enter Tryz.func79 rfl Tryz.ntmps79 rfl (L := [(0, _), (1, _)]) ⟨rfl, rfl, trivial⟩ fun base => ?_
 refine gO ?_
 refine H.Ad rfl rfl rfl (idxQ_fn f F hq hl pr hc) ?_
 refine gH ?_
 refine H.Ac rfl rfl (fun _ h => h) ⟨?_, rfl, rfl⟩
 rw [← h1]
theorem idxU_fn {p : Option Addr} {m c : Nat} {d : Nat → Int} (hr : ∀ i, i < m → ∃ b off, p = some ⟨b, off, none⟩ ∧ Rd1 f F b (off + i) (.int .u64 (d i))) (hm : m ≤ 1000000000) {fid : FuncId} {cs : List Value} [Fun Tryz.prog fid] (pr : Int → Bool)
  (hc : ∀ z, Fn Tryz.prog fid ([] ++ [.int .u64 z] ++ cs) f F (Ret (.bool (pr z)) f F)) :
  Fn Tryz.prog 102 [.slice p m c, .func (.func fid) #[] cs.toArray] f F (Ret (.int .i64 (idxI (fun i => pr (d i)) (List.range m))) f F) := by
 refine Fn.enter Tryz.func102 rfl Tryz.ntmps102 rfl (L := [(0, _), (1, _)]) ⟨rfl, rfl, trivial⟩ fun base => ?_
 refine gf ?_
 refine H.Ax (ι := Nat) (fun i => [(8, .int .i64 (i : Int)), (7, .int .i64 (m : Nat)), (0, .slice p m c), (1, .func (.func fid) #[] cs.toArray)]) (fun _ => f) (fun _ => F) (fun i => i ≤ m ∧ ∀ j, j < i → pr (d j) = false) (fun i => m - i) 0 ⟨Nat.zero_le _, fun j hj => by omega⟩ ⟨rfl, rfl, rfl, rfl, trivial⟩ rfl rfl fun i hi => ?_
 obtain ⟨hi, hb⟩ : i ≤ m ∧ ∀ j, j < i → pr (d j) = false := hi
 by_cases hlt : i < m
 ·obtain ⟨b, off, rfl, hrd⟩ := hr i hlt
  have hcx := hc (d i)
  refine gL ?_
  refine H.Cg (i := i) rfl rfl rfl rfl hlt rfl ?_
  refine H.Af rfl rfl rfl hrd rfl ?_
  cases hp : pr (d i) with
  | true =>
   rw [hp] at hcx
   refine H.callVR (fs := []) (cs := cs) rfl rfl rfl rfl hcx ?_
   refine gG ?_
   refine H.Ac rfl rfl (fun _ h => h) ⟨?_, rfl, rfl⟩
   rw [idxI_at (i := i) (x := i) (by rw [List.getElem?_range hlt]) hp fun j y hj hy => by
    rw [List.getElem?_range (by omega)] at hy; cases hy; exact hb j hj]
  | false =>
   rw [hp] at hcx
   refine H.callVR (fs := []) (cs := cs) rfl rfl rfl rfl hcx ?_
   refine gV ?_
   refine H.Am (i + 1) ⟨by show i + 1 ≤ m; omega, fun j hj => ?_⟩ (by show m - (i + 1) < m - i; omega) ⟨rfl, rfl, rfl, rfl, trivial⟩ rfl rfl
   by_cases e : j = i
   ·subst e; exact hp
   ·exact hb j (by omega)
 ·have e : i = m := by omega
  subst e
  refine gH ?_
  refine H.Ac rfl rfl (fun _ h => h) ⟨?_, rfl, rfl⟩
  rw [idxI_none fun j y hj hy => by
   have hj : j < i := by rw [List.length_range] at hj; exact hj
   rw [List.getElem?_range hj] at hy; cases hy; exact hb j hj]
theorem hasU_fn {p : Option Addr} {m c : Nat} {d : Nat → Int} (hr : ∀ i, i < m → ∃ b off, p = some ⟨b, off, none⟩ ∧ Rd1 f F b (off + i) (.int .u64 (d i))) (hm : m ≤ 1000000000) {fid : FuncId} {cs : List Value} [Fun Tryz.prog fid] (pr : Int → Bool)
  (hc : ∀ z, Fn Tryz.prog fid ([] ++ [.int .u64 z] ++ cs) f F (Ret (.bool (pr z)) f F)) :
  Fn Tryz.prog 81 [.slice p m c, .func (.func fid) #[] cs.toArray] f F (Ret (.bool ((List.range m).any fun i => pr (d i))) f F) := by
 have h1 := idxI_any (fun i => pr (d i)) (List.range m)
 refine Fn.enter Tryz.func81 rfl Tryz.ntmps81 rfl (L := [(0, _), (1, _)]) ⟨rfl, rfl, trivial⟩ fun base => ?_
 refine gO ?_
 refine H.Ad rfl rfl rfl (idxU_fn f F hr hm pr hc) ?_
 refine gH ?_
 refine H.Ac rfl rfl (fun _ h => h) ⟨?_, rfl, rfl⟩
 rw [← h1]
theorem fits1_fn {lb pb n : Nat} {l : List MV} {i : LP} (x : Int × Int) : Fn Tryz.prog 80 ([] ++ [.agg (pairV x).toArray] ++ [.pointer (some ⟨pb, 0, none⟩)]) f (row pb 27 [.pointer (some ⟨lb, 0, none⟩)] :: row lb 120 (loreCells n l i) :: F)
  (Ret (.bool (decide ((n : Int) < x.1))) f (row pb 27 [.pointer (some ⟨lb, 0, none⟩)] :: row lb 120 (loreCells n l i) :: F)) := by
 refine Fn.enter Tryz.func80 rfl Tryz.ntmps80 rfl (L := [(0, _), (1, _)]) ⟨rfl, rfl, trivial⟩ fun base => ?_
 refine gC ?_
 refine H.box (ls := pairV x) rfl rfl rfl rfl fun qb => ?_
 refine gO ?_
 refine H.Bg (by kernel_rfl) (by decide +kernel) (by repeat (first | exact zab | refine zaa ?_ | refine zac ?_ | refine zae ?_)) ?_
 refine ge ?_
 refine gf ?_
 refine H.Ab (.here _ _) ?_
 exact H.Ac rfl rfl (fun _ h => h) ⟨rfl, rfl, rfl⟩
theorem fits2_fn (z : Int) : Fn Tryz.prog 82 ([] ++ [.int .u64 z] ++ []) f F (Ret (.bool (decide (0 < z))) f F) := by
 refine Fn.enter Tryz.func82 rfl Tryz.ntmps82 rfl (L := [(0, _)]) ⟨rfl, trivial⟩ fun base => ?_
 refine gH ?_
 exact H.Ac rfl rfl (fun _ h => h) ⟨rfl, rfl, rfl⟩
end
theorem any_all {α : Type} (l : List α) (p : α → Bool) (q : α → Bool) (h : ∀ x, q x = !p x) : l.all q = !l.any p := by
 induction l with
 | nil => rfl
 | cons a l ih => rw [List.all_cons, List.any_cons, ih, h, Bool.not_or]
theorem deps_any {n : Nat} (hn : n ≤ 11) (d : Nat → Int) : ((List.range 11).all fun i => decide (i < n) || decide (d i ≤ 0)) = !(List.range (11 - n)).any fun i => decide (0 < d (n + i)) := by
 cases h : (List.range (11 - n)).any fun i => decide (0 < d (n + i)) with
 | true =>
  rw [List.any_eq_true] at h
  obtain ⟨i, hi, h⟩ := h
  have hi := List.mem_range.1 hi
  rw [Bool.not_true, List.all_eq_false]
  refine ⟨n + i, List.mem_range.2 (by omega), ?_⟩
  have h := of_decide_eq_true h
  rw [decide_eq_false (by omega), decide_eq_false (by omega)]; decide
 | false =>
  rw [List.any_eq_false] at h
  rw [Bool.not_false, List.all_eq_true]
  intro i hi
  have hi := List.mem_range.1 hi
  rw [Bool.or_eq_true, decide_eq_true_eq, decide_eq_true_eq]
  by_cases hlt : i < n
  ·exact .inl hlt
  ·have := h (i - n) (List.mem_range.2 (by omega))
   rw [decide_eq_true_eq, show n + (i - n) = i by omega] at this
   exact .inr (by omega)
theorem fitsB_q {n : Nat} (hn : n ≤ 11) {m : Msg} (h1 : m.may = true) (h2 : m.origin ≤ (n : Int)) : fitsB n m = (!(m.body.q.any fun p => decide ((n : Int) < p.1)) && !(List.range (11 - n)).any fun i => decide (0 < m.deps (n + i))) := by
 unfold fitsB
 rw [h1, decide_eq_true h2, deps_any hn, any_all m.body.q (fun p => decide ((n : Int) < p.1)) (fun p => decide (p.1 ≤ (n : Int))) fun p => by
  by_cases h : (n : Int) < p.1
  ·rw [decide_eq_true h, decide_eq_false (by omega)]; rfl
  ·rw [decide_eq_false h, decide_eq_true (by omega)]; rfl]
 rfl
section
variable (f : Frag) (F : List HP)
set_option maxHeartbeats 1600000 in
theorem fits_fn {lb n : Nat} {l : List MV} {i : LP} (hn : n ≤ 11) {x : MV} (hx : x.Good f) : Fn Tryz.prog 57 [.pointer (some ⟨lb, 0, none⟩), .agg x.vals.toArray] f (row lb 120 (loreCells n l i) :: F)
  (Ret (.bool (fitsB n x.m)) f (row lb 120 (loreCells n l i) :: F)) := by
 have hmay := fun G => mmay_fn f G hx
 by_cases hm : x.m.may = true
 ·rw [hm] at hmay
  by_cases ho : x.m.origin ≤ (n : Int)
  ·rw [fitsB_q hn hm ho]
   refine Fn.enter Tryz.func57 rfl Tryz.ntmps57 rfl (L := [(0, _), (1, _)]) ⟨rfl, rfl, trivial⟩ fun base => ?_
   refine gC ?_
   refine H.box (ls := [.pointer (some ⟨lb, 0, none⟩)]) rfl rfl rfl rfl fun pb => ?_
   refine H.box (ls := x.vals) rfl rfl rfl rfl fun mb => ?_
   refine gO ?_
   refine H.Az (by kernel_rfl) (by decide +kernel) (by repeat (first | exact zab | refine zaa ?_ | refine zac ?_ | refine zae ?_)) (S := [_, _, _]) rfl ?_
   refine HB.Ag [(0, false)] 11 (by kernel_rfl) ?_
   refine HQ.Ah (ls := x.vals) rfl rfl rfl (Rd.ofRow (.here _ _ _)) rfl rfl ?_
   refine HQ.Ae rfl ?_
   refine HB.ev1 (i := 1) (by kernel_rfl) rfl ?_
   refine H.Ad rfl rfl rfl (hmay _) ?_
   refine gC ?_
   refine H.on0 rfl ?_
   refine HB.Ag [(2, false), (3, false), (4, false), (5, false), (6, false), (7, false), (8, false), (9, false), (10, false), (11, false)] 0 (by kernel_rfl) ?_
   refine ge ?_
   refine HQ.Ae rfl ?_
   refine HB.Al (by kernel_rfl) ?_
   refine gX ?_
   refine H.Aa (x := row lb _ _) (by repeat constructor) ?_
   refine H.Aa (x := row pb _ _) (by repeat constructor) ?_
   have hq : x.m.body.q.length ≤ 1000000000 := by have := hx.2.1; omega
   refine H.Ad rfl rfl rfl (hasQ_fn f _ (c := x.qc) hx.1 hq (fun p => decide ((n : Int) < p.1)) fun p _ => fits1_fn f _ p) ?_
   cases hany : x.m.body.q.any fun p => decide ((n : Int) < p.1) with
   | true =>
    refine H.not (b := true) (c := false) rfl rfl rfl rfl ?_
    refine ga ?_
    refine H.Ab (.here _ _) ?_
    refine H.Ab (x := row mb _ _) (by repeat constructor) ?_
    exact H.Ac rfl rfl (fun _ h => h) ⟨rfl, rfl, rfl⟩
   | false =>
    refine H.not (b := false) (c := true) rfl rfl rfl rfl ?_
    repeat (first | ((first | apply H.Aj | apply H.Be); (iterate 3 exact rfl)) | (apply H.Av; (iterate 3 exact rfl); exact inferInstance; exact rfl) | (apply H.Af; (iterate 3 exact rfl); apply Rd1.ofRow; (repeat (first | exact .here _ _ _ | apply At.there)); (iterate 2 exact rfl)))
    refine H.Cd (lo := some _) (hi := none) (mx := none) (lv := n) (hv := 11) (mv := 11) rfl rfl ⟨_, _, rfl, rfl⟩ rfl rfl (fun h => by cases h) hn (by decide) (by decide) rfl ?_
    skip
    refine H.Ad rfl rfl rfl (hasU_fn f _ (p := slP (some ⟨mb, 2, none⟩) n 11 1) (m := 11 - n) (c := 11 - n) (d := fun i => x.m.deps (n + i)) (fun i hi => ⟨mb, 2 + n, by unfold slP; rw [if_neg (by omega)]; show some (Addr.add ⟨mb, 2, none⟩ (n * 1)) = _; rw [zap, Nat.mul_one], ?_⟩) (by omega) (fun z => decide (0 < z)) fun z => fits2_fn f _ z) ?_
    ·rw [show 2 + n + i = 2 + (n + i) by omega]
     exact Rd1.of (off := 2) (zan (m := x.m) (q := x.qp) (qc := x.qc) (.there _ (.there _ (.here _ _ _)))) (zam x.m.deps (by omega))
    generalize (List.range (11 - n)).any (fun i => decide (0 < x.m.deps (n + i))) = b
    refine H.not (b := b) (c := !b) rfl rfl rfl rfl ?_
    refine gT ?_
    refine H.Ab (.here _ _) ?_
    refine H.Ab (x := row mb _ _) (by repeat constructor) ?_
    exact H.Ac rfl rfl (fun _ h => h) ⟨rfl, rfl, rfl⟩
  ·have e : fitsB n x.m = false := by unfold fitsB; rw [decide_eq_false ho]; simp
   rw [e]
   refine Fn.enter Tryz.func57 rfl Tryz.ntmps57 rfl (L := [(0, _), (1, _)]) ⟨rfl, rfl, trivial⟩ fun base => ?_
   refine gC ?_
   refine H.box (ls := [.pointer (some ⟨lb, 0, none⟩)]) rfl rfl rfl rfl fun pb => ?_
   refine H.box (ls := x.vals) rfl rfl rfl rfl fun mb => ?_
   refine gO ?_
   refine H.Az (by kernel_rfl) (by decide +kernel) (by repeat (first | exact zab | refine zaa ?_ | refine zac ?_ | refine zae ?_)) (S := [_, _, _]) rfl ?_
   refine HB.Ag [(0, false)] 11 (by kernel_rfl) ?_
   refine HQ.Ah (ls := x.vals) rfl rfl rfl (Rd.ofRow (.here _ _ _)) rfl rfl ?_
   refine HQ.Ae rfl ?_
   refine HB.ev1 (i := 1) (by kernel_rfl) rfl ?_
   refine H.Ad rfl rfl rfl (hmay _) ?_
   refine gC ?_
   refine H.on0 rfl ?_
   refine HB.Ag [(2, false), (3, false), (4, false), (5, false), (6, false), (7, false), (8, false), (9, false), (10, false), (11, false)] 0 (by kernel_rfl) ?_
   refine ge ?_
   refine HQ.Ae rfl ?_
   refine HB.Al (by kernel_rfl) ?_
   refine gL ?_
   refine H.Ab (.here _ _) ?_
   refine H.Ab (.here _ _) ?_
   exact H.Ac rfl rfl (fun _ h => h) ⟨rfl, rfl, rfl⟩
 ·have hm : x.m.may = false := Bool.eq_false_iff.2 hm
  have e : fitsB n x.m = false := by unfold fitsB; rw [hm]; rfl
  rw [hm] at hmay
  rw [e]
  refine Fn.enter Tryz.func57 rfl Tryz.ntmps57 rfl (L := [(0, _), (1, _)]) ⟨rfl, rfl, trivial⟩ fun base => ?_
  refine gC ?_
  refine H.box (ls := [.pointer (some ⟨lb, 0, none⟩)]) rfl rfl rfl rfl fun pb => ?_
  refine H.box (ls := x.vals) rfl rfl rfl rfl fun mb => ?_
  refine gO ?_
  refine H.Az (by kernel_rfl) (by decide +kernel) (by repeat (first | exact zab | refine zaa ?_ | refine zac ?_ | refine zae ?_)) (S := [_, _, _]) rfl ?_
  refine HB.Ag [(0, false)] 11 (by kernel_rfl) ?_
  refine HQ.Ah (ls := x.vals) rfl rfl rfl (Rd.ofRow (.here _ _ _)) rfl rfl ?_
  refine HQ.Ae rfl ?_
  refine HB.ev1 (i := 1) (by kernel_rfl) rfl ?_
  refine H.Ad rfl rfl rfl (hmay _) ?_
  refine gC ?_
  refine H.on0 rfl ?_
  refine HB.Ag [(2, false), (3, false), (4, false), (5, false), (6, false), (7, false), (8, false), (9, false), (10, false), (11, false)] 0 (by kernel_rfl) ?_
  refine gN ?_
  refine HQ.Ae rfl ?_
  refine HB.Al (by kernel_rfl) ?_
  refine gG ?_
  refine H.Ab (.here _ _) ?_
  refine H.Ab (.here _ _) ?_
  exact H.Ac rfl rfl (fun _ h => h) ⟨rfl, rfl, rfl⟩
end
end Go.Proofs.YtoigpgdmignaoaaGreatDoor
