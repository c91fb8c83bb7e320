/- Parts of the proof, one behind the other, each under its own heading. No conditions. -/
import Derived.Test.YtdcjlgigcbinjaaGreatDoorZ03
set_option linter.unusedSectionVars false
set_option linter.unusedSimpArgs false
set_option linter.unusedVariables false
/- Layer 8, messages: how each kind of body is put; which fields may be. -/
namespace Go.Proofs.YtdcjlgigcbinjaaGreatDoor
open Go
theorem u8_b8 (z : Int) : IntKind.u8.wrap z = ((b8 z).toNat : Int) := u8_wrap z
theorem zaz {f : Frag} {A A' : List HP} {xb : Nat} {T : TypeId} {x : Bod} {q : Option Addr} {qc : Nat} (h : At A (row xb T (x.vals q qc)) A' (row xb T (x.vals q qc))) : Rd f A xb (0 + 3) x.req.vals := by
 have h1 := Rd.ofRow (f := f) h
 have e : x.vals q qc = [.int .u8 (x.kind.toNat : Nat), .int .u64 x.view, .int .u64 x.k] ++ x.req.vals ++ ([.slice q x.q.length qc] ++ b32 x.dig) := rfl
 rw [e] at h1
 exact h1.sub rfl
theorem row_rtag {f : Frag} {A A' : List HP} {xb : Nat} {T : TypeId} {x : Bod} {q : Option Addr} {qc : Nat} (h : At A (row xb T (x.vals q qc)) A' (row xb T (x.vals q qc))) : Rd f A xb (0 + 3 + 8) (bytesV (b32L x.req.tag)) := by
 have h1 := Rd.ofRow (f := f) h
 have e : x.vals q qc = ([.int .u8 (x.kind.toNat : Nat), .int .u64 x.view, .int .u64 x.k] ++ [.int .i64 x.req.client, .int .u64 x.req.time, .int .u8 (x.req.kind.toNat : Nat), .string x.req.key, .string x.req.val, .string x.req.old, .string x.req.to, .int .u64 x.req.amount]) ++ bytesV (b32L x.req.tag) ++ ([.slice q x.q.length qc] ++ b32 x.dig) := rfl
 rw [e] at h1
 exact h1.sub rfl
theorem row_dig {f : Frag} {A A' : List HP} {xb : Nat} {T : TypeId} {x : Bod} {q : Option Addr} {qc : Nat} (h : At A (row xb T (x.vals q qc)) A' (row xb T (x.vals q qc))) : Rd f A xb (0 + 44) (bytesV (b32L x.dig)) := by
 have h1 := Rd.ofRow (f := f) h
 have e : x.vals q qc = ([.int .u8 (x.kind.toNat : Nat), .int .u64 x.view, .int .u64 x.k] ++ x.req.vals ++ [.slice q x.q.length qc]) ++ bytesV (b32L x.dig) ++ [] := (List.append_nil _).symm
 rw [e] at h1
 exact h1.sub rfl
theorem Req.bytes_len (r : Req) : r.bytes.length = 26 + r.key.size + r.val.size + r.old.size + r.to.size := by
 unfold Req.bytes textB
 simp only [List.length_append, be_len, data_len]
 show 2 + 8 + 8 + _ + _ + _ + _ = _
 omega
section
variable (f : Frag) (A : List HP) (x : Bod) (q : Option Addr) (qc : Nat)
theorem may_prepare : Fn Tryz.prog 138 [.agg (x.vals q qc).toArray] f A (Ret (.bool (decide x.req.asked)) f A) := by
 refine Fn.enter Tryz.func138 rfl Tryz.ntmps138 rfl (L := [(0, _)]) ⟨rfl, trivial⟩ fun base => ?_
 refine gA ?_
 refine H.box (ls := x.vals q qc) rfl rfl rfl rfl fun xb => ?_
 refine gV ?_
 refine H.Ag (ls := x.req.vals) rfl rfl rfl (zaz (by repeat constructor)) rfl rfl ?_
 refine H.Ah rfl rfl rfl (asked_fn f _ x.req) ?_
 refine gX ?_
 refine H.Ab (.here _ _) ?_
 exact H.Ac rfl rfl (fun _ h => h) ⟨rfl, rfl, rfl⟩
theorem may_newview (hq : QAt f q x.q) (hl : x.q.length ≤ 1000000000000) : Fn Tryz.prog 148 [.agg (x.vals q qc).toArray] f A (Ret (.bool (decide (1 ≤ x.view) && (quo 0 x.q && decide (0 < x.q.length)))) f A) := by
 by_cases hv : 1 ≤ x.view
 ·refine Fn.enter Tryz.func148 rfl Tryz.ntmps148 rfl (L := [(0, _)]) ⟨rfl, trivial⟩ fun base => ?_
  refine gA ?_
  refine H.box (ls := x.vals q qc) rfl rfl rfl rfl fun xb => ?_
  refine gc ?_
  refine H.Ah rfl rfl rfl (quorum_fn f _ hq hl) ?_
  refine gU ?_
  refine H.Ab (.here _ _) ?_
  exact H.Ac rfl rfl (fun _ h => h) ⟨by rw [decide_eq_true hv, Bool.true_and], rfl, rfl⟩
 ·refine Fn.enter Tryz.func148 rfl Tryz.ntmps148 rfl (L := [(0, _)]) ⟨rfl, trivial⟩ fun base => ?_
  refine gA ?_
  refine H.box (ls := x.vals q qc) rfl rfl rfl rfl fun xb => ?_
  refine gJ ?_
  refine H.Ab (.here _ _) ?_
  exact H.Ac rfl rfl (fun _ h => h) ⟨by rw [decide_eq_false hv, Bool.false_and], rfl, rfl⟩
theorem put_commit {p : Option Addr} {c : Nat} {l : List UInt8} (hs : Src Tryz.prog f A (.slice p l.length c) 1 l.length (bytesV l)) (hn : p = none → l = []) (hl : l.length ≤ 100000000) :
  Fn Tryz.prog 140 [.slice p l.length c, .agg (x.vals q qc).toArray] f A (BytesR (l ++ (be 8 x.view ++ be 8 x.k)) f A) := by
 refine Fn.enter Tryz.func140 rfl Tryz.ntmps140 rfl (L := [(0, _), (1, _)]) ⟨rfl, rfl, trivial⟩ fun base => ?_
 refine gA ?_
 refine H.box (ls := x.vals q qc) rfl rfl rfl rfl fun xb => ?_
 refine gO ?_
 refine H.Ay (by kernel_rfl) (by decide +kernel) (by repeat (first | exact zab | refine zaa ?_ | refine zac ?_ | refine zad ?_)) (S := [_]) rfl ?_
 refine HB.Af [(0, false), (1, false), (2, false), (4, false), (5, false)] 3 (by kernel_rfl) ?_
 refine gE ?_
 refine HQ.Ae rfl ?_
 refine HB.ev1 (i := 3) (by kernel_rfl) rfl ?_
 refine H.Az rfl rfl rfl (word_fn f _ hs.cons hn (by omega)) fun p1 c1 => ?_
 refine gA ?_
 refine H.Aa (.there _ (.here _ _)) ?_
 refine H.on0 rfl ?_
 refine HB.ev1 (i := 6) (by kernel_rfl) rfl ?_
 have h1 : (l ++ be 8 x.view).length = l.length + 8 := by rw [List.length_append, be_len]
 generalize hl1 : l ++ be 8 x.view = l1 at h1
 refine H.Bp (.there _ (.here _ _ _)) (by omega) fun b3 hp => ?_
 subst hp
 refine H.Az rfl rfl rfl (word_fn (l := l1) f _ (Src.slcS (.there _ (.here _ _ _)) (by rw [zaf]; exact (Nat.mul_one _).symm)) (fun h => by cases h) (by omega)) fun p4 c4 => ?_
 refine gA ?_
 refine H.Ab (.there _ (.there _ (.here _ _))) ?_
 refine H.Aa (.there _ (.here _ _)) ?_
 refine H.on0 rfl ?_
 refine HB.Af [(7, false)] 0 (by kernel_rfl) ?_
 refine gB ?_
 refine HQ.Ae rfl ?_
 refine HB.Al (by kernel_rfl) ?_
 refine gX ?_
 refine H.Ab (.here _ _) ?_
 exact H.Ac rfl rfl (fun _ h => h) ⟨p4, c4, by rw [← List.append_assoc, hl1], rfl, by rw [← List.append_assoc, hl1]; rfl⟩
theorem put_prepare {p : Option Addr} {c : Nat} {l : List UInt8} (hs : Src Tryz.prog f A (.slice p l.length c) 1 l.length (bytesV l)) (hn : p = none → l = []) (ha : x.req.asked) (hl : l.length ≤ 100000000) :
  Fn Tryz.prog 132 [.slice p l.length c, .agg (x.vals q qc).toArray] f A (BytesR (l ++ (be 8 x.view ++ x.req.bytes ++ b32L x.req.tag)) f A) := by
 have hb : x.req.bytes.length ≤ 1000 := by
  obtain ⟨_, _, _, _, ⟨k1, k2⟩, k3, k4⟩ := ha
  rw [Req.bytes_len]; omega
 refine Fn.enter Tryz.func132 rfl Tryz.ntmps132 rfl (L := [(0, _), (1, _)]) ⟨rfl, rfl, trivial⟩ fun base => ?_
 refine gA ?_
 refine H.box (ls := x.vals q qc) rfl rfl rfl rfl fun xb => ?_
 refine gO ?_
 refine H.Ay (by kernel_rfl) (by decide +kernel) (by repeat (first | exact zab | refine zaa ?_ | refine zac ?_ | refine zad ?_)) (S := [_]) rfl ?_
 refine HB.Af [(0, false), (1, false), (2, false), (4, false), (5, false), (7, false), (8, false), (9, false)] 4 (by kernel_rfl) ?_
 refine gE ?_
 refine HQ.Ag (ls := x.req.vals) rfl rfl rfl (zaz (by repeat constructor)) rfl rfl ?_
 refine gC ?_
 refine HQ.Cf (lo := none) (hi := none) (mx := none) (lv := 0) (hv := 32) (mv := 32) rfl rfl rfl rfl rfl (fun h => by cases h) (by decide) (by decide) (by decide) rfl ?_
 refine HQ.Ae rfl ?_
 refine HB.ev1 (i := 3) (by kernel_rfl) rfl ?_
 refine H.Az rfl rfl rfl (word_fn f _ hs.cons hn (by omega)) fun p1 c1 => ?_
 refine gA ?_
 refine H.Aa (.there _ (.here _ _)) ?_
 refine H.on0 rfl ?_
 refine HB.ev1 (i := 6) (by kernel_rfl) rfl ?_
 have h1 : (l ++ be 8 x.view).length = l.length + 8 := by rw [List.length_append, be_len]
 generalize hl1 : l ++ be 8 x.view = l1 at h1
 refine H.Aa (.there _ (.here _ _)) ?_
 refine H.Az rfl rfl rfl (request_fn f _ x.req ha (by omega)) fun p2 c2 => ?_
 have h2 : (l1 ++ x.req.bytes).length = l1.length + x.req.bytes.length := List.length_append
 generalize hl2 : l1 ++ x.req.bytes = l2 at h2
 refine gA ?_
 refine H.Aa (.there _ (.here _ _)) ?_
 refine H.on0 rfl ?_
 refine HB.ev1 (i := 10) (by kernel_rfl) rfl ?_
 refine H.Bf (m := 32) rfl rfl rfl rfl rfl (fun p' c' => (by repeat constructor)) (Src.slice (row_rtag (by repeat constructor)) rfl) (zai _) rfl (by omega) (by omega) fun p3 c3 => ?_
 refine gA ?_
 refine H.on0 rfl ?_
 refine HB.Af [(11, false)] 0 (by kernel_rfl) ?_
 refine gB ?_
 refine HQ.Ae rfl ?_
 refine HB.Al (by kernel_rfl) ?_
 refine gX ?_
 refine H.Ab (.here _ _) ?_
 have e3 : (l ++ (be 8 x.view ++ x.req.bytes ++ b32L x.req.tag)) = l2 ++ b32L x.req.tag := by rw [← hl2, ← hl1]; simp only [List.append_assoc]
 exact H.Ac rfl rfl (fun _ h => h) ⟨p3, c3, by rw [e3, List.length_append]; rfl, rfl, by rw [e3, List.length_append, zag]; rfl⟩
theorem put_check {p : Option Addr} {c : Nat} {l : List UInt8} (hs : Src Tryz.prog f A (.slice p l.length c) 1 l.length (bytesV l)) (hn : p = none → l = []) (hl : l.length ≤ 100000000) :
  Fn Tryz.prog 150 [.slice p l.length c, .agg (x.vals q qc).toArray] f A (BytesR (l ++ (be 8 x.k ++ b32L x.dig)) f A) := by
 refine Fn.enter Tryz.func150 rfl Tryz.ntmps150 rfl (L := [(0, _), (1, _)]) ⟨rfl, rfl, trivial⟩ fun base => ?_
 refine gA ?_
 refine H.box (ls := x.vals q qc) rfl rfl rfl rfl fun xb => ?_
 refine gO ?_
 refine H.Ay (by kernel_rfl) (by decide +kernel) (by repeat (first | exact zab | refine zaa ?_ | refine zac ?_ | refine zad ?_)) (S := [_]) rfl ?_
 refine HB.Af [(0, false), (1, false), (2, false), (4, false), (5, false)] 3 (by kernel_rfl) ?_
 refine gE ?_
 refine HQ.Cf (lo := none) (hi := none) (mx := none) (lv := 0) (hv := 32) (mv := 32) rfl rfl rfl rfl rfl (fun h => by cases h) (by decide) (by decide) (by decide) rfl ?_
 refine HQ.Ae rfl ?_
 refine HB.ev1 (i := 3) (by kernel_rfl) rfl ?_
 refine H.Az rfl rfl rfl (word_fn f _ hs.cons hn (by omega)) fun p1 c1 => ?_
 refine gA ?_
 refine H.Aa (.there _ (.here _ _)) ?_
 refine H.on0 rfl ?_
 refine HB.ev1 (i := 6) (by kernel_rfl) rfl ?_
 have h1 : (l ++ be 8 x.k).length = l.length + 8 := by rw [List.length_append, be_len]
 generalize hl1 : l ++ be 8 x.k = l1 at h1
 refine H.Bf (m := 32) rfl rfl rfl rfl rfl (fun p' c' => (by repeat constructor)) (Src.slice (row_dig (by repeat constructor)) rfl) (zai _) rfl (by omega) (by omega) fun p3 c3 => ?_
 refine gA ?_
 refine H.on0 rfl ?_
 refine HB.Af [(7, false)] 0 (by kernel_rfl) ?_
 refine gB ?_
 refine HQ.Ae rfl ?_
 refine HB.Al (by kernel_rfl) ?_
 refine gX ?_
 refine H.Ab (.here _ _) ?_
 have e3 : (l ++ (be 8 x.k ++ b32L x.dig)) = l1 ++ b32L x.dig := by rw [← hl1]; simp only [List.append_assoc]
 exact H.Ac rfl rfl (fun _ h => h) ⟨p3, c3, by rw [e3, List.length_append]; rfl, rfl, by rw [e3, List.length_append, zag]; rfl⟩
theorem put_view {p : Option Addr} {c : Nat} {l : List UInt8} (hs : Src Tryz.prog f A (.slice p l.length c) 1 l.length (bytesV l)) (hn : p = none → l = []) (hl : l.length ≤ 100000000) :
  Fn Tryz.prog 183 [.slice p l.length c, .agg (x.vals q qc).toArray] f A (BytesR (l ++ be 8 x.view) f A) := view1_fn f A x q qc hs hn (by omega)
theorem put_newview {p : Option Addr} {c : Nat} {l : List UInt8} (hs : Src Tryz.prog f A (.slice p l.length c) 1 l.length (bytesV l)) (hn : p = none → l = []) (hq : QAt f q x.q) (hql : x.q.length ≤ 1000) (hl : l.length ≤ 100000000) :
  Fn Tryz.prog 144 [.slice p l.length c, .agg (x.vals q qc).toArray] f A (BytesR (l ++ (be 8 x.view ++ [b8 x.q.length] ++ x.q.flatMap pairB)) f A) := by
 have h1 : (l ++ be 8 x.view).length = l.length + 8 := by rw [List.length_append, be_len]
 refine Fn.enter Tryz.func144 rfl Tryz.ntmps144 rfl (L := [(0, _), (1, _)]) ⟨rfl, rfl, trivial⟩ fun base => ?_
 refine gA ?_
 refine H.box (ls := x.vals q qc) rfl rfl rfl rfl fun xb => ?_
 refine gO ?_
 refine H.cut (ι := Option Addr × Nat) (fun i => [(0, .slice i.1 ((l ++ be 8 x.view).length + 1) i.2), (3, .pointer (some ⟨xb, 0, none⟩))]) (fun _ => f) (fun i => row xb 52 (x.vals q qc) :: slc i.1 ((l ++ be 8 x.view).length + 1) i.2 5 1 (bytesV (l ++ be 8 x.view) ++ bytesV [b8 x.q.length]) :: A) (fun _ => True) _ (fun i _ => ?_) ?_
 ·obtain ⟨p1, c1⟩ := i
  generalize hl0 : l ++ be 8 x.view ++ [b8 x.q.length] = l0
  have e0 : l0.length = (l ++ be 8 x.view).length + 1 := by rw [← hl0, List.length_append]; rfl
  have e1 : bytesV l0 = bytesV (l ++ be 8 x.view) ++ bytesV [b8 x.q.length] := by rw [← hl0, zag]
  show H _ _ _ [(0, .slice p1 ((l ++ be 8 x.view).length + 1) c1), _] _ (row _ _ _ :: slc p1 ((l ++ be 8 x.view).length + 1) c1 _ _ (bytesV (l ++ be 8 x.view) ++ bytesV [b8 x.q.length]) :: A) _
  rw [← e0, ← e1]
  refine gY ?_
  refine H.Aw (ι := Nat × Option Addr × Nat) (fun i => [(20, .int .i64 (i.1 : Int)), (19, .int .i64 (x.q.length : Nat)), (18, .slice q x.q.length qc), (0, .slice i.2.1 (l0 ++ (x.q.take i.1).flatMap pairB).length i.2.2), (3, .pointer (some ⟨xb, 0, none⟩))]) (fun _ => f)
   (fun i => row xb 52 (x.vals q qc) :: slc i.2.1 (l0 ++ (x.q.take i.1).flatMap pairB).length i.2.2 5 1 (bytesV (l0 ++ (x.q.take i.1).flatMap pairB)) :: A)
   (fun i => i.1 ≤ x.q.length ∧ (l0 ++ (x.q.take i.1).flatMap pairB).length = l0.length + 9 * i.1) (fun i => x.q.length - i.1) (0, p1, c1) ⟨Nat.zero_le _, by simp⟩ ⟨rfl, rfl, rfl, ?_, rfl, trivial⟩ rfl ?_ fun i hi => ?_
  ·show some (Value.slice p1 l0.length c1) = some (Value.slice p1 (l0 ++ []).length c1)
   rw [List.append_nil]
  ·show _ = _ :: slc p1 (l0 ++ []).length c1 _ 1 (bytesV (l0 ++ [])) :: A
   rw [List.append_nil]
  ·obtain ⟨i, p', c'⟩ := i
   obtain ⟨hi, hlen⟩ : i ≤ x.q.length ∧ (l0 ++ (x.q.take i).flatMap pairB).length = l0.length + 9 * i := hi
   show H _ _ _ [(20, .int .i64 (i : Int)), _, _, (0, .slice p' (l0 ++ (x.q.take i).flatMap pairB).length c'), _] _ (_ :: slc p' (l0 ++ (x.q.take i).flatMap pairB).length c' _ 1 (bytesV (l0 ++ (x.q.take i).flatMap pairB)) :: A) _
   generalize hacc : l0 ++ (x.q.take i).flatMap pairB = acc at hlen
   by_cases hlt : i < x.q.length
   ·have hx : x.q[i]? = some x.q[i] := List.getElem?_eq_getElem hlt
    generalize x.q[i] = pr at hx
    have e3 : l0 ++ (x.q.take (i + 1)).flatMap pairB = acc ++ [b8 pr.1] ++ be 8 pr.2 := by
     rw [List.take_add_one, hx, ← hacc]; simp [pairB]
    obtain ⟨b, off, cs, T, fr, rfl, hfb, hcs⟩ := hq i pr hx
    have rd : ∀ A, Rd f A b (off + i * 2) (pairV pr) := fun A => Rd.imm hfb hcs
    clear hcs hfb
    refine gI ?_
    refine H.Ap rfl rfl rfl rfl hlt rfl ?_
    refine H.Ag (ls := pairV pr) rfl rfl rfl (rd _) rfl rfl ?_
    refine H.Am rfl rfl rfl fun pb => ?_
    refine H.Ak (ls := [.int .i64 0, .int .u64 0]) (vs := pairV pr) (ls' := pairV pr) rfl rfl rfl (zae rfl) rfl rfl (Nat.le_refl 2) (by repeat constructor) ?_
    refine gA ?_
    refine H.Ay (by kernel_rfl) (by decide +kernel) (by repeat (first | exact zab | refine zaa ?_ | refine zac ?_ | refine zad ?_)) (S := [_]) rfl ?_
    refine HB.Af [(0, false), (1, false), (2, false), (3, false), (6, false), (7, false)] 4 (by kernel_rfl) ?_
    refine gH ?_
    rw [u8_b8]
    refine HQ.Ae rfl ?_
    refine HB.ev1 (i := 4) (by kernel_rfl) rfl ?_
    refine H.Be (out := bytesV [b8 pr.1]) rfl rfl rfl rfl (by decide) (by decide) rfl rfl fun tb => ?_
    refine gA ?_
    refine H.Aa (.there _ (.here _ _)) ?_
    refine H.on0 rfl ?_
    refine HB.ev1 (i := 5) (by kernel_rfl) rfl ?_
    refine H.Bf (m := 1) rfl rfl rfl rfl rfl (fun p' c' => (by repeat constructor)) (Src.slice (Rd.ofRow (.there _ (.here _ _ _))) rfl) (zai _) rfl (by omega) (by omega) fun p3 c3 => ?_
    refine gA ?_
    refine H.Ab (.there _ (.here _ _)) ?_
    refine H.on0 rfl ?_
    refine HB.ev1 (i := 8) (by kernel_rfl) rfl ?_
    have f0 : (acc ++ [b8 pr.1]).length = acc.length + 1 := by rw [List.length_append]; rfl
    have f1 : bytesV (acc ++ [b8 pr.1]) = bytesV acc ++ bytesV [b8 pr.1] := zag _ _
    generalize acc ++ [b8 pr.1] = l4 at f0 f1 e3
    show H _ _ _ _ _ (row _ _ _ :: row _ _ _ :: slc p3 (acc.length + 1) c3 _ _ (bytesV acc ++ bytesV [b8 pr.1]) :: A) _
    rw [← f0, ← f1]
    refine H.Bp (.there _ (.there _ (.here _ _ _))) (by omega) fun b3 hp => ?_
    subst hp
    refine H.Az rfl rfl rfl (word_fn (l := l4) f _ (Src.slcS (.there _ (.there _ (.here _ _ _))) (by rw [zaf]; exact (Nat.mul_one _).symm)) (fun h => by cases h) (by omega)) fun p4 c4 => ?_
    refine gA ?_
    refine H.Ab (.there _ (.there _ (.there _ (.here _ _)))) ?_
    refine H.Aa (.there _ (.here _ _)) ?_
    refine H.on0 rfl ?_
    refine HB.Af [(9, false)] 0 (by kernel_rfl) ?_
    refine gB ?_
    refine HQ.Ae rfl ?_
    refine HB.Al (by kernel_rfl) ?_
    refine ge ?_
    refine H.Ab (.here _ _) ?_
    refine H.Aa (.there _ (.here _ _)) ?_
    refine H.Ao (i + 1, p4, c4) ⟨by show i + 1 ≤ x.q.length; omega, ?_⟩ (by show x.q.length - (i + 1) < x.q.length - i; omega) ⟨rfl, rfl, rfl, ?_, rfl, trivial⟩ rfl ?_
    ·show (l0 ++ (x.q.take (i + 1)).flatMap pairB).length = l0.length + 9 * (i + 1)
     rw [e3, List.length_append, be_len]; omega
    ·show some _ = some (Value.slice p4 (l0 ++ (x.q.take (i + 1)).flatMap pairB).length c4)
     rw [e3]
    ·show _ = _ :: slc p4 (l0 ++ (x.q.take (i + 1)).flatMap pairB).length c4 _ 1 (bytesV (l0 ++ (x.q.take (i + 1)).flatMap pairB)) :: A
     rw [e3]
   ·have : i = x.q.length := by omega
    subst this
    rw [List.take_length] at hacc
    refine gN ?_
    refine H.Ab (.here _ _) ?_
    have e9 : l ++ (be 8 x.view ++ [b8 x.q.length] ++ x.q.flatMap pairB) = acc := by rw [← hacc, ← hl0]; simp only [List.append_assoc]
    exact H.Ac rfl rfl (fun _ h => h) ⟨p', c', by rw [e9], rfl, by rw [e9]⟩
 ·refine H.Ay (by kernel_rfl) (by decide +kernel) (by repeat (first | exact zab | refine zaa ?_ | refine zac ?_ | refine zad ?_)) (S := [_]) rfl ?_
  refine HB.Af [(0, false), (1, false), (2, false), (4, false), (5, false), (6, false), (7, false)] 4 (by kernel_rfl) ?_
  refine gH ?_
  rw [u8_b8]
  refine HQ.Ae rfl ?_
  refine HB.ev2 (i := 3) (j := 8) (by kernel_rfl) rfl rfl ?_ ?_
  ·refine H.Az rfl rfl rfl (word_fn f _ hs.cons hn (by omega)) fun p1 c1 => ?_
   refine gA ?_
   refine H.Aa (.there _ (.here _ _)) ?_
   refine H.on0 rfl ?_
   refine HB.ev1 (i := 8) (by kernel_rfl) rfl ?_
   refine H.Be (out := bytesV [b8 x.q.length]) rfl rfl rfl rfl (by decide) (by decide) rfl rfl fun tb => ?_
   refine gA ?_
   refine H.Aa (.there _ (.here _ _)) ?_
   refine H.on0 rfl ?_
   refine HB.ev1 (i := 9) (by kernel_rfl) rfl ?_
   refine H.Bf (m := 1) rfl rfl rfl rfl rfl (fun p' c' => (by repeat constructor)) (Src.slice (Rd.ofRow (.there _ (.here _ _ _))) rfl) (zai _) rfl (by omega) (by omega) fun p3 c3 => ?_
   refine gA ?_
   refine H.Ab (.there _ (.here _ _)) ?_
   refine H.on0 rfl ?_
   refine HB.Af [(10, false)] 0 (by kernel_rfl) ?_
   refine gB ?_
   refine HQ.Ae rfl ?_
   refine HB.Al (by kernel_rfl) ?_
   exact H.meet (p3, c3) trivial ⟨rfl, rfl, trivial⟩ rfl rfl
  ·refine H.Be (out := bytesV [b8 x.q.length]) rfl rfl rfl rfl (by decide) (by decide) rfl rfl fun tb => ?_
   refine gA ?_
   refine H.Aa (.there _ (.here _ _)) ?_
   refine H.on0 rfl ?_
   refine HB.ev1 (i := 3) (by kernel_rfl) rfl ?_
   refine H.Az rfl rfl rfl (word_fn f _ hs.cons.cons hn (by omega)) fun p1 c1 => ?_
   refine gA ?_
   refine H.Aa (.there _ (.here _ _)) ?_
   refine H.on0 rfl ?_
   refine HB.ev1 (i := 9) (by kernel_rfl) rfl ?_
   refine H.Bf (m := 1) rfl rfl rfl rfl rfl (fun p' c' => (by repeat constructor)) (Src.slice (Rd.ofRow (.there _ (.there _ (.here _ _ _)))) rfl) (zai _) rfl (by omega) (by omega) fun p3 c3 => ?_
   refine gA ?_
   refine H.Ab (.there _ (.there _ (.here _ _))) ?_
   refine H.on0 rfl ?_
   refine HB.Af [(10, false)] 0 (by kernel_rfl) ?_
   refine gB ?_
   refine HQ.Ae rfl ?_
   refine HB.Al (by kernel_rfl) ?_
   exact H.meet (p3, c3) trivial ⟨rfl, rfl, trivial⟩ rfl rfl
end
theorem eqC_pair (p r : Int × Int) : eqC (pairV p) (pairV r) = decide (p = r) := by
 obtain ⟨a, b⟩ := p
 obtain ⟨c, d⟩ := r
 simp only [pairV, eqC, eqv, Bool.and_true, Prod.mk.injEq]
 by_cases h1 : a = c <;> by_cases h2 : b = d <;> simp [h1, h2]
def Bod.eqB (a b : Bod) : Bool := decide ((a.kind.toNat : Int) = b.kind.toNat) && decide (a.view = b.view) && decide (a.k = b.k) && eqC a.req.vals b.req.vals && decide (a.q = b.q) && eqC (b32 a.dig) (b32 b.dig)
def Bod.may (x : Bod) : Bool := Bod.eqB x.own x && decide (x.view < 1073741824) && x.mayK x.kind.toNat
section
variable (f : Frag) (F : List HP)
theorem take_eq_succ {α : Type} {l m : List α} {i : Nat} {x y : α} (h : l.take i = m.take i) (hx : l[i]? = some x) (hy : m[i]? = some y) (e : x = y) : l.take (i + 1) = m.take (i + 1) := by
 rw [List.take_add_one, List.take_add_one, h, hx, hy, e]
theorem equalPairs_fn {p r : Option Addr} {c d : Nat} {l m : List (Int × Int)} (hp : QAt f p l) (hr : QAt f r m) (hl : l.length ≤ 1000000000) :
  Fn Tryz.prog 154 [.slice p l.length c, .slice r m.length d] f F (Ret (.bool (decide (l = m))) f F) := by
 by_cases hlen : (l.length : Int) = m.length
 ·have hlen' : l.length = m.length := by omega
  refine Fn.enter Tryz.func154 rfl Tryz.ntmps154 rfl (L := [(0, _), (1, _)]) ⟨rfl, rfl, trivial⟩ fun base => ?_
  refine gN ?_
  rw [decide_eq_false (by omega)]
  skip
  refine H.Aw (ι := Nat) (fun i => [(13, .int .i64 (i : Int)), (12, .int .i64 (l.length : Nat)), (0, .slice p l.length c), (1, .slice r m.length d)]) (fun _ => f) (fun _ => F) (fun i => i ≤ l.length ∧ l.take i = m.take i) (fun i => l.length - i) 0 ⟨Nat.zero_le _, rfl⟩ ⟨rfl, rfl, rfl, rfl, trivial⟩ rfl rfl fun i hi => ?_
  obtain ⟨hi, htk⟩ : i ≤ l.length ∧ l.take i = m.take i := hi
  by_cases hlt : i < l.length
  ·have hx : l[i]? = some l[i] := List.getElem?_eq_getElem hlt
   have hy : m[i]? = some (m[i]'(by omega)) := List.getElem?_eq_getElem (by omega)
   generalize l[i] = x at hx
   generalize m[i]'(by omega) = y at hy
   obtain ⟨b, off, cs, T, fr, rfl, hfb, hcs⟩ := hp i x hx
   obtain ⟨b2, off2, cs2, T2, fr2, rfl, hfb2, hcs2⟩ := hr i y hy
   have rd : ∀ A, Rd f A b (off + i * 2) (pairV x) := fun A => Rd.imm hfb hcs
   have rd2 : ∀ A, Rd f A b2 (off2 + i * 2) (pairV y) := fun A => Rd.imm hfb2 hcs2
   refine gI ?_
   refine H.Bg (by kernel_rfl) (by decide +kernel) (by repeat (first | exact zab | refine zaa ?_ | refine zac ?_ | refine zad ?_)) ?_
   refine gB ?_
   refine HQ.Ap rfl rfl rfl rfl hlt rfl ?_
   refine HQ.Ag (ls := pairV x) rfl rfl rfl (rd _) rfl rfl ?_
   refine gB ?_
   refine HQ.Ap rfl rfl rfl rfl (by omega) rfl ?_
   refine HQ.Ag (ls := pairV y) rfl rfl rfl (rd2 _) rfl rfl ?_
   refine HQ.aggNe (D := 4) (b := !decide (x = y)) rfl rfl rfl rfl (by kernel_rfl) (by kernel_rfl) (by kernel_rfl) (by kernel_rfl) (by decide) (by rw [eqC_pair]) rfl ?_
   by_cases hxy : x = y
   ·rw [decide_eq_true hxy]
    refine gL ?_
    refine gM ?_
    exact H.Ao (i + 1) ⟨by show i + 1 ≤ l.length; omega, take_eq_succ htk hx hy hxy⟩ (by show l.length - (i + 1) < l.length - i; omega) ⟨rfl, rfl, rfl, rfl, trivial⟩ rfl rfl
   ·rw [decide_eq_false hxy]
    refine gL ?_
    refine ge ?_
    refine H.Ac rfl rfl (fun _ h => h) ⟨?_, rfl, rfl⟩
    rw [decide_eq_false]
    rintro rfl
    rw [hx] at hy
    exact hxy (Option.some.inj hy)
  ·have : i = l.length := by omega
   subst this
   refine gN ?_
   refine H.Ac rfl rfl (fun _ h => h) ⟨?_, rfl, rfl⟩
   rw [decide_eq_true]
   rwa [List.take_length, hlen', List.take_length] at htk
 ·refine Fn.enter Tryz.func154 rfl Tryz.ntmps154 rfl (L := [(0, _), (1, _)]) ⟨rfl, rfl, trivial⟩ fun base => ?_
  refine gI ?_
  refine H.Ac rfl rfl (fun _ h => h) ⟨?_, rfl, rfl⟩
  rw [decide_eq_false]
  rintro rfl
  exact hlen rfl
theorem same_fn {a b : Bod} {p r : Option Addr} {c d : Nat} (hp : QAt f p a.q) (hr : QAt f r b.q) (hl : a.q.length ≤ 1000000000) :
  Fn Tryz.prog 105 [.agg (a.vals p c).toArray, .agg (b.vals r d).toArray] f F (Ret (.bool (Bod.eqB a b)) f F) := by
 by_cases h1 : (a.kind.toNat : Int) = b.kind.toNat
 ·skip
  by_cases h2 : a.view = b.view
  ·skip
   by_cases h3 : a.k = b.k
   ·skip
    by_cases h4 : eqC a.req.vals b.req.vals = true
    ·skip
     by_cases h5 : a.q = b.q
     ·skip
      try simp only [Bool.not_eq_true] at *
      refine Fn.enter Tryz.func105 rfl Tryz.ntmps105 rfl (L := [(0, _), (1, _)]) ⟨rfl, rfl, trivial⟩ fun base => ?_
      repeat (first | ((first | apply H.Aj | apply H.Ar); (iterate 3 exact rfl)) | (apply H.Aq; (iterate 3 exact rfl); exact inferInstance; exact rfl) | (apply H.Ad; (iterate 3 exact rfl); apply Rd1.ofRow; (repeat (first | exact .here _ _ _ | apply At.there)); (iterate 2 exact rfl)) | (first | apply H.seq | apply H.Au | apply H.nil | apply H.Av) | ((apply H.cmp); (iterate 5 exact rfl)) | (apply H.Bi; (iterate 4 exact rfl)) | (apply H.ret) | (apply H.Bo; (iterate 3 exact rfl); (assumption)) | ((apply H.gtrue); (iterate 3 exact rfl); assumption) | (refine H.box (ls := a.vals p c) rfl rfl rfl rfl fun ab => ?_) | (refine H.box (ls := b.vals r d) rfl rfl rfl rfl fun bb => ?_) | (refine H.Ag (ls := a.req.vals) rfl rfl rfl (zaz (by repeat constructor)) rfl rfl ?_) | (refine H.Ag (ls := b.req.vals) rfl rfl rfl (zaz (by repeat constructor)) rfl rfl ?_) | (refine H.aggEq (xs := a.req.vals) (ys := b.req.vals) (D := 4) rfl rfl rfl rfl (by kernel_rfl) (by kernel_rfl) (by kernel_rfl) (by kernel_rfl) (by decide) rfl rfl ?_) | (refine H.Ah rfl rfl rfl (equalPairs_fn f _ hp hr hl) ?_) | (refine H.Ag (ls := bytesV (b32L a.dig)) rfl rfl rfl (row_dig (by repeat constructor)) rfl rfl ?_) | (refine H.Ag (ls := bytesV (b32L b.dig)) rfl rfl rfl (row_dig (by repeat constructor)) rfl rfl ?_) | (refine H.aggEq (xs := bytesV (b32L a.dig)) (ys := bytesV (b32L b.dig)) (b := eqC (b32 a.dig) (b32 b.dig)) (D := 4) rfl rfl rfl rfl (by kernel_rfl) (by kernel_rfl) (by kernel_rfl) (by kernel_rfl) (by decide) rfl rfl ?_))
      refine H.Ab (.here _ _) ?_
      refine H.Ab (.here _ _) ?_
      refine H.Ac rfl rfl (fun _ h => h) ⟨?_, rfl, rfl⟩
      simp [Bod.eqB, *]
     ·skip
      try simp only [Bool.not_eq_true] at *
      refine Fn.enter Tryz.func105 rfl Tryz.ntmps105 rfl (L := [(0, _), (1, _)]) ⟨rfl, rfl, trivial⟩ fun base => ?_
      repeat (first | ((first | apply H.Aj | apply H.Ar); (iterate 3 exact rfl)) | (apply H.Aq; (iterate 3 exact rfl); exact inferInstance; exact rfl) | (apply H.Ad; (iterate 3 exact rfl); apply Rd1.ofRow; (repeat (first | exact .here _ _ _ | apply At.there)); (iterate 2 exact rfl)) | (first | apply H.seq | apply H.Au | apply H.nil | apply H.Av) | ((apply H.cmp); (iterate 5 exact rfl)) | (apply H.Bm; (iterate 2 exact rfl)) | (apply H.Bi; (iterate 4 exact rfl)) | ((apply H.Bb); (iterate 4 exact rfl)) | (apply H.ret) | (apply H.Bo; (iterate 3 exact rfl); (assumption)) | (apply H.gno; (iterate 3 exact rfl); (assumption)) | ((apply H.gtrue); (iterate 3 exact rfl); assumption) | (refine H.box (ls := a.vals p c) rfl rfl rfl rfl fun ab => ?_) | (refine H.box (ls := b.vals r d) rfl rfl rfl rfl fun bb => ?_) | (refine H.Ag (ls := a.req.vals) rfl rfl rfl (zaz (by repeat constructor)) rfl rfl ?_) | (refine H.Ag (ls := b.req.vals) rfl rfl rfl (zaz (by repeat constructor)) rfl rfl ?_) | (refine H.aggEq (xs := a.req.vals) (ys := b.req.vals) (D := 4) rfl rfl rfl rfl (by kernel_rfl) (by kernel_rfl) (by kernel_rfl) (by kernel_rfl) (by decide) rfl rfl ?_) | (refine H.Ah rfl rfl rfl (equalPairs_fn f _ hp hr hl) ?_))
      refine H.Ab (.here _ _) ?_
      refine H.Ab (.here _ _) ?_
      refine H.Ac rfl rfl (fun _ h => h) ⟨?_, rfl, rfl⟩
      simp [Bod.eqB, *]
    ·skip
     try simp only [Bool.not_eq_true] at *
     refine Fn.enter Tryz.func105 rfl Tryz.ntmps105 rfl (L := [(0, _), (1, _)]) ⟨rfl, rfl, trivial⟩ fun base => ?_
     repeat (first | ((first | apply H.Aj | apply H.Ar); (iterate 3 exact rfl)) | (apply H.Aq; (iterate 3 exact rfl); exact inferInstance; exact rfl) | (apply H.Ad; (iterate 3 exact rfl); apply Rd1.ofRow; (repeat (first | exact .here _ _ _ | apply At.there)); (iterate 2 exact rfl)) | (first | apply H.seq | apply H.Au | apply H.nil | apply H.Av) | ((apply H.cmp); (iterate 5 exact rfl)) | (apply H.Bm; (iterate 2 exact rfl)) | (apply H.Bi; (iterate 4 exact rfl)) | ((apply H.Bb); (iterate 4 exact rfl)) | (apply H.ret) | (apply H.Bo; (iterate 3 exact rfl); (assumption)) | (apply H.gfalse; (iterate 3 exact rfl); assumption) | (refine H.box (ls := a.vals p c) rfl rfl rfl rfl fun ab => ?_) | (refine H.box (ls := b.vals r d) rfl rfl rfl rfl fun bb => ?_) | (refine H.Ag (ls := a.req.vals) rfl rfl rfl (zaz (by repeat constructor)) rfl rfl ?_) | (refine H.Ag (ls := b.req.vals) rfl rfl rfl (zaz (by repeat constructor)) rfl rfl ?_) | (refine H.aggEq (xs := a.req.vals) (ys := b.req.vals) (D := 4) rfl rfl rfl rfl (by kernel_rfl) (by kernel_rfl) (by kernel_rfl) (by kernel_rfl) (by decide) rfl rfl ?_))
     refine H.Ab (.here _ _) ?_
     refine H.Ab (.here _ _) ?_
     refine H.Ac rfl rfl (fun _ h => h) ⟨?_, rfl, rfl⟩
     simp [Bod.eqB, *]
   ·skip
    try simp only [Bool.not_eq_true] at *
    refine Fn.enter Tryz.func105 rfl Tryz.ntmps105 rfl (L := [(0, _), (1, _)]) ⟨rfl, rfl, trivial⟩ fun base => ?_
    repeat (first | ((first | apply H.Aj | apply H.Ar); (iterate 3 exact rfl)) | (apply H.Aq; (iterate 3 exact rfl); exact inferInstance; exact rfl) | (apply H.Ad; (iterate 3 exact rfl); apply Rd1.ofRow; (repeat (first | exact .here _ _ _ | apply At.there)); (iterate 2 exact rfl)) | (first | apply H.seq | apply H.Au | apply H.nil | apply H.Av) | ((apply H.cmp); (iterate 5 exact rfl)) | (apply H.Bm; (iterate 2 exact rfl)) | (apply H.Bi; (iterate 4 exact rfl)) | ((apply H.Bb); (iterate 4 exact rfl)) | (apply H.ret) | (apply H.Bo; (iterate 3 exact rfl); (assumption)) | (apply H.gno; (iterate 3 exact rfl); (assumption)) | (refine H.box (ls := a.vals p c) rfl rfl rfl rfl fun ab => ?_) | (refine H.box (ls := b.vals r d) rfl rfl rfl rfl fun bb => ?_))
    refine H.Ab (.here _ _) ?_
    refine H.Ab (.here _ _) ?_
    refine H.Ac rfl rfl (fun _ h => h) ⟨?_, rfl, rfl⟩
    simp [Bod.eqB, *]
  ·skip
   try simp only [Bool.not_eq_true] at *
   refine Fn.enter Tryz.func105 rfl Tryz.ntmps105 rfl (L := [(0, _), (1, _)]) ⟨rfl, rfl, trivial⟩ fun base => ?_
   repeat (first | ((first | apply H.Aj | apply H.Ar); (iterate 3 exact rfl)) | (apply H.Aq; (iterate 3 exact rfl); exact inferInstance; exact rfl) | (apply H.Ad; (iterate 3 exact rfl); apply Rd1.ofRow; (repeat (first | exact .here _ _ _ | apply At.there)); (iterate 2 exact rfl)) | (first | apply H.seq | apply H.Au | apply H.nil | apply H.Av) | ((apply H.cmp); (iterate 5 exact rfl)) | (apply H.Bm; (iterate 2 exact rfl)) | (apply H.Bi; (iterate 4 exact rfl)) | ((apply H.Bb); (iterate 4 exact rfl)) | (apply H.ret) | (apply H.Bo; (iterate 3 exact rfl); (assumption)) | (apply H.gno; (iterate 3 exact rfl); (assumption)) | (refine H.box (ls := a.vals p c) rfl rfl rfl rfl fun ab => ?_) | (refine H.box (ls := b.vals r d) rfl rfl rfl rfl fun bb => ?_))
   refine H.Ab (.here _ _) ?_
   refine H.Ab (.here _ _) ?_
   refine H.Ac rfl rfl (fun _ h => h) ⟨?_, rfl, rfl⟩
   simp [Bod.eqB, *]
 ·skip
  try simp only [Bool.not_eq_true] at *
  refine Fn.enter Tryz.func105 rfl Tryz.ntmps105 rfl (L := [(0, _), (1, _)]) ⟨rfl, rfl, trivial⟩ fun base => ?_
  repeat (first | ((first | apply H.Aj | apply H.Ar); (iterate 3 exact rfl)) | (apply H.Aq; (iterate 3 exact rfl); exact inferInstance; exact rfl) | (apply H.Ad; (iterate 3 exact rfl); apply Rd1.ofRow; (repeat (first | exact .here _ _ _ | apply At.there)); (iterate 2 exact rfl)) | (first | apply H.seq | apply H.Au | apply H.nil | apply H.Av) | ((apply H.cmp); (iterate 5 exact rfl)) | (apply H.Bm; (iterate 2 exact rfl)) | ((apply H.Bb); (iterate 4 exact rfl)) | (apply H.ret) | (apply H.gno; (iterate 3 exact rfl); (assumption)) | (refine H.box (ls := a.vals p c) rfl rfl rfl rfl fun ab => ?_) | (refine H.box (ls := b.vals r d) rfl rfl rfl rfl fun bb => ?_))
  refine H.Ab (.here _ _) ?_
  refine H.Ab (.here _ _) ?_
  refine H.Ac rfl rfl (fun _ h => h) ⟨?_, rfl, rfl⟩
  simp [Bod.eqB, *]
end
def fnV (f : FuncId) : Value := .func (.func f) #[] #[]
def codecCells (a b c : FuncId) : List Value := [fnV a, fnV b, fnV c]
def codecV (a b c : FuncId) : Value := .agg (codecCells a b c).toArray
def encU8 : Int → Value := fun k => Value.int .u8 k
instance keyU8 : KeyT Tryz.prog 5 encU8 := keyT_int ⟨Tryz.underlying5⟩
def codecsM : List (Int × Value) := [
 (1, codecV 132 135 138),
 (2, codecV 140 141 142),
 (3, codecV 183 184 185),
 (5, codecV 183 184 185),
 (4, codecV 144 145 148),
 (6, codecV 150 151 142)]
theorem Fn.monoA {P : Program} {fid : FuncId} {args : List Value} {f : Frag} {A : List HP} {R R' : Value → Frag → List HP → Prop} (h : Fn P fid args f A R)
  (hr : ∀ v f' A', R v f' A' → ∃ A'', R' v f' A'' ∧ ∀ x, stars A' x → stars A'' x) : Fn P fid args f A R' :=
 fun base w s => (h base w s).mono fun _ _ ⟨v, f', A', e, r, s'⟩ => by
  obtain ⟨A'', r', hx⟩ := hr _ _ _ r
  exact ⟨v, f', A'', e, r', s'.imp hx⟩
theorem stars_nil_slc {T : TypeId} {sz : Nat} {x : Frag} {A : List HP} (h : stars A x) : stars (slc none 0 0 T sz [] :: A) x :=
 ⟨nil0, x, (Dj.nil x).symm, (nil_un x).symm, slc_nil none T sz, h⟩
def MayC (fid : FuncId) (kind : Nat) : Prop := ∀ (f : Frag) (A : List HP) (x : Bod) (q : Option Addr) (qc : Nat), QAt f q x.q → x.q.length ≤ 1000000000 → Fn Tryz.prog fid [.agg (x.vals q qc).toArray] f A (Ret (.bool (x.mayK kind)) f A)
def PutC (fid : FuncId) (kind : Nat) : Prop := ∀ (f : Frag) (A : List HP) (x : Bod) (q : Option Addr) (qc : Nat) (p : Option Addr) (c : Nat) (l : List UInt8), Src Tryz.prog f A (.slice p l.length c) 1 l.length (bytesV l) → (p = none → l = []) → QAt f q x.q → x.mayK kind = true → x.q.length ≤ 11 → l.length ≤ 100000000 →
 Fn Tryz.prog fid [.slice p l.length c, .agg (x.vals q qc).toArray] f A (BytesR (l ++ x.putK kind) f A)
def GetR (f : Frag) (F : List HP) (cb : Nat) (xb : Nat) (T : TypeId) (pre post : List Value) (r : Bod × Cs) : Value → Frag → List HP → Prop :=
 RetE (fun _ : Option Addr × Nat => .tuple #[]) f (fun i => cutC f cb r.2 :: bodAt xb T pre post r.1 i.1 i.2 :: qs i.1 i.2 r.1.q :: F)
def GetC (fid : FuncId) (kind : Nat) : Prop := ∀ (f : Frag) (F : List HP) (cb : Nat) (s : Cs) (xb : Nat) (T : TypeId) (pre post : List Value) (k8 : UInt8), s.l.length ≤ 1000000000 →
 Fn Tryz.prog fid [.pointer (some ⟨cb, 0, none⟩), .pointer (some ⟨xb, pre.length, none⟩)] f (cutC f cb s :: bodAt xb T pre post (Bod.zero k8) none 0 :: F) (GetR f F cb xb T pre post (s.bodyK 32 128 k8 kind))
theorem getC_of {fid : FuncId} {kind : Nat} (h : ∀ (f : Frag) (F : List HP) (cb : Nat) (s : Cs) (xb : Nat) (T : TypeId) (pre post : List Value) (k8 : UInt8), s.l.length ≤ 1000000000 →
  (s.bodyK 32 128 k8 kind).1.q = [] ∧ Fn Tryz.prog fid [.pointer (some ⟨cb, 0, none⟩), .pointer (some ⟨xb, pre.length, none⟩)] f (cutC f cb s :: bodAt xb T pre post (Bod.zero k8) none 0 :: F)
   (Ret (.tuple #[]) f (cutC f cb (s.bodyK 32 128 k8 kind).2 :: bodAt xb T pre post (s.bodyK 32 128 k8 kind).1 none 0 :: F))) : GetC fid kind := fun f F cb s xb T pre post k8 hl => by
 obtain ⟨hq, hf⟩ := h f F cb s xb T pre post k8 hl
 refine hf.monoA fun v f' A' hr => ?_
 obtain ⟨rfl, rfl, rfl⟩ := hr
 refine ⟨_, ⟨(none, 0), rfl, rfl, rfl⟩, ?_⟩
 refine keep_stars (keep_stars ?_)
 intro x hx
 rw [hq]
 exact stars_nil_slc hx
theorem may1 : MayC 138 1 := fun f A x q qc _ _ => may_prepare f A x q qc
theorem may2 : MayC 142 2 := fun f A x q qc _ _ => k_fn f A x q qc
theorem may6 : MayC 142 6 := fun f A x q qc _ _ => k_fn f A x q qc
theorem may3 : MayC 185 3 := fun f A x q qc _ _ => view3_fn f A x q qc
theorem may5 : MayC 185 5 := fun f A x q qc _ _ => view3_fn f A x q qc
theorem may4 : MayC 148 4 := fun f A x q qc hq hl => may_newview f A x q qc hq (by omega)
theorem put1 : PutC 132 1 := fun f A x q qc p c l hs hn _ hm _ hl => put_prepare f A x q qc hs hn (of_decide_eq_true hm) hl
theorem put2 : PutC 140 2 := fun f A x q qc p c l hs hn _ _ _ hl => put_commit f A x q qc hs hn hl
theorem put3 : PutC 183 3 := fun f A x q qc p c l hs hn _ _ _ hl => put_view f A x q qc hs hn hl
theorem put5 : PutC 183 5 := fun f A x q qc p c l hs hn _ _ _ hl => put_view f A x q qc hs hn hl
theorem put6 : PutC 150 6 := fun f A x q qc p c l hs hn _ _ _ hl => put_check f A x q qc hs hn hl
theorem put4 : PutC 144 4 := fun f A x q qc p c l hs hn hq _ hql hl => put_newview f A x q qc hs hn hq (by omega) hl
theorem get1 : GetC 135 1 := getC_of fun f F cb s xb T pre post k8 hl => ⟨rfl, get_prepare f F cb s xb T pre post hl (Bod.zero k8) none 0⟩
theorem get2 : GetC 141 2 := getC_of fun f F cb s xb T pre post k8 hl => ⟨rfl, get_commit f F cb s xb T pre post hl (Bod.zero k8) none 0⟩
theorem get3 : GetC 184 3 := getC_of fun f F cb s xb T pre post k8 hl => ⟨rfl, get_view f F cb s xb T pre post hl (Bod.zero k8) none 0⟩
theorem get5 : GetC 184 5 := getC_of fun f F cb s xb T pre post k8 hl => ⟨rfl, get_view f F cb s xb T pre post hl (Bod.zero k8) none 0⟩
theorem get6 : GetC 151 6 := getC_of fun f F cb s xb T pre post k8 hl => ⟨rfl, get_check f F cb s xb T pre post hl (Bod.zero k8) none 0⟩
theorem get4 : GetC 145 4 := fun f F cb s xb T pre post k8 hl => get_newview f F cb s xb T pre post hl (Bod.zero k8) rfl
section
variable (f : Frag) (F : List HP)
theorem view_fn : Fn Tryz.prog 143 [] f F (Ret (codecV 183 184 185) f F) := by
 refine Fn.enter Tryz.func143 rfl Tryz.ntmps143 rfl (L := []) trivial fun base => ?_
 refine gA ?_
 refine H.Am (ls := [.nilFunc, .nilFunc, .nilFunc]) rfl rfl rfl fun vb => ?_
 refine gV ?_
 refine H.Ak (ls := [.nilFunc, .nilFunc, .nilFunc]) (vs := codecCells _ _ _) (ls' := codecCells _ _ _) rfl rfl rfl (zae rfl) rfl rfl (Nat.le_refl 3) (by repeat constructor) ?_
 refine gX ?_
 exact H.Bd rfl rfl rfl (Rd.ofRow (by repeat constructor)) rfl (fun _ s => s.drop (.here _ _)) ⟨rfl, rfl, rfl⟩
theorem codecs_fn : Fn Tryz.prog 103 [] f F (RetE (fun b => .map (some b)) f (fun b => mp b encU8 codecsM :: F)) := by
 refine Fn.enter Tryz.func103 rfl Tryz.ntmps103 rfl (L := []) trivial fun base => ?_
 refine gO ?_
 refine H.makeMap encU8 rfl rfl fun mb => ?_
 repeat (first | ((first | apply H.Aj | apply H.Ar); (iterate 3 exact rfl)) | (first | apply H.nil | apply H.Av) | ((apply H.Bc); (iterate 5 exact rfl)) | (apply H.ret) | (refine H.mapInsert (enc := encU8) rfl rfl rfl rfl (.here _ _ _) rfl ?_) | (refine H.Ah rfl rfl rfl (view_fn f _) ?_))
 exact H.Ac rfl rfl (fun _ h => h) ⟨mb, rfl, rfl, rfl⟩
end
theorem BAt.mono {f g : Frag} (h : Le f g) {p : Option Addr} {l : List UInt8} (hb : BAt f p l) : BAt g p l := by
 rcases hb with rfl | ⟨b, off, cs, T, fr, h1, h2, h3⟩
 ·exact .inl rfl
 ·exact .inr ⟨b, off, cs, T, fr, h1, h _ _ h2, h3⟩
theorem QAt.mono {f g : Frag} (h : Le f g) {p : Option Addr} {l : List (Int × Int)} (hb : QAt f p l) : QAt g p l := fun i x hx => by
 obtain ⟨b, off, cs, T, fr, h1, h2, h3⟩ := hb i x hx
 exact ⟨b, off, cs, T, fr, h1, h _ _ h2, h3⟩
theorem flat_pair_get : ∀ (q : List (Int × Int)) (i : Nat) (x : Int × Int), q[i]? = some x → ∀ j, j < (pairV x).length → (q.flatMap pairV)[i * 2 + j]? = (pairV x)[j]?
 | [], i, x, h, j, hj => by simp at h
 | y :: q, 0, x, h, j, hj => by
  simp at h; subst h
  rw [List.flatMap_cons, Nat.zero_mul, Nat.zero_add, List.getElem?_append_left hj]
 | y :: q, i + 1, x, h, j, hj => by
  rw [List.flatMap_cons, List.getElem?_append_right (by show (2 : Nat) ≤ _; omega)]
  rw [show (i + 1) * 2 + j - (pairV y).length = i * 2 + j by show (i + 1) * 2 + j - 2 = _; omega]
  exact flat_pair_get q i x (by simpa using h) j hj
theorem qs_qat {f g : Frag} {p : Option Addr} {c : Nat} {q : List (Int × Int)} (h : qs p c q g) (hd : Dj f g) : QAt (un f g) p q := fun i x hx => by
 obtain ⟨_, _, h3⟩ := h
 have hi : i < q.length := by
  rcases Nat.lt_or_ge i q.length with h | h
  ·exact h
  ·simp [List.getElem?_eq_none h] at hx
 rcases h3 with ⟨h0, _, _⟩ | ⟨b, sp, rfl, h4, h5, rfl⟩
 ·omega
 ·refine ⟨b, 0, (q.flatMap pairV ++ sp).toArray, 88, (0, 0), rfl, ?_, fun j hj => ?_⟩
  ·show (f b).or (sing b _ b) = _
   have : f b = none := by
    rcases hd b with h | h
    ·exact h
    ·simp [sing] at h
   rw [this]
   simp [sing]
  ·rw [Nat.zero_add]
   simp only [List.getElem?_toArray]
   have h6 := flat_pair_get q i x hx j hj
   rw [List.getElem?_append_left ?_, h6]
   rcases Nat.lt_or_ge (i * 2 + j) (q.flatMap pairV).length with h | h
   ·exact h
   ·rw [List.getElem?_eq_none h] at h6
    rw [List.getElem?_eq_getElem hj] at h6
    cases h6
def Bod.back (x : Bod) (kind : Nat) : Bod := ((⟨x.putK kind, false⟩ : Cs).bodyK 32 128 x.kind kind).1
def Bod.mayP (x : Bod) (kind : Nat) : Bool := decide (x.view < 1073741824) && (x.mayK kind && (decide (x.q.length ≤ 11) && Bod.eqB x (x.back kind)))
section
variable (f : Frag) (F : List HP)
theorem flat_pairB_len : ∀ q : List (Int × Int), (q.flatMap pairB).length = 9 * q.length
 | [] => rfl
 | p :: q => by
  rw [List.flatMap_cons, List.length_append, flat_pairB_len q]
  show (be 8 p.2).length + 1 + 9 * q.length = 9 * (q.length + 1)
  rw [be_len]; omega
theorem putK_len (x : Bod) (kind : Nat) (hm : x.mayK kind = true) (hq : x.q.length ≤ 11) : 0 < (x.putK kind).length ∧ (x.putK kind).length ≤ 2000 := by
 match kind, hm with
 | 1, hm =>
  obtain ⟨_, _, _, _, ⟨k1, k2⟩, k3, k4⟩ := of_decide_eq_true hm
  show 0 < (be 8 x.view ++ x.req.bytes ++ b32L x.req.tag).length ∧ (be 8 x.view ++ x.req.bytes ++ b32L x.req.tag).length ≤ 2000
  rw [List.length_append, List.length_append, be_len, Req.bytes_len]
  show 0 < 8 + _ + 32 ∧ 8 + _ + 32 ≤ 2000
  omega
 | 2, _ => simp [Bod.putK, be_len]
 | 3, _ => simp [Bod.putK, be_len]
 | 4, _ =>
  show 0 < (be 8 x.view ++ [b8 x.q.length] ++ x.q.flatMap pairB).length ∧ (be 8 x.view ++ [b8 x.q.length] ++ x.q.flatMap pairB).length ≤ 2000
  rw [List.length_append, List.length_append, be_len, flat_pairB_len]
  show 0 < 8 + 1 + _ ∧ 8 + 1 + _ ≤ 2000
  omega
 | 5, _ => simp [Bod.putK, be_len]
 | 6, _ => simp [Bod.putK, be_len, b32L]
theorem body_fn {x : Bod} {q : Option Addr} {qc : Nat} (kind : Nat) (hk : x.kind.toNat = kind) (f1 f2 f3 : FuncId) [Fun Tryz.prog f1] [Fun Tryz.prog f2] [Fun Tryz.prog f3] (hput : PutC f1 kind) (hget : GetC f2 kind) (hmay : MayC f3 kind)
  (hcod : getKV codecsM (kind : Int) = some (codecV f1 f2 f3)) (hq : QAt f q x.q) (hl : x.q.length ≤ 1000000000) :
  Fn Tryz.prog 73 [.agg (x.vals q qc).toArray] f F (Ret (.bool (x.mayP kind)) f F) := by
 refine Fn.enter Tryz.func73 rfl Tryz.ntmps73 rfl (L := [(0, _)]) ⟨rfl, trivial⟩ fun base => ?_
 refine gA ?_
 refine H.box (ls := x.vals q qc) rfl rfl rfl rfl fun xb => ?_
 refine gO ?_
 have hz : ∀ z, (getKV codecsM (kind : Int)).getD z = codecV f1 f2 f3 := fun z => by rw [hcod]; rfl
 have hi : (getKV codecsM (kind : Int)).isSome = true := by rw [hcod]; rfl
 have hkv : Value.int .u8 (x.kind.toNat : Nat) = encU8 (kind : Int) := by rw [hk]; rfl
 refine H.cut (ι := Nat) (fun i => [(1, .pointer (some ⟨xb, 0, none⟩)), (3, .pointer (some ⟨i, 0, none⟩)), (4, .bool true)]) (fun _ => f) (fun i => row i 202 (codecCells f1 f2 f3) :: row xb 52 (x.vals q qc) :: F) (fun _ => True) _ (fun i _ => ?_) ?_
 ·by_cases h1 : x.view < 1073741824
  ·by_cases h2 : x.mayK kind = true
   ·have hm : ∀ A, Fn Tryz.prog f3 [.agg (x.vals q qc).toArray] f A (Ret (.bool true) f A) := fun A => by have := hmay f A x q qc hq hl; rwa [h2] at this
    by_cases h3 : x.q.length ≤ 11
    ·skip
     repeat (first | ((first | apply H.Aj | apply H.Bn); (iterate 3 exact rfl)) | (apply H.Aq; (iterate 3 exact rfl); exact inferInstance; exact rfl) | (apply H.Ad; (iterate 3 exact rfl); apply Rd1.ofRow; (repeat (first | exact .here _ _ _ | apply At.there)); (iterate 2 exact rfl)) | (first | apply H.seq | apply H.Au | apply H.nil | apply H.Av) | ((first | apply H.cmp | apply H.Bc); (iterate 5 exact rfl)) | ((first | apply H.Bb | apply H.not); (iterate 4 exact rfl)) | (apply H.Bk) | (apply H.gno; (iterate 3 exact rfl); (omega)) | (apply H.Bu; exact rfl; (omega)) | (refine H.Ag (ls := x.vals q qc) rfl rfl rfl (Rd.ofRow (by repeat constructor)) rfl rfl ?_) | (refine H.callVR (fs := []) (cs := []) (vs := [.agg (x.vals q qc).toArray]) rfl rfl rfl rfl (hm _) ?_))
     refine H.Am (ls := (Bod.zero 0).vals none 0) rfl rfl rfl fun yb => ?_
     refine H.Ak (ls := (Bod.zero 0).vals none 0) (vs := (Bod.zero x.kind).vals none 0) (ls' := (Bod.zero x.kind).vals none 0) rfl rfl rfl (zae rfl) rfl rfl (Nat.le_refl 76) (by repeat constructor) ?_
     refine gA ?_
     refine H.Aa (.there _ (.there _ (.here _ _))) ?_
     refine H.Aa (.there _ (.there _ (.here _ _))) ?_
     refine H.Ay (by kernel_rfl) (by decide +kernel) (by repeat (first | exact zab | refine zaa ?_ | refine zac ?_ | refine zad ?_)) (S := [_, _]) rfl ?_
     refine HB.Af [(0, false), (1, false), (2, false), (3, false), (4, false)] 3 (by kernel_rfl) ?_
     refine gE ?_
     refine HQ.Ag (ls := x.vals q qc) rfl rfl rfl (Rd.ofRow (by repeat constructor)) rfl rfl ?_
     refine HQ.Ae rfl ?_
     refine HB.ev1 (i := 5) (by kernel_rfl) rfl ?_
     refine H.callVE2 (fs := []) (cs := []) (vs := [.slice none 0 0, .agg (x.vals q qc).toArray]) rfl rfl rfl rfl (hput f _ x q qc none 0 [] Src.nil (fun _ => rfl) hq h2 h3 (by decide)) fun p1 c1 => ?_
     have hb := putK_len x kind h2 h3
     rw [List.nil_append]
     generalize hbs : x.putK kind = bs at hb ⊢
     have hbk : x.back kind = ((⟨bs, false⟩ : Cs).bodyK 32 128 x.kind kind).1 := by rw [← hbs]; rfl
     refine gA ?_
     refine H.Aa (.there _ (.there _ (.here _ _))) ?_
     refine H.Aa (.there _ (.there _ (.here _ _))) ?_
     refine H.on0 rfl ?_
     refine HB.ev1 (i := 6) (by kernel_rfl) rfl ?_
     refine H.Bp (.there _ (.there _ (.here _ _ _))) hb.1 fun b1 hp => ?_
     subst hp
     refine H.call rfl rfl rfl (octNew_fn f _ (Src.slcS (.there _ (.there _ (.here _ _ _))) (by rw [zaf]; exact (Nat.mul_one _).symm)) (fun h => by cases h) (by omega)) fun v f' A' hr => ?_
     obtain ⟨g1, cb, p2, c2, rfl, hg1, hd1, rfl, rfl⟩ := hr
     refine gA ?_
     refine H.Aa (.there _ (.there _ (.here _ _))) ?_
     refine H.Aa (.there _ (.there _ (.here _ _))) ?_
     refine H.on [] (Le.un _ _) rfl ?_
     refine HB.ev1 (i := 7) (by kernel_rfl) rfl ?_
     have e : row yb 52 ((Bod.zero x.kind).vals none 0) = bodAt yb 52 [] [] (Bod.zero x.kind) none 0 := by unfold bodAt; rw [List.append_nil]; rfl
     refine H.Aa (.there _ (.there _ (.there _ (.there _ (.here _ _))))) ?_
     refine H.Aa (.there _ (.there _ (.there _ (.here _ _)))) ?_
     rw [e]
     refine H.callVE (fs := []) (cs := []) (vs := [.pointer (some ⟨cb, 0, none⟩), .pointer (some ⟨yb, 0, none⟩)]) rfl rfl rfl rfl (hget (un f g1) _ cb ⟨bs, false⟩ yb 52 [] [] x.kind (by show bs.length ≤ _; omega)) fun i2 => ?_
     rw [← hbk]
     generalize ((⟨bs, false⟩ : Cs).bodyK 32 128 x.kind kind).2 = s2
     refine gA ?_
     refine H.Aa (.there _ (.there _ (.there _ (.there _ (.here _ _))))) ?_
     refine H.Aa (.there _ (.there _ (.there _ (.there _ (.here _ _))))) ?_
     refine H.on0 rfl ?_
     refine HB.Al (by kernel_rfl) ?_
     refine H.freeze (.there _ (.there _ (.there _ (.there _ (.here _ _))))) fun g2 hg2 hd2 => ?_
     have hq2 : QAt (un (un f g1) g2) q x.q := (hq.mono (Le.un f g1)).mono (Le.un _ g2)
     have hy2 : QAt (un (un f g1) g2) i2.1 (x.back kind).q := qs_qat hg2 hd2
     refine gA ?_
     refine H.Ag (ls := x.vals q qc) rfl rfl rfl (Rd.ofRow (by repeat constructor)) rfl rfl ?_
     refine H.Ag (ls := (x.back kind).vals i2.1 i2.2) rfl rfl rfl (bodAt_rd (pre := []) (post := []) (by repeat constructor)) rfl rfl ?_
     refine H.Ah rfl rfl rfl (same_fn _ _ hq2 hy2 hl) ?_
     refine gX ?_
     refine H.thaw hg2 hd2 ?_
     refine H.Ab (.here _ _) ?_
     refine H.thaw hg1 hd1 ?_
     repeat refine H.Ab (.here _ _) ?_
     refine H.Ac rfl rfl (fun _ h => h) ⟨?_, rfl, rfl⟩
     simp [Bod.mayP, h1, h2, h3]
    ·skip
     repeat (first | ((first | apply H.Aj | apply H.Ar | apply H.Bn); (iterate 3 exact rfl)) | (apply H.Aq; (iterate 3 exact rfl); exact inferInstance; exact rfl) | (apply H.Ad; (iterate 3 exact rfl); apply Rd1.ofRow; (repeat (first | exact .here _ _ _ | apply At.there)); (iterate 2 exact rfl)) | (first | apply H.seq | apply H.Au | apply H.nil | apply H.Av) | ((apply H.cmp); (iterate 5 exact rfl)) | ((first | apply H.Bb | apply H.not); (iterate 4 exact rfl)) | (first | apply H.ret | apply H.Bz) | (apply H.gno; (iterate 3 exact rfl); (omega)) | (apply H.Bq; exact rfl; (omega)) | (refine H.Ag (ls := x.vals q qc) rfl rfl rfl (Rd.ofRow (by repeat constructor)) rfl rfl ?_) | (refine H.callVR (fs := []) (cs := []) (vs := [.agg (x.vals q qc).toArray]) rfl rfl rfl rfl (hm _) ?_))
     refine H.Ab (.here _ _) ?_
     refine H.Ab (.here _ _) ?_
     refine H.Ac rfl rfl (fun _ h => h) ⟨?_, rfl, rfl⟩
     simp [Bod.mayP, *]
   ·have hm : ∀ A, Fn Tryz.prog f3 [.agg (x.vals q qc).toArray] f A (Ret (.bool false) f A) := fun A => by have := hmay f A x q qc hq hl; rwa [Bool.eq_false_iff.2 h2] at this
    repeat (first | ((first | apply H.Aj | apply H.Ar | apply H.Bn); (iterate 3 exact rfl)) | (apply H.Aq; (iterate 3 exact rfl); exact inferInstance; exact rfl) | (apply H.Ad; (iterate 3 exact rfl); apply Rd1.ofRow; (repeat (first | exact .here _ _ _ | apply At.there)); (iterate 2 exact rfl)) | (first | apply H.seq | apply H.Au | apply H.nil | apply H.Av) | ((apply H.cmp); (iterate 5 exact rfl)) | (apply H.Bm; (iterate 2 exact rfl)) | (apply H.Bi; (iterate 4 exact rfl)) | ((first | apply H.Bb | apply H.not); (iterate 4 exact rfl)) | (apply H.Ch; exact rfl) | (first | apply H.ret | apply H.Bz) | (apply H.gno; (iterate 3 exact rfl); (omega)) | (refine H.Ag (ls := x.vals q qc) rfl rfl rfl (Rd.ofRow (by repeat constructor)) rfl rfl ?_) | (refine H.callVR (fs := []) (cs := []) (vs := [.agg (x.vals q qc).toArray]) rfl rfl rfl rfl (hm _) ?_))
    refine H.Ab (.here _ _) ?_
    refine H.Ab (.here _ _) ?_
    refine H.Ac rfl rfl (fun _ h => h) ⟨?_, rfl, rfl⟩
    simp [Bod.mayP, *]
  ·have hm : ∀ A, Fn Tryz.prog f3 [.agg (x.vals q qc).toArray] f A (Ret (.bool (x.mayK kind)) f A) := fun A => hmay f A x q qc hq hl
   refine gT ?_
   refine H.Ab (.here _ _) ?_
   refine H.Ab (.here _ _) ?_
   refine H.Ac rfl rfl (fun _ h => h) ⟨?_, rfl, rfl⟩
   simp [Bod.mayP, *]
 ·refine H.Ay (by kernel_rfl) (by decide +kernel) (by repeat (first | exact zab | refine zaa ?_ | refine zac ?_ | refine zad ?_)) (S := [_]) rfl ?_
  refine HB.Af [(1, false), (2, false)] 8 (by kernel_rfl) ?_
  refine gE ?_
  refine HQ.Ae rfl ?_
  refine HB.ev2 (i := 0) (j := 7) (by kernel_rfl) rfl rfl ?_ ?_
  ·refine H.callE rfl rfl rfl (codecs_fn f _) fun mb => ?_
   refine gA ?_
   refine H.Aa (.there _ (.here _ _)) ?_
   refine H.on [_] (Le.refl _) rfl ?_
   refine HB.Af [(3, false), (4, false), (5, false), (6, false)] 3 (by kernel_rfl) ?_
   refine HQ.lookup2 (enc := encU8) (k := (kind : Int)) rfl rfl rfl (by repeat constructor) hkv (hz _) hi rfl ?_
   refine gP ?_
   refine HQ.Ae rfl ?_
   refine HB.ev1 (i := 7) (by kernel_rfl) rfl ?_
   refine H.Am (ls := [.nilFunc, .nilFunc, .nilFunc]) rfl rfl rfl fun vb => ?_
   refine gA ?_
   refine H.Aa (.there _ (.there _ (.here _ _))) ?_
   refine H.Aa (.there _ (.there _ (.here _ _))) ?_
   refine H.on0 rfl ?_
   refine HB.ev1 (i := 8) (by kernel_rfl) rfl ?_
   refine H.Ak (ls := [.nilFunc, .nilFunc, .nilFunc]) (vs := codecCells f1 f2 f3) (ls' := codecCells f1 f2 f3) rfl rfl rfl (zae rfl) rfl rfl (Nat.le_refl 3) (by repeat constructor) ?_
   refine gA ?_
   refine H.on0 rfl ?_
   refine HB.Af [(9, false)] 0 (by kernel_rfl) ?_
   refine gB ?_
   refine HQ.Ae rfl ?_
   refine HB.Al (by kernel_rfl) ?_
   refine H.Ab (.there _ (.here _ _)) ?_
   refine H.Aa (.there _ (.here _ _)) ?_
   exact H.meet vb trivial ⟨rfl, rfl, rfl, trivial⟩ rfl rfl
  ·refine H.Am (ls := [.nilFunc, .nilFunc, .nilFunc]) rfl rfl rfl fun vb => ?_
   refine gA ?_
   refine H.Aa (.there _ (.here _ _)) ?_
   refine H.on0 rfl ?_
   refine HB.ev1 (i := 0) (by kernel_rfl) rfl ?_
   refine H.callE rfl rfl rfl (codecs_fn f _) fun mb => ?_
   refine gA ?_
   refine H.Aa (.there _ (.here _ _)) ?_
   refine H.on [_] (Le.refl _) rfl ?_
   refine HB.Af [(3, false), (4, false), (5, false), (6, false)] 2 (by kernel_rfl) ?_
   refine HQ.lookup2 (enc := encU8) (k := (kind : Int)) rfl rfl rfl (by repeat constructor) hkv (hz _) hi rfl ?_
   refine gP ?_
   refine HQ.Ae rfl ?_
   refine HB.ev1 (i := 8) (by kernel_rfl) rfl ?_
   refine H.Ak (ls := [.nilFunc, .nilFunc, .nilFunc]) (vs := codecCells f1 f2 f3) (ls' := codecCells f1 f2 f3) rfl rfl rfl (zae rfl) rfl rfl (Nat.le_refl 3) (by repeat constructor) ?_
   refine gA ?_
   refine H.on0 rfl ?_
   refine HB.Af [(9, false)] 0 (by kernel_rfl) ?_
   refine gB ?_
   refine HQ.Ae rfl ?_
   refine HB.Al (by kernel_rfl) ?_
   refine H.Ab (.there _ (.here _ _)) ?_
   refine H.Aa (.there _ (.here _ _)) ?_
   exact H.meet vb trivial ⟨rfl, rfl, rfl, trivial⟩ rfl rfl
end
theorem zas (d : Nat → Int) {i : Nat} (h : i < 11) : (v11 d)[i]? = some (.int .u64 (d i)) := by
 match i, h with
 | 0, _ => rfl
 | 1, _ => rfl
 | 2, _ => rfl
 | 3, _ => rfl
 | 4, _ => rfl
 | 5, _ => rfl
 | 6, _ => rfl
 | 7, _ => rfl
 | 8, _ => rfl
 | 9, _ => rfl
 | 10, _ => rfl
def maxTo (d : Nat → Int) : Nat → Int
 | 0 => d 0
 | i + 1 => if maxTo d i < d (i + 1) then d (i + 1) else maxTo d i
theorem maxTo_le (d : Nat → Int) (B : Int) : ∀ n, maxTo d n ≤ B ↔ ∀ i, i ≤ n → d i ≤ B
 | 0 => ⟨fun h i hi => by rw [show i = 0 by omega]; exact h, fun h => h 0 (Nat.le_refl _)⟩
 | n + 1 => by
  have ih := maxTo_le d B n
  unfold maxTo
  constructor
  ·intro h i hi
   by_cases e : i = n + 1
   ·subst e; split at h <;> omega
   ·exact ih.1 (by split at h <;> omega) i (by omega)
  ·intro h
   have h1 := ih.2 fun i hi => h i (by omega)
   have h2 := h (n + 1) (Nat.le_refl _)
   split <;> omega
theorem zbc {f : Frag} {A A' : List HP} {mb : Nat} {T : TypeId} {m : Msg} {q : Option Addr} {qc : Nat} (h : At A (row mb T (m.vals q qc)) A' (row mb T (m.vals q qc))) : Rd f A mb (0 + 2) (v11 m.deps) := by
 have h1 := Rd.ofRow (f := f) h
 have e : m.vals q qc = [.int .i64 m.origin, .int .u64 m.number] ++ v11 m.deps ++ (m.body.vals q qc ++ b32 m.tag) := by unfold Msg.vals; simp only [List.append_assoc]
 rw [e] at h1
 exact h1.sub rfl
theorem msg_body {f : Frag} {A A' : List HP} {mb : Nat} {T : TypeId} {m : Msg} {q : Option Addr} {qc : Nat} (h : At A (row mb T (m.vals q qc)) A' (row mb T (m.vals q qc))) : Rd f A mb (0 + 13) (m.body.vals q qc) := by
 have h1 := Rd.ofRow (f := f) h
 have e : m.vals q qc = ([.int .i64 m.origin, .int .u64 m.number] ++ v11 m.deps) ++ m.body.vals q qc ++ b32 m.tag := rfl
 rw [e] at h1
 exact h1.sub rfl
section
variable (f : Frag) (F : List HP)
theorem max_fn {b off : Nat} {d : Nat → Int} (hr : Rd f F b off (v11 d)) :
  Fn Tryz.prog 72 [.slice (some ⟨b, off, none⟩) 11 11] f F (Ret (.int .u64 (maxTo d 10)) f F) := by
 refine Fn.enter Tryz.func72 rfl Tryz.ntmps72 rfl (L := [(0, _)]) ⟨rfl, trivial⟩ fun base => ?_
 refine gM ?_
 refine H.index1 (i := 0) rfl rfl rfl rfl (by decide) rfl ?_
 refine H.Ad rfl rfl rfl (.of hr (i := 0) rfl) rfl ?_
 refine gX ?_
 refine H.Aw (ι := Nat) (fun i => [(4, .int .i64 ((i + 1 : Nat) : Int)), (3, .int .u64 (maxTo d i)), (0, .slice (some ⟨b, off, none⟩) 11 11)]) (fun _ => f) (fun _ => F) (fun i => i ≤ 10) (fun i => 10 - i) 0 (Nat.zero_le _) ⟨rfl, rfl, rfl, trivial⟩ rfl rfl fun i hi => ?_
 have hi : i ≤ 10 := hi
 by_cases hlt : i < 10
 ·refine gI ?_
  refine H.index1 (i := i + 1) rfl rfl rfl rfl (by omega) rfl ?_
  refine H.Ad rfl rfl rfl (.of hr (zas d (by omega))) rfl ?_
  refine H.max2 (z := maxTo d (i + 1)) rfl rfl rfl rfl rfl ?_
  refine ge ?_
  exact H.Ao (i + 1) (by show i + 1 ≤ 10; omega) (by show 10 - (i + 1) < 10 - i; omega) ⟨rfl, rfl, rfl, trivial⟩ rfl rfl
 ·have : i = 10 := by omega
  subst this
  refine gM ?_
  exact H.Ac rfl rfl (fun _ h => h) ⟨rfl, rfl, rfl⟩
theorem body_none {x : Bod} {q : Option Addr} {qc : Nat} (hcod : getKV codecsM (x.kind.toNat : Int) = none) :
  Fn Tryz.prog 73 [.agg (x.vals q qc).toArray] f F (Ret (.bool false) f F) := by
 refine Fn.enter Tryz.func73 rfl Tryz.ntmps73 rfl (L := [(0, _)]) ⟨rfl, trivial⟩ fun base => ?_
 refine gA ?_
 refine H.box (ls := x.vals q qc) rfl rfl rfl rfl fun xb => ?_
 refine gO ?_
 have hz : (getKV codecsM (x.kind.toNat : Int)).getD (.agg ([.nilFunc, .nilFunc, .nilFunc] : List Value).toArray) = .agg ([.nilFunc, .nilFunc, .nilFunc] : List Value).toArray := by rw [hcod]; rfl
 have hi : (getKV codecsM (x.kind.toNat : Int)).isSome = false := by rw [hcod]; rfl
 refine H.cut (ι := Nat) (fun i => [(1, .pointer (some ⟨xb, 0, none⟩)), (3, .pointer (some ⟨i, 0, none⟩)), (4, .bool false)]) (fun _ => f) (fun i => row i 202 [.nilFunc, .nilFunc, .nilFunc] :: row xb 52 (x.vals q qc) :: F) (fun _ => True) _ (fun i _ => ?_) ?_
 ·refine gT ?_
  repeat refine H.Ab (.here _ _) ?_
  exact H.Ac rfl rfl (fun _ h => h) ⟨rfl, rfl, rfl⟩
 ·refine H.Ay (by kernel_rfl) (by decide +kernel) (by repeat (first | exact zab | refine zaa ?_ | refine zac ?_ | refine zad ?_)) (S := [_]) rfl ?_
  refine HB.Af [(1, false), (2, false)] 8 (by kernel_rfl) ?_
  refine gE ?_
  refine HQ.Ae rfl ?_
  refine HB.ev2 (i := 0) (j := 7) (by kernel_rfl) rfl rfl ?_ ?_
  ·refine H.callE rfl rfl rfl (codecs_fn f _) fun mb => ?_
   refine gA ?_
   refine H.Aa (.there _ (.here _ _)) ?_
   refine H.on [_] (Le.refl _) rfl ?_
   refine HB.Af [(3, false), (4, false), (5, false), (6, false)] 3 (by kernel_rfl) ?_
   refine HQ.lookup2 (enc := encU8) (k := (x.kind.toNat : Int)) rfl rfl rfl (by repeat constructor) rfl hz hi rfl ?_
   refine gP ?_
   refine HQ.Ae rfl ?_
   refine HB.ev1 (i := 7) (by kernel_rfl) rfl ?_
   refine H.Am (ls := [.nilFunc, .nilFunc, .nilFunc]) rfl rfl rfl fun vb => ?_
   refine gA ?_
   refine H.Aa (.there _ (.there _ (.here _ _))) ?_
   refine H.Aa (.there _ (.there _ (.here _ _))) ?_
   refine H.on0 rfl ?_
   refine HB.ev1 (i := 8) (by kernel_rfl) rfl ?_
   refine H.Ak (ls := [.nilFunc, .nilFunc, .nilFunc]) (vs := [.nilFunc, .nilFunc, .nilFunc]) (ls' := [.nilFunc, .nilFunc, .nilFunc]) rfl rfl rfl (zae rfl) rfl rfl (Nat.le_refl 3) (by repeat constructor) ?_
   refine gA ?_
   refine H.on0 rfl ?_
   refine HB.Af [(9, false)] 0 (by kernel_rfl) ?_
   refine gB ?_
   refine HQ.Ae rfl ?_
   refine HB.Al (by kernel_rfl) ?_
   refine H.Ab (.there _ (.here _ _)) ?_
   refine H.Aa (.there _ (.here _ _)) ?_
   exact H.meet vb trivial ⟨rfl, rfl, rfl, trivial⟩ rfl rfl
  ·refine H.Am (ls := [.nilFunc, .nilFunc, .nilFunc]) rfl rfl rfl fun vb => ?_
   refine gA ?_
   refine H.Aa (.there _ (.here _ _)) ?_
   refine H.on0 rfl ?_
   refine HB.ev1 (i := 0) (by kernel_rfl) rfl ?_
   refine H.callE rfl rfl rfl (codecs_fn f _) fun mb => ?_
   refine gA ?_
   refine H.Aa (.there _ (.here _ _)) ?_
   refine H.on [_] (Le.refl _) rfl ?_
   refine HB.Af [(3, false), (4, false), (5, false), (6, false)] 2 (by kernel_rfl) ?_
   refine HQ.lookup2 (enc := encU8) (k := (x.kind.toNat : Int)) rfl rfl rfl (by repeat constructor) rfl hz hi rfl ?_
   refine gP ?_
   refine HQ.Ae rfl ?_
   refine HB.ev1 (i := 8) (by kernel_rfl) rfl ?_
   refine H.Ak (ls := [.nilFunc, .nilFunc, .nilFunc]) (vs := [.nilFunc, .nilFunc, .nilFunc]) (ls' := [.nilFunc, .nilFunc, .nilFunc]) rfl rfl rfl (zae rfl) rfl rfl (Nat.le_refl 3) (by repeat constructor) ?_
   refine gA ?_
   refine H.on0 rfl ?_
   refine HB.Af [(9, false)] 0 (by kernel_rfl) ?_
   refine gB ?_
   refine HQ.Ae rfl ?_
   refine HB.Al (by kernel_rfl) ?_
   refine H.Ab (.there _ (.here _ _)) ?_
   refine H.Aa (.there _ (.here _ _)) ?_
   exact H.meet vb trivial ⟨rfl, rfl, rfl, trivial⟩ rfl rfl
def Bod.mayB (x : Bod) : Bool := decide (1 ≤ x.kind.toNat ∧ x.kind.toNat ≤ 6) && x.mayP x.kind.toNat
theorem bodyP_fn {x : Bod} {q : Option Addr} {qc : Nat} (hq : QAt f q x.q) (hl : x.q.length ≤ 1000000000) :
  Fn Tryz.prog 73 [.agg (x.vals q qc).toArray] f F (Ret (.bool x.mayB) f F) := by
 unfold Bod.mayB
 generalize hk : x.kind.toNat = kind
 match kind, hk with
 | 1, hk => exact body_fn f F 1 hk _ _ _ put1 get1 may1 (by rfl) hq hl
 | 2, hk => exact body_fn f F 2 hk _ _ _ put2 get2 may2 (by rfl) hq hl
 | 3, hk => exact body_fn f F 3 hk _ _ _ put3 get3 may3 (by rfl) hq hl
 | 4, hk => exact body_fn f F 4 hk _ _ _ put4 get4 may4 (by rfl) hq hl
 | 5, hk => exact body_fn f F 5 hk _ _ _ put5 get5 may5 (by rfl) hq hl
 | 6, hk => exact body_fn f F 6 hk _ _ _ put6 get6 may6 (by rfl) hq hl
 | 0, hk =>
  rw [decide_eq_false (by omega), Bool.false_and]
  exact body_none f F (by rw [hk]; rfl)
 | k + 7, hk =>
  rw [decide_eq_false (by omega), Bool.false_and]
  refine body_none f F ?_
  rw [hk]
  refine (getKV_none codecsM _).2 ?_
  simp only [codecsM, List.map_cons, List.map_nil, List.mem_cons, List.not_mem_nil, or_false]
  omega
def Msg.outer (m : Msg) : Prop := 1 ≤ m.origin ∧ m.origin ≤ 11 ∧ 1 ≤ m.number ∧ m.number ≤ 65536 ∧ m.deps (m.origin.toNat - 1) = m.number - 1 ∧ maxTo m.deps 10 ≤ 65536
instance (m : Msg) : Decidable m.outer := by unfold Msg.outer; infer_instance
theorem may_fn {m : Msg} {q : Option Addr} {qc : Nat} (hq : QAt f q m.body.q) (hl : m.body.q.length ≤ 1000000000) :
  Fn Tryz.prog 46 [.agg (m.vals q qc).toArray] f F (Ret (.bool (decide m.outer && m.body.mayB)) f F) := by
 by_cases h1 : 1 ≤ m.origin
 ·skip
  by_cases h2 : m.origin ≤ 11
  ·skip
   by_cases h3 : 1 ≤ m.number
   ·skip
    by_cases h4 : m.number ≤ 65536
    ·skip
     by_cases h5 : m.deps (m.origin.toNat - 1) = m.number - 1
     ·skip
      by_cases h6 : maxTo m.deps 10 ≤ 65536
      ·skip
       try simp only [Bool.not_eq_true] at *
       refine Fn.enter Tryz.func46 rfl Tryz.ntmps46 rfl (L := [(0, _)]) ⟨rfl, trivial⟩ fun base => ?_
       refine gA ?_
       refine H.box (ls := m.vals q qc) rfl rfl rfl rfl fun mb => ?_
       refine gO ?_
       refine H.Bg (by kernel_rfl) (by decide +kernel) (by repeat (first | exact zab | refine zaa ?_ | refine zac ?_ | refine zad ?_)) ?_
       repeat (first | ((apply HQ.Aj); (iterate 3 exact rfl)) | (apply HQ.Aq; (iterate 3 exact rfl); exact inferInstance; exact rfl) | (apply HQ.Ad; (iterate 3 exact rfl); apply Rd1.ofRow; (repeat (exact .here _ _ _)); (iterate 2 exact rfl)) | ((apply HQ.done0); exact rfl) | ((apply HQ.cmp); (iterate 5 exact rfl)) | ((apply HQ.ar; (iterate 4 exact rfl)); (first | (with_reducible apply wr_i64; omega) | (with_reducible apply wr_u64; omega)); exact rfl) | ((apply HQ.Bb); (iterate 4 exact rfl)) | (apply HQ.gno; (iterate 3 exact rfl); (omega)) | (refine HQ.Ba (i := (m.origin.toNat - 1)) rfl rfl rfl (by omega) (by omega) rfl ?_) | (refine HQ.Ad rfl rfl rfl (.of (zbc (by repeat constructor)) (by rw [Nat.mul_one]; exact zas m.deps (by omega))) rfl ?_))
       repeat (first | ((first | apply H.Aj | apply H.Ar); (iterate 3 exact rfl)) | (apply H.Aq; (iterate 3 exact rfl); exact inferInstance; exact rfl) | (first | apply H.seq | apply H.Au | apply H.nil | apply H.Av) | ((apply H.cmp); (iterate 5 exact rfl)) | (apply H.Bi; (iterate 4 exact rfl)) | (first | apply H.Bk | apply H.ret) | (apply H.Bo; (iterate 3 exact rfl); (assumption)) | (apply H.Bu; exact rfl; (omega)) | (refine H.Cf (lo := none) (hi := none) (mx := none) (lv := 0) (hv := 11) (mv := 11) rfl rfl rfl rfl rfl (fun h => by cases h) (by decide) (by decide) (by decide) rfl ?_) | (refine H.Ah rfl rfl rfl (max_fn f _ (off := 0 + 2) (d := m.deps) (zbc (by repeat constructor))) ?_) | (refine H.Ag (ls := m.body.vals q qc) rfl rfl rfl (msg_body (by repeat constructor)) rfl rfl ?_) | (refine H.Ah rfl rfl rfl (bodyP_fn f _ hq hl) ?_))
       refine H.Ab (.here _ _) ?_
       refine H.Ac rfl rfl (fun _ h => h) ⟨?_, rfl, rfl⟩
       simp [Msg.outer, *]
      ·skip
       try simp only [Bool.not_eq_true] at *
       refine Fn.enter Tryz.func46 rfl Tryz.ntmps46 rfl (L := [(0, _)]) ⟨rfl, trivial⟩ fun base => ?_
       refine gA ?_
       refine H.box (ls := m.vals q qc) rfl rfl rfl rfl fun mb => ?_
       refine gO ?_
       refine H.Bg (by kernel_rfl) (by decide +kernel) (by repeat (first | exact zab | refine zaa ?_ | refine zac ?_ | refine zad ?_)) ?_
       repeat (first | ((apply HQ.Aj); (iterate 3 exact rfl)) | (apply HQ.Aq; (iterate 3 exact rfl); exact inferInstance; exact rfl) | (apply HQ.Ad; (iterate 3 exact rfl); apply Rd1.ofRow; (repeat (exact .here _ _ _)); (iterate 2 exact rfl)) | ((apply HQ.done0); exact rfl) | ((apply HQ.cmp); (iterate 5 exact rfl)) | ((apply HQ.ar; (iterate 4 exact rfl)); (first | (with_reducible apply wr_i64; omega) | (with_reducible apply wr_u64; omega)); exact rfl) | ((apply HQ.Bb); (iterate 4 exact rfl)) | (apply HQ.gno; (iterate 3 exact rfl); (omega)) | (refine HQ.Ba (i := (m.origin.toNat - 1)) rfl rfl rfl (by omega) (by omega) rfl ?_) | (refine HQ.Ad rfl rfl rfl (.of (zbc (by repeat constructor)) (by rw [Nat.mul_one]; exact zas m.deps (by omega))) rfl ?_))
       repeat (first | ((first | apply H.Aj | apply H.Ar); (iterate 3 exact rfl)) | (apply H.Aq; (iterate 3 exact rfl); exact inferInstance; exact rfl) | (first | apply H.seq | apply H.Au | apply H.nil | apply H.Av) | ((apply H.cmp); (iterate 5 exact rfl)) | (apply H.Bm; (iterate 2 exact rfl)) | ((apply H.Bb); (iterate 4 exact rfl)) | (first | apply H.Bk | apply H.ret) | (apply H.gno; (iterate 3 exact rfl); (assumption)) | (apply H.Bu; exact rfl; (omega)) | (refine H.Cf (lo := none) (hi := none) (mx := none) (lv := 0) (hv := 11) (mv := 11) rfl rfl rfl rfl rfl (fun h => by cases h) (by decide) (by decide) (by decide) rfl ?_) | (refine H.Ah rfl rfl rfl (max_fn f _ (off := 0 + 2) (d := m.deps) (zbc (by repeat constructor))) ?_))
       refine H.Ab (.here _ _) ?_
       refine H.Ac rfl rfl (fun _ h => h) ⟨?_, rfl, rfl⟩
       simp [Msg.outer, *]
     ·skip
      try simp only [Bool.not_eq_true] at *
      refine Fn.enter Tryz.func46 rfl Tryz.ntmps46 rfl (L := [(0, _)]) ⟨rfl, trivial⟩ fun base => ?_
      refine gA ?_
      refine H.box (ls := m.vals q qc) rfl rfl rfl rfl fun mb => ?_
      refine gO ?_
      refine H.Bg (by kernel_rfl) (by decide +kernel) (by repeat (first | exact zab | refine zaa ?_ | refine zac ?_ | refine zad ?_)) ?_
      repeat (first | ((apply HQ.Aj); (iterate 3 exact rfl)) | (apply HQ.Aq; (iterate 3 exact rfl); exact inferInstance; exact rfl) | (apply HQ.Ad; (iterate 3 exact rfl); apply Rd1.ofRow; (repeat (exact .here _ _ _)); (iterate 2 exact rfl)) | ((apply HQ.done0); exact rfl) | ((apply HQ.cmp); (iterate 5 exact rfl)) | ((apply HQ.ar; (iterate 4 exact rfl)); (first | (with_reducible apply wr_i64; omega) | (with_reducible apply wr_u64; omega)); exact rfl) | ((apply HQ.Bb); (iterate 4 exact rfl)) | (apply HQ.gno; (iterate 3 exact rfl); (omega)) | (refine HQ.Ba (i := (m.origin.toNat - 1)) rfl rfl rfl (by omega) (by omega) rfl ?_) | (refine HQ.Ad rfl rfl rfl (.of (zbc (by repeat constructor)) (by rw [Nat.mul_one]; exact zas m.deps (by omega))) rfl ?_))
      refine gI ?_
      refine H.Ab (.here _ _) ?_
      refine H.Ac rfl rfl (fun _ h => h) ⟨?_, rfl, rfl⟩
      simp [Msg.outer, *]
    ·skip
     try simp only [Bool.not_eq_true] at *
     refine Fn.enter Tryz.func46 rfl Tryz.ntmps46 rfl (L := [(0, _)]) ⟨rfl, trivial⟩ fun base => ?_
     refine gA ?_
     refine H.box (ls := m.vals q qc) rfl rfl rfl rfl fun mb => ?_
     refine gO ?_
     refine H.Bg (by kernel_rfl) (by decide +kernel) (by repeat (first | exact zab | refine zaa ?_ | refine zac ?_ | refine zad ?_)) ?_
     refine gW ?_
     refine ge ?_
     refine H.Ab (.here _ _) ?_
     refine H.Ac rfl rfl (fun _ h => h) ⟨?_, rfl, rfl⟩
     simp [Msg.outer, *]
   ·skip
    try simp only [Bool.not_eq_true] at *
    refine Fn.enter Tryz.func46 rfl Tryz.ntmps46 rfl (L := [(0, _)]) ⟨rfl, trivial⟩ fun base => ?_
    refine gA ?_
    refine H.box (ls := m.vals q qc) rfl rfl rfl rfl fun mb => ?_
    refine gO ?_
    refine H.Bg (by kernel_rfl) (by decide +kernel) (by repeat (first | exact zab | refine zaa ?_ | refine zac ?_ | refine zad ?_)) ?_
    refine gW ?_
    refine ge ?_
    refine H.Ab (.here _ _) ?_
    refine H.Ac rfl rfl (fun _ h => h) ⟨?_, rfl, rfl⟩
    simp [Msg.outer, *]
  ·skip
   try simp only [Bool.not_eq_true] at *
   refine Fn.enter Tryz.func46 rfl Tryz.ntmps46 rfl (L := [(0, _)]) ⟨rfl, trivial⟩ fun base => ?_
   refine gA ?_
   refine H.box (ls := m.vals q qc) rfl rfl rfl rfl fun mb => ?_
   refine gO ?_
   refine H.Bg (by kernel_rfl) (by decide +kernel) (by repeat (first | exact zab | refine zaa ?_ | refine zac ?_ | refine zad ?_)) ?_
   refine gW ?_
   refine ge ?_
   refine H.Ab (.here _ _) ?_
   refine H.Ac rfl rfl (fun _ h => h) ⟨?_, rfl, rfl⟩
   simp [Msg.outer, *]
 ·skip
  try simp only [Bool.not_eq_true] at *
  refine Fn.enter Tryz.func46 rfl Tryz.ntmps46 rfl (L := [(0, _)]) ⟨rfl, trivial⟩ fun base => ?_
  refine gA ?_
  refine H.box (ls := m.vals q qc) rfl rfl rfl rfl fun mb => ?_
  refine gO ?_
  refine H.Bg (by kernel_rfl) (by decide +kernel) (by repeat (first | exact zab | refine zaa ?_ | refine zac ?_ | refine zad ?_)) ?_
  refine gW ?_
  refine ge ?_
  refine H.Ab (.here _ _) ?_
  refine H.Ac rfl rfl (fun _ h => h) ⟨?_, rfl, rfl⟩
  simp [Msg.outer, *]
end
section
variable (f : Frag) (F : List HP)
theorem rpairs_fn {p r : Option Addr} {c d : Nat} {l m : List (Int × Int)} (hp : QAt f p l) (hr : QAt f r m) (hl : l.length ≤ 1000000000) :
  Fn Tryz.prog 155 [.slice p l.length c, .slice r m.length d] f F (Ret (.bool (decide (l = m))) f F) := by
 by_cases hlen : (l.length : Int) = m.length
 ·have hlen' : l.length = m.length := by omega
  refine Fn.enter Tryz.func155 rfl Tryz.ntmps155 rfl (L := [(0, _), (1, _)]) ⟨rfl, rfl, trivial⟩ fun base => ?_
  refine gN ?_
  rw [decide_eq_false (by omega)]
  skip
  refine H.Aw (ι := Nat) (fun i => [(5, .int .i64 (i : Int)), (0, .slice p l.length c), (1, .slice r m.length d)]) (fun _ => f) (fun _ => F) (fun i => i ≤ l.length ∧ l.take i = m.take i) (fun i => l.length - i) 0 ⟨Nat.zero_le _, rfl⟩ ⟨rfl, rfl, rfl, trivial⟩ rfl rfl fun i hi => ?_
  obtain ⟨hi, htk⟩ : i ≤ l.length ∧ l.take i = m.take i := hi
  by_cases hlt : i < l.length
  ·have hx : l[i]? = some l[i] := List.getElem?_eq_getElem hlt
   have hy : m[i]? = some (m[i]'(by omega)) := List.getElem?_eq_getElem (by omega)
   generalize l[i] = x at hx
   generalize m[i]'(by omega) = y at hy
   obtain ⟨b, off, cs, T, fr, rfl, hfb, hcs⟩ := hp i x hx
   obtain ⟨b2, off2, cs2, T2, fr2, rfl, hfb2, hcs2⟩ := hr i y hy
   have rd : ∀ A, Rd f A b (off + i * 2) (pairV x) := fun A => Rd.imm hfb hcs
   have rd2 : ∀ A, Rd f A b2 (off2 + i * 2) (pairV y) := fun A => Rd.imm hfb2 hcs2
   refine gI ?_
   refine H.Bg (by kernel_rfl) (by decide +kernel) (by repeat (first | exact zab | refine zaa ?_ | refine zac ?_ | refine zad ?_)) ?_
   refine gB ?_
   refine HQ.Ap rfl rfl rfl rfl hlt rfl ?_
   refine HQ.Ag (ls := pairV x) rfl rfl rfl (rd _) rfl rfl ?_
   refine gB ?_
   refine HQ.Ap rfl rfl rfl rfl (by omega) rfl ?_
   refine HQ.Ag (ls := pairV y) rfl rfl rfl (rd2 _) rfl rfl ?_
   refine HQ.aggNe (D := 4) (b := !decide (x = y)) rfl rfl rfl rfl (by kernel_rfl) (by kernel_rfl) (by kernel_rfl) (by kernel_rfl) (by decide) (by rw [eqC_pair]) rfl ?_
   by_cases hxy : x = y
   ·rw [decide_eq_true hxy]
    refine gL ?_
    refine gM ?_
    exact H.Ao (i + 1) ⟨by show i + 1 ≤ l.length; omega, take_eq_succ htk hx hy hxy⟩ (by show l.length - (i + 1) < l.length - i; omega) ⟨rfl, rfl, rfl, trivial⟩ rfl rfl
   ·rw [decide_eq_false hxy]
    refine gL ?_
    refine ge ?_
    refine H.Ac rfl rfl (fun _ h => h) ⟨?_, rfl, rfl⟩
    rw [decide_eq_false]
    rintro rfl
    rw [hx] at hy
    exact hxy (Option.some.inj hy)
  ·have : i = l.length := by omega
   subst this
   refine gN ?_
   refine H.Ac rfl rfl (fun _ h => h) ⟨?_, rfl, rfl⟩
   rw [decide_eq_true]
   rwa [List.take_length, hlen', List.take_length] at htk
 ·refine Fn.enter Tryz.func155 rfl Tryz.ntmps155 rfl (L := [(0, _), (1, _)]) ⟨rfl, rfl, trivial⟩ fun base => ?_
  refine gI ?_
  refine H.Ac rfl rfl (fun _ h => h) ⟨?_, rfl, rfl⟩
  rw [decide_eq_false]
  rintro rfl
  exact hlen rfl
theorem rsame_fn {a b : Bod} {p r : Option Addr} {c d : Nat} (hp : QAt f p a.q) (hr : QAt f r b.q) (hl : a.q.length ≤ 1000000000) :
  Fn Tryz.prog 106 [.agg (a.vals p c).toArray, .agg (b.vals r d).toArray] f F (Ret (.bool (Bod.eqB a b)) f F) := by
 by_cases h1 : (a.kind.toNat : Int) = b.kind.toNat
 ·skip
  by_cases h2 : a.view = b.view
  ·skip
   by_cases h3 : a.k = b.k
   ·skip
    by_cases h4 : eqC a.req.vals b.req.vals = true
    ·skip
     by_cases h5 : a.q = b.q
     ·skip
      try simp only [Bool.not_eq_true] at *
      refine Fn.enter Tryz.func106 rfl Tryz.ntmps106 rfl (L := [(0, _), (1, _)]) ⟨rfl, rfl, trivial⟩ fun base => ?_
      repeat (first | ((first | apply H.Aj | apply H.Ar); (iterate 3 exact rfl)) | (apply H.Aq; (iterate 3 exact rfl); exact inferInstance; exact rfl) | (apply H.Ad; (iterate 3 exact rfl); apply Rd1.ofRow; (repeat (first | exact .here _ _ _ | apply At.there)); (iterate 2 exact rfl)) | (first | apply H.seq | apply H.Au | apply H.nil | apply H.Av) | ((apply H.cmp); (iterate 5 exact rfl)) | (apply H.Bi; (iterate 4 exact rfl)) | (apply H.ret) | (apply H.Bo; (iterate 3 exact rfl); (assumption)) | ((apply H.gtrue); (iterate 3 exact rfl); assumption) | (refine H.box (ls := a.vals p c) rfl rfl rfl rfl fun ab => ?_) | (refine H.box (ls := b.vals r d) rfl rfl rfl rfl fun bb => ?_) | (refine H.Ag (ls := a.req.vals) rfl rfl rfl (zaz (by repeat constructor)) rfl rfl ?_) | (refine H.Ag (ls := b.req.vals) rfl rfl rfl (zaz (by repeat constructor)) rfl rfl ?_) | (refine H.aggEq (xs := a.req.vals) (ys := b.req.vals) (D := 4) rfl rfl rfl rfl (by kernel_rfl) (by kernel_rfl) (by kernel_rfl) (by kernel_rfl) (by decide) rfl rfl ?_) | (refine H.Ah rfl rfl rfl (rpairs_fn f _ hp hr hl) ?_) | (refine H.Ag (ls := bytesV (b32L a.dig)) rfl rfl rfl (row_dig (by repeat constructor)) rfl rfl ?_) | (refine H.Ag (ls := bytesV (b32L b.dig)) rfl rfl rfl (row_dig (by repeat constructor)) rfl rfl ?_) | (refine H.aggEq (xs := bytesV (b32L a.dig)) (ys := bytesV (b32L b.dig)) (b := eqC (b32 a.dig) (b32 b.dig)) (D := 4) rfl rfl rfl rfl (by kernel_rfl) (by kernel_rfl) (by kernel_rfl) (by kernel_rfl) (by decide) rfl rfl ?_))
      refine H.Ab (.here _ _) ?_
      refine H.Ab (.here _ _) ?_
      refine H.Ac rfl rfl (fun _ h => h) ⟨?_, rfl, rfl⟩
      simp [Bod.eqB, *]
     ·skip
      try simp only [Bool.not_eq_true] at *
      refine Fn.enter Tryz.func106 rfl Tryz.ntmps106 rfl (L := [(0, _), (1, _)]) ⟨rfl, rfl, trivial⟩ fun base => ?_
      repeat (first | ((first | apply H.Aj | apply H.Ar); (iterate 3 exact rfl)) | (apply H.Aq; (iterate 3 exact rfl); exact inferInstance; exact rfl) | (apply H.Ad; (iterate 3 exact rfl); apply Rd1.ofRow; (repeat (first | exact .here _ _ _ | apply At.there)); (iterate 2 exact rfl)) | (first | apply H.seq | apply H.Au | apply H.nil | apply H.Av) | ((apply H.cmp); (iterate 5 exact rfl)) | (apply H.Bm; (iterate 2 exact rfl)) | (apply H.Bi; (iterate 4 exact rfl)) | ((apply H.Bb); (iterate 4 exact rfl)) | (apply H.ret) | (apply H.Bo; (iterate 3 exact rfl); (assumption)) | (apply H.gno; (iterate 3 exact rfl); (assumption)) | ((apply H.gtrue); (iterate 3 exact rfl); assumption) | (refine H.box (ls := a.vals p c) rfl rfl rfl rfl fun ab => ?_) | (refine H.box (ls := b.vals r d) rfl rfl rfl rfl fun bb => ?_) | (refine H.Ag (ls := a.req.vals) rfl rfl rfl (zaz (by repeat constructor)) rfl rfl ?_) | (refine H.Ag (ls := b.req.vals) rfl rfl rfl (zaz (by repeat constructor)) rfl rfl ?_) | (refine H.aggEq (xs := a.req.vals) (ys := b.req.vals) (D := 4) rfl rfl rfl rfl (by kernel_rfl) (by kernel_rfl) (by kernel_rfl) (by kernel_rfl) (by decide) rfl rfl ?_) | (refine H.Ah rfl rfl rfl (rpairs_fn f _ hp hr hl) ?_))
      refine H.Ab (.here _ _) ?_
      refine H.Ab (.here _ _) ?_
      refine H.Ac rfl rfl (fun _ h => h) ⟨?_, rfl, rfl⟩
      simp [Bod.eqB, *]
    ·skip
     try simp only [Bool.not_eq_true] at *
     refine Fn.enter Tryz.func106 rfl Tryz.ntmps106 rfl (L := [(0, _), (1, _)]) ⟨rfl, rfl, trivial⟩ fun base => ?_
     repeat (first | ((first | apply H.Aj | apply H.Ar); (iterate 3 exact rfl)) | (apply H.Aq; (iterate 3 exact rfl); exact inferInstance; exact rfl) | (apply H.Ad; (iterate 3 exact rfl); apply Rd1.ofRow; (repeat (first | exact .here _ _ _ | apply At.there)); (iterate 2 exact rfl)) | (first | apply H.seq | apply H.Au | apply H.nil | apply H.Av) | ((apply H.cmp); (iterate 5 exact rfl)) | (apply H.Bm; (iterate 2 exact rfl)) | (apply H.Bi; (iterate 4 exact rfl)) | ((apply H.Bb); (iterate 4 exact rfl)) | (apply H.ret) | (apply H.Bo; (iterate 3 exact rfl); (assumption)) | (apply H.gfalse; (iterate 3 exact rfl); assumption) | (refine H.box (ls := a.vals p c) rfl rfl rfl rfl fun ab => ?_) | (refine H.box (ls := b.vals r d) rfl rfl rfl rfl fun bb => ?_) | (refine H.Ag (ls := a.req.vals) rfl rfl rfl (zaz (by repeat constructor)) rfl rfl ?_) | (refine H.Ag (ls := b.req.vals) rfl rfl rfl (zaz (by repeat constructor)) rfl rfl ?_) | (refine H.aggEq (xs := a.req.vals) (ys := b.req.vals) (D := 4) rfl rfl rfl rfl (by kernel_rfl) (by kernel_rfl) (by kernel_rfl) (by kernel_rfl) (by decide) rfl rfl ?_))
     refine H.Ab (.here _ _) ?_
     refine H.Ab (.here _ _) ?_
     refine H.Ac rfl rfl (fun _ h => h) ⟨?_, rfl, rfl⟩
     simp [Bod.eqB, *]
   ·skip
    try simp only [Bool.not_eq_true] at *
    refine Fn.enter Tryz.func106 rfl Tryz.ntmps106 rfl (L := [(0, _), (1, _)]) ⟨rfl, rfl, trivial⟩ fun base => ?_
    repeat (first | ((first | apply H.Aj | apply H.Ar); (iterate 3 exact rfl)) | (apply H.Aq; (iterate 3 exact rfl); exact inferInstance; exact rfl) | (apply H.Ad; (iterate 3 exact rfl); apply Rd1.ofRow; (repeat (first | exact .here _ _ _ | apply At.there)); (iterate 2 exact rfl)) | (first | apply H.seq | apply H.Au | apply H.nil | apply H.Av) | ((apply H.cmp); (iterate 5 exact rfl)) | (apply H.Bm; (iterate 2 exact rfl)) | (apply H.Bi; (iterate 4 exact rfl)) | ((apply H.Bb); (iterate 4 exact rfl)) | (apply H.ret) | (apply H.Bo; (iterate 3 exact rfl); (assumption)) | (apply H.gno; (iterate 3 exact rfl); (assumption)) | (refine H.box (ls := a.vals p c) rfl rfl rfl rfl fun ab => ?_) | (refine H.box (ls := b.vals r d) rfl rfl rfl rfl fun bb => ?_))
    refine H.Ab (.here _ _) ?_
    refine H.Ab (.here _ _) ?_
    refine H.Ac rfl rfl (fun _ h => h) ⟨?_, rfl, rfl⟩
    simp [Bod.eqB, *]
  ·skip
   try simp only [Bool.not_eq_true] at *
   refine Fn.enter Tryz.func106 rfl Tryz.ntmps106 rfl (L := [(0, _), (1, _)]) ⟨rfl, rfl, trivial⟩ fun base => ?_
   repeat (first | ((first | apply H.Aj | apply H.Ar); (iterate 3 exact rfl)) | (apply H.Aq; (iterate 3 exact rfl); exact inferInstance; exact rfl) | (apply H.Ad; (iterate 3 exact rfl); apply Rd1.ofRow; (repeat (first | exact .here _ _ _ | apply At.there)); (iterate 2 exact rfl)) | (first | apply H.seq | apply H.Au | apply H.nil | apply H.Av) | ((apply H.cmp); (iterate 5 exact rfl)) | (apply H.Bm; (iterate 2 exact rfl)) | (apply H.Bi; (iterate 4 exact rfl)) | ((apply H.Bb); (iterate 4 exact rfl)) | (apply H.ret) | (apply H.Bo; (iterate 3 exact rfl); (assumption)) | (apply H.gno; (iterate 3 exact rfl); (assumption)) | (refine H.box (ls := a.vals p c) rfl rfl rfl rfl fun ab => ?_) | (refine H.box (ls := b.vals r d) rfl rfl rfl rfl fun bb => ?_))
   refine H.Ab (.here _ _) ?_
   refine H.Ab (.here _ _) ?_
   refine H.Ac rfl rfl (fun _ h => h) ⟨?_, rfl, rfl⟩
   simp [Bod.eqB, *]
 ·skip
  try simp only [Bool.not_eq_true] at *
  refine Fn.enter Tryz.func106 rfl Tryz.ntmps106 rfl (L := [(0, _), (1, _)]) ⟨rfl, rfl, trivial⟩ fun base => ?_
  repeat (first | ((first | apply H.Aj | apply H.Ar); (iterate 3 exact rfl)) | (apply H.Aq; (iterate 3 exact rfl); exact inferInstance; exact rfl) | (apply H.Ad; (iterate 3 exact rfl); apply Rd1.ofRow; (repeat (first | exact .here _ _ _ | apply At.there)); (iterate 2 exact rfl)) | (first | apply H.seq | apply H.Au | apply H.nil | apply H.Av) | ((apply H.cmp); (iterate 5 exact rfl)) | (apply H.Bm; (iterate 2 exact rfl)) | ((apply H.Bb); (iterate 4 exact rfl)) | (apply H.ret) | (apply H.gno; (iterate 3 exact rfl); (assumption)) | (refine H.box (ls := a.vals p c) rfl rfl rfl rfl fun ab => ?_) | (refine H.box (ls := b.vals r d) rfl rfl rfl rfl fun bb => ?_))
  refine H.Ab (.here _ _) ?_
  refine H.Ab (.here _ _) ?_
  refine H.Ac rfl rfl (fun _ h => h) ⟨?_, rfl, rfl⟩
  simp [Bod.eqB, *]
theorem splice_dig (x : Bod) : splice (({ Bod.zero x.kind with k := x.k } : Bod).vals none 0) (0 + 44) (b32 x.dig) = (x.ownK 6).vals none 0 := by
 have e : ({ Bod.zero x.kind with k := x.k } : Bod).vals none 0 = ([.int .u8 (x.kind.toNat : Nat), .int .u64 0, .int .u64 x.k] ++ Req.zero.vals ++ [.slice none 0 0]) ++ b32 noTag := rfl
 have e2 : (x.ownK 6).vals none 0 = ([.int .u8 (x.kind.toNat : Nat), .int .u64 0, .int .u64 x.k] ++ Req.zero.vals ++ [.slice none 0 0]) ++ b32 x.dig := rfl
 rw [e, e2]
 generalize hp : ([.int .u8 (x.kind.toNat : Nat), .int .u64 0, .int .u64 x.k] ++ Req.zero.vals ++ [.slice none 0 0] : List Value) = p
 have hl : p.length = 44 := by rw [← hp]; rfl
 unfold splice
 rw [Nat.zero_add, ← hl, List.take_left, List.drop_eq_nil_of_le (by rw [List.length_append]; exact Nat.le_refl _), List.append_nil]
theorem own_fn1 {x : Bod} {q : Option Addr} {qc : Nat} (hk : x.kind.toNat = 1) : Fn Tryz.prog 107 [.agg (x.vals q qc).toArray] f F (Ret (.agg ((x.ownK 1).vals none 0).toArray) f F) := by
 refine Fn.enter Tryz.func107 rfl Tryz.ntmps107 rfl (L := [(0, _)]) ⟨rfl, trivial⟩ fun base => ?_
 repeat (first | ((apply H.Ar); (iterate 3 exact rfl)) | (apply H.Aq; (iterate 3 exact rfl); exact inferInstance; exact rfl) | (apply H.Ad; (iterate 3 exact rfl); apply Rd1.ofRow; (repeat (first | exact .here _ _ _ | apply At.there)); (iterate 2 exact rfl)) | (first | apply H.seq | apply H.Au | apply H.nil | apply H.Av) | ((first | apply H.cmp | apply H.Bc); (iterate 5 exact rfl)) | (apply H.Bj; (iterate 4 exact rfl); (repeat (exact .here _ _ _)); (repeat (first | exact .here _ _ _ | apply SetV.there))) | (first | apply H.Bl | apply H.Bs) | (apply H.Bq; exact rfl; (omega)) | (refine H.box (ls := x.vals q qc) rfl rfl rfl rfl fun xb => ?_) | (refine H.Am (ls := (Bod.zero 0).vals none 0) rfl rfl rfl fun _ => ?_) | (refine H.Ak (ls := (Bod.zero 0).vals none 0) (vs := (Bod.zero x.kind).vals none 0) (ls' := (Bod.zero x.kind).vals none 0) rfl rfl rfl (zae rfl) rfl rfl (Nat.le_refl 76) (by repeat constructor) ?_) | (refine H.Ag (ls := x.req.vals) rfl rfl rfl (zaz (by repeat constructor)) rfl rfl ?_) | (refine H.Ak (ls := ({ Bod.zero x.kind with view := x.view } : Bod).vals none 0) (vs := x.req.vals) (ls' := (x.ownK 1).vals none 0) rfl rfl rfl (zae rfl) rfl rfl (show 3 + 40 ≤ 76 by decide) (by repeat constructor) ?_))
 refine H.Ag (ls := (x.ownK 1).vals none 0) rfl rfl rfl (Rd.ofRow (by repeat constructor)) rfl rfl ?_
 refine H.Ak (ls := (Bod.zero 0).vals none 0) (vs := (x.ownK 1).vals none 0) (ls' := (x.ownK 1).vals none 0) rfl rfl rfl (zae rfl) rfl rfl (Nat.le_refl 76) (by repeat constructor) ?_
 refine gX ?_
 refine H.Ab (.here _ _) ?_
 refine H.Ab (.there _ (.here _ _)) ?_
 exact H.Bd rfl rfl rfl (Rd.ofRow (by repeat constructor)) rfl (fun _ s => s.drop (.here _ _)) ⟨rfl, rfl, rfl⟩
theorem own_fn2 {x : Bod} {q : Option Addr} {qc : Nat} (hk : x.kind.toNat = 2) : Fn Tryz.prog 107 [.agg (x.vals q qc).toArray] f F (Ret (.agg ((x.ownK 2).vals none 0).toArray) f F) := by
 refine Fn.enter Tryz.func107 rfl Tryz.ntmps107 rfl (L := [(0, _)]) ⟨rfl, trivial⟩ fun base => ?_
 repeat (first | ((apply H.Ar); (iterate 3 exact rfl)) | (apply H.Aq; (iterate 3 exact rfl); exact inferInstance; exact rfl) | (apply H.Ad; (iterate 3 exact rfl); apply Rd1.ofRow; (repeat (first | exact .here _ _ _ | apply At.there)); (iterate 2 exact rfl)) | (first | apply H.seq | apply H.Au | apply H.nil | apply H.Av) | ((first | apply H.cmp | apply H.Bc); (iterate 5 exact rfl)) | (apply H.Bj; (iterate 4 exact rfl); (repeat (exact .here _ _ _)); (repeat (first | exact .here _ _ _ | apply SetV.there))) | (first | apply H.Bl | apply H.Bs) | (apply H.Bq; exact rfl; (omega)) | (apply H.Bu; exact rfl; (omega)) | (refine H.box (ls := x.vals q qc) rfl rfl rfl rfl fun xb => ?_) | (refine H.Am (ls := (Bod.zero 0).vals none 0) rfl rfl rfl fun _ => ?_) | (refine H.Ak (ls := (Bod.zero 0).vals none 0) (vs := (Bod.zero x.kind).vals none 0) (ls' := (Bod.zero x.kind).vals none 0) rfl rfl rfl (zae rfl) rfl rfl (Nat.le_refl 76) (by repeat constructor) ?_))
 refine H.Ag (ls := (x.ownK 2).vals none 0) rfl rfl rfl (Rd.ofRow (by repeat constructor)) rfl rfl ?_
 refine H.Ak (ls := (Bod.zero 0).vals none 0) (vs := (x.ownK 2).vals none 0) (ls' := (x.ownK 2).vals none 0) rfl rfl rfl (zae rfl) rfl rfl (Nat.le_refl 76) (by repeat constructor) ?_
 refine gX ?_
 refine H.Ab (.here _ _) ?_
 refine H.Ab (.there _ (.here _ _)) ?_
 exact H.Bd rfl rfl rfl (Rd.ofRow (by repeat constructor)) rfl (fun _ s => s.drop (.here _ _)) ⟨rfl, rfl, rfl⟩
theorem own_fn3 {x : Bod} {q : Option Addr} {qc : Nat} (hk : x.kind.toNat = 3) : Fn Tryz.prog 107 [.agg (x.vals q qc).toArray] f F (Ret (.agg ((x.ownK 3).vals none 0).toArray) f F) := by
 refine Fn.enter Tryz.func107 rfl Tryz.ntmps107 rfl (L := [(0, _)]) ⟨rfl, trivial⟩ fun base => ?_
 repeat (first | ((apply H.Ar); (iterate 3 exact rfl)) | (apply H.Aq; (iterate 3 exact rfl); exact inferInstance; exact rfl) | (apply H.Ad; (iterate 3 exact rfl); apply Rd1.ofRow; (repeat (first | exact .here _ _ _ | apply At.there)); (iterate 2 exact rfl)) | (first | apply H.seq | apply H.Au | apply H.nil | apply H.Av) | ((first | apply H.cmp | apply H.Bc); (iterate 5 exact rfl)) | (apply H.Bj; (iterate 4 exact rfl); (repeat (exact .here _ _ _)); (repeat (first | exact .here _ _ _ | apply SetV.there))) | (first | apply H.Bk | apply H.Bl | apply H.Bs) | (apply H.Bq; exact rfl; (omega)) | (apply H.Bu; exact rfl; (omega)) | (refine H.box (ls := x.vals q qc) rfl rfl rfl rfl fun xb => ?_) | (refine H.Am (ls := (Bod.zero 0).vals none 0) rfl rfl rfl fun _ => ?_) | (refine H.Ak (ls := (Bod.zero 0).vals none 0) (vs := (Bod.zero x.kind).vals none 0) (ls' := (Bod.zero x.kind).vals none 0) rfl rfl rfl (zae rfl) rfl rfl (Nat.le_refl 76) (by repeat constructor) ?_))
 refine H.Ag (ls := (x.ownK 3).vals none 0) rfl rfl rfl (Rd.ofRow (by repeat constructor)) rfl rfl ?_
 refine H.Ak (ls := (Bod.zero 0).vals none 0) (vs := (x.ownK 3).vals none 0) (ls' := (x.ownK 3).vals none 0) rfl rfl rfl (zae rfl) rfl rfl (Nat.le_refl 76) (by repeat constructor) ?_
 refine gX ?_
 refine H.Ab (.here _ _) ?_
 refine H.Ab (.there _ (.here _ _)) ?_
 exact H.Bd rfl rfl rfl (Rd.ofRow (by repeat constructor)) rfl (fun _ s => s.drop (.here _ _)) ⟨rfl, rfl, rfl⟩
theorem own_fn4 {x : Bod} {q : Option Addr} {qc : Nat} (hk : x.kind.toNat = 4) : Fn Tryz.prog 107 [.agg (x.vals q qc).toArray] f F (Ret (.agg ((x.ownK 4).vals q qc).toArray) f F) := by
 refine Fn.enter Tryz.func107 rfl Tryz.ntmps107 rfl (L := [(0, _)]) ⟨rfl, trivial⟩ fun base => ?_
 repeat (first | ((apply H.Ar); (iterate 3 exact rfl)) | (apply H.Aq; (iterate 3 exact rfl); exact inferInstance; exact rfl) | (apply H.Ad; (iterate 3 exact rfl); apply Rd1.ofRow; (repeat (first | exact .here _ _ _ | apply At.there)); (iterate 2 exact rfl)) | (first | apply H.seq | apply H.Au | apply H.nil | apply H.Av) | ((first | apply H.cmp | apply H.Bc); (iterate 5 exact rfl)) | (apply H.Bj; (iterate 4 exact rfl); (repeat (exact .here _ _ _)); (repeat (first | exact .here _ _ _ | apply SetV.there))) | (first | apply H.Bl | apply H.Bs) | (apply H.Bq; exact rfl; (omega)) | (apply H.Bu; exact rfl; (omega)) | (refine H.box (ls := x.vals q qc) rfl rfl rfl rfl fun xb => ?_) | (refine H.Am (ls := (Bod.zero 0).vals none 0) rfl rfl rfl fun _ => ?_) | (refine H.Ak (ls := (Bod.zero 0).vals none 0) (vs := (Bod.zero x.kind).vals none 0) (ls' := (Bod.zero x.kind).vals none 0) rfl rfl rfl (zae rfl) rfl rfl (Nat.le_refl 76) (by repeat constructor) ?_))
 refine H.Ag (ls := (x.ownK 4).vals q qc) rfl rfl rfl (Rd.ofRow (by repeat constructor)) rfl rfl ?_
 refine H.Ak (ls := (Bod.zero 0).vals none 0) (vs := (x.ownK 4).vals q qc) (ls' := (x.ownK 4).vals q qc) rfl rfl rfl (zae rfl) rfl rfl (Nat.le_refl 76) (by repeat constructor) ?_
 refine gX ?_
 refine H.Ab (.here _ _) ?_
 refine H.Ab (.there _ (.here _ _)) ?_
 exact H.Bd rfl rfl rfl (Rd.ofRow (by repeat constructor)) rfl (fun _ s => s.drop (.here _ _)) ⟨rfl, rfl, rfl⟩
theorem own_fn5 {x : Bod} {q : Option Addr} {qc : Nat} (hk : x.kind.toNat = 5) : Fn Tryz.prog 107 [.agg (x.vals q qc).toArray] f F (Ret (.agg ((x.ownK 5).vals none 0).toArray) f F) := by
 refine Fn.enter Tryz.func107 rfl Tryz.ntmps107 rfl (L := [(0, _)]) ⟨rfl, trivial⟩ fun base => ?_
 repeat (first | ((apply H.Ar); (iterate 3 exact rfl)) | (apply H.Aq; (iterate 3 exact rfl); exact inferInstance; exact rfl) | (apply H.Ad; (iterate 3 exact rfl); apply Rd1.ofRow; (repeat (first | exact .here _ _ _ | apply At.there)); (iterate 2 exact rfl)) | (first | apply H.seq | apply H.Au | apply H.nil | apply H.Av) | ((first | apply H.cmp | apply H.Bc); (iterate 5 exact rfl)) | (apply H.Bj; (iterate 4 exact rfl); (repeat (exact .here _ _ _)); (repeat (first | exact .here _ _ _ | apply SetV.there))) | (first | apply H.Bl | apply H.Bs) | (apply H.Bq; exact rfl; (omega)) | (apply H.Bu; exact rfl; (omega)) | (refine H.box (ls := x.vals q qc) rfl rfl rfl rfl fun xb => ?_) | (refine H.Am (ls := (Bod.zero 0).vals none 0) rfl rfl rfl fun _ => ?_) | (refine H.Ak (ls := (Bod.zero 0).vals none 0) (vs := (Bod.zero x.kind).vals none 0) (ls' := (Bod.zero x.kind).vals none 0) rfl rfl rfl (zae rfl) rfl rfl (Nat.le_refl 76) (by repeat constructor) ?_))
 refine H.Ag (ls := (x.ownK 5).vals none 0) rfl rfl rfl (Rd.ofRow (by repeat constructor)) rfl rfl ?_
 refine H.Ak (ls := (Bod.zero 0).vals none 0) (vs := (x.ownK 5).vals none 0) (ls' := (x.ownK 5).vals none 0) rfl rfl rfl (zae rfl) rfl rfl (Nat.le_refl 76) (by repeat constructor) ?_
 refine gX ?_
 refine H.Ab (.here _ _) ?_
 refine H.Ab (.there _ (.here _ _)) ?_
 exact H.Bd rfl rfl rfl (Rd.ofRow (by repeat constructor)) rfl (fun _ s => s.drop (.here _ _)) ⟨rfl, rfl, rfl⟩
theorem own_fn6 {x : Bod} {q : Option Addr} {qc : Nat} (hk : x.kind.toNat = 6) : Fn Tryz.prog 107 [.agg (x.vals q qc).toArray] f F (Ret (.agg ((x.ownK 6).vals none 0).toArray) f F) := by
 refine Fn.enter Tryz.func107 rfl Tryz.ntmps107 rfl (L := [(0, _)]) ⟨rfl, trivial⟩ fun base => ?_
 repeat (first | ((apply H.Ar); (iterate 3 exact rfl)) | (apply H.Aq; (iterate 3 exact rfl); exact inferInstance; exact rfl) | (apply H.Ad; (iterate 3 exact rfl); apply Rd1.ofRow; (repeat (first | exact .here _ _ _ | apply At.there)); (iterate 2 exact rfl)) | (first | apply H.seq | apply H.Au | apply H.nil | apply H.Av) | ((first | apply H.cmp | apply H.Bc); (iterate 5 exact rfl)) | (apply H.Bj; (iterate 4 exact rfl); (repeat (exact .here _ _ _)); (repeat (first | exact .here _ _ _ | apply SetV.there))) | (first | apply H.Bl | apply H.Bs) | (apply H.Bq; exact rfl; (omega)) | (apply H.Bu; exact rfl; (omega)) | (refine H.box (ls := x.vals q qc) rfl rfl rfl rfl fun xb => ?_) | (refine H.Am (ls := (Bod.zero 0).vals none 0) rfl rfl rfl fun _ => ?_) | (refine H.Ak (ls := (Bod.zero 0).vals none 0) (vs := (Bod.zero x.kind).vals none 0) (ls' := (Bod.zero x.kind).vals none 0) rfl rfl rfl (zae rfl) rfl rfl (Nat.le_refl 76) (by repeat constructor) ?_) | (refine H.Ag (ls := b32 x.dig) rfl rfl rfl (row_dig (by repeat constructor)) rfl rfl ?_) | (refine H.Ak (ls := ({ Bod.zero x.kind with k := x.k } : Bod).vals none 0) (vs := b32 x.dig) (ls' := (x.ownK 6).vals none 0) rfl rfl rfl (zai (b32L x.dig)) rfl (splice_dig x) (show 44 + 32 ≤ 76 by decide) (by repeat constructor) ?_))
 refine H.Ag (ls := (x.ownK 6).vals none 0) rfl rfl rfl (Rd.ofRow (by repeat constructor)) rfl rfl ?_
 refine H.Ak (ls := (Bod.zero 0).vals none 0) (vs := (x.ownK 6).vals none 0) (ls' := (x.ownK 6).vals none 0) rfl rfl rfl (zae rfl) rfl rfl (Nat.le_refl 76) (by repeat constructor) ?_
 refine gX ?_
 refine H.Ab (.here _ _) ?_
 refine H.Ab (.there _ (.here _ _)) ?_
 exact H.Bd rfl rfl rfl (Rd.ofRow (by repeat constructor)) rfl (fun _ s => s.drop (.here _ _)) ⟨rfl, rfl, rfl⟩
theorem own_fn0 {x : Bod} {q : Option Addr} {qc : Nat} (hk : x.kind.toNat = 0 ∨ 7 ≤ x.kind.toNat) : Fn Tryz.prog 107 [.agg (x.vals q qc).toArray] f F (Ret (.agg ((x.ownK 7).vals none 0).toArray) f F) := by
 refine Fn.enter Tryz.func107 rfl Tryz.ntmps107 rfl (L := [(0, _)]) ⟨rfl, trivial⟩ fun base => ?_
 repeat (first | ((apply H.Ar); (iterate 3 exact rfl)) | (apply H.Aq; (iterate 3 exact rfl); exact inferInstance; exact rfl) | (apply H.Ad; (iterate 3 exact rfl); apply Rd1.ofRow; (repeat (first | exact .here _ _ _ | apply At.there)); (iterate 2 exact rfl)) | (first | apply H.seq | apply H.Au | apply H.nil | apply H.Av) | ((first | apply H.cmp | apply H.Bc); (iterate 5 exact rfl)) | (first | apply H.Bk | apply H.Bl | apply H.Bs) | (apply H.Bu; exact rfl; (omega)) | (refine H.box (ls := x.vals q qc) rfl rfl rfl rfl fun xb => ?_) | (refine H.Am (ls := (Bod.zero 0).vals none 0) rfl rfl rfl fun _ => ?_) | (refine H.Ak (ls := (Bod.zero 0).vals none 0) (vs := (Bod.zero x.kind).vals none 0) (ls' := (Bod.zero x.kind).vals none 0) rfl rfl rfl (zae rfl) rfl rfl (Nat.le_refl 76) (by repeat constructor) ?_))
 refine H.Ag (ls := (x.ownK 7).vals none 0) rfl rfl rfl (Rd.ofRow (by repeat constructor)) rfl rfl ?_
 refine H.Ak (ls := (Bod.zero 0).vals none 0) (vs := (x.ownK 7).vals none 0) (ls' := (x.ownK 7).vals none 0) rfl rfl rfl (zae rfl) rfl rfl (Nat.le_refl 76) (by repeat constructor) ?_
 refine gX ?_
 refine H.Ab (.here _ _) ?_
 refine H.Ab (.there _ (.here _ _)) ?_
 exact H.Bd rfl rfl rfl (Rd.ofRow (by repeat constructor)) rfl (fun _ s => s.drop (.here _ _)) ⟨rfl, rfl, rfl⟩
theorem own_fn {x : Bod} {q : Option Addr} {qc : Nat} (hq : QAt f q x.q) : Fn Tryz.prog 107 [.agg (x.vals q qc).toArray] f F
  (RetP (fun i : Option Addr × Nat => QAt f i.1 x.own.q) (fun i => .agg (x.own.vals i.1 i.2).toArray) f (fun _ => F)) := by
 have fin : ∀ (k : Nat) (q' : Option Addr) (qc' : Nat), x.own = x.ownK k → QAt f q' (x.ownK k).q → Fn Tryz.prog 107 [.agg (x.vals q qc).toArray] f F (Ret (.agg ((x.ownK k).vals q' qc').toArray) f F) →
   Fn Tryz.prog 107 [.agg (x.vals q qc).toArray] f F (RetP (fun i : Option Addr × Nat => QAt f i.1 x.own.q) (fun i => .agg (x.own.vals i.1 i.2).toArray) f (fun _ => F)) := fun k q' qc' e hq' h =>
  h.mono fun v f' A' hr => by
   obtain ⟨rfl, rfl, rfl⟩ := hr
   exact ⟨(q', qc'), by rw [e]; exact hq', by rw [e], rfl, rfl⟩
 generalize hk : x.kind.toNat = kind
 match kind, hk with
 | 1, hk => exact fin 1 none 0 (by unfold Bod.own; rw [hk]) (QAt.nil _ _) (own_fn1 f F hk)
 | 2, hk => exact fin 2 none 0 (by unfold Bod.own; rw [hk]) (QAt.nil _ _) (own_fn2 f F hk)
 | 3, hk => exact fin 3 none 0 (by unfold Bod.own; rw [hk]) (QAt.nil _ _) (own_fn3 f F hk)
 | 4, hk => exact fin 4 q qc (by unfold Bod.own; rw [hk]) hq (own_fn4 f F hk)
 | 5, hk => exact fin 5 none 0 (by unfold Bod.own; rw [hk]) (QAt.nil _ _) (own_fn5 f F hk)
 | 6, hk => exact fin 6 none 0 (by unfold Bod.own; rw [hk]) (QAt.nil _ _) (own_fn6 f F hk)
 | 0, hk => exact fin 7 none 0 (by unfold Bod.own; rw [hk]; rfl) (QAt.nil _ _) (own_fn0 f F (.inl hk))
 | k + 7, hk => exact fin 7 none 0 (by unfold Bod.own; rw [hk]; rfl) (QAt.nil _ _) (own_fn0 f F (.inr (by omega)))
end
section
variable (f : Frag) (F : List HP)
theorem rasked_fn (r : Req) : Fn Tryz.prog 108 [.agg r.vals.toArray] f F (Ret (.bool (decide r.asked)) f F) := by
 by_cases h1 : 1 ≤ r.client
 ·by_cases h2 : r.client ≤ 8
  ·by_cases h3 : 1 ≤ r.time
   ·by_cases h4 : r.time ≤ 4611686018427387904
    ·by_cases h5 : r.key.size ≤ 32
     ·by_cases h6 : r.to.size ≤ 32
      ·by_cases h7 : r.val.size ≤ 128
       ·skip
        refine Fn.enter Tryz.func108 rfl Tryz.ntmps108 rfl (L := [(0, _)]) ⟨rfl, trivial⟩ fun base => ?_
        repeat (first | ((first | apply H.Aj | apply H.Ar | apply H.Br); (iterate 3 exact rfl)) | (apply H.Aq; (iterate 3 exact rfl); exact inferInstance; exact rfl) | (apply H.Ad; (iterate 3 exact rfl); apply Rd1.ofRow; (repeat (exact .here _ _ _)); (iterate 2 exact rfl)) | (first | apply H.seq | apply H.Au | apply H.nil | apply H.Av) | ((apply H.cmp); (iterate 5 exact rfl)) | (apply H.Bi; (iterate 4 exact rfl)) | (apply H.ret) | (apply H.Bo; (iterate 3 exact rfl); (first | assumption | omega)) | (refine H.box (ls := r.vals) rfl rfl rfl rfl fun xb => ?_))
        refine H.Ab (.here _ _) ?_
        refine H.Ac rfl rfl (fun _ h => h) ⟨?_, rfl, rfl⟩
        congr 1
        apply decide_eq_decide.2
        unfold Req.asked
        omega
       ·skip
        refine Fn.enter Tryz.func108 rfl Tryz.ntmps108 rfl (L := [(0, _)]) ⟨rfl, trivial⟩ fun base => ?_
        repeat (first | ((first | apply H.Aj | apply H.Ar | apply H.Br); (iterate 3 exact rfl)) | (apply H.Aq; (iterate 3 exact rfl); exact inferInstance; exact rfl) | (apply H.Ad; (iterate 3 exact rfl); apply Rd1.ofRow; (repeat (exact .here _ _ _)); (iterate 2 exact rfl)) | (first | apply H.seq | apply H.Au | apply H.nil | apply H.Av) | ((apply H.cmp); (iterate 5 exact rfl)) | (apply H.Bm; (iterate 2 exact rfl)) | (apply H.Bi; (iterate 4 exact rfl)) | ((apply H.Bb); (iterate 4 exact rfl)) | (apply H.ret) | (apply H.Bo; (iterate 3 exact rfl); (first | assumption | omega)) | (apply H.gno; (iterate 3 exact rfl); (omega)) | (refine H.box (ls := r.vals) rfl rfl rfl rfl fun xb => ?_))
        refine H.Ab (.here _ _) ?_
        refine H.Ac rfl rfl (fun _ h => h) ⟨?_, rfl, rfl⟩
        rw [decide_eq_false]
        unfold Req.asked
        omega
      ·skip
       refine Fn.enter Tryz.func108 rfl Tryz.ntmps108 rfl (L := [(0, _)]) ⟨rfl, trivial⟩ fun base => ?_
       repeat (first | ((first | apply H.Aj | apply H.Ar | apply H.Br); (iterate 3 exact rfl)) | (apply H.Aq; (iterate 3 exact rfl); exact inferInstance; exact rfl) | (apply H.Ad; (iterate 3 exact rfl); apply Rd1.ofRow; (repeat (exact .here _ _ _)); (iterate 2 exact rfl)) | (first | apply H.seq | apply H.Au | apply H.nil | apply H.Av) | ((apply H.cmp); (iterate 5 exact rfl)) | (apply H.Bm; (iterate 2 exact rfl)) | (apply H.Bi; (iterate 4 exact rfl)) | ((apply H.Bb); (iterate 4 exact rfl)) | (apply H.ret) | (apply H.Bo; (iterate 3 exact rfl); (first | assumption | omega)) | (apply H.gno; (iterate 3 exact rfl); (omega)) | (refine H.box (ls := r.vals) rfl rfl rfl rfl fun xb => ?_))
       refine H.Ab (.here _ _) ?_
       refine H.Ac rfl rfl (fun _ h => h) ⟨?_, rfl, rfl⟩
       rw [decide_eq_false]
       unfold Req.asked
       omega
     ·skip
      refine Fn.enter Tryz.func108 rfl Tryz.ntmps108 rfl (L := [(0, _)]) ⟨rfl, trivial⟩ fun base => ?_
      repeat (first | ((first | apply H.Aj | apply H.Ar | apply H.Br); (iterate 3 exact rfl)) | (apply H.Aq; (iterate 3 exact rfl); exact inferInstance; exact rfl) | (apply H.Ad; (iterate 3 exact rfl); apply Rd1.ofRow; (repeat (exact .here _ _ _)); (iterate 2 exact rfl)) | (first | apply H.seq | apply H.Au | apply H.nil | apply H.Av) | ((apply H.cmp); (iterate 5 exact rfl)) | (apply H.Bm; (iterate 2 exact rfl)) | (apply H.Bi; (iterate 4 exact rfl)) | ((apply H.Bb); (iterate 4 exact rfl)) | (apply H.ret) | (apply H.Bo; (iterate 3 exact rfl); (assumption)) | (apply H.gno; (iterate 3 exact rfl); (omega)) | (refine H.box (ls := r.vals) rfl rfl rfl rfl fun xb => ?_))
      refine H.Ab (.here _ _) ?_
      refine H.Ac rfl rfl (fun _ h => h) ⟨?_, rfl, rfl⟩
      rw [decide_eq_false]
      unfold Req.asked
      omega
    ·skip
     refine Fn.enter Tryz.func108 rfl Tryz.ntmps108 rfl (L := [(0, _)]) ⟨rfl, trivial⟩ fun base => ?_
     repeat (first | ((first | apply H.Aj | apply H.Ar | apply H.Br); (iterate 3 exact rfl)) | (apply H.Aq; (iterate 3 exact rfl); exact inferInstance; exact rfl) | (apply H.Ad; (iterate 3 exact rfl); apply Rd1.ofRow; (repeat (exact .here _ _ _)); (iterate 2 exact rfl)) | (first | apply H.seq | apply H.Au | apply H.nil | apply H.Av) | ((apply H.cmp); (iterate 5 exact rfl)) | (apply H.Bm; (iterate 2 exact rfl)) | (apply H.Bi; (iterate 4 exact rfl)) | ((apply H.Bb); (iterate 4 exact rfl)) | (apply H.ret) | (apply H.Bo; (iterate 3 exact rfl); (assumption)) | (apply H.gno; (iterate 3 exact rfl); (assumption)) | (refine H.box (ls := r.vals) rfl rfl rfl rfl fun xb => ?_))
     refine H.Ab (.here _ _) ?_
     refine H.Ac rfl rfl (fun _ h => h) ⟨?_, rfl, rfl⟩
     rw [decide_eq_false]
     unfold Req.asked
     omega
   ·skip
    refine Fn.enter Tryz.func108 rfl Tryz.ntmps108 rfl (L := [(0, _)]) ⟨rfl, trivial⟩ fun base => ?_
    repeat (first | ((first | apply H.Aj | apply H.Ar | apply H.Br); (iterate 3 exact rfl)) | (apply H.Aq; (iterate 3 exact rfl); exact inferInstance; exact rfl) | (apply H.Ad; (iterate 3 exact rfl); apply Rd1.ofRow; (repeat (exact .here _ _ _)); (iterate 2 exact rfl)) | (first | apply H.seq | apply H.Au | apply H.nil | apply H.Av) | ((apply H.cmp); (iterate 5 exact rfl)) | (apply H.Bm; (iterate 2 exact rfl)) | (apply H.Bi; (iterate 4 exact rfl)) | ((apply H.Bb); (iterate 4 exact rfl)) | (apply H.ret) | (apply H.Bo; (iterate 3 exact rfl); (assumption)) | (apply H.gno; (iterate 3 exact rfl); (assumption)) | (refine H.box (ls := r.vals) rfl rfl rfl rfl fun xb => ?_))
    refine H.Ab (.here _ _) ?_
    refine H.Ac rfl rfl (fun _ h => h) ⟨?_, rfl, rfl⟩
    rw [decide_eq_false]
    unfold Req.asked
    omega
  ·skip
   refine Fn.enter Tryz.func108 rfl Tryz.ntmps108 rfl (L := [(0, _)]) ⟨rfl, trivial⟩ fun base => ?_
   repeat (first | ((first | apply H.Aj | apply H.Ar | apply H.Br); (iterate 3 exact rfl)) | (apply H.Aq; (iterate 3 exact rfl); exact inferInstance; exact rfl) | (apply H.Ad; (iterate 3 exact rfl); apply Rd1.ofRow; (repeat (exact .here _ _ _)); (iterate 2 exact rfl)) | (first | apply H.seq | apply H.Au | apply H.nil | apply H.Av) | ((apply H.cmp); (iterate 5 exact rfl)) | (apply H.Bm; (iterate 2 exact rfl)) | (apply H.Bi; (iterate 4 exact rfl)) | ((apply H.Bb); (iterate 4 exact rfl)) | (apply H.ret) | (apply H.Bo; (iterate 3 exact rfl); (assumption)) | (apply H.gno; (iterate 3 exact rfl); (assumption)) | (refine H.box (ls := r.vals) rfl rfl rfl rfl fun xb => ?_))
   refine H.Ab (.here _ _) ?_
   refine H.Ac rfl rfl (fun _ h => h) ⟨?_, rfl, rfl⟩
   rw [decide_eq_false]
   unfold Req.asked
   omega
 ·skip
  refine Fn.enter Tryz.func108 rfl Tryz.ntmps108 rfl (L := [(0, _)]) ⟨rfl, trivial⟩ fun base => ?_
  repeat (first | ((first | apply H.Aj | apply H.Ar | apply H.Br); (iterate 3 exact rfl)) | (apply H.Aq; (iterate 3 exact rfl); exact inferInstance; exact rfl) | (apply H.Ad; (iterate 3 exact rfl); apply Rd1.ofRow; (repeat (exact .here _ _ _)); (iterate 2 exact rfl)) | (first | apply H.seq | apply H.Au | apply H.nil | apply H.Av) | ((apply H.cmp); (iterate 5 exact rfl)) | (apply H.Bm; (iterate 2 exact rfl)) | ((apply H.Bb); (iterate 4 exact rfl)) | (apply H.ret) | (apply H.gno; (iterate 3 exact rfl); (assumption)) | (refine H.box (ls := r.vals) rfl rfl rfl rfl fun xb => ?_))
  refine H.Ab (.here _ _) ?_
  refine H.Ac rfl rfl (fun _ h => h) ⟨?_, rfl, rfl⟩
  rw [decide_eq_false]
  unfold Req.asked
  omega
def wq (q : List (Int × Int)) : Nat → Int
 | 0 => 0
 | j + 1 => (q.getD j (0, 0)).1
theorem quo_loop {x : Bod} (i : Nat) (hi : i < x.q.length) (w : Int) : quo w (x.q.drop i) = if x.q[i].1 ≤ w ∨ 11 < x.q[i].1 ∨ x.q[i].2 < 1 ∨ 65536 < x.q[i].2 then false else quo x.q[i].1 (x.q.drop (i + 1)) := by
 rw [List.drop_eq_getElem_cons hi]; rfl
theorem rbody4_fn {x : Bod} {q : Option Addr} {qc : Nat} (hq : QAt f q x.q) (hl : x.q.length ≤ 1000000000) (hk : x.kind.toNat = 4) (hs : Bod.eqB x.own x = true) (hv : x.view < 1073741824) :
    Fn Tryz.prog 74 [.agg (x.vals q qc).toArray] f F (Ret (.bool x.may) f F) := by
  unfold Bod.may
  rw [hk]
  refine Fn.enter Tryz.func74 rfl Tryz.ntmps74 rfl (L := [(0, _)]) ⟨rfl, trivial⟩ fun base => ?_
  refine gA ?_
  refine H.box (ls := x.vals q qc) rfl rfl rfl rfl fun xb => ?_
  refine gO ?_
  refine H.Ay (by kernel_rfl) (by decide +kernel) (by repeat (first | exact zab | refine zaa ?_ | refine zac ?_ | refine zad ?_)) (S := [_]) rfl ?_
  refine HB.Af [(0, false), (2, false)] 8 (by kernel_rfl) ?_
  refine HQ.Ag (ls := x.vals q qc) rfl rfl rfl (Rd.ofRow (by repeat constructor)) rfl rfl ?_
  refine HQ.Ag (ls := x.vals q qc) rfl rfl rfl (Rd.ofRow (by repeat constructor)) rfl rfl ?_
  refine HQ.Ae rfl ?_
  refine HB.ev1 (i := 1) (by kernel_rfl) rfl ?_
  refine H.callP rfl rfl rfl (own_fn f _ hq) fun i hqo => ?_
  refine gA ?_
  refine H.on0 rfl ?_
  refine HB.ev1 (i := 3) (by kernel_rfl) rfl ?_
  have hlo : x.own.q.length ≤ 1000000000 := by
    have : x.own.q = x.q ∨ x.own.q = [] := by
      unfold Bod.own
      match x.kind.toNat with
      | 0 => exact .inr rfl
      | 1 => exact .inr rfl
      | 2 => exact .inr rfl
      | 3 => exact .inr rfl
      | 4 => exact .inl rfl
      | 5 => exact .inr rfl
      | 6 => exact .inr rfl
      | k + 7 => exact .inr rfl
    rcases this with h | h <;> rw [h]
    · exact hl
    · exact Nat.zero_le _
  refine H.Ah rfl rfl rfl (rsame_fn f _ hqo hq hlo) ?_
  refine gA ?_
  refine H.on0 rfl ?_
  refine HB.Af [(4, false), (5, false), (6, false), (7, false), (8, false), (9, false)] 0 (by kernel_rfl) ?_
  have hn : (!true) = false := rfl
  rw [hs, decide_eq_true hv, Bool.true_and, Bool.true_and]
  refine gW ?_
  refine HQ.Ae rfl ?_
  refine HB.Al (by kernel_rfl) ?_
  refine gc ?_
  refine H.Aw (ι := Nat) (fun i => [(3, .int .i64 (i : Int)), (1, .pointer (some ⟨xb, 0, none⟩))]) (fun _ => f) (fun _ => row xb 52 (x.vals q qc) :: F) (fun i => i ≤ x.q.length ∧ quo 0 x.q = quo (wq x.q i) (x.q.drop i) ∧ (0 < i → 1 ≤ wq x.q i)) (fun i => x.q.length - i) 0 ⟨Nat.zero_le _, rfl, fun h => absurd h (Nat.lt_irrefl _)⟩ ⟨rfl, rfl, trivial⟩ rfl rfl fun i hi => ?_
  obtain ⟨hi, hw, hwp⟩ : i ≤ x.q.length ∧ quo 0 x.q = quo (wq x.q i) (x.q.drop i) ∧ (0 < i → 1 ≤ wq x.q i) := hi
  by_cases hlt : i < x.q.length
  · have hx : x.q[i]? = some x.q[i] := List.getElem?_eq_getElem hlt
    have hquo := quo_loop i hlt (wq x.q i)
    have hwz : wq x.q (i + 1) = x.q[i].1 := by show (x.q.getD i (0, 0)).1 = _; rw [List.getD_eq_getElem?_getD, hx]; rfl
    generalize x.q[i] = z at hx hquo hwz
    obtain ⟨b, off, cs, T, fr, hqb, hfb, hcs⟩ := hq i z hx
    have hq' := hq
    subst hqb
    have rd : ∀ A, Rd f A b (off + i * 2) (pairV z) := fun A => Rd.imm hfb hcs
    refine gQ ?_
    refine H.Ap rfl rfl rfl rfl hlt rfl ?_
    refine H.Ag (ls := pairV z) rfl rfl rfl (rd _) rfl rfl ?_
    refine H.Am rfl rfl rfl fun pb => ?_
    refine H.Ak (ls := [.int .i64 0, .int .u64 0]) (vs := pairV z) (ls' := pairV z) rfl rfl rfl (zae rfl) rfl rfl (Nat.le_refl 2) (by repeat constructor) ?_
    refine gA ?_
    refine H.Bg (by kernel_rfl) (by decide +kernel) (by repeat (first | exact zab | refine zaa ?_ | refine zac ?_ | refine zad ?_)) ?_
    by_cases hi0 : i = 0
    · have hw0 : wq x.q i = 0 := by rw [hi0]; rfl
      rw [hw0] at hquo hw
      have j : Nat := 0
      have rd2 := rd
      by_cases h1 : 1 ≤ z.1
      · skip
        by_cases h2 : z.1 ≤ 11
        · skip
          by_cases h4 : 1 ≤ z.2
          · skip
            by_cases h5 : z.2 ≤ 65536
            · skip
              refine gW ?_
              refine gN ?_
              refine H.Ab (.here _ _) ?_
              first
                | exact H.Ao (i + 1) ⟨by show i + 1 ≤ x.q.length; omega, by show quo 0 x.q = _; rw [hw, hquo, if_neg (by omega), ← hwz], by show 0 < i + 1 → 1 ≤ wq x.q (i + 1); rw [hwz]; omega⟩ (by show x.q.length - (i + 1) < x.q.length - i; omega) ⟨rfl, rfl, trivial⟩ rfl rfl
                | (refine H.Ab (.here _ _) ?_
                   refine H.Ac rfl rfl (fun _ h => h) ⟨?_, rfl, rfl⟩
                   rw [show x.mayK 4 = (decide (1 ≤ x.view) && (quo 0 x.q && decide (0 < x.q.length))) from rfl, hw, hquo, if_pos (by omega)]
                   simp)
            · skip
              refine gW ?_
              refine gI ?_
              refine H.Ab (.here _ _) ?_
              first
                | exact H.Ao (i + 1) ⟨by show i + 1 ≤ x.q.length; omega, by show quo 0 x.q = _; rw [hw, hquo, if_neg (by omega), ← hwz], by show 0 < i + 1 → 1 ≤ wq x.q (i + 1); rw [hwz]; omega⟩ (by show x.q.length - (i + 1) < x.q.length - i; omega) ⟨rfl, rfl, trivial⟩ rfl rfl
                | (refine H.Ab (.here _ _) ?_
                   refine H.Ac rfl rfl (fun _ h => h) ⟨?_, rfl, rfl⟩
                   rw [show x.mayK 4 = (decide (1 ≤ x.view) && (quo 0 x.q && decide (0 < x.q.length))) from rfl, hw, hquo, if_pos (by omega)]
                   simp)
          · skip
            refine gW ?_
            refine ge ?_
            refine H.Ab (.here _ _) ?_
            first
              | exact H.Ao (i + 1) ⟨by show i + 1 ≤ x.q.length; omega, by show quo 0 x.q = _; rw [hw, hquo, if_neg (by omega), ← hwz], by show 0 < i + 1 → 1 ≤ wq x.q (i + 1); rw [hwz]; omega⟩ (by show x.q.length - (i + 1) < x.q.length - i; omega) ⟨rfl, rfl, trivial⟩ rfl rfl
              | (refine H.Ab (.here _ _) ?_
                 refine H.Ac rfl rfl (fun _ h => h) ⟨?_, rfl, rfl⟩
                 rw [show x.mayK 4 = (decide (1 ≤ x.view) && (quo 0 x.q && decide (0 < x.q.length))) from rfl, hw, hquo, if_pos (by omega)]
                 simp)
        · skip
          refine gW ?_
          refine ge ?_
          refine H.Ab (.here _ _) ?_
          first
            | exact H.Ao (i + 1) ⟨by show i + 1 ≤ x.q.length; omega, by show quo 0 x.q = _; rw [hw, hquo, if_neg (by omega), ← hwz], by show 0 < i + 1 → 1 ≤ wq x.q (i + 1); rw [hwz]; omega⟩ (by show x.q.length - (i + 1) < x.q.length - i; omega) ⟨rfl, rfl, trivial⟩ rfl rfl
            | (refine H.Ab (.here _ _) ?_
               refine H.Ac rfl rfl (fun _ h => h) ⟨?_, rfl, rfl⟩
               rw [show x.mayK 4 = (decide (1 ≤ x.view) && (quo 0 x.q && decide (0 < x.q.length))) from rfl, hw, hquo, if_pos (by omega)]
               simp)
      · skip
        refine gW ?_
        refine ge ?_
        refine H.Ab (.here _ _) ?_
        first
          | exact H.Ao (i + 1) ⟨by show i + 1 ≤ x.q.length; omega, by show quo 0 x.q = _; rw [hw, hquo, if_neg (by omega), ← hwz], by show 0 < i + 1 → 1 ≤ wq x.q (i + 1); rw [hwz]; omega⟩ (by show x.q.length - (i + 1) < x.q.length - i; omega) ⟨rfl, rfl, trivial⟩ rfl rfl
          | (refine H.Ab (.here _ _) ?_
             refine H.Ac rfl rfl (fun _ h => h) ⟨?_, rfl, rfl⟩
             rw [show x.mayK 4 = (decide (1 ≤ x.view) && (quo 0 x.q && decide (0 < x.q.length))) from rfl, hw, hquo, if_pos (by omega)]
             simp)
    · obtain ⟨j, hj⟩ : ∃ j, i = j + 1 := ⟨i - 1, by omega⟩
      obtain ⟨y, hy⟩ : ∃ y, x.q[j]? = some y := ⟨x.q[j]'(by omega), List.getElem?_eq_getElem (by omega)⟩
      have hwj0 : wq x.q (j + 1) = y.1 := by show (x.q.getD j (0, 0)).1 = _; rw [List.getD_eq_getElem?_getD, hy]; rfl
      have hwj : wq x.q i = y.1 := by rw [← hwj0, hj]
      have hwp := hwp (by omega)
      rw [hwj] at hquo hwp hw
      obtain ⟨b2, off2, cs2, T2, fr2, hqb2, hfb2, hcs2⟩ := hq j y hy
      have rd2 : ∀ A, Rd f A b2 (off2 + j * 2) (pairV y) := fun A => Rd.imm hfb2 hcs2
      cases hqb2
      by_cases h1 : 1 ≤ z.1
      · skip
        by_cases h2 : z.1 ≤ 11
        · skip
          by_cases h3 : y.1 < z.1
          · skip
            by_cases h4 : 1 ≤ z.2
            · skip
              by_cases h5 : z.2 ≤ 65536
              · skip
                repeat (first | ((apply HQ.Aj); (iterate 3 exact rfl)) | (apply HQ.Aq; (iterate 3 exact rfl); exact inferInstance; exact rfl) | (apply HQ.Ad; (iterate 3 exact rfl); apply Rd1.ofRow; (repeat (first | exact .here _ _ _ | apply At.there)); (iterate 2 exact rfl)) | ((apply HQ.done0); exact rfl) | ((apply HQ.cmp); (iterate 5 exact rfl)) | ((apply HQ.ar; (iterate 4 exact rfl)); (with_reducible apply wr_i64; omega); exact rfl) | (apply HQ.Bi; (iterate 4 exact rfl)) | ((apply HQ.Bb); (iterate 4 exact rfl)) | (apply HQ.Bo; (iterate 3 exact rfl); (omega)) | (apply HQ.gno; (iterate 3 exact rfl); (omega)) | (refine HQ.Ap (i := j) rfl rfl rfl (by omega) (by omega) rfl ?_) | (refine HQ.Ad rfl rfl rfl (.of (rd2 _) (i := 0) rfl) rfl ?_))
                refine gN ?_
                refine H.Ab (.here _ _) ?_
                first
                  | exact H.Ao (i + 1) ⟨by show i + 1 ≤ x.q.length; omega, by show quo 0 x.q = _; rw [hw, hquo, if_neg (by omega), ← hwz], by show 0 < i + 1 → 1 ≤ wq x.q (i + 1); rw [hwz]; omega⟩ (by show x.q.length - (i + 1) < x.q.length - i; omega) ⟨rfl, rfl, trivial⟩ rfl rfl
                  | (refine H.Ab (.here _ _) ?_
                     refine H.Ac rfl rfl (fun _ h => h) ⟨?_, rfl, rfl⟩
                     rw [show x.mayK 4 = (decide (1 ≤ x.view) && (quo 0 x.q && decide (0 < x.q.length))) from rfl, hw, hquo, if_pos (by omega)]
                     simp)
              · skip
                repeat (first | ((apply HQ.Aj); (iterate 3 exact rfl)) | (apply HQ.Aq; (iterate 3 exact rfl); exact inferInstance; exact rfl) | (apply HQ.Ad; (iterate 3 exact rfl); apply Rd1.ofRow; (repeat (first | exact .here _ _ _ | apply At.there)); (iterate 2 exact rfl)) | ((apply HQ.done0); exact rfl) | ((apply HQ.cmp); (iterate 5 exact rfl)) | ((apply HQ.ar; (iterate 4 exact rfl)); (with_reducible apply wr_i64; omega); exact rfl) | (apply HQ.Bi; (iterate 4 exact rfl)) | ((apply HQ.Bb); (iterate 4 exact rfl)) | (apply HQ.Bo; (iterate 3 exact rfl); (omega)) | (apply HQ.gno; (iterate 3 exact rfl); (omega)) | (refine HQ.Ap (i := j) rfl rfl rfl (by omega) (by omega) rfl ?_) | (refine HQ.Ad rfl rfl rfl (.of (rd2 _) (i := 0) rfl) rfl ?_))
                refine gI ?_
                refine H.Ab (.here _ _) ?_
                first
                  | exact H.Ao (i + 1) ⟨by show i + 1 ≤ x.q.length; omega, by show quo 0 x.q = _; rw [hw, hquo, if_neg (by omega), ← hwz], by show 0 < i + 1 → 1 ≤ wq x.q (i + 1); rw [hwz]; omega⟩ (by show x.q.length - (i + 1) < x.q.length - i; omega) ⟨rfl, rfl, trivial⟩ rfl rfl
                  | (refine H.Ab (.here _ _) ?_
                     refine H.Ac rfl rfl (fun _ h => h) ⟨?_, rfl, rfl⟩
                     rw [show x.mayK 4 = (decide (1 ≤ x.view) && (quo 0 x.q && decide (0 < x.q.length))) from rfl, hw, hquo, if_pos (by omega)]
                     simp)
            · skip
              repeat (first | ((apply HQ.Aj); (iterate 3 exact rfl)) | (apply HQ.Aq; (iterate 3 exact rfl); exact inferInstance; exact rfl) | (apply HQ.Ad; (iterate 3 exact rfl); apply Rd1.ofRow; (repeat (first | exact .here _ _ _ | apply At.there)); (iterate 2 exact rfl)) | ((apply HQ.done0); exact rfl) | ((apply HQ.cmp); (iterate 5 exact rfl)) | ((apply HQ.ar; (iterate 4 exact rfl)); (with_reducible apply wr_i64; omega); exact rfl) | (apply HQ.Bm; (iterate 2 exact rfl)) | (apply HQ.Bi; (iterate 4 exact rfl)) | ((apply HQ.Bb); (iterate 4 exact rfl)) | (apply HQ.Bo; (iterate 3 exact rfl); (omega)) | (apply HQ.gno; (iterate 3 exact rfl); (omega)) | (refine HQ.Ap (i := j) rfl rfl rfl (by omega) (by omega) rfl ?_) | (refine HQ.Ad rfl rfl rfl (.of (rd2 _) (i := 0) rfl) rfl ?_))
              refine ge ?_
              refine H.Ab (.here _ _) ?_
              first
                | exact H.Ao (i + 1) ⟨by show i + 1 ≤ x.q.length; omega, by show quo 0 x.q = _; rw [hw, hquo, if_neg (by omega), ← hwz], by show 0 < i + 1 → 1 ≤ wq x.q (i + 1); rw [hwz]; omega⟩ (by show x.q.length - (i + 1) < x.q.length - i; omega) ⟨rfl, rfl, trivial⟩ rfl rfl
                | (refine H.Ab (.here _ _) ?_
                   refine H.Ac rfl rfl (fun _ h => h) ⟨?_, rfl, rfl⟩
                   rw [show x.mayK 4 = (decide (1 ≤ x.view) && (quo 0 x.q && decide (0 < x.q.length))) from rfl, hw, hquo, if_pos (by omega)]
                   simp)
          · skip
            repeat (first | ((apply HQ.Aj); (iterate 3 exact rfl)) | (apply HQ.Aq; (iterate 3 exact rfl); exact inferInstance; exact rfl) | (apply HQ.Ad; (iterate 3 exact rfl); apply Rd1.ofRow; (repeat (first | exact .here _ _ _ | apply At.there)); (iterate 2 exact rfl)) | ((apply HQ.done0); exact rfl) | ((apply HQ.cmp); (iterate 5 exact rfl)) | ((apply HQ.ar; (iterate 4 exact rfl)); (with_reducible apply wr_i64; omega); exact rfl) | (apply HQ.Bm; (iterate 2 exact rfl)) | (apply HQ.Bi; (iterate 4 exact rfl)) | ((apply HQ.Bb); (iterate 4 exact rfl)) | (apply HQ.Bo; (iterate 3 exact rfl); (omega)) | (apply HQ.gno; (iterate 3 exact rfl); (omega)) | (refine HQ.Ap (i := j) rfl rfl rfl (by omega) (by omega) rfl ?_) | (refine HQ.Ad rfl rfl rfl (.of (rd2 _) (i := 0) rfl) rfl ?_))
            refine ge ?_
            refine H.Ab (.here _ _) ?_
            first
              | exact H.Ao (i + 1) ⟨by show i + 1 ≤ x.q.length; omega, by show quo 0 x.q = _; rw [hw, hquo, if_neg (by omega), ← hwz], by show 0 < i + 1 → 1 ≤ wq x.q (i + 1); rw [hwz]; omega⟩ (by show x.q.length - (i + 1) < x.q.length - i; omega) ⟨rfl, rfl, trivial⟩ rfl rfl
              | (refine H.Ab (.here _ _) ?_
                 refine H.Ac rfl rfl (fun _ h => h) ⟨?_, rfl, rfl⟩
                 rw [show x.mayK 4 = (decide (1 ≤ x.view) && (quo 0 x.q && decide (0 < x.q.length))) from rfl, hw, hquo, if_pos (by omega)]
                 simp)
        · skip
          refine gW ?_
          refine ge ?_
          refine H.Ab (.here _ _) ?_
          first
            | exact H.Ao (i + 1) ⟨by show i + 1 ≤ x.q.length; omega, by show quo 0 x.q = _; rw [hw, hquo, if_neg (by omega), ← hwz], by show 0 < i + 1 → 1 ≤ wq x.q (i + 1); rw [hwz]; omega⟩ (by show x.q.length - (i + 1) < x.q.length - i; omega) ⟨rfl, rfl, trivial⟩ rfl rfl
            | (refine H.Ab (.here _ _) ?_
               refine H.Ac rfl rfl (fun _ h => h) ⟨?_, rfl, rfl⟩
               rw [show x.mayK 4 = (decide (1 ≤ x.view) && (quo 0 x.q && decide (0 < x.q.length))) from rfl, hw, hquo, if_pos (by omega)]
               simp)
      · skip
        refine gW ?_
        refine ge ?_
        refine H.Ab (.here _ _) ?_
        first
          | exact H.Ao (i + 1) ⟨by show i + 1 ≤ x.q.length; omega, by show quo 0 x.q = _; rw [hw, hquo, if_neg (by omega), ← hwz], by show 0 < i + 1 → 1 ≤ wq x.q (i + 1); rw [hwz]; omega⟩ (by show x.q.length - (i + 1) < x.q.length - i; omega) ⟨rfl, rfl, trivial⟩ rfl rfl
          | (refine H.Ab (.here _ _) ?_
             refine H.Ac rfl rfl (fun _ h => h) ⟨?_, rfl, rfl⟩
             rw [show x.mayK 4 = (decide (1 ≤ x.view) && (quo 0 x.q && decide (0 < x.q.length))) from rfl, hw, hquo, if_pos (by omega)]
             simp)
  · have hiq : i = x.q.length := by omega
    subst hiq
    rw [List.drop_length] at hw
    by_cases h1 : 1 ≤ x.view
    · skip
      refine gc ?_
      refine H.Ab (.here _ _) ?_
      refine H.Ac rfl rfl (fun _ h => h) ⟨?_, rfl, rfl⟩
      rw [show x.mayK 4 = (decide (1 ≤ x.view) && (quo 0 x.q && decide (0 < x.q.length))) from rfl, hw, decide_eq_true h1]
      simp [quo]
      omega
    · skip
      refine gJ ?_
      refine H.Ab (.here _ _) ?_
      refine H.Ac rfl rfl (fun _ h => h) ⟨?_, rfl, rfl⟩
      rw [show x.mayK 4 = (decide (1 ≤ x.view) && (quo 0 x.q && decide (0 < x.q.length))) from rfl, decide_eq_false h1]
      rfl
theorem rbody0_fn {x : Bod} {q : Option Addr} {qc : Nat} (hq : QAt f q x.q) (hl : x.q.length ≤ 1000000000) (h4 : ¬ (x.kind.toNat = 4 ∧ Bod.eqB x.own x = true ∧ x.view < 1073741824)) :
  Fn Tryz.prog 74 [.agg (x.vals q qc).toArray] f F (Ret (.bool x.may) f F) := by
 unfold Bod.may
 refine Fn.enter Tryz.func74 rfl Tryz.ntmps74 rfl (L := [(0, _)]) ⟨rfl, trivial⟩ fun base => ?_
 refine gA ?_
 refine H.box (ls := x.vals q qc) rfl rfl rfl rfl fun xb => ?_
 refine gO ?_
 refine H.Ay (by kernel_rfl) (by decide +kernel) (by repeat (first | exact zab | refine zaa ?_ | refine zac ?_ | refine zad ?_)) (S := [_]) rfl ?_
 refine HB.Af [(0, false), (2, false)] 8 (by kernel_rfl) ?_
 refine HQ.Ag (ls := x.vals q qc) rfl rfl rfl (Rd.ofRow (by repeat constructor)) rfl rfl ?_
 refine HQ.Ag (ls := x.vals q qc) rfl rfl rfl (Rd.ofRow (by repeat constructor)) rfl rfl ?_
 refine HQ.Ae rfl ?_
 refine HB.ev1 (i := 1) (by kernel_rfl) rfl ?_
 refine H.callP rfl rfl rfl (own_fn f _ hq) fun i hqo => ?_
 refine gA ?_
 refine H.on0 rfl ?_
 refine HB.ev1 (i := 3) (by kernel_rfl) rfl ?_
 have hlo : x.own.q.length ≤ 1000000000 := by
  have : x.own.q = x.q ∨ x.own.q = [] := by
   unfold Bod.own
   match x.kind.toNat with
   | 0 => exact .inr rfl
   | 1 => exact .inr rfl
   | 2 => exact .inr rfl
   | 3 => exact .inr rfl
   | 4 => exact .inl rfl
   | 5 => exact .inr rfl
   | 6 => exact .inr rfl
   | k + 7 => exact .inr rfl
  rcases this with h | h <;> rw [h]
  ·exact hl
  ·exact Nat.zero_le _
 refine H.Ah rfl rfl rfl (rsame_fn f _ hqo hq hlo) ?_
 refine gA ?_
 refine H.on0 rfl ?_
 refine HB.Af [(4, false), (5, false), (6, false), (7, false), (8, false), (9, false)] 0 (by kernel_rfl) ?_
 generalize hs : Bod.eqB x.own x = sm
 cases sm with
 | false =>
  have hn : (!false) = true := rfl
  refine gW ?_
  refine HQ.Ae rfl ?_
  refine HB.Al (by kernel_rfl) ?_
  refine ge ?_
  refine H.Ab (.here _ _) ?_
  exact H.Ac rfl rfl (fun _ h => h) ⟨rfl, rfl, rfl⟩
 | true =>
  have hn : (!true) = false := rfl
  by_cases hv : x.view < 1073741824
  ·rw [decide_eq_true hv, Bool.true_and, Bool.true_and]
   refine gW ?_
   refine HQ.Ae rfl ?_
   refine HB.Al (by kernel_rfl) ?_
   generalize hk : x.kind.toNat = kind
   match kind, hk with
   | 0, hk =>
    refine gQ ?_
    refine H.Ab (.here _ _) ?_
    refine H.Ac rfl rfl (fun _ h => h) ⟨?_, rfl, rfl⟩
    simp [Bod.mayK, *]
   | 1, hk =>
    repeat (first | ((apply H.Ar); (iterate 3 exact rfl)) | (apply H.Aq; (iterate 3 exact rfl); exact inferInstance; exact rfl) | (apply H.Ad; (iterate 3 exact rfl); apply Rd1.ofRow; (repeat (exact .here _ _ _)); (iterate 2 exact rfl)) | (first | apply H.seq | apply H.Au | apply H.nil | apply H.Av) | ((apply H.cmp); (iterate 5 exact rfl)) | (first | apply H.Bk | apply H.ret | apply H.Bz | apply H.Bl | apply H.Cd) | (apply H.Bq; exact rfl; (omega)) | (apply H.Bu; exact rfl; (omega)) | (refine H.Ag (ls := x.req.vals) rfl rfl rfl (zaz (by repeat constructor)) rfl rfl ?_) | (refine H.Ah rfl rfl rfl (rasked_fn f _ x.req) ?_))
    refine H.Ab (.here _ _) ?_
    refine H.Ac rfl rfl (fun _ h => h) ⟨?_, rfl, rfl⟩
    simp [Bod.mayK, *]
   | 2, hk =>
    by_cases h1 : 1 ≤ x.k
    ·skip
     refine gc ?_
     refine H.Ab (.here _ _) ?_
     refine H.Ac rfl rfl (fun _ h => h) ⟨?_, rfl, rfl⟩
     simp [Bod.mayK, *]
    ·skip
     refine gJ ?_
     refine H.Ab (.here _ _) ?_
     refine H.Ac rfl rfl (fun _ h => h) ⟨?_, rfl, rfl⟩
     simp [Bod.mayK, *]
   | 3, hk =>
    refine gc ?_
    refine H.Ab (.here _ _) ?_
    refine H.Ac rfl rfl (fun _ h => h) ⟨?_, rfl, rfl⟩
    simp [Bod.mayK, *]
   | 5, hk =>
    refine gc ?_
    refine H.Ab (.here _ _) ?_
    refine H.Ac rfl rfl (fun _ h => h) ⟨?_, rfl, rfl⟩
    simp [Bod.mayK, *]
   | 6, hk =>
    by_cases h1 : 1 ≤ x.k
    ·skip
     refine gc ?_
     refine H.Ab (.here _ _) ?_
     refine H.Ac rfl rfl (fun _ h => h) ⟨?_, rfl, rfl⟩
     simp [Bod.mayK, *]
    ·skip
     refine gJ ?_
     refine H.Ab (.here _ _) ?_
     refine H.Ac rfl rfl (fun _ h => h) ⟨?_, rfl, rfl⟩
     simp [Bod.mayK, *]
   | k + 7, hk =>
    refine gQ ?_
    refine H.Ab (.here _ _) ?_
    refine H.Ac rfl rfl (fun _ h => h) ⟨?_, rfl, rfl⟩
    simp [Bod.mayK, *]
   | 4, hk => exact absurd ⟨hk, hs, hv⟩ h4
  ·rw [decide_eq_false hv]
   refine gW ?_
   refine HQ.Ae rfl ?_
   refine HB.Al (by kernel_rfl) ?_
   refine gI ?_
   refine H.Ab (.here _ _) ?_
   exact H.Ac rfl rfl (fun _ h => h) ⟨rfl, rfl, rfl⟩
theorem rbody_fn {x : Bod} {q : Option Addr} {qc : Nat} (hq : QAt f q x.q) (hl : x.q.length ≤ 1000000000) :
  Fn Tryz.prog 74 [.agg (x.vals q qc).toArray] f F (Ret (.bool x.may) f F) := by
 by_cases h4 : x.kind.toNat = 4 ∧ Bod.eqB x.own x = true ∧ x.view < 1073741824
 ·exact rbody4_fn f F hq hl h4.1 h4.2.1 h4.2.2
 ·exact rbody0_fn f F hq hl h4
end
section
variable (f : Frag) (F : List HP)
theorem rmay_fn {m : Msg} {q : Option Addr} {qc : Nat} (hq : QAt f q m.body.q) (hl : m.body.q.length ≤ 1000000000) :
  Fn Tryz.prog 47 [.agg (m.vals q qc).toArray] f F (Ret (.bool (decide m.outer && m.body.may)) f F) := by
 by_cases h1 : 1 ≤ m.origin
 ·by_cases h2 : m.origin ≤ 11
  ·by_cases h3 : 1 ≤ m.number
   ·by_cases h4 : m.number ≤ 65536
    ·by_cases h5 : m.deps (m.origin.toNat - 1) = m.number - 1
     ·skip
      refine Fn.enter Tryz.func47 rfl Tryz.ntmps47 rfl (L := [(0, _)]) ⟨rfl, trivial⟩ fun base => ?_
      refine gA ?_
      refine H.box (ls := m.vals q qc) rfl rfl rfl rfl fun mb => ?_
      refine gO ?_
      refine H.Bg (by kernel_rfl) (by decide +kernel) (by repeat (first | exact zab | refine zaa ?_ | refine zac ?_ | refine zad ?_)) ?_
      repeat (first | ((apply HQ.Aj); (iterate 3 exact rfl)) | (apply HQ.Aq; (iterate 3 exact rfl); exact inferInstance; exact rfl) | (apply HQ.Ad; (iterate 3 exact rfl); apply Rd1.ofRow; (repeat (exact .here _ _ _)); (iterate 2 exact rfl)) | ((apply HQ.done0); exact rfl) | ((apply HQ.cmp); (iterate 5 exact rfl)) | ((apply HQ.ar; (iterate 4 exact rfl)); (first | (with_reducible apply wr_i64; omega) | (with_reducible apply wr_u64; omega)); exact rfl) | ((apply HQ.Bb); (iterate 4 exact rfl)) | (apply HQ.gno; (iterate 3 exact rfl); (omega)) | (refine HQ.Ba (i := (m.origin.toNat - 1)) rfl rfl rfl (by omega) (by omega) rfl ?_) | (refine HQ.Ad rfl rfl rfl (.of (zbc (by repeat constructor)) (by rw [Nat.mul_one]; exact zas m.deps (by omega))) rfl ?_))
      refine gN ?_
      refine H.Aw (ι := Nat) (fun i => [(3, .int .i64 (i : Int)), (1, .pointer (some ⟨mb, 0, none⟩))]) (fun _ => f) (fun _ => row mb 54 (m.vals q qc) :: F) (fun i => i ≤ 11 ∧ ∀ j, j < i → m.deps j ≤ 65536) (fun i => 11 - i) 0 ⟨Nat.zero_le _, fun j hj => absurd hj (Nat.not_lt_zero j)⟩ ⟨rfl, rfl, trivial⟩ rfl rfl fun i hi => ?_
      obtain ⟨hi, hle⟩ : i ≤ 11 ∧ ∀ j, j < i → m.deps j ≤ 65536 := hi
      by_cases hlt : i < 11
      ·refine gQ ?_
       refine H.Ba (i := i) rfl rfl rfl rfl hlt rfl ?_
       refine H.Ad rfl rfl rfl (.of (zbc (by repeat constructor)) (by rw [Nat.mul_one]; exact zas m.deps hlt)) rfl ?_
       by_cases h6 : m.deps i ≤ 65536
       ·refine gN ?_
        exact H.Ao (i + 1) ⟨by show i + 1 ≤ 11; omega, fun j hj => by
         by_cases e : j = i
         ·rw [e]; exact h6
         ·exact hle j (by have : j < i + 1 := hj; omega)⟩ (by show 11 - (i + 1) < 11 - i; omega) ⟨rfl, rfl, trivial⟩ rfl rfl
       ·refine gI ?_
        refine H.Ab (.here _ _) ?_
        refine H.Ac rfl rfl (fun _ h => h) ⟨?_, rfl, rfl⟩
        rw [decide_eq_false (fun h => h6 ((maxTo_le m.deps 65536 10).1 h.2.2.2.2.2 i (by omega)))]
        rfl
      ·have hi11 : i = 11 := by omega
       subst hi11
       have h7 : m.outer := ⟨h1, h2, h3, h4, h5, (maxTo_le m.deps 65536 10).2 fun j hj => hle j (by omega)⟩
       rw [decide_eq_true h7, Bool.true_and]
       refine gY ?_
       refine H.Ag (ls := m.body.vals q qc) rfl rfl rfl (msg_body (by repeat constructor)) rfl rfl ?_
       refine H.Ah rfl rfl rfl (rbody_fn f _ hq hl) ?_
       refine gX ?_
       refine H.Ab (.here _ _) ?_
       exact H.Ac rfl rfl (fun _ h => h) ⟨rfl, rfl, rfl⟩
     ·skip
      refine Fn.enter Tryz.func47 rfl Tryz.ntmps47 rfl (L := [(0, _)]) ⟨rfl, trivial⟩ fun base => ?_
      refine gA ?_
      refine H.box (ls := m.vals q qc) rfl rfl rfl rfl fun mb => ?_
      refine gO ?_
      refine H.Bg (by kernel_rfl) (by decide +kernel) (by repeat (first | exact zab | refine zaa ?_ | refine zac ?_ | refine zad ?_)) ?_
      repeat (first | ((apply HQ.Aj); (iterate 3 exact rfl)) | (apply HQ.Aq; (iterate 3 exact rfl); exact inferInstance; exact rfl) | (apply HQ.Ad; (iterate 3 exact rfl); apply Rd1.ofRow; (repeat (exact .here _ _ _)); (iterate 2 exact rfl)) | ((apply HQ.done0); exact rfl) | ((apply HQ.cmp); (iterate 5 exact rfl)) | ((apply HQ.ar; (iterate 4 exact rfl)); (first | (with_reducible apply wr_i64; omega) | (with_reducible apply wr_u64; omega)); exact rfl) | ((apply HQ.Bb); (iterate 4 exact rfl)) | (apply HQ.gno; (iterate 3 exact rfl); (omega)) | (refine HQ.Ba (i := (m.origin.toNat - 1)) rfl rfl rfl (by omega) (by omega) rfl ?_) | (refine HQ.Ad rfl rfl rfl (.of (zbc (by repeat constructor)) (by rw [Nat.mul_one]; exact zas m.deps (by omega))) rfl ?_))
      refine gI ?_
      refine H.Ab (.here _ _) ?_
      refine H.Ac rfl rfl (fun _ h => h) ⟨?_, rfl, rfl⟩
      simp [Msg.outer, *]
    ·skip
     refine Fn.enter Tryz.func47 rfl Tryz.ntmps47 rfl (L := [(0, _)]) ⟨rfl, trivial⟩ fun base => ?_
     refine gA ?_
     refine H.box (ls := m.vals q qc) rfl rfl rfl rfl fun mb => ?_
     refine gO ?_
     refine H.Bg (by kernel_rfl) (by decide +kernel) (by repeat (first | exact zab | refine zaa ?_ | refine zac ?_ | refine zad ?_)) ?_
     refine gW ?_
     refine ge ?_
     refine H.Ab (.here _ _) ?_
     refine H.Ac rfl rfl (fun _ h => h) ⟨?_, rfl, rfl⟩
     simp [Msg.outer, *]
   ·skip
    refine Fn.enter Tryz.func47 rfl Tryz.ntmps47 rfl (L := [(0, _)]) ⟨rfl, trivial⟩ fun base => ?_
    refine gA ?_
    refine H.box (ls := m.vals q qc) rfl rfl rfl rfl fun mb => ?_
    refine gO ?_
    refine H.Bg (by kernel_rfl) (by decide +kernel) (by repeat (first | exact zab | refine zaa ?_ | refine zac ?_ | refine zad ?_)) ?_
    refine gW ?_
    refine ge ?_
    refine H.Ab (.here _ _) ?_
    refine H.Ac rfl rfl (fun _ h => h) ⟨?_, rfl, rfl⟩
    simp [Msg.outer, *]
  ·skip
   refine Fn.enter Tryz.func47 rfl Tryz.ntmps47 rfl (L := [(0, _)]) ⟨rfl, trivial⟩ fun base => ?_
   refine gA ?_
   refine H.box (ls := m.vals q qc) rfl rfl rfl rfl fun mb => ?_
   refine gO ?_
   refine H.Bg (by kernel_rfl) (by decide +kernel) (by repeat (first | exact zab | refine zaa ?_ | refine zac ?_ | refine zad ?_)) ?_
   refine gW ?_
   refine ge ?_
   refine H.Ab (.here _ _) ?_
   refine H.Ac rfl rfl (fun _ h => h) ⟨?_, rfl, rfl⟩
   simp [Msg.outer, *]
 ·skip
  refine Fn.enter Tryz.func47 rfl Tryz.ntmps47 rfl (L := [(0, _)]) ⟨rfl, trivial⟩ fun base => ?_
  refine gA ?_
  refine H.box (ls := m.vals q qc) rfl rfl rfl rfl fun mb => ?_
  refine gO ?_
  refine H.Bg (by kernel_rfl) (by decide +kernel) (by repeat (first | exact zab | refine zaa ?_ | refine zac ?_ | refine zad ?_)) ?_
  refine gW ?_
  refine ge ?_
  refine H.Ab (.here _ _) ?_
  refine H.Ac rfl rfl (fun _ h => h) ⟨?_, rfl, rfl⟩
  simp [Msg.outer, *]
end
def depsB (d : Nat → Int) : Nat → List UInt8
 | 0 => []
 | i + 1 => depsB d i ++ be 8 (d i)
theorem depsB_len (d : Nat → Int) : ∀ n, (depsB d n).length = 8 * n
 | 0 => rfl
 | n + 1 => by simp only [depsB, List.length_append, be_len, depsB_len d n]; omega
def Msg.tagged (m : Msg) : List UInt8 := [b8 m.origin] ++ depsB m.deps 11 ++ [m.body.kind] ++ m.body.put
def Msg.may (m : Msg) : Bool := decide m.outer && m.body.may
def Msg.bytes (m : Msg) : List UInt8 := if m.may = true then m.tagged else []
theorem H.asSlc {P : Program} {base : World} {n : Nat} {L : Env} {f : Frag} {A : List HP} {K : Kont} {b k sz : Nat} {T : TypeId} {ls : List Value} (hl : ls.length = k * sz) (hk : k ≤ 9223372036854775807)
  (h : H P base n L f (slc (some ⟨b, 0, none⟩) k k T sz ls :: A) K) : H P base n L f (row b T ls :: A) K :=
 H.imp (A' := slc (some ⟨b, 0, none⟩) k k T sz ls :: A) (fun x ⟨m1, m2, d, e, a, r⟩ => ⟨m1, m2, d, e, row_slc hl hk a, r⟩) h
theorem b8_small {z : Int} (h : 0 ≤ z ∧ z < 256) : ((b8 z).toNat : Int) = z := by
 unfold b8
 rw [UInt8.toNat_ofNat']
 omega
theorem quo_len : ∀ (q : List (Int × Int)) (w : Int), w ≤ 11 → quo w q = true → (q.length : Int) ≤ 11 - w
 | [], w, hw, _ => by simp; omega
 | p :: r, w, hw, h => by
  unfold quo at h
  split at h
  ·cases h
  ·have ih := quo_len r p.1 (by omega) h
   rw [List.length_cons]; omega
theorem Bod.may_spec {x : Bod} (h : x.may = true) : Bod.eqB x.own x = true ∧ x.view < 1073741824 ∧ x.mayK x.kind.toNat = true := by
 unfold Bod.may at h
 simp only [Bool.and_eq_true, decide_eq_true_eq] at h
 exact ⟨h.1.1, h.1.2, h.2⟩
theorem Bod.eqB_q {a b : Bod} (h : Bod.eqB a b = true) : a.q = b.q := by
 unfold Bod.eqB at h
 simp only [Bool.and_eq_true, decide_eq_true_eq] at h
 exact h.1.2
theorem Bod.may_q {x : Bod} (h : x.may = true) : x.q.length ≤ 11 := by
 obtain ⟨h1, h2, h3⟩ := Bod.may_spec h
 have h4 := Bod.eqB_q h1
 unfold Bod.own at h4
 generalize hk : x.kind.toNat = k at h3 h4
 match k, h3, h4 with
 | 0, h3, _ => exact absurd h3 (by simp [Bod.mayK])
 | 1, _, h4 => have h4 : [] = x.q := h4; rw [← h4]; exact Nat.zero_le _
 | 2, _, h4 => have h4 : [] = x.q := h4; rw [← h4]; exact Nat.zero_le _
 | 3, _, h4 => have h4 : [] = x.q := h4; rw [← h4]; exact Nat.zero_le _
 | 5, _, h4 => have h4 : [] = x.q := h4; rw [← h4]; exact Nat.zero_le _
 | 6, _, h4 => have h4 : [] = x.q := h4; rw [← h4]; exact Nat.zero_le _
 | k + 7, h3, _ => exact absurd h3 (by simp [Bod.mayK])
 | 4, h3, _ =>
  simp only [Bod.mayK, Bool.and_eq_true, decide_eq_true_eq] at h3
  have := quo_len x.q 0 (by omega) h3.2.1
  omega
theorem Msg.may_body {m : Msg} (h : m.may = true) : m.body.may = true := by
 unfold Msg.may at h
 simp only [Bool.and_eq_true] at h
 exact h.2
section
variable (f : Frag) (F : List HP)
theorem rbytes_fn {m : Msg} {q : Option Addr} {qc : Nat} (hq : QAt f q m.body.q) (hl : m.body.q.length ≤ 1000000000) :
  Fn Tryz.prog 69 [.agg (m.vals q qc).toArray] f F (BytesR m.bytes f F) := by
 have hmay := fun G => rmay_fn (m := m) (qc := qc) f G hq hl
 unfold Msg.bytes
 have e0 : m.may = (decide m.outer && m.body.may) := rfl
 rw [← e0] at hmay
 by_cases hm : m.may = true
 ·rw [if_pos hm]
  rw [hm] at hmay
  refine Fn.enter Tryz.func69 rfl Tryz.ntmps69 rfl (L := [(0, _)]) ⟨rfl, trivial⟩ fun base => ?_
  refine gA ?_
  refine H.box (ls := m.vals q qc) rfl rfl rfl rfl fun mb => ?_
  refine gO ?_
  refine H.Ag (ls := m.vals q qc) rfl rfl rfl (Rd.ofRow (by repeat constructor)) rfl rfl ?_
  refine H.Ah rfl rfl rfl (hmay _) ?_
  refine gZ ?_
  rw [u8_b8]
  refine H.Be (out := bytesV [b8 m.origin]) rfl rfl rfl rfl (by decide) (by decide) rfl rfl fun tb => ?_
  refine H.asSlc (k := 1) (sz := 1) rfl (by decide) ?_
  refine gX ?_
  generalize hB0 : [b8 m.origin] = B0
  have hB0l : B0.length = 1 := by rw [← hB0]; rfl
  refine H.Aa (.there _ (.here _ _)) ?_
  refine H.Aw (ι := Nat × Option Addr × Nat) (fun i => [(4, .int .i64 (i.1 : Int)), (3, .slice i.2.1 (B0 ++ depsB m.deps i.1).length i.2.2), (1, .pointer (some ⟨mb, 0, none⟩))]) (fun _ => f)
   (fun i => row mb 54 (m.vals q qc) :: slc i.2.1 (B0 ++ depsB m.deps i.1).length i.2.2 5 1 (bytesV (B0 ++ depsB m.deps i.1)) :: F) (fun i => i.1 ≤ 11) (fun i => 11 - i.1) (0, some ⟨tb, 0, none⟩, 1) (Nat.zero_le _) ⟨rfl, ?_, rfl, trivial⟩ rfl ?_ fun i hi => ?_
  ·show some (Value.slice _ 1 1) = some (Value.slice _ (B0 ++ []).length 1)
   rw [List.append_nil, hB0l]
  ·show _ = _ :: slc _ (B0 ++ []).length 1 _ 1 (bytesV (B0 ++ [])) :: F
   rw [List.append_nil, hB0l]
  ·obtain ⟨i, p', c'⟩ := i
   have hi : i ≤ 11 := hi
   show H _ _ _ [(4, .int .i64 (i : Int)), (3, .slice p' (B0 ++ depsB m.deps i).length c'), _] _ (_ :: slc p' (B0 ++ depsB m.deps i).length c' _ 1 (bytesV (B0 ++ depsB m.deps i)) :: F) _
   have hal : (B0 ++ depsB m.deps i).length = 1 + 8 * i := by rw [List.length_append, depsB_len, hB0l]
   by_cases hlt : i < 11
   ·have e1 : B0 ++ depsB m.deps (i + 1) = (B0 ++ depsB m.deps i) ++ be 8 (m.deps i) := by simp only [depsB, List.append_assoc]
    generalize B0 ++ depsB m.deps i = acc at hal e1 ⊢
    refine gQ ?_
    refine H.Ba (i := i) rfl rfl rfl rfl hlt rfl ?_
    refine H.Ad rfl rfl rfl (.of (zbc (by repeat constructor)) (by rw [Nat.mul_one]; exact zas m.deps hlt)) rfl ?_
    refine H.Az rfl rfl rfl (zbb (l := acc) f _ (Src.slcS (by repeat constructor) (by rw [zaf]; exact (Nat.mul_one _).symm)) (by omega)) fun p1 c1 => ?_
    refine ge ?_
    refine H.Ab (x := slc p' _ c' _ _ _) (by repeat constructor) ?_
    refine H.Aa (.there _ (.here _ _)) ?_
    refine H.Ao (i + 1, p1, c1) (by show i + 1 ≤ 11; omega) (by show 11 - (i + 1) < 11 - i; omega) ⟨rfl, ?_, rfl, trivial⟩ rfl ?_
    ·show some _ = some (Value.slice p1 (B0 ++ depsB m.deps (i + 1)).length c1)
     rw [e1]
    ·show _ = _ :: slc p1 (B0 ++ depsB m.deps (i + 1)).length c1 _ 1 (bytesV (B0 ++ depsB m.deps (i + 1))) :: F
     rw [e1]
   ·have hi11 : i = 11 := by omega
    subst hi11
    generalize hacc : B0 ++ depsB m.deps 11 = acc at hal ⊢
    refine gY ?_
    refine H.Ag (ls := m.body.vals q qc) rfl rfl rfl (msg_body (by repeat constructor)) rfl rfl ?_
    refine H.Am (ls := (Bod.zero 0).vals none 0) rfl rfl rfl fun yb => ?_
    refine H.Ak (ls := (Bod.zero 0).vals none 0) (vs := m.body.vals q qc) (ls' := m.body.vals q qc) rfl rfl rfl (zae rfl) rfl rfl (Nat.le_refl 76) (by repeat constructor) ?_
    refine gK ?_
    refine H.Be (out := bytesV [m.body.kind]) rfl rfl rfl rfl (by decide) (by decide) rfl rfl fun tb => ?_
    refine H.Bf (m := 1) (xs := bytesV acc) rfl rfl rfl rfl rfl (fun p' c' => (by repeat constructor)) (Src.slice (Rd.ofRow (by repeat constructor)) rfl) (zai _) rfl (by omega) (by omega) fun p2 c2 => ?_
    refine gc ?_
    refine H.Ab (x := row tb _ _) (by repeat constructor) ?_
    have e2 : (acc ++ [m.body.kind]).length = acc.length + 1 := by rw [List.length_append]; rfl
    have e3 : bytesV (acc ++ [m.body.kind]) = bytesV acc ++ bytesV [m.body.kind] := zag _ _
    show H _ _ _ ((33, _) :: (32, _) :: (31, _) :: (3, .slice p2 (acc.length + 1) c2) :: _) _ (_ :: _ :: slc p2 (acc.length + 1) c2 _ 1 (bytesV acc ++ bytesV [m.body.kind]) :: F) _
    rw [← e2, ← e3]
    have htag : m.tagged = (acc ++ [m.body.kind]) ++ m.body.putK m.body.kind.toNat := by rw [← hacc, ← hB0]; rfl
    rw [htag]
    have hal2 : (acc ++ [m.body.kind]).length = 90 := by omega
    generalize acc ++ [m.body.kind] = l0 at hal2 ⊢
    have hbm := Bod.may_spec (Msg.may_body hm)
    have hql := Bod.may_q (Msg.may_body hm)
    have hmk := hbm.2.2
    generalize hk : m.body.kind.toNat = kind at hmk
    match kind, hk, hmk with
    | 0, hk, hmk => exact absurd hmk (by simp [Bod.mayK])
    | k + 7, hk, hmk => exact absurd hmk (by simp [Bod.mayK])
    | 2, hk, hmk =>
     refine gY ?_
     refine H.Az rfl rfl rfl (zbb (l := l0) f _ (Src.slcS (by repeat constructor) (by rw [zaf]; exact (Nat.mul_one _).symm)) (by omega)) fun p3 c3 => ?_
     refine H.Ab (x := slc p2 _ c2 _ _ _) (by repeat constructor) ?_
     have e4 : (l0 ++ be 8 m.body.view).length = 98 := by rw [List.length_append, be_len, hal2]
     generalize hl1 : l0 ++ be 8 m.body.view = l1 at e4
     refine gc ?_
     refine H.Az rfl rfl rfl (zbb (l := l1) f _ (Src.slcS (by repeat constructor) (by rw [zaf]; exact (Nat.mul_one _).symm)) (by omega)) fun p4 c4 => ?_
     refine H.Ab (x := slc p3 _ c3 _ _ _) (by repeat constructor) ?_
     refine gX ?_
     refine H.Ab (x := row yb _ _) (by repeat constructor) ?_
     refine H.Ab (x := row mb _ _) (by repeat constructor) ?_
     have e9 : l0 ++ m.body.putK 2 = l1 ++ be 8 m.body.k := by rw [← hl1]; simp only [Bod.putK, List.append_assoc]
     exact H.Ac rfl rfl (fun _ h => h) ⟨p4, c4, by rw [e9], rfl, by rw [e9]⟩
    | 3, hk, hmk =>
     refine gY ?_
     refine H.Az rfl rfl rfl (zbb (l := l0) f _ (Src.slcS (by repeat constructor) (by rw [zaf]; exact (Nat.mul_one _).symm)) (by omega)) fun p3 c3 => ?_
     refine H.Ab (x := slc p2 _ c2 _ _ _) (by repeat constructor) ?_
     refine gQ ?_
     refine H.Ab (x := row yb _ _) (by repeat constructor) ?_
     refine H.Ab (x := row mb _ _) (by repeat constructor) ?_
     exact H.Ac rfl rfl (fun _ h => h) ⟨p3, c3, rfl, rfl, rfl⟩
    | 5, hk, hmk =>
     refine gY ?_
     refine H.Az rfl rfl rfl (zbb (l := l0) f _ (Src.slcS (by repeat constructor) (by rw [zaf]; exact (Nat.mul_one _).symm)) (by omega)) fun p3 c3 => ?_
     refine H.Ab (x := slc p2 _ c2 _ _ _) (by repeat constructor) ?_
     refine gQ ?_
     refine H.Ab (x := row yb _ _) (by repeat constructor) ?_
     refine H.Ab (x := row mb _ _) (by repeat constructor) ?_
     exact H.Ac rfl rfl (fun _ h => h) ⟨p3, c3, rfl, rfl, rfl⟩
    | 6, hk, hmk =>
     refine gc ?_
     refine H.Ay (by kernel_rfl) (by decide +kernel) (by repeat (first | exact zab | refine zaa ?_ | refine zac ?_ | refine zad ?_)) (S := [_]) rfl ?_
     refine HB.Af [(0, false), (1, false), (2, false), (4, false), (5, false)] 3 (by kernel_rfl) ?_
     refine gE ?_
     refine HQ.Cf (lo := none) (hi := none) (mx := none) (lv := 0) (hv := 32) (mv := 32) rfl rfl rfl rfl rfl (fun h => by cases h) (by decide) (by decide) (by decide) rfl ?_
     refine HQ.Ae rfl ?_
     refine HB.ev1 (i := 3) (by kernel_rfl) rfl ?_
     refine H.Az rfl rfl rfl (zbb (l := l0) f _ (Src.slcS (by repeat constructor) (by rw [zaf]; exact (Nat.mul_one _).symm)) (by omega)) fun p3 c3 => ?_
     refine gA ?_
     refine H.Ab (x := slc p2 _ c2 _ _ _) (by repeat constructor) ?_
     refine H.Aa (x := row yb _ _) (by repeat constructor) ?_
     refine H.on0 rfl ?_
     have e4 : (l0 ++ be 8 m.body.k).length = 98 := by rw [List.length_append, be_len, hal2]
     generalize hl1 : l0 ++ be 8 m.body.k = l1 at e4
     refine HB.ev1 (i := 6) (by kernel_rfl) rfl ?_
     refine H.Bf (m := 32) (xs := bytesV l1) rfl rfl rfl rfl rfl (fun p' c' => (by repeat constructor)) (Src.slice (row_dig (by repeat constructor)) rfl) (zai _) rfl (by omega) (by omega) fun p4 c4 => ?_
     refine gA ?_
     refine H.on0 rfl ?_
     refine HB.Af [(7, false)] 0 (by kernel_rfl) ?_
     refine gB ?_
     refine HQ.Ae rfl ?_
     refine HB.Al (by kernel_rfl) ?_
     refine gX ?_
     refine H.Ab (x := row yb _ _) (by repeat constructor) ?_
     refine H.Ab (x := row mb _ _) (by repeat constructor) ?_
     have e9 : l0 ++ m.body.putK 6 = l1 ++ b32L m.body.dig := by rw [← hl1]; simp only [Bod.putK, List.append_assoc]
     exact H.Ac rfl rfl (fun _ h => h) ⟨p4, c4, by rw [e9, List.length_append]; rfl, rfl, by rw [e9, List.length_append, zag]; rfl⟩
    | 1, hk, hmk =>
     have ha : m.body.req.asked := of_decide_eq_true hmk
     have hrl : m.body.req.bytes.length ≤ 1000 := by
      obtain ⟨_, _, _, _, ⟨k1, k2⟩, k3, k4⟩ := ha
      rw [Req.bytes_len]; omega
     refine gY ?_
     refine H.Az rfl rfl rfl (zbb (l := l0) f _ (Src.slcS (by repeat constructor) (by rw [zaf]; exact (Nat.mul_one _).symm)) (by omega)) fun p3 c3 => ?_
     refine H.Ab (x := slc p2 _ c2 _ _ _) (by repeat constructor) ?_
     have e4 : (l0 ++ be 8 m.body.view).length = 98 := by rw [List.length_append, be_len, hal2]
     generalize hl1 : l0 ++ be 8 m.body.view = l1 at e4
     refine gQ ?_
     refine H.Aa (x := row yb _ _) (by repeat constructor) ?_
     refine H.Ay (by kernel_rfl) (by decide +kernel) (by repeat (first | exact zab | refine zaa ?_ | refine zac ?_ | refine zad ?_)) (S := [_]) rfl ?_
     refine HB.Af [(0, false), (1, false), (2, false), (4, false), (5, false), (6, false)] 3 (by kernel_rfl) ?_
     refine gE ?_
     refine HQ.Ag (ls := m.body.req.vals) rfl rfl rfl (zaz (by repeat constructor)) rfl rfl ?_
     refine gC ?_
     refine HQ.Cf (lo := none) (hi := none) (mx := none) (lv := 0) (hv := 32) (mv := 32) rfl rfl rfl rfl rfl (fun h => by cases h) (by decide) (by decide) (by decide) rfl ?_
     refine HQ.Ae rfl ?_
     refine HB.ev1 (i := 3) (by kernel_rfl) rfl ?_
     refine H.Aa (x := slc p3 _ c3 _ _ _) (by repeat constructor) ?_
     refine H.Az rfl rfl rfl (rrequest_fn (l := l1) f _ m.body.req ha (by omega)) fun p4 c4 => ?_
     have e5 : (l1 ++ m.body.req.bytes).length = l1.length + m.body.req.bytes.length := List.length_append
     generalize hl2 : l1 ++ m.body.req.bytes = l2 at e5
     refine gA ?_
     refine H.Aa (x := row yb _ _) (by repeat constructor) ?_
     refine H.on0 rfl ?_
     refine HB.ev1 (i := 7) (by kernel_rfl) rfl ?_
     refine H.Bf (m := 32) (xs := bytesV l2) rfl rfl rfl rfl rfl (fun p' c' => (by repeat constructor)) (Src.slice (row_rtag (by repeat constructor)) rfl) (zai _) rfl (by omega) (by omega) fun p5 c5 => ?_
     refine gA ?_
     refine H.on0 rfl ?_
     refine HB.Af [(8, false)] 0 (by kernel_rfl) ?_
     refine gB ?_
     refine HQ.Ae rfl ?_
     refine HB.Al (by kernel_rfl) ?_
     refine gX ?_
     refine H.Ab (x := row yb _ _) (by repeat constructor) ?_
     refine H.Ab (x := row mb _ _) (by repeat constructor) ?_
     have e9 : l0 ++ m.body.putK 1 = l2 ++ b32L m.body.req.tag := by rw [← hl2, ← hl1]; simp only [Bod.putK, List.append_assoc]
     exact H.Ac rfl rfl (fun _ h => h) ⟨p5, c5, by rw [e9, List.length_append]; rfl, rfl, by rw [e9, List.length_append, zag]; rfl⟩
    | 4, hk, hmk =>
     refine gY ?_
     refine H.Az rfl rfl rfl (zbb (l := l0) f _ (Src.slcS (by repeat constructor) (by rw [zaf]; exact (Nat.mul_one _).symm)) (by omega)) fun p3 c3 => ?_
     refine H.Ab (x := slc p2 _ c2 _ _ _) (by repeat constructor) ?_
     have e4 : (l0 ++ be 8 m.body.view).length = 98 := by rw [List.length_append, be_len, hal2]
     generalize hl1 : l0 ++ be 8 m.body.view = l1 at e4
     refine gc ?_
     have hlv : Value.int .u8 ((m.body.q.length : Nat) : Int) = .int .u8 ((b8 m.body.q.length).toNat : Int) := by rw [b8_small (by omega)]
     refine H.know (d := 62) rfl hlv ?_
     refine H.Be (out := bytesV [b8 m.body.q.length]) rfl rfl rfl rfl (by decide) (by decide) rfl rfl fun tb => ?_
     refine H.Bf (m := 1) (xs := bytesV l1) rfl rfl rfl rfl rfl (fun p' c' => (by repeat constructor)) (Src.slice (Rd.ofRow (.here _ _ _)) rfl) (zai _) rfl (by omega) (by omega) fun p4 c4 => ?_
     refine gX ?_
     refine H.Ab (x := row tb _ _) (by repeat constructor) ?_
     have e5 : (l1 ++ [b8 m.body.q.length]).length = l1.length + 1 := by rw [List.length_append]; rfl
     have e6 : bytesV (l1 ++ [b8 m.body.q.length]) = bytesV l1 ++ bytesV [b8 m.body.q.length] := zag _ _
     generalize hl2 : l1 ++ [b8 m.body.q.length] = l2 at e5 e6
     refine H.Aa (x := row mb _ _) (by repeat constructor) ?_
     refine H.Aa (x := row yb _ _) (by repeat constructor) ?_
     refine H.Aw (ι := Nat × Option Addr × Nat) (fun i => [(6, .int .i64 (i.1 : Int)), (3, .slice i.2.1 (l2 ++ (m.body.q.take i.1).flatMap pairB).length i.2.2), (5, .pointer (some ⟨yb, 0, none⟩))]) (fun _ => f)
      (fun i => row yb 52 (m.body.vals q qc) :: row mb 54 (m.vals q qc) :: slc i.2.1 (l2 ++ (m.body.q.take i.1).flatMap pairB).length i.2.2 5 1 (bytesV (l2 ++ (m.body.q.take i.1).flatMap pairB)) :: F)
      (fun i => i.1 ≤ m.body.q.length ∧ (l2 ++ (m.body.q.take i.1).flatMap pairB).length = 99 + 9 * i.1) (fun i => m.body.q.length - i.1) (0, p4, c4) ⟨Nat.zero_le _, by show (l2 ++ []).length = 99; rw [List.append_nil]; omega⟩ ⟨rfl, ?_, rfl, trivial⟩ rfl ?_ fun i hi => ?_
     ·show some (Value.slice p4 (l1.length + 1) c4) = some (Value.slice p4 (l2 ++ []).length c4)
      rw [List.append_nil, e5]
     ·show _ = _ :: _ :: slc p4 (l2 ++ []).length c4 _ 1 (bytesV (l2 ++ [])) :: F
      rw [List.append_nil, e5, e6]
      rfl
     ·obtain ⟨i, p', c'⟩ := i
      obtain ⟨hi, hlen⟩ : i ≤ m.body.q.length ∧ (l2 ++ (m.body.q.take i).flatMap pairB).length = 99 + 9 * i := hi
      show H _ _ _ [(6, .int .i64 (i : Int)), (3, .slice p' (l2 ++ (m.body.q.take i).flatMap pairB).length c'), _] _ (_ :: _ :: slc p' (l2 ++ (m.body.q.take i).flatMap pairB).length c' _ 1 (bytesV (l2 ++ (m.body.q.take i).flatMap pairB)) :: F) _
      generalize hac : l2 ++ (m.body.q.take i).flatMap pairB = ac at hlen
      by_cases hlt : i < m.body.q.length
      ·obtain ⟨pr, hx⟩ : ∃ pr, m.body.q[i]? = some pr := ⟨m.body.q[i], List.getElem?_eq_getElem hlt⟩
       have e7 : l2 ++ (m.body.q.take (i + 1)).flatMap pairB = ac ++ [b8 pr.1] ++ be 8 pr.2 := by
        rw [List.take_add_one, hx, ← hac]; simp [pairB]
       obtain ⟨b, off, cs, T, fr, rfl, hfb, hcs⟩ := hq i pr hx
       have rd : ∀ A, Rd f A b (off + i * 2) (pairV pr) := fun A => Rd.imm hfb hcs
       clear hcs hfb
       refine gQ ?_
       refine H.Ay (by kernel_rfl) (by decide +kernel) (by repeat (first | exact zab | refine zaa ?_ | refine zac ?_ | refine zad ?_)) (S := [_]) rfl ?_
       refine HB.Af [(0, false), (1, false), (2, false), (3, false), (4, false), (5, false), (6, false), (7, false), (10, false), (11, false), (12, false), (13, false), (14, false), (15, false)] 4 (by kernel_rfl) ?_
       refine gE ?_
       refine HQ.Ap rfl rfl rfl rfl hlt rfl ?_
       refine gC ?_
       refine HQ.Ad rfl rfl rfl (.of (rd _) (i := 0) rfl) rfl ?_
       refine gH ?_
       rw [u8_b8]
       refine HQ.Ap rfl rfl rfl rfl hlt rfl ?_
       refine gC ?_
       refine HQ.Ad rfl rfl rfl (.of (rd _) (i := 1) rfl) rfl ?_
       refine HQ.Ae rfl ?_
       refine HB.ev1 (i := 8) (by kernel_rfl) rfl ?_
       refine H.Be (out := bytesV [b8 pr.1]) rfl rfl rfl rfl (by decide) (by decide) rfl rfl fun tb => ?_
       refine gA ?_
       refine H.Aa (x := row yb _ _) (by repeat constructor) ?_
       refine H.on0 rfl ?_
       refine HB.ev1 (i := 9) (by kernel_rfl) rfl ?_
       refine H.Bf (m := 1) (xs := bytesV ac) rfl rfl rfl rfl rfl (fun p' c' => (by repeat constructor)) (Src.slice (Rd.ofRow (.there _ (.here _ _ _))) rfl) (zai _) rfl (by omega) (by omega) fun p5 c5 => ?_
       refine gA ?_
       refine H.Ab (x := row tb _ _) (by repeat constructor) ?_
       refine H.on0 rfl ?_
       refine HB.ev1 (i := 16) (by kernel_rfl) rfl ?_
       have f0 : (ac ++ [b8 pr.1]).length = ac.length + 1 := by rw [List.length_append]; rfl
       have f1 : bytesV (ac ++ [b8 pr.1]) = bytesV ac ++ bytesV [b8 pr.1] := zag _ _
       generalize ac ++ [b8 pr.1] = l4 at f0 f1 e7
       show H _ _ _ _ _ (row _ _ _ :: row _ _ _ :: slc p5 (ac.length + 1) c5 _ _ (bytesV ac ++ bytesV [b8 pr.1]) :: F) _
       rw [← f0, ← f1]
       refine H.Az rfl rfl rfl (zbb (l := l4) f _ (Src.slcS (by repeat constructor) (by rw [zaf]; exact (Nat.mul_one _).symm)) (by omega)) fun p6 c6 => ?_
       refine gA ?_
       refine H.Ab (x := slc p5 _ c5 _ _ _) (by repeat constructor) ?_
       refine H.Aa (x := row mb _ _) (by repeat constructor) ?_
       refine H.Aa (x := row yb _ _) (by repeat constructor) ?_
       refine H.on0 rfl ?_
       refine HB.Af [(17, false)] 0 (by kernel_rfl) ?_
       refine gB ?_
       refine HQ.Ae rfl ?_
       refine HB.Al (by kernel_rfl) ?_
       refine ge ?_
       refine H.Ao (i + 1, p6, c6) ⟨by show i + 1 ≤ m.body.q.length; omega, ?_⟩ (by show m.body.q.length - (i + 1) < m.body.q.length - i; omega) ⟨rfl, ?_, rfl, trivial⟩ rfl ?_
       ·show (l2 ++ (m.body.q.take (i + 1)).flatMap pairB).length = 99 + 9 * (i + 1)
        rw [e7, List.length_append, be_len]; omega
       ·show some _ = some (Value.slice p6 (l2 ++ (m.body.q.take (i + 1)).flatMap pairB).length c6)
        rw [e7]
       ·show _ = _ :: _ :: slc p6 (l2 ++ (m.body.q.take (i + 1)).flatMap pairB).length c6 _ 1 (bytesV (l2 ++ (m.body.q.take (i + 1)).flatMap pairB)) :: F
        rw [e7]
        rfl
      ·have hiq : i = m.body.q.length := by omega
       rw [hiq, List.take_length] at hac
       refine gQ ?_
       refine H.Ab (x := row yb _ _) (by repeat constructor) ?_
       refine H.Ab (x := row mb _ _) (by repeat constructor) ?_
       have e9 : l0 ++ m.body.putK 4 = ac := by rw [← hac, ← hl2, ← hl1]; simp only [Bod.putK, List.append_assoc]
       exact H.Ac rfl rfl (fun _ h => h) ⟨p', c', by rw [e9], rfl, by rw [e9]⟩
 ·rw [if_neg hm]
  rw [Bool.eq_false_iff.2 hm] at hmay
  refine Fn.enter Tryz.func69 rfl Tryz.ntmps69 rfl (L := [(0, _)]) ⟨rfl, trivial⟩ fun base => ?_
  refine gA ?_
  refine H.box (ls := m.vals q qc) rfl rfl rfl rfl fun mb => ?_
  refine gO ?_
  refine H.Ag (ls := m.vals q qc) rfl rfl rfl (Rd.ofRow (by repeat constructor)) rfl rfl ?_
  refine H.Ah rfl rfl rfl (hmay _) ?_
  refine gG ?_
  refine H.Ab (.here _ _) ?_
  refine H.slc0 5 1 ?_
  exact H.Ac rfl rfl (fun _ h => h) ⟨none, 0, rfl, rfl, rfl⟩
end
theorem b32_get (t : Nat → UInt8) {i : Nat} (h : i < 32) : (b32 t)[i]? = some (.int .u8 ((t i).toNat : Nat)) := by
 match i, h with
 | 0, _ => rfl
 | 1, _ => rfl
 | 2, _ => rfl
 | 3, _ => rfl
 | 4, _ => rfl
 | 5, _ => rfl
 | 6, _ => rfl
 | 7, _ => rfl
 | 8, _ => rfl
 | 9, _ => rfl
 | 10, _ => rfl
 | 11, _ => rfl
 | 12, _ => rfl
 | 13, _ => rfl
 | 14, _ => rfl
 | 15, _ => rfl
 | 16, _ => rfl
 | 17, _ => rfl
 | 18, _ => rfl
 | 19, _ => rfl
 | 20, _ => rfl
 | 21, _ => rfl
 | 22, _ => rfl
 | 23, _ => rfl
 | 24, _ => rfl
 | 25, _ => rfl
 | 26, _ => rfl
 | 27, _ => rfl
 | 28, _ => rfl
 | 29, _ => rfl
 | 30, _ => rfl
 | 31, _ => rfl
 | n + 32, h => exact absurd h (by omega)
theorem tmod64 (n m : Nat) : ((n : Int)).tmod (m : Int) = ((n % m : Nat) : Int) := rfl
theorem tdiv64 (n m : Nat) : ((n : Int)).tdiv (m : Int) = ((n / m : Nat) : Int) := rfl
namespace Sha
theorem padded_len (b : List UInt8) : (padded b).length = b.length + 1 + padZ b.length + 8 := by
 unfold padded
 simp only [List.length_append, List.length_cons, List.length_nil, List.length_replicate, be_len]
theorem padded_mod (b : List UInt8) : (padded b).length % 64 = 0 := by
 rw [padded_len]; unfold padZ; omega
theorem pad_not {n i : Nat} (h : i < padZ n) : (n + 1 + i) % 64 ≠ 56 := by
 unfold padZ at h; omega
theorem pad_is (n : Nat) : (n + 1 + padZ n) % 64 = 56 := by
 unfold padZ; omega
theorem chunk_get (P : List UInt8) {j i : Nat} (hi : i < 64) : ((P.drop (64 * j)).take 64).getD i 0 = P.getD (64 * j + i) 0 := by
 rw [List.getD_eq_getElem?_getD, List.getElem?_take, if_pos hi, List.getElem?_drop, ← List.getD_eq_getElem?_getD]
end Sha
section
variable (f : Frag) (F : List HP)
def zb (n : Nat) : List Value := List.replicate n (.int .u8 0)
set_option maxHeartbeats 800000 in
theorem rsum_fn {p : Option Addr} {c : Nat} {b : List UInt8} (hs : Src Tryz.prog f F (.slice p b.length c) 1 b.length (bytesV b)) (hl : b.length ≤ 1000000000) :
  Fn Tryz.prog 16 [.slice p b.length c] f F (Ret (.agg (b32 (Sha.sum b)).toArray) f F) := by
 refine Fn.enter Tryz.func16 rfl Tryz.ntmps16 rfl (L := [(0, _)]) ⟨rfl, trivial⟩ fun base => ?_
 refine gA ?_
 refine H.Am (ls := zb 32) rfl rfl rfl fun ob => ?_
 refine gA ?_
 refine H.Be rfl rfl rfl rfl (by decide) (by decide) rfl rfl fun eb => ?_
 refine H.asSlc (k := 0) (sz := 1) rfl (by decide) ?_
 refine gO ?_
 refine H.Bf (xs := []) rfl rfl rfl rfl rfl (fun p' c' => .here _ _ _) hs.cons.cons (zai b) rfl (by omega) (by omega) fun p1 c1 => ?_
 rw [Nat.zero_add, List.nil_append]
 refine H.Be (out := bytesV [0x80]) rfl rfl rfl rfl (by decide) (by decide) rfl rfl fun tb => ?_
 refine H.Bf (m := 1) (xs := bytesV b) rfl rfl rfl rfl rfl (fun p' c' => (by repeat constructor)) (Src.slice (Rd.ofRow (.here _ _ _)) rfl) (zai _) rfl (by omega) (by omega) fun p2 c2 => ?_
 refine H.Ab (x := row tb _ _) (by repeat constructor) ?_
 refine gX ?_
 have e1 : (b ++ [0x80]).length = b.length + 1 := by rw [List.length_append]; rfl
 have e2 : bytesV (b ++ [0x80]) = bytesV b ++ bytesV [0x80] := zag _ _
 refine H.Aw (ι := Nat × Option Addr × Nat) (fun i => [(3, .slice i.2.1 (b ++ [0x80] ++ List.replicate i.1 0).length i.2.2), (0, .slice p b.length c), (2, .pointer (some ⟨ob, 0, none⟩))]) (fun _ => f)
  (fun i => slc i.2.1 (b ++ [0x80] ++ List.replicate i.1 0).length i.2.2 5 1 (bytesV (b ++ [0x80] ++ List.replicate i.1 0)) :: row ob 47 (zb 32) :: F) (fun i => i.1 ≤ Sha.padZ b.length) (fun i => Sha.padZ b.length - i.1) (0, p2, c2) (Nat.zero_le _) ⟨?_, rfl, rfl, trivial⟩ rfl ?_ fun i hi => ?_
 ·show some (Value.slice p2 (b.length + 1) c2) = some (Value.slice p2 (b ++ [0x80] ++ []).length c2)
  rw [List.append_nil, e1]
 ·show _ = slc p2 (b ++ [0x80] ++ []).length c2 _ 1 (bytesV (b ++ [0x80] ++ [])) :: _
  rw [List.append_nil, e1, e2]
  rfl
 obtain ⟨i, p', c'⟩ := i
 have hi : i ≤ Sha.padZ b.length := hi
 have hpz : Sha.padZ b.length < 64 := Nat.mod_lt _ (by decide)
 show H _ _ _ [(3, .slice p' (b ++ [0x80] ++ List.replicate i 0).length c'), _, _] _ (slc p' (b ++ [0x80] ++ List.replicate i 0).length c' _ 1 (bytesV (b ++ [0x80] ++ List.replicate i 0)) :: _) _
 have hal : (b ++ [0x80] ++ List.replicate i 0).length = b.length + 1 + i := by rw [List.length_append, e1, List.length_replicate]
 by_cases hlt : i < Sha.padZ b.length
 ·have hnot := Sha.pad_not hlt
  have e3 : b ++ [0x80] ++ List.replicate (i + 1) 0 = (b ++ [0x80] ++ List.replicate i 0) ++ [0] := by rw [List.replicate_succ', ← List.append_assoc]
  generalize b ++ [0x80] ++ List.replicate i 0 = acc at hal e3 ⊢
  refine gO ?_
  refine H.rem rfl rfl rfl (by decide) (tmod64 acc.length 64) rfl ?_
  refine gI ?_
  refine H.Be (out := bytesV [0]) rfl rfl rfl rfl (by decide) (by decide) rfl rfl fun tb => ?_
  refine H.Bf (m := 1) (xs := bytesV acc) rfl rfl rfl rfl rfl (fun p' c' => (by repeat constructor)) (Src.slice (Rd.ofRow (.here _ _ _)) rfl) (zai _) rfl (by omega) (by omega) fun p3 c3 => ?_
  refine H.Ab (x := row tb _ _) (by repeat constructor) ?_
  refine gX ?_
  refine H.Ao (i + 1, p3, c3) (by show i + 1 ≤ _; omega) (by show Sha.padZ b.length - (i + 1) < Sha.padZ b.length - i; omega) ⟨?_, rfl, rfl, trivial⟩ rfl ?_
  ·show some (Value.slice p3 (acc.length + 1) c3) = some (Value.slice p3 (b ++ [0x80] ++ List.replicate (i + 1) 0).length c3)
   rw [e3, List.length_append]; rfl
  ·show _ = slc p3 (b ++ [0x80] ++ List.replicate (i + 1) 0).length c3 _ 1 (bytesV (b ++ [0x80] ++ List.replicate (i + 1) 0)) :: _
   rw [e3, List.length_append, zag]; rfl
 ·have hip : i = Sha.padZ b.length := by omega
  subst hip
  have his := Sha.pad_is b.length
  have hpad : Sha.padded b = (b ++ [0x80] ++ List.replicate (Sha.padZ b.length) 0) ++ be 8 ((b.length * 8 : Nat) : Int) := rfl
  have hplen := Sha.padded_len b
  have hpmod := Sha.padded_mod b
  unfold Sha.sum
  generalize Sha.padded b = P at hpad hplen hpmod ⊢
  generalize b ++ [0x80] ++ List.replicate (Sha.padZ b.length) 0 = acc at hal hpad ⊢
  refine gO ?_
  refine H.rem rfl rfl rfl (by decide) (tmod64 acc.length 64) rfl ?_
  refine gN ?_
  generalize hN : ((b.length * 8 : Nat) : Int) = N at hpad
  refine H.know (d := 4) (u := .int .u64 N) rfl (congrArg (Value.int .u64) (by omega)) ?_
  refine H.Aw (ι := Nat × Option Addr × Nat) (fun i => [(5, .int .i64 (7 - (i.1 : Int))), (3, .slice i.2.1 (acc ++ beTop 8 N i.1).length i.2.2), (4, .int .u64 N), (2, .pointer (some ⟨ob, 0, none⟩))]) (fun _ => f)
   (fun i => slc i.2.1 (acc ++ beTop 8 N i.1).length i.2.2 5 1 (bytesV (acc ++ beTop 8 N i.1)) :: row ob 47 (zb 32) :: F) (fun i => i.1 ≤ 8) (fun i => 8 - i.1) (0, p', c') (Nat.zero_le _) ⟨rfl, ?_, rfl, rfl, trivial⟩ rfl ?_ fun i hi => ?_
  ·show some (Value.slice p' acc.length c') = some (Value.slice p' (acc ++ []).length c')
   rw [List.append_nil]
  ·show _ = slc p' (acc ++ []).length c' _ 1 (bytesV (acc ++ [])) :: _
   rw [List.append_nil]
  obtain ⟨i, p', c'⟩ := i
  have hi : i ≤ 8 := hi
  show H _ _ _ [(5, .int .i64 (7 - (i : Int))), (3, .slice p' (acc ++ beTop 8 N i).length c'), _, _] _ (slc p' (acc ++ beTop 8 N i).length c' _ 1 (bytesV (acc ++ beTop 8 N i)) :: _) _
  have hcl : (acc ++ beTop 8 N i).length = acc.length + i := by rw [List.length_append, beTop_len]
  by_cases hlt : i < 8
  ·have hexp : min (8 * (7 - (i : Int))).toNat IntKind.u64.bits = 8 * (8 - 1 - i) := by simp only [IntKind.bits]; omega
   have hsh : N.fdiv (2 ^ (min (8 * (7 - (i : Int))).toNat IntKind.u64.bits)) = N.fdiv (2 ^ (8 * (8 - 1 - i))) := by rw [hexp]
   have e3 : acc ++ beTop 8 N (i + 1) = (acc ++ beTop 8 N i) ++ [byteAt N (8 - 1 - i)] := by simp only [beTop, List.append_assoc]
   generalize acc ++ beTop 8 N i = ac at hcl e3 ⊢
   refine gM ?_
   refine H.shift rfl rfl rfl rfl (by omega) hsh rfl ?_
   refine H.Bh rfl rfl (byteAt_wrap N (8 - 1 - i)) rfl ?_
   refine H.Be (out := bytesV [byteAt N (8 - 1 - i)]) rfl rfl rfl rfl (by decide) (by decide) rfl rfl fun tb => ?_
   refine H.Bf (m := 1) (xs := bytesV ac) rfl rfl rfl rfl rfl (fun p' c' => (by repeat constructor)) (Src.slice (Rd.ofRow (.here _ _ _)) rfl) (zai _) rfl (by omega) (by omega) fun p3 c3 => ?_
   refine H.Ab (x := row tb _ _) (by repeat constructor) ?_
   refine ge ?_
   refine H.know (d := 5) (u := .int .i64 (7 - ((i + 1 : Nat) : Int))) rfl (congrArg (Value.int .i64) (by omega)) ?_
   refine H.Ao (i + 1, p3, c3) (by show i + 1 ≤ 8; omega) (by show 8 - (i + 1) < 8 - i; omega) ⟨rfl, ?_, rfl, rfl, trivial⟩ rfl ?_
   ·show some (Value.slice p3 (ac.length + 1) c3) = some (Value.slice p3 (acc ++ beTop 8 N (i + 1)).length c3)
    rw [e3, List.length_append]; rfl
   ·show _ = slc p3 (acc ++ beTop 8 N (i + 1)).length c3 _ 1 (bytesV (acc ++ beTop 8 N (i + 1))) :: _
    rw [e3, List.length_append, zag]; rfl
  ·have hi8 : i = 8 := by omega
   subst hi8
   have hP : acc ++ beTop 8 N 8 = P := hpad.symm
   rw [hP]
   refine gM ?_
   refine H.Ah rfl rfl rfl (start_fn f _) ?_
   refine H.Am (ls := List.replicate 8 (.int .u32 0)) rfl rfl rfl fun hb => ?_
   refine H.Ak (ls := List.replicate 8 (.int .u32 0)) (vs := Sha.start.vals) (ls' := Sha.start.vals) rfl rfl rfl (zae rfl) rfl rfl (Nat.le_refl 8) (by repeat constructor) ?_
   refine gX ?_
   have hPl : P.length ≤ 2000000000 := by omega
   obtain ⟨nb, hnb⟩ : ∃ nb, P.length = 64 * nb := ⟨P.length / 64, by omega⟩
   have hdiv : P.length / 64 = nb := by omega
   rw [hdiv]
   refine H.Bp (.there _ (.here _ _ _)) (by omega) fun pb hp => ?_
   subst hp
   refine H.Aw (ι := Nat) (fun j => [(7, .int .i64 ((64 * j : Nat) : Int)), (3, .slice (some ⟨pb, 0, none⟩) P.length c'), (6, .pointer (some ⟨hb, 0, none⟩)), (2, .pointer (some ⟨ob, 0, none⟩))]) (fun _ => f)
    (fun j => row hb 108 (Sha.blocks Sha.start P j).vals :: slc (some ⟨pb, 0, none⟩) P.length c' 5 1 (bytesV P) :: row ob 47 (zb 32) :: F) (fun j => j ≤ nb) (fun j => nb - j) 0 (Nat.zero_le _) ⟨rfl, rfl, rfl, rfl, trivial⟩ rfl rfl fun j hj => ?_
   have hj : j ≤ nb := hj
   by_cases hlt : j < nb
   ·have hbk : Sha.blocks Sha.start P (j + 1) = Sha.block (Sha.blocks Sha.start P j) ((P.drop (64 * j)).take 64) := rfl
    have hcg : ∀ i, i < 64 → ((P.drop (64 * j)).take 64).getD i 0 = P.getD (64 * j + i) 0 := fun i hi => Sha.chunk_get P hi
    have hcl : ((P.drop (64 * j)).take 64).length = 64 := by rw [List.length_take, List.length_drop]; omega
    generalize (P.drop (64 * j)).take 64 = ch at hbk hcg hcl
    show H _ _ _ _ _ (row hb _ (Sha.blocks Sha.start P j).vals :: _) _
    generalize Sha.blocks Sha.start P j = sj at hbk ⊢
    refine gI ?_
    refine H.Am (ls := (bytesV ch).take 0 ++ (zb 64).drop 0) rfl rfl rfl fun ib => ?_
    refine gX ?_
    refine H.Aw (ι := Nat) (fun i => [(9, .int .i64 (i : Int)), (8, .pointer (some ⟨ib, 0, none⟩)), (7, .int .i64 ((64 * j : Nat) : Int)), (3, .slice (some ⟨pb, 0, none⟩) P.length c'), (6, .pointer (some ⟨hb, 0, none⟩)), (2, .pointer (some ⟨ob, 0, none⟩))]) (fun _ => f)
     (fun i => row ib 110 ((bytesV ch).take i ++ (zb 64).drop i) :: row hb 108 sj.vals :: slc (some ⟨pb, 0, none⟩) P.length c' 5 1 (bytesV P) :: row ob 47 (zb 32) :: F) (fun i => i ≤ 64) (fun i => 64 - i) 0 (Nat.zero_le _) ⟨rfl, rfl, rfl, rfl, rfl, rfl, trivial⟩ rfl rfl fun i hi => ?_
    have hi : i ≤ 64 := hi
    by_cases hli : i < 64
    ·have hset : SetV ((bytesV ch).take i ++ (zb 64).drop i) i (.int .u8 ((P.getD (64 * j + i) 0).toNat : Nat)) ((bytesV ch).take (i + 1) ++ (zb 64).drop (i + 1)) := by
      rw [← hcg i hli]
      exact fill_set (bytesV_get (by omega)) (by rw [zaf, hcl]; rfl)
     refine gM ?_
     refine H.index1 (i := 64 * j + i) rfl rfl rfl (by omega) (by omega) rfl ?_
     refine H.Ad rfl rfl rfl (.of (Rd.ofSlc (.there _ (.there _ (.here _ _ _))) (by omega)) (bytesV_get (by omega))) rfl ?_
     refine H.Ba (i := i) rfl rfl rfl rfl hli rfl ?_
     refine H.Bj (ls' := (bytesV ch).take (i + 1) ++ (zb 64).drop (i + 1)) rfl rfl rfl rfl (by repeat constructor) (by rw [Nat.mul_one, Nat.zero_add]; exact hset) ?_
     refine ge ?_
     exact H.Ao (i + 1) (by show i + 1 ≤ 64; omega) (by show 64 - (i + 1) < 64 - i; omega) ⟨rfl, rfl, rfl, rfl, rfl, rfl, trivial⟩ rfl rfl
    ·have hi64 : i = 64 := by omega
     subst hi64
     have hfull : (bytesV ch).take 64 ++ (zb 64).drop 64 = bytesV ch := by
      rw [List.take_of_length_le (by rw [zaf, hcl]; exact Nat.le_refl _)]
      show bytesV ch ++ [] = _
      rw [List.append_nil]
     rw [hfull]
     refine gM ?_
     refine H.Ag (ls := sj.vals) rfl rfl rfl (Rd.ofRow (by repeat constructor)) rfl rfl ?_
     refine H.Ag (ls := bytesV ch) rfl rfl rfl (Rd.ofRow (by repeat constructor)) (by rw [zaf, hcl]) rfl ?_
     refine H.Ah rfl rfl rfl (block_fn f _ hcl) ?_
     refine H.Ak (ls := sj.vals) (vs := (Sha.block sj ch).vals) (ls' := (Sha.block sj ch).vals) rfl rfl rfl (zae rfl) rfl rfl (Nat.le_refl 8) (by repeat constructor) ?_
     refine ge ?_
     refine H.Ab (x := row ib _ _) (by repeat constructor) ?_
     refine H.know (d := 7) (u := .int .i64 ((64 * (j + 1) : Nat) : Int)) rfl (congrArg (Value.int .i64) (by omega)) ?_
     exact H.Ao (j + 1) (by show j + 1 ≤ nb; omega) (by show nb - (j + 1) < nb - j; omega) ⟨rfl, rfl, rfl, rfl, trivial⟩ rfl (by rw [hbk])
   ·have hjn : j = nb := by omega
    subst hjn
    generalize Sha.blocks Sha.start P j = sj
    refine gN ?_
    refine H.Am (ls := (b32 sj.out).take 0 ++ (zb 32).drop 0) rfl rfl rfl fun rb => ?_
    refine gX ?_
    refine H.Aw (ι := Nat) (fun i => [(11, .int .i64 (i : Int)), (10, .pointer (some ⟨rb, 0, none⟩)), (6, .pointer (some ⟨hb, 0, none⟩)), (2, .pointer (some ⟨ob, 0, none⟩))]) (fun _ => f)
     (fun i => row rb 47 ((b32 sj.out).take i ++ (zb 32).drop i) :: row hb 108 sj.vals :: slc (some ⟨pb, 0, none⟩) P.length c' 5 1 (bytesV P) :: row ob 47 (zb 32) :: F) (fun i => i ≤ 32) (fun i => 32 - i) 0 (Nat.zero_le _) ⟨rfl, rfl, rfl, rfl, trivial⟩ rfl rfl fun i hi => ?_
    have hi : i ≤ 32 := hi
    by_cases hli : i < 32
    ·have hset : SetV ((b32 sj.out).take i ++ (zb 32).drop i) i (.int .u8 ((sj.out i).toNat : Nat)) ((b32 sj.out).take (i + 1) ++ (zb 32).drop (i + 1)) := fill_set (b32_get _ hli) rfl
     have hgv := Sha.S8.get_vals sj (i := i / 4) (by omega)
     unfold Sha.S8.out at hset
     refine gI ?_
     refine H.quo rfl rfl rfl (by decide) (z := ((i / 4 : Nat) : Int)) (by rw [show (4 : Int) = ((4 : Nat) : Int) from rfl, tdiv64, wr_i64 (by omega)]) rfl ?_
     refine H.Ba (i := i / 4) rfl rfl rfl rfl (by omega) rfl ?_
     refine H.Ad rfl rfl rfl (.of (Rd.ofRow (by repeat constructor)) (by rw [Nat.mul_one]; exact hgv)) rfl ?_
     refine gO ?_
     refine H.rem rfl rfl rfl (by decide) (tmod64 i 4) rfl ?_
     refine ge ?_
     refine H.know (d := 76) (u := .int .u64 ((24 - 8 * (i % 4) : Nat) : Int)) rfl (congrArg (Value.int .u64) (by omega)) ?_
     refine H.shift rfl rfl rfl (u32_shr _ _ (by omega)) (by omega) rfl rfl ?_
     refine H.Bh rfl rfl (u8_ofU32 _) rfl ?_
     refine H.Ba (i := i) rfl rfl rfl rfl hli rfl ?_
     refine H.Bj (ls' := (b32 sj.out).take (i + 1) ++ (zb 32).drop (i + 1)) rfl rfl rfl rfl (by repeat constructor) (by rw [Nat.mul_one, Nat.zero_add]; exact hset) ?_
     refine ge ?_
     exact H.Ao (i + 1) (by show i + 1 ≤ 32; omega) (by show 32 - (i + 1) < 32 - i; omega) ⟨rfl, rfl, rfl, rfl, trivial⟩ rfl rfl
    ·have hi32 : i = 32 := by omega
     subst hi32
     refine gM ?_
     refine H.Ag (ls := b32 sj.out) rfl rfl rfl (Rd.ofRow (by repeat constructor)) rfl rfl ?_
     refine H.Ak (ls := zb 32) (vs := b32 sj.out) (ls' := b32 sj.out) rfl rfl rfl (zae rfl) rfl rfl (Nat.le_refl 32) (by repeat constructor) ?_
     refine gX ?_
     refine H.Ab (.here _ _) ?_
     refine H.Ab (.here _ _) ?_
     refine H.Ab (.here _ _) ?_
     exact H.Bd rfl rfl rfl (Rd.ofRow (by repeat constructor)) rfl (fun _ s => s.drop (.here _ _)) ⟨rfl, rfl, rfl⟩
end
end Go.Proofs.YtdcjlgigcbinjaaGreatDoor
