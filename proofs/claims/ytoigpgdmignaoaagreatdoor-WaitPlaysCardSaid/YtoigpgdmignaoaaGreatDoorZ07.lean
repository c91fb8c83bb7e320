/- Parts of the proof, one behind the other, each under its own heading. No conditions. -/
import Derived.Test.YtoigpgdmignaoaaGreatDoorZ06
set_option linter.unusedSectionVars false
set_option linter.unusedSimpArgs false
set_option linter.unusedVariables false
/- Layer 12: a new lore; which vectors are above others; how many are known. -/
namespace Go.Proofs.YtoigpgdmignaoaaGreatDoor
open Go
theorem H.addNil {P : Program} {base : World} {n : Nat} {L : Env} {f : Frag} {A : List HP} {K : Kont} (p : HP) (hp : p nil0) (k : H P base n L f (p :: A) K) : H P base n L f A K :=
 H.imp (A' := p :: A) (fun h hh => ⟨nil0, h, (Dj.nil h).symm, (nil_un h).symm, hp, hh⟩) k
def fewZ (z : Int) : Prop := 3 ≤ z ∧ z ≤ 11 ∧ z.tmod 2 = 1
instance (z : Int) : Decidable (fewZ z) := by unfold fewZ; infer_instance
def lp0 : LP := ⟨fun _ => none, fun _ => 0, none, 0⟩
section
variable (f : Frag) (F : List HP)
theorem lfew_fn (z : Int) : Fn Tryz.prog 55 [.int .i64 z] f F (Ret (.bool (decide (fewZ z))) f F) := by
 by_cases h1 : 3 ≤ z
 ·by_cases h2 : z ≤ 11
  ·skip
   refine Fn.enter Tryz.func55 rfl Tryz.ntmps55 rfl (L := [(0, _)]) ⟨rfl, trivial⟩ fun base => ?_
   repeat (first | (refine H.rem (z := z.tmod 2) rfl rfl rfl (by decide) rfl rfl ?_) | ((first | apply H.Ac | apply H.Ad); (iterate 3 exact rfl)) | (first | apply H.seq | apply H.Ab | apply H.nil | apply H.Aa) | ((apply H.cmp); (iterate 5 exact rfl)) | (apply H.Ax; (iterate 4 exact rfl)) | (apply H.ret) | (apply H.Bi; (iterate 3 exact rfl); (assumption)))
   refine H.Aj rfl rfl (fun _ h => h) ⟨?_, rfl, rfl⟩
   simp [fewZ, *]
  ·skip
   refine Fn.enter Tryz.func55 rfl Tryz.ntmps55 rfl (L := [(0, _)]) ⟨rfl, trivial⟩ fun base => ?_
   repeat (first | ((first | apply H.Ac | apply H.Ad); (iterate 3 exact rfl)) | (first | apply H.seq | apply H.Ab | apply H.nil | apply H.Aa) | ((apply H.cmp); (iterate 5 exact rfl)) | (apply H.Bd; (iterate 2 exact rfl)) | (apply H.Ax; (iterate 4 exact rfl)) | ((apply H.Ay); (iterate 4 exact rfl)) | (apply H.ret) | (apply H.Bi; (iterate 3 exact rfl); (assumption)) | (apply H.gno; (iterate 3 exact rfl); (assumption)))
   refine H.Aj rfl rfl (fun _ h => h) ⟨?_, rfl, rfl⟩
   simp [fewZ, *]
 ·skip
  refine Fn.enter Tryz.func55 rfl Tryz.ntmps55 rfl (L := [(0, _)]) ⟨rfl, trivial⟩ fun base => ?_
  repeat (first | ((first | apply H.Ac | apply H.Ad); (iterate 3 exact rfl)) | (first | apply H.seq | apply H.Ab | apply H.nil | apply H.Aa) | ((apply H.cmp); (iterate 5 exact rfl)) | (apply H.Bd; (iterate 2 exact rfl)) | ((apply H.Ay); (iterate 4 exact rfl)) | (apply H.ret) | (apply H.gno; (iterate 3 exact rfl); (assumption)))
  refine H.Aj rfl rfl (fun _ h => h) ⟨?_, rfl, rfl⟩
  simp [fewZ, *]
theorem lnew_fn {n : Nat} (h : fewZ (n : Int)) : Fn Tryz.prog 18 [.int .i64 (n : Int)] f F (RetE (fun lb : Nat => .tuple #[.pointer (some ⟨lb, 0, none⟩), .int .i64 0]) f (fun lb => loreH f lb n [] :: F)) := by
 have hf := fun G => lfew_fn f G (n : Int)
 rw [decide_eq_true h] at hf
 have hn : n ≤ 11 := by have := h.2.1; omega
 refine Fn.enter Tryz.func18 rfl Tryz.ntmps18 rfl (L := [(0, _)]) ⟨rfl, trivial⟩ fun base => ?_
 repeat (first | ((first | apply H.Ac | apply H.Ad); (iterate 3 exact rfl)) | (first | apply H.seq | apply H.Ab | apply H.nil | apply H.Aa))
 refine H.Am rfl rfl rfl (hf _) ?_
 refine H.not (b := true) (c := false) rfl rfl rfl rfl ?_
 repeat (first | (refine H.By (t := 120) (out := loreCells n [] lp0) rfl rfl rfl (by kernel_rfl) rfl ?_) | ((apply H.Ac); (iterate 3 exact rfl)) | (first | apply H.seq | apply H.Ab | apply H.nil | apply H.Aa) | (apply H.Av; exact rfl) | (apply H.Ak))
 refine H.box (ls := loreCells n [] lp0) rfl rfl rfl rfl fun lb => ?_
 repeat (first | ((apply H.Ad); (iterate 3 exact rfl)) | (first | apply H.nil | apply H.Aa) | (apply H.ret))
 refine H.addNil (ordH [] lp0) (slc_nil none _ 2) ?_
 refine H.addNil (fam (strH [] lp0) 11) (rngH_nil 11 fun j _ => slc_nil none _ 121) ?_
 refine H.Ae (.there _ (.there _ (.here _ _))) ?_
 refine H.imp (zax lp0 (fl := f) ⟨fun x hx => (by cases hx), Nat.zero_le _, LOK.nil n, hn⟩) ?_
 exact H.ret2 rfl rfl rfl (fun _ h => h) ⟨lb, rfl, rfl, rfl⟩
set_option maxHeartbeats 800000 in
theorem above_fn (a b : Nat → Int) : Fn Tryz.prog 59 [.agg (v11 a).toArray, .agg (v11 b).toArray] f F (Ret (.bool (aboveB a b)) f F) := by
 refine Fn.enter Tryz.func59 rfl Tryz.ntmps59 rfl (L := [(0, _), (1, _)]) ⟨rfl, rfl, trivial⟩ fun base => ?_
 repeat ((first | apply H.seq | apply H.Ab))
 refine H.box (ls := v11 a) rfl rfl rfl rfl fun ab => ?_
 refine H.box (ls := v11 b) rfl rfl rfl rfl fun bb => ?_
 repeat (first | ((apply H.Ad); (iterate 3 exact rfl)) | (first | apply H.seq | apply H.Ab | apply H.nil | apply H.Aa))
 refine H.Al (ls := v11 a) rfl rfl rfl (Rd.ofRow (.there _ (.here _ _ _))) rfl rfl ?_
 repeat (first | ((apply H.Ac); (iterate 3 exact rfl)) | (first | apply H.nil | apply H.Aa) | (apply H.Ao))
 refine H.Bo (ι := Nat) (fun i => [(8, .int .i64 (i : Int)), (7, .agg (v11 a).toArray), (3, .pointer (some ⟨bb, 0, none⟩))]) (fun _ => f) (fun _ => row bb 37 (v11 b) :: row ab 37 (v11 a) :: F) (fun i => i ≤ 11 ∧ ∀ j, j < i → a j ≤ b j) (fun i => 11 - i) 0 ⟨Nat.zero_le _, fun j hj => by omega⟩ ⟨rfl, rfl, rfl, trivial⟩ rfl rfl fun i hi => ?_
 obtain ⟨hi, hle⟩ : i ≤ 11 ∧ ∀ j, j < i → a j ≤ b j := hi
 by_cases hlt : i < 11
 ·repeat (first | ((apply H.Ac); (iterate 3 exact rfl)) | (first | apply H.seq | apply H.Ab | apply H.nil | apply H.Aa) | ((apply H.cmp); (iterate 5 exact rfl)) | (first | apply H.Ak | apply H.Ao) | (apply H.Au; exact rfl; (omega)))
  refine H.indexV (xs := v11 a) (i := i) rfl rfl rfl rfl hlt rfl (zam a hlt) rfl ?_
  repeat (first | ((first | apply H.Ac | apply H.Ad); (iterate 3 exact rfl)) | (first | apply H.seq | apply H.Ab | apply H.nil | apply H.Aa))
  refine H.Br (i := i) rfl rfl rfl rfl hlt rfl ?_
  refine H.Af rfl rfl rfl (.of (Rd.ofRow (.here _ _ _)) (by rw [Nat.mul_one]; exact zam b hlt)) rfl ?_
  by_cases hab : b i < a i
  ·repeat (first | ((apply H.Ad); (iterate 3 exact rfl)) | (first | apply H.seq | apply H.Ab | apply H.nil | apply H.Aa) | ((apply H.cmp); (iterate 5 exact rfl)) | (first | apply H.ret | apply H.Be | apply H.Bx | apply H.Cd) | (apply H.Au; exact rfl; (assumption)))
   refine H.Ah (.here _ _) ?_
   refine H.Ah (.here _ _) ?_
   refine H.Aj rfl rfl (fun _ h => h) ⟨?_, rfl, rfl⟩
   have : aboveB a b = true := by
    unfold aboveB
    rw [List.any_eq_true]
    exact ⟨i, List.mem_range.2 hlt, decide_eq_true hab⟩
   rw [this]
  ·repeat (first | ((apply H.Ac); (iterate 3 exact rfl)) | (first | apply H.Ab | apply H.nil | apply H.Aa) | ((apply H.cmp); (iterate 5 exact rfl)) | ((apply H.ar; (iterate 4 exact rfl)); (with_reducible apply zag; omega); exact rfl) | (first | apply H.Ak | apply H.Ba) | (apply H.Aw; exact rfl; (assumption)))
   exact H.Bc (i + 1) ⟨by show i + 1 ≤ 11; omega, fun j hj => by
    by_cases e : j = i
    ·rw [e]; omega
    ·exact hle j (by omega)⟩ (by show 11 - (i + 1) < 11 - i; omega) ⟨rfl, rfl, rfl, trivial⟩ rfl rfl
 ·repeat (first | ((apply H.Ad); (iterate 3 exact rfl)) | (first | apply H.seq | apply H.Ab | apply H.nil | apply H.Aa) | ((apply H.cmp); (iterate 5 exact rfl)) | (first | apply H.ret | apply H.Bl | apply H.Bj | apply H.Bk | apply H.Bm) | (apply H.Aw; exact rfl; (omega)))
  refine H.Ah (.here _ _) ?_
  refine H.Ah (.here _ _) ?_
  refine H.Aj rfl rfl (fun _ h => h) ⟨?_, rfl, rfl⟩
  rw [zaw.2 fun j hj => hle j (by omega)]
end
end Go.Proofs.YtoigpgdmignaoaaGreatDoor

namespace Go.Proofs.YtoigpgdmignaoaaGreatDoor
open Go Go.ChangeShapes Go.WideShapes Go.RowKit Go.Deep
theorem reads_byte {W : World} {cs : List Value} (h : Reads Tryz.prog W 5 cs) : ∃ x : UInt8, True ∧ cs = [.int .u8 (x.toNat : Nat)] := by
 obtain ⟨z, rfl, hz⟩ := h.int Tryz.underlying5
 exact ⟨UInt8.ofNat z.toNat, trivial, by rw [u8_back hz]⟩
theorem listAt_bat {f : Frag} {p : Option Addr} {l : List UInt8} (h : ListAt f p 1 (fun x : UInt8 => [Value.int .u8 (x.toNat : Nat)]) l) : BAt f p l := by
 cases l with
 | nil => exact .inl rfl
 | cons x0 r =>
  obtain ⟨b, off, cs, T, fr, h1, h2, _⟩ := h 0 x0 rfl
  refine .inr ⟨b, off, cs, T, fr, h1, h2, fun i hi => ?_⟩
  have hx : (x0 :: r)[i]? = some (x0 :: r)[i] := List.getElem?_eq_getElem hi
  obtain ⟨b', off', cs', T', fr', g1, g2, g3⟩ := h i _ hx
  rw [h1] at g1
  cases g1
  rw [h2] at g2
  cases g2
  have h3 := g3 0 (show 0 < 1 by decide)
  rw [Nat.mul_one, Nat.add_zero] at h3
  rw [h3]
  unfold bytesV
  rw [List.getElem?_map, hx]
  rfl
def kRow (n : Nat) (kv : Nat → Nat → Int) : List Value := (List.range (n * 11)).map fun j => .int .u64 (kv (j / 11) (j % 11))
theorem kRow_len (n : Nat) (kv : Nat → Nat → Int) : (kRow n kv).length = n * 11 := by unfold kRow; rw [List.length_map, List.length_range]
theorem kRow_at {n : Nat} {kv : Nat → Nat → Int} {j : Nat} (h : j < n * 11) : (kRow n kv)[j]? = some (.int .u64 (kv (j / 11) (j % 11))) := by
 unfold kRow
 rw [List.getElem?_map, List.getElem?_range h]; rfl
theorem kRow_get {n : Nat} {kv : Nat → Nat → Int} {o k : Nat} (ho : o < n) (hk : k < 11) : (kRow n kv)[o * 11 + k]? = some (.int .u64 (kv o k)) := by
 rw [kRow_at (by omega), show (o * 11 + k) / 11 = o by omega, show (o * 11 + k) % 11 = k by omega]
theorem kRow_set {n : Nat} {kv : Nat → Nat → Int} {o k : Nat} (z : Int) (ho : o < n) (hk : k < 11) : SetV (kRow n kv) (o * 11 + k) (.int .u64 z) (kRow n (updF kv o (updF (kv o) k z))) := by
 have e : kRow n (updF kv o (updF (kv o) k z)) = (kRow n kv).set (o * 11 + k) (.int .u64 z) := by
  apply List.ext_getElem?
  intro j
  rw [List.getElem?_set, kRow_len]
  by_cases hj : j < n * 11
  ·rw [kRow_at hj, kRow_at hj]
   by_cases e : o * 11 + k = j
   ·rw [if_pos e, if_pos (by omega), show j / 11 = o by omega, show j % 11 = k by omega, zaj, zaj]
   ·rw [if_neg e]
    by_cases e1 : j / 11 = o
    ·rw [e1, zaj, zan _ _ (by omega)]
    ·rw [zan _ _ e1]
  ·rw [if_neg (by omega), List.getElem?_eq_none (by rw [kRow_len]; omega), List.getElem?_eq_none (by rw [kRow_len]; omega)]
 rw [e]
 exact SetV.mk _ (by rw [kRow_len]; omega)
theorem kRow_congr {n : Nat} {kv kv' : Nat → Nat → Int} (h : ∀ r, r < n → ∀ i, i < 11 → kv r i = kv' r i) : kRow n kv = kRow n kv' := by
 apply List.ext_getElem?
 intro j
 by_cases hj : j < n * 11
 ·rw [kRow_at hj, kRow_at hj, h (j / 11) (by omega) (j % 11) (by omega)]
 ·rw [List.getElem?_eq_none (by rw [kRow_len]; omega), List.getElem?_eq_none (by rw [kRow_len]; omega)]
theorem kRow_zero (n : Nat) : zeros (v11 fun _ => 0) n = kRow n fun _ _ => 0 := by
 have hl : (v11 fun _ => 0).length = 11 := rfl
 apply List.ext_getElem?
 intro j
 by_cases hj : j < n * 11
 ·rw [kRow_at hj, zeros_get _ _ _ (by rw [hl]; exact hj), hl, zam _ (by omega)]
 ·rw [List.getElem?_eq_none (by rw [zeros_length, hl]; omega), List.getElem?_eq_none (by rw [kRow_len]; omega)]
theorem Rd.part {f : Frag} {A : List HP} {b off : Nat} {big l : List Value} (h : Rd f A b 0 big) (hl : ∀ i, i < l.length → big[off + i]? = l[i]?) (hle : off + l.length ≤ big.length) : Rd f A b off l := fun base w s => by
 obtain ⟨cs, t, fr, h1, h2⟩ := h base w s
 exact ⟨cs, t, fr, h1, fun i hi => by rw [← hl i hi, ← h2 (off + i) (by omega), Nat.zero_add]⟩
theorem Rd.kRow {f : Frag} {A : List HP} {b n o : Nat} {kv : Nat → Nat → Int} (h : Rd f A b 0 (kRow n kv)) (ho : o < n) : Rd f A b (o * 11) (v11 (kv o)) :=
 h.part (fun i hi => by
  have hi : i < 11 := hi
  rw [kRow_get ho hi, zam _ hi]) (by rw [kRow_len]; show o * 11 + 11 ≤ _; omega)
theorem v11_upd (d : Nat → Int) (v : Int) {k : Nat} (h : k < 11) : SetV (v11 d) k (.int .u64 v) (v11 (updF d k v)) := by
 have e : v11 (updF d k v) = (v11 d).set k (.int .u64 v) := by
  match k, h with
  | 0, _ => rfl
  | 1, _ => rfl
  | 2, _ => rfl
  | 3, _ => rfl
  | 4, _ => rfl
  | 5, _ => rfl
  | 6, _ => rfl
  | 7, _ => rfl
  | 8, _ => rfl
  | 9, _ => rfl
  | 10, _ => rfl
 rw [e]
 exact SetV.mk _ h
theorem v11_congr {a b : Nat → Int} (h : ∀ i, i < 11 → a i = b i) : v11 a = v11 b := v11_iff.2 h
def KAt (f : Frag) (kb n : Nat) (kv : Nat → Nat → Int) : Prop := ∃ T, f kb = some (.cells (kRow n kv).toArray T (0, 0))
theorem KAt.mono {f g : Frag} (h : Le f g) {kb n : Nat} {kv : Nat → Nat → Int} (hk : KAt f kb n kv) : KAt g kb n kv := by
 obtain ⟨T, hk⟩ := hk
 exact ⟨T, h _ _ hk⟩
theorem KAt.of {kb n : Nat} {T : TypeId} {kv : Nat → Nat → Int} {f g : Frag} (h : row kb T (kRow n kv) g) (hd : Dj f g) : KAt (un f g) kb n kv := by
 have hg : g = sing kb (.cells (kRow n kv).toArray T (0, 0)) := h
 refine ⟨T, Le.right hd _ _ ?_⟩
 rw [hg]; simp [sing]
def A12.Has (f : Frag) (x : A12) : Prop := BAt f x.qp x.q
def few12 (l : List A12) : Bool := decide (l.length ≤ 100) && l.all fun x => decide (x.q.length ≤ 20)
section
variable (f : Frag) (F : List HP)
theorem rodd_fn (n : UInt8) : Fn Tryz.prog 52 [.int .u8 (n.toNat : Nat)] f F (Ret (.int .i64 ((3 + 2 * (n.toNat % 5) : Nat) : Int)) f F) := by
 have hn := n.toNat_lt
 refine Fn.enter Tryz.func52 rfl Tryz.ntmps52 rfl (L := [(0, _)]) ⟨rfl, trivial⟩ fun base => ?_
 repeat (first | (refine H.rem (z := ((n.toNat % 5 : Nat) : Int)) rfl rfl rfl (by decide) (by rw [Int.ofNat_tmod]; rfl) rfl ?_) | ((first | apply H.Ac | apply H.Ad); (iterate 3 exact rfl)) | (first | apply H.seq | apply H.Ab | apply H.nil | apply H.Aa) | ((first | (apply H.ar; (iterate 4 exact rfl)) | (apply H.Bp; (iterate 2 exact rfl))); (with_reducible apply wr_i64; omega); exact rfl) | (apply H.ret))
 refine H.Aj rfl rfl (fun _ h => h) ⟨?_, rfl, rfl⟩
 congr 1
end
end Go.Proofs.YtoigpgdmignaoaaGreatDoor

namespace Go.Proofs.YtoigpgdmignaoaaGreatDoor
open Go
theorem updF_lt {d : Nat → Int} {i : Nat} : updF (fun j => if j < i then d j else 0) i (d i) = fun j => if j < i + 1 then d j else 0 := by
 funext j
 show (if j = i then d i else if j < i then d j else 0) = if j < i + 1 then d j else 0
 by_cases e : j = i
 ·subst e; rw [if_pos rfl, if_pos (by omega)]
 ·rw [if_neg e]
  by_cases h : j < i
  ·rw [if_pos h, if_pos (by omega)]
  ·rw [if_neg h, if_neg (by omega)]
theorem c11_rd {f : Frag} {A A' : List HP} {lb n : Nat} {l : List MV} {i : LP} (h : At A (row lb 120 (loreCells n l i)) A' (row lb 120 (loreCells n l i))) : Rd f A lb (0 + 1) (c11 (fun k => .slice (i.P k) (strmV l k).length (i.C k))) := by
 have h1 := Rd.ofRow (f := f) h
 unfold loreCells at h1
 exact h1.sub rfl
theorem knownS_len (l : List MV) (k : Nat) : knownS (strm (l.map MV.m)) k = ((strmV l k).length : Nat) := by
 show (((strm (l.map MV.m) k).length : Nat) : Int) = _
 rw [← strmV_map, List.length_map]
theorem strmV_le (l : List MV) (k : Nat) : (strmV l k).length ≤ l.length := List.length_filter_le _ _
section
variable (f : Frag) (F : List HP)
set_option maxHeartbeats 800000 in
theorem known_fn {fl : Frag} {lb n : Nat} {l : List MV} : Fn Tryz.prog 20 [.pointer (some ⟨lb, 0, none⟩)] f (loreH fl lb n l :: F) (Ret (.agg (v11 (knownS (strm (l.map MV.m)))).toArray) f (loreH fl lb n l :: F)) := by
 have hk := knownS_len l
 generalize knownS (strm (l.map MV.m)) = kn at hk ⊢
 have hle := strmV_le l
 refine Fn.unpack fun i hi => ?_
 have hll := hi.2.1
 refine Fn.enter Tryz.func20 rfl Tryz.ntmps20 rfl (L := [(0, _)]) ⟨rfl, trivial⟩ fun base => ?_
 repeat ((first | apply H.seq | apply H.Ab))
 refine H.Bg (ls := v11 fun _ => 0) rfl rfl rfl fun ob => ?_
 repeat (first | ((first | apply H.Ac | apply H.Ar); (iterate 3 exact rfl)) | (apply H.Ag; (iterate 3 exact rfl); exact inferInstance; exact rfl) | (first | apply H.seq | apply H.Ab | apply H.nil | apply H.Aa) | ((apply H.Ce); (iterate 5 exact rfl)) | (apply H.Bh; exact rfl))
 refine H.Al (ls := c11 (fun k => .slice (i.P k) (strmV l k).length (i.C k))) rfl rfl rfl (c11_rd (.there _ (.here _ _ _))) rfl rfl ?_
 repeat (first | ((apply H.Ac); (iterate 3 exact rfl)) | (first | apply H.nil | apply H.Aa) | (apply H.Ao))
 refine H.Bo (ι := Nat) (fun k => [(11, .int .i64 (k : Int)), (10, .agg (c11 (fun k => .slice (i.P k) (strmV l k).length (i.C k))).toArray), (2, .pointer (some ⟨ob, 0, none⟩))]) (fun _ => f)
  (fun k => row ob 37 (v11 fun j => if j < k then kn j else 0) :: row lb 120 (loreCells n l i) :: fam (strH l i) 11 :: ordH l i :: F) (fun k => k ≤ 11) (fun k => 11 - k) 0 (Nat.zero_le _) ⟨rfl, rfl, rfl, trivial⟩ rfl rfl fun k hk11 => ?_
 have hk11 : k ≤ 11 := hk11
 by_cases hlt : k < 11
 ·have h1 := hle k
  have h2 := hk k
  repeat (first | ((apply H.Ac); (iterate 3 exact rfl)) | (first | apply H.seq | apply H.Ab | apply H.nil | apply H.Aa) | ((apply H.cmp); (iterate 5 exact rfl)) | (first | apply H.Ak | apply H.Ao) | (apply H.Au; exact rfl; (omega)))
  refine H.indexV (i := k) rfl rfl rfl rfl hlt rfl (c11_get _ hlt) rfl ?_
  repeat (first | ((first | apply H.Ac | apply H.Ad | apply H.Az); (iterate 3 exact rfl)) | (first | apply H.Ab | apply H.nil | apply H.Aa) | ((apply H.Bp; (iterate 2 exact rfl)); (with_reducible apply wr_u64; omega); exact rfl))
  refine H.Br (i := k) rfl rfl rfl rfl hlt rfl ?_
  refine H.Bq (v := .int .u64 (kn k)) (ls' := v11 fun j => if j < k + 1 then kn j else 0) rfl rfl (by rw [h2]; rfl) rfl (.here _ _ _) (by rw [Nat.mul_one, Nat.zero_add, ← updF_lt]; exact v11_upd _ _ hlt) ?_
  repeat (first | ((apply H.Ac); (iterate 3 exact rfl)) | (first | apply H.Ab | apply H.nil | apply H.Aa) | ((apply H.ar; (iterate 4 exact rfl)); (with_reducible apply zag; omega); exact rfl) | (apply H.Ba))
  exact H.Bc (k + 1) (by show k + 1 ≤ 11; omega) (by show 11 - (k + 1) < 11 - k; omega) ⟨rfl, rfl, rfl, trivial⟩ rfl rfl
 ·have e : k = 11 := by omega
  subst e
  have e : (v11 fun j => if j < 11 then kn j else 0) = v11 kn := v11_congr fun j hj => if_pos hj
  rw [e]
  repeat (first | (first | apply H.seq | apply H.Ab | apply H.nil | apply H.Aa) | ((apply H.cmp); (iterate 5 exact rfl)) | (apply H.Av; exact rfl) | (first | apply H.Bl | apply H.Bj | apply H.Bk | apply H.Bm))
  refine H.Al (ls := v11 kn) rfl rfl rfl (Rd.ofRow (.here _ _ _)) rfl rfl ?_
  refine H.Bb (ls := v11 kn) (vs := v11 kn) (ls' := v11 kn) rfl rfl rfl (zad rfl) rfl rfl (Nat.le_refl 11) (.here _ _ _) ?_
  repeat (first | (first | apply H.nil | apply H.Aa) | (apply H.ret))
  exact H.Ca rfl rfl rfl (Rd.ofRow (.here _ _ _)) rfl (fun _ s => (s.drop (.here _ _)).imp (zax i hi)) ⟨rfl, rfl, rfl⟩
/-! ### slices.ContainsFunc -/
def idxI {α : Type} (pr : α → Bool) (l : List α) : Int := match l.findIdx? pr with
 | some i => (i : Nat)
 | none => -1
theorem idxI_any {α : Type} (pr : α → Bool) (l : List α) : decide (0 ≤ idxI pr l) = l.any pr := by
 unfold idxI
 cases h : l.findIdx? pr with
 | none =>
  rw [List.findIdx?_eq_none_iff] at h
  have : l.any pr = false := by rw [List.any_eq_false]; intro x hx; simp [h x hx]
  rw [this]; decide
 | some i =>
  obtain ⟨hi, h1, _⟩ := List.findIdx?_eq_some_iff_getElem.1 h
  have : l.any pr = true := by rw [List.any_eq_true]; exact ⟨l[i], List.getElem_mem hi, h1⟩
  rw [this]; exact decide_eq_true (show (0 : Int) ≤ (i : Nat) by omega)
theorem idxI_at {α : Type} {pr : α → Bool} {l : List α} {i : Nat} {x : α} (h : l[i]? = some x) (hp : pr x = true) (hb : ∀ j y, j < i → l[j]? = some y → pr y = false) : idxI pr l = (i : Nat) := by
 have hi : i < l.length := by
  rcases Nat.lt_or_ge i l.length with h1 | h1
  ·exact h1
  ·rw [List.getElem?_eq_none h1] at h; cases h
 have hx : l[i] = x := by rw [List.getElem?_eq_getElem hi] at h; exact Option.some.inj h
 have : l.findIdx? pr = some i := List.findIdx?_eq_some_iff_getElem.2 ⟨hi, by rw [hx]; exact hp, fun j hj => by
  have := hb j l[j] hj (List.getElem?_eq_getElem (by omega))
  simp [this]⟩
 unfold idxI
 rw [this]
theorem idxI_none {α : Type} {pr : α → Bool} {l : List α} (hb : ∀ j y, j < l.length → l[j]? = some y → pr y = false) : idxI pr l = -1 := by
 have : l.findIdx? pr = none := by
  rw [List.findIdx?_eq_none_iff]
  intro x hx
  obtain ⟨j, hj⟩ := List.getElem?_of_mem hx
  rcases Nat.lt_or_ge j l.length with h1 | h1
  ·exact hb j x h1 hj
  ·rw [List.getElem?_eq_none h1] at hj; cases hj
 unfold idxI
 rw [this]
theorem idxQ_fn {p : Option Addr} {c : Nat} {q : List (Int × Int)} (hq : QAt f p q) (hl : q.length ≤ 1000000000) {fid : FuncId} {cs : List Value} [Fun Tryz.prog fid] (pr : Int × Int → Bool)
  (hc : ∀ x, x ∈ q → Fn Tryz.prog fid ([] ++ [.agg (pairV x).toArray] ++ cs) f F (Ret (.bool (pr x)) f F)) :
  Fn Tryz.prog 101 [.slice p q.length c, .func (.func fid) #[] cs.toArray] f F (Ret (.int .i64 (idxI pr q)) f F) := by
 refine Fn.enter Tryz.func101 rfl Tryz.ntmps101 rfl (L := [(0, _), (1, _)]) ⟨rfl, rfl, trivial⟩ fun base => ?_
 repeat (first | ((first | apply H.Ac | apply H.Ad | apply H.Az); (iterate 3 exact rfl)) | (first | apply H.seq | apply H.Ab | apply H.nil | apply H.Aa) | (apply H.Ao))
 refine H.Bo (ι := Nat) (fun i => [(8, .int .i64 (i : Int)), (7, .int .i64 (q.length : Nat)), (0, .slice p q.length c), (1, .func (.func fid) #[] cs.toArray)]) (fun _ => f) (fun _ => F) (fun i => i ≤ q.length ∧ ∀ j y, j < i → q[j]? = some y → pr y = false) (fun i => q.length - i) 0 ⟨Nat.zero_le _, fun j y hj => by omega⟩ ⟨rfl, rfl, rfl, rfl, trivial⟩ rfl rfl fun i hi => ?_
 obtain ⟨hi, hb⟩ : i ≤ q.length ∧ ∀ j y, j < i → q[j]? = some y → pr y = false := hi
 by_cases hlt : i < q.length
 ·have hx : q[i]? = some q[i] := List.getElem?_eq_getElem hlt
  generalize q[i] = x at hx
  have hxm := List.mem_of_getElem? hx
  obtain ⟨b, off, cs2, T, fr, rfl, hfb, hcs⟩ := hq i x hx
  have rd : ∀ A, Rd f A b (off + i * 2) (pairV x) := fun A => Rd.imm hfb hcs
  have hcx := hc x hxm
  repeat (first | ((first | apply H.Ac | apply H.Ad); (iterate 3 exact rfl)) | (first | apply H.seq | apply H.Ab | apply H.nil | apply H.Aa) | ((apply H.cmp); (iterate 5 exact rfl)) | (first | apply H.Ak | apply H.Ao) | (apply H.Au; exact rfl; (omega)))
  refine H.Bs rfl rfl rfl rfl hlt rfl ?_
  refine H.Al (ls := pairV x) rfl rfl rfl (rd _) rfl rfl ?_
  cases hp : pr x with
  | true =>
   rw [hp] at hcx
   refine H.callVR (fs := []) (cs := cs) rfl rfl rfl rfl hcx ?_
   repeat (first | ((first | apply H.Ac | apply H.Ad); (iterate 3 exact rfl)) | (first | apply H.seq | apply H.Ab | apply H.nil | apply H.Aa) | (apply H.Bh; exact rfl) | (first | apply H.ret | apply H.Be | apply H.Bx | apply H.Cd))
   refine H.Aj rfl rfl (fun _ h => h) ⟨?_, rfl, rfl⟩
   rw [idxI_at hx hp hb]
  | false =>
   rw [hp] at hcx
   refine H.callVR (fs := []) (cs := cs) rfl rfl rfl rfl hcx ?_
   repeat (first | ((apply H.Ac); (iterate 3 exact rfl)) | (first | apply H.Ab | apply H.nil | apply H.Aa) | ((apply H.ar; (iterate 4 exact rfl)); (with_reducible apply zag; omega); exact rfl) | (apply H.Av; exact rfl) | (first | apply H.Ak | apply H.Ba))
   refine H.Bc (i + 1) ⟨by show i + 1 ≤ q.length; omega, fun j y hj hy => ?_⟩ (by show q.length - (i + 1) < q.length - i; omega) ⟨rfl, rfl, rfl, rfl, trivial⟩ rfl rfl
   by_cases e : j = i
   ·subst e; rw [hx] at hy; cases hy; exact hp
   ·exact hb j y (by omega) hy
 ·have e : i = q.length := by omega
  subst e
  repeat (first | ((apply H.Ad); (iterate 3 exact rfl)) | (first | apply H.seq | apply H.Ab | apply H.nil | apply H.Aa) | ((apply H.cmp); (iterate 5 exact rfl)) | (first | apply H.ret | apply H.Bl | apply H.Bj | apply H.Bk | apply H.Bm) | (apply H.Aw; exact rfl; (omega)))
  refine H.Aj rfl rfl (fun _ h => h) ⟨?_, rfl, rfl⟩
  rw [idxI_none hb]
theorem hasQ_fn {p : Option Addr} {c : Nat} {q : List (Int × Int)} (hq : QAt f p q) (hl : q.length ≤ 1000000000) {fid : FuncId} {cs : List Value} [Fun Tryz.prog fid] (pr : Int × Int → Bool)
  (hc : ∀ x, x ∈ q → Fn Tryz.prog fid ([] ++ [.agg (pairV x).toArray] ++ cs) f F (Ret (.bool (pr x)) f F)) :
  Fn Tryz.prog 79 [.slice p q.length c, .func (.func fid) #[] cs.toArray] f F (Ret (.bool (q.any pr)) f F) := by
 have h1 := idxI_any pr q
 refine Fn.enter Tryz.func79 rfl Tryz.ntmps79 rfl (L := [(0, _), (1, _)]) ⟨rfl, rfl, trivial⟩ fun base => ?_
 repeat (first | ((first | apply H.Ac | apply H.Ad); (iterate 3 exact rfl)) | (first | apply H.seq | apply H.Ab | apply H.nil | apply H.Aa))
 refine H.Am rfl rfl rfl (idxQ_fn f F hq hl pr hc) ?_
 repeat (first | ((apply H.Ad); (iterate 3 exact rfl)) | (first | apply H.nil | apply H.Aa) | ((apply H.cmp); (iterate 5 exact rfl)) | (apply H.ret))
 refine H.Aj rfl rfl (fun _ h => h) ⟨?_, rfl, rfl⟩
 rw [← h1]
theorem idxU_fn {p : Option Addr} {m c : Nat} {d : Nat → Int} (hr : ∀ i, i < m → ∃ b off, p = some ⟨b, off, none⟩ ∧ Rd1 f F b (off + i) (.int .u64 (d i))) (hm : m ≤ 1000000000) {fid : FuncId} {cs : List Value} [Fun Tryz.prog fid] (pr : Int → Bool)
  (hc : ∀ z, Fn Tryz.prog fid ([] ++ [.int .u64 z] ++ cs) f F (Ret (.bool (pr z)) f F)) :
  Fn Tryz.prog 102 [.slice p m c, .func (.func fid) #[] cs.toArray] f F (Ret (.int .i64 (idxI (fun i => pr (d i)) (List.range m))) f F) := by
 refine Fn.enter Tryz.func102 rfl Tryz.ntmps102 rfl (L := [(0, _), (1, _)]) ⟨rfl, rfl, trivial⟩ fun base => ?_
 repeat (first | ((first | apply H.Ac | apply H.Ad | apply H.Az); (iterate 3 exact rfl)) | (first | apply H.seq | apply H.Ab | apply H.nil | apply H.Aa) | (apply H.Ao))
 refine H.Bo (ι := Nat) (fun i => [(8, .int .i64 (i : Int)), (7, .int .i64 (m : Nat)), (0, .slice p m c), (1, .func (.func fid) #[] cs.toArray)]) (fun _ => f) (fun _ => F) (fun i => i ≤ m ∧ ∀ j, j < i → pr (d j) = false) (fun i => m - i) 0 ⟨Nat.zero_le _, fun j hj => by omega⟩ ⟨rfl, rfl, rfl, rfl, trivial⟩ rfl rfl fun i hi => ?_
 obtain ⟨hi, hb⟩ : i ≤ m ∧ ∀ j, j < i → pr (d j) = false := hi
 by_cases hlt : i < m
 ·obtain ⟨b, off, rfl, hrd⟩ := hr i hlt
  have hcx := hc (d i)
  repeat (first | ((first | apply H.Ac | apply H.Ad); (iterate 3 exact rfl)) | (first | apply H.seq | apply H.Ab | apply H.nil | apply H.Aa) | ((apply H.cmp); (iterate 5 exact rfl)) | (first | apply H.Ak | apply H.Ao) | (apply H.Au; exact rfl; (omega)))
  refine H.Cj (i := i) rfl rfl rfl rfl hlt rfl ?_
  refine H.Af rfl rfl rfl hrd rfl ?_
  cases hp : pr (d i) with
  | true =>
   rw [hp] at hcx
   refine H.callVR (fs := []) (cs := cs) rfl rfl rfl rfl hcx ?_
   repeat (first | ((first | apply H.Ac | apply H.Ad); (iterate 3 exact rfl)) | (first | apply H.seq | apply H.Ab | apply H.nil | apply H.Aa) | (apply H.Bh; exact rfl) | (first | apply H.ret | apply H.Be | apply H.Bx | apply H.Cd))
   refine H.Aj rfl rfl (fun _ h => h) ⟨?_, rfl, rfl⟩
   rw [idxI_at (i := i) (x := i) (by rw [List.getElem?_range hlt]) hp fun j y hj hy => by
    rw [List.getElem?_range (by omega)] at hy; cases hy; exact hb j hj]
  | false =>
   rw [hp] at hcx
   refine H.callVR (fs := []) (cs := cs) rfl rfl rfl rfl hcx ?_
   repeat (first | ((apply H.Ac); (iterate 3 exact rfl)) | (first | apply H.Ab | apply H.nil | apply H.Aa) | ((apply H.ar; (iterate 4 exact rfl)); (with_reducible apply zag; omega); exact rfl) | (apply H.Av; exact rfl) | (first | apply H.Ak | apply H.Ba))
   refine H.Bc (i + 1) ⟨by show i + 1 ≤ m; omega, fun j hj => ?_⟩ (by show m - (i + 1) < m - i; omega) ⟨rfl, rfl, rfl, rfl, trivial⟩ rfl rfl
   by_cases e : j = i
   ·subst e; exact hp
   ·exact hb j (by omega)
 ·have e : i = m := by omega
  subst e
  repeat (first | ((apply H.Ad); (iterate 3 exact rfl)) | (first | apply H.seq | apply H.Ab | apply H.nil | apply H.Aa) | ((apply H.cmp); (iterate 5 exact rfl)) | (first | apply H.ret | apply H.Bl | apply H.Bj | apply H.Bk | apply H.Bm) | (apply H.Aw; exact rfl; (omega)))
  refine H.Aj rfl rfl (fun _ h => h) ⟨?_, rfl, rfl⟩
  rw [idxI_none fun j y hj hy => by
   have hj : j < i := by rw [List.length_range] at hj; exact hj
   rw [List.getElem?_range hj] at hy; cases hy; exact hb j hj]
theorem hasU_fn {p : Option Addr} {m c : Nat} {d : Nat → Int} (hr : ∀ i, i < m → ∃ b off, p = some ⟨b, off, none⟩ ∧ Rd1 f F b (off + i) (.int .u64 (d i))) (hm : m ≤ 1000000000) {fid : FuncId} {cs : List Value} [Fun Tryz.prog fid] (pr : Int → Bool)
  (hc : ∀ z, Fn Tryz.prog fid ([] ++ [.int .u64 z] ++ cs) f F (Ret (.bool (pr z)) f F)) :
  Fn Tryz.prog 81 [.slice p m c, .func (.func fid) #[] cs.toArray] f F (Ret (.bool ((List.range m).any fun i => pr (d i))) f F) := by
 have h1 := idxI_any (fun i => pr (d i)) (List.range m)
 refine Fn.enter Tryz.func81 rfl Tryz.ntmps81 rfl (L := [(0, _), (1, _)]) ⟨rfl, rfl, trivial⟩ fun base => ?_
 repeat (first | ((first | apply H.Ac | apply H.Ad); (iterate 3 exact rfl)) | (first | apply H.seq | apply H.Ab | apply H.nil | apply H.Aa))
 refine H.Am rfl rfl rfl (idxU_fn f F hr hm pr hc) ?_
 repeat (first | ((apply H.Ad); (iterate 3 exact rfl)) | (first | apply H.nil | apply H.Aa) | ((apply H.cmp); (iterate 5 exact rfl)) | (apply H.ret))
 refine H.Aj rfl rfl (fun _ h => h) ⟨?_, rfl, rfl⟩
 rw [← h1]
theorem fits1_fn {lb pb n : Nat} {l : List MV} {i : LP} (x : Int × Int) : Fn Tryz.prog 80 ([] ++ [.agg (pairV x).toArray] ++ [.pointer (some ⟨pb, 0, none⟩)]) f (row pb 27 [.pointer (some ⟨lb, 0, none⟩)] :: row lb 120 (loreCells n l i) :: F)
  (Ret (.bool (decide ((n : Int) < x.1))) f (row pb 27 [.pointer (some ⟨lb, 0, none⟩)] :: row lb 120 (loreCells n l i) :: F)) := by
 refine Fn.enter Tryz.func80 rfl Tryz.ntmps80 rfl (L := [(0, _), (1, _)]) ⟨rfl, rfl, trivial⟩ fun base => ?_
 repeat ((first | apply H.seq | apply H.Ab))
 refine H.box (ls := pairV x) rfl rfl rfl rfl fun qb => ?_
 repeat (first | ((apply H.Ad); (iterate 3 exact rfl)) | (first | apply H.seq | apply H.nil | apply H.Aa))
 refine H.Bz (by kernel_rfl) (by decide +kernel) (by repeat (first | exact zab | refine zaa ?_ | refine zac ?_ | refine zae ?_)) ?_
 repeat (first | ((first | apply HQ.Ad | apply HQ.Ar); (iterate 3 exact rfl)) | (apply HQ.Ag; (iterate 3 exact rfl); exact inferInstance; exact rfl) | (apply HQ.Af; (iterate 3 exact rfl); apply Rd1.ofRow; (repeat (first | exact .here _ _ _ | apply At.there)); (iterate 2 exact rfl)) | ((apply HQ.Bu); exact rfl) | ((apply HQ.cmp); (iterate 5 exact rfl)))
 repeat (first | (apply H.Aa) | (apply H.ret))
 refine H.Ah (.here _ _) ?_
 exact H.Aj rfl rfl (fun _ h => h) ⟨rfl, rfl, rfl⟩
theorem fits2_fn (z : Int) : Fn Tryz.prog 82 ([] ++ [.int .u64 z] ++ []) f F (Ret (.bool (decide (0 < z))) f F) := by
 refine Fn.enter Tryz.func82 rfl Tryz.ntmps82 rfl (L := [(0, _)]) ⟨rfl, trivial⟩ fun base => ?_
 repeat (first | ((first | apply H.Ac | apply H.Ad); (iterate 3 exact rfl)) | (first | apply H.seq | apply H.Ab | apply H.nil | apply H.Aa) | ((apply H.cmp); (iterate 5 exact rfl)) | (apply H.ret))
 exact H.Aj rfl rfl (fun _ h => h) ⟨rfl, rfl, rfl⟩
end
theorem any_all {α : Type} (l : List α) (p : α → Bool) (q : α → Bool) (h : ∀ x, q x = !p x) : l.all q = !l.any p := by
 induction l with
 | nil => rfl
 | cons a l ih => rw [List.all_cons, List.any_cons, ih, h, Bool.not_or]
theorem deps_any {n : Nat} (hn : n ≤ 11) (d : Nat → Int) : ((List.range 11).all fun i => decide (i < n) || decide (d i ≤ 0)) = !(List.range (11 - n)).any fun i => decide (0 < d (n + i)) := by
 cases h : (List.range (11 - n)).any fun i => decide (0 < d (n + i)) with
 | true =>
  rw [List.any_eq_true] at h
  obtain ⟨i, hi, h⟩ := h
  have hi := List.mem_range.1 hi
  rw [Bool.not_true, List.all_eq_false]
  refine ⟨n + i, List.mem_range.2 (by omega), ?_⟩
  have h := of_decide_eq_true h
  rw [decide_eq_false (by omega), decide_eq_false (by omega)]; decide
 | false =>
  rw [List.any_eq_false] at h
  rw [Bool.not_false, List.all_eq_true]
  intro i hi
  have hi := List.mem_range.1 hi
  rw [Bool.or_eq_true, decide_eq_true_eq, decide_eq_true_eq]
  by_cases hlt : i < n
  ·exact .inl hlt
  ·have := h (i - n) (List.mem_range.2 (by omega))
   rw [decide_eq_true_eq, show n + (i - n) = i by omega] at this
   exact .inr (by omega)
theorem fitsB_q {n : Nat} (hn : n ≤ 11) {m : Msg} (h1 : m.may = true) (h2 : m.origin ≤ (n : Int)) : fitsB n m = (!(m.body.q.any fun p => decide ((n : Int) < p.1)) && !(List.range (11 - n)).any fun i => decide (0 < m.deps (n + i))) := by
 unfold fitsB
 rw [h1, decide_eq_true h2, deps_any hn, any_all m.body.q (fun p => decide ((n : Int) < p.1)) (fun p => decide (p.1 ≤ (n : Int))) fun p => by
  by_cases h : (n : Int) < p.1
  ·rw [decide_eq_true h, decide_eq_false (by omega)]; rfl
  ·rw [decide_eq_false h, decide_eq_true (by omega)]; rfl]
 rfl
section
variable (f : Frag) (F : List HP)
set_option maxHeartbeats 1600000 in
theorem fits_fn {lb n : Nat} {l : List MV} {i : LP} (hn : n ≤ 11) {x : MV} (hx : x.Good f) : Fn Tryz.prog 57 [.pointer (some ⟨lb, 0, none⟩), .agg x.vals.toArray] f (row lb 120 (loreCells n l i) :: F)
  (Ret (.bool (fitsB n x.m)) f (row lb 120 (loreCells n l i) :: F)) := by
 have hmay := fun G => mmay_fn f G hx
 by_cases hm : x.m.may = true
 ·rw [hm] at hmay
  by_cases ho : x.m.origin ≤ (n : Int)
  ·rw [fitsB_q hn hm ho]
   refine Fn.enter Tryz.func57 rfl Tryz.ntmps57 rfl (L := [(0, _), (1, _)]) ⟨rfl, rfl, trivial⟩ fun base => ?_
   repeat ((first | apply H.seq | apply H.Ab))
   refine H.box (ls := [.pointer (some ⟨lb, 0, none⟩)]) rfl rfl rfl rfl fun pb => ?_
   refine H.box (ls := x.vals) rfl rfl rfl rfl fun mb => ?_
   repeat (first | ((apply H.Ad); (iterate 3 exact rfl)) | (first | apply H.seq | apply H.nil | apply H.Aa))
   refine H.Bt (by kernel_rfl) (by decide +kernel) (by repeat (first | exact zab | refine zaa ?_ | refine zac ?_ | refine zae ?_)) (S := [_, _, _]) rfl ?_
   refine HB.Aq [(0, false)] 11 (by kernel_rfl) ?_
   refine HQ.Al (ls := x.vals) rfl rfl rfl (Rd.ofRow (.here _ _ _)) rfl rfl ?_
   refine HQ.Ap rfl ?_
   refine HB.ev1 (i := 1) (by kernel_rfl) rfl ?_
   refine H.Am rfl rfl rfl (hmay _) ?_
   repeat ((apply H.nil))
   refine H.on0 rfl ?_
   refine HB.Aq [(2, false), (3, false), (4, false), (5, false), (6, false), (7, false), (8, false), (9, false), (10, false), (11, false)] 0 (by kernel_rfl) ?_
   repeat (first | ((first | apply HQ.Ac | apply HQ.Ar); (iterate 3 exact rfl)) | (apply HQ.Ag; (iterate 3 exact rfl); exact inferInstance; exact rfl) | (apply HQ.Af; (iterate 3 exact rfl); apply Rd1.ofRow; (repeat (first | exact .here _ _ _ | apply At.there)); (iterate 2 exact rfl)) | ((apply HQ.cmp); (iterate 5 exact rfl)) | ((first | apply HQ.Ay | apply HQ.not); (iterate 4 exact rfl)))
   refine HQ.Ap rfl ?_
   refine HB.Bf (by kernel_rfl) ?_
   repeat (first | (apply H.Ag; (iterate 3 exact rfl); exact inferInstance; exact rfl) | (apply H.Af; (iterate 3 exact rfl); apply Rd1.ofRow; (repeat (exact .here _ _ _)); (iterate 2 exact rfl)) | (first | apply H.seq | apply H.Ab | apply H.Aa) | ((apply H.makeFunc); (iterate 4 exact rfl)) | (apply H.Ak) | (apply H.Aw; exact rfl; (omega)))
   refine H.Ae (x := row lb _ _) (by repeat constructor) ?_
   refine H.Ae (x := row pb _ _) (by repeat constructor) ?_
   have hq : x.m.body.q.length ≤ 1000000000 := by have := hx.2.1; omega
   refine H.Am rfl rfl rfl (hasQ_fn f _ (c := x.qc) hx.1 hq (fun p => decide ((n : Int) < p.1)) fun p _ => fits1_fn f _ p) ?_
   cases hany : x.m.body.q.any fun p => decide ((n : Int) < p.1) with
   | true =>
    refine H.not (b := true) (c := false) rfl rfl rfl rfl ?_
    repeat (first | ((first | apply H.Ac | apply H.Ad | apply H.Ar); (iterate 3 exact rfl)) | (first | apply H.nil | apply H.Aa) | (apply H.Bd; (iterate 2 exact rfl)) | ((apply H.Ay); (iterate 4 exact rfl)) | (apply H.ret))
    refine H.Ah (.here _ _) ?_
    refine H.Ah (x := row mb _ _) (by repeat constructor) ?_
    exact H.Aj rfl rfl (fun _ h => h) ⟨rfl, rfl, rfl⟩
   | false =>
    refine H.not (b := false) (c := true) rfl rfl rfl rfl ?_
    repeat (first | ((first | apply H.Ac | apply H.Ar); (iterate 3 exact rfl)) | (apply H.Ag; (iterate 3 exact rfl); exact inferInstance; exact rfl) | (apply H.Af; (iterate 3 exact rfl); apply Rd1.ofRow; (repeat (first | exact .here _ _ _ | apply At.there)); (iterate 2 exact rfl)))
    refine H.Ci (lo := some _) (hi := none) (mx := none) (lv := n) (hv := 11) (mv := 11) rfl rfl ⟨_, _, rfl, rfl⟩ rfl rfl (fun h => by cases h) hn (by decide) (by decide) rfl ?_
    skip
    refine H.Am rfl rfl rfl (hasU_fn f _ (p := slP (some ⟨mb, 2, none⟩) n 11 1) (m := 11 - n) (c := 11 - n) (d := fun i => x.m.deps (n + i)) (fun i hi => ⟨mb, 2 + n, by unfold slP; rw [if_neg (by omega)]; show some (Addr.add ⟨mb, 2, none⟩ (n * 1)) = _; rw [zal, Nat.mul_one], ?_⟩) (by omega) (fun z => decide (0 < z)) fun z => fits2_fn f _ z) ?_
    ·rw [show 2 + n + i = 2 + (n + i) by omega]
     exact Rd1.of (off := 2) (zak (m := x.m) (q := x.qp) (qc := x.qc) (.there _ (.there _ (.here _ _ _)))) (zam x.m.deps (by omega))
    generalize (List.range (11 - n)).any (fun i => decide (0 < x.m.deps (n + i))) = b
    refine H.not (b := b) (c := !b) rfl rfl rfl rfl ?_
    repeat (first | ((apply H.Ad); (iterate 3 exact rfl)) | (first | apply H.nil | apply H.Aa) | (apply H.Ax; (iterate 4 exact rfl)) | (apply H.ret))
    refine H.Ah (.here _ _) ?_
    refine H.Ah (x := row mb _ _) (by repeat constructor) ?_
    exact H.Aj rfl rfl (fun _ h => h) ⟨rfl, rfl, rfl⟩
  ·have e : fitsB n x.m = false := by unfold fitsB; rw [decide_eq_false ho]; simp
   rw [e]
   refine Fn.enter Tryz.func57 rfl Tryz.ntmps57 rfl (L := [(0, _), (1, _)]) ⟨rfl, rfl, trivial⟩ fun base => ?_
   repeat ((first | apply H.seq | apply H.Ab))
   refine H.box (ls := [.pointer (some ⟨lb, 0, none⟩)]) rfl rfl rfl rfl fun pb => ?_
   refine H.box (ls := x.vals) rfl rfl rfl rfl fun mb => ?_
   repeat (first | ((apply H.Ad); (iterate 3 exact rfl)) | (first | apply H.seq | apply H.nil | apply H.Aa))
   refine H.Bt (by kernel_rfl) (by decide +kernel) (by repeat (first | exact zab | refine zaa ?_ | refine zac ?_ | refine zae ?_)) (S := [_, _, _]) rfl ?_
   refine HB.Aq [(0, false)] 11 (by kernel_rfl) ?_
   refine HQ.Al (ls := x.vals) rfl rfl rfl (Rd.ofRow (.here _ _ _)) rfl rfl ?_
   refine HQ.Ap rfl ?_
   refine HB.ev1 (i := 1) (by kernel_rfl) rfl ?_
   refine H.Am rfl rfl rfl (hmay _) ?_
   repeat ((apply H.nil))
   refine H.on0 rfl ?_
   refine HB.Aq [(2, false), (3, false), (4, false), (5, false), (6, false), (7, false), (8, false), (9, false), (10, false), (11, false)] 0 (by kernel_rfl) ?_
   repeat (first | ((first | apply HQ.Ac | apply HQ.Ar); (iterate 3 exact rfl)) | (apply HQ.Ag; (iterate 3 exact rfl); exact inferInstance; exact rfl) | (apply HQ.Af; (iterate 3 exact rfl); apply Rd1.ofRow; (repeat (first | exact .here _ _ _ | apply At.there)); (iterate 2 exact rfl)) | ((apply HQ.cmp); (iterate 5 exact rfl)) | ((first | apply HQ.Ay | apply HQ.not); (iterate 4 exact rfl)))
   refine HQ.Ap rfl ?_
   refine HB.Bf (by kernel_rfl) ?_
   repeat (first | ((apply H.Ad); (iterate 3 exact rfl)) | (first | apply H.seq | apply H.Ab | apply H.nil | apply H.Aa) | (first | apply H.ret | apply H.Be) | (apply H.Au; exact rfl; (omega)))
   refine H.Ah (.here _ _) ?_
   refine H.Ah (.here _ _) ?_
   exact H.Aj rfl rfl (fun _ h => h) ⟨rfl, rfl, rfl⟩
 ·have hm : x.m.may = false := Bool.eq_false_iff.2 hm
  have e : fitsB n x.m = false := by unfold fitsB; rw [hm]; rfl
  rw [hm] at hmay
  rw [e]
  refine Fn.enter Tryz.func57 rfl Tryz.ntmps57 rfl (L := [(0, _), (1, _)]) ⟨rfl, rfl, trivial⟩ fun base => ?_
  repeat ((first | apply H.seq | apply H.Ab))
  refine H.box (ls := [.pointer (some ⟨lb, 0, none⟩)]) rfl rfl rfl rfl fun pb => ?_
  refine H.box (ls := x.vals) rfl rfl rfl rfl fun mb => ?_
  repeat (first | ((apply H.Ad); (iterate 3 exact rfl)) | (first | apply H.seq | apply H.nil | apply H.Aa))
  refine H.Bt (by kernel_rfl) (by decide +kernel) (by repeat (first | exact zab | refine zaa ?_ | refine zac ?_ | refine zae ?_)) (S := [_, _, _]) rfl ?_
  refine HB.Aq [(0, false)] 11 (by kernel_rfl) ?_
  refine HQ.Al (ls := x.vals) rfl rfl rfl (Rd.ofRow (.here _ _ _)) rfl rfl ?_
  refine HQ.Ap rfl ?_
  refine HB.ev1 (i := 1) (by kernel_rfl) rfl ?_
  refine H.Am rfl rfl rfl (hmay _) ?_
  repeat ((apply H.nil))
  refine H.on0 rfl ?_
  refine HB.Aq [(2, false), (3, false), (4, false), (5, false), (6, false), (7, false), (8, false), (9, false), (10, false), (11, false)] 0 (by kernel_rfl) ?_
  repeat (first | ((first | apply HQ.Ac | apply HQ.Ar); (iterate 3 exact rfl)) | (apply HQ.Bd; (iterate 2 exact rfl)) | (apply HQ.Ax; (iterate 4 exact rfl)) | ((apply HQ.not); (iterate 4 exact rfl)))
  refine HQ.Ap rfl ?_
  refine HB.Bf (by kernel_rfl) ?_
  repeat (first | ((apply H.Ad); (iterate 3 exact rfl)) | (first | apply H.seq | apply H.Ab | apply H.nil | apply H.Aa) | (apply H.Bh; exact rfl) | (first | apply H.ret | apply H.Be))
  refine H.Ah (.here _ _) ?_
  refine H.Ah (.here _ _) ?_
  exact H.Aj rfl rfl (fun _ h => h) ⟨rfl, rfl, rfl⟩
end
theorem strm_lenV (l : List MV) (o : Nat) : (strm (l.map MV.m) o).length = (strmV l o).length := by rw [← strmV_map, List.length_map]
theorem slc_deps {f : Frag} {A A' : List HP} {b n c : Nat} {T : TypeId} {xs : List MV} (h : At A (slc (some ⟨b, 0, none⟩) n c T 121 (xs.flatMap MV.vals)) A' (slc (some ⟨b, 0, none⟩) n c T 121 (xs.flatMap MV.vals))) {k : Nat} {y : MV} (hy : xs[k]? = some y) : Rd f A b (k * 121 + 2) (v11 y.m.deps) := by
 have h1 := Rd.slcElem (f := f) MV.len (by decide) h hy
 have e : y.vals = [.int .i64 y.m.origin, .int .u64 y.m.number] ++ v11 y.m.deps ++ (y.m.body.vals y.qp y.qc ++ b32 y.m.tag) := by unfold MV.vals Msg.vals; simp only [List.append_assoc]
 rw [e] at h1
 exact h1.sub rfl
theorem fits_at {n : Nat} {m : Msg} (h : fitsB n m = true) (hn : n ≤ 11) : ∃ o : Nat, orgI m = o ∧ m.origin - 1 = (o : Nat) ∧ o < n ∧ o < 11 ∧ 1 ≤ m.origin ∧ m.origin ≤ 11 := by
 have h1 := fits_org h
 refine ⟨(m.origin - 1).toNat, rfl, ?_⟩
 omega
section
variable (f : Frag) (F : List HP)
set_option maxHeartbeats 3200000 in
theorem lcheck_fn (htab : TabAt f) {fl : Frag} {lb n : Nat} {l : List MV} {x : MV} (hx : x.Good f) : Fn Tryz.prog 23 [.pointer (some ⟨lb, 0, none⟩), .agg x.vals.toArray] f (loreH fl lb n l :: F)
  (Ret (.int .i64 (chk n (strm (l.map MV.m)) x.m)) f (loreH fl lb n l :: F)) := by
 refine Fn.unpack fun i hi => ?_
 have hn := hi.2.2.2
 have hfits : ∀ {G}, Fn Tryz.prog 57 [.pointer (some ⟨lb, 0, none⟩), .agg x.vals.toArray] f (row lb 120 (loreCells n l i) :: G) (Ret (.bool (fitsB n x.m)) f (row lb 120 (loreCells n l i) :: G)) := fun {G} => fits_fn f G hn hx
 have hright : ∀ {G}, Fn Tryz.prog 58 [.agg x.vals.toArray] f G (Ret (.bool x.m.right) f G) := fun {G} => mright_fn f G htab hx
 cases h1 : fitsB n x.m with
 | false =>
  rw [h1] at hfits
  refine Fn.enter Tryz.func23 rfl Tryz.ntmps23 rfl (L := [(0, _), (1, _)]) ⟨rfl, rfl, trivial⟩ fun base => ?_
  repeat ((first | apply H.seq | apply H.Ab))
  refine H.box (ls := x.vals) rfl rfl rfl rfl fun mb => ?_
  repeat (first | ((first | apply H.Ac | apply H.Ad); (iterate 3 exact rfl)) | (first | apply H.seq | apply H.Ab | apply H.nil | apply H.Aa) | ((apply H.Ce); (iterate 5 exact rfl)) | (apply H.Av; exact rfl) | (apply H.Ao))
  refine H.Al (ls := x.vals) rfl rfl rfl (Rd.ofRow (.here _ _ _)) rfl rfl ?_
  refine H.Ae (x := row lb _ _) (by repeat constructor) ?_
  refine H.Am rfl rfl rfl hfits ?_
  refine H.not (b := _) (c := _) rfl rfl rfl rfl ?_
  repeat (first | ((apply H.Ad); (iterate 3 exact rfl)) | (first | apply H.seq | apply H.Ab | apply H.nil | apply H.Aa) | (apply H.Bh; exact rfl) | (first | apply H.ret | apply H.Be | apply H.Bx))
  refine H.Ae (x := ordH l i) (by repeat constructor) ?_
  refine H.Ae (x := fam (strH l i) 11) (by repeat constructor) ?_
  refine H.Ae (x := row lb _ _) (by repeat constructor) ?_
  refine H.imp (zax i hi) ?_
  refine H.Ah (x := row mb _ _) (by repeat constructor) ?_
  refine H.Aj rfl rfl (fun _ h => h) ⟨?_, rfl, rfl⟩
  unfold chk
  rw [if_pos h1]
 | true =>
  obtain ⟨o, hoo, hoz, hon, ho11, ho1, ho2⟩ := fits_at h1 hn
  rw [h1] at hfits
  cases h2 : x.m.right with
  | false =>
   rw [h2] at hright
   refine Fn.enter Tryz.func23 rfl Tryz.ntmps23 rfl (L := [(0, _), (1, _)]) ⟨rfl, rfl, trivial⟩ fun base => ?_
   repeat ((first | apply H.seq | apply H.Ab))
   refine H.box (ls := x.vals) rfl rfl rfl rfl fun mb => ?_
   repeat (first | ((first | apply H.Ac | apply H.Ad); (iterate 3 exact rfl)) | (first | apply H.seq | apply H.Ab | apply H.nil | apply H.Aa) | ((apply H.Ce); (iterate 5 exact rfl)) | (apply H.Av; exact rfl) | (apply H.Ao))
   refine H.Al (ls := x.vals) rfl rfl rfl (Rd.ofRow (.here _ _ _)) rfl rfl ?_
   refine H.Ae (x := row lb _ _) (by repeat constructor) ?_
   refine H.Am rfl rfl rfl hfits ?_
   refine H.not (b := _) (c := _) rfl rfl rfl rfl ?_
   repeat (first | ((apply H.Ad); (iterate 3 exact rfl)) | (first | apply H.seq | apply H.Ab | apply H.nil | apply H.Aa) | (apply H.Av; exact rfl))
   refine H.Al (ls := x.vals) rfl rfl rfl (Rd.ofRow (.there _ (.here _ _ _))) rfl rfl ?_
   refine H.Am rfl rfl rfl hright ?_
   refine H.not (b := _) (c := _) rfl rfl rfl rfl ?_
   repeat (first | ((apply H.Ad); (iterate 3 exact rfl)) | (first | apply H.seq | apply H.Ab | apply H.nil | apply H.Aa) | (apply H.Bh; exact rfl) | (first | apply H.ret | apply H.Be | apply H.Bx))
   refine H.Ae (x := ordH l i) (by repeat constructor) ?_
   refine H.Ae (x := fam (strH l i) 11) (by repeat constructor) ?_
   refine H.Ae (x := row lb _ _) (by repeat constructor) ?_
   refine H.imp (zax i hi) ?_
   refine H.Ah (x := row mb _ _) (by repeat constructor) ?_
   refine H.Aj rfl rfl (fun _ h => h) ⟨?_, rfl, rfl⟩
   unfold chk
   rw [if_neg (by rw [h1]; decide), if_pos h2]
  | true =>
   rw [h2] at hright
   have hsl := strmV_le l o
   have hll := hi.2.1
   have hstr := loreCells_str n l i ho11
   have hlen := strm_lenV l o
   have hchk : chk n (strm (l.map MV.m)) x.m = if x.m.number ≤ ((strmV l o).length : Nat) then 13 else
     if x.m.number = (((strmV l o).length + 1 : Nat) : Int) ∧ 0 < (strmV l o).length ∧ aboveB (lastD (strm (l.map MV.m) o)) x.m.deps = true then 1 else
     if (((strmV l o).length + 1 : Nat) : Int) < x.m.number ∨ aboveB x.m.deps (knownS (strm (l.map MV.m))) = true then 12 else 0 := by
    unfold chk
    rw [if_neg (by rw [h1]; decide), if_neg (by rw [h2]; decide), hoo, hlen]
   by_cases h3 : x.m.number ≤ ((strmV l o).length : Nat)
   ·generalize hs : (strmV l o).length = s at *
    refine Fn.enter Tryz.func23 rfl Tryz.ntmps23 rfl (L := [(0, _), (1, _)]) ⟨rfl, rfl, trivial⟩ fun base => ?_
    repeat ((first | apply H.seq | apply H.Ab))
    refine H.box (ls := x.vals) rfl rfl rfl rfl fun mb => ?_
    repeat (first | ((first | apply H.Ac | apply H.Ad); (iterate 3 exact rfl)) | (first | apply H.seq | apply H.Ab | apply H.nil | apply H.Aa) | ((apply H.Ce); (iterate 5 exact rfl)) | (apply H.Av; exact rfl) | (apply H.Ao))
    refine H.Al (ls := x.vals) rfl rfl rfl (Rd.ofRow (.here _ _ _)) rfl rfl ?_
    refine H.Ae (x := row lb _ _) (by repeat constructor) ?_
    refine H.Am rfl rfl rfl hfits ?_
    refine H.not (b := _) (c := _) rfl rfl rfl rfl ?_
    repeat (first | ((apply H.Ad); (iterate 3 exact rfl)) | (first | apply H.seq | apply H.Ab | apply H.nil | apply H.Aa) | (apply H.Av; exact rfl))
    refine H.Al (ls := x.vals) rfl rfl rfl (Rd.ofRow (.there _ (.here _ _ _))) rfl rfl ?_
    refine H.Am rfl rfl rfl hright ?_
    refine H.not (b := _) (c := _) rfl rfl rfl rfl ?_
    repeat (first | ((apply H.Ad); (iterate 3 exact rfl)) | (first | apply H.seq | apply H.nil | apply H.Aa) | (apply H.Av; exact rfl) | (first | apply H.Ak | apply H.Ba))
    refine H.Bz (by kernel_rfl) (by decide +kernel) (by repeat (first | exact zab | refine zaa ?_ | refine zac ?_ | refine zae ?_)) ?_
    repeat (first | ((first | apply HQ.Ac | apply HQ.Ar); (iterate 3 exact rfl)) | (apply HQ.Ag; (iterate 3 exact rfl); exact inferInstance; exact rfl) | (apply HQ.Af; (iterate 3 exact rfl); apply Rd1.ofRow; (repeat (first | exact .here _ _ _ | apply At.there)); (iterate 2 exact rfl)) | ((apply HQ.ar; (iterate 4 exact rfl)); (with_reducible apply wr_i64; omega); exact rfl))
    refine HQ.Br (i := o) rfl rfl rfl hoz ho11 rfl ?_
    refine HQ.Af rfl rfl rfl (Rd1.at0 (Rd.ofRow (by repeat constructor)) (by rw [Nat.mul_one, Nat.zero_add]; exact hstr)) rfl ?_
    repeat (first | ((apply HQ.Ad); (iterate 3 exact rfl)) | ((apply HQ.Bu); exact rfl))
    repeat (first | ((first | apply H.Ac | apply H.Ad | apply H.Az); (iterate 3 exact rfl)) | (apply H.Ag; (iterate 3 exact rfl); exact inferInstance; exact rfl) | (apply H.Af; (iterate 3 exact rfl); apply Rd1.ofRow; (repeat (first | exact .here _ _ _ | apply At.there)); (iterate 2 exact rfl)) | (first | apply H.seq | apply H.Ab | apply H.nil | apply H.Aa) | ((apply H.cmp); (iterate 5 exact rfl)) | ((apply H.Bp; (iterate 2 exact rfl)); (with_reducible apply wr_u64; omega); exact rfl) | (first | apply H.ret | apply H.Be | apply H.Ao | apply H.Bx) | (apply H.Au; exact rfl; (assumption)))
    refine H.Ae (x := ordH l i) (by repeat constructor) ?_
    refine H.Ae (x := fam (strH l i) 11) (by repeat constructor) ?_
    refine H.Ae (x := row lb _ _) (by repeat constructor) ?_
    refine H.imp (zax i hi) ?_
    refine H.Ah (x := row mb _ _) (by repeat constructor) ?_
    refine H.Aj rfl rfl (fun _ h => h) ⟨?_, rfl, rfl⟩
    rw [hchk, if_pos h3]
   ·by_cases h4 : x.m.number = (((strmV l o).length + 1 : Nat) : Int)
    ·by_cases h0 : 0 < (strmV l o).length
     ·obtain ⟨y, hy⟩ : ∃ y, (strmV l o)[(strmV l o).length - 1]? = some y := ⟨_, List.getElem?_eq_getElem (by omega)⟩
      have hlast : lastD (strm (l.map MV.m) o) = y.m.deps := by
       rw [← strmV_map]
       exact lastD_get (by rw [List.length_map, List.getElem?_map, hy]; rfl)
      rw [hlast] at hchk
      refine Fn.enter Tryz.func23 rfl Tryz.ntmps23 rfl (L := [(0, _), (1, _)]) ⟨rfl, rfl, trivial⟩ fun base => ?_
      repeat ((first | apply H.seq | apply H.Ab))
      refine H.box (ls := x.vals) rfl rfl rfl rfl fun mb => ?_
      repeat (first | ((first | apply H.Ac | apply H.Ad); (iterate 3 exact rfl)) | (first | apply H.seq | apply H.Ab | apply H.nil | apply H.Aa) | ((apply H.Ce); (iterate 5 exact rfl)) | (apply H.Av; exact rfl) | (apply H.Ao))
      refine H.Al (ls := x.vals) rfl rfl rfl (Rd.ofRow (.here _ _ _)) rfl rfl ?_
      refine H.Ae (x := row lb _ _) (by repeat constructor) ?_
      refine H.Am rfl rfl rfl hfits ?_
      refine H.not (b := _) (c := _) rfl rfl rfl rfl ?_
      repeat (first | ((apply H.Ad); (iterate 3 exact rfl)) | (first | apply H.seq | apply H.Ab | apply H.nil | apply H.Aa) | (apply H.Av; exact rfl))
      refine H.Al (ls := x.vals) rfl rfl rfl (Rd.ofRow (.there _ (.here _ _ _))) rfl rfl ?_
      refine H.Am rfl rfl rfl hright ?_
      refine H.not (b := _) (c := _) rfl rfl rfl rfl ?_
      repeat (first | ((apply H.Ad); (iterate 3 exact rfl)) | (first | apply H.seq | apply H.nil | apply H.Aa) | (apply H.Av; exact rfl) | (first | apply H.Ak | apply H.Ba))
      refine H.Ae (x := fam (strH l i) 11) (by repeat constructor) ?_
      refine H.famPull ho11 ?_
      refine H.Cf (p := i.P o) (n0 := (strmV l o).length) (c := i.C o) (.here _ _ _) h0 fun sb hp => ?_
      have hrd : ∀ {f G}, Rd f (strH l i o :: G) sb (((strmV l o).length - 1) * 121 + 2) (v11 y.m.deps) := fun {f G} => by
       unfold strH
       rw [hp]
       exact slc_deps (.here _ _ _) hy
      rw [hp] at hstr
      generalize hs : (strmV l o).length = s at *
      refine H.Ae (x := row lb _ _) (by repeat constructor) ?_
      refine H.Ae (x := row mb _ _) (by repeat constructor) ?_
      refine H.Bz (by kernel_rfl) (by decide +kernel) (by repeat (first | exact zab | refine zaa ?_ | refine zac ?_ | refine zae ?_)) ?_
      repeat (first | ((first | apply HQ.Ac | apply HQ.Ar); (iterate 3 exact rfl)) | (apply HQ.Ag; (iterate 3 exact rfl); exact inferInstance; exact rfl) | (apply HQ.Af; (iterate 3 exact rfl); apply Rd1.ofRow; (repeat (exact .here _ _ _)); (iterate 2 exact rfl)) | ((apply HQ.ar; (iterate 4 exact rfl)); (with_reducible apply wr_i64; omega); exact rfl))
      refine HQ.Br (i := o) rfl rfl rfl hoz ho11 rfl ?_
      refine HQ.Af rfl rfl rfl (Rd1.at0 (Rd.ofRow (by repeat constructor)) (by rw [Nat.mul_one, Nat.zero_add]; exact hstr)) rfl ?_
      repeat (first | ((apply HQ.Ad); (iterate 3 exact rfl)) | ((apply HQ.Bu); exact rfl))
      repeat (first | ((first | apply H.Ac | apply H.Ad | apply H.Az); (iterate 3 exact rfl)) | (apply H.Ag; (iterate 3 exact rfl); exact inferInstance; exact rfl) | (apply H.Af; (iterate 3 exact rfl); apply Rd1.ofRow; (repeat (exact .here _ _ _)); (iterate 2 exact rfl)) | (first | apply H.seq | apply H.Ab | apply H.nil | apply H.Aa) | ((apply H.cmp); (iterate 5 exact rfl)) | ((apply H.Bp; (iterate 2 exact rfl)); (with_reducible apply wr_u64; omega); exact rfl) | (apply H.Ao) | (apply H.Aw; exact rfl; (assumption)))
      refine H.Ae (x := row mb _ _) (by repeat constructor) ?_
      refine H.Ae (x := strH l i o) (by repeat constructor) ?_
      refine H.Bt (by kernel_rfl) (by decide +kernel) (by repeat (first | exact zab | refine zaa ?_ | refine zac ?_ | refine zae ?_)) (S := [_, _]) rfl ?_
      refine HB.Aq [(0, false), (1, false), (2, false), (3, false), (4, false), (5, false), (6, false), (7, false), (8, false), (9, false), (10, false), (11, false), (12, false), (13, false), (14, false), (15, false), (16, false), (17, false)] 3 (by kernel_rfl) ?_
      repeat (first | ((apply HQ.Ac); (iterate 3 exact rfl)) | (apply HQ.Ag; (iterate 3 exact rfl); exact inferInstance; exact rfl) | (apply HQ.Af; (iterate 3 exact rfl); apply Rd1.ofRow; (repeat (first | exact .here _ _ _ | apply At.there)); (iterate 2 exact rfl)) | ((apply HQ.cmp); (iterate 5 exact rfl)) | ((apply HQ.ar; (iterate 4 exact rfl)); (with_reducible apply wr_u64; omega); exact rfl) | (apply HQ.Ax; (iterate 4 exact rfl)) | (apply HQ.Bi; (iterate 3 exact rfl); (first | assumption | omega)))
      refine HQ.Bs (i := s - 1) rfl rfl rfl (by omega) (by omega) rfl ?_
      repeat ((apply HQ.Ag; (iterate 3 exact rfl); exact inferInstance; exact rfl))
      refine HQ.Al (ls := v11 y.m.deps) rfl rfl rfl (by rw [Nat.zero_add]; exact hrd) rfl rfl ?_
      repeat ((apply HQ.Ag; (iterate 3 exact rfl); exact inferInstance; exact rfl))
      refine HQ.Al (ls := v11 x.m.deps) rfl rfl rfl (zak (m := x.m) (q := x.qp) (qc := x.qc) (.there _ (.here _ _ _))) rfl rfl ?_
      refine HQ.Ap rfl ?_
      refine HB.ev1 (i := 18) (by kernel_rfl) rfl ?_
      refine H.Am rfl rfl rfl (above_fn f _ _ _) ?_
      cases hab : aboveB y.m.deps x.m.deps with
      | true =>
       repeat ((apply H.nil))
       refine H.on0 rfl ?_
       refine HB.Aq [(19, false), (20, false)] 0 (by kernel_rfl) ?_
       repeat (first | ((apply HQ.Ad); (iterate 3 exact rfl)) | (apply HQ.Ax; (iterate 4 exact rfl)))
       refine HQ.Ap rfl ?_
       refine HB.Bf (by kernel_rfl) ?_
       repeat (first | ((apply H.Ad); (iterate 3 exact rfl)) | (first | apply H.seq | apply H.Ab | apply H.nil | apply H.Aa) | (apply H.Bh; exact rfl) | (first | apply H.ret | apply H.Be | apply H.Bx))
       refine H.Ae (x := fam (updF (strH l i) o emp) 11) (by repeat constructor) ?_
       refine H.Ae (x := strH l i o) (by repeat constructor) ?_
       refine H.famBack ho11 ?_
       refine H.Ae (x := ordH l i) (by repeat constructor) ?_
       refine H.Ae (x := fam (strH l i) 11) (by repeat constructor) ?_
       refine H.Ae (x := row lb _ _) (by repeat constructor) ?_
       refine H.imp (zax i hi) ?_
       refine H.Ah (x := row mb _ _) (by repeat constructor) ?_
       refine H.Aj rfl rfl (fun _ h => h) ⟨?_, rfl, rfl⟩
       rw [hchk, if_neg h3, if_pos ⟨h4, h0, hab⟩]
      | false =>
       repeat ((apply H.nil))
       refine H.on0 rfl ?_
       refine HB.Aq [(19, false), (20, false)] 0 (by kernel_rfl) ?_
       repeat (first | ((apply HQ.Ad); (iterate 3 exact rfl)) | (apply HQ.Ax; (iterate 4 exact rfl)))
       refine HQ.Ap rfl ?_
       refine HB.Bf (by kernel_rfl) ?_
       repeat (first | ((first | apply H.Ac | apply H.Ad); (iterate 3 exact rfl)) | (apply H.Ag; (iterate 3 exact rfl); exact inferInstance; exact rfl) | (apply H.Af; (iterate 3 exact rfl); apply Rd1.ofRow; (repeat (first | exact .here _ _ _ | apply At.there)); (iterate 2 exact rfl)) | (first | apply H.seq | apply H.Ab | apply H.nil | apply H.Aa) | ((apply H.cmp); (iterate 5 exact rfl)) | ((apply H.ar; (iterate 4 exact rfl)); (with_reducible apply wr_u64; omega); exact rfl) | (apply H.Av; exact rfl) | (apply H.Aw; exact rfl; (omega)))
       refine H.Ae (x := fam (updF (strH l i) o emp) 11) (by repeat constructor) ?_
       refine H.Ae (x := strH l i o) (by repeat constructor) ?_
       refine H.famBack ho11 ?_
       have hc4 : ¬ (x.m.number = ((s + 1 : Nat) : Int) ∧ 0 < s ∧ aboveB y.m.deps x.m.deps = true) := by rintro ⟨_, _, h⟩; rw [hab] at h; cases h
       refine H.Ae (x := ordH l i) (by repeat constructor) ?_
       refine H.Ae (x := fam (strH l i) 11) (by repeat constructor) ?_
       refine H.Ae (x := row lb _ _) (by repeat constructor) ?_
       refine H.imp (zax i hi) ?_
       refine H.Ae (x := row mb _ _) (by repeat constructor) ?_
       refine H.Bt (by kernel_rfl) (by decide +kernel) (by repeat (first | exact zab | refine zaa ?_ | refine zac ?_ | refine zae ?_)) (S := [_]) rfl ?_
       refine HB.Aq [(0, false), (1, false), (2, false)] 3 (by kernel_rfl) ?_
       repeat ((apply HQ.Ag; (iterate 3 exact rfl); exact inferInstance; exact rfl))
       refine HQ.Al (ls := v11 x.m.deps) rfl rfl rfl (zak (m := x.m) (q := x.qp) (qc := x.qc) (.here _ _ _)) rfl rfl ?_
       repeat (((apply HQ.Ac); (iterate 3 exact rfl)))
       refine HQ.Ap rfl ?_
       refine HB.ev1 (i := 3) (by kernel_rfl) rfl ?_
       refine H.Ae (x := loreH _ _ _ _) (by repeat constructor) ?_
       refine H.Am rfl rfl rfl (known_fn f _) ?_
       repeat ((apply H.nil))
       refine H.Ae (x := row mb _ _) (by repeat constructor) ?_
       refine H.on0 rfl ?_
       refine HB.ev1 (i := 4) (by kernel_rfl) rfl ?_
       refine H.Am rfl rfl rfl (above_fn f _ _ _) ?_
       repeat ((apply H.nil))
       refine H.on0 rfl ?_
       refine HB.Aq [(5, false)] 0 (by kernel_rfl) ?_
       repeat (((apply HQ.Ad); (iterate 3 exact rfl)))
       refine HQ.Ap rfl ?_
       refine HB.Bf (by kernel_rfl) ?_
       cases hab : aboveB x.m.deps (knownS (strm (l.map MV.m))) with
       | true =>
        repeat (first | ((apply H.Ad); (iterate 3 exact rfl)) | (first | apply H.seq | apply H.Ab | apply H.nil | apply H.Aa) | (apply H.Bh; exact rfl) | (first | apply H.ret | apply H.Be | apply H.Bx))
        refine H.Ah (.here _ _) ?_
        refine H.Aj rfl rfl (fun _ h => h) ⟨?_, rfl, rfl⟩
        rw [hchk, if_neg (by omega), if_neg hc4, if_pos (.inr hab)]
       | false =>
        repeat (first | ((apply H.Ad); (iterate 3 exact rfl)) | (first | apply H.seq | apply H.Ab | apply H.nil | apply H.Aa) | (apply H.Av; exact rfl) | (first | apply H.Ak | apply H.ret | apply H.Ba))
        refine H.Ah (.here _ _) ?_
        refine H.Aj rfl rfl (fun _ h => h) ⟨?_, rfl, rfl⟩
        rw [hchk, if_neg (by omega), if_neg hc4, if_neg (by rintro (h | h); omega; rw [hab] at h; cases h)]
     ·have hc4 : ¬ (x.m.number = (((strmV l o).length + 1 : Nat) : Int) ∧ 0 < (strmV l o).length ∧ aboveB (lastD (strm (l.map MV.m) o)) x.m.deps = true) := fun h => h0 h.2.1
      generalize hs : (strmV l o).length = s at *
      refine Fn.enter Tryz.func23 rfl Tryz.ntmps23 rfl (L := [(0, _), (1, _)]) ⟨rfl, rfl, trivial⟩ fun base => ?_
      repeat ((first | apply H.seq | apply H.Ab))
      refine H.box (ls := x.vals) rfl rfl rfl rfl fun mb => ?_
      repeat (first | ((first | apply H.Ac | apply H.Ad); (iterate 3 exact rfl)) | (first | apply H.seq | apply H.Ab | apply H.nil | apply H.Aa) | ((apply H.Ce); (iterate 5 exact rfl)) | (apply H.Av; exact rfl) | (apply H.Ao))
      refine H.Al (ls := x.vals) rfl rfl rfl (Rd.ofRow (.here _ _ _)) rfl rfl ?_
      refine H.Ae (x := row lb _ _) (by repeat constructor) ?_
      refine H.Am rfl rfl rfl hfits ?_
      refine H.not (b := _) (c := _) rfl rfl rfl rfl ?_
      repeat (first | ((apply H.Ad); (iterate 3 exact rfl)) | (first | apply H.seq | apply H.Ab | apply H.nil | apply H.Aa) | (apply H.Av; exact rfl))
      refine H.Al (ls := x.vals) rfl rfl rfl (Rd.ofRow (.there _ (.here _ _ _))) rfl rfl ?_
      refine H.Am rfl rfl rfl hright ?_
      refine H.not (b := _) (c := _) rfl rfl rfl rfl ?_
      repeat (first | ((apply H.Ad); (iterate 3 exact rfl)) | (first | apply H.seq | apply H.nil | apply H.Aa) | (apply H.Av; exact rfl) | (first | apply H.Ak | apply H.Ba))
      refine H.Bz (by kernel_rfl) (by decide +kernel) (by repeat (first | exact zab | refine zaa ?_ | refine zac ?_ | refine zae ?_)) ?_
      repeat (first | ((first | apply HQ.Ac | apply HQ.Ar); (iterate 3 exact rfl)) | (apply HQ.Ag; (iterate 3 exact rfl); exact inferInstance; exact rfl) | (apply HQ.Af; (iterate 3 exact rfl); apply Rd1.ofRow; (repeat (first | exact .here _ _ _ | apply At.there)); (iterate 2 exact rfl)) | ((apply HQ.ar; (iterate 4 exact rfl)); (with_reducible apply wr_i64; omega); exact rfl))
      refine HQ.Br (i := o) rfl rfl rfl hoz ho11 rfl ?_
      refine HQ.Af rfl rfl rfl (Rd1.at0 (Rd.ofRow (by repeat constructor)) (by rw [Nat.mul_one, Nat.zero_add]; exact hstr)) rfl ?_
      repeat (first | ((apply HQ.Ad); (iterate 3 exact rfl)) | ((apply HQ.Bu); exact rfl))
      repeat (first | ((first | apply H.Ac | apply H.Ad | apply H.Az); (iterate 3 exact rfl)) | (apply H.Ag; (iterate 3 exact rfl); exact inferInstance; exact rfl) | (apply H.Af; (iterate 3 exact rfl); apply Rd1.ofRow; (repeat (first | exact .here _ _ _ | apply At.there)); (iterate 2 exact rfl)) | (first | apply H.seq | apply H.Ab | apply H.nil | apply H.Aa) | ((apply H.cmp); (iterate 5 exact rfl)) | ((apply H.Bp; (iterate 2 exact rfl)); (with_reducible apply wr_u64; omega); exact rfl) | (apply H.Ao) | (apply H.Aw; exact rfl; (assumption)))
      refine H.Bt (by kernel_rfl) (by decide +kernel) (by repeat (first | exact zab | refine zaa ?_ | refine zac ?_ | refine zae ?_)) (S := [_, _]) rfl ?_
      refine HB.Aq [(0, false), (1, false), (2, false), (3, false), (4, false), (5, false), (6, false), (7, false), (8, false), (9, false), (10, false), (11, false), (12, false), (13, false), (14, false), (15, false), (16, false), (17, false)] 3 (by kernel_rfl) ?_
      repeat (first | ((apply HQ.Ac); (iterate 3 exact rfl)) | (apply HQ.Ag; (iterate 3 exact rfl); exact inferInstance; exact rfl) | (apply HQ.Af; (iterate 3 exact rfl); apply Rd1.ofRow; (repeat (first | exact .here _ _ _ | apply At.there)); (iterate 2 exact rfl)) | ((apply HQ.cmp); (iterate 5 exact rfl)) | ((apply HQ.ar; (iterate 4 exact rfl)); (with_reducible apply wr_u64; omega); exact rfl) | (apply HQ.Bd; (iterate 2 exact rfl)) | (apply HQ.Ax; (iterate 4 exact rfl)) | (apply HQ.Bi; (iterate 3 exact rfl); (assumption)) | (apply HQ.gno; (iterate 3 exact rfl); (omega)))
      refine HQ.Ap rfl ?_
      refine HB.ev1 (i := 18) (by kernel_rfl) rfl ?_
      repeat (first | (apply H.nil) | (apply H.Bd; (iterate 2 exact rfl)))
      refine H.on0 rfl ?_
      refine HB.Aq [(19, false), (20, false)] 0 (by kernel_rfl) ?_
      repeat (first | ((apply HQ.Ad); (iterate 3 exact rfl)) | ((apply HQ.Ay); (iterate 4 exact rfl)))
      refine HQ.Ap rfl ?_
      refine HB.Bf (by kernel_rfl) ?_
      repeat (first | ((first | apply H.Ac | apply H.Ad); (iterate 3 exact rfl)) | (apply H.Ag; (iterate 3 exact rfl); exact inferInstance; exact rfl) | (apply H.Af; (iterate 3 exact rfl); apply Rd1.ofRow; (repeat (first | exact .here _ _ _ | apply At.there)); (iterate 2 exact rfl)) | (first | apply H.seq | apply H.Ab | apply H.nil | apply H.Aa) | ((apply H.cmp); (iterate 5 exact rfl)) | ((apply H.ar; (iterate 4 exact rfl)); (with_reducible apply wr_u64; omega); exact rfl) | (apply H.Av; exact rfl) | (apply H.Aw; exact rfl; (omega)))
      refine H.Ae (x := ordH l i) (by repeat constructor) ?_
      refine H.Ae (x := fam (strH l i) 11) (by repeat constructor) ?_
      refine H.Ae (x := row lb _ _) (by repeat constructor) ?_
      refine H.imp (zax i hi) ?_
      refine H.Ae (x := row mb _ _) (by repeat constructor) ?_
      refine H.Bt (by kernel_rfl) (by decide +kernel) (by repeat (first | exact zab | refine zaa ?_ | refine zac ?_ | refine zae ?_)) (S := [_]) rfl ?_
      refine HB.Aq [(0, false), (1, false), (2, false)] 3 (by kernel_rfl) ?_
      repeat ((apply HQ.Ag; (iterate 3 exact rfl); exact inferInstance; exact rfl))
      refine HQ.Al (ls := v11 x.m.deps) rfl rfl rfl (zak (m := x.m) (q := x.qp) (qc := x.qc) (.here _ _ _)) rfl rfl ?_
      repeat (((apply HQ.Ac); (iterate 3 exact rfl)))
      refine HQ.Ap rfl ?_
      refine HB.ev1 (i := 3) (by kernel_rfl) rfl ?_
      refine H.Ae (x := loreH _ _ _ _) (by repeat constructor) ?_
      refine H.Am rfl rfl rfl (known_fn f _) ?_
      repeat ((apply H.nil))
      refine H.Ae (x := row mb _ _) (by repeat constructor) ?_
      refine H.on0 rfl ?_
      refine HB.ev1 (i := 4) (by kernel_rfl) rfl ?_
      refine H.Am rfl rfl rfl (above_fn f _ _ _) ?_
      repeat ((apply H.nil))
      refine H.on0 rfl ?_
      refine HB.Aq [(5, false)] 0 (by kernel_rfl) ?_
      repeat (((apply HQ.Ad); (iterate 3 exact rfl)))
      refine HQ.Ap rfl ?_
      refine HB.Bf (by kernel_rfl) ?_
      cases hab : aboveB x.m.deps (knownS (strm (l.map MV.m))) with
      | true =>
       repeat (first | ((apply H.Ad); (iterate 3 exact rfl)) | (first | apply H.seq | apply H.Ab | apply H.nil | apply H.Aa) | (apply H.Bh; exact rfl) | (first | apply H.ret | apply H.Be | apply H.Bx))
       refine H.Ah (.here _ _) ?_
       refine H.Aj rfl rfl (fun _ h => h) ⟨?_, rfl, rfl⟩
       rw [hchk, if_neg (by omega), if_neg hc4, if_pos (.inr hab)]
      | false =>
       repeat (first | ((apply H.Ad); (iterate 3 exact rfl)) | (first | apply H.seq | apply H.Ab | apply H.nil | apply H.Aa) | (apply H.Av; exact rfl) | (first | apply H.Ak | apply H.ret | apply H.Ba))
       refine H.Ah (.here _ _) ?_
       refine H.Aj rfl rfl (fun _ h => h) ⟨?_, rfl, rfl⟩
       rw [hchk, if_neg (by omega), if_neg hc4, if_neg (by rintro (h | h); omega; rw [hab] at h; cases h)]
    ·have hc4 : ¬ (x.m.number = (((strmV l o).length + 1 : Nat) : Int) ∧ 0 < (strmV l o).length ∧ aboveB (lastD (strm (l.map MV.m) o)) x.m.deps = true) := fun h => h4 h.1
     generalize hs : (strmV l o).length = s at *
     refine Fn.enter Tryz.func23 rfl Tryz.ntmps23 rfl (L := [(0, _), (1, _)]) ⟨rfl, rfl, trivial⟩ fun base => ?_
     repeat ((first | apply H.seq | apply H.Ab))
     refine H.box (ls := x.vals) rfl rfl rfl rfl fun mb => ?_
     repeat (first | ((first | apply H.Ac | apply H.Ad); (iterate 3 exact rfl)) | (first | apply H.seq | apply H.Ab | apply H.nil | apply H.Aa) | ((apply H.Ce); (iterate 5 exact rfl)) | (apply H.Av; exact rfl) | (apply H.Ao))
     refine H.Al (ls := x.vals) rfl rfl rfl (Rd.ofRow (.here _ _ _)) rfl rfl ?_
     refine H.Ae (x := row lb _ _) (by repeat constructor) ?_
     refine H.Am rfl rfl rfl hfits ?_
     refine H.not (b := _) (c := _) rfl rfl rfl rfl ?_
     repeat (first | ((apply H.Ad); (iterate 3 exact rfl)) | (first | apply H.seq | apply H.Ab | apply H.nil | apply H.Aa) | (apply H.Av; exact rfl))
     refine H.Al (ls := x.vals) rfl rfl rfl (Rd.ofRow (.there _ (.here _ _ _))) rfl rfl ?_
     refine H.Am rfl rfl rfl hright ?_
     refine H.not (b := _) (c := _) rfl rfl rfl rfl ?_
     repeat (first | ((apply H.Ad); (iterate 3 exact rfl)) | (first | apply H.seq | apply H.nil | apply H.Aa) | (apply H.Av; exact rfl) | (first | apply H.Ak | apply H.Ba))
     refine H.Bz (by kernel_rfl) (by decide +kernel) (by repeat (first | exact zab | refine zaa ?_ | refine zac ?_ | refine zae ?_)) ?_
     repeat (first | ((first | apply HQ.Ac | apply HQ.Ar); (iterate 3 exact rfl)) | (apply HQ.Ag; (iterate 3 exact rfl); exact inferInstance; exact rfl) | (apply HQ.Af; (iterate 3 exact rfl); apply Rd1.ofRow; (repeat (first | exact .here _ _ _ | apply At.there)); (iterate 2 exact rfl)) | ((apply HQ.ar; (iterate 4 exact rfl)); (with_reducible apply wr_i64; omega); exact rfl))
     refine HQ.Br (i := o) rfl rfl rfl hoz ho11 rfl ?_
     refine HQ.Af rfl rfl rfl (Rd1.at0 (Rd.ofRow (by repeat constructor)) (by rw [Nat.mul_one, Nat.zero_add]; exact hstr)) rfl ?_
     repeat (first | ((apply HQ.Ad); (iterate 3 exact rfl)) | ((apply HQ.Bu); exact rfl))
     repeat (first | ((first | apply H.Ac | apply H.Ad | apply H.Az); (iterate 3 exact rfl)) | (apply H.Ag; (iterate 3 exact rfl); exact inferInstance; exact rfl) | (apply H.Af; (iterate 3 exact rfl); apply Rd1.ofRow; (repeat (first | exact .here _ _ _ | apply At.there)); (iterate 2 exact rfl)) | (first | apply H.seq | apply H.Ab | apply H.nil | apply H.Aa) | ((apply H.cmp); (iterate 5 exact rfl)) | ((apply H.Bp; (iterate 2 exact rfl)); (with_reducible apply wr_u64; omega); exact rfl) | (apply H.Ao) | (apply H.Aw; exact rfl; (assumption)))
     refine H.Bt (by kernel_rfl) (by decide +kernel) (by repeat (first | exact zab | refine zaa ?_ | refine zac ?_ | refine zae ?_)) (S := [_, _]) rfl ?_
     refine HB.Aq [(0, false), (1, false), (2, false), (3, false), (4, false), (5, false), (6, false), (7, false), (8, false), (9, false), (10, false), (11, false), (12, false), (13, false), (14, false), (15, false), (16, false), (17, false)] 3 (by kernel_rfl) ?_
     repeat (first | ((apply HQ.Ac); (iterate 3 exact rfl)) | (apply HQ.Ag; (iterate 3 exact rfl); exact inferInstance; exact rfl) | (apply HQ.Af; (iterate 3 exact rfl); apply Rd1.ofRow; (repeat (first | exact .here _ _ _ | apply At.there)); (iterate 2 exact rfl)) | ((apply HQ.cmp); (iterate 5 exact rfl)) | ((apply HQ.ar; (iterate 4 exact rfl)); (with_reducible apply wr_u64; omega); exact rfl) | (apply HQ.Bd; (iterate 2 exact rfl)) | ((apply HQ.Ay); (iterate 4 exact rfl)) | (apply HQ.gno; (iterate 3 exact rfl); (assumption)))
     refine HQ.Ap rfl ?_
     refine HB.ev1 (i := 18) (by kernel_rfl) rfl ?_
     repeat (first | (apply H.nil) | (apply H.Bd; (iterate 2 exact rfl)))
     refine H.on0 rfl ?_
     refine HB.Aq [(19, false), (20, false)] 0 (by kernel_rfl) ?_
     repeat (first | ((apply HQ.Ad); (iterate 3 exact rfl)) | ((apply HQ.Ay); (iterate 4 exact rfl)))
     refine HQ.Ap rfl ?_
     refine HB.Bf (by kernel_rfl) ?_
     repeat (first | ((first | apply H.Ac | apply H.Ad); (iterate 3 exact rfl)) | (apply H.Ag; (iterate 3 exact rfl); exact inferInstance; exact rfl) | (apply H.Af; (iterate 3 exact rfl); apply Rd1.ofRow; (repeat (first | exact .here _ _ _ | apply At.there)); (iterate 2 exact rfl)) | (first | apply H.seq | apply H.Ab | apply H.nil | apply H.Aa) | ((apply H.cmp); (iterate 5 exact rfl)) | ((apply H.ar; (iterate 4 exact rfl)); (with_reducible apply wr_u64; omega); exact rfl) | (apply H.Av; exact rfl) | (first | apply H.Ak | apply H.ret | apply H.Be | apply H.Bx) | (apply H.Au; exact rfl; (omega)))
     refine H.Ae (x := ordH l i) (by repeat constructor) ?_
     refine H.Ae (x := fam (strH l i) 11) (by repeat constructor) ?_
     refine H.Ae (x := row lb _ _) (by repeat constructor) ?_
     refine H.imp (zax i hi) ?_
     refine H.Ah (x := row mb _ _) (by repeat constructor) ?_
     refine H.Aj rfl rfl (fun _ h => h) ⟨?_, rfl, rfl⟩
     rw [hchk, if_neg (by omega), if_neg hc4, if_pos (.inl (by omega))]
end
def nmE (k : Nm) : Value := .agg (nmV k).toArray
instance keyW : KeyT Tryz.prog 136 nmE := keyT_agg (cellsK := nmV) (D := 4) (by kernel_rfl) (fun k => by kernel_rfl) (by decide) (fun a b => by
  obtain ⟨a1, a2⟩ := a
  obtain ⟨b1, b2⟩ := b
  show (a1 == b1 && (a2 == b2 && true)) = _
  by_cases h1 : a1 = b1 <;> by_cases h2 : a2 = b2 <;> simp [h1, h2]) (fun k => rfl)
def entV (x : MV) : Nm × Value := (keyM x.m, .agg x.vals.toArray)
structure Waitφ (f : Frag) (ws : List MV) : Prop where
 g : ∀ x ∈ ws, x.Good f
 pos : ∀ x ∈ ws, 0 ≤ x.m.number
 ku : KU (ws.map MV.m)
 len : ws.length ≤ 100000
def waitH (f : Frag) (wb : Nat) (ws : List MV) : HP := pack (fun _ : Nat => Waitφ f ws) (fun b => [row wb 131 [.map (some b)], mp b nmE (ws.map entV)])
theorem Waitφ.mono {f g : Frag} (h : Le f g) {ws : List MV} (hl : Waitφ f ws) : Waitφ g ws := ⟨fun x hx => (hl.g x hx).mono h, hl.pos, hl.ku, hl.len⟩
theorem waitH_mono {f g : Frag} (h : Le f g) {wb : Nat} {ws : List MV} : ∀ x, waitH f wb ws x → waitH g wb ws x := fun x ⟨i, hi, hx⟩ => ⟨i, hi.mono h, hx⟩
theorem zbi {fl : Frag} {F : List HP} {wb : Nat} {ws : List MV} (b : Nat) (h : Waitφ fl ws) : ∀ x, stars (row wb 131 [.map (some b)] :: mp b nmE (ws.map entV) :: F) x → stars (waitH fl wb ws :: F) x := fun x hx =>
 pack_fold (ι := Nat) (φ := fun _ : Nat => Waitφ fl ws) (B := fun b => [row wb 131 [.map (some b)], mp b nmE (ws.map entV)]) b h x hx
theorem wait_up {f g : Frag} (h : Le f g) {F : List HP} {wb : Nat} {ws : List MV} : ∀ x, stars (waitH f wb ws :: F) x → stars (waitH g wb ws :: F) x := fun _ ⟨m1, m2, d, e, a, r⟩ => ⟨m1, m2, d, e, waitH_mono h _ a, r⟩
theorem ent_mem {ws : List MV} {es : List (Nm × Value × Nat)} (hes : es.map kvOf = ws.map entV) {e : Nm × Value × Nat} (he : e ∈ es) : ∃ x ∈ ws, e.1 = keyM x.m ∧ e.2.1 = .agg x.vals.toArray := by
 have h1 : kvOf e ∈ ws.map entV := by rw [← hes]; exact List.mem_map_of_mem he
 obtain ⟨x, hx, h2⟩ := List.mem_map.1 h1
 exact ⟨x, hx, (congrArg (·.1) h2).symm, (congrArg (·.2) h2).symm⟩
theorem ent_of {ws : List MV} {es : List (Nm × Value × Nat)} (hes : es.map kvOf = ws.map entV) {x : MV} (hx : x ∈ ws) : ∃ e ∈ es, e.1 = keyM x.m := by
 have h1 : entV x ∈ es.map kvOf := by rw [hes]; exact List.mem_map_of_mem hx
 obtain ⟨e, he, h2⟩ := List.mem_map.1 h1
 exact ⟨e, he, congrArg (·.1) h2⟩
theorem ent_keys (ws : List MV) : (ws.map entV).map (·.1) = (ws.map MV.m).map keyM := by
 rw [List.map_map, List.map_map]; rfl
theorem ent_filter (ws : List MV) (k : Nm) : (ws.map entV).filter (fun e => !decide (k = e.1)) = (ws.filter fun x => !decide (k = keyM x.m)).map entV := by
 rw [List.filter_map]; rfl
structure GR (ds : List Msg) (o : Int) (k : Nm) : Prop where
 zero : cntO ds o = 0 → k = (0, 0)
 pos : 0 < cntO ds o → ∃ t, Top ds o t ∧ k = keyM t
theorem GR.nil (o : Int) : GR [] o (0, 0) := ⟨fun _ => rfl, fun h => absurd h (Nat.lt_irrefl 0)⟩
theorem cntO_pos {ds : List Msg} {o : Int} {y : Msg} (hy : y ∈ ds) (ho : y.origin = o) : 0 < cntO ds o := by
 unfold cntO
 exact List.length_pos_of_mem (List.mem_filter.2 ⟨hy, decide_eq_true ho⟩)
theorem GR.skip {ds : List Msg} {o : Int} {k : Nm} {x : Msg} (h : GR ds o k) (hx : x.origin ≠ o) : GR (x :: ds) o k := by
 have e : cntO (x :: ds) o = cntO ds o := by rw [cntO_cons, if_neg hx]; rfl
 refine ⟨fun h0 => h.zero (by rw [← e]; exact h0), fun h0 => ?_⟩
 obtain ⟨t, ht, hk⟩ := h.pos (by rw [← e]; exact h0)
 refine ⟨t, ⟨List.mem_cons_of_mem _ ht.mem, ht.org, fun y hy ho => ?_⟩, hk⟩
 rcases List.mem_cons.1 hy with h1 | h1
 ·exact absurd (by rw [← h1]; exact ho) hx
 ·exact ht.max y h1 ho
theorem GR.take {ds : List Msg} {o : Int} {k : Nm} {x : Msg} (h : GR ds o k) (hx : x.origin = o) (hk : k.2 ≤ x.number) : GR (x :: ds) o (keyM x) := by
 have e : cntO (x :: ds) o = cntO ds o + 1 := by rw [cntO_cons, if_pos hx]
 refine ⟨fun h0 => by omega, fun _ => ⟨x, ⟨by simp, hx, fun y hy ho => ?_⟩, rfl⟩⟩
 rcases List.mem_cons.1 hy with h1 | h1
 ·rw [h1]; exact Int.le_refl _
 ·obtain ⟨t, ht, e2⟩ := h.pos (cntO_pos h1 ho)
  have := ht.max y h1 ho
  rw [e2] at hk
  exact Int.le_trans this hk
theorem GR.keep {ds : List Msg} {o : Int} {k : Nm} {x : Msg} (h : GR ds o k) (hx : x.origin = o) (hk : x.number < k.2) (h0 : 0 ≤ x.number) : GR (x :: ds) o k := by
 have e : cntO (x :: ds) o = cntO ds o + 1 := by rw [cntO_cons, if_pos hx]
 refine ⟨fun h0 => by omega, fun _ => ?_⟩
 by_cases hz : cntO ds o = 0
 ·rw [h.zero hz] at hk
  have hk : x.number < 0 := hk
  omega
 ·obtain ⟨t, ht, e2⟩ := h.pos (by omega)
  refine ⟨t, ⟨List.mem_cons_of_mem _ ht.mem, ht.org, fun y hy ho => ?_⟩, e2⟩
  rcases List.mem_cons.1 hy with h1 | h1
  ·rw [e2] at hk
   have hk : x.number < t.number := hk
   rw [h1]; omega
  ·exact ht.max y h1 ho
theorem KU.perm_of {ws ds : List Msg} (hku : KU ws) (hds : (ds.map keyM).Nodup) (h1 : ∀ x ∈ ds, x ∈ ws) (h2 : ∀ x ∈ ws, keyM x ∈ ds.map keyM) : ds.Perm ws := by
 have hn : ∀ l : List Msg, (l.map keyM).Nodup → l.Nodup := fun l h => by
  induction l with
  | nil => exact List.nodup_nil
  | cons a l ih =>
   have h' := List.nodup_cons.1 h
   exact List.nodup_cons.2 ⟨fun hm => h'.1 (List.mem_map_of_mem hm), ih h'.2⟩
 refine (List.perm_ext_iff_of_nodup (hn ds hds) (hn ws hku)).2 fun x => ⟨h1 x, fun hx => ?_⟩
 obtain ⟨y, hy, e⟩ := List.mem_map.1 (h2 x hx)
 rw [← hku.same (h1 y hy) hx e]
 exact hy
theorem GR.perm {a b : List Msg} (p : a.Perm b) {o : Int} {k : Nm} (h : GR a o k) : GR b o k := by
 refine ⟨fun h0 => h.zero (by rw [cntO_perm p]; exact h0), fun h0 => ?_⟩
 obtain ⟨t, ht, e⟩ := h.pos (by rw [cntO_perm p]; exact h0)
 exact ⟨t, ht.perm p, e⟩
theorem cntO_le (ds : List Msg) (o : Int) : cntO ds o ≤ ds.length := List.length_filter_le _ _
section
variable (f : Frag) (F : List HP)
theorem wnew_fn : Fn Tryz.prog 36 [] f F (RetE (fun wb : Nat => .pointer (some ⟨wb, 0, none⟩)) f (fun wb => waitH f wb [] :: F)) := by
 refine Fn.enter Tryz.func36 rfl Tryz.ntmps36 rfl (L := []) trivial fun base => ?_
 repeat (first | ((apply H.Ad); (iterate 3 exact rfl)) | (first | apply H.seq | apply H.Ab | apply H.nil | apply H.Aa))
 refine H.makeMap nmE rfl rfl fun b => ?_
 repeat ((refine H.By (out := [.map (some b)]) rfl rfl rfl (by kernel_rfl) rfl ?_))
 refine H.box (ls := [.map (some b)]) rfl rfl rfl rfl fun wb => ?_
 repeat (first | ((apply H.Ad); (iterate 3 exact rfl)) | (first | apply H.nil | apply H.Aa) | (apply H.ret))
 refine H.imp (zbi (fl := f) (ws := []) b ⟨fun x hx => (by cases hx), fun x hx => (by cases hx), List.nodup_nil, Nat.zero_le _⟩) ?_
 exact H.Aj rfl rfl (fun _ h => h) ⟨wb, rfl, rfl, rfl⟩
theorem wlen_fn {fl : Frag} {wb : Nat} {ws : List MV} : Fn Tryz.prog 41 [.pointer (some ⟨wb, 0, none⟩)] f (waitH fl wb ws :: F) (Ret (.int .i64 (ws.length : Nat)) f (waitH fl wb ws :: F)) := by
 refine Fn.unpack fun b hb => ?_
 refine Fn.enter Tryz.func41 rfl Tryz.ntmps41 rfl (L := [(0, _)]) ⟨rfl, trivial⟩ fun base => ?_
 repeat (first | ((first | apply H.Ac | apply H.Ad | apply H.Ar); (iterate 3 exact rfl)) | (apply H.Ag; (iterate 3 exact rfl); exact inferInstance; exact rfl) | (apply H.Af; (iterate 3 exact rfl); apply Rd1.ofRow; (repeat (exact .here _ _ _)); (iterate 2 exact rfl)) | (first | apply H.seq | apply H.Ab | apply H.nil | apply H.Aa) | ((apply H.Ce); (iterate 5 exact rfl)) | (apply H.Av; exact rfl) | (apply H.Ak))
 refine H.len_map rfl rfl (by repeat constructor) rfl ?_
 rw [List.length_map]
 repeat (first | ((apply H.Ad); (iterate 3 exact rfl)) | (first | apply H.nil | apply H.Aa) | (apply H.ret))
 refine H.imp (zbi b hb) ?_
 exact H.Aj rfl rfl (fun _ h => h) ⟨rfl, rfl, rfl⟩
theorem wopen_fn {e : Int} : Fn Tryz.prog 65 [.int .i64 e] f F (Ret (.bool (openZ e)) f F) := by
 refine Fn.enter Tryz.func65 rfl Tryz.ntmps65 rfl (L := [(0, _)]) ⟨rfl, trivial⟩ fun base => ?_
 by_cases h1 : e = 0
 ·subst h1
  repeat (first | ((first | apply H.Ac | apply H.Ad); (iterate 3 exact rfl)) | (first | apply H.seq | apply H.Ab | apply H.nil | apply H.Aa) | ((apply H.cmp); (iterate 5 exact rfl)) | (apply H.Bd; (iterate 2 exact rfl)) | (apply H.Ax; (iterate 4 exact rfl)) | (apply H.ret))
  exact H.Aj rfl rfl (fun _ h => h) ⟨rfl, rfl, rfl⟩
 ·by_cases h2 : e = 12
  ·subst h2
   repeat (first | ((first | apply H.Ac | apply H.Ad); (iterate 3 exact rfl)) | (first | apply H.seq | apply H.Ab | apply H.nil | apply H.Aa) | ((apply H.cmp); (iterate 5 exact rfl)) | ((apply H.Ay); (iterate 4 exact rfl)) | (apply H.ret))
   exact H.Aj rfl rfl (fun _ h => h) ⟨rfl, rfl, rfl⟩
  ·have h3 : openZ e = false := by unfold openZ; rw [decide_eq_false h1, decide_eq_false h2]; rfl
   rw [h3]
   repeat (first | ((first | apply H.Ac | apply H.Ad); (iterate 3 exact rfl)) | (first | apply H.seq | apply H.Ab | apply H.nil | apply H.Aa) | ((apply H.cmp); (iterate 5 exact rfl)) | ((apply H.Ay); (iterate 4 exact rfl)) | (apply H.ret) | (apply H.gno; (iterate 3 exact rfl); (assumption)))
   refine H.Aj rfl rfl (fun _ h => h) ⟨?_, rfl, rfl⟩
   rw [decide_eq_false h2]
set_option maxRecDepth 20000 in
theorem greatest_fn {wb b : Nat} {ws : List MV} {o : Int} (hku : KU (ws.map MV.m)) (hpos : ∀ x ∈ ws, 0 ≤ x.m.number) (hlen : ws.length ≤ 100000) :
  Fn Tryz.prog 69 [.pointer (some ⟨wb, 0, none⟩), .int .i64 o] f (mp b nmE (ws.map entV) :: row wb 131 [.map (some b)] :: F)
  (fun v f' A' => ∃ k : Nm, GR (ws.map MV.m) o k ∧ v = .tuple #[.agg (nmV k).toArray, .int .i64 ((cntO (ws.map MV.m) o : Nat) : Int)] ∧ f' = f ∧ A' = mp b nmE (ws.map entV) :: row wb 131 [.map (some b)] :: F) := by
 refine Fn.openMap fun es clock hes => ?_
 have hun0 : ([] : List Msg).length + unsE es (([] : List Msg).map keyM) ≤ 100000 := by
  have h1 : unsE es (([] : List Msg).map keyM) ≤ es.length := List.length_filter_le _ _
  have h2 := congrArg List.length hes
  rw [List.length_map, List.length_map] at h2
  show 0 + _ ≤ _
  omega
 refine Fn.enter Tryz.func69 rfl Tryz.ntmps69 rfl (L := [(0, _), (1, _)]) ⟨rfl, rfl, trivial⟩ fun base => ?_
 repeat ((first | apply H.seq | apply H.Ab))
 refine H.Bg (ls := nmV (0, 0)) rfl rfl rfl fun kb => ?_
 repeat (first | ((first | apply H.Ac | apply H.Ad | apply H.Ar); (iterate 3 exact rfl)) | (apply H.Ag; (iterate 3 exact rfl); exact inferInstance; exact rfl) | (apply H.Af; (iterate 3 exact rfl); apply Rd1.ofRow; (repeat (first | exact .here _ _ _ | apply At.there)); (iterate 2 exact rfl)) | (first | apply H.seq | apply H.Ab | apply H.nil | apply H.Aa))
 refine H.range rfl rfl (by repeat constructor) rfl fun rb => ?_
 repeat (first | (first | apply H.nil | apply H.Aa) | (apply H.Ao))
 refine H.Bo (ι := List Msg × Nm) (fun i => [(11, .pointer (some ⟨rb, 0, none⟩)), (0, .pointer (some ⟨wb, 0, none⟩)), (1, .int .i64 o), (5, .int .i64 ((cntO i.1 o : Nat) : Int)), (4, .pointer (some ⟨kb, 0, none⟩))]) (fun _ => f)
  (fun i => itr rb b es clock (i.1.map keyM) :: row kb 136 (nmV i.2) :: mpS b nmE es clock :: row wb 131 [.map (some b)] :: F)
  (fun i => (∀ y ∈ i.1, y ∈ ws.map MV.m) ∧ (i.1.map keyM).Nodup ∧ GR i.1 o i.2 ∧ i.1.length + unsE es (i.1.map keyM) ≤ 100000) (fun i => unsE es (i.1.map keyM)) ([], (0, 0)) ⟨fun _ h => (by cases h), List.nodup_nil, GR.nil o, hun0⟩ ⟨rfl, rfl, rfl, rfl, rfl, trivial⟩ rfl rfl fun i hi => ?_
 obtain ⟨ds, k⟩ := i
 obtain ⟨hsub, hnd, hgr, hun⟩ : (∀ y ∈ ds, y ∈ ws.map MV.m) ∧ (ds.map keyM).Nodup ∧ GR ds o k ∧ ds.length + unsE es (ds.map keyM) ≤ 100000 := hi
 show H _ _ _ [_, _, _, (5, .int .i64 ((cntO ds o : Nat) : Int)), _] _ (itr rb b es clock (ds.map keyM) :: row kb _ (nmV k) :: _) _
 repeat ((first | apply H.seq | apply H.Ab))
 refine H.next rfl rfl (by repeat constructor) (by repeat constructor) (fun _ => (by repeat constructor)) rfl (fun hend => ?_) (fun e he hns => ?_)
 ·have hp : ds.Perm (ws.map MV.m) := hku.perm_of hnd hsub fun x hx => by
   obtain ⟨y, hy, rfl⟩ := List.mem_map.1 hx
   obtain ⟨e, he, e1⟩ := ent_of hes hy
   rw [← e1]; exact hend e he
  repeat (first | (first | apply H.seq | apply H.Ab | apply H.nil | apply H.Aa) | ((apply H.Cc); (iterate 4 exact rfl)) | (apply H.Av; exact rfl) | (first | apply H.Bl | apply H.Bj | apply H.Bk | apply H.Bm))
  refine H.Ah (x := itr _ _ _ _ _) (by repeat constructor) ?_
  refine H.Al (ls := nmV k) rfl rfl rfl (Rd.ofRow (by repeat constructor)) rfl rfl ?_
  repeat (((apply H.Ac); (iterate 3 exact rfl)))
  refine H.Bb (ls := nmV k) (vs := nmV k) (ls' := nmV k) rfl rfl rfl (nmV_one k) rfl rfl (Nat.le_refl 2) (by repeat constructor) ?_
  repeat (first | ((apply H.Ad); (iterate 3 exact rfl)) | (first | apply H.nil | apply H.Aa) | (apply H.ret))
  refine H.Ae (x := mpS _ _ _ _) (by repeat constructor) ?_
  refine H.imp mpS_fold ?_
  rw [hes]
  refine H.Ae (x := row kb _ _) (by repeat constructor) ?_
  exact H.retCT (ls := nmV k) rfl rfl rfl rfl (Rd.ofRow (.here _ _ _)) rfl (fun _ s => s.drop (.here _ _)) ⟨k, hgr.perm hp, by rw [cntO_perm hp], rfl, rfl⟩
 ·obtain ⟨ek, ev, st⟩ := e
  obtain ⟨x, hx, e1, e2⟩ := ent_mem hes he
  have e1 : ek = keyM x.m := e1
  have e2 : ev = .agg x.vals.toArray := e2
  subst e1; subst e2
  have hxp := hpos x hx
  have hle := cntO_le ds o
  have hdl : ds.length ≤ 100000 := by omega
  have hns : keyM x.m ∉ ds.map keyM := hns
  repeat (first | (first | apply H.seq | apply H.Ab | apply H.nil | apply H.Aa) | ((apply H.Cc); (iterate 4 exact rfl)) | (apply H.Bh; exact rfl) | (first | apply H.Ak | apply H.Ao))
  refine H.entry rfl rfl (by repeat constructor) (by repeat constructor) he rfl ?_
  repeat (((apply H.Cc); (iterate 4 exact rfl)))
  refine H.Bg (ls := nmV (0, 0)) rfl rfl rfl fun xb => ?_
  refine H.Bb (ls := nmV (0, 0)) (vs := nmV (keyM x.m)) (ls' := nmV (keyM x.m)) rfl rfl rfl (nmV_one _) rfl rfl (Nat.le_refl 2) (.here _ _ _) ?_
  have hlt2 := unsE_lt (e := (keyM x.m, Value.agg x.vals.toArray, st)) he hns
  have hlt3 : unsE es ((x.m :: ds).map keyM) < unsE es (ds.map keyM) := hlt2
  clear hlt2
  by_cases ho : x.m.origin = o
  ·have hcn : cntO (x.m :: ds) o = cntO ds o + 1 := by rw [cntO_cons, if_pos ho]
   by_cases hk : k.2 ≤ x.m.number
   ·have hgr2 := hgr.take ho hk
    repeat (first | ((first | apply H.Ac | apply H.Ad); (iterate 3 exact rfl)) | (apply H.Ag; (iterate 3 exact rfl); exact inferInstance; exact rfl) | (apply H.Af; (iterate 3 exact rfl); apply Rd1.ofRow; (repeat (first | exact .here _ _ _ | apply At.there)); (iterate 2 exact rfl)) | (first | apply H.seq | apply H.Ab | apply H.nil | apply H.Aa) | ((apply H.cmp); (iterate 5 exact rfl)) | ((apply H.ar; (iterate 4 exact rfl)); (with_reducible apply zag; omega); exact rfl) | (apply H.Au; exact rfl; (assumption)))
    refine H.Al (ls := nmV (keyM x.m)) rfl rfl rfl (Rd.ofRow (.here _ _ _)) rfl rfl ?_
    refine H.Bb (ls := nmV k) (vs := nmV (keyM x.m)) (ls' := nmV (keyM x.m)) rfl rfl rfl (nmV_one _) rfl rfl (Nat.le_refl 2) (by repeat constructor) ?_
    repeat (first | (apply H.nil) | (apply H.Ba))
    refine H.Ah (x := row xb _ _) (by repeat constructor) ?_
    exact H.Bc (x.m :: ds, keyM x.m) ⟨fun y hy => by
      rcases List.mem_cons.1 hy with h | h
      ·rw [h]; exact List.mem_map_of_mem hx
      ·exact hsub y h, List.nodup_cons.2 ⟨hns, hnd⟩, hgr2, by show ds.length + 1 + unsE es ((x.m :: ds).map keyM) ≤ 100000; omega⟩ hlt3 ⟨rfl, rfl, rfl, by show look? _ _ = some (Value.int .i64 ((cntO (x.m :: ds) o : Nat) : Int)); rw [hcn]; rfl, rfl, trivial⟩ rfl rfl
   ·have hgr2 := hgr.keep ho (by omega) hxp
    obtain ⟨kk2, hkk⟩ : ∃ kk2, kk2 = k := ⟨_, rfl⟩
    repeat (first | ((first | apply H.Ac | apply H.Ad); (iterate 3 exact rfl)) | (apply H.Ag; (iterate 3 exact rfl); exact inferInstance; exact rfl) | (apply H.Af; (iterate 3 exact rfl); apply Rd1.ofRow; (repeat (first | exact .here _ _ _ | apply At.there)); (iterate 2 exact rfl)) | (first | apply H.seq | apply H.Ab | apply H.nil | apply H.Aa) | ((apply H.cmp); (iterate 5 exact rfl)) | ((apply H.ar; (iterate 4 exact rfl)); (with_reducible apply zag; omega); exact rfl) | (first | apply H.Ak | apply H.Ba) | (apply H.Au; exact rfl; (assumption)) | (apply H.Aw; exact rfl; (assumption)))
    rw [← hkk] at hgr2 ⊢
    refine H.Ah (x := row xb _ _) (by repeat constructor) ?_
    exact H.Bc (x.m :: ds, kk2) ⟨fun y hy => by
      rcases List.mem_cons.1 hy with h | h
      ·rw [h]; exact List.mem_map_of_mem hx
      ·exact hsub y h, List.nodup_cons.2 ⟨hns, hnd⟩, hgr2, by show ds.length + 1 + unsE es ((x.m :: ds).map keyM) ≤ 100000; omega⟩ hlt3 ⟨rfl, rfl, rfl, by show look? _ _ = some (Value.int .i64 ((cntO (x.m :: ds) o : Nat) : Int)); rw [hcn]; rfl, rfl, trivial⟩ rfl rfl
  ·have hcn : cntO (x.m :: ds) o = cntO ds o := by rw [cntO_cons, if_neg ho]; rfl
   have hgr2 := hgr.skip ho
   obtain ⟨kk2, hkk⟩ : ∃ kk2, kk2 = k := ⟨_, rfl⟩
   repeat (first | ((apply H.Ac); (iterate 3 exact rfl)) | (apply H.Ag; (iterate 3 exact rfl); exact inferInstance; exact rfl) | (apply H.Af; (iterate 3 exact rfl); apply Rd1.ofRow; (repeat (exact .here _ _ _)); (iterate 2 exact rfl)) | (first | apply H.seq | apply H.Ab | apply H.nil | apply H.Aa) | ((apply H.cmp); (iterate 5 exact rfl)) | (first | apply H.Ak | apply H.Ba) | (apply H.Aw; exact rfl; (assumption)))
   rw [← hkk] at hgr2 ⊢
   refine H.Ah (x := row xb _ _) (by repeat constructor) ?_
   exact H.Bc (x.m :: ds, kk2) ⟨fun y hy => by
     rcases List.mem_cons.1 hy with h | h
     ·rw [h]; exact List.mem_map_of_mem hx
     ·exact hsub y h, List.nodup_cons.2 ⟨hns, hnd⟩, hgr2, by show ds.length + 1 + unsE es ((x.m :: ds).map keyM) ≤ 100000; omega⟩ hlt3 ⟨rfl, rfl, rfl, by show look? _ _ = some (Value.int .i64 ((cntO (x.m :: ds) o : Nat) : Int)); rw [hcn]; rfl, rfl, trivial⟩ rfl rfl
end
theorem ListAt.none_nil {α : Type} {f : Frag} {sz : Nat} {vals : α → List Value} {p : Option Addr} {xs : List α} (h : ListAt f p sz vals xs) (hp : p = none) : xs = [] := by
 cases xs with
 | nil => rfl
 | cons x r =>
  obtain ⟨b, off, cs, T, fr, h1, _⟩ := h 0 x rfl
  rw [hp] at h1; cases h1
theorem MVs_one (l : List MV) : ∀ v ∈ l.flatMap MV.vals, one v = true := by
 intro v hv
 simp only [List.mem_flatMap] at hv
 obtain ⟨x, _, hx⟩ := hv
 exact zad (show allOne x.vals = true from rfl) v hx
def loreC (n : Nat) (g : Nat → Value) (s : Value) : List Value := [.int .i64 (n : Int)] ++ c11 g ++ [s]
theorem loreC_last (n : Nat) (g : Nat → Value) (s v : Value) : SetV (loreC n g s) 12 v (loreC n g v) := by
 have e : loreC n g v = (loreC n g s).set 12 v := rfl
 rw [e]
 exact SetV.mk v (show 12 < 13 by decide)
theorem loreC_mid (n : Nat) (g : Nat → Value) (s v : Value) {o : Nat} (h : o < 11) : SetV (loreC n g s) (1 + o) v (loreC n (updF g o v) s) :=
 SetV.mid' (c11_set g v h) [.int .i64 (n : Int)] [s]
theorem loreC_str (n : Nat) (g : Nat → Value) (s : Value) {o : Nat} (h : o < 11) : (loreC n g s)[1 + o]? = some (g o) := by
 unfold loreC
 rw [List.append_assoc, List.getElem?_append_right (by show 1 ≤ 1 + o; omega), show 1 + o - [Value.int .i64 (n : Int)].length = o by show 1 + o - 1 = o; omega, List.getElem?_append_left (by show o < 11; exact h), c11_get _ h]
theorem c11_congr {g g' : Nat → Value} (h : ∀ k, k < 11 → g k = g' k) : c11 g = c11 g' := by
 unfold c11
 rw [h 0 (by decide), h 1 (by decide), h 2 (by decide), h 3 (by decide), h 4 (by decide), h 5 (by decide), h 6 (by decide), h 7 (by decide), h 8 (by decide), h 9 (by decide), h 10 (by decide)]
theorem lore_after {F : List HP} {lb n o : Nat} {l : List MV} {i : LP} {f' : Frag} {x : MV} {p2 po2 : Option Addr} {c2 co2 : Nat} (hoo : orgI x.m = o) (h : loreφ f' n (l ++ [x])) :
  ∀ y, stars (row lb 120 (loreC n (updF (fun k => .slice (i.P k) (strmV l k).length (i.C k)) o (.slice p2 ((strmV l o).length + 1) c2)) (.slice po2 (l.length + 1) co2)) ::
   fam (updF (strH l i) o (slc p2 ((strmV l o).length + 1) c2 47 121 ((strmV l o).flatMap MV.vals ++ x.vals))) 11 ::
   slc po2 (l.length + 1) co2 123 2 ((placesOf (l.map MV.m)).flatMap placeV ++ placeV (o, (strmV l o).length)) :: F) y → stars (loreH f' lb n (l ++ [x]) :: F) y := by
 have hcnt : cnt (l.map MV.m) o = (strmV l o).length := (strmV_len l o).symm
 have e1 : loreC n (updF (fun k => .slice (i.P k) (strmV l k).length (i.C k)) o (.slice p2 ((strmV l o).length + 1) c2)) (.slice po2 (l.length + 1) co2) = loreCells n (l ++ [x]) ⟨updF i.P o p2, updF i.C o c2, po2, co2⟩ := by
  unfold loreC loreCells
  rw [c11_congr (g' := fun k => .slice ((updF i.P o p2) k) (strmV (l ++ [x]) k).length ((updF i.C o c2) k)) fun k _ => ?_, List.length_append]
  ·rfl
  ·rw [strmV_snoc, hoo]
   by_cases e : k = o
   ·subst e; rw [zaj, zaj, zaj, if_pos rfl, List.length_append]; rfl
   ·rw [zan _ _ e, zan _ _ e, zan _ _ e, if_neg e]
 have e2 : fam (updF (strH l i) o (slc p2 ((strmV l o).length + 1) c2 47 121 ((strmV l o).flatMap MV.vals ++ x.vals))) 11 = fam (strH (l ++ [x]) ⟨updF i.P o p2, updF i.C o c2, po2, co2⟩) 11 := by
  unfold fam
  rw [rngH_congr 11 fun k _ => ?_]
  unfold strH
  rw [strmV_snoc, hoo]
  by_cases e : k = o
  ·subst e
   show updF _ k _ k = slc (updF i.P k p2 k) _ (updF i.C k c2 k) _ _ _
   rw [zaj, zaj, zaj, if_pos rfl, List.length_append, List.flatMap_append]
   show _ = slc p2 _ c2 _ _ (_ ++ (x.vals ++ []))
   rw [List.append_nil]; rfl
  ·show updF _ o _ k = slc (updF i.P o p2 k) _ (updF i.C o c2 k) _ _ _
   rw [zan _ _ e, zan _ _ e, zan _ _ e, if_neg e]
 have e3 : slc po2 (l.length + 1) co2 123 2 ((placesOf (l.map MV.m)).flatMap placeV ++ placeV (o, (strmV l o).length)) = ordH (l ++ [x]) ⟨updF i.P o p2, updF i.C o c2, po2, co2⟩ := by
  unfold ordH
  have hpl := placesOf_snoc (l.map MV.m) x.m
  rw [hoo, hcnt] at hpl
  rw [List.map_append, show [x].map MV.m = [x.m] from rfl, hpl, List.flatMap_append, List.length_append]
  rfl
 rw [e1, e2, e3]
 exact zax _ h
theorem loreφ_snoc {f f' : Frag} (hle : Le f f') {n : Nat} {l : List MV} {x : MV} (h : loreφ f n l) (hl : l.length < 100000) (hc : chk n (strm (l.map MV.m)) x.m = 0) (hx : x.Good f') : loreφ f' n (l ++ [x]) := by
 refine ⟨fun y hy => ?_, ?_, ?_, h.2.2.2⟩
 ·rcases List.mem_append.1 hy with hy | hy
  ·exact (h.1 y hy).mono hle
  ·rw [List.mem_singleton] at hy; subst hy; exact hx
 ·rw [List.length_append]; show l.length + 1 ≤ _; omega
 ·rw [List.map_append]; exact h.2.2.1.snoc hc
def msgZ : Msg := ⟨0, 0, fun _ => 0, Bod.zero 0, noTag⟩
theorem qs_qat0 {g : Frag} {p : Option Addr} {c : Nat} {q : List (Int × Int)} (h : qs p c q g) : QAt g p q := slc_listAt (vals := pairV) (fun _ => rfl) h
section
variable (f : Frag) (F : List HP)
theorem cloneQ_fn {p : Option Addr} {c : Nat} {l : List (Int × Int)} (h : QAt f p l) (hl : l.length ≤ 1000000) :
  Fn Tryz.prog 70 [.slice p l.length c] f F (fun v f' A' => ∃ p c, v = .slice p l.length c ∧ f' = f ∧ A' = qs p c l :: F) := by
 have h' : ListAt f p 2 pairV l := h
 have hs := ListAt.src (P := Tryz.prog) (A := F) (c := c) (sz := 2) (vals := pairV) (fun _ => rfl) (by decide) h'
 cases p with
 | none =>
  have := h'.none_nil rfl
  subst this
  refine Fn.enter Tryz.func70 rfl Tryz.ntmps70 rfl (L := [(0, _)]) ⟨rfl, trivial⟩ fun base => ?_
  repeat (first | ((first | apply H.Ac | apply H.Ad); (iterate 3 exact rfl)) | (first | apply H.seq | apply H.Ab | apply H.nil | apply H.Aa) | ((apply H.sliceNil); (iterate 5 exact rfl)) | (apply H.Bh; exact rfl) | (first | apply H.ret | apply H.Be))
  refine H.slc0 61 2 ?_
  exact H.Aj rfl rfl (fun _ h => h) ⟨none, 0, rfl, rfl, rfl⟩
 | some a =>
  refine Fn.enter Tryz.func70 rfl Tryz.ntmps70 rfl (L := [(0, _)]) ⟨rfl, trivial⟩ fun base => ?_
  repeat (first | ((first | apply H.Ac | apply H.Ad); (iterate 3 exact rfl)) | (first | apply H.seq | apply H.Ab | apply H.nil | apply H.Aa) | ((apply H.sliceNil); (iterate 5 exact rfl)) | (apply H.Av; exact rfl) | (apply H.Ak))
  refine H.Bw rfl rfl rfl rfl (by decide) (by decide) rfl rfl fun eb => ?_
  refine H.asSlc (k := 0) (sz := 2) rfl (by decide) ?_
  repeat (((apply H.Ac); (iterate 3 exact rfl)))
  refine H.Bv (xs := []) rfl rfl rfl rfl rfl (fun p' c' => .here _ _ _) hs.cons (pairsV_one l) rfl (by omega) (by omega) fun p' c' => ?_
  rw [Nat.zero_add]
  repeat (first | ((apply H.Ad); (iterate 3 exact rfl)) | (first | apply H.nil | apply H.Aa) | (apply H.ret))
  exact H.Aj rfl rfl (fun _ h => h) ⟨p', c', rfl, rfl, rfl⟩
theorem lown_fn {x : MV} (hx : x.Good f) : Fn Tryz.prog 56 [.agg x.vals.toArray] f F (fun v f' A' => ∃ p c, v = .agg (x.m.vals p c).toArray ∧ f' = f ∧ A' = qs p c x.m.body.q :: F) := by
 refine Fn.enter Tryz.func56 rfl Tryz.ntmps56 rfl (L := [(0, _)]) ⟨rfl, trivial⟩ fun base => ?_
 repeat ((first | apply H.seq | apply H.Ab))
 refine H.box (ls := x.vals) rfl rfl rfl rfl fun mb => ?_
 refine H.Bg (ls := msgZ.vals none 0) rfl rfl rfl fun ob => ?_
 repeat (first | (apply H.Ag; (iterate 3 exact rfl); exact inferInstance; exact rfl) | (apply H.Af; (iterate 3 exact rfl); apply Rd1.ofRow; (repeat (first | exact .here _ _ _ | apply At.there)); (iterate 2 exact rfl)) | (first | apply H.seq | apply H.Ab | apply H.nil | apply H.Aa))
 refine H.Bn rfl rfl rfl (cloneQ_fn f _ hx.1 hx.2.1) fun qp qc => ?_
 repeat (first | (apply H.Ag; (iterate 3 exact rfl); exact inferInstance; exact rfl) | (first | apply H.seq | apply H.Ab | apply H.nil | apply H.Aa) | (apply H.Bq; (iterate 4 exact rfl); (repeat (first | exact .here _ _ _ | apply At.there)); (repeat (first | exact .here _ _ _ | apply SetV.there))))
 refine H.Al (ls := x.m.vals qp qc) rfl rfl rfl (Rd.ofRow (by repeat constructor)) rfl rfl ?_
 refine H.Bb (ls := msgZ.vals none 0) (vs := x.m.vals qp qc) (ls' := x.m.vals qp qc) rfl rfl rfl (zad rfl) rfl rfl (Nat.le_refl 121) (by repeat constructor) ?_
 repeat (first | (first | apply H.nil | apply H.Aa) | (apply H.ret))
 refine H.Ah (x := row mb _ _) (by repeat constructor) ?_
 refine H.Ae (x := row ob _ _) (by repeat constructor) ?_
 exact H.Ca rfl rfl rfl (Rd.ofRow (.here _ _ _)) rfl (fun _ s => s.drop (.here _ _)) ⟨qp, qc, rfl, rfl, rfl⟩
def AddP (f : Frag) (F : List HP) (lb n : Nat) (l : List MV) (m : Msg) : Value → Frag → List HP → Prop := fun v f' A' =>
 ∃ (g : Frag) (qp : Option Addr) (qc : Nat), v = .int .i64 (chk n (strm (l.map MV.m)) m) ∧ Dj f g ∧ f' = un f g ∧ A' = loreH f' lb n (if chk n (strm (l.map MV.m)) m = 0 then l ++ [⟨m, qp, qc⟩] else l) :: F
def AddQ (f : Frag) (F : List HP) (fl : Frag) (lb n : Nat) (l : List MV) (m : Msg) : Value → Frag → List HP → Prop := fun v f' A' =>
 ∃ (g : Frag) (qp : Option Addr) (qc : Nat), v = .int .i64 (chk n (strm (l.map MV.m)) m) ∧ Dj f g ∧ f' = un f g ∧ A' = loreH (un fl g) lb n (if chk n (strm (l.map MV.m)) m = 0 then l ++ [⟨m, qp, qc⟩] else l) :: F
theorem Dj.le {f g h : Frag} (h1 : Le f g) (h2 : Dj g h) : Dj f h := fun k => by
 rcases h2 k with e | e
 ·cases hf : f k with
  | none => exact .inl rfl
  | some o => rw [h1 k o hf] at e; cases e
 ·exact .inr e
set_option maxHeartbeats 3200000 in
theorem laddQ_fn (htab : TabAt f) {fl : Frag} (hfl : Le fl f) {lb n : Nat} {l : List MV} {x : MV} (hx : x.Good f) (hlen : l.length < 100000) :
  Fn Tryz.prog 19 [.pointer (some ⟨lb, 0, none⟩), .agg x.vals.toArray] f (loreH fl lb n l :: F) (AddQ f F fl lb n l x.m) := by
 by_cases hc : chk n (strm (l.map MV.m)) x.m = 0
 ·obtain ⟨z1, z2, z3, _, _⟩ := chk_zero hc
  refine Fn.unpack fun i0 hi0 => ?_
  refine Fn.imp (zax i0 hi0) ?_
  have hn := hi0.2.2.2
  obtain ⟨o, hoo, hoz, hon, ho11, ho1, ho2⟩ := fits_at z1 hn
  rw [hoo, strm_lenV] at z3
  have hsub : IntKind.i64.wrap (x.m.origin - 1) = ((o : Nat) : Int) := by rw [hoz]; exact wr_i64 (by omega)
  have hsl := strmV_le l o
  have hcnt : cnt (l.map MV.m) o = (strmV l o).length := strm_lenV l o
  refine Fn.enter Tryz.func19 rfl Tryz.ntmps19 rfl (L := [(0, _), (1, _)]) ⟨rfl, rfl, trivial⟩ fun base => ?_
  repeat ((first | apply H.seq | apply H.Ab))
  refine H.box (ls := x.vals) rfl rfl rfl rfl fun mb => ?_
  repeat (first | ((first | apply H.Ac | apply H.Ad); (iterate 3 exact rfl)) | (first | apply H.seq | apply H.Ab | apply H.nil | apply H.Aa))
  refine H.Al (ls := x.vals) rfl rfl rfl (Rd.ofRow (.here _ _ _)) rfl rfl ?_
  refine H.Ae (x := loreH _ _ _ _) (by repeat constructor) ?_
  refine H.Am rfl rfl rfl (lcheck_fn f _ htab hx) ?_
  repeat (first | ((first | apply H.Ac | apply H.Ad); (iterate 3 exact rfl)) | (first | apply H.seq | apply H.Ab | apply H.nil | apply H.Aa) | ((apply H.cmp); (iterate 5 exact rfl)) | (apply H.Ak) | (apply H.Aw; exact rfl; (omega)))
  rw [hc]
  skip
  refine H.loreOpen fun i hi => ?_
  unfold ordH
  have hstr := loreCells_str n l i ho11
  refine H.Ae (x := row mb _ _) (by repeat constructor) ?_
  refine H.Bz (by kernel_rfl) (by decide +kernel) (by repeat (first | exact zab | refine zaa ?_ | refine zac ?_ | refine zae ?_)) ?_
  repeat (first | ((first | apply HQ.Ac | apply HQ.Ar); (iterate 3 exact rfl)) | (apply HQ.Ag; (iterate 3 exact rfl); exact inferInstance; exact rfl) | (apply HQ.Af; (iterate 3 exact rfl); apply Rd1.ofRow; (repeat (exact .here _ _ _)); (iterate 2 exact rfl)) | ((apply HQ.ar; (iterate 4 exact rfl)); (with_reducible apply wr_i64; omega); exact rfl))
  refine HQ.Br (i := o) rfl rfl rfl hoz ho11 rfl ?_
  repeat (first | ((apply HQ.Ad); (iterate 3 exact rfl)) | ((apply HQ.Bu); exact rfl))
  repeat ((first | apply H.seq | apply H.Aa))
  refine H.Ch [0, 1, 2, 3, 4, 5, 6, 7, 8, 9, 10, 11, 12, 13, 14] (by kernel_rfl) (by decide +kernel) (by repeat (first | exact zab | refine zaa ?_ | refine zac ?_ | refine zae ?_)) (S := [_, _]) rfl ?_
  refine HB.Aq [(0, false), (1, false), (2, false), (3, false), (4, false), (5, false), (6, false), (7, false), (8, false), (9, false), (10, false), (11, false), (12, false)] 5 (by kernel_rfl) ?_
  repeat (first | (apply HQ.ar; (iterate 4 exact rfl); exact hsub; exact rfl) | (refine HQ.Af rfl rfl rfl (Rd1.at0 (Rd.ofRow (.there _ (.here _ _ _))) (by rw [Nat.mul_one, Nat.zero_add]; exact hstr)) rfl ?_) | ((first | apply HQ.Ac | apply HQ.Ar | apply HQ.Az); (iterate 3 exact rfl)) | (apply HQ.Ag; (iterate 3 exact rfl); exact inferInstance; exact rfl) | (apply HQ.Af; (iterate 3 exact rfl); apply Rd1.ofRow; (repeat (first | exact .here _ _ _ | apply At.there)); (iterate 2 exact rfl)) | ((apply HQ.By); (iterate 5 exact rfl)))
  refine HQ.Ap rfl ?_
  refine HB.ev1 (i := 13) (by kernel_rfl) rfl ?_
  refine H.Bw (out := placeV (o, (strmV l o).length)) rfl rfl rfl rfl (by decide) (by decide) rfl rfl fun eb => ?_
  repeat ((apply H.nil))
  refine H.Ae (x := row lb _ _) (by repeat constructor) ?_
  refine H.Ae (x := row mb _ _) (by repeat constructor) ?_
  refine H.on0 rfl ?_
  refine HB.ev1 (i := 14) (by kernel_rfl) rfl ?_
  have hpll : (placesOf (l.map MV.m)).length = l.length := by unfold placesOf; rw [placesFrom_len, List.length_map]
  refine H.Bv (xs := (placesOf (l.map MV.m)).flatMap placeV) (m := 1) (news := placeV (o, (strmV l o).length)) rfl rfl rfl rfl rfl (fun p' c' => (by repeat constructor)) (Src.slice (Rd.ofRow (by repeat constructor)) rfl) (zad rfl) rfl (by omega) (by omega) fun po2 co2 => ?_
  repeat ((apply H.nil))
  refine H.Ah (x := row eb _ _) (by repeat constructor) ?_
  refine H.on0 rfl ?_
  refine HB.next [] (by kernel_rfl) (S' := []) rfl ?_
  refine HB.Aq [(15, false), (16, false)] 1 (by kernel_rfl) ?_
  repeat (first | ((apply HQ.Ar); (iterate 3 exact rfl)) | (apply HQ.Ag; (iterate 3 exact rfl); exact inferInstance; exact rfl))
  refine HQ.Ap rfl ?_
  refine HB.ev1 (i := 17) (by kernel_rfl) rfl ?_
  refine H.Bq (ls := loreC n (fun k => .slice (i.P k) (strmV l k).length (i.C k)) (.slice i.po l.length i.co)) (ls' := loreC n (fun k => .slice (i.P k) (strmV l k).length (i.C k)) (.slice po2 (l.length + 1) co2)) rfl rfl rfl rfl (.there _ (.here _ _ _)) (loreC_last _ _ _ _) ?_
  repeat ((apply H.nil))
  refine H.on0 rfl ?_
  refine HB.Bf (by kernel_rfl) ?_
  repeat ((first | apply H.seq | apply H.Aa))
  refine H.Ch [0, 1, 2, 3, 4, 5, 6, 7] (by kernel_rfl) (by decide +kernel) (by repeat (first | exact zab | refine zaa ?_ | refine zac ?_ | refine zae ?_)) (S := [_, _]) rfl ?_
  refine HB.Aq [(0, false), (1, false), (2, false), (3, false), (4, false)] 5 (by kernel_rfl) ?_
  have hstr2 := loreC_str n (fun k => .slice (i.P k) (strmV l k).length (i.C k)) (.slice po2 (l.length + 1) co2) ho11
  repeat (first | (refine HQ.Af rfl rfl rfl (Rd1.at0 (Rd.ofRow (.there _ (.here _ _ _))) (by rw [Nat.mul_one, Nat.zero_add]; exact hstr2)) rfl ?_) | (refine HQ.Al (ls := x.vals) rfl rfl rfl (Rd.ofRow (.here _ _ _)) rfl rfl ?_) | ((first | apply HQ.Ac | apply HQ.Ar); (iterate 3 exact rfl)))
  refine HQ.Ap rfl ?_
  refine HB.ev1 (i := 5) (by kernel_rfl) rfl ?_
  refine H.Bn rfl rfl rfl (lown_fn f _ hx) fun qp qc => ?_
  repeat ((apply H.nil))
  refine H.freeze (.here _ _) fun g hg hd => ?_
  refine H.on [] (Le.un f g) rfl ?_
  refine HB.ev1 (i := 6) (by kernel_rfl) rfl ?_
  refine H.Bw (out := x.m.vals qp qc) rfl rfl rfl rfl (by decide) (by decide) rfl rfl fun eb => ?_
  repeat ((apply H.nil))
  refine H.Ae (x := row lb _ _) (by repeat constructor) ?_
  refine H.Ae (x := row mb _ _) (by repeat constructor) ?_
  refine H.on0 rfl ?_
  refine HB.ev1 (i := 7) (by kernel_rfl) rfl ?_
  refine H.Ae (x := fam (strH l i) 11) (by repeat constructor) ?_
  refine H.famPull ho11 ?_
  unfold strH
  refine H.Bv (xs := (strmV l o).flatMap MV.vals) (m := 1) (news := x.m.vals qp qc) rfl rfl rfl rfl rfl (fun p' c' => .here _ _ _) (Src.slice (Rd.ofRow (by repeat constructor)) rfl) (zad rfl) rfl (by omega) (by omega) fun p2 c2 => ?_
  repeat ((apply H.nil))
  refine H.Ah (x := row eb _ _) (by repeat constructor) ?_
  refine H.famPut ho11 ?_
  refine H.Ae (x := row lb _ _) (by repeat constructor) ?_
  refine H.Ae (x := row mb _ _) (by repeat constructor) ?_
  refine H.on0 rfl ?_
  refine HB.next [] (by kernel_rfl) (S' := []) rfl ?_
  refine HB.Aq [(8, false)] 1 (by kernel_rfl) ?_
  repeat (((apply HQ.Ar); (iterate 3 exact rfl)))
  refine HQ.Ap rfl ?_
  refine HB.ev1 (i := 9) (by kernel_rfl) rfl ?_
  refine H.Bq (ls := loreC n (fun k => .slice (i.P k) (strmV l k).length (i.C k)) (.slice po2 (l.length + 1) co2)) (ls' := loreC n (updF (fun k => .slice (i.P k) (strmV l k).length (i.C k)) o (.slice p2 ((strmV l o).length + 1) c2)) (.slice po2 (l.length + 1) co2)) rfl rfl rfl rfl (.there _ (.here _ _ _)) (by rw [Nat.mul_one, Nat.zero_add]; exact loreC_mid _ _ _ _ ho11) ?_
  repeat ((apply H.nil))
  refine H.on0 rfl ?_
  refine HB.Bf (by kernel_rfl) ?_
  repeat (first | ((apply H.Ad); (iterate 3 exact rfl)) | (first | apply H.seq | apply H.Ab | apply H.nil | apply H.Aa) | (apply H.ret))
  refine H.Ah (x := row mb _ _) (by repeat constructor) ?_
  have hxg : (⟨x.m, qp, qc⟩ : MV).Good (un fl g) := ⟨QAt.mono (Le.right (Dj.le hfl hd)) (qs_qat0 hg), hx.2⟩
  refine H.imp (lore_after (x := ⟨x.m, qp, qc⟩) hoo (loreφ_snoc (Le.un fl g) hi hlen hc hxg)) ?_
  refine H.Aj rfl rfl (fun _ h => h) ⟨g, qp, qc, ?_, hd, rfl, ?_⟩
  ·rw [hc]
  ·rw [if_pos hc]; rfl
 ·have hA : Fn Tryz.prog 19 [.pointer (some ⟨lb, 0, none⟩), .agg x.vals.toArray] f (loreH fl lb n l :: F) (Ret (.int .i64 (chk n (strm (l.map MV.m)) x.m)) f (loreH fl lb n l :: F)) := by
   refine Fn.enter Tryz.func19 rfl Tryz.ntmps19 rfl (L := [(0, _), (1, _)]) ⟨rfl, rfl, trivial⟩ fun base => ?_
   repeat ((first | apply H.seq | apply H.Ab))
   refine H.box (ls := x.vals) rfl rfl rfl rfl fun mb => ?_
   repeat (first | ((first | apply H.Ac | apply H.Ad); (iterate 3 exact rfl)) | (first | apply H.seq | apply H.Ab | apply H.nil | apply H.Aa))
   refine H.Al (ls := x.vals) rfl rfl rfl (Rd.ofRow (.here _ _ _)) rfl rfl ?_
   refine H.Ae (x := loreH _ _ _ _) (by repeat constructor) ?_
   refine H.Am rfl rfl rfl (lcheck_fn f _ htab hx) ?_
   repeat (first | ((first | apply H.Ac | apply H.Ad); (iterate 3 exact rfl)) | (first | apply H.seq | apply H.Ab | apply H.nil | apply H.Aa) | ((apply H.cmp); (iterate 5 exact rfl)) | (first | apply H.ret | apply H.Be) | (apply H.Au; exact rfl; (assumption)))
   refine H.Ah (x := row mb _ _) (by repeat constructor) ?_
   exact H.Aj rfl rfl (fun _ h => h) ⟨rfl, rfl, rfl⟩
  refine Fn.monoA hA ?_
  rintro v f' A' ⟨rfl, rfl, rfl⟩
  refine ⟨_, ⟨nil0, none, 0, rfl, Dj.nil _, (un_nil _).symm, rfl⟩, ?_⟩
  rw [if_neg hc]
  rintro y ⟨h1, h2, h3, h4, h5, h6⟩
  exact ⟨h1, h2, h3, h4, loreH_mono (Le.un fl nil0) _ h5, h6⟩
theorem ladd_fn (htab : TabAt f) {fl : Frag} (hfl : Le fl f) {lb n : Nat} {l : List MV} {x : MV} (hx : x.Good f) (hlen : l.length < 100000) :
  Fn Tryz.prog 19 [.pointer (some ⟨lb, 0, none⟩), .agg x.vals.toArray] f (loreH fl lb n l :: F) (AddP f F lb n l x.m) := by
 refine Fn.monoA (laddQ_fn f F htab hfl hx hlen) ?_
 rintro v f' A' ⟨g, qp, qc, e1, e2, rfl, rfl⟩
 refine ⟨_, ⟨g, qp, qc, e1, e2, rfl, rfl⟩, ?_⟩
 rintro y ⟨h1, h2, h3, h4, h5, h6⟩
 refine ⟨h1, h2, h3, h4, loreH_mono (fun k o hk => ?_) _ h5, h6⟩
 unfold un at hk ⊢
 cases hfk : fl k with
 | none =>
  rw [hfk] at hk
  rcases e2 k with e | e
  ·rw [e]; exact hk
  ·have hk2 : g k = some o := hk
   rw [e] at hk2; cases hk2
 | some o' =>
  rw [hfk] at hk
  rw [hfl k o' hfk]
  exact hk
end
def PutP (f : Frag) (F : List HP) (wb : Nat) (ws : List MV) (m : Msg) (c : Int) : Value → Frag → List HP → Prop := fun v f' A' =>
 ∃ (g : Frag) (z : Int) (ws' : List MV), PutR c (ws.map MV.m) m z (ws'.map MV.m) ∧ ws'.length ≤ ws.length + 1 ∧ Dj f g ∧ v = .int .i64 z ∧ f' = un f g ∧ A' = waitH f' wb ws' :: F
theorem open_fits {n : Nat} {S : Strm} {m : Msg} (h : openZ (chk n S m) = true) : fitsB n m = true := by
 cases hf : fitsB n m with
 | true => rfl
 | false =>
  unfold chk at h
  rw [if_pos hf] at h
  cases h
theorem fits_num {n : Nat} {m : Msg} (h : fitsB n m = true) : 0 ≤ m.number := by
 have := Msg.may_outer (fits_org h).2.2
 unfold Msg.outer at this
 omega
theorem perm_del {ws : List Msg} (hu : KU ws) {t : Msg} (ht : t ∈ ws) : (t :: ws.filter fun x => !decide (keyM t = keyM x)).Perm ws := by
 induction ws with
 | nil => cases ht
 | cons a r ih =>
  have h' := List.nodup_cons.1 (show ((a :: r).map keyM).Nodup from hu)
  by_cases e : keyM t = keyM a
  ·have hta : t = a := KU.same (ws := a :: r) hu ht (by simp) e
   subst hta
   rw [List.filter_cons, if_neg (by simp)]
   have : (r.filter fun x => !decide (keyM t = keyM x)) = r := by
    rw [List.filter_eq_self]
    intro x hx
    have : ¬ keyM t = keyM x := fun h2 => h'.1 (by show keyM t ∈ r.map keyM; rw [h2]; exact List.mem_map_of_mem hx)
    rw [decide_eq_false this]; rfl
   rw [this]
  ·rw [List.filter_cons, if_pos (by rw [decide_eq_false e]; rfl)]
   have hr : t ∈ r := by
    rcases List.mem_cons.1 ht with h | h
    ·exact absurd (by rw [h]) e
    ·exact h
   exact (List.Perm.swap a t _).trans ((ih h'.2 hr).cons a)
theorem map_filt (ws : List MV) (k : Nm) : (ws.filter fun x => !decide (k = keyM x.m)).map MV.m = (ws.map MV.m).filter fun x => !decide (k = keyM x) := by
 rw [List.filter_map]; rfl
section
variable (f : Frag) (F : List HP)
set_option maxRecDepth 20000 in
set_option maxHeartbeats 1600000 in
theorem wput_fn (htab : TabAt f) {e el : Frag} (he : Le e f) {wb lb n : Nat} {ws l : List MV} {x : MV} (hx : x.Good f) (hlen : ws.length < 100000) :
  Fn Tryz.prog 39 [.pointer (some ⟨wb, 0, none⟩), .pointer (some ⟨lb, 0, none⟩), .agg x.vals.toArray] f (waitH e wb ws :: loreH el lb n l :: F) (PutP f (loreH el lb n l :: F) wb ws x.m (chk n (strm (l.map MV.m)) x.m)) := by
 refine Fn.unpack fun b hb => ?_
 have hck : ∀ G, Fn Tryz.prog 23 [.pointer (some ⟨lb, 0, none⟩), .agg x.vals.toArray] f (loreH el lb n l :: G) (Ret (.int .i64 (chk n (strm (l.map MV.m)) x.m)) f (loreH el lb n l :: G)) := fun G => lcheck_fn f G htab hx
 have hfit : openZ (chk n (strm (l.map MV.m)) x.m) = true → 0 ≤ x.m.number := fun h => fits_num (open_fits h)
 generalize chk n (strm (l.map MV.m)) x.m = c at *
 have hbf := hb.mono he
 cases ho : openZ c with
 | false =>
  refine Fn.enter Tryz.func39 rfl Tryz.ntmps39 rfl (L := [(0, _), (1, _), (2, _)]) ⟨rfl, rfl, rfl, trivial⟩ fun base => ?_
  repeat ((first | apply H.seq | apply H.Ab))
  refine H.box (ls := x.vals) rfl rfl rfl rfl fun mb => ?_
  repeat (first | ((first | apply H.Ac | apply H.Ad); (iterate 3 exact rfl)) | (first | apply H.seq | apply H.Ab | apply H.nil | apply H.Aa) | ((apply H.Ay); (iterate 4 exact rfl)) | ((apply H.Ce); (iterate 5 exact rfl)) | (apply H.Av; exact rfl) | (apply H.Ak))
  refine H.Al (ls := x.vals) rfl rfl rfl (Rd.ofRow (.here _ _ _)) rfl rfl ?_
  refine H.Ae (x := loreH _ _ _ _) (by repeat constructor) ?_
  refine H.Am rfl rfl rfl (hck _) ?_
  repeat (first | ((first | apply H.Ac | apply H.Ad); (iterate 3 exact rfl)) | (first | apply H.seq | apply H.Ab | apply H.nil | apply H.Aa))
  refine H.Am rfl rfl rfl (wopen_fn f _) ?_
  refine H.not (b := _) (c := _) rfl rfl rfl rfl ?_
  rw [ho]
  repeat (first | ((first | apply H.Ac | apply H.Ad); (iterate 3 exact rfl)) | (first | apply H.seq | apply H.Ab | apply H.nil | apply H.Aa) | (apply H.Bh; exact rfl) | (first | apply H.ret | apply H.Be))
  refine H.Ah (x := row mb _ _) (by repeat constructor) ?_
  refine H.Ae (x := loreH _ _ _ _) (by repeat constructor) ?_
  refine H.Ae (x := mp _ _ _) (by repeat constructor) ?_
  refine H.Ae (x := row wb _ _) (by repeat constructor) ?_
  refine H.imp (zbi b hbf) ?_
  exact H.Aj rfl rfl (fun _ h => h) ⟨nil0, c, ws, .shut ho _ (List.Perm.refl _), by omega, Dj.nil _, rfl, (un_nil _).symm, rfl⟩
 | true =>
  have hnum := hfit ho
  by_cases hin : keyM x.m ∈ (ws.map MV.m).map keyM
  ·obtain ⟨ym, hym, hyk⟩ := List.mem_map.1 hin
   obtain ⟨y, hy, rfl⟩ := List.mem_map.1 hym
   have hget : getKV (ws.map entV) (keyM x.m) = some (.agg y.vals.toArray) := getKV_mem (by rw [ent_keys]; exact hb.ku) (by rw [← hyk]; exact List.mem_map_of_mem hy)
   have hg1 : (getKV (ws.map entV) (keyM x.m)).getD (.agg (msgZ.vals none 0).toArray) = .agg y.vals.toArray := by rw [hget]; rfl
   have hg2 : (getKV (ws.map entV) (keyM x.m)).isSome = true := by rw [hget]; rfl
   refine Fn.enter Tryz.func39 rfl Tryz.ntmps39 rfl (L := [(0, _), (1, _), (2, _)]) ⟨rfl, rfl, rfl, trivial⟩ fun base => ?_
   repeat ((first | apply H.seq | apply H.Ab))
   refine H.box (ls := x.vals) rfl rfl rfl rfl fun mb => ?_
   repeat (first | ((first | apply H.Ac | apply H.Ad); (iterate 3 exact rfl)) | (first | apply H.seq | apply H.Ab | apply H.nil | apply H.Aa) | ((apply H.Ay); (iterate 4 exact rfl)) | ((apply H.Ce); (iterate 5 exact rfl)) | (apply H.Av; exact rfl) | (apply H.Ak))
   refine H.Al (ls := x.vals) rfl rfl rfl (Rd.ofRow (.here _ _ _)) rfl rfl ?_
   refine H.Ae (x := loreH _ _ _ _) (by repeat constructor) ?_
   refine H.Am rfl rfl rfl (hck _) ?_
   repeat (first | ((first | apply H.Ac | apply H.Ad); (iterate 3 exact rfl)) | (first | apply H.seq | apply H.Ab | apply H.nil | apply H.Aa))
   refine H.Am rfl rfl rfl (wopen_fn f _) ?_
   refine H.not (b := _) (c := _) rfl rfl rfl rfl ?_
   rw [ho]
   repeat (first | (apply H.Ag; (iterate 3 exact rfl); exact inferInstance; exact rfl) | (apply H.Af; (iterate 3 exact rfl); apply Rd1.ofRow; (repeat (first | exact .here _ _ _ | apply At.there)); (iterate 2 exact rfl)) | (first | apply H.seq | apply H.Ab | apply H.nil | apply H.Aa) | ((apply H.By); (iterate 5 exact rfl)) | (apply H.Av; exact rfl) | (apply H.Ak))
   skip
   refine H.Bg (ls := nmV (0, 0)) rfl rfl rfl fun kb => ?_
   refine H.Bb (ls := nmV (0, 0)) (vs := nmV (keyM x.m)) (ls' := nmV (keyM x.m)) rfl rfl rfl (nmV_one _) rfl rfl (Nat.le_refl 2) (.here _ _ _) ?_
   repeat ((first | apply H.seq | apply H.nil | apply H.Aa))
   refine H.Ae (x := mp _ _ _) (by repeat constructor) ?_
   refine H.Ae (x := row wb _ _) (by repeat constructor) ?_
   refine H.Ae (x := row kb _ _) (by repeat constructor) ?_
   refine H.Bt (by kernel_rfl) (by decide +kernel) (by repeat (first | exact zab | refine zaa ?_ | refine zac ?_ | refine zae ?_)) (S := [_, _, _]) rfl ?_
   refine HB.Aq [(0, false), (1, false), (2, false), (3, false), (4, false), (5, false), (6, false), (7, false), (8, false)] 3 (by kernel_rfl) ?_
   repeat (first | (refine HQ.Al (ls := nmV (keyM x.m)) rfl rfl rfl (Rd.ofRow (.here _ _ _)) rfl rfl ?_) | ((first | apply HQ.Ac | apply HQ.Ar); (iterate 3 exact rfl)) | (apply HQ.Ag; (iterate 3 exact rfl); exact inferInstance; exact rfl) | (apply HQ.Af; (iterate 3 exact rfl); apply Rd1.ofRow; (repeat (first | exact .here _ _ _ | apply At.there)); (iterate 2 exact rfl)) | ((apply HQ.Cc); (iterate 4 exact rfl)) | (refine HQ.lookup2 (enc := nmE) (k := keyM x.m) rfl rfl rfl (by repeat constructor) rfl hg1 hg2 rfl ?_))
   refine HQ.Ap rfl ?_
   refine HB.ev1 (i := 9) (by kernel_rfl) rfl ?_
   refine H.Bg (ls := msgZ.vals none 0) rfl rfl rfl fun ob => ?_
   repeat ((apply H.nil))
   refine H.Ae (x := mp _ _ _) (by repeat constructor) ?_
   refine H.Ae (x := row wb _ _) (by repeat constructor) ?_
   refine H.Ae (x := row kb _ _) (by repeat constructor) ?_
   refine H.on0 rfl ?_
   refine HB.ev1 (i := 10) (by kernel_rfl) rfl ?_
   refine H.Bb (ls := msgZ.vals none 0) (vs := y.vals) (ls' := y.vals) rfl rfl rfl (zad rfl) rfl rfl (Nat.le_refl 121) (.there _ (.there _ (.there _ (.here _ _ _)))) ?_
   repeat ((apply H.nil))
   refine H.on0 rfl ?_
   refine HB.Aq [(11, false)] 0 (by kernel_rfl) ?_
   repeat (((apply HQ.Ad); (iterate 3 exact rfl)))
   refine HQ.Ap rfl ?_
   refine HB.Bf (by kernel_rfl) ?_
   repeat (first | ((first | apply H.Ac | apply H.Ad); (iterate 3 exact rfl)) | (first | apply H.seq | apply H.Ab | apply H.nil | apply H.Aa) | (apply H.Bh; exact rfl) | (first | apply H.ret | apply H.Be))
   refine H.Ah (x := row ob _ _) (by repeat constructor) ?_
   refine H.Ah (x := row kb _ _) (by repeat constructor) ?_
   refine H.Ah (x := row mb _ _) (by repeat constructor) ?_
   refine H.Ae (x := loreH _ _ _ _) (by repeat constructor) ?_
   refine H.Ae (x := mp _ _ _) (by repeat constructor) ?_
   refine H.Ae (x := row wb _ _) (by repeat constructor) ?_
   refine H.imp (zbi b hbf) ?_
   exact H.Aj rfl rfl (fun _ h => h) ⟨nil0, 13, ws, .again ho y.m hym hyk _ (List.Perm.refl _), by omega, Dj.nil _, rfl, (un_nil _).symm, rfl⟩
  ·have hget : getKV (ws.map entV) (keyM x.m) = none := (getKV_none _ _).2 (by rw [ent_keys]; exact hin)
   have hg1 : (getKV (ws.map entV) (keyM x.m)).getD (.agg (msgZ.vals none 0).toArray) = .agg (msgZ.vals none 0).toArray := by rw [hget]; rfl
   have hg2 : (getKV (ws.map entV) (keyM x.m)).isSome = false := by rw [hget]; rfl
   have hk : ∀ y ∈ ws.map MV.m, keyM y ≠ keyM x.m := fun y hy e => hin (by rw [← e]; exact List.mem_map_of_mem hy)
   refine Fn.enter Tryz.func39 rfl Tryz.ntmps39 rfl (L := [(0, _), (1, _), (2, _)]) ⟨rfl, rfl, rfl, trivial⟩ fun base => ?_
   repeat ((first | apply H.seq | apply H.Ab))
   refine H.box (ls := x.vals) rfl rfl rfl rfl fun mb => ?_
   repeat (first | ((first | apply H.Ac | apply H.Ad); (iterate 3 exact rfl)) | (first | apply H.seq | apply H.Ab | apply H.nil | apply H.Aa) | ((apply H.Ay); (iterate 4 exact rfl)) | ((apply H.Ce); (iterate 5 exact rfl)) | (apply H.Av; exact rfl) | (apply H.Ak))
   refine H.Al (ls := x.vals) rfl rfl rfl (Rd.ofRow (.here _ _ _)) rfl rfl ?_
   refine H.Ae (x := loreH _ _ _ _) (by repeat constructor) ?_
   refine H.Am rfl rfl rfl (hck _) ?_
   repeat (first | ((first | apply H.Ac | apply H.Ad); (iterate 3 exact rfl)) | (first | apply H.seq | apply H.Ab | apply H.nil | apply H.Aa))
   refine H.Am rfl rfl rfl (wopen_fn f _) ?_
   refine H.not (b := _) (c := _) rfl rfl rfl rfl ?_
   rw [ho]
   repeat (first | (apply H.Ag; (iterate 3 exact rfl); exact inferInstance; exact rfl) | (apply H.Af; (iterate 3 exact rfl); apply Rd1.ofRow; (repeat (first | exact .here _ _ _ | apply At.there)); (iterate 2 exact rfl)) | (first | apply H.seq | apply H.Ab | apply H.nil | apply H.Aa) | ((apply H.By); (iterate 5 exact rfl)) | (apply H.Av; exact rfl) | (apply H.Ak))
   skip
   refine H.Bg (ls := nmV (0, 0)) rfl rfl rfl fun kb => ?_
   refine H.Bb (ls := nmV (0, 0)) (vs := nmV (keyM x.m)) (ls' := nmV (keyM x.m)) rfl rfl rfl (nmV_one _) rfl rfl (Nat.le_refl 2) (.here _ _ _) ?_
   repeat ((first | apply H.seq | apply H.nil | apply H.Aa))
   refine H.Ae (x := mp _ _ _) (by repeat constructor) ?_
   refine H.Ae (x := row wb _ _) (by repeat constructor) ?_
   refine H.Ae (x := row kb _ _) (by repeat constructor) ?_
   refine H.Bt (by kernel_rfl) (by decide +kernel) (by repeat (first | exact zab | refine zaa ?_ | refine zac ?_ | refine zae ?_)) (S := [_, _, _]) rfl ?_
   refine HB.Aq [(0, false), (1, false), (2, false), (3, false), (4, false), (5, false), (6, false), (7, false), (8, false)] 3 (by kernel_rfl) ?_
   repeat (first | (refine HQ.Al (ls := nmV (keyM x.m)) rfl rfl rfl (Rd.ofRow (.here _ _ _)) rfl rfl ?_) | ((first | apply HQ.Ac | apply HQ.Ar); (iterate 3 exact rfl)) | (apply HQ.Ag; (iterate 3 exact rfl); exact inferInstance; exact rfl) | (apply HQ.Af; (iterate 3 exact rfl); apply Rd1.ofRow; (repeat (first | exact .here _ _ _ | apply At.there)); (iterate 2 exact rfl)) | ((apply HQ.Cc); (iterate 4 exact rfl)) | (refine HQ.lookup2 (enc := nmE) (k := keyM x.m) rfl rfl rfl (by repeat constructor) rfl hg1 hg2 rfl ?_))
   refine HQ.Ap rfl ?_
   refine HB.ev1 (i := 9) (by kernel_rfl) rfl ?_
   refine H.Bg (ls := msgZ.vals none 0) rfl rfl rfl fun ob => ?_
   repeat ((apply H.nil))
   refine H.Ae (x := mp _ _ _) (by repeat constructor) ?_
   refine H.Ae (x := row wb _ _) (by repeat constructor) ?_
   refine H.Ae (x := row kb _ _) (by repeat constructor) ?_
   refine H.on0 rfl ?_
   refine HB.ev1 (i := 10) (by kernel_rfl) rfl ?_
   refine H.Bb (ls := msgZ.vals none 0) (vs := msgZ.vals none 0) (ls' := msgZ.vals none 0) rfl rfl rfl (zad rfl) rfl rfl (Nat.le_refl 121) (.there _ (.there _ (.there _ (.here _ _ _)))) ?_
   repeat ((apply H.nil))
   refine H.on0 rfl ?_
   refine HB.Aq [(11, false)] 0 (by kernel_rfl) ?_
   repeat (((apply HQ.Ad); (iterate 3 exact rfl)))
   refine HQ.Ap rfl ?_
   refine HB.Bf (by kernel_rfl) ?_
   repeat (first | ((apply H.Ac); (iterate 3 exact rfl)) | (apply H.Ag; (iterate 3 exact rfl); exact inferInstance; exact rfl) | (apply H.Af; (iterate 3 exact rfl); apply Rd1.ofRow; (repeat (first | exact .here _ _ _ | apply At.there)); (iterate 2 exact rfl)) | (first | apply H.seq | apply H.Ab | apply H.nil | apply H.Aa) | (apply H.Av; exact rfl) | (apply H.Ak))
   refine H.Ah (x := row ob _ _) (by repeat constructor) ?_
   refine H.Ae (x := row wb _ _) (by repeat constructor) ?_
   refine H.Ae (x := mp _ _ _) (by repeat constructor) ?_
   refine H.call rfl rfl rfl (greatest_fn f _ hb.ku hb.pos hb.len) fun v f' A' hr => ?_
   obtain ⟨k, hgr, rfl, hff, rfl⟩ := hr
   rw [hff]
   repeat (first | ((apply H.Ac); (iterate 3 exact rfl)) | ((apply H.Cc); (iterate 4 exact rfl)))
   refine H.Bg (ls := nmV (0, 0)) rfl rfl rfl fun gb => ?_
   refine H.Bb (ls := nmV (0, 0)) (vs := nmV k) (ls' := nmV k) rfl rfl rfl (nmV_one k) rfl rfl (Nat.le_refl 2) (.here _ _ _) ?_
   by_cases hc : 11 ≤ cntO (ws.map MV.m) x.m.origin
   ·obtain ⟨t, ht, rfl⟩ := hgr.pos (by omega)
    by_cases hl : t.number < x.m.number
    ·skip
     repeat (first | ((first | apply H.Ac | apply H.Ad); (iterate 3 exact rfl)) | (apply H.Ag; (iterate 3 exact rfl); exact inferInstance; exact rfl) | (apply H.Af; (iterate 3 exact rfl); apply Rd1.ofRow; (repeat (first | exact .here _ _ _ | apply At.there)); (iterate 2 exact rfl)) | (first | apply H.seq | apply H.Ab | apply H.nil | apply H.Aa) | ((apply H.cmp); (iterate 5 exact rfl)) | (first | apply H.ret | apply H.Be) | (apply H.Au; exact rfl; (first | assumption | omega)))
     refine H.Ah (x := row gb _ _) (by repeat constructor) ?_
     refine H.Ah (x := row kb _ _) (by repeat constructor) ?_
     refine H.Ah (x := row mb _ _) (by repeat constructor) ?_
     refine H.Ae (x := loreH _ _ _ _) (by repeat constructor) ?_
     refine H.Ae (x := mp _ _ _) (by repeat constructor) ?_
     refine H.Ae (x := row wb _ _) (by repeat constructor) ?_
     refine H.imp (zbi b hbf) ?_
     exact H.Aj rfl rfl (fun _ h => h) ⟨nil0, 7, ws, .full ho hk hc t ht hl _ (List.Perm.refl _), by omega, Dj.nil _, rfl, (un_nil _).symm, rfl⟩
    ·skip
     repeat (first | ((first | apply H.Ac | apply H.Ad); (iterate 3 exact rfl)) | (apply H.Ag; (iterate 3 exact rfl); exact inferInstance; exact rfl) | (apply H.Af; (iterate 3 exact rfl); apply Rd1.ofRow; (repeat (first | exact .here _ _ _ | apply At.there)); (iterate 2 exact rfl)) | (first | apply H.seq | apply H.Ab | apply H.nil | apply H.Aa) | ((apply H.cmp); (iterate 5 exact rfl)) | (apply H.Ak) | (apply H.Au; exact rfl; (omega)) | (apply H.Aw; exact rfl; (assumption)))
     refine H.Ae (x := mp _ _ _) (by repeat constructor) ?_
     refine H.openMap fun es clock hes => ?_
     refine H.Ae (x := row wb _ _) (by repeat constructor) ?_
     refine H.Ae (x := row gb _ _) (by repeat constructor) ?_
     refine H.Bt (by kernel_rfl) (by decide +kernel) (by repeat (first | exact zab | refine zaa ?_ | refine zac ?_ | refine zae ?_)) (S := [_, _]) rfl ?_
     refine HB.Aq [(0, false), (1, false), (2, false), (3, false), (4, false)] 1 (by kernel_rfl) ?_
     repeat (first | (refine HQ.Al (ls := nmV (keyM t)) rfl rfl rfl (Rd.ofRow (.here _ _ _)) rfl rfl ?_) | ((first | apply HQ.Ac | apply HQ.Ar); (iterate 3 exact rfl)) | (apply HQ.Ag; (iterate 3 exact rfl); exact inferInstance; exact rfl) | (apply HQ.Af; (iterate 3 exact rfl); apply Rd1.ofRow; (repeat (first | exact .here _ _ _ | apply At.there)); (iterate 2 exact rfl)))
     refine HQ.Ap rfl ?_
     refine HB.ev1 (i := 5) (by kernel_rfl) rfl ?_
     refine H.deleteS (enc := nmE) (k := keyM t) rfl rfl rfl (by repeat constructor) rfl ?_
     repeat ((apply H.nil))
     refine H.on0 rfl ?_
     refine HB.Bf (by kernel_rfl) ?_
     refine H.Ae (x := mpS _ _ _ _) (by repeat constructor) ?_
     refine H.imp mpS_fold ?_
     rw [delE_kv, hes, ent_filter]
     have hsub : ∀ y ∈ ws.filter (fun x => !decide (keyM t = keyM x.m)), y ∈ ws := fun y hy => (List.mem_filter.1 hy).1
     have hR : ∀ ws', ws'.Perm ((ws.filter fun x => !decide (keyM t = keyM x.m)).map MV.m ++ [x.m]) → PutR c (ws.map MV.m) x.m 0 ws' := fun ws' hp => by
      rw [map_filt] at hp
      exact .swap ho hk hc t ht hl ws' ((hp.cons t).trans ((perm_del hb.ku ht.mem).append_right [x.m]))
     have hw2 : Waitφ e (ws.filter fun x => !decide (keyM t = keyM x.m)) := ⟨fun y hy => hb.g y (hsub y hy), fun y hy => hb.pos y (hsub y hy), by rw [map_filt]; exact hb.ku.filter _, Nat.le_trans (List.length_filter_le _ _) hb.len⟩
     have hl2 : (ws.filter fun x => !decide (keyM t = keyM x.m)).length ≤ ws.length := List.length_filter_le _ _
     have hno : keyM x.m ∉ ((ws.filter fun x => !decide (keyM t = keyM x.m)).map MV.m).map keyM := fun h => by
      obtain ⟨ym, hym, hyk⟩ := List.mem_map.1 h
      obtain ⟨y, hy, rfl⟩ := List.mem_map.1 hym
      exact hk y.m (List.mem_map_of_mem (hsub y hy)) hyk
     generalize (ws.filter fun x => !decide (keyM t = keyM x.m)) = ws2 at *
     repeat (first | (apply H.Ag; (iterate 3 exact rfl); exact inferInstance; exact rfl) | (apply H.Af; (iterate 3 exact rfl); apply Rd1.ofRow; (repeat (first | exact .here _ _ _ | apply At.there)); (iterate 2 exact rfl)) | (first | apply H.seq | apply H.Ab | apply H.Aa))
     refine H.Bn rfl rfl rfl (cloneQ_fn f _ hx.1 hx.2.1) fun qp qc => ?_
     repeat (first | (apply H.Ag; (iterate 3 exact rfl); exact inferInstance; exact rfl) | (first | apply H.seq | apply H.nil | apply H.Aa) | (apply H.Bq; (iterate 4 exact rfl); (repeat (first | exact .here _ _ _ | apply At.there)); (repeat (first | exact .here _ _ _ | apply SetV.there))))
     refine H.freeze (x := qs _ _ _) (by repeat constructor) fun g hg hd => ?_
     refine H.Ae (x := row wb _ _) (by repeat constructor) ?_
     refine H.Ae (x := row kb _ _) (by repeat constructor) ?_
     refine H.Ae (x := row mb _ _) (by repeat constructor) ?_
     refine H.Bt (by kernel_rfl) (by decide +kernel) (by repeat (first | exact zab | refine zaa ?_ | refine zac ?_ | refine zae ?_)) (S := [_, _, _]) rfl ?_
     refine HB.Aq [(0, false), (1, false), (2, false), (3, false), (4, false), (5, false)] 1 (by kernel_rfl) ?_
     repeat (first | ((first | apply HQ.Ac | apply HQ.Ar); (iterate 3 exact rfl)) | (apply HQ.Ag; (iterate 3 exact rfl); exact inferInstance; exact rfl) | (apply HQ.Af; (iterate 3 exact rfl); apply Rd1.ofRow; (repeat (first | exact .here _ _ _ | apply At.there)); (iterate 2 exact rfl)))
     refine HQ.Al (ls := nmV (keyM x.m)) rfl rfl rfl (Rd.ofRow (.there _ (.here _ _ _))) rfl rfl ?_
     refine HQ.Al (ls := x.m.vals qp qc) rfl rfl rfl (Rd.ofRow (.here _ _ _)) rfl rfl ?_
     refine HQ.Ap rfl ?_
     refine HB.ev1 (i := 6) (by kernel_rfl) rfl ?_
     refine H.mapUpdate (enc := nmE) (k := keyM x.m) rfl rfl rfl rfl (by repeat constructor) rfl ?_
     have hput : putKV (ws2.map entV) (keyM x.m) (.agg (x.m.vals qp qc).toArray) = (ws2 ++ [(⟨x.m, qp, qc⟩ : MV)]).map entV := by
      rw [putKV_absent (by rw [ent_keys]; exact hno), List.map_append]; rfl
     have hlf := Le.un f g
     have hog : (⟨x.m, qp, qc⟩ : MV).Good (un f g) := ⟨qs_qat hg hd, hx.2⟩
     have hφ : Waitφ (un f g) (ws2 ++ [(⟨x.m, qp, qc⟩ : MV)]) := ⟨fun y hy => by
       rcases List.mem_append.1 hy with h | h
       ·exact (hw2.g y h).mono (he.trans hlf)
       ·rw [List.mem_singleton.1 h]; exact hog, fun y hy => by
       rcases List.mem_append.1 hy with h | h
       ·exact hw2.pos y h
       ·rw [List.mem_singleton.1 h]; exact hnum, by
       rw [List.map_append]
       exact hw2.ku.snoc fun y hy e2 => hno (by show keyM x.m ∈ _; rw [← show keyM y = keyM x.m from e2]; exact List.mem_map_of_mem hy), by
       rw [List.length_append]; show ws2.length + 1 ≤ _; omega⟩
     rw [hput]
     repeat ((apply H.nil))
     refine H.on0 rfl ?_
     refine HB.Bf (by kernel_rfl) ?_
     repeat (first | ((apply H.Ad); (iterate 3 exact rfl)) | (first | apply H.seq | apply H.Ab | apply H.nil | apply H.Aa) | (apply H.ret))
     refine H.Ah (x := row gb _ _) (by repeat constructor) ?_
     refine H.Ah (x := row kb _ _) (by repeat constructor) ?_
     refine H.Ah (x := row mb _ _) (by repeat constructor) ?_
     refine H.Ae (x := loreH _ _ _ _) (by repeat constructor) ?_
     refine H.Ae (x := mp _ _ _) (by repeat constructor) ?_
     refine H.Ae (x := row wb _ _) (by repeat constructor) ?_
     refine H.imp (zbi b hφ) ?_
     exact H.Aj rfl rfl (fun _ h => h) ⟨g, 0, _, hR _ (by rw [List.map_append]; exact List.Perm.refl _), by rw [List.length_append]; show ws2.length + 1 ≤ _; omega, hd, rfl, rfl, rfl⟩
   ·have hR : ∀ ws', ws'.Perm (ws.map MV.m ++ [x.m]) → PutR c (ws.map MV.m) x.m 0 ws' := fun ws' hp => .room ho hk (by omega) ws' hp
    repeat (first | ((first | apply H.Ac | apply H.Ad); (iterate 3 exact rfl)) | (apply H.Ag; (iterate 3 exact rfl); exact inferInstance; exact rfl) | (apply H.Af; (iterate 3 exact rfl); apply Rd1.ofRow; (repeat (first | exact .here _ _ _ | apply At.there)); (iterate 2 exact rfl)) | (first | apply H.seq | apply H.Ab | apply H.nil | apply H.Aa) | ((apply H.cmp); (iterate 5 exact rfl)) | (apply H.Ak) | (apply H.Aw; exact rfl; (omega)))
    obtain ⟨ws2, hws2⟩ : ∃ ws2, ws2 = ws := ⟨_, rfl⟩
    have hw2 : Waitφ e ws2 := by rw [hws2]; exact hb
    have hl2 : ws2.length ≤ ws.length := by rw [hws2]; exact Nat.le_refl _
    have hno : keyM x.m ∉ (ws2.map MV.m).map keyM := by rw [hws2]; exact hin
    rw [← hws2] at hR ⊢
    skip
    refine H.Bn rfl rfl rfl (cloneQ_fn f _ hx.1 hx.2.1) fun qp qc => ?_
    repeat (first | (apply H.Ag; (iterate 3 exact rfl); exact inferInstance; exact rfl) | (first | apply H.seq | apply H.nil | apply H.Aa) | (apply H.Bq; (iterate 4 exact rfl); (repeat (first | exact .here _ _ _ | apply At.there)); (repeat (first | exact .here _ _ _ | apply SetV.there))))
    refine H.freeze (x := qs _ _ _) (by repeat constructor) fun g hg hd => ?_
    refine H.Ae (x := row wb _ _) (by repeat constructor) ?_
    refine H.Ae (x := row kb _ _) (by repeat constructor) ?_
    refine H.Ae (x := row mb _ _) (by repeat constructor) ?_
    refine H.Bt (by kernel_rfl) (by decide +kernel) (by repeat (first | exact zab | refine zaa ?_ | refine zac ?_ | refine zae ?_)) (S := [_, _, _]) rfl ?_
    refine HB.Aq [(0, false), (1, false), (2, false), (3, false), (4, false), (5, false)] 1 (by kernel_rfl) ?_
    repeat (first | ((first | apply HQ.Ac | apply HQ.Ar); (iterate 3 exact rfl)) | (apply HQ.Ag; (iterate 3 exact rfl); exact inferInstance; exact rfl) | (apply HQ.Af; (iterate 3 exact rfl); apply Rd1.ofRow; (repeat (first | exact .here _ _ _ | apply At.there)); (iterate 2 exact rfl)))
    refine HQ.Al (ls := nmV (keyM x.m)) rfl rfl rfl (Rd.ofRow (.there _ (.here _ _ _))) rfl rfl ?_
    refine HQ.Al (ls := x.m.vals qp qc) rfl rfl rfl (Rd.ofRow (.here _ _ _)) rfl rfl ?_
    refine HQ.Ap rfl ?_
    refine HB.ev1 (i := 6) (by kernel_rfl) rfl ?_
    refine H.mapUpdate (enc := nmE) (k := keyM x.m) rfl rfl rfl rfl (by repeat constructor) rfl ?_
    have hput : putKV (ws2.map entV) (keyM x.m) (.agg (x.m.vals qp qc).toArray) = (ws2 ++ [(⟨x.m, qp, qc⟩ : MV)]).map entV := by
     rw [putKV_absent (by rw [ent_keys]; exact hno), List.map_append]; rfl
    have hlf := Le.un f g
    have hog : (⟨x.m, qp, qc⟩ : MV).Good (un f g) := ⟨qs_qat hg hd, hx.2⟩
    have hφ : Waitφ (un f g) (ws2 ++ [(⟨x.m, qp, qc⟩ : MV)]) := ⟨fun y hy => by
      rcases List.mem_append.1 hy with h | h
      ·exact (hw2.g y h).mono (he.trans hlf)
      ·rw [List.mem_singleton.1 h]; exact hog, fun y hy => by
      rcases List.mem_append.1 hy with h | h
      ·exact hw2.pos y h
      ·rw [List.mem_singleton.1 h]; exact hnum, by
      rw [List.map_append]
      exact hw2.ku.snoc fun y hy e2 => hno (by show keyM x.m ∈ _; rw [← show keyM y = keyM x.m from e2]; exact List.mem_map_of_mem hy), by
      rw [List.length_append]; show ws2.length + 1 ≤ _; omega⟩
    rw [hput]
    repeat ((apply H.nil))
    refine H.on0 rfl ?_
    refine HB.Bf (by kernel_rfl) ?_
    repeat (first | ((apply H.Ad); (iterate 3 exact rfl)) | (first | apply H.seq | apply H.Ab | apply H.nil | apply H.Aa) | (apply H.ret))
    refine H.Ah (x := row gb _ _) (by repeat constructor) ?_
    refine H.Ah (x := row kb _ _) (by repeat constructor) ?_
    refine H.Ah (x := row mb _ _) (by repeat constructor) ?_
    refine H.Ae (x := loreH _ _ _ _) (by repeat constructor) ?_
    refine H.Ae (x := mp _ _ _) (by repeat constructor) ?_
    refine H.Ae (x := row wb _ _) (by repeat constructor) ?_
    refine H.imp (zbi b hφ) ?_
    exact H.Aj rfl rfl (fun _ h => h) ⟨g, 0, _, hR _ (by rw [List.map_append]; exact List.Perm.refl _), by rw [List.length_append]; show ws2.length + 1 ≤ _; omega, hd, rfl, rfl, rfl⟩
end
def nextV : Option MV → List Value
 | some y => y.vals
 | none => msgZ.vals none 0
def NextP (f : Frag) (F : List HP) (e : Frag) (wb : Nat) (ws : List MV) (c : Msg → Int) : Value → Frag → List HP → Prop := fun v f' A' =>
 ∃ (r : Option MV) (ws' : List MV), NextR c (ws.map MV.m) (r.map MV.m) (ws'.map MV.m) ∧ (∀ y, r = some y → y ∈ ws ∧ y.Good e) ∧ (∀ y ∈ ws', y ∈ ws) ∧ v = .tuple #[.agg (nextV r).toArray, .bool r.isSome] ∧ f' = f ∧ A' = waitH e wb ws' :: F
theorem imp_first {p p' : HP} {A : List HP} (h : ∀ x, p x → p' x) : ∀ x, stars (p :: A) x → stars (p' :: A) x := fun _ ⟨m1, m2, d, e, a, r⟩ => ⟨m1, m2, d, e, h _ a, r⟩
structure NS where
 ws : List MV
 es : List (Nm × Value × Nat)
 seen : List Nm
 rd : List Nm
 p : Option Addr
 c : Nat
def curP (c : Msg → Int) (seen : List Nm) (x : MV) : Bool := !decide (keyM x.m ∈ seen) || openZ (c x.m)
structure NΦ (ws0 : List MV) (c : Msg → Int) (s : NS) : Prop where
 hes : s.es.map kvOf = s.ws.map entV
 cur : s.ws = ws0.filter (curP c s.seen)
 heap : Heap s.rd
 mem : ∀ k, k ∈ s.rd ↔ ∃ x ∈ ws0, keyM x.m = k ∧ c x.m = 0 ∧ k ∈ s.seen
 len : s.rd.length + unsE s.es s.seen ≤ 100000
theorem KU.sameV {ws : List MV} (h : KU (ws.map MV.m)) {x y : MV} (hx : x ∈ ws) (hy : y ∈ ws) (e : keyM x.m = keyM y.m) : x = y := by
 unfold KU at h
 induction ws with
 | nil => cases hx
 | cons z r ih =>
  have h' := List.nodup_cons.1 h
  have hin : ∀ w ∈ r, keyM w.m ∈ (r.map MV.m).map keyM := fun w hw => List.mem_map_of_mem (List.mem_map_of_mem hw)
  rcases List.mem_cons.1 hx with h1 | h1
  ·rcases List.mem_cons.1 hy with h2 | h2
   ·rw [h1, h2]
   ·exact absurd (by rw [← h1, e]; exact hin y h2) h'.1
  ·rcases List.mem_cons.1 hy with h2 | h2
   ·exact absurd (by rw [← h2, ← e]; exact hin x h1) h'.1
   ·exact ih h'.2 h1 h2
theorem cur_del {ws0 : List MV} {c : Msg → Int} {seen : List Nm} {x : MV} (hu : KU (ws0.map MV.m)) (hx : x ∈ ws0) (ho : openZ (c x.m) = false) :
  (ws0.filter (curP c seen)).filter (fun y => !decide (keyM x.m = keyM y.m)) = ws0.filter (curP c (keyM x.m :: seen)) := by
 rw [List.filter_filter]
 refine List.filter_congr fun y hy => ?_
 by_cases e : keyM x.m = keyM y.m
 ·have := hu.sameV hx hy e
  subst this
  have h2 : decide (keyM x.m ∈ keyM x.m :: seen) = true := decide_eq_true (by simp)
  unfold curP
  rw [decide_eq_true rfl, h2, ho]
  rfl
 ·have h2 : decide (keyM y.m ∈ keyM x.m :: seen) = decide (keyM y.m ∈ seen) := by
   by_cases h3 : keyM y.m ∈ seen
   ·rw [decide_eq_true h3, decide_eq_true (List.mem_cons_of_mem _ h3)]
   ·rw [decide_eq_false h3, decide_eq_false fun h4 => by
     rcases List.mem_cons.1 h4 with h5 | h5
     ·exact e h5.symm
     ·exact h3 h5]
  unfold curP
  rw [decide_eq_false e, h2]
  simp
theorem cur_keep {ws0 : List MV} {c : Msg → Int} {seen : List Nm} {x : MV} (hu : KU (ws0.map MV.m)) (hx : x ∈ ws0) (ho : openZ (c x.m) = true) :
  ws0.filter (curP c seen) = ws0.filter (curP c (keyM x.m :: seen)) := by
 refine List.filter_congr fun y hy => ?_
 by_cases e : keyM x.m = keyM y.m
 ·have := hu.sameV hx hy e
  subst this
  unfold curP
  rw [ho]
  simp
 ·have h2 : decide (keyM y.m ∈ keyM x.m :: seen) = decide (keyM y.m ∈ seen) := by
   by_cases h3 : keyM y.m ∈ seen
   ·rw [decide_eq_true h3, decide_eq_true (List.mem_cons_of_mem _ h3)]
   ·rw [decide_eq_false h3, decide_eq_false fun h4 => by
     rcases List.mem_cons.1 h4 with h5 | h5
     ·exact e h5.symm
     ·exact h3 h5]
  unfold curP
  rw [h2]
theorem NΦ.skip {ws0 : List MV} {c : Msg → Int} {s : NS} (h : NΦ ws0 c s) (hu : KU (ws0.map MV.m)) {x : MV} (hx : x ∈ ws0) (ho : openZ (c x.m) = true) (h0 : c x.m ≠ 0) (hl : unsE s.es (keyM x.m :: s.seen) ≤ unsE s.es s.seen) :
  NΦ ws0 c ⟨s.ws, s.es, keyM x.m :: s.seen, s.rd, s.p, s.c⟩ := by
 refine ⟨h.hes, h.cur.trans (cur_keep hu hx ho), h.heap, fun k => ?_, by have := h.len; show s.rd.length + unsE s.es (keyM x.m :: s.seen) ≤ _; omega⟩
 rw [show k ∈ s.rd ↔ _ from h.mem k]
 constructor
 ·rintro ⟨y, hy, e, hc, hs⟩
  exact ⟨y, hy, e, hc, List.mem_cons_of_mem _ hs⟩
 ·rintro ⟨y, hy, e, hc, hs⟩
  refine ⟨y, hy, e, hc, ?_⟩
  rcases List.mem_cons.1 hs with h1 | h1
  ·rw [hu.sameV hy hx (e.trans h1)] at hc
   exact absurd hc h0
  ·exact h1
theorem NΦ.push {ws0 : List MV} {c : Msg → Int} {s : NS} (h : NΦ ws0 c s) (hu : KU (ws0.map MV.m)) {x : MV} (hx : x ∈ ws0) (h0 : c x.m = 0) (hl : unsE s.es (keyM x.m :: s.seen) < unsE s.es s.seen)
  {l' : List Nm} (hh : Heap l') (hm : ∀ k, k ∈ l' ↔ k ∈ s.rd ∨ k = keyM x.m) (hlen : l'.length = s.rd.length + 1) (p : Option Addr) (cc : Nat) : NΦ ws0 c ⟨s.ws, s.es, keyM x.m :: s.seen, l', p, cc⟩ := by
 refine ⟨h.hes, h.cur.trans (cur_keep hu hx (by rw [h0]; rfl)), hh, fun k => ?_, by have := h.len; show l'.length + unsE s.es (keyM x.m :: s.seen) ≤ _; omega⟩
 rw [show k ∈ l' ↔ _ from hm k, h.mem k]
 constructor
 ·rintro (⟨y, hy, e, hc, hs⟩ | rfl)
  ·exact ⟨y, hy, e, hc, List.mem_cons_of_mem _ hs⟩
  ·exact ⟨x, hx, rfl, h0, by simp⟩
 ·rintro ⟨y, hy, e, hc, hs⟩
  rcases List.mem_cons.1 hs with h1 | h1
  ·exact .inr h1
  ·exact .inl ⟨y, hy, e, hc, h1⟩
theorem NΦ.del {ws0 : List MV} {c : Msg → Int} {s : NS} (h : NΦ ws0 c s) (hu : KU (ws0.map MV.m)) {x : MV} (hx : x ∈ ws0) (ho : openZ (c x.m) = false) (hl : unsE s.es (keyM x.m :: s.seen) ≤ unsE s.es s.seen) :
  NΦ ws0 c ⟨ws0.filter (curP c (keyM x.m :: s.seen)), delE (keyM x.m) s.es, keyM x.m :: s.seen, s.rd, s.p, s.c⟩ := by
 refine ⟨?_, rfl, h.heap, fun k => ?_, by have := h.len; have := unsE_del s.es (keyM x.m :: s.seen) (keyM x.m); show s.rd.length + unsE (delE (keyM x.m) s.es) (keyM x.m :: s.seen) ≤ _; omega⟩
 ·show (delE (keyM x.m) s.es).map kvOf = _
  rw [delE_kv, h.hes, ent_filter, h.cur, cur_del hu hx ho]
 ·rw [show k ∈ s.rd ↔ _ from h.mem k]
  constructor
  ·rintro ⟨y, hy, e, hc, hs⟩
   exact ⟨y, hy, e, hc, List.mem_cons_of_mem _ hs⟩
  ·rintro ⟨y, hy, e, hc, hs⟩
   refine ⟨y, hy, e, hc, ?_⟩
   rcases List.mem_cons.1 hs with h1 | h1
   ·rw [hu.sameV hy hx (e.trans h1)] at hc
    rw [hc] at ho
    cases ho
   ·exact h1
theorem NΦ.stop {ws0 : List MV} {c : Msg → Int} {s : NS} (h : NΦ ws0 c s) (hend : ∀ e ∈ s.es, e.1 ∈ s.seen) : s.ws = ws0.filter (fun x => openZ (c x.m)) ∧ ∀ k, k ∈ s.rd ↔ ∃ x ∈ ws0, keyM x.m = k ∧ c x.m = 0 := by
 have hin : ∀ x ∈ ws0, curP c s.seen x = true → keyM x.m ∈ s.seen := fun x hx hp => by
  have h1 : x ∈ s.ws := by rw [h.cur]; exact List.mem_filter.2 ⟨hx, hp⟩
  obtain ⟨e, he, e1⟩ := ent_of h.hes h1
  rw [← e1]
  exact hend e he
 constructor
 ·rw [h.cur]
  refine List.filter_congr fun x hx => ?_
  cases hp : curP c s.seen x with
  | true =>
   have h1 := hin x hx hp
   unfold curP at hp
   rw [decide_eq_true h1] at hp
   exact hp.symm
  | false =>
   unfold curP at hp
   rw [Bool.or_eq_false_iff] at hp
   exact hp.2.symm
 ·intro k
  rw [h.mem k]
  constructor
  ·rintro ⟨x, hx, e, hc, _⟩; exact ⟨x, hx, e, hc⟩
  ·rintro ⟨x, hx, e, hc⟩
   refine ⟨x, hx, e, hc, ?_⟩
   rw [← e]
   exact hin x hx (by unfold curP; rw [hc]; simp [openZ])
theorem filt_map (c : Msg → Int) (ws : List MV) : (ws.filter fun x => openZ (c x.m)).map MV.m = (ws.map MV.m).filter fun x => openZ (c x) := by
 rw [List.filter_map]; rfl
section
variable (f : Frag) (F : List HP)
set_option maxRecDepth 20000 in
set_option maxHeartbeats 3200000 in
theorem wnext_fn (htab : TabAt f) {e el : Frag} (he : Le e f) {wb lb n : Nat} {ws l : List MV} :
  Fn Tryz.prog 37 [.pointer (some ⟨wb, 0, none⟩), .pointer (some ⟨lb, 0, none⟩)] f (waitH e wb ws :: loreH el lb n l :: F) (NextP f (loreH el lb n l :: F) e wb ws (chk n (strm (l.map MV.m)))) := by
 refine Fn.unpack fun b hb => ?_
 have hck : ∀ x ∈ ws, ∀ G, Fn Tryz.prog 23 [.pointer (some ⟨lb, 0, none⟩), .agg x.vals.toArray] f (loreH el lb n l :: G) (Ret (.int .i64 (chk n (strm (l.map MV.m)) x.m)) f (loreH el lb n l :: G)) := fun x hx G => lcheck_fn f G htab ((hb.g x hx).mono he)
 generalize chk n (strm (l.map MV.m)) = c at *
 refine Fn.enter Tryz.func37 rfl Tryz.ntmps37 rfl (L := [(0, _), (1, _)]) ⟨rfl, rfl, trivial⟩ fun base => ?_
 repeat ((first | apply H.seq | apply H.Ab))
 refine H.Bg (ls := msgZ.vals none 0) rfl rfl rfl fun ob => ?_
 repeat (first | ((first | apply H.Ac | apply H.Ad); (iterate 3 exact rfl)) | (first | apply H.seq | apply H.Ab | apply H.nil | apply H.Aa) | ((apply H.Ay); (iterate 4 exact rfl)) | ((apply H.Ce); (iterate 5 exact rfl)) | (apply H.Av; exact rfl) | (apply H.Ak))
 refine H.Bw (out := []) rfl rfl rfl rfl (by decide) (by decide) rfl rfl fun sb => ?_
 refine H.asSlc (k := 0) (sz := 2) rfl (by decide) ?_
 refine H.box (ls := [.slice (some ⟨sb, 0, none⟩) 0 0]) rfl rfl rfl rfl fun nb => ?_
 refine H.Ae (x := mp _ _ _) (by repeat constructor) ?_
 refine H.openMap fun es clock hes => ?_
 repeat (first | ((first | apply H.Ac | apply H.Ad | apply H.Ar); (iterate 3 exact rfl)) | (apply H.Ag; (iterate 3 exact rfl); exact inferInstance; exact rfl) | (apply H.Af; (iterate 3 exact rfl); apply Rd1.ofRow; (repeat (first | exact .here _ _ _ | apply At.there)); (iterate 2 exact rfl)) | (first | apply H.seq | apply H.Ab | apply H.nil | apply H.Aa))
 refine H.range rfl rfl (by repeat constructor) rfl fun rb => ?_
 refine H.imp (imp_first (itr_weak (es' := es) fun _ h => h)) ?_
 repeat (first | (first | apply H.nil | apply H.Aa) | (apply H.Ao))
 have hu := hb.ku
 have hb0 : NΦ ws c ⟨ws, es, [], [], some ⟨sb, 0, none⟩, 0⟩ := by
  refine ⟨hes, ?_, Heap.nil, fun k => ?_, ?_⟩
  ·symm
   rw [List.filter_eq_self]
   intro x _
   unfold curP
   rw [decide_eq_false (by intro h; cases h)]
   rfl
  ·constructor
   ·intro h; cases h
   ·rintro ⟨_, _, _, _, h⟩; cases h
  ·have h1 : unsE es ([] : List Nm) ≤ es.length := List.length_filter_le _ _
   have h2 := congrArg List.length hes
   rw [List.length_map, List.length_map] at h2
   have := hb.len
   show 0 + unsE es ([] : List Nm) ≤ 100000
   omega
 refine H.Ae (x := slc _ _ _ _ _ _) (by repeat constructor) ?_
 refine H.Ae (x := row ob _ _) (by repeat constructor) ?_
 refine H.Bo (ι := NS) (fun _ => [(24, .pointer (some ⟨rb, 0, none⟩)), (0, .pointer (some ⟨wb, 0, none⟩)), (1, .pointer (some ⟨lb, 0, none⟩)), (6, .pointer (some ⟨nb, 0, none⟩)), (4, .pointer (some ⟨ob, 0, none⟩)), (5, .bool false)]) (fun _ => f)
  (fun s => row ob 47 (msgZ.vals none 0) :: slc s.p s.rd.length s.c 136 2 (s.rd.flatMap nmV) :: itrW rb b s.es clock s.seen :: mpS b nmE s.es clock :: row nb 134 [.slice s.p s.rd.length s.c] :: row wb 131 [.map (some b)] :: loreH el lb n l :: F)
  (NΦ ws c) (fun s => unsE s.es s.seen) ⟨ws, es, [], [], some ⟨sb, 0, none⟩, 0⟩ hb0 ⟨rfl, rfl, rfl, rfl, rfl, rfl, trivial⟩ rfl rfl fun s hs => ?_
 obtain ⟨cur, es2, seen, rd, p, cc⟩ := s
 show H _ _ _ _ _ (row ob _ _ :: slc p rd.length cc _ 2 (rd.flatMap nmV) :: itrW rb b es2 clock seen :: mpS b nmE es2 clock :: row nb _ [.slice p rd.length cc] :: _) _
 repeat ((first | apply H.seq | apply H.Ab))
 refine H.nextW rfl rfl (by repeat constructor) (by repeat constructor) (fun _ => (by repeat constructor)) rfl (fun hend => ?_) (fun e0 he0 hns => ?_)
 ·obtain ⟨hcur, hrd⟩ := hs.stop hend
  have hes2 : es2.map kvOf = cur.map entV := hs.hes
  have hcur : cur = ws.filter fun x => openZ (c x.m) := hcur
  have hheap : Heap rd := hs.heap
  have hrl5 : rd.length ≤ 100000 := by have h9 : rd.length + unsE es2 seen ≤ 100000 := hs.len; omega
  have hrd : ∀ k, k ∈ rd ↔ ∃ x ∈ ws, keyM x.m = k ∧ c x.m = 0 := hrd
  clear hs hend hb0 hes
  have hcm : cur.map MV.m = (ws.map MV.m).filter fun x => openZ (c x) := by rw [hcur, filt_map]
  have hsubc : ∀ y ∈ cur, y ∈ ws := fun y hy => by rw [hcur] at hy; exact (List.mem_filter.1 hy).1
  have hφ : Waitφ e cur := ⟨fun y hy => hb.g y (hsubc y hy), fun y hy => hb.pos y (hsubc y hy), by rw [hcm]; exact hu.filter _, by rw [hcur]; exact Nat.le_trans (List.length_filter_le _ _) hb.len⟩
  repeat (first | ((first | apply H.Ac | apply H.Ar); (iterate 3 exact rfl)) | (apply H.Af; (iterate 3 exact rfl); apply Rd1.ofRow; (repeat (first | exact .here _ _ _ | apply At.there)); (iterate 2 exact rfl)) | (first | apply H.seq | apply H.Ab | apply H.nil | apply H.Aa) | ((apply H.Cc); (iterate 4 exact rfl)) | (apply H.Av; exact rfl) | (first | apply H.Bl | apply H.Bj | apply H.Bk | apply H.Bm))
  refine H.Ah (x := itrW _ _ _ _ _) (by repeat constructor) ?_
  refine H.Am rfl rfl rfl (nlen_fn f _) ?_
  by_cases hrl : rd.length = 0
  ·skip
   repeat (first | (first | apply H.seq | apply H.Ab | apply H.nil | apply H.Aa) | ((apply H.cmp); (iterate 5 exact rfl)) | (apply H.Au; exact rfl; (omega)))
   refine H.Al (ls := msgZ.vals none 0) rfl rfl rfl (Rd.ofRow (by repeat constructor)) rfl rfl ?_
   refine H.Bb (ls := msgZ.vals none 0) (vs := msgZ.vals none 0) (ls' := msgZ.vals none 0) rfl rfl rfl (zad rfl) rfl rfl (Nat.le_refl 121) (by repeat constructor) ?_
   repeat (first | ((apply H.Ad); (iterate 3 exact rfl)) | (first | apply H.nil | apply H.Aa) | (first | apply H.ret | apply H.Be))
   refine H.Ah (x := slc _ _ _ _ _ _) (by repeat constructor) ?_
   refine H.Ah (x := row nb _ _) (by repeat constructor) ?_
   refine H.Ae (x := mpS _ _ _ _) (by repeat constructor) ?_
   refine H.imp mpS_fold ?_
   rw [hes2]
   refine H.Ae (x := row wb _ _) (by repeat constructor) ?_
   refine H.imp (zbi b hφ) ?_
   refine H.Ae (x := row ob _ _) (by repeat constructor) ?_
   exact H.retCT (ls := msgZ.vals none 0) rfl rfl rfl rfl (Rd.ofRow (.here _ _ _)) rfl (fun _ s => s.drop (.here _ _)) ⟨none, cur, .no (fun ym hym h0 => by
    obtain ⟨y, hy, rfl⟩ := List.mem_map.1 hym
    have : keyM y.m ∈ rd := (hrd _).2 ⟨y, hy, rfl, h0⟩
    rw [List.eq_nil_of_length_eq_zero hrl] at this
    cases this) _ (by rw [hcm]), (fun y h => by cases h), hsubc, rfl, rfl, rfl⟩
  ·obtain ⟨m, hm⟩ : ∃ m, rd.length = m + 1 := ⟨rd.length - 1, by omega⟩
   have hroot : nmAt rd 0 ∈ rd := List.mem_of_getElem? (zbc (by omega))
   obtain ⟨y, hy, hyk, hy0⟩ := (hrd _).1 hroot
   have hyc : y ∈ cur := by rw [hcur]; exact List.mem_filter.2 ⟨hy, by rw [hy0]; rfl⟩
   have hget : getKV (cur.map entV) (keyM y.m) = some (.agg y.vals.toArray) := getKV_mem (by rw [ent_keys]; exact hφ.ku) (List.mem_map_of_mem (f := entV) hyc)
   have hg1 : (getKV (cur.map entV) (keyM y.m)).getD (.agg (msgZ.vals none 0).toArray) = .agg y.vals.toArray := by rw [hget]; rfl
   have hleast : ∀ z ∈ ws.map MV.m, c z = 0 → y.m.origin ≤ z.origin := fun zm hzm h0 => by
    obtain ⟨z, hz, rfl⟩ := List.mem_map.1 hzm
    have h1 := hheap.least ((hrd _).2 ⟨z, hz, rfl, h0⟩)
    rw [← hyk] at h1
    exact h1
   have hpop : ∀ {G}, Fn Tryz.prog 68 [.iface 132 (.pointer (some ⟨nb, 0, none⟩))] f (slc p rd.length cc 136 2 (rd.flatMap nmV) :: row nb 134 [.slice p rd.length cc] :: G) (Ret (.iface 136 (.agg (nmV (keyM y.m)).toArray)) f G) := fun {G} => by
    have hm9 : m < 1000000 := by omega
    rw [hm, hyk]
    exact hpop_fn (n := 0) f G hm hm9
   repeat (first | ((apply H.Ac); (iterate 3 exact rfl)) | (first | apply H.seq | apply H.Ab | apply H.nil | apply H.Aa) | ((apply H.cmp); (iterate 5 exact rfl)) | (apply H.Ak) | (apply H.Aw; exact rfl; (omega)))
   refine H.makeI (by rfl) rfl rfl rfl ?_
   refine H.Ae (x := row nb _ _) (by repeat constructor) ?_
   refine H.Ae (x := slc _ _ _ _ _ _) (by repeat constructor) ?_
   refine H.Am rfl rfl rfl hpop ?_
   refine H.assertI (by rfl) rfl rfl rfl ?_
   refine H.Bg (ls := nmV (0, 0)) rfl rfl rfl fun kb => ?_
   refine H.Bb (ls := nmV (0, 0)) (vs := nmV (keyM y.m)) (ls' := nmV (keyM y.m)) rfl rfl rfl (nmV_one _) rfl rfl (Nat.le_refl 2) (.here _ _ _) ?_
   repeat ((first | apply H.seq | apply H.nil | apply H.Aa))
   refine H.Ae (x := mpS _ _ _ _) (by repeat constructor) ?_
   refine H.imp mpS_fold ?_
   rw [hes2]
   refine H.Ae (x := row wb _ _) (by repeat constructor) ?_
   refine H.Ae (x := row kb _ _) (by repeat constructor) ?_
   refine H.Bt (by kernel_rfl) (by decide +kernel) (by repeat (first | exact zab | refine zaa ?_ | refine zac ?_ | refine zae ?_)) (S := [_, _, _]) rfl ?_
   refine HB.Aq [(0, false), (1, false), (2, false), (3, false), (4, false), (5, false)] 1 (by kernel_rfl) ?_
   repeat (first | (refine HQ.Al (ls := nmV (keyM y.m)) rfl rfl rfl (Rd.ofRow (.here _ _ _)) rfl rfl ?_) | ((first | apply HQ.Ac | apply HQ.Ar); (iterate 3 exact rfl)) | (apply HQ.Ag; (iterate 3 exact rfl); exact inferInstance; exact rfl) | (apply HQ.Af; (iterate 3 exact rfl); apply Rd1.ofRow; (repeat (first | exact .here _ _ _ | apply At.there)); (iterate 2 exact rfl)) | (refine HQ.lookup (enc := nmE) (k := keyM y.m) rfl rfl rfl (by repeat constructor) rfl hg1 rfl ?_))
   refine HQ.Ap rfl ?_
   refine HB.ev1 (i := 6) (by kernel_rfl) rfl ?_
   refine H.Bb (ls := msgZ.vals none 0) (vs := y.vals) (ls' := y.vals) rfl rfl rfl (zad rfl) rfl rfl (Nat.le_refl 121) (.there _ (.there _ (.there _ (.here _ _ _)))) ?_
   repeat ((apply H.nil))
   refine H.on0 rfl ?_
   refine HB.Bf (by kernel_rfl) ?_
   repeat ((first | apply H.seq | apply H.Aa))
   refine H.Ae (x := mp _ _ _) (by repeat constructor) ?_
   refine H.openMap fun es3 clock3 hes3 => ?_
   refine H.Ae (x := row wb _ _) (by repeat constructor) ?_
   refine H.Ae (x := row kb _ _) (by repeat constructor) ?_
   refine H.Bt (by kernel_rfl) (by decide +kernel) (by repeat (first | exact zab | refine zaa ?_ | refine zac ?_ | refine zae ?_)) (S := [_, _]) rfl ?_
   refine HB.Aq [(0, false), (1, false), (2, false), (3, false), (4, false)] 1 (by kernel_rfl) ?_
   repeat (first | (refine HQ.Al (ls := nmV (keyM y.m)) rfl rfl rfl (Rd.ofRow (.here _ _ _)) rfl rfl ?_) | ((first | apply HQ.Ac | apply HQ.Ar); (iterate 3 exact rfl)) | (apply HQ.Ag; (iterate 3 exact rfl); exact inferInstance; exact rfl) | (apply HQ.Af; (iterate 3 exact rfl); apply Rd1.ofRow; (repeat (first | exact .here _ _ _ | apply At.there)); (iterate 2 exact rfl)))
   refine HQ.Ap rfl ?_
   refine HB.ev1 (i := 5) (by kernel_rfl) rfl ?_
   refine H.deleteS (enc := nmE) (k := keyM y.m) rfl rfl rfl (by repeat constructor) rfl ?_
   repeat ((apply H.nil))
   refine H.on0 rfl ?_
   refine HB.Bf (by kernel_rfl) ?_
   repeat ((first | apply H.seq | apply H.Ab | apply H.Aa))
   refine H.Ae (x := mpS _ _ _ _) (by repeat constructor) ?_
   refine H.imp mpS_fold ?_
   rw [delE_kv, hes3, ent_filter]
   refine H.Ah (x := row kb _ _) (by repeat constructor) ?_
   refine H.Ae (x := row ob _ _) (by repeat constructor) ?_
   refine H.Al (ls := y.vals) rfl rfl rfl (Rd.ofRow (.here _ _ _)) rfl rfl ?_
   refine H.Bb (ls := y.vals) (vs := y.vals) (ls' := y.vals) rfl rfl rfl (zad rfl) rfl rfl (Nat.le_refl 121) (.here _ _ _) ?_
   repeat (first | ((apply H.Ad); (iterate 3 exact rfl)) | (first | apply H.nil | apply H.Aa) | (apply H.ret))
   have hsub2 : ∀ z ∈ cur.filter (fun z => !decide (keyM y.m = keyM z.m)), z ∈ cur := fun z hz => (List.mem_filter.1 hz).1
   have hφ2 : Waitφ e (cur.filter fun z => !decide (keyM y.m = keyM z.m)) := ⟨fun z hz => hφ.g z (hsub2 z hz), fun z hz => hφ.pos z (hsub2 z hz), by rw [map_filt]; exact hφ.ku.filter _, Nat.le_trans (List.length_filter_le _ _) hφ.len⟩
   refine H.Ae (x := mp _ _ _) (by repeat constructor) ?_
   refine H.Ae (x := row wb _ _) (by repeat constructor) ?_
   refine H.imp (zbi b hφ2) ?_
   refine H.Ae (x := row ob _ _) (by repeat constructor) ?_
   exact H.retCT (ls := y.vals) rfl rfl rfl rfl (Rd.ofRow (.here _ _ _)) rfl (fun _ s => s.drop (.here _ _)) ⟨some y, _, .yes y.m (List.mem_map_of_mem hy) hy0 hleast _ (by
    rw [map_filt, ← hcm]
    exact perm_del hφ.ku (List.mem_map_of_mem hyc)), (fun z h => by cases h; exact ⟨hy, hb.g y hy⟩), (fun z hz => hsubc z (hsub2 z hz)), rfl, rfl, rfl⟩
 ·obtain ⟨ek, ev, st⟩ := e0
  obtain ⟨x, hxc, e1, e2⟩ := ent_mem hs.hes he0
  have e1 : ek = keyM x.m := e1
  have e2 : ev = .agg x.vals.toArray := e2
  subst e1; subst e2
  have hx : x ∈ ws := by
   have hxc : x ∈ cur := hxc
   rw [show cur = _ from hs.cur] at hxc
   exact (List.mem_filter.1 hxc).1
  have hns : keyM x.m ∉ seen := hns
  have hlt := unsE_lt (e := (keyM x.m, Value.agg x.vals.toArray, st)) he0 hns
  have hlt : unsE es2 (keyM x.m :: seen) < unsE es2 seen := hlt
  have hckx := hck x hx
  repeat (first | (first | apply H.seq | apply H.Ab | apply H.nil | apply H.Aa) | ((apply H.Cc); (iterate 4 exact rfl)) | (apply H.Bh; exact rfl) | (first | apply H.Ak | apply H.Ao))
  refine H.entry rfl rfl (by repeat constructor) (by repeat constructor) he0 rfl ?_
  repeat (((apply H.Cc); (iterate 4 exact rfl)))
  refine H.Bg (ls := nmV (0, 0)) rfl rfl rfl fun kb => ?_
  refine H.Bg (ls := msgZ.vals none 0) rfl rfl rfl fun mb => ?_
  refine H.Bb (ls := nmV (0, 0)) (vs := nmV (keyM x.m)) (ls' := nmV (keyM x.m)) rfl rfl rfl (nmV_one _) rfl rfl (Nat.le_refl 2) (.there _ (.here _ _ _)) ?_
  refine H.Bb (ls := msgZ.vals none 0) (vs := x.vals) (ls' := x.vals) rfl rfl rfl (zad rfl) rfl rfl (Nat.le_refl 121) (.here _ _ _) ?_
  repeat (first | ((apply H.Ac); (iterate 3 exact rfl)) | (first | apply H.seq | apply H.Ab | apply H.nil | apply H.Aa))
  refine H.Al (ls := x.vals) rfl rfl rfl (Rd.ofRow (.here _ _ _)) rfl rfl ?_
  refine H.Ae (x := loreH _ _ _ _) (by repeat constructor) ?_
  refine H.Am rfl rfl rfl (hckx _) ?_
  refine H.Ah (x := row mb _ _) (by repeat constructor) ?_
  repeat (first | ((first | apply H.Ac | apply H.Ad); (iterate 3 exact rfl)) | (first | apply H.seq | apply H.Ab | apply H.nil | apply H.Aa) | (apply H.Ao))
  refine H.Am rfl rfl rfl (wopen_fn f _) ?_
  refine H.not (b := _) (c := _) rfl rfl rfl rfl ?_
  cases ho : openZ (c x.m) with
  | false =>
   repeat (first | ((apply H.Ad); (iterate 3 exact rfl)) | (first | apply H.nil | apply H.Aa) | (apply H.Bh; exact rfl))
   refine H.Ae (x := row wb _ _) (by repeat constructor) ?_
   refine H.Ae (x := row kb _ _) (by repeat constructor) ?_
   refine H.Bt (by kernel_rfl) (by decide +kernel) (by repeat (first | exact zab | refine zaa ?_ | refine zac ?_ | refine zae ?_)) (S := [_, _]) rfl ?_
   refine HB.Aq [(0, false), (1, false), (2, false), (3, false), (4, false)] 1 (by kernel_rfl) ?_
   repeat (first | (refine HQ.Al (ls := nmV (keyM x.m)) rfl rfl rfl (Rd.ofRow (.here _ _ _)) rfl rfl ?_) | ((first | apply HQ.Ac | apply HQ.Ar); (iterate 3 exact rfl)) | (apply HQ.Ag; (iterate 3 exact rfl); exact inferInstance; exact rfl) | (apply HQ.Af; (iterate 3 exact rfl); apply Rd1.ofRow; (repeat (first | exact .here _ _ _ | apply At.there)); (iterate 2 exact rfl)))
   refine HQ.Ap rfl ?_
   refine HB.ev1 (i := 5) (by kernel_rfl) rfl ?_
   refine H.deleteS (enc := nmE) (k := keyM x.m) rfl rfl rfl (by repeat constructor) rfl ?_
   repeat ((apply H.nil))
   refine H.on0 rfl ?_
   refine HB.Bf (by kernel_rfl) ?_
   repeat ((apply H.Ba))
   refine H.Ah (x := row kb _ _) (by repeat constructor) ?_
   refine H.Ae (x := row wb _ _) (by repeat constructor) ?_
   refine H.Ae (x := row nb _ _) (by repeat constructor) ?_
   refine H.Ae (x := mpS _ _ _ _) (by repeat constructor) ?_
   refine H.Ae (x := itr _ _ _ _ _) (by repeat constructor) ?_
   refine H.imp (imp_first (itr_weak (es' := delE (keyM x.m) es2) fun _ h => delE_mem h)) ?_
   refine H.Ae (x := slc _ _ _ _ _ _) (by repeat constructor) ?_
   refine H.Ae (x := row ob _ _) (by repeat constructor) ?_
   exact H.Bc _ (hs.del hu hx ho (Nat.le_of_lt hlt)) (Nat.lt_of_le_of_lt (unsE_del es2 (keyM x.m :: seen) (keyM x.m)) hlt) ⟨rfl, rfl, rfl, rfl, rfl, rfl, trivial⟩ rfl rfl
  | true =>
   by_cases h0 : c x.m = 0
   ·skip
    repeat (first | ((first | apply H.Ac | apply H.Ad); (iterate 3 exact rfl)) | (first | apply H.seq | apply H.Ab | apply H.nil | apply H.Aa) | ((apply H.cmp); (iterate 5 exact rfl)) | (apply H.Av; exact rfl) | (apply H.Au; exact rfl; (assumption)))
    refine H.makeI (by rfl) rfl rfl rfl ?_
    refine H.Al (ls := nmV (keyM x.m)) rfl rfl rfl (Rd.ofRow (by repeat constructor)) rfl rfl ?_
    refine H.makeI (by rfl) rfl rfl rfl ?_
    refine H.Ae (x := row nb _ _) (by repeat constructor) ?_
    refine H.Ae (x := slc _ _ _ _ _ _) (by repeat constructor) ?_
    refine H.call rfl rfl rfl (hpush_fn f _ (n := rd.length) rfl (by have := hs.len; have : rd.length ≤ 100000 := by { have h9 : rd.length + unsE es2 seen ≤ 100000 := hs.len; omega }; omega) hs.heap) fun v f' A' hr => ?_
    obtain ⟨p', c', l', h1, h2, h3, rfl, hff, rfl⟩ := hr
    rw [hff, ← h3]
    repeat (first | (apply H.nil) | (apply H.Ba))
    refine H.Ah (x := row kb _ _) (by repeat constructor) ?_
    refine H.Ae (x := row wb _ _) (by repeat constructor) ?_
    refine H.Ae (x := row nb _ _) (by repeat constructor) ?_
    refine H.Ae (x := mpS _ _ _ _) (by repeat constructor) ?_
    refine H.Ae (x := itr _ _ _ _ _) (by repeat constructor) ?_
    refine H.imp (imp_first (itr_weak (es' := es2) fun _ h => h)) ?_
    refine H.Ae (x := slc _ _ _ _ _ _) (by repeat constructor) ?_
    refine H.Ae (x := row ob _ _) (by repeat constructor) ?_
    exact H.Bc _ (hs.push hu hx h0 hlt h1 h2 h3 p' c') hlt ⟨rfl, rfl, rfl, rfl, rfl, rfl, trivial⟩ rfl rfl
   ·skip
    repeat (first | ((first | apply H.Ac | apply H.Ad); (iterate 3 exact rfl)) | (first | apply H.seq | apply H.Ab | apply H.nil | apply H.Aa) | ((apply H.cmp); (iterate 5 exact rfl)) | (apply H.Av; exact rfl) | (first | apply H.Ak | apply H.Ba) | (apply H.Aw; exact rfl; (assumption)))
    refine H.Ah (x := row kb _ _) (by repeat constructor) ?_
    refine H.Ae (x := row wb _ _) (by repeat constructor) ?_
    refine H.Ae (x := row nb _ _) (by repeat constructor) ?_
    refine H.Ae (x := mpS _ _ _ _) (by repeat constructor) ?_
    refine H.Ae (x := itr _ _ _ _ _) (by repeat constructor) ?_
    refine H.imp (imp_first (itr_weak (es' := es2) fun _ h => h)) ?_
    refine H.Ae (x := slc _ _ _ _ _ _) (by repeat constructor) ?_
    refine H.Ae (x := row ob _ _) (by repeat constructor) ?_
    exact H.Bc _ (hs.skip hu hx ho h0 (Nat.le_of_lt hlt)) hlt ⟨rfl, rfl, rfl, rfl, rfl, rfl, trivial⟩ rfl rfl
end
theorem take_cons_drop {α : Type} {l : List α} {k : Nat} {y : α} (h : l[k]? = some y) : l = l.take k ++ y :: l.drop (k + 1) := by
 have h1 := take_snoc h
 have h2 := (List.take_append_drop (k + 1) l).symm
 rw [h1, List.append_assoc] at h2
 exact h2
def getM (l : List Msg) (o z : Int) : Msg × Bool := match findM l o z with
 | some m => (m, true)
 | none => (msgZ, false)
theorem msgZ_good (f : Frag) : (⟨msgZ, none, 0⟩ : MV).Good f := ⟨QAt.nil f none, Nat.zero_le _, ⟨by decide, by decide⟩, ⟨by decide, by decide⟩, reqz_ok⟩
section
variable (f : Frag) (F : List HP)
end
theorem Dj.un3' {f g h : Frag} (h1 : Dj f g) (h2 : Dj (un f g) h) : Dj f (un g h) := Dj.un_right.2 ⟨h1, (Dj.un_left.1 h2).1⟩
theorem slc_snoc {p : Option Addr} {c : Nat} {T : TypeId} {R : List MV} {y : MV} : slc p (R.length + 1) c T 121 (R.flatMap MV.vals ++ y.vals) = slc p (R ++ [y]).length c T 121 ((R ++ [y]).flatMap MV.vals) := by
 rw [List.length_append, List.flatMap_append]
 show _ = slc p (R.length + 1) c T 121 (R.flatMap MV.vals ++ (y.vals ++ []))
 rw [List.append_nil]
section
variable (f : Frag) (F : List HP)
end
section
variable (f : Frag) (F : List HP)
theorem rclient_fn {i : Int} (h1 : 1 ≤ i) (h2 : i ≤ 8) : Fn Tryz.prog 97 [.int .i64 i] f F (BytesR (Sha.word32 clientW i) f F) := by
 refine Fn.enter Tryz.func97 rfl Tryz.ntmps97 rfl (L := [(0, _)]) ⟨rfl, trivial⟩ fun base => ?_
 repeat (first | ((first | apply H.Ac | apply H.Ad); (iterate 3 exact rfl)) | (first | apply H.seq | apply H.Ab | apply H.nil | apply H.Aa))
 refine H.Bn rfl rfl rfl (rkey_fn (w := ⟨#[114, 97, 116, 99, 104, 101, 116, 32, 99, 108, 105, 101, 110, 116]⟩) f _ h1 h2 (by decide) (by decide)) fun p1 c1 => ?_
 repeat (first | ((apply H.Ad); (iterate 3 exact rfl)) | (first | apply H.nil | apply H.Aa) | (apply H.ret))
 exact H.Aj rfl rfl (fun _ h => h) ⟨p1, c1, rfl, rfl, rfl⟩
set_option maxHeartbeats 800000 in
theorem rsigned_fn (r : Req) : Fn Tryz.prog 76 [.agg r.vals.toArray] f F (Ret (.agg r.signed.vals.toArray) f F) := by
 have has := fun G => rasked_fn f G r
 unfold Req.signed
 by_cases ha : r.asked
 ·have hbl := Req.bytes_max ha
  have hcl := fun G => rclient_fn f G ha.1 ha.2.1
  have hrq := fun G p c => rrequest_fn f G (p := p) (c := c) (l := []) r ha (by decide)
  have hk : (Sha.word32 clientW r.client).length = 32 := rfl
  rw [if_pos ha]
  rw [decide_eq_true ha] at has
  unfold Req.sig
  generalize Sha.word32 clientW r.client = key at hk hcl ⊢
  rw [show ([] : List UInt8) ++ r.bytes = r.bytes from rfl] at hrq
  generalize r.bytes = rb at hbl hrq ⊢
  refine Fn.enter Tryz.func76 rfl Tryz.ntmps76 rfl (L := [(0, _)]) ⟨rfl, trivial⟩ fun base => ?_
  repeat ((first | apply H.seq | apply H.Ab))
  refine H.box (ls := r.vals) rfl rfl rfl rfl fun qb => ?_
  refine H.Bg (ls := Req.zero.vals) rfl rfl rfl fun ob => ?_
  repeat ((first | apply H.seq | apply H.Ab | apply H.nil | apply H.Aa))
  refine H.Al (ls := r.vals) rfl rfl rfl (Rd.ofRow (.there _ (.here _ _ _))) rfl rfl ?_
  refine H.Am rfl rfl rfl (has _) ?_
  repeat (first | (first | apply H.nil | apply H.Aa) | (apply H.Bh; exact rfl))
  refine H.Ae (.there _ (.here _ _)) ?_
  refine H.Ch [0, 1, 2, 3, 4, 5] (by kernel_rfl) (by decide +kernel) (by repeat (first | exact zab | refine zaa ?_ | refine zac ?_ | refine zae ?_)) (S := [_]) rfl ?_
  refine HB.Aq [(0, false), (1, false), (3, false)] 5 (by kernel_rfl) ?_
  repeat (first | (apply HQ.Ag; (iterate 3 exact rfl); exact inferInstance; exact rfl) | (apply HQ.Af; (iterate 3 exact rfl); apply Rd1.ofRow; (repeat (exact .here _ _ _)); (iterate 2 exact rfl)))
  refine HQ.Al (ls := r.vals) rfl rfl rfl (Rd.ofRow (.here _ _ _)) rfl rfl ?_
  refine HQ.Ap rfl ?_
  refine HB.ev1 (i := 2) (by kernel_rfl) rfl ?_
  refine H.Bn rfl rfl rfl (hcl _) fun p1 c1 => ?_
  repeat ((apply H.nil))
  refine H.Ae (.there _ (.here _ _)) ?_
  refine H.on0 rfl ?_
  refine HB.ev1 (i := 4) (by kernel_rfl) rfl ?_
  refine H.slc0 5 1 ?_
  refine H.Bn rfl rfl rfl (hrq _ none 0) fun p2 c2 => ?_
  repeat ((apply H.nil))
  refine H.Ae (x := row qb _ _) (by repeat constructor) ?_
  refine H.on0 rfl ?_
  refine HB.ev1 (i := 5) (by kernel_rfl) rfl ?_
  refine H.Am rfl rfl rfl (hmac_fn f _ (key := key) (b := rb) (fun G => Src.append (Src.slcS (by repeat constructor) (by rw [zaf]; exact (Nat.mul_one _).symm))) (fun G => Src.append (Src.slcS (by repeat constructor) (by rw [zaf]; exact (Nat.mul_one _).symm))) (by omega) (by omega)) ?_
  generalize Sha.hmac key rb = t
  repeat ((apply H.nil))
  refine H.on0 rfl ?_
  refine HB.next [] (by kernel_rfl) (S' := []) rfl ?_
  refine HB.Aq [(6, false)] 1 (by kernel_rfl) ?_
  repeat ((apply HQ.Ag; (iterate 3 exact rfl); exact inferInstance; exact rfl))
  refine HQ.Ap rfl ?_
  refine HB.ev1 (i := 7) (by kernel_rfl) rfl ?_
  refine H.Bb (ls := r.vals) (vs := b32 t) (ls' := ({ r with tag := t } : Req).vals) rfl rfl rfl (zad rfl) rfl (splice_rtag r t) (by show 0 + 8 + 32 ≤ 40; decide) (.here _ _ _) ?_
  repeat ((apply H.nil))
  refine H.on0 rfl ?_
  refine HB.Bf (by kernel_rfl) ?_
  repeat ((first | apply H.seq | apply H.Ab | apply H.Aa))
  refine H.Al (ls := ({ r with tag := t } : Req).vals) rfl rfl rfl (Rd.ofRow (.here _ _ _)) rfl rfl ?_
  refine H.Bb (ls := Req.zero.vals) (vs := ({ r with tag := t } : Req).vals) (ls' := ({ r with tag := t } : Req).vals) rfl rfl rfl (zad rfl) rfl rfl (Nat.le_refl 40) (by repeat constructor) ?_
  repeat (first | (first | apply H.nil | apply H.Aa) | (apply H.ret))
  refine H.Ah (.here _ _) ?_
  refine H.Ah (.here _ _) ?_
  refine H.Ah (.here _ _) ?_
  exact H.Ca rfl rfl rfl (Rd.ofRow (.here _ _ _)) rfl (fun _ s => s.drop (.here _ _)) ⟨rfl, rfl, rfl⟩
 ·rw [if_neg ha]
  rw [decide_eq_false ha] at has
  refine Fn.enter Tryz.func76 rfl Tryz.ntmps76 rfl (L := [(0, _)]) ⟨rfl, trivial⟩ fun base => ?_
  repeat ((first | apply H.seq | apply H.Ab))
  refine H.box (ls := r.vals) rfl rfl rfl rfl fun qb => ?_
  refine H.Bg (ls := Req.zero.vals) rfl rfl rfl fun ob => ?_
  repeat ((first | apply H.seq | apply H.Ab | apply H.nil | apply H.Aa))
  refine H.Al (ls := r.vals) rfl rfl rfl (Rd.ofRow (.there _ (.here _ _ _))) rfl rfl ?_
  refine H.Am rfl rfl rfl (has _) ?_
  repeat (first | (first | apply H.seq | apply H.Ab | apply H.nil | apply H.Aa) | (apply H.Av; exact rfl) | (apply H.Ak))
  refine H.Al (ls := r.vals) rfl rfl rfl (Rd.ofRow (.there _ (.here _ _ _))) rfl rfl ?_
  refine H.Bb (ls := Req.zero.vals) (vs := r.vals) (ls' := r.vals) rfl rfl rfl (zad rfl) rfl rfl (Nat.le_refl 40) (.here _ _ _) ?_
  repeat (first | (first | apply H.nil | apply H.Aa) | (apply H.ret))
  refine H.Ah (.there _ (.here _ _)) ?_
  exact H.Ca rfl rfl rfl (Rd.ofRow (.here _ _ _)) rfl (fun _ s => s.drop (.here _ _)) ⟨rfl, rfl, rfl⟩
end
theorem fits_signed (n : Nat) (m : Msg) : fitsB n m.signed = fitsB n m := by
 unfold fitsB
 rw [Msg.signed_may, m.signed_parts.1, m.signed_parts.2.2.1, m.signed_parts.2.2.2]
theorem chk_as {n : Nat} {S : Strm} {m : Msg} (h1 : fitsB n m = true) (h2 : m.right = true) {o k : Nat} {d : Nat → Int} {z : Int} (ho : orgI m = o) (hz : m.number = z) (hd : m.deps = d) (hk : (S o).length = k) :
  chk n S m = if z ≤ (k : Nat) then 13 else if z = ((k + 1 : Nat) : Int) ∧ 0 < k ∧ aboveB (lastD (S o)) d = true then 1 else if ((k + 1 : Nat) : Int) < z ∨ aboveB d (knownS S) = true then 12 else 0 := by
 unfold chk
 rw [if_neg (by rw [h1]; decide), if_neg (by rw [h2]; decide), ho, hz, hd, hk]
def bodC : Bod := { Bod.zero 3 with view := 1 }
def vec1 : Nat → Int
 | 0 => 1
 | _ + 1 => 0
def m1u : Msg := ⟨1, 1, fun _ => 0, bodC, noTag⟩
theorem m1u_fits : fitsB 3 m1u = true := by decide +kernel
theorem m1u_may : m1u.may = true := by decide +kernel
theorem bodC_ok : bodC.Ok := ⟨⟨by decide, by decide⟩, ⟨by decide, by decide⟩, reqz_ok⟩
theorem good_signed {m : Msg} {q : Option Addr} {c : Nat} {f : Frag} (h : (⟨m, q, c⟩ : MV).Good f) : (⟨m.signed, q, c⟩ : MV).Good f := by
 obtain ⟨h1, h2, h3⟩ := h
 refine ⟨?_, ?_, ?_⟩
 ·show QAt f q m.signed.body.q; rw [m.signed_parts.2.2.2]; exact h1
 ·show m.signed.body.q.length ≤ _; rw [m.signed_parts.2.2.2]; exact h2
 ·show m.signed.body.Ok; rw [m.signed_parts.2.2.2]; exact h3
theorem H.weakL {P : Program} {base : World} {n : Nat} {L : Env} {f g : Frag} {A : List HP} {K : Kont} (h : Le f g) (k : H P base n L f A K) : H P base n L g A K := .mk fun a w hf s => k.out a w hf (s.weak h)
theorem tab_mono {f g : Frag} (t : TabAt f) (h : Le f g) : TabAt g := IntsAt.mono h t
section
variable (f : Frag) (F : List HP)
end
end Go.Proofs.YtoigpgdmignaoaaGreatDoor
