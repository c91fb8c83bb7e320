/- Parts of the proof, one behind the other, each under its own heading. No conditions. -/
import Derived.Test.YtgdhaledfjnfgaaGreatDoorZ08
import Derived.Test.YtgdhaledfjnfgaaGreatDoorRows
import Derived.Test.YtgdhaledfjnfgaaGreatDoorCards
import Derived.Test.YtgdhaledfjnfgaaGreatDoorTie
set_option linter.unusedSectionVars false
set_option linter.unusedSimpArgs false
set_option linter.unusedVariables false
/- Layer 15: LogPrimaries. Condition: the table of the standard stands in the fragment. -/
namespace Go.Proofs.YtgdhaledfjnfgaaGreatDoor
open Go
def v12 (d : Nat → Int) : List Value := [.int .u64 (d 0), .int .u64 (d 1), .int .u64 (d 2), .int .u64 (d 3), .int .u64 (d 4), .int .u64 (d 5), .int .u64 (d 6), .int .u64 (d 7), .int .u64 (d 8), .int .u64 (d 9), .int .u64 (d 10), .int .u64 (d 11)]
theorem v12_get (d : Nat → Int) {i : Nat} (h : i < 12) : (v12 d)[i]? = some (.int .u64 (d i)) := by
 match i, h with
 | 0, _ => rfl
 | 1, _ => rfl
 | 2, _ => rfl
 | 3, _ => rfl
 | 4, _ => rfl
 | 5, _ => rfl
 | 6, _ => rfl
 | 7, _ => rfl
 | 8, _ => rfl
 | 9, _ => rfl
 | 10, _ => rfl
 | 11, _ => rfl
theorem v12_upd (d : Nat → Int) (v : Int) {k : Nat} (h : k < 12) : SetV (v12 d) k (.int .u64 v) (v12 (updF d k v)) := by
 have e : v12 (updF d k v) = (v12 d).set k (.int .u64 v) := by
  match k, h with
  | 0, _ => rfl
  | 1, _ => rfl
  | 2, _ => rfl
  | 3, _ => rfl
  | 4, _ => rfl
  | 5, _ => rfl
  | 6, _ => rfl
  | 7, _ => rfl
  | 8, _ => rfl
  | 9, _ => rfl
  | 10, _ => rfl
  | 11, _ => rfl
 rw [e]
 exact SetV.mk _ h
def gAt (n : Nat) (all : List Msg) (i j : Nat) : Int := if j = 0 ∨ n < j then 0 else ((lgsOf n (all.take i)).past (j - 1)).g
theorem gAt_zero (n : Nat) (all : List Msg) : gAt n all 0 = fun _ => 0 := by
 funext j
 unfold gAt
 split
 ·rfl
 ·rw [List.take_zero]; rfl
theorem gAt_o {n : Nat} (all : List Msg) (i : Nat) {m : Msg} (h : 1 ≤ m.origin ∧ m.origin ≤ (n : Int)) : gAt n all i (orgI m + 1) = ((lgsOf n (all.take i)).past (orgI m)).g := by
 unfold gAt
 rw [if_neg (by unfold orgI; omega)]
 rfl
theorem gAt_step {n : Nat} {all : List Msg} {i : Nat} {m : Msg} (ho : 1 ≤ m.origin ∧ m.origin ≤ (n : Int)) (h : ∀ j, j ≠ orgI m → (lgsOf n (all.take (i + 1))).past j = (lgsOf n (all.take i)).past j) :
  gAt n all (i + 1) = updF (gAt n all i) (orgI m + 1) ((lgsOf n (all.take (i + 1))).past (orgI m)).g := by
 funext j
 by_cases e : j = orgI m + 1
 ·rw [e, zad]; exact gAt_o all (i + 1) ho
 ·rw [zal _ _ e]
  unfold gAt
  split
  ·rfl
  ·rw [h (j - 1) (by omega)]
theorem gAt_same {n : Nat} {all : List Msg} {i : Nat} {m : Msg} (ho : 1 ≤ m.origin ∧ m.origin ≤ (n : Int)) (h : ∀ j, j ≠ orgI m → (lgsOf n (all.take (i + 1))).past j = (lgsOf n (all.take i)).past j)
  (hg : ((lgsOf n (all.take (i + 1))).past (orgI m)).g = ((lgsOf n (all.take i)).past (orgI m)).g) : gAt n all (i + 1) = gAt n all i := by
 rw [gAt_step ho h, hg, ← gAt_o all i ho, updF_self]
section
variable (f : Frag) (F : List HP)
set_option maxRecDepth 20000 in
set_option maxHeartbeats 3200000 in
theorem logPrim_fn (htab : TabAt f) {n8 : UInt8} {p : Option Addr} {c : Nat} {xs : List A15} (hat : ListAt f p 12 A15.vals xs) (hh : ∀ x ∈ xs, x.Has f) (hxl : xs.length ≤ 9223372036854775807) :
  Fn Tryz.prog 3 [.int .u8 (n8.toNat : Nat), .slice p xs.length c] f F (Ret (.bool true) f F) := by
 have hfew := few15_fn f F (c := c) hat hxl
 cases hf : few15 xs with
 | false =>
  rw [hf] at hfew
  refine Fn.e2 Tryz.func3 Tryz.ntmps3 fun base => ?_
  refine gK ?_
  refine H.Ad rfl rfl rfl hfew ?_
  refine H.not (b := _) (c := _) rfl rfl rfl rfl ?_
  refine gC ?_
  refine H.Ad rfl rfl rfl (works15_fn f _ htab) ?_
  refine gW ?_
  exact H.rt ⟨rfl, rfl, rfl⟩
 | true =>
  rw [hf] at hfew
  obtain ⟨hl100, hq20⟩ := few15_all hf
  obtain ⟨n, hn8⟩ : ∃ n, n = 3 + 2 * (n8.toNat % 5) := ⟨_, rfl⟩
  have hn3 : 3 ≤ n ∧ n ≤ 11 := by omega
  have hacts := fun G => acts15_fn f G hn8 (c := c) hat (fun x hx => ⟨hh x hx, hq20 x hx⟩) hl100
  have hinv : WOK n (world15 n xs).w.all := by have := (world15_inv hn3.1 hn3.2 xs xs.length (by omega)).w.ok; rwa [List.take_length] at this
  have hwl : (world15 n xs).w.all.length ≤ 100 := by have := world15_len n xs xs.length; rw [List.take_length] at this; omega
  generalize world15 n xs = W15' at *
  refine Fn.e2 Tryz.func3 Tryz.ntmps3 fun base => ?_
  refine gK ?_
  refine H.Ad rfl rfl rfl hfew ?_
  refine H.not (b := _) (c := _) rfl rfl rfl rfl ?_
  refine gN ?_
  refine H.Az rfl rfl rfl (hacts _) fun v f' A' hr => ?_
  obtain ⟨g, wb, rfl, hd, rfl, rfl⟩ := hr
  have le0 := Le.un f g
  generalize un f g = f0 at *
  refine H.world15 fun g1 kb ap ac lb l hd1 hwat => ?_
  have le1 := le0.trans (Le.un f0 g1)
  generalize un f0 g1 = f1 at *
  have hta := tab_mono htab le1
  clear hacts hfew
  obtain ⟨W, hW⟩ : ∃ W, W = W15'.w := ⟨_, rfl⟩
  rw [← hW] at hwat hinv hwl
  refine gK ?_
  refine H.Az rfl rfl rfl (logs15_fn f1 _ hta hn8 hwat hinv (by omega)) fun v f' A' hr => ?_
  obtain ⟨g2, pb, cp, cc, hd2, rfl, rfl, rfl⟩ := hr
  have le2 := Le.un f1 g2
  have le12 := le1.trans le2
  have hwa2 := hwat.mono le2
  have hgv := hwat.good_v
  have hlm := hwat.m
  have hll : l.length = W.all.length := by rw [← hlm, List.length_map]
  generalize un f1 g2 = f2 at *
  refine H.Ac (.here _ _) ?_
  refine ga ?_
  refine H.Al (ls := v12 fun _ => 0) rfl rfl rfl fun gb => ?_
  refine gW ?_
  rw [← gAt_zero n W.all]
  refine H.Ar (ι := Nat) (fun i => [(10, .int .i64 (i : Int)), (9, .pointer (some ⟨gb, 0, none⟩)), (7, .slice cp W.all.length cc), (5, .pointer (some ⟨wb, 0, none⟩))]) (fun _ => f2)
   (fun i => row gb 32 (v12 (gAt n W.all i)) :: slc cp W.all.length cc 4 1 ((cBits n W.all W.all.length).flatMap boolV) :: row wb 37 (w15C kb n ap l.length ac lb) :: F) (fun i => i ≤ W.all.length) (fun i => W.all.length - i)
   0 (Nat.zero_le _) ⟨rfl, rfl, rfl, rfl, trivial⟩ rfl rfl fun i hi => ?_
  have hi : i ≤ W.all.length := hi
  by_cases hlt : i < W.all.length
  ·obtain ⟨b, off, rfl, rdA⟩ := hwa2.a.all MV.len (by decide) (by omega)
   obtain ⟨y, hy⟩ : ∃ y, l[i]? = some y := ⟨_, List.getElem?_eq_getElem (by omega)⟩
   have hym : W.all[i]? = some y.m := by rw [← hlm, List.getElem?_map, hy]; rfl
   have ho := (hinv i y.m hym).org
   obtain ⟨hpr, hpast⟩ := lgsOf_prim hinv hgv hn3.1 hn3.2 hym
   have hst := gAt_step ho hpast
   have hgo := gAt_o W.all i ho
   have hv0 := hgv y.m (List.mem_of_getElem? hym)
   have hprim := fun G => prim_fn f2 G (n := n) (by omega) hv0
   obtain ⟨o, hoe⟩ : ∃ o, o = orgI y.m := ⟨_, rfl⟩
   rw [← hoe] at hst hgo
   have hoz : y.m.origin = ((o + 1 : Nat) : Int) := by rw [hoe]; unfold orgI; omega
   have ho11 : o < 11 := by omega
   refine H.Bk (p := cp) (n0 := W.all.length) (c := cc) (T := 4) (sz := 1) (xs := (cBits n W.all W.all.length).flatMap boolV) (.there _ (.here _ _ _)) (by omega) fun cb hcb => ?_
   subst hcb
   have rd : ∀ (a : HP) (G : List HP), Rd f2 (a :: slc (some ⟨cb, 0, none⟩) W.all.length cc 4 1 ((cBits n W.all W.all.length).flatMap boolV) :: G) cb (i * 1) (boolV (cBit n W.all i)) := fun a G =>
    Rd.slcElem (vals := boolV) (xs := cBits n W.all W.all.length) (n := W.all.length) (c := cc) (T := 4) (fun _ => rfl) (by decide) (.there _ (.here _ _ _)) (cBits_get hlt)
   rw [← hoe] at hpr
   cases hcb : cBit n W.all i with
   | false =>
    rw [hcb] at rd hpr
    have hgn := hpr.1 rfl
    rw [hoe] at hgn
    clear hpr
    refine ga ?_
    refine H.Ap (i := i) rfl rfl rfl rfl hlt rfl ?_
    refine H.Ae (v := .bool false) rfl rfl rfl (by rw [Nat.zero_add]; exact Rd1.of (i := 0) (rd _ _) rfl) rfl ?_
    refine H.not (b := false) (c := true) rfl rfl rfl rfl ?_
    refine gM ?_
    refine H.Aj (i + 1) (by show i + 1 ≤ W.all.length; omega) (by show W.all.length - (i + 1) < W.all.length - i; omega) ⟨rfl, rfl, rfl, rfl, trivial⟩ rfl ?_
    show row gb _ _ :: _ = row gb _ (v12 (gAt n W.all (i + 1))) :: _
    rw [gAt_same ho hpast hgn]
   | true =>
    rw [hcb] at rd hpr
    obtain ⟨q1, q2, q3, q4, q5, q6⟩ := hpr.2 rfl
    clear hpr
    have e13 : y.vals = ([.int .i64 y.m.origin, .int .u64 y.m.number] ++ v11 y.m.deps) ++ y.m.body.vals y.qp y.qc ++ b32 y.m.tag := rfl
    have rdB : ∀ G, Rd f2 G b (off + i * 121 + 13) (y.m.body.vals y.qp y.qc) := fun G => by
     have h1 := rdA f2 G i y (Le.refl f2) hy
     rw [e13] at h1
     exact h1.sub rfl
    clear e13
    refine ga ?_
    refine H.Ap (i := i) rfl rfl rfl rfl hlt rfl ?_
    refine H.Ae (v := .bool true) rfl rfl rfl (by rw [Nat.zero_add]; exact Rd1.of (i := 0) (rd _ _) rfl) rfl ?_
    refine H.not (b := true) (c := false) rfl rfl rfl rfl ?_
    refine ga ?_
    refine H.Ap (i := i) rfl rfl rfl rfl (by omega) rfl ?_
    refine gO ?_
    refine H.Af (ls := y.m.body.vals y.qp y.qc) rfl rfl rfl (rdB _) rfl rfl ?_
    refine H.Al (ls := (Bod.zero 0).vals none 0) rfl rfl rfl fun bb => ?_
    refine H.Ah (ls := (Bod.zero 0).vals none 0) (vs := y.m.body.vals y.qp y.qc) (ls' := y.m.body.vals y.qp y.qc) rfl rfl rfl (zaa rfl) rfl rfl (Nat.le_refl 76) (.here _ _ _) ?_
    refine gF ?_
    refine H.Ap (i := i) rfl rfl rfl rfl (by omega) rfl ?_
    refine gO ?_
    refine H.Ae (v := .int .i64 y.m.origin) rfl rfl rfl (Rd1.of (i := 0) (rdA _ _ _ _ (Le.refl f2) hy) rfl) rfl ?_
    refine gK ?_
    refine H.pf (x := row wb _ _) ?_
    refine H.pf (x := row bb _ _) ?_
    refine H.db (S := [_, _]) rfl ?_
    refine HB.qu [0,1,2,3,4,5,6,8] 3 ?_
    refine gT ?_
    refine HQ.Aa rfl ?_
    refine HB.ev 7 ?_
    refine H.Ad rfl rfl rfl (hprim _) ?_
    refine gA ?_
    refine H.on0 rfl ?_
    refine HB.qu [9,10] 0 ?_
    refine gX ?_
    refine HQ.Aa rfl ?_
    refine HB.dn ?_
    refine H.pf (x := slc (some ⟨cb, 0, none⟩) _ cc _ _ _) ?_
    refine H.pf (x := row gb _ _) ?_
    refine H.pf (x := row bb _ _) ?_
    by_cases k1 : y.m.body.kind = 1
    ·have hkn : y.m.body.kind.toNat = 1 := by rw [k1]; rfl
     obtain ⟨hp, hvw, hgn⟩ := q1 k1
     rw [hoe] at hgn
     clear q1 q2 q3 q4 q5 q6
     refine H.know (d := 13) (u := .bool true) rfl (by rw [decide_eq_true hp]) ?_
     refine ga ?_
     refine H.dq ?_
     refine gX ?_
     refine HQ.Au (i := o + 1) rfl rfl rfl hoz (by omega) rfl ?_
     refine HQ.Ae rfl rfl rfl (by rw [Nat.mul_one]; exact Rd1.of (Rd.ofRow (.there _ (.here _ _ _))) (v12_get _ (by omega))) rfl ?_
     refine gc ?_
     refine gN ?_
     refine H.pd (x := row bb _ _) ?_
     refine H.Aj (i + 1) (by show i + 1 ≤ W.all.length; omega) (by show W.all.length - (i + 1) < W.all.length - i; omega) ⟨rfl, rfl, rfl, rfl, trivial⟩ rfl ?_
     show row gb _ _ :: _ = row gb _ (v12 (gAt n W.all (i + 1))) :: _
     rw [gAt_same ho hpast hgn]
    ·by_cases k2 : y.m.body.kind = 2
     ·have hkn : y.m.body.kind.toNat = 2 := by rw [k2]; rfl
      obtain ⟨hp, hvw, hgn⟩ := q2 k2
      rw [hoe] at hgn
      clear q1 q2 q3 q4 q5 q6
      refine H.know (d := 13) (u := .bool false) rfl (by rw [decide_eq_false hp]) ?_
      refine gL ?_
      refine H.dq ?_
      refine gT ?_
      refine HQ.Au (i := o + 1) rfl rfl rfl hoz (by omega) rfl ?_
      refine HQ.Ae rfl rfl rfl (by rw [Nat.mul_one]; exact Rd1.of (Rd.ofRow (.there _ (.here _ _ _))) (v12_get _ (by omega))) rfl ?_
      refine gc ?_
      refine gN ?_
      refine H.pd (x := row bb _ _) ?_
      refine H.Aj (i + 1) (by show i + 1 ≤ W.all.length; omega) (by show W.all.length - (i + 1) < W.all.length - i; omega) ⟨rfl, rfl, rfl, rfl, trivial⟩ rfl ?_
      show row gb _ _ :: _ = row gb _ (v12 (gAt n W.all (i + 1))) :: _
      rw [gAt_same ho hpast hgn]
     ·by_cases k4 : y.m.body.kind = 4
      ·have hkn : y.m.body.kind.toNat = 4 := by rw [k4]; rfl
       obtain ⟨hp, hvw, hgn⟩ := q4 k4
       clear q1 q2 q3 q4 q5 q6
       refine H.know (d := 13) (u := .bool true) rfl (by rw [decide_eq_true hp]) ?_
       refine gL ?_
       refine H.dq ?_
       refine gX ?_
       refine HQ.bne (b := false) rfl rfl rfl rfl (by rw [decide_eq_true (show ((y.m.body.kind.toNat : Nat) : Int) = 4 by omega)]; rfl) rfl ?_
       refine gT ?_
       refine HQ.Au (i := o + 1) rfl rfl rfl hoz (by omega) rfl ?_
       refine HQ.Ae rfl rfl rfl (by rw [Nat.mul_one]; exact Rd1.of (Rd.ofRow (.there _ (.here _ _ _))) (v12_get _ (by omega))) rfl ?_
       refine gc ?_
       refine gR ?_
       refine H.Au (i := o + 1) rfl rfl rfl hoz (by omega) rfl ?_
       refine H.Bc (ls := v12 (gAt n W.all i)) (ls' := v12 (updF (gAt n W.all i) (o + 1) y.m.body.view)) rfl rfl rfl rfl (.there _ (.here _ _ _)) (by rw [Nat.mul_one, Nat.zero_add]; exact v12_upd _ _ (by omega)) ?_
       refine gG ?_
       refine H.pd (x := row bb _ _) ?_
       refine H.Aj (i + 1) (by show i + 1 ≤ W.all.length; omega) (by show W.all.length - (i + 1) < W.all.length - i; omega) ⟨rfl, rfl, rfl, rfl, trivial⟩ rfl ?_
       show row gb _ _ :: _ = row gb _ (v12 (gAt n W.all (i + 1))) :: _
       rw [hst, hgn]
      ·by_cases k5 : y.m.body.kind = 5
       ·have hkn : y.m.body.kind.toNat = 5 := by rw [k5]; rfl
        obtain ⟨hp, hvw, hgn⟩ := q5 k5
        clear q1 q2 q3 q4 q5 q6
        refine H.know (d := 13) (u := .bool false) rfl (by rw [decide_eq_false hp]) ?_
        refine gL ?_
        refine H.dq ?_
        refine gX ?_
        refine HQ.bne (b := false) rfl rfl rfl rfl (by rw [decide_eq_false (show ¬ ((y.m.body.kind.toNat : Nat) : Int) = 4 by omega)]; rfl) rfl ?_
        refine gT ?_
        refine HQ.Au (i := o + 1) rfl rfl rfl hoz (by omega) rfl ?_
        refine HQ.Ae rfl rfl rfl (by rw [Nat.mul_one]; exact Rd1.of (Rd.ofRow (.there _ (.here _ _ _))) (v12_get _ (by omega))) rfl ?_
        refine gc ?_
        refine gR ?_
        refine H.Au (i := o + 1) rfl rfl rfl hoz (by omega) rfl ?_
        refine H.Bc (ls := v12 (gAt n W.all i)) (ls' := v12 (updF (gAt n W.all i) (o + 1) y.m.body.view)) rfl rfl rfl rfl (.there _ (.here _ _ _)) (by rw [Nat.mul_one, Nat.zero_add]; exact v12_upd _ _ (by omega)) ?_
        refine gG ?_
        refine H.pd (x := row bb _ _) ?_
        refine H.Aj (i + 1) (by show i + 1 ≤ W.all.length; omega) (by show W.all.length - (i + 1) < W.all.length - i; omega) ⟨rfl, rfl, rfl, rfl, trivial⟩ rfl ?_
        show row gb _ _ :: _ = row gb _ (v12 (gAt n W.all (i + 1))) :: _
        rw [hst, hgn]
       ·by_cases k3 : y.m.body.kind = 3
        ·have hkn : y.m.body.kind.toNat = 3 := by rw [k3]; rfl
         obtain ⟨hvw, hgn⟩ := q3 k3
         clear q1 q2 q3 q4 q5 q6
         refine gL ?_
         refine H.dq ?_
         refine gT ?_
         refine HQ.Au (i := o + 1) rfl rfl rfl hoz (by omega) rfl ?_
         refine HQ.Ae rfl rfl rfl (by rw [Nat.mul_one]; exact Rd1.of (Rd.ofRow (.there _ (.here _ _ _))) (v12_get _ (by omega))) rfl ?_
         refine gc ?_
         refine gR ?_
         refine H.Au (i := o + 1) rfl rfl rfl hoz (by omega) rfl ?_
         refine H.Bc (ls := v12 (gAt n W.all i)) (ls' := v12 (updF (gAt n W.all i) (o + 1) y.m.body.view)) rfl rfl rfl rfl (.there _ (.here _ _ _)) (by rw [Nat.mul_one, Nat.zero_add]; exact v12_upd _ _ (by omega)) ?_
         refine gG ?_
         refine H.pd (x := row bb _ _) ?_
         refine H.Aj (i + 1) (by show i + 1 ≤ W.all.length; omega) (by show W.all.length - (i + 1) < W.all.length - i; omega) ⟨rfl, rfl, rfl, rfl, trivial⟩ rfl ?_
         show row gb _ _ :: _ = row gb _ (v12 (gAt n W.all (i + 1))) :: _
         rw [hst, hgn]
        ·have n1 := u8_ne (n := 1) (by decide) k1
         have n2 := u8_ne (n := 2) (by decide) k2
         have n3 := u8_ne (n := 3) (by decide) k3
         have n4 := u8_ne (n := 4) (by decide) k4
         have n5 := u8_ne (n := 5) (by decide) k5
         have hgn : ((lgsOf n (W.all.take (i + 1))).past o).g = ((lgsOf n (W.all.take i)).past o).g := by
          rcases q6 with h | h
          ·rcases h with h | h | h | h | h
           ·exact absurd h k1
           ·exact absurd h k2
           ·exact absurd h k3
           ·exact absurd h k4
           ·exact absurd h k5
          ·exact h
         rw [hoe] at hgn
         clear q1 q2 q3 q4 q5 q6 k1 k2 k3 k4 k5
         refine gZ ?_
         refine H.pd (x := row bb _ _) ?_
         refine H.Aj (i + 1) (by show i + 1 ≤ W.all.length; omega) (by show W.all.length - (i + 1) < W.all.length - i; omega) ⟨rfl, rfl, rfl, rfl, trivial⟩ rfl ?_
         show row gb _ _ :: _ = row gb _ (v12 (gAt n W.all (i + 1))) :: _
         rw [gAt_same ho hpast hgn]
  ·have e : i = W.all.length := by omega
   refine gR ?_
   refine H.Ad rfl rfl rfl (works15_fn f2 _ (tab_mono hta le2)) ?_
   refine gW ?_
   refine H.pd (x := row gb _ _) ?_
   refine H.pd (x := slc cp _ cc _ _ _) ?_
   refine H.pd (x := row wb _ _) ?_
   refine H.weakL le12 ?_
   exact H.rt ⟨rfl, rfl, rfl⟩
end
end Go.Proofs.YtgdhaledfjnfgaaGreatDoor

namespace Go.Proofs.YtgdhaledfjnfgaaGreatDoor
open Go Go.ChangeShapes Go.WideShapes Go.RowKit Go.Deep
theorem Tryz.own : ownKnob Tryz.prog.godebug = none := by kernel_rfl
theorem Tryz.laidOut : laidOutB Tryz.prog = true := by kernel_rfl
abbrev laidL : List (String × DataW Unit) := [("ratchet/sha.table", Rows.laid_ratchet_sha_table)]
theorem door_met (os : Os) (args : Array Value) : laidMetH Tryz.prog laidL ((World.doorLaid Tryz.prog 400 os).forCall (fun _ _ => 0) ⟨#[], args, []⟩).memory :=
 laidMetH_of_parts3 (fuel := 8) (laidMet_of_run' 8 (by kernel_rfl) (by kernel_rfl)) (by kernel_rfl) (by kernel_rfl)
theorem tab_eq : (Rows.laid_ratchet_sha_table : DataW Unit) = .agg ((Sha.k.map fun x => ((x.toNat : Nat) : Int)).map fun z => .lit (.int .u32 z)) := by kernel_rfl
theorem tab_of {W : World} (h : laidMetH Tryz.prog laidL W) : TabAt (memOf W) := by
 have h2 : laidMetH Tryz.prog [("ratchet/sha.table", .agg ((Sha.k.map fun x => ((x.toNat : Nat) : Int)).map fun z => .lit (.int .u32 z)))] W := by rw [← tab_eq]; exact h
 exact laid_ints h2 (by kernel_rfl) (by kernel_rfl) (t := 250) (e := 223) Tryz.underlying250 Tryz.underlying223 (by kernel_rfl)
end Go.Proofs.YtgdhaledfjnfgaaGreatDoor
