/- Parts of the proof, one behind the other, each under its own heading. No conditions. -/
import Derived.Test.YtoigpgdmignaoaaGreatDoorZ08
import Derived.Test.YtoigpgdmignaoaaGreatDoorRows
import Derived.Test.YtoigpgdmignaoaaGreatDoorCards
import Derived.Test.YtoigpgdmignaoaaGreatDoorTie
set_option linter.unusedSectionVars false
set_option linter.unusedSimpArgs false
set_option linter.unusedVariables false
/- Layer 18: GossipSpreads. Condition: the table of the standard stands in the fragment. -/
namespace Go.Proofs.YtoigpgdmignaoaaGreatDoor
open Go
def lfam (E : Nat → Frag) (P : Nat → Nat) (n : Nat) (L : Nat → List MV) : Nat → HP := fun r => loreH (E r) (P r) n (L r)
def pfam (Q : Nat → Nat) (n : Nat) (V : Nat → Nat → Nat → Int) : Nat → HP := fun r => row (Q r) 148 (peC n (V r))
theorem lfam_put (E : Nat → Frag) (P : Nat → Nat) (n : Nat) (L : Nat → List MV) (j : Nat) (e : Frag) (l : List MV) : updF (lfam E P n L) j (loreH e (P j) n l) = lfam (updF E j e) P n (updF L j l) := by
 funext r
 unfold lfam updF
 by_cases h : r = j
 ·subst h; rw [if_pos rfl, if_pos rfl, if_pos rfl]
 ·rw [if_neg h, if_neg h, if_neg h]
theorem pfam_put (Q : Nat → Nat) (n : Nat) (V : Nat → Nat → Nat → Int) (i : Nat) (v : Nat → Nat → Int) : updF (pfam Q n V) i (row (Q i) 148 (peC n v)) = pfam Q n (updF V i v) := by
 funext r
 unfold pfam updF
 by_cases h : r = i
 ·subst h; rw [if_pos rfl, if_pos rfl]
 ·rw [if_neg h, if_neg h]
theorem lfam_more (E : Nat → Frag) (P : Nat → Nat) (n : Nat) (L : Nat → List MV) (i : Nat) (e : Frag) (b : Nat) (l : List MV) (A : List HP) :
  stars (loreH e b n l :: fam (lfam E P n L) i :: A) = stars (fam (lfam (updF E i e) (updF P i b) n (updF L i l)) (i + 1) :: A) := by
 have e1 : fam (lfam E P n L) i = fam (lfam (updF E i e) (updF P i b) n (updF L i l)) i := fam_congr fun j hj => by
  unfold lfam
  rw [zak _ _ (by omega), zak _ _ (by omega), zak _ _ (by omega)]
 have e2 : loreH e b n l = lfam (updF E i e) (updF P i b) n (updF L i l) i := by unfold lfam; rw [zag, zag, zag]
 rw [e1, e2]
 exact fam_more _ i A
theorem pfam_more (Q : Nat → Nat) (n : Nat) (V : Nat → Nat → Nat → Int) (i b : Nat) (v : Nat → Nat → Int) (A : List HP) :
  stars (row b 148 (peC n v) :: fam (pfam Q n V) i :: A) = stars (fam (pfam (updF Q i b) n (updF V i v)) (i + 1) :: A) := by
 have e1 : fam (pfam Q n V) i = fam (pfam (updF Q i b) n (updF V i v)) i := fam_congr fun j hj => by
  unfold pfam
  rw [zak _ _ (by omega), zak _ _ (by omega)]
 have e2 : row b 148 (peC n v) = pfam (updF Q i b) n (updF V i v) i := by unfold pfam; rw [zag, zag]
 rw [e1, e2]
 exact fam_more _ i A
section
variable {P : Program} {base : World} {m : Nat} {Lv : Env} {f : Frag} {A : List HP} {K : Kont} {E : Nat → Frag} {Pp Q : Nat → Nat} {n k j : Nat} {L : Nat → List MV} {V : Nat → Nat → Nat → Int}
theorem H.lpull (h : j < k) (kk : H P base m Lv f (loreH (E j) (Pp j) n (L j) :: fam (updF (lfam E Pp n L) j emp) k :: A) K) : H P base m Lv f (fam (lfam E Pp n L) k :: A) K := H.Cf h kk
theorem H.lback (h : j < k) (kk : H P base m Lv f (fam (lfam E Pp n L) k :: A) K) : H P base m Lv f (loreH (E j) (Pp j) n (L j) :: fam (updF (lfam E Pp n L) j emp) k :: A) K := H.Ck (g := lfam E Pp n L) h kk
theorem H.lput {e : Frag} {l : List MV} (h : j < k) (kk : H P base m Lv f (fam (lfam (updF E j e) Pp n (updF L j l)) k :: A) K) : H P base m Lv f (loreH e (Pp j) n l :: fam (updF (lfam E Pp n L) j emp) k :: A) K := H.famPut h (by rw [lfam_put]; exact kk)
theorem H.ppull (h : j < k) (kk : H P base m Lv f (row (Q j) 148 (peC n (V j)) :: fam (updF (pfam Q n V) j emp) k :: A) K) : H P base m Lv f (fam (pfam Q n V) k :: A) K := H.Cf h kk
theorem H.pback (h : j < k) (kk : H P base m Lv f (fam (pfam Q n V) k :: A) K) : H P base m Lv f (row (Q j) 148 (peC n (V j)) :: fam (updF (pfam Q n V) j emp) k :: A) K := H.Ck (g := pfam Q n V) h kk
theorem H.pput {v : Nat → Nat → Int} (h : j < k) (kk : H P base m Lv f (fam (pfam Q n (updF V j v)) k :: A) K) : H P base m Lv f (row (Q j) 148 (peC n v) :: fam (updF (pfam Q n V) j emp) k :: A) K := H.famPut h (by rw [pfam_put]; exact kk)
end
def Sp (f : Frag) (n : Nat) (all : List Msg) (e : Frag) (E : Nat → Frag) (L : Nat → List MV) (U : Nat → Nat → Int) (k : Nat) : Prop := Le f e ∧ ∀ r, r < k → Le (E r) e ∧ KL n all (U r) ((L r).map MV.m)
theorem Sp.more {f : Frag} {n : Nat} {all : List Msg} {e e2 : Frag} {E : Nat → Frag} {L : Nat → List MV} {U : Nat → Nat → Int} {k : Nat} (h : Sp f n all e E L U k) (hle : Le e e2) {l : List MV} (hl : KL n all (U k) (l.map MV.m)) : Sp f n all e2 (updF E k e2) (updF L k l) U (k + 1) :=
 ⟨h.1.trans hle, fun r hr => by
  by_cases e : r = k
  ·subst e; rw [zag, zag]; exact ⟨Le.refl _, hl⟩
  ·rw [zak _ _ e, zak _ _ e]; exact ⟨(h.2 r (by omega)).1.trans hle, (h.2 r (by omega)).2⟩⟩
section
variable (f : Frag) (F : List HP)
set_option maxRecDepth 20000 in
set_option maxHeartbeats 6400000 in
theorem spreads_fn (htab : TabAt f) {n8 : UInt8} {p : Option Addr} {c : Nat} {xs : List A15} (hat : ListAt f p 12 A15.vals xs) (hh : ∀ x ∈ xs, x.Has f) (hxl : xs.length ≤ 9223372036854775807) (part : UInt8) :
  Fn Tryz.prog 14 [.int .u8 (n8.toNat : Nat), .slice p xs.length c, .int .u8 (part.toNat : Nat)] f F (Ret (.bool true) f F) := by
 have hfew := few15_fn f F (c := c) hat hxl
 cases hf : few15 xs with
 | false =>
  rw [hf] at hfew
  refine Fn.enter Tryz.func14 rfl Tryz.ntmps14 rfl (L := [(0, _), (1, _), (2, _)]) ⟨rfl, rfl, rfl, trivial⟩ fun base => ?_
  refine gN ?_
  refine H.Af rfl rfl rfl hfew ?_
  refine H.not (b := _) (c := _) rfl rfl rfl rfl ?_
  refine gR ?_
  refine H.Af rfl rfl rfl (works18_fn f _) ?_
  refine ga ?_
  exact H.Ac rfl rfl (fun _ h => h) ⟨rfl, rfl, rfl⟩
 | true =>
  rw [hf] at hfew
  obtain ⟨hl100, hq20⟩ := few15_all hf
  by_cases h60 : xs.length ≤ 60
  ·obtain ⟨n, hn8⟩ : ∃ n, n = 3 + 2 * (n8.toNat % 5) := ⟨_, rfl⟩
   have hn3 : 3 ≤ n ∧ n ≤ 11 := by omega
   have hacts := fun G => acts15_fn f G hn8 (c := c) hat (fun x hx => ⟨hh x hx, hq20 x hx⟩) hl100
   have hinv : WInv n (world15 n xs).w := by have := (world15_inv hn3.1 hn3.2 xs xs.length (by omega)).w; rwa [List.take_length] at this
   have hwl : (world15 n xs).w.all.length ≤ 60 := by have := world15_len n xs xs.length; rw [List.take_length] at this; omega
   generalize world15 n xs = W15 at *
   have hpart := part.toNat_lt
   refine Fn.enter Tryz.func14 rfl Tryz.ntmps14 rfl (L := [(0, _), (1, _), (2, _)]) ⟨rfl, rfl, rfl, trivial⟩ fun base => ?_
   refine gN ?_
   refine H.Af rfl rfl rfl hfew ?_
   refine H.not (b := _) (c := _) rfl rfl rfl rfl ?_
   refine gQ ?_
   refine H.Bp rfl rfl rfl (hacts _) fun v f' A' hr => ?_
   obtain ⟨g, wb, rfl, hd, rfl, rfl⟩ := hr
   have le0 := Le.un f g
   generalize un f g = f0 at *
   refine H.world15 fun g1 kb ap ac lb l hd1 hwat => ?_
   have le1 := le0.trans (Le.un f0 g1)
   generalize un f0 g1 = f1 at *
   have hkv := hinv.knw
   have hown := hinv.own
   have hWok := hinv.ok
   have hlm := hwat.m
   have hka := hwat.k
   have hla := hwat.a
   have hlg := hwat.g
   clear hacts hfew hwat hinv
   generalize W15.w.kv = kv at *
   generalize W15.w.all = all at *
   have hll : l.length = all.length := by rw [← hlm, List.length_map]
   refine gX ?_
   refine H.rem (z := ((part.toNat % 12 : Nat) : Int)) rfl rfl rfl (by decide) (zal (b := 12) rfl) rfl ?_
   have hp12 : part.toNat % 12 < 12 := Nat.mod_lt _ (by decide)
   generalize part.toNat % 12 = pt at *
   refine gW ?_
   refine H.slc0 27 1 ?_
   refine H.slc0 91 1 ?_
   refine H.conv (fam_zero (lfam (fun _ => f) (fun r => 0 * r) n fun _ => []) _).symm ?_
   refine H.conv (fam_zero (pfam (fun r => 0 * r) n fun _ _ _ => 0) _).symm ?_
   refine H.Aw (ι := Nat × Frag × (Option Addr × Nat × (Nat → Nat)) × (Option Addr × Nat × (Nat → Nat)) × (Nat → Frag) × (Nat → List MV)) (fun s => [(12, .int .i64 (s.1 : Int)), (7, .pointer (some ⟨wb, 0, none⟩)), (8, .int .i64 (n : Int)), (9, .int .i64 (1 + (pt : Int))), (10, .slice s.2.2.1.1 s.1 s.2.2.1.2.1), (11, .slice s.2.2.2.1.1 s.1 s.2.2.2.1.2.1)]) (fun s => s.2.1)
    (fun s => fam (pfam s.2.2.2.1.2.2 n fun _ _ _ => 0) s.1 :: fam (lfam s.2.2.2.2.1 s.2.2.1.2.2 n s.2.2.2.2.2) s.1 :: slc s.2.2.2.1.1 s.1 s.2.2.2.1.2.1 91 1 (((List.range s.1).map s.2.2.2.1.2.2).flatMap addrV) :: slc s.2.2.1.1 s.1 s.2.2.1.2.1 27 1 (((List.range s.1).map s.2.2.1.2.2).flatMap addrV) :: row wb 96 (w15C kb n ap l.length ac lb) :: F)
    (fun s => s.1 ≤ n ∧ Sp f1 n all s.2.1 s.2.2.2.2.1 s.2.2.2.2.2 kv s.1) (fun s => n - s.1)
    (0, f1, (none, 0, fun r => 0 * r), (none, 0, fun r => 0 * r), (fun _ => f), fun _ => []) ⟨Nat.zero_le _, Le.refl f1, fun r hr => by omega⟩ ⟨rfl, rfl, rfl, rfl, rfl, rfl, trivial⟩ rfl rfl fun s hs => ?_
   obtain ⟨i, e, ⟨lp, lc, P⟩, ⟨qp, qc, Q⟩, E, L⟩ := s
   obtain ⟨hi, hSp⟩ : i ≤ n ∧ Sp f1 n all e E L kv i := hs
   show H _ _ _ [(12, .int .i64 (i : Int)), (7, _), (8, _), (9, _), (10, .slice lp i lc), (11, .slice qp i qc)] e (fam (pfam Q n fun _ _ _ => 0) i :: fam (lfam E P n L) i :: slc qp i qc _ 1 (((List.range i).map Q).flatMap addrV) :: slc lp i lc _ 1 (((List.range i).map P).flatMap addrV) :: row wb _ _ :: F) _
   by_cases hlt : i < n
   ·have hk := hkv i hlt
    have hrk := hka.rd [] hlt
    generalize hkk : kv i = k at *
    refine gJ ?_
    refine H.callE rfl rfl rfl (lnew_fn e _ (fewz_odd hn8)) fun la => ?_
    refine ge ?_
    refine H.callE rfl rfl rfl (gnew_fn e _ (fewz_odd hn8)) fun pb => ?_
    refine gR ?_
    refine H.Aa (x := loreH _ la _ _) (by repeat constructor) ?_
    refine H.Aa (x := row wb _ _) (by repeat constructor) ?_
    refine H.Aw (ι := Nat × Frag × List MV) (fun s => [(17, .int .i64 (s.1 : Int)), (13, .pointer (some ⟨la, 0, none⟩)), (15, .pointer (some ⟨pb, 0, none⟩)), (12, .int .i64 (i : Int)), (7, .pointer (some ⟨wb, 0, none⟩)), (8, .int .i64 (n : Int)), (9, .int .i64 (1 + (pt : Int))), (10, .slice lp i lc), (11, .slice qp i qc)]) (fun s => s.2.1)
     (fun s => row wb 96 (w15C kb n ap l.length ac lb) :: loreH s.2.1 la n s.2.2 :: row pb 148 (peC n fun _ _ => 0) :: fam (pfam Q n fun _ _ _ => 0) i :: fam (lfam E P n L) i :: slc qp i qc 91 1 (((List.range i).map Q).flatMap addrV) :: slc lp i lc 27 1 (((List.range i).map P).flatMap addrV) :: F)
     (fun s => s.1 ≤ l.length ∧ Le e s.2.1 ∧ strm (s.2.2.map MV.m) = uptoS all (minU k (all.take s.1)) ∧ s.2.2.length = kn12 k (all.take s.1) ∧ LOK n (s.2.2.map MV.m)) (fun s => l.length - s.1)
     (0, e, []) ⟨Nat.zero_le _, Le.refl e, uptoS_zero (fun i => (hk.le i).1), rfl, LOK.nil n⟩ ⟨rfl, rfl, rfl, rfl, rfl, rfl, rfl, rfl, rfl, trivial⟩ rfl rfl fun s hs => ?_
    obtain ⟨t, e1, LX⟩ := s
    obtain ⟨ht, hle, hB, hBl, hLok⟩ : t ≤ l.length ∧ Le e e1 ∧ strm (LX.map MV.m) = uptoS all (minU k (all.take t)) ∧ LX.length = kn12 k (all.take t) ∧ LOK n (LX.map MV.m) := hs
    show H _ _ _ [(17, .int .i64 (t : Int)), _, _, _, _, _, _, _, _] e1 (row wb _ _ :: loreH e1 la n LX :: _ :: _ :: _ :: _ :: _ :: F) _
    have hBl2 : LX.length ≤ t := by
     have := kn12_le k (all.take t)
     rw [List.length_take] at this
     omega
    have hfe : Le f1 e1 := hSp.1.trans hle
    by_cases htl : t < l.length
    ·obtain ⟨b, off, rfl, rdA⟩ := hla.all MV.len (by decide) (by omega)
     obtain ⟨y, hy⟩ : ∃ y, l[t]? = some y := ⟨_, List.getElem?_eq_getElem htl⟩
     have hym : all[t]? = some y.m := by rw [← hlm, List.getElem?_map, hy]; rfl
     have hyg := hlg y (List.mem_of_getElem? hy)
     have hnx : all.take (t + 1) = all.take t ++ [y.m] := zbe hym
     have hst := tells_step hWok hk hym hB
     have hkn := kn12_snoc k (all.take t) y.m
     rw [← hnx] at hkn
     have hmok := hWok t y.m hym
     obtain ⟨ob, hob1, hob2⟩ : ∃ ob : Nat, orgI y.m = ob ∧ y.m.origin - 1 = (ob : Nat) := ⟨orgI y.m, rfl, by have := hmok.org; unfold orgI; omega⟩
     have hob : ob < 11 := by have := hmok.org; omega
     have horg := hmok.org
     rw [hob1] at hst hkn
     have hrk2 : ∀ A, Rd e1 A kb (i * 11) (v11 k) := fun A => by have := (hka.mono hfe).rd A hlt; rwa [hkk] at this
     refine gY ?_
     refine H.Ar (i := t) rfl rfl rfl rfl htl rfl ?_
     refine H.Ah (ls := y.vals) rfl rfl rfl (rdA _ _ _ _ hfe hy) rfl rfl ?_
     refine H.Au (ls := msgZ.vals none 0) rfl rfl rfl fun mb => ?_
     refine H.Ak (ls := msgZ.vals none 0) (vs := y.vals) (ls' := y.vals) rfl rfl rfl (zad rfl) rfl rfl (Nat.le_refl 121) (.here _ _ _) ?_
     refine gC ?_
     refine H.Aa (x := row wb _ _) (by repeat constructor) ?_
     refine H.Aa (x := row mb _ _) (by repeat constructor) ?_
     refine H.Az (by kernel_rfl) (by decide +kernel) (by repeat (first | exact zab | refine zaa ?_ | refine zac ?_ | refine zae ?_)) (S := [_, _]) rfl ?_
     refine HB.Ag [(0, false), (1, false), (2, false), (3, false), (4, false), (5, false), (6, false), (7, false), (8, false), (9, false), (10, false), (11, false), (12, false), (13, false), (14, false), (15, false), (16, false)] 3 (by kernel_rfl) ?_
     refine gT ?_
     refine HQ.Ar (i := i) rfl rfl rfl rfl hlt rfl ?_
     refine HQ.Ay (i := ob) rfl rfl rfl hob2 hob rfl ?_
     refine HQ.Ae rfl rfl rfl (Rd1.of (by rw [Nat.zero_add]; exact hrk2 _) (by rw [Nat.mul_one]; exact zao k hob)) rfl ?_
     refine gS ?_
     by_cases hmk : y.m.number ≤ k ob
     ·obtain ⟨hcb, hB2⟩ := hst.1 hmk
      rw [if_pos hmk] at hkn
      refine gc ?_
      refine HQ.Ah (ls := y.vals) rfl rfl rfl (Rd.ofRow (.here _ _ _)) rfl rfl ?_
      refine HQ.Ad rfl ?_
      refine HB.ev1 (i := 17) (by kernel_rfl) rfl ?_
      refine H.Aa (x := loreH _ la _ _) (by repeat constructor) ?_
      refine H.Bp (R := AddP e1 _ la n LX y.m) rfl rfl rfl (ladd_fn e1 _ (tab_mono htab (le1.trans hfe)) (Le.refl e1) (hyg.mono hfe) (by omega)) fun v f' A' hr => ?_
      obtain ⟨g3, q3, c3, rfl, hd3, rfl, rfl⟩ := hr
      rw [hcb, if_pos rfl]
      have hle3 := hle.trans (Le.un e1 g3)
      have hup3 := Le.un e1 g3
      generalize un e1 g3 = e3 at hle3 hup3 ⊢
      have hB3 : strm ((LX ++ [(⟨y.m, q3, c3⟩ : MV)]).map MV.m) = uptoS all (minU k (all.take (t + 1))) := by
       rw [List.map_append, show [(⟨y.m, q3, c3⟩ : MV)].map MV.m = [y.m] from rfl, strm_snoc]; exact hB2
      have hB3l : (LX ++ [(⟨y.m, q3, c3⟩ : MV)]).length = kn12 k (all.take (t + 1)) := by rw [List.length_append, hkn, hBl]; rfl
      have hB3k : LOK n ((LX ++ [(⟨y.m, q3, c3⟩ : MV)]).map MV.m) := by rw [List.map_append]; exact hLok.snoc hcb
      generalize LX ++ [(⟨y.m, q3, c3⟩ : MV)] = LB3 at hB3 hB3l hB3k ⊢
      refine gC ?_
      refine H.Aa (x := row wb _ _) (by repeat constructor) ?_
      refine H.Aa (x := row mb _ _) (by repeat constructor) ?_
      refine H.on [] hup3 rfl ?_
      refine HB.Ag [(18, false), (19, false)] 0 (by kernel_rfl) ?_
      refine gS ?_
      refine HQ.Ad rfl ?_
      refine HB.Al (by kernel_rfl) ?_
      refine gW ?_
      refine H.Ab (x := row mb _ _) (by repeat constructor) ?_
      exact H.Am (t + 1, e3, LB3) ⟨by show t + 1 ≤ l.length; omega, hle3, hB3, hB3l, hB3k⟩ (by show l.length - (t + 1) < l.length - t; omega) ⟨rfl, rfl, rfl, rfl, rfl, rfl, rfl, rfl, rfl, trivial⟩ rfl rfl
     ·have hB2 := hst.2 hmk
      rw [if_neg hmk] at hkn
      refine gc ?_
      refine HQ.Ad rfl ?_
      refine HB.ev1 (i := 17) (by kernel_rfl) rfl ?_
      refine gF ?_
      refine H.on0 rfl ?_
      refine HB.Ag [(18, false), (19, false)] 0 (by kernel_rfl) ?_
      refine gM ?_
      refine HQ.Ad rfl ?_
      refine HB.Al (by kernel_rfl) ?_
      refine gW ?_
      refine H.Ab (x := row mb _ _) (by repeat constructor) ?_
      exact H.Am (t + 1, e1, LX) ⟨by show t + 1 ≤ l.length; omega, hle, by show strm (LX.map MV.m) = _; rw [hB]; rw [hB] at hB2; exact hB2, by show LX.length = _; rw [hBl, hkn]; rfl, hLok⟩ (by show l.length - (t + 1) < l.length - t; omega) ⟨rfl, rfl, rfl, rfl, rfl, rfl, rfl, rfl, rfl, trivial⟩ rfl rfl
    ·have htl2 : t = all.length := by omega
     rw [htl2, List.take_length] at hB hBl
     rw [minU_all hk] at hB
     have hkl : KL n all k (LX.map MV.m) := ⟨hk, hB, hLok, by
      rw [List.length_map, hBl]
      have := unk_split k all
      unfold kn12
      omega⟩
     refine gY ?_
     refine H.Ba (out := addrV la) rfl rfl rfl rfl (by decide) (by decide) rfl rfl fun eb => ?_
     skip
     refine H.Bd (sz := 1) (p := lp) (n0 := i) (c := lc) (xs := ((List.range i).map P).flatMap addrV) (m := 1) (news := addrV la) rfl rfl rfl rfl rfl (fun p' c' => (by repeat constructor)) (Src.slice (Rd.ofRow (by repeat constructor)) rfl) (zad rfl) rfl (by omega) (by omega) fun lp2 lc2 => ?_
     refine gN ?_
     refine H.Ab (x := row eb _ _) (by repeat constructor) ?_
     refine H.Ba (out := addrV pb) rfl rfl rfl rfl (by decide) (by decide) rfl rfl fun eb => ?_
     skip
     refine H.Bd (sz := 1) (p := qp) (n0 := i) (c := qc) (xs := ((List.range i).map Q).flatMap addrV) (m := 1) (news := addrV pb) rfl rfl rfl rfl rfl (fun p' c' => (by repeat constructor)) (Src.slice (Rd.ofRow (by repeat constructor)) rfl) (zad rfl) rfl (by omega) (by omega) fun qp2 qc2 => ?_
     refine gW ?_
     refine H.Ab (x := row eb _ _) (by repeat constructor) ?_
     refine H.Aa (x := fam (lfam _ _ _ _) _) (by repeat constructor) ?_
     refine H.Aa (x := loreH _ la _ _) (by repeat constructor) ?_
     refine H.conv (lfam_more E P n L i e1 la LX _) ?_
     refine H.Aa (x := fam (pfam _ _ _) _) (by repeat constructor) ?_
     refine H.Aa (x := row pb _ _) (by repeat constructor) ?_
     refine H.conv (pfam_more Q n (fun _ _ _ => 0) i pb (fun _ _ => 0) _) ?_
     have e7 : updF (fun (_ : Nat) (_ _ : Nat) => (0 : Int)) i (fun _ _ => 0) = fun _ _ _ => 0 := by funext r; unfold updF; split <;> rfl
     rw [e7]
     refine H.Aa (x := slc lp2 _ lc2 _ _ _) (by repeat constructor) ?_
     refine H.Aa (x := slc qp2 _ qc2 _ _ _) (by repeat constructor) ?_
     refine H.Aa (x := fam (lfam _ _ _ _) _) (by repeat constructor) ?_
     refine H.Aa (x := fam (pfam _ _ _) _) (by repeat constructor) ?_
     refine H.Am (i + 1, e1, (lp2, lc2, updF P i la), (qp2, qc2, updF Q i pb), updF E i e1, updF L i LX) ⟨by show i + 1 ≤ n; omega, hSp.more hle (by rw [hkk]; exact hkl)⟩ (by show n - (i + 1) < n - i; omega) ⟨rfl, rfl, rfl, rfl, rfl, rfl, trivial⟩ rfl ?_
     show _ :: _ :: slc qp2 (i + 1) qc2 _ 1 _ :: slc lp2 (i + 1) lc2 _ 1 _ :: _ = _ :: _ :: slc qp2 (i + 1) qc2 _ 1 (((List.range (i + 1)).map (updF Q i pb)).flatMap addrV) :: slc lp2 (i + 1) lc2 _ 1 (((List.range (i + 1)).map (updF P i la)).flatMap addrV) :: _
     rw [pbs_snoc, pbs_snoc]
   ·have hin : n = i := by omega
    subst hin
    refine gG ?_
    refine H.freeze (x := slc lp _ lc _ _ _) (by repeat constructor) fun g2 hg2 hd2 => ?_
    refine H.freeze (x := slc qp _ qc _ _ _) (by repeat constructor) fun g3 hg3 hd3 => ?_
    have hnP : ((List.range n).map P).length = n := by rw [List.length_map, List.length_range]
    have hnQ : ((List.range n).map Q).length = n := by rw [List.length_map, List.length_range]
    have hpl : ListAt (un (un e g2) g3) lp 1 addrV ((List.range n).map P) := ((zbd (xs := (List.range n).map P) (vals := addrV) (c := lc) (T := 27) (fun _ => rfl) (by rw [hnP]; exact hg2)).mono (Le.right hd2)).mono (Le.un _ g3)
    have hpq : ListAt (un (un e g2) g3) qp 1 addrV ((List.range n).map Q) := (zbd (xs := (List.range n).map Q) (vals := addrV) (c := qc) (T := 91) (fun _ => rfl) (by rw [hnQ]; exact hg3)).mono (Le.right hd3)
    have hup := (Le.un e g2).trans (Le.un (un e g2) g3)
    generalize un (un e g2) g3 = e2 at hpl hpq hup ⊢
    clear hd2 hd3 hg2 hg3
    have le2 : Le f1 e2 := hSp.1.trans hup
    have hSp2 : Sp e2 n all e2 E L kv n := ⟨Le.refl e2, fun r hr => ⟨(hSp.2 r hr).1.trans hup, (hSp.2 r hr).2⟩⟩
    obtain ⟨lbb, loff, rfl, rdl⟩ := ListAt.all (sz := 1) (vals := addrV) (fun _ => rfl) (by decide) hpl (by rw [hnP]; omega)
    obtain ⟨qbb, qoff, rfl, rdq⟩ := ListAt.all (sz := 1) (vals := addrV) (fun _ => rfl) (by decide) hpq (by rw [hnQ]; omega)
    have rdL : ∀ (g : Frag) A r, Le e2 g → r < n → Rd g A lbb (loff + r * 1) (addrV (P r)) := fun g A r hg hr => rdl g A r (P r) hg (by rw [List.getElem?_map, List.getElem?_range hr]; rfl)
    have rdQ : ∀ (g : Frag) A r, Le e2 g → r < n → Rd g A qbb (qoff + r * 1) (addrV (Q r)) := fun g A r hg hr => rdq g A r (Q r) hg (by rw [List.getElem?_map, List.getElem?_range hr]; rfl)
    clear hpl hpq rdl rdq hnP hnQ hup hSp hlt hi
    refine H.Aa (x := fam (lfam _ _ _ _) _) (by repeat constructor) ?_
    refine H.Aw (ι := Nat × Frag × (Nat → Frag) × (Nat → List MV) × (Nat → Nat → Int) × (Nat → Nat → Nat → Int)) (fun s => [(19, .int .i64 (s.1 : Int)), (7, .pointer (some ⟨wb, 0, none⟩)), (8, .int .i64 (n : Int)), (9, .int .i64 (1 + (pt : Int))), (10, .slice (some ⟨lbb, loff, none⟩) n lc), (11, .slice (some ⟨qbb, qoff, none⟩) n qc)]) (fun s => s.2.1)
     (fun s => fam (lfam s.2.2.1 P n s.2.2.2.1) n :: fam (pfam Q n s.2.2.2.2.2) n :: row wb 96 (w15C kb n ap l.length ac lb) :: F)
     (fun s => s.1 ≤ l.length + 3 ∧ Sp e2 n all s.2.1 s.2.2.1 s.2.2.2.1 s.2.2.2.2.1 n ∧ (∀ r, r < n → s.2.2.2.2.1 r r = (cnt all r : Nat)) ∧ ∀ r, r < n → (unk (s.2.2.2.2.1 r) all).length + s.1 ≤ all.length ∨ (unk (s.2.2.2.2.1 r) all).length = 0) (fun s => l.length + 3 - s.1)
     (0, e2, E, L, kv, fun _ _ _ => 0) ⟨Nat.zero_le _, hSp2, hown, fun r hr => .inl (List.length_filter_le _ _)⟩ ⟨rfl, rfl, rfl, rfl, rfl, rfl, trivial⟩ rfl rfl fun s hs => ?_
    clear hSp2 hown hkv E L
    obtain ⟨rd, e, E, L, U, V⟩ := s
    obtain ⟨hrd, hSp, hown, hR⟩ : rd ≤ l.length + 3 ∧ Sp e2 n all e E L U n ∧ (∀ r, r < n → U r r = (cnt all r : Nat)) ∧ ∀ r, r < n → (unk (U r) all).length + rd ≤ all.length ∨ (unk (U r) all).length = 0 := hs
    show H _ _ _ [(19, .int .i64 (rd : Int)), (7, _), (8, _), (9, _), (10, _), (11, _)] e (fam (lfam E P n L) n :: fam (pfam Q n V) n :: row wb _ _ :: F) _
    by_cases hlt : rd ≤ l.length + 2
    ·refine gY ?_
     refine H.Aw (ι := Nat × Frag × (Nat → Frag) × (Nat → List MV) × (Nat → Nat → Int) × (Nat → Nat → Nat → Int)) (fun s => [(20, .int .i64 (s.1 : Int)), (19, .int .i64 (rd : Int)), (7, .pointer (some ⟨wb, 0, none⟩)), (8, .int .i64 (n : Int)), (9, .int .i64 (1 + (pt : Int))), (10, .slice (some ⟨lbb, loff, none⟩) n lc), (11, .slice (some ⟨qbb, qoff, none⟩) n qc)]) (fun s => s.2.1)
      (fun s => fam (lfam s.2.2.1 P n s.2.2.2.1) n :: fam (pfam Q n s.2.2.2.2.2) n :: row wb 96 (w15C kb n ap l.length ac lb) :: F)
      (fun s => s.1 ≤ n ∧ Sp e2 n all s.2.1 s.2.2.1 s.2.2.2.1 s.2.2.2.2.1 n ∧ (∀ r, r < n → s.2.2.2.2.1 r r = (cnt all r : Nat)) ∧ ∀ r, r < n → Pg all (s.2.2.2.2.1 r) rd s.1) (fun s => n - s.1)
      (0, e, E, L, U, V) ⟨Nat.zero_le _, hSp, hown, fun r hr => Pg.begin (hR r hr)⟩ ⟨rfl, rfl, rfl, rfl, rfl, rfl, rfl, trivial⟩ rfl rfl fun s hs => ?_
     clear hSp hown hR
     obtain ⟨i, e, E, L, U, V⟩ := s
     obtain ⟨hi, hSp, hown, hR⟩ : i ≤ n ∧ Sp e2 n all e E L U n ∧ (∀ r, r < n → U r r = (cnt all r : Nat)) ∧ ∀ r, r < n → Pg all (U r) rd i := hs
     show H _ _ _ [(20, .int .i64 (i : Int)), (19, _), (7, _), (8, _), (9, _), (10, _), (11, _)] e (fam (lfam E P n L) n :: fam (pfam Q n V) n :: row wb _ _ :: F) _
     by_cases hin : i < n
     ·refine gJ ?_
      refine H.Aw (ι := Nat × Frag × (Nat → Frag) × (Nat → List MV) × (Nat → Nat → Int) × (Nat → Nat → Nat → Int)) (fun s => [(21, .int .i64 (s.1 : Int)), (20, .int .i64 (i : Int)), (19, .int .i64 (rd : Int)), (7, .pointer (some ⟨wb, 0, none⟩)), (8, .int .i64 (n : Int)), (9, .int .i64 (1 + (pt : Int))), (10, .slice (some ⟨lbb, loff, none⟩) n lc), (11, .slice (some ⟨qbb, qoff, none⟩) n qc)]) (fun s => s.2.1)
       (fun s => fam (lfam s.2.2.1 P n s.2.2.2.1) n :: fam (pfam Q n s.2.2.2.2.2) n :: row wb 96 (w15C kb n ap l.length ac lb) :: F)
       (fun s => s.1 ≤ n ∧ Sp e2 n all s.2.1 s.2.2.1 s.2.2.2.1 s.2.2.2.2.1 n ∧ (∀ r, r < n → s.2.2.2.2.1 r r = (cnt all r : Nat)) ∧ (∀ r, r < n → r < s.1 → Pg all (s.2.2.2.2.1 r) rd (i + 1)) ∧ ∀ r, r < n → s.1 ≤ r → Pg all (s.2.2.2.2.1 r) rd i) (fun s => n - s.1)
       (0, e, E, L, U, V) ⟨Nat.zero_le _, hSp, hown, fun r _ h => absurd h (Nat.not_lt_zero r), fun r hr _ => hR r hr⟩ ⟨rfl, rfl, rfl, rfl, rfl, rfl, rfl, rfl, trivial⟩ rfl rfl fun s hs => ?_
      clear hSp hown hR
      obtain ⟨j, e, E, L, U, V⟩ := s
      obtain ⟨hj, hSp, hown, hR1, hR2⟩ : j ≤ n ∧ Sp e2 n all e E L U n ∧ (∀ r, r < n → U r r = (cnt all r : Nat)) ∧ (∀ r, r < n → r < j → Pg all (U r) rd (i + 1)) ∧ ∀ r, r < n → j ≤ r → Pg all (U r) rd i := hs
      show H _ _ _ [(21, .int .i64 (j : Int)), (20, _), (19, _), (7, _), (8, _), (9, _), (10, _), (11, _)] e (fam (lfam E P n L) n :: fam (pfam Q n V) n :: row wb _ _ :: F) _
      by_cases hjn : j < n
      ·by_cases hij : i = j
       ·skip
        refine gL ?_
        exact H.Am (j + 1, e, E, L, U, V) ⟨by show j + 1 ≤ n; omega, hSp, hown, fun r hr h => by
         by_cases e : r = j
         ·rw [e, ← hij]; rw [← hij] at hR2; exact (hR2 i hin (Nat.le_refl i)).self (hown i hin)
         ·exact hR1 r hr (by have : r < j + 1 := h; omega), fun r hr h => hR2 r hr (by have : j + 1 ≤ r := h; omega)⟩ (by show n - (j + 1) < n - j; omega) ⟨rfl, rfl, rfl, rfl, rfl, rfl, rfl, rfl, trivial⟩ rfl rfl
       ·skip
        refine gY ?_
        have hi11 : i < 11 := by omega
        have hj11 : j < 11 := by omega
        have hle := hSp.1
        have hki := (hSp.2 i hin).2
        have hkj := (hSp.2 j hjn).2
        have hEi := (hSp.2 i hin).1
        have hEj := (hSp.2 j hjn).1
        have e1j : ((j + 1 : Nat) : Int) = (j : Int) + 1 := rfl
        have hknown : ∀ e G, Fn Tryz.prog 20 [.pointer (some ⟨P j, 0, none⟩)] e (loreH (E j) (P j) n (L j) :: G) (Ret (.agg (v11 (U j)).toArray) e (loreH (E j) (P j) n (L j) :: G)) := fun e G => by
         have h := known_fn e G (fl := E j) (lb := P j) (n := n) (l := L j)
         rw [knownS_u hkj.kn hkj.s] at h
         exact h
        have htold : ∀ e G, Fn Tryz.prog 46 [.pointer (some ⟨Q i, 0, none⟩), .int .i64 ((j : Int) + 1), .agg (v11 (U j)).toArray] e (row (Q i) 148 (peC n (V i)) :: G) (Ret (.int .i64 0) e (row (Q i) 148 (peC n (updF (V i) j (U j))) :: G)) := fun e G => by
         have h := told_fn e G (pb := Q i) (vv := V i) hjn hn3.2 (U j)
         rw [e1j] at h
         exact h
        have hlacks : ∀ e (h : Le (E i) e) G, Fn Tryz.prog 50 [.pointer (some ⟨Q i, 0, none⟩), .int .i64 ((j : Int) + 1), .pointer (some ⟨P i, 0, none⟩), .int .i64 (1 + (pt : Int))] e (loreH (E i) (P i) n (L i) :: row (Q i) 148 (peC n (updF (V i) j (U j))) :: G) (SinceP e (loreH (E i) (P i) n (L i) :: row (Q i) 148 (peC n (updF (V i) j (U j))) :: G) ((unk (U j) ((L i).map MV.m)).take (pt + 1))) := fun e hle G => by
         have h := lacks_fn e G hle (pb := Q i) (lb := P i) (m := n) (vv := updF (V i) j (U j)) hjn hn3.2 (l := L i) (most := 1 + (pt : Int))
         rw [e1j, zag] at h
         unfold sinceM at h
         rw [show (1 + (pt : Int)).toNat = pt + 1 by omega] at h
         exact h
        refine H.Az (by kernel_rfl) (by decide +kernel) (by repeat (first | exact zab | refine zaa ?_ | refine zac ?_ | refine zae ?_)) (S := []) rfl ?_
        refine HB.Ag [(0, false), (1, false), (2, false), (3, false), (4, false), (5, false), (6, false), (7, false), (8, false), (9, false)] 3 (by kernel_rfl) ?_
        refine gD ?_
        refine HQ.Ar (i := i) rfl rfl rfl rfl hin rfl ?_
        refine HQ.Ae rfl rfl rfl (Rd1.of (i := 0) (rdQ _ _ _ hle hin) rfl) rfl ?_
        refine gT ?_
        refine HQ.Ar (i := j) rfl rfl rfl rfl hjn rfl ?_
        refine HQ.Ae rfl rfl rfl (Rd1.of (i := 0) (rdL _ _ _ hle hjn) rfl) rfl ?_
        refine HQ.Ad rfl ?_
        refine HB.ev1 (i := 10) (by kernel_rfl) rfl ?_
        refine H.lpull hjn ?_
        refine H.Af rfl rfl rfl (hknown _ _) ?_
        refine H.lback hjn ?_
        refine gC ?_
        refine H.on0 rfl ?_
        refine HB.ev1 (i := 11) (by kernel_rfl) rfl ?_
        refine H.Aa (x := fam (pfam _ _ _) _) (by repeat constructor) ?_
        refine H.ppull hin ?_
        refine H.Af rfl rfl rfl (htold _ _) ?_
        refine H.pput hin ?_
        refine gC ?_
        refine H.Aa (x := fam (lfam _ _ _ _) _) (by repeat constructor) ?_
        refine H.on0 rfl ?_
        refine HB.Ag [(12, false)] 0 (by kernel_rfl) ?_
        refine gS ?_
        refine HQ.Ad rfl ?_
        refine HB.Al (by kernel_rfl) ?_
        have hV2 : updF V i (updF (V i) j (U j)) i = updF (V i) j (U j) := zag _ _ _
        generalize updF V i (updF (V i) j (U j)) = V2 at hV2 ⊢
        rw [← hV2] at hlacks
        clear hV2 htold
        refine gW ?_
        refine H.Ar (i := j) rfl rfl rfl rfl hjn rfl ?_
        refine H.Ae rfl rfl rfl (Rd1.of (i := 0) (rdL _ _ _ hle hjn) rfl) rfl ?_
        refine H.lpull hjn ?_
        refine H.Af rfl rfl rfl (hknown _ _) ?_
        refine H.lback hjn ?_
        refine H.Au (ls := v11 fun _ => 0) rfl rfl rfl fun vb => ?_
        refine H.Ak (ls := v11 fun _ => 0) (vs := v11 (U j)) (ls' := v11 (U j)) rfl rfl rfl (zad rfl) rfl rfl (Nat.le_refl 11) (.here _ _ _) ?_
        refine gC ?_
        refine H.Az (by kernel_rfl) (by decide +kernel) (by with_reducible (repeat (first | exact zab | refine zaa ?_ | refine zac ?_ | refine zae ?_))) (S := []) rfl ?_
        refine HB.Ag [(0, false), (1, false), (2, false), (3, false), (4, false), (5, false), (6, false), (7, false), (8, false), (9, false), (10, false)] 2 (by kernel_rfl) ?_
        refine gD ?_
        refine HQ.Ar (i := i) rfl rfl rfl rfl hin rfl ?_
        refine HQ.Ae rfl rfl rfl (Rd1.of (i := 0) (rdQ _ _ _ hle hin) rfl) rfl ?_
        refine gT ?_
        refine HQ.Ar (i := i) rfl rfl rfl rfl hin rfl ?_
        refine HQ.Ae rfl rfl rfl (Rd1.of (i := 0) (rdL _ _ _ hle hin) rfl) rfl ?_
        refine gD ?_
        refine HQ.Ad rfl ?_
        refine HB.ev1 (i := 11) (by kernel_rfl) rfl ?_
        refine H.Aa (x := fam (pfam _ _ _) _) (by repeat constructor) ?_
        refine H.ppull hin ?_
        refine H.Aa (x := fam (lfam _ _ _ _) _) (by repeat constructor) ?_
        refine H.lpull hin ?_
        refine H.Aa (x := row (Q i) _ _) (by repeat constructor) ?_
        refine H.Aa (x := loreH _ _ _ _) (by repeat constructor) ?_
        refine H.Bp rfl rfl rfl (hlacks e hEi _) fun v f' A' hr => ?_
        obtain ⟨g2, rp, rc, R, rfl, hR, hRg, hd2, rfl, rfl⟩ := hr
        have hup2 := Le.un e g2
        refine H.freeze (x := msL _ _ _) (.here _ _) fun g3 hg3 hd3 => ?_
        have hRat : ListAt (un (un e g2) g3) rp 121 MV.vals R := (zbd MV.len hg3).mono (Le.right hd3)
        have hup3 := hup2.trans (Le.un (un e g2) g3)
        have hRg3 : ∀ y ∈ R, y.Good (un (un e g2) g3) := fun y hy => (hRg y hy).mono (Le.un (un e g2) g3)
        clear hRg hg3 hd3 hd2 hup2 hlacks hknown
        generalize un (un e g2) g3 = e3 at hRat hup3 hRg3 ⊢
        have hle3 := hle.trans hup3
        refine H.Aa (x := fam (updF (lfam _ _ _ _) _ _) _) (by repeat constructor) ?_
        refine H.Aa (x := loreH _ _ _ _) (by repeat constructor) ?_
        refine H.lback hin ?_
        refine H.Aa (x := fam (updF (pfam _ _ _) _ _) _) (by repeat constructor) ?_
        refine H.Aa (x := row (Q i) _ _) (by repeat constructor) ?_
        refine H.pback hin ?_
        refine gC ?_
        refine H.on [] hup3 rfl ?_
        refine HB.Ag [(12, false)] 0 (by kernel_rfl) ?_
        refine gD ?_
        refine HQ.Ad rfl ?_
        refine HB.Al (by kernel_rfl) ?_
        have hRl : R.length ≤ pt + 1 := by
         have := congrArg List.length hR
         rw [List.length_map, List.length_take] at this
         omega
        have hT : unk (U j) ((L i).map MV.m) = R.map MV.m ++ (unk (U j) ((L i).map MV.m)).drop (pt + 1) := by rw [hR, List.take_append_drop]
        have hPg := (hR2 j hjn (Nat.le_refl j)).step hWok hki (hown i hin) hkj (most := pt + 1) (by omega)
        rw [← hR] at hPg
        generalize (unk (U j) ((L i).map MV.m)).drop (pt + 1) = rest at hT
        clear hR
        refine gG ?_
        refine H.Aa (x := fam (lfam _ _ _ _) _) (by repeat constructor) ?_
        refine H.lpull hjn ?_
        refine H.imp (lore_up (hEj.trans hup3)) ?_
        refine H.Aa (x := row vb _ _) (by repeat constructor) ?_
        refine H.Aw (ι := Nat × Frag × List MV) (fun s => [(24, .int .i64 (s.1 : Int)), (23, .slice rp R.length rc), (22, .pointer (some ⟨vb, 0, none⟩)), (21, .int .i64 (j : Int)), (20, .int .i64 (i : Int)), (19, .int .i64 (rd : Int)), (7, .pointer (some ⟨wb, 0, none⟩)), (8, .int .i64 (n : Int)), (9, .int .i64 (1 + (pt : Int))), (10, .slice (some ⟨lbb, loff, none⟩) n lc), (11, .slice (some ⟨qbb, qoff, none⟩) n qc)]) (fun s => s.2.1)
         (fun s => row vb 37 (v11 (U j)) :: loreH s.2.1 (P j) n s.2.2 :: fam (updF (lfam E P n L) j emp) n :: fam (pfam Q n V2) n :: row wb 96 (w15C kb n ap l.length ac lb) :: F)
         (fun s => s.1 ≤ R.length ∧ Le e3 s.2.1 ∧ s.2.2.map MV.m = (L j).map MV.m ++ (R.map MV.m).take s.1) (fun s => R.length - s.1)
         (0, e3, L j) ⟨Nat.zero_le _, Le.refl e3, (List.append_nil _).symm⟩ ⟨rfl, rfl, rfl, rfl, rfl, rfl, rfl, rfl, rfl, rfl, rfl, trivial⟩ rfl rfl fun s hs => ?_
        obtain ⟨t, e4, LC⟩ := s
        obtain ⟨ht, hle4, hC⟩ : t ≤ R.length ∧ Le e3 e4 ∧ LC.map MV.m = (L j).map MV.m ++ (R.map MV.m).take t := hs
        show H _ _ _ [(24, .int .i64 (t : Int)), _, _, _, _, _, _, _, _, _, _] e4 (row vb _ _ :: loreH e4 (P j) n LC :: _ :: _ :: _ :: F) _
        by_cases htR : t < R.length
        ·obtain ⟨rb, roff, rfl, rdR⟩ := hRat.all MV.len (by decide) (by omega)
         obtain ⟨y, hy⟩ : ∃ y, R[t]? = some y := ⟨_, List.getElem?_eq_getElem htR⟩
         have hyT : (R.map MV.m)[t]? = some y.m := by rw [List.getElem?_map, hy]; rfl
         have hyg := (hRg3 y (List.mem_of_getElem? hy)).mono hle4
         have hsp : unk (U j) ((L i).map MV.m) = (R.map MV.m).take t ++ (y.m :: (R.map MV.m).drop (t + 1) ++ rest) := by
          rw [hT]
          conv => lhs; rw [take_cons_drop hyT]
          simp
         obtain ⟨k1, k2, _⟩ := KL.mid hWok hki _ _ hkj hsp
         obtain ⟨hc0, _, _, hmem, _⟩ := hki.take hWok k1 k2
         rw [← hC] at hc0 k1
         have hnum : U j (orgI y.m) < y.m.number := by
          have h1 : y.m ∈ unk (U j) ((L i).map MV.m) := by rw [hsp]; simp
          unfold unk at h1
          exact of_decide_eq_true (List.mem_filter.1 h1).2
         have hLCl : LC.length < 100000 := by
          have := k1.len
          rw [List.length_map] at this
          omega
         obtain ⟨x0, hx0⟩ := List.getElem?_of_mem hmem
         have horg := (hWok x0 y.m hx0).org
         obtain ⟨ob, hob1, hob2⟩ : ∃ ob : Nat, orgI y.m = ob ∧ y.m.origin - 1 = (ob : Nat) := ⟨orgI y.m, rfl, by unfold orgI; omega⟩
         have hob : ob < 11 := by omega
         rw [hob1] at hnum
         clear hx0 k1 k2 hsp hmem
         refine gJ ?_
         refine H.Ar (i := t) rfl rfl rfl rfl htR rfl ?_
         refine gP ?_
         refine H.Ae rfl rfl rfl (Rd1.of (i := 0) (rdR _ _ _ _ hle4 hy) rfl) rfl ?_
         refine gN ?_
         refine H.Az (by kernel_rfl) (by decide +kernel) (by with_reducible (repeat (first | exact zab | refine zaa ?_ | refine zac ?_ | refine zae ?_))) (S := [_]) rfl ?_
         refine HB.Ag [(0, false), (1, false), (2, false), (3, false), (4, false), (5, false), (6, false), (7, false), (8, false), (9, false), (10, false), (11, false), (12, false), (13, false), (14, false), (15, false), (16, false), (17, false), (18, false), (19, false), (20, false), (21, false), (22, false), (23, false), (24, false), (25, false), (26, false)] 3 (by kernel_rfl) ?_
         refine gc ?_
         refine HQ.Ar (i := t) rfl rfl rfl rfl htR rfl ?_
         refine gE ?_
         refine HQ.Ae rfl rfl rfl (Rd1.of (i := 1) (rdR _ _ _ _ hle4 hy) rfl) rfl ?_
         refine gT ?_
         refine HQ.Ay (i := ob) rfl rfl rfl hob2 hob rfl ?_
         refine HQ.Ae rfl rfl rfl (Rd1.of (Rd.ofRow (.here _ _ _)) (by rw [Nat.mul_one]; exact zao (U j) hob)) rfl ?_
         refine gc ?_
         refine HQ.Ar (i := j) rfl rfl rfl rfl hjn rfl ?_
         refine HQ.Ae rfl rfl rfl (Rd1.of (i := 0) (rdL _ _ _ (hle3.trans hle4) hjn) rfl) rfl ?_
         refine gD ?_
         refine HQ.Ar (i := t) rfl rfl rfl rfl htR rfl ?_
         refine HQ.Ah (ls := y.vals) rfl rfl rfl (rdR _ _ _ _ hle4 hy) rfl rfl ?_
         refine HQ.Ad rfl ?_
         refine HB.ev1 (i := 27) (by kernel_rfl) rfl ?_
         refine H.Aa (x := loreH _ _ _ _) (by repeat constructor) ?_
         refine H.Bp (R := AddP e4 _ (P j) n LC y.m) rfl rfl rfl (ladd_fn e4 _ (tab_mono htab (le1.trans (le2.trans (hle3.trans hle4)))) (Le.refl e4) hyg hLCl) fun v f' A' hr => ?_
         obtain ⟨g5, q5, c5, rfl, hd5, rfl, rfl⟩ := hr
         rw [hc0, if_pos rfl]
         have hle5 := hle4.trans (Le.un e4 g5)
         have hup5 := Le.un e4 g5
         generalize un e4 g5 = e5 at hle5 hup5 ⊢
         have hD : (LC ++ [(⟨y.m, q5, c5⟩ : MV)]).map MV.m = (L j).map MV.m ++ (R.map MV.m).take (t + 1) := by
          rw [List.map_append, hC, zbe hyT, List.append_assoc]; rfl
         generalize LC ++ [(⟨y.m, q5, c5⟩ : MV)] = LD at hD ⊢
         clear hC hc0
         refine gC ?_
         refine H.Aa (x := row vb _ _) (by repeat constructor) ?_
         refine H.on [] hup5 rfl ?_
         refine HB.Ag [(28, false), (29, false)] 0 (by kernel_rfl) ?_
         refine gc ?_
         refine HQ.Ad rfl ?_
         refine HB.Al (by kernel_rfl) ?_
         refine gW ?_
         exact H.Am (t + 1, e5, LD) ⟨by show t + 1 ≤ R.length; omega, hle5, hD⟩ (by show R.length - (t + 1) < R.length - t; omega) ⟨rfl, rfl, rfl, rfl, rfl, rfl, rfl, rfl, rfl, rfl, rfl, trivial⟩ rfl rfl
        ·have htR2 : t = R.length := by omega
         have e9 : (R.map MV.m).take t = R.map MV.m := by rw [htR2]; exact List.take_of_length_le (by rw [List.length_map]; exact Nat.le_refl _)
         rw [e9] at hC
         obtain ⟨k1, _, _⟩ := KL.mid hWok hki _ _ hkj hT
         have hk1 := k1.kn
         rw [← hC] at k1
         refine gL ?_
         refine H.Ab (x := row vb _ _) (by repeat constructor) ?_
         refine H.Aa (x := loreH _ _ _ _) (by repeat constructor) ?_
         refine H.lput hjn ?_
         have hup4 := hup3.trans hle4
         exact H.Am (j + 1, e4, updF E j e4, updF L j LC, updF U j (afterU (U j) (R.map MV.m)), V2) ⟨by show j + 1 ≤ n; omega, ⟨hle.trans hup4, fun r hr => by
          by_cases e : r = j
          ·subst e
           show Le (updF E r e4 r) e4 ∧ KL n all (updF U r _ r) ((updF L r LC r).map MV.m)
           rw [zag, zag, zag]; exact ⟨Le.refl _, k1⟩
          ·show Le (updF E j e4 r) e4 ∧ KL n all (updF U j _ r) ((updF L j LC r).map MV.m)
           rw [zak _ _ e, zak _ _ e, zak _ _ e]; exact ⟨(hSp.2 r hr).1.trans hup4, (hSp.2 r hr).2⟩⟩, fun r hr => by
          by_cases e : r = j
          ·subst e
           show updF U r _ r r = _
           rw [zag]; exact own_after hk1 (hown r hr)
          ·show updF U j _ r r = _
           rw [zak _ _ e]; exact hown r hr, fun r hr h => by
          by_cases e : r = j
          ·subst e
           show Pg all (updF U r _ r) rd (i + 1)
           rw [zag]; exact hPg
          ·show Pg all (updF U j _ r) rd (i + 1)
           rw [zak _ _ e]; exact hR1 r hr (by have : r < j + 1 := h; omega), fun r hr h => by
          have h : j + 1 ≤ r := h
          show Pg all (updF U j _ r) rd i
          rw [zak _ _ (by omega)]; exact hR2 r hr (by omega)⟩ (by show n - (j + 1) < n - j; omega) ⟨rfl, rfl, rfl, rfl, rfl, rfl, rfl, rfl, trivial⟩ rfl rfl
      ·refine gL ?_
       exact H.Am (i + 1, e, E, L, U, V) ⟨by show i + 1 ≤ n; omega, hSp, hown, fun r hr => hR1 r hr (by omega)⟩ (by show n - (i + 1) < n - i; omega) ⟨rfl, rfl, rfl, rfl, rfl, rfl, rfl, trivial⟩ rfl rfl
     ·refine gL ?_
      have hin2 : i = n := by omega
      exact H.Am (rd + 1, e, E, L, U, V) ⟨by show rd + 1 ≤ l.length + 3; omega, hSp, hown, fun r hr => Pg.done hWok (by have := hR r hr; rwa [hin2] at this)⟩ (by show l.length + 3 - (rd + 1) < l.length + 3 - rd; omega) ⟨rfl, rfl, rfl, rfl, rfl, rfl, trivial⟩ rfl rfl
    ·have hrd2 : rd = l.length + 3 := by omega
     have hun : ∀ r, r < n → unk (U r) all = [] := fun r hr => List.eq_nil_of_length_eq_zero (by rcases hR r hr with h | h <;> omega)
     have hUc : ∀ r, r < n → ∀ i, U r i = (cnt all i : Nat) := fun r hr i => unk_nil hWok (hSp.2 r hr).2.kn (hun r hr) i
     have hLl : ∀ r, r < n → (L r).length = l.length := fun r hr => by
      have := (hSp.2 r hr).2.len
      rw [hun r hr, List.length_map, List.length_nil] at this
      omega
     have h0n : 0 < n := by omega
     have hS0 : sinceM (U 0) 100 ((L 0).map MV.m) = [] := by
      unfold sinceM
      have h1 : unk (U 0) ((L 0).map MV.m) = [] := by
       have h2 := hun 0 h0n
       unfold unk at h2 ⊢
       rw [List.filter_eq_nil_iff] at h2 ⊢
       exact fun x hx => h2 x (uptoS_mem (hSp.2 0 h0n).2.s hx)
      rw [h1]; exact List.take_nil
     have hknown : ∀ r, r < n → ∀ G, Fn Tryz.prog 20 [.pointer (some ⟨P r, 0, none⟩)] e (loreH (E r) (P r) n (L r) :: G) (Ret (.agg (v11 (U r)).toArray) e (loreH (E r) (P r) n (L r) :: G)) := fun r hr G => by
      have h := known_fn e G (fl := E r) (lb := P r) (n := n) (l := L r)
      rw [knownS_u (hSp.2 r hr).2.kn (hSp.2 r hr).2.s] at h
      exact h
     have hlen : ∀ r, r < n → ∀ G, Fn Tryz.prog 22 [.pointer (some ⟨P r, 0, none⟩)] e (loreH (E r) (P r) n (L r) :: G) (Ret (.int .i64 (l.length : Nat)) e (loreH (E r) (P r) n (L r) :: G)) := fun r hr G => by
      have h := llen_fn e G (fl := E r) (lb := P r) (n := n) (l := L r)
      rw [hLl r hr] at h
      exact h
     have hsince : ∀ G, Fn Tryz.prog 21 [.pointer (some ⟨P 0, 0, none⟩), .agg (v11 (U 0)).toArray, .int .i64 100] e (loreH (E 0) (P 0) n (L 0) :: G) (SinceP e (loreH (E 0) (P 0) n (L 0) :: G) []) := fun G => by
      have h := lsince_fn e G (hSp.2 0 h0n).1 (lb := P 0) (n := n) (l := L 0) (v := U 0) (most := 100)
      rw [hS0] at h
      exact h
     have hfe := hSp.1
     clear hSp hown hR hun hLl hS0
     refine gY ?_
     refine H.Aw (ι := Nat) (fun i => [(26, .int .i64 (i : Int)), (7, .pointer (some ⟨wb, 0, none⟩)), (8, .int .i64 (n : Int)), (9, .int .i64 (1 + (pt : Int))), (10, .slice (some ⟨lbb, loff, none⟩) n lc), (11, .slice (some ⟨qbb, qoff, none⟩) n qc)]) (fun _ => e)
      (fun _ => fam (lfam E P n L) n :: fam (pfam Q n V) n :: row wb 96 (w15C kb n ap l.length ac lb) :: F)
      (fun i => i ≤ n) (fun i => n - i) 0 (Nat.zero_le _) ⟨rfl, rfl, rfl, rfl, rfl, rfl, trivial⟩ rfl rfl fun i hi => ?_
     have hi : i ≤ n := hi
     by_cases hin : i < n
     ·have hknowi : ∀ G, Fn Tryz.prog 20 [.pointer (some ⟨P i, 0, none⟩)] e (loreH (E i) (P i) n (L i) :: G) (Ret (.agg (v11 (U 0)).toArray) e (loreH (E i) (P i) n (L i) :: G)) := fun G => by
       have h := hknown i hin G
       rw [v11_congr (fun r _ => (hUc i hin r).trans (hUc 0 h0n r).symm)] at h
       exact h
      refine gJ ?_
      refine H.Aa (x := row wb _ _) (by repeat constructor) ?_
      refine H.Az (by kernel_rfl) (by decide +kernel) (by repeat (first | exact zab | refine zaa ?_ | refine zac ?_ | refine zae ?_)) (S := [_]) rfl ?_
      refine HB.Ag [(0, false), (1, false), (2, false), (3, false), (5, false), (6, false), (7, false), (8, false), (9, false)] 14 (by kernel_rfl) ?_
      refine gD ?_
      refine HQ.Ar (i := i) rfl rfl rfl rfl hin rfl ?_
      refine HQ.Ae rfl rfl rfl (Rd1.of (i := 0) (rdL _ _ _ hfe hin) rfl) rfl ?_
      refine gT ?_
      refine HQ.Ad rfl ?_
      refine HB.ev1 (i := 4) (by kernel_rfl) rfl ?_
      refine H.Aa (x := fam (lfam _ _ _ _) _) (by repeat constructor) ?_
      refine H.lpull hin ?_
      refine H.Af rfl rfl rfl (hlen i hin _) ?_
      refine H.lback hin ?_
      refine gC ?_
      refine H.Aa (x := row wb _ _) (by repeat constructor) ?_
      refine H.on0 rfl ?_
      refine HB.Ag [(10, false), (11, false), (12, false), (13, false), (14, false), (15, false), (17, false), (18, false), (19, false)] 4 (by kernel_rfl) ?_
      refine gc ?_
      refine HQ.Ar (i := i) rfl rfl rfl rfl hin rfl ?_
      refine HQ.Ae rfl rfl rfl (Rd1.of (i := 0) (rdL _ _ _ hfe hin) rfl) rfl ?_
      refine gD ?_
      refine HQ.Ar (i := 0) rfl rfl rfl rfl h0n rfl ?_
      refine HQ.Ae rfl rfl rfl (Rd1.of (i := 0) (rdL _ _ _ hfe h0n) rfl) rfl ?_
      skip
      refine HQ.Ad rfl ?_
      refine HB.ev1 (i := 16) (by kernel_rfl) rfl ?_
      refine H.Aa (x := fam (lfam _ _ _ _) _) (by repeat constructor) ?_
      refine H.lpull hin ?_
      refine H.Af rfl rfl rfl (hknowi _) ?_
      refine H.lback hin ?_
      refine gC ?_
      refine H.Aa (x := row wb _ _) (by repeat constructor) ?_
      refine H.on0 rfl ?_
      refine HB.ev1 (i := 20) (by kernel_rfl) rfl ?_
      refine H.Aa (x := fam (lfam _ _ _ _) _) (by repeat constructor) ?_
      refine H.lpull h0n ?_
      refine H.Af rfl rfl rfl (hknown 0 h0n _) ?_
      refine H.lback h0n ?_
      refine gC ?_
      refine H.Aa (x := row wb _ _) (by repeat constructor) ?_
      refine H.on0 rfl ?_
      refine HB.Ag [(21, false), (22, false)] 0 (by kernel_rfl) ?_
      refine HQ.aggNe (xs := v11 (U 0)) (ys := v11 (U 0)) (D := 4) (b := false) rfl rfl rfl rfl (by kernel_rfl) (by kernel_rfl) (by kernel_rfl) (by kernel_rfl) (by decide) (by rw [eqC_refl (l := v11 (U 0)) rfl]; rfl) rfl ?_
      refine gM ?_
      refine HQ.Ad rfl ?_
      refine HB.Al (by kernel_rfl) ?_
      refine gW ?_
      refine H.Aa (x := fam (pfam _ _ _) _) (by repeat constructor) ?_
      refine H.Aa (x := fam (lfam _ _ _ _) _) (by repeat constructor) ?_
      exact H.Am (i + 1) (by show i + 1 ≤ n; omega) (by show n - (i + 1) < n - i; omega) ⟨rfl, rfl, rfl, rfl, rfl, rfl, trivial⟩ rfl rfl
     ·skip
      refine gG ?_
      refine H.Az (by kernel_rfl) (by decide +kernel) (by repeat (first | exact zab | refine zaa ?_ | refine zac ?_ | refine zae ?_)) (S := []) rfl ?_
      refine HB.Ag [(0, false), (1, false), (2, false), (3, false), (4, false), (5, false)] 7 (by kernel_rfl) ?_
      refine gD ?_
      refine HQ.Ar (i := 0) rfl rfl rfl rfl h0n rfl ?_
      refine HQ.Ae rfl rfl rfl (Rd1.of (i := 0) (rdL _ _ _ hfe h0n) rfl) rfl ?_
      refine gD ?_
      refine HQ.Ar (i := 0) rfl rfl rfl rfl h0n rfl ?_
      refine HQ.Ae rfl rfl rfl (Rd1.of (i := 0) (rdL _ _ _ hfe h0n) rfl) rfl ?_
      refine HQ.Ad rfl ?_
      refine HB.ev1 (i := 6) (by kernel_rfl) rfl ?_
      refine H.lpull h0n ?_
      refine H.Af rfl rfl rfl (hknown 0 h0n _) ?_
      refine gC ?_
      refine H.on0 rfl ?_
      refine HB.ev1 (i := 7) (by kernel_rfl) rfl ?_
      refine H.Bp rfl rfl rfl (hsince _) fun v f' A' hr => ?_
      obtain ⟨g2, rp, rc, R, rfl, hR, hRg, hd2, rfl, rfl⟩ := hr
      obtain rfl : R = [] := List.map_eq_nil_iff.1 hR
      refine H.Ab (.here _ _) ?_
      have hup2 := Le.un e g2
      generalize un e g2 = e3 at hup2 ⊢
      clear hR hRg
      refine gC ?_
      refine H.on [] hup2 rfl ?_
      refine HB.ev1 (i := 8) (by kernel_rfl) rfl ?_
      refine H.Af rfl rfl rfl (rsameL_fn e3 _ (A := []) (B := []) (ListAt.nil _ _) (ListAt.nil _ _) (fun y hy => by cases hy) (fun y hy => by cases hy) rfl (Nat.zero_le _)) ?_
      refine gC ?_
      refine H.on0 rfl ?_
      refine HB.Ag [(9, false)] 3 (by kernel_rfl) ?_
      refine gD ?_
      refine HQ.Ad rfl ?_
      refine HB.ev1 (i := 10) (by kernel_rfl) rfl ?_
      refine H.Af rfl rfl rfl (works18_fn e3 _) ?_
      refine gC ?_
      refine H.on0 rfl ?_
      refine HB.Ag [(11, false), (12, false)] 0 (by kernel_rfl) ?_
      refine gS ?_
      refine HQ.Ad rfl ?_
      refine HB.Al (by kernel_rfl) ?_
      refine ga ?_
      refine H.weakL (le1.trans (le2.trans (hfe.trans hup2))) ?_
      refine H.Ab (.here _ _) ?_
      refine H.Ab (.here _ _) ?_
      refine H.Ab (.here _ _) ?_
      refine H.Ab (.here _ _) ?_
      exact H.Ac rfl rfl (fun _ h => h) ⟨rfl, rfl, rfl⟩
  ·have h60' : 60 < xs.length := by omega
   refine Fn.enter Tryz.func14 rfl Tryz.ntmps14 rfl (L := [(0, _), (1, _), (2, _)]) ⟨rfl, rfl, rfl, trivial⟩ fun base => ?_
   refine gN ?_
   refine H.Af rfl rfl rfl hfew ?_
   refine H.not (b := _) (c := _) rfl rfl rfl rfl ?_
   refine gQ ?_
   refine H.Af rfl rfl rfl (works18_fn f _) ?_
   refine ga ?_
   exact H.Ac rfl rfl (fun _ h => h) ⟨rfl, rfl, rfl⟩
end
end Go.Proofs.YtoigpgdmignaoaaGreatDoor

namespace Go.Proofs.YtoigpgdmignaoaaGreatDoor
open Go Go.ChangeShapes Go.WideShapes Go.RowKit Go.Deep
theorem Reads.bool {P : Program} {W : World} {t : TypeId} {cs : List Value} (ht : P.underlying t = some .bool) (h : Reads P W t cs) : ∃ b, cs = [.bool b] := by
 obtain ⟨H', enc, b, sp, hd, n, x, h⟩ := h
 obtain ⟨z, h1, _⟩ := DataW.trod_bool ht h
 exact ⟨z, h1⟩
theorem Reads.u8 {W : World} {cs : List Value} (h : Reads Tryz.prog W 5 cs) : ∃ x : UInt8, cs = [.int .u8 (x.toNat : Nat)] := by
 obtain ⟨x, _, e⟩ := reads_byte h
 exact ⟨x, e⟩
theorem ArgOk.u8 {W : World} {v : Value} (h : ArgOk Tryz.prog W 5 v) : ∃ x : UInt8, v = .int .u8 (x.toNat : Nat) := by
 obtain ⟨z, rfl, hz⟩ := h.int Tryz.underlying5
 exact ⟨UInt8.ofNat z.toNat, by rw [u8_back hz]⟩
theorem AllReads.cons {P : Program} {W : World} {t : TypeId} {ts : List TypeId} {ps : List (List Value)} (h : AllReads P W (t :: ts) ps) : ∃ p q, ps = p :: q ∧ Reads P W t p ∧ AllReads P W ts q := by
 cases ps with
 | nil => exact h.elim
 | cons p q => exact ⟨p, q, rfl, h.1, h.2⟩
theorem AllReads.nil {P : Program} {W : World} {ps : List (List Value)} (h : AllReads P W [] ps) : ps = [] := by
 cases ps with
 | nil => rfl
 | cons p q => exact h.elim
theorem reads_a15 {W : World} {cs : List Value} (h : Reads Tryz.prog W 144 cs) : ∃ x : A15, x.Has (memOf W) ∧ cs = x.vals := by
 obtain ⟨ps, rfl, hh⟩ := h.parts Tryz.underlying144 (by kernel_rfl)
 have h : AllReads Tryz.prog W [5, 5, 4, 4, 5, 5, 5, 5, 5, 5, 55, 4] ps := hh
 obtain ⟨p0, q0, rfl, r0, h⟩ := h.cons
 obtain ⟨p1, q1, rfl, r1, h⟩ := h.cons
 obtain ⟨p2, q2, rfl, r2, h⟩ := h.cons
 obtain ⟨p3, q3, rfl, r3, h⟩ := h.cons
 obtain ⟨p4, q4, rfl, r4, h⟩ := h.cons
 obtain ⟨p5, q5, rfl, r5, h⟩ := h.cons
 obtain ⟨p6, q6, rfl, r6, h⟩ := h.cons
 obtain ⟨p7, q7, rfl, r7, h⟩ := h.cons
 obtain ⟨p8, q8, rfl, r8, h⟩ := h.cons
 obtain ⟨p9, q9, rfl, r9, h⟩ := h.cons
 obtain ⟨p10, q10, rfl, r10, h⟩ := h.cons
 obtain ⟨p11, q11, rfl, r11, h⟩ := h.cons
 obtain rfl := h.nil
 obtain ⟨z0, rfl⟩ := r0.u8
 obtain ⟨z1, rfl⟩ := r1.u8
 obtain ⟨z2, rfl⟩ := r2.bool Tryz.underlying4
 obtain ⟨z3, rfl⟩ := r3.bool Tryz.underlying4
 obtain ⟨z4, rfl⟩ := r4.u8
 obtain ⟨z5, rfl⟩ := r5.u8
 obtain ⟨z6, rfl⟩ := r6.u8
 obtain ⟨z7, rfl⟩ := r7.u8
 obtain ⟨z8, rfl⟩ := r8.u8
 obtain ⟨z9, rfl⟩ := r9.u8
 obtain ⟨p, c, xs, rfl, _, _, _, hat⟩ := r10.list (sz := 1) Tryz.underlying55 (by kernel_rfl) (by decide) fun cs => reads_byte
 obtain ⟨z11, rfl⟩ := r11.bool Tryz.underlying4
 exact ⟨⟨z0, z1, z2, z3, z4, z5, z6, z7, z8, z9, xs, z11, p, c⟩, listAt_bat hat, rfl⟩
theorem ArgOk.acts15 {W : World} {v : Value} (h : ArgOk Tryz.prog W 86 v) : ∃ (p : Option Addr) (c : Nat) (xs : List A15), v = .slice p xs.length c ∧ xs.length ≤ 9223372036854775807 ∧ (∀ x ∈ xs, x.Has (memOf W)) ∧ ListAt (memOf W) p 12 A15.vals xs := by
  obtain ⟨p, c, xs, rfl, h1, h2, hq, hat⟩ := h.list (sz := 12) Tryz.underlying86 (by kernel_rfl) (by decide) fun cs => reads_a15
  exact ⟨p, c, xs, rfl, by have : maxLen ≤ 9223372036854775807 := by decide
                           omega, hq, hat⟩
theorem Tryz.own : ownKnob Tryz.prog.godebug = none := by kernel_rfl
theorem Tryz.laidOut : laidOutB Tryz.prog = true := by kernel_rfl
abbrev laidL : List (String × DataW Unit) := [("ratchet/sha.table", Rows.laid_ratchet_sha_table)]
theorem door_met (os : Os) (args : Array Value) : laidMetH Tryz.prog laidL ((World.doorLaid Tryz.prog 400 os).forCall (fun _ _ => 0) ⟨#[], args, []⟩).memory :=
 laidMetH_of_parts3 (fuel := 8) (laidMet_of_run' 8 (by kernel_rfl) (by kernel_rfl)) (by kernel_rfl) (by kernel_rfl)
theorem tab_eq : (Rows.laid_ratchet_sha_table : DataW Unit) = .agg ((Sha.k.map fun x => ((x.toNat : Nat) : Int)).map fun z => .lit (.int .u32 z)) := by kernel_rfl
theorem tab_of {W : World} (h : laidMetH Tryz.prog laidL W) : TabAt (memOf W) := by
 have h2 : laidMetH Tryz.prog [("ratchet/sha.table", .agg ((Sha.k.map fun x => ((x.toNat : Nat) : Int)).map fun z => .lit (.int .u32 z)))] W := by rw [← tab_eq]; exact h
 exact laid_ints h2 (by kernel_rfl) (by kernel_rfl) (t := 252) (e := 222) Tryz.underlying252 Tryz.underlying222 (by kernel_rfl)
end Go.Proofs.YtoigpgdmignaoaaGreatDoor
