/- Parts of the proof, one behind the other, each under its own heading. No conditions. -/
import Derived.Test.YtoigpgdmignaoaaGreatDoorZ07
import Derived.Test.YtoigpgdmignaoaaGreatDoorRows
import Derived.Test.YtoigpgdmignaoaaGreatDoorCards
import Derived.Test.YtoigpgdmignaoaaGreatDoorTie
set_option linter.unusedSectionVars false
set_option linter.unusedSimpArgs false
set_option linter.unusedVariables false
/- Layer 15: the document's worlds: body. No condition. -/
namespace Go.Proofs.YtoigpgdmignaoaaGreatDoor
open Go
def bodW (k : UInt8) (v kk : Int) : Bod := ⟨k, v, kk, Req.zero, [], noTag⟩
section
variable (f : Frag) (F : List HP)
set_option maxRecDepth 20000 in
set_option maxHeartbeats 3200000 in
theorem body15_fn {fl : Frag} (hfl : Le fl f) {wb kb lb : Nat} {W : W15} {n T : Nat} (hW : WI n W T) (hT : T ≤ 1000) {ap : Option Addr} {m ac o : Nat} (ho : o < n) {x : A15} (hx : x.Has f) (hq20 : x.q.length ≤ 20) :
  Fn Tryz.prog 94 [.pointer (some ⟨wb, 0, none⟩), .int .i64 ((o + 1 : Nat) : Int), .agg x.vals.toArray] f (logsH fl lb W.l :: row wb 96 (w15C kb n ap m ac lb) :: row kb 37 (kRow n W.w.kv) :: F)
   (BodP f (logsH fl lb W.l :: row wb 96 (w15C kb n ap m ac lb) :: row kb 37 (kRow n W.w.kv) :: F) (x.bod W n o)) := by
 have hn := hW.l.n3
 have hnn := hW.n
 have hol : o < W.l.n := by omega
 have hwf := hW.l.wf o hol
 have hg0 := hwf.g0
 have hg1 := hW.l.gb o hol
 have hvm : ((x.view.toNat % 6 : Nat) : Int) ≤ 5 := by omega
 have hv2 : ((x.view.toNat % 2 : Nat) : Int) ≤ 1 := by omega
 have hkm : ((x.k.toNat % 6 : Nat) : Int) ≤ 5 := by omega
 have hgr := fun G => great_fn f G hfl (wb := wb) (kb := kb) (lb := lb) (l := W.l) hW.l (ap := ap) (m := m) (ac := ac) (n := n) hol
 have hcases : x.kind.toNat % 6 = 0 ∨ x.kind.toNat % 6 = 1 ∨ x.kind.toNat % 6 = 2 ∨ x.kind.toNat % 6 = 3 ∨ x.kind.toNat % 6 = 4 ∨ x.kind.toNat % 6 = 5 := by omega
 unfold A15.bod
 rcases hcases with h | h | h | h | h | h
 ·have hk6 : ((x.kind.toNat : Nat) : Int).tmod 6 = 0 := zak (b := 6) h
  rw [h]
  have hask := fun G => ask_fn f G x
  rcases Bool.eq_false_or_eq_true x.raw with hraw | hraw
  ·have hr1 : (!x.raw) = false := by rw [hraw]; rfl
   have hb : x.bodK W n o 0 = (⟨1, ((x.view.toNat % 6 : Nat) : Int), 0, x.req, [], noTag⟩ : Bod) := by simp [A15.bodK, hraw, Bod.zero]
   rw [hb]
   generalize x.req = rq at hask ⊢
   refine Fn.enter Tryz.func94 rfl Tryz.ntmps94 rfl (L := [(0, _), (1, _), (2, _)]) ⟨rfl, rfl, rfl, trivial⟩ fun base => ?_
   refine gC ?_
   refine H.box (ls := x.vals) rfl rfl rfl rfl fun xb => ?_
   refine H.Ar (ls := (Bod.zero 0).vals none 0) rfl rfl rfl fun ob => ?_
   refine gY ?_
   refine H.rem rfl rfl rfl (by decide) hk6 rfl ?_
   refine gO ?_
   refine H.rem (z := ((x.view.toNat % 6 : Nat) : Int)) rfl rfl rfl (by decide) (zak (b := 6) rfl) rfl ?_
   refine gO ?_
   refine H.rem (z := ((x.k.toNat % 6 : Nat) : Int)) rfl rfl rfl (by decide) (zak (b := 6) rfl) rfl ?_
   repeat (first | (refine H.Bc (t := 45) (out := (bodW 1 ((x.view.toNat % 6 : Nat) : Int) (1 + ((x.k.toNat % 6 : Nat) : Int))).vals none 0) rfl rfl rfl (by kernel_rfl) rfl ?_) | ((first | (apply H.ar; (iterate 4 exact rfl)) | (apply H.Bg; (iterate 2 exact rfl))); (with_reducible apply wr_u64; omega); exact rfl))
   refine H.Ar (ls := (Bod.zero 0).vals none 0) rfl rfl rfl fun bb => ?_
   refine H.Ak (ls := (Bod.zero 0).vals none 0) (vs := (bodW 1 ((x.view.toNat % 6 : Nat) : Int) (1 + ((x.k.toNat % 6 : Nat) : Int))).vals none 0) (ls' := (bodW 1 ((x.view.toNat % 6 : Nat) : Int) (1 + ((x.k.toNat % 6 : Nat) : Int))).vals none 0) rfl rfl rfl (zad rfl) rfl rfl (Nat.le_refl 76) (.here _ _ _) ?_
   refine gN ?_
   refine H.Aa (x := row wb _ _) (by repeat constructor) ?_
   refine H.Aa (x := logsH _ _ _) (by repeat constructor) ?_
   refine H.Ad rfl rfl rfl (hgr _) ?_
   refine H.Aa (x := row xb _ _) (by repeat constructor) ?_
   refine H.Aa (x := row bb _ _) (by repeat constructor) ?_
   refine ga ?_
   refine H.Ah (ls := x.vals) rfl rfl rfl (Rd.ofRow (.there _ (.here _ _ _))) rfl rfl ?_
   refine H.Ad rfl rfl rfl (hask _) ?_
   refine gO ?_
   refine H.Ak (ls := (bodW 1 ((x.view.toNat % 6 : Nat) : Int) 0).vals none 0) (vs := rq.vals) (ls' := (⟨1, ((x.view.toNat % 6 : Nat) : Int), 0, rq, [], noTag⟩ : Bod).vals none 0) rfl rfl rfl (zad rfl) rfl rfl (show 3 + 40 ≤ 76 by decide) (.here _ _ _) ?_
   refine gT ?_
   refine H.Ah (ls := (⟨1, ((x.view.toNat % 6 : Nat) : Int), 0, rq, [], noTag⟩ : Bod).vals none 0) rfl rfl rfl (Rd.ofRow (.here _ _ _)) rfl rfl ?_
   refine H.Ak (ls := (Bod.zero 0).vals none 0) (vs := (⟨1, ((x.view.toNat % 6 : Nat) : Int), 0, rq, [], noTag⟩ : Bod).vals none 0) (ls' := (⟨1, ((x.view.toNat % 6 : Nat) : Int), 0, rq, [], noTag⟩ : Bod).vals none 0) rfl rfl rfl (zad rfl) rfl rfl (Nat.le_refl 76) (by repeat constructor) ?_
   refine gc ?_
   refine H.Ab (x := row bb _ _) (by repeat constructor) ?_
   refine H.Ab (x := row xb _ _) (by repeat constructor) ?_
   refine H.Aa (x := row kb _ _) (by repeat constructor) ?_
   refine H.Aa (x := row wb _ _) (by repeat constructor) ?_
   refine H.Aa (x := logsH _ _ _) (by repeat constructor) ?_
   refine H.Aa (x := row ob _ _) (by repeat constructor) ?_
   exact H.Ba (ls := (⟨1, ((x.view.toNat % 6 : Nat) : Int), 0, rq, [], noTag⟩ : Bod).vals none 0) rfl rfl rfl (Rd.ofRow (.here _ _ _)) rfl (fun _ s => s.drop (.here _ _)) ⟨nil0, none, 0, rfl, QAt.nil _ _, Dj.nil _, (un_nil _).symm, rfl⟩
  ·have hr1 : (!x.raw) = true := by rw [hraw]; rfl
   have hb : x.bodK W n o 0 = (⟨1, (W.l.past o).g, 0, x.req, [], noTag⟩ : Bod) := by simp [A15.bodK, hraw, Bod.zero]
   rw [hb]
   generalize x.req = rq at hask ⊢
   refine Fn.enter Tryz.func94 rfl Tryz.ntmps94 rfl (L := [(0, _), (1, _), (2, _)]) ⟨rfl, rfl, rfl, trivial⟩ fun base => ?_
   refine gC ?_
   refine H.box (ls := x.vals) rfl rfl rfl rfl fun xb => ?_
   refine H.Ar (ls := (Bod.zero 0).vals none 0) rfl rfl rfl fun ob => ?_
   refine gY ?_
   refine H.rem rfl rfl rfl (by decide) hk6 rfl ?_
   refine gO ?_
   refine H.rem (z := ((x.view.toNat % 6 : Nat) : Int)) rfl rfl rfl (by decide) (zak (b := 6) rfl) rfl ?_
   refine gO ?_
   refine H.rem (z := ((x.k.toNat % 6 : Nat) : Int)) rfl rfl rfl (by decide) (zak (b := 6) rfl) rfl ?_
   repeat (first | (refine H.Bc (t := 45) (out := (bodW 1 ((x.view.toNat % 6 : Nat) : Int) (1 + ((x.k.toNat % 6 : Nat) : Int))).vals none 0) rfl rfl rfl (by kernel_rfl) rfl ?_) | ((first | (apply H.ar; (iterate 4 exact rfl)) | (apply H.Bg; (iterate 2 exact rfl))); (with_reducible apply wr_u64; omega); exact rfl))
   refine H.Ar (ls := (Bod.zero 0).vals none 0) rfl rfl rfl fun bb => ?_
   refine H.Ak (ls := (Bod.zero 0).vals none 0) (vs := (bodW 1 ((x.view.toNat % 6 : Nat) : Int) (1 + ((x.k.toNat % 6 : Nat) : Int))).vals none 0) (ls' := (bodW 1 ((x.view.toNat % 6 : Nat) : Int) (1 + ((x.k.toNat % 6 : Nat) : Int))).vals none 0) rfl rfl rfl (zad rfl) rfl rfl (Nat.le_refl 76) (.here _ _ _) ?_
   refine gN ?_
   refine H.Aa (x := row wb _ _) (by repeat constructor) ?_
   refine H.Aa (x := logsH _ _ _) (by repeat constructor) ?_
   refine H.Ad rfl rfl rfl (hgr _) ?_
   refine H.Aa (x := row xb _ _) (by repeat constructor) ?_
   refine H.Aa (x := row bb _ _) (by repeat constructor) ?_
   refine ga ?_
   refine H.Ah (ls := x.vals) rfl rfl rfl (Rd.ofRow (.there _ (.here _ _ _))) rfl rfl ?_
   refine H.Ad rfl rfl rfl (hask _) ?_
   refine gO ?_
   refine H.Ak (ls := (bodW 1 ((x.view.toNat % 6 : Nat) : Int) 0).vals none 0) (vs := rq.vals) (ls' := (⟨1, ((x.view.toNat % 6 : Nat) : Int), 0, rq, [], noTag⟩ : Bod).vals none 0) rfl rfl rfl (zad rfl) rfl rfl (show 3 + 40 ≤ 76 by decide) (.here _ _ _) ?_
   refine ga ?_
   refine H.Ah (ls := (⟨1, (W.l.past o).g, 0, rq, [], noTag⟩ : Bod).vals none 0) rfl rfl rfl (Rd.ofRow (.here _ _ _)) rfl rfl ?_
   refine H.Ak (ls := (Bod.zero 0).vals none 0) (vs := (⟨1, (W.l.past o).g, 0, rq, [], noTag⟩ : Bod).vals none 0) (ls' := (⟨1, (W.l.past o).g, 0, rq, [], noTag⟩ : Bod).vals none 0) rfl rfl rfl (zad rfl) rfl rfl (Nat.le_refl 76) (by repeat constructor) ?_
   refine gc ?_
   refine H.Ab (x := row bb _ _) (by repeat constructor) ?_
   refine H.Ab (x := row xb _ _) (by repeat constructor) ?_
   refine H.Aa (x := row kb _ _) (by repeat constructor) ?_
   refine H.Aa (x := row wb _ _) (by repeat constructor) ?_
   refine H.Aa (x := logsH _ _ _) (by repeat constructor) ?_
   refine H.Aa (x := row ob _ _) (by repeat constructor) ?_
   exact H.Ba (ls := (⟨1, (W.l.past o).g, 0, rq, [], noTag⟩ : Bod).vals none 0) rfl rfl rfl (Rd.ofRow (.here _ _ _)) rfl (fun _ s => s.drop (.here _ _)) ⟨nil0, none, 0, rfl, QAt.nil _ _, Dj.nil _, (un_nil _).symm, rfl⟩
 ·have hk6 : ((x.kind.toNat : Nat) : Int).tmod 6 = 1 := zak (b := 6) h
  rw [h]
  rcases Bool.eq_false_or_eq_true x.raw with hraw | hraw
  ·have hr1 : (!x.raw) = false := by rw [hraw]; rfl
   have hb : x.bodK W n o 1 = (⟨2, ((x.view.toNat % 6 : Nat) : Int), (1 + ((x.k.toNat % 6 : Nat) : Int)), Req.zero, [], noTag⟩ : Bod) := by simp [A15.bodK, hraw, Bod.zero]
   rw [hb]
   refine Fn.enter Tryz.func94 rfl Tryz.ntmps94 rfl (L := [(0, _), (1, _), (2, _)]) ⟨rfl, rfl, rfl, trivial⟩ fun base => ?_
   refine gC ?_
   refine H.box (ls := x.vals) rfl rfl rfl rfl fun xb => ?_
   refine H.Ar (ls := (Bod.zero 0).vals none 0) rfl rfl rfl fun ob => ?_
   refine gY ?_
   refine H.rem rfl rfl rfl (by decide) hk6 rfl ?_
   refine gO ?_
   refine H.rem (z := ((x.view.toNat % 6 : Nat) : Int)) rfl rfl rfl (by decide) (zak (b := 6) rfl) rfl ?_
   refine gO ?_
   refine H.rem (z := ((x.k.toNat % 6 : Nat) : Int)) rfl rfl rfl (by decide) (zak (b := 6) rfl) rfl ?_
   repeat (first | (refine H.Bc (t := 45) (out := (bodW 2 ((x.view.toNat % 6 : Nat) : Int) (1 + ((x.k.toNat % 6 : Nat) : Int))).vals none 0) rfl rfl rfl (by kernel_rfl) rfl ?_) | ((first | (apply H.ar; (iterate 4 exact rfl)) | (apply H.Bg; (iterate 2 exact rfl))); (with_reducible apply wr_u64; omega); exact rfl))
   refine H.Ar (ls := (Bod.zero 0).vals none 0) rfl rfl rfl fun bb => ?_
   refine H.Ak (ls := (Bod.zero 0).vals none 0) (vs := (bodW 2 ((x.view.toNat % 6 : Nat) : Int) (1 + ((x.k.toNat % 6 : Nat) : Int))).vals none 0) (ls' := (bodW 2 ((x.view.toNat % 6 : Nat) : Int) (1 + ((x.k.toNat % 6 : Nat) : Int))).vals none 0) rfl rfl rfl (zad rfl) rfl rfl (Nat.le_refl 76) (.here _ _ _) ?_
   refine gN ?_
   refine H.Aa (x := row wb _ _) (by repeat constructor) ?_
   refine H.Aa (x := logsH _ _ _) (by repeat constructor) ?_
   refine H.Ad rfl rfl rfl (hgr _) ?_
   refine H.Aa (x := row xb _ _) (by repeat constructor) ?_
   refine H.Aa (x := row bb _ _) (by repeat constructor) ?_
   refine gT ?_
   refine H.Ah (ls := (⟨2, ((x.view.toNat % 6 : Nat) : Int), (1 + ((x.k.toNat % 6 : Nat) : Int)), Req.zero, [], noTag⟩ : Bod).vals none 0) rfl rfl rfl (Rd.ofRow (.here _ _ _)) rfl rfl ?_
   refine H.Ak (ls := (Bod.zero 0).vals none 0) (vs := (⟨2, ((x.view.toNat % 6 : Nat) : Int), (1 + ((x.k.toNat % 6 : Nat) : Int)), Req.zero, [], noTag⟩ : Bod).vals none 0) (ls' := (⟨2, ((x.view.toNat % 6 : Nat) : Int), (1 + ((x.k.toNat % 6 : Nat) : Int)), Req.zero, [], noTag⟩ : Bod).vals none 0) rfl rfl rfl (zad rfl) rfl rfl (Nat.le_refl 76) (by repeat constructor) ?_
   refine gc ?_
   refine H.Ab (x := row bb _ _) (by repeat constructor) ?_
   refine H.Ab (x := row xb _ _) (by repeat constructor) ?_
   refine H.Aa (x := row kb _ _) (by repeat constructor) ?_
   refine H.Aa (x := row wb _ _) (by repeat constructor) ?_
   refine H.Aa (x := logsH _ _ _) (by repeat constructor) ?_
   refine H.Aa (x := row ob _ _) (by repeat constructor) ?_
   exact H.Ba (ls := (⟨2, ((x.view.toNat % 6 : Nat) : Int), (1 + ((x.k.toNat % 6 : Nat) : Int)), Req.zero, [], noTag⟩ : Bod).vals none 0) rfl rfl rfl (Rd.ofRow (.here _ _ _)) rfl (fun _ s => s.drop (.here _ _)) ⟨nil0, none, 0, rfl, QAt.nil _ _, Dj.nil _, (un_nil _).symm, rfl⟩
  ·have hr1 : (!x.raw) = true := by rw [hraw]; rfl
   have hb : x.bodK W n o 1 = (⟨2, (W.l.past o).g, votedZ (W.l.past o) (W.l.past o).g + 1, Req.zero, [], noTag⟩ : Bod) := by simp [A15.bodK, hraw, Bod.zero]
   rw [hb]
   have hvz := votedZ_le hwf (by omega) (W.l.past o).g
   have hvt : ∀ (b : Nat) G, Fn Tryz.prog 117 [.pointer (some ⟨b, 0, none⟩), .int .u64 (W.l.past o).g] f (pstH b (W.l.past o) :: G) (Ret (.tuple #[.int .i64 (votedZ (W.l.past o) (W.l.past o).g), .bool (PM.voted (W.l.past o).all (W.l.past o).g).isSome]) f (pstH b (W.l.past o) :: G)) := fun b G => pst_voted f G b (W.l.past o) (by have := hW.l.il o hol; omega) _
   generalize votedZ (W.l.past o) (W.l.past o).g = vz at hvt hvz ⊢
   refine Fn.enter Tryz.func94 rfl Tryz.ntmps94 rfl (L := [(0, _), (1, _), (2, _)]) ⟨rfl, rfl, rfl, trivial⟩ fun base => ?_
   refine gC ?_
   refine H.box (ls := x.vals) rfl rfl rfl rfl fun xb => ?_
   refine H.Ar (ls := (Bod.zero 0).vals none 0) rfl rfl rfl fun ob => ?_
   refine gY ?_
   refine H.rem rfl rfl rfl (by decide) hk6 rfl ?_
   refine gO ?_
   refine H.rem (z := ((x.view.toNat % 6 : Nat) : Int)) rfl rfl rfl (by decide) (zak (b := 6) rfl) rfl ?_
   refine gO ?_
   refine H.rem (z := ((x.k.toNat % 6 : Nat) : Int)) rfl rfl rfl (by decide) (zak (b := 6) rfl) rfl ?_
   repeat (first | (refine H.Bc (t := 45) (out := (bodW 2 ((x.view.toNat % 6 : Nat) : Int) (1 + ((x.k.toNat % 6 : Nat) : Int))).vals none 0) rfl rfl rfl (by kernel_rfl) rfl ?_) | ((first | (apply H.ar; (iterate 4 exact rfl)) | (apply H.Bg; (iterate 2 exact rfl))); (with_reducible apply wr_u64; omega); exact rfl))
   refine H.Ar (ls := (Bod.zero 0).vals none 0) rfl rfl rfl fun bb => ?_
   refine H.Ak (ls := (Bod.zero 0).vals none 0) (vs := (bodW 2 ((x.view.toNat % 6 : Nat) : Int) (1 + ((x.k.toNat % 6 : Nat) : Int))).vals none 0) (ls' := (bodW 2 ((x.view.toNat % 6 : Nat) : Int) (1 + ((x.k.toNat % 6 : Nat) : Int))).vals none 0) rfl rfl rfl (zad rfl) rfl rfl (Nat.le_refl 76) (.here _ _ _) ?_
   refine gN ?_
   refine H.Aa (x := row wb _ _) (by repeat constructor) ?_
   refine H.Aa (x := logsH _ _ _) (by repeat constructor) ?_
   refine H.Ad rfl rfl rfl (hgr _) ?_
   refine H.Aa (x := row xb _ _) (by repeat constructor) ?_
   refine H.Aa (x := row bb _ _) (by repeat constructor) ?_
   refine ga ?_
   refine H.Aa (x := logsH _ _ _) (by repeat constructor) ?_
   refine H.unpack fun i1 hi1 => ?_
   obtain ⟨V, vp, vc, pp, pc, cp, cc, pb, cs⟩ := i1
   have hiF := hi1.mono hfl
   show H _ _ _ _ _ (row lb 200 (lgC W.l.n W.l.known vp V.length vc pp pc cp cc) :: slc vp V.length vc 195 4 (V.flatMap VV.vals) :: lst (V.map VV.own) :: fam (fun r => pstH (pb r) (W.l.past r)) W.l.n :: slc cp W.l.n cc 232 1 (chRow W.l cs) :: fam (chFam W.l cs) W.l.n :: _) _
   obtain ⟨pbb, poff, hpp0, rdp0⟩ := hiF.past (by show 0 < W.l.n; omega)
   have hpp : pp = some ⟨pbb, poff, none⟩ := hpp0
   have rdp : ∀ {A : List HP} {r : Nat}, r < W.l.n → Rd1 f A pbb (poff + r) (.pointer (some ⟨pb r, 0, none⟩)) := fun {A r} hr => rdp0 (Le.refl f) hr
   clear hpp0 rdp0
   refine H.Aa (x := row lb _ _) (by repeat constructor) ?_
   refine gY ?_
   refine H.Av (b := pbb) (off := poff) (i := o) rfl (by rw [← hpp]; rfl) rfl (by omega) hol rfl ?_
   refine H.Ag rfl rfl rfl (by rw [Nat.mul_one]; exact rdp hol) rfl ?_
   refine gN ?_
   refine H.Aa (x := fam (fun r => pstH _ _) _) (by repeat constructor) ?_
   refine H.Cj hol ?_
   refine H.Ad rfl rfl rfl (hvt _ _) ?_
   refine H.Cl (g := fun r => pstH (pb r) (W.l.past r)) hol ?_
   refine H.Aa (x := fam (chFam W.l cs) _) (by repeat constructor) ?_
   refine H.Aa (x := slc cp _ cc _ _ _) (by repeat constructor) ?_
   refine H.Aa (x := fam (fun r => pstH _ _) _) (by repeat constructor) ?_
   refine H.Aa (x := lst (V.map VV.own)) (by repeat constructor) ?_
   refine H.Aa (x := slc vp _ vc _ _ _) (by repeat constructor) ?_
   refine H.Aa (x := row lb _ _) (by repeat constructor) ?_
   refine H.imp (zai ⟨V, vp, vc, pp, pc, cp, cc, pb, cs⟩ hi1) ?_
   refine H.Aa (x := row xb _ _) (by repeat constructor) ?_
   refine H.Aa (x := row bb _ _) (by repeat constructor) ?_
   refine ga ?_
   refine H.Ah (ls := (⟨2, (W.l.past o).g, vz + 1, Req.zero, [], noTag⟩ : Bod).vals none 0) rfl rfl rfl (Rd.ofRow (.here _ _ _)) rfl rfl ?_
   refine H.Ak (ls := (Bod.zero 0).vals none 0) (vs := (⟨2, (W.l.past o).g, vz + 1, Req.zero, [], noTag⟩ : Bod).vals none 0) (ls' := (⟨2, (W.l.past o).g, vz + 1, Req.zero, [], noTag⟩ : Bod).vals none 0) rfl rfl rfl (zad rfl) rfl rfl (Nat.le_refl 76) (by repeat constructor) ?_
   refine gc ?_
   refine H.Ab (x := row bb _ _) (by repeat constructor) ?_
   refine H.Ab (x := row xb _ _) (by repeat constructor) ?_
   refine H.Aa (x := row kb _ _) (by repeat constructor) ?_
   refine H.Aa (x := row wb _ _) (by repeat constructor) ?_
   refine H.Aa (x := logsH _ _ _) (by repeat constructor) ?_
   refine H.Aa (x := row ob _ _) (by repeat constructor) ?_
   exact H.Ba (ls := (⟨2, (W.l.past o).g, vz + 1, Req.zero, [], noTag⟩ : Bod).vals none 0) rfl rfl rfl (Rd.ofRow (.here _ _ _)) rfl (fun _ s => s.drop (.here _ _)) ⟨nil0, none, 0, rfl, QAt.nil _ _, Dj.nil _, (un_nil _).symm, rfl⟩
 ·have hk6 : ((x.kind.toNat : Nat) : Int).tmod 6 = 2 := zak (b := 6) h
  rw [h]
  rcases Bool.eq_false_or_eq_true x.raw with hraw | hraw
  ·have hr1 : (!x.raw) = false := by rw [hraw]; rfl
   have hb : x.bodK W n o 2 = (⟨3, fix1 (((x.view.toNat % 6 : Nat) : Int)), 0, Req.zero, [], noTag⟩ : Bod) := by simp [A15.bodK, hraw, Bod.zero]
   rw [hb]
   refine Fn.enter Tryz.func94 rfl Tryz.ntmps94 rfl (L := [(0, _), (1, _), (2, _)]) ⟨rfl, rfl, rfl, trivial⟩ fun base => ?_
   refine gC ?_
   refine H.box (ls := x.vals) rfl rfl rfl rfl fun xb => ?_
   refine H.Ar (ls := (Bod.zero 0).vals none 0) rfl rfl rfl fun ob => ?_
   refine gY ?_
   refine H.rem rfl rfl rfl (by decide) hk6 rfl ?_
   refine gO ?_
   refine H.rem (z := ((x.view.toNat % 6 : Nat) : Int)) rfl rfl rfl (by decide) (zak (b := 6) rfl) rfl ?_
   refine gO ?_
   refine H.rem (z := ((x.k.toNat % 6 : Nat) : Int)) rfl rfl rfl (by decide) (zak (b := 6) rfl) rfl ?_
   repeat (first | (refine H.Bc (t := 45) (out := (bodW 3 ((x.view.toNat % 6 : Nat) : Int) (1 + ((x.k.toNat % 6 : Nat) : Int))).vals none 0) rfl rfl rfl (by kernel_rfl) rfl ?_) | ((first | (apply H.ar; (iterate 4 exact rfl)) | (apply H.Bg; (iterate 2 exact rfl))); (with_reducible apply wr_u64; omega); exact rfl))
   refine H.Ar (ls := (Bod.zero 0).vals none 0) rfl rfl rfl fun bb => ?_
   refine H.Ak (ls := (Bod.zero 0).vals none 0) (vs := (bodW 3 ((x.view.toNat % 6 : Nat) : Int) (1 + ((x.k.toNat % 6 : Nat) : Int))).vals none 0) (ls' := (bodW 3 ((x.view.toNat % 6 : Nat) : Int) (1 + ((x.k.toNat % 6 : Nat) : Int))).vals none 0) rfl rfl rfl (zad rfl) rfl rfl (Nat.le_refl 76) (.here _ _ _) ?_
   refine gN ?_
   refine H.Aa (x := row wb _ _) (by repeat constructor) ?_
   refine H.Aa (x := logsH _ _ _) (by repeat constructor) ?_
   refine H.Ad rfl rfl rfl (hgr _) ?_
   refine H.Aa (x := row xb _ _) (by repeat constructor) ?_
   refine H.Aa (x := row bb _ _) (by repeat constructor) ?_
   by_cases hz : ((x.view.toNat % 6 : Nat) : Int) = 0
   ·rw [show fix1 (((x.view.toNat % 6 : Nat) : Int)) = 1 from if_pos hz]
    refine gT ?_
    refine H.Ah (ls := (⟨3, 1, 0, Req.zero, [], noTag⟩ : Bod).vals none 0) rfl rfl rfl (Rd.ofRow (.here _ _ _)) rfl rfl ?_
    refine H.Ak (ls := (Bod.zero 0).vals none 0) (vs := (⟨3, 1, 0, Req.zero, [], noTag⟩ : Bod).vals none 0) (ls' := (⟨3, 1, 0, Req.zero, [], noTag⟩ : Bod).vals none 0) rfl rfl rfl (zad rfl) rfl rfl (Nat.le_refl 76) (by repeat constructor) ?_
    refine gc ?_
    refine H.Ab (x := row bb _ _) (by repeat constructor) ?_
    refine H.Ab (x := row xb _ _) (by repeat constructor) ?_
    refine H.Aa (x := row kb _ _) (by repeat constructor) ?_
    refine H.Aa (x := row wb _ _) (by repeat constructor) ?_
    refine H.Aa (x := logsH _ _ _) (by repeat constructor) ?_
    refine H.Aa (x := row ob _ _) (by repeat constructor) ?_
    exact H.Ba (ls := (⟨3, 1, 0, Req.zero, [], noTag⟩ : Bod).vals none 0) rfl rfl rfl (Rd.ofRow (.here _ _ _)) rfl (fun _ s => s.drop (.here _ _)) ⟨nil0, none, 0, rfl, QAt.nil _ _, Dj.nil _, (un_nil _).symm, rfl⟩
   ·rw [show fix1 (((x.view.toNat % 6 : Nat) : Int)) = ((x.view.toNat % 6 : Nat) : Int) from if_neg hz]
    refine gT ?_
    refine H.Ah (ls := (⟨3, ((x.view.toNat % 6 : Nat) : Int), 0, Req.zero, [], noTag⟩ : Bod).vals none 0) rfl rfl rfl (Rd.ofRow (.here _ _ _)) rfl rfl ?_
    refine H.Ak (ls := (Bod.zero 0).vals none 0) (vs := (⟨3, ((x.view.toNat % 6 : Nat) : Int), 0, Req.zero, [], noTag⟩ : Bod).vals none 0) (ls' := (⟨3, ((x.view.toNat % 6 : Nat) : Int), 0, Req.zero, [], noTag⟩ : Bod).vals none 0) rfl rfl rfl (zad rfl) rfl rfl (Nat.le_refl 76) (by repeat constructor) ?_
    refine gc ?_
    refine H.Ab (x := row bb _ _) (by repeat constructor) ?_
    refine H.Ab (x := row xb _ _) (by repeat constructor) ?_
    refine H.Aa (x := row kb _ _) (by repeat constructor) ?_
    refine H.Aa (x := row wb _ _) (by repeat constructor) ?_
    refine H.Aa (x := logsH _ _ _) (by repeat constructor) ?_
    refine H.Aa (x := row ob _ _) (by repeat constructor) ?_
    exact H.Ba (ls := (⟨3, ((x.view.toNat % 6 : Nat) : Int), 0, Req.zero, [], noTag⟩ : Bod).vals none 0) rfl rfl rfl (Rd.ofRow (.here _ _ _)) rfl (fun _ s => s.drop (.here _ _)) ⟨nil0, none, 0, rfl, QAt.nil _ _, Dj.nil _, (un_nil _).symm, rfl⟩
  ·have hr1 : (!x.raw) = true := by rw [hraw]; rfl
   have hb : x.bodK W n o 2 = (⟨3, fix1 ((W.l.past o).g + 1 + ((x.view.toNat % 2 : Nat) : Int)), 0, Req.zero, [], noTag⟩ : Bod) := by simp [A15.bodK, hraw, Bod.zero]
   rw [hb]
   rw [show fix1 ((W.l.past o).g + 1 + ((x.view.toNat % 2 : Nat) : Int)) = (W.l.past o).g + 1 + ((x.view.toNat % 2 : Nat) : Int) from if_neg (by omega)]
   refine Fn.enter Tryz.func94 rfl Tryz.ntmps94 rfl (L := [(0, _), (1, _), (2, _)]) ⟨rfl, rfl, rfl, trivial⟩ fun base => ?_
   refine gC ?_
   refine H.box (ls := x.vals) rfl rfl rfl rfl fun xb => ?_
   refine H.Ar (ls := (Bod.zero 0).vals none 0) rfl rfl rfl fun ob => ?_
   refine gY ?_
   refine H.rem rfl rfl rfl (by decide) hk6 rfl ?_
   refine gO ?_
   refine H.rem (z := ((x.view.toNat % 6 : Nat) : Int)) rfl rfl rfl (by decide) (zak (b := 6) rfl) rfl ?_
   refine gO ?_
   refine H.rem (z := ((x.k.toNat % 6 : Nat) : Int)) rfl rfl rfl (by decide) (zak (b := 6) rfl) rfl ?_
   repeat (first | (refine H.Bc (t := 45) (out := (bodW 3 ((x.view.toNat % 6 : Nat) : Int) (1 + ((x.k.toNat % 6 : Nat) : Int))).vals none 0) rfl rfl rfl (by kernel_rfl) rfl ?_) | ((first | (apply H.ar; (iterate 4 exact rfl)) | (apply H.Bg; (iterate 2 exact rfl))); (with_reducible apply wr_u64; omega); exact rfl))
   refine H.Ar (ls := (Bod.zero 0).vals none 0) rfl rfl rfl fun bb => ?_
   refine H.Ak (ls := (Bod.zero 0).vals none 0) (vs := (bodW 3 ((x.view.toNat % 6 : Nat) : Int) (1 + ((x.k.toNat % 6 : Nat) : Int))).vals none 0) (ls' := (bodW 3 ((x.view.toNat % 6 : Nat) : Int) (1 + ((x.k.toNat % 6 : Nat) : Int))).vals none 0) rfl rfl rfl (zad rfl) rfl rfl (Nat.le_refl 76) (.here _ _ _) ?_
   refine gN ?_
   refine H.Aa (x := row wb _ _) (by repeat constructor) ?_
   refine H.Aa (x := logsH _ _ _) (by repeat constructor) ?_
   refine H.Ad rfl rfl rfl (hgr _) ?_
   refine H.Aa (x := row xb _ _) (by repeat constructor) ?_
   refine H.Aa (x := row bb _ _) (by repeat constructor) ?_
   refine ga ?_
   refine H.rem (z := ((x.view.toNat % 2 : Nat) : Int)) rfl rfl rfl (by decide) (zak (b := 2) rfl) rfl ?_
   refine gV ?_
   refine H.Ah (ls := (⟨3, (W.l.past o).g + 1 + ((x.view.toNat % 2 : Nat) : Int), 0, Req.zero, [], noTag⟩ : Bod).vals none 0) rfl rfl rfl (Rd.ofRow (.here _ _ _)) rfl rfl ?_
   refine H.Ak (ls := (Bod.zero 0).vals none 0) (vs := (⟨3, (W.l.past o).g + 1 + ((x.view.toNat % 2 : Nat) : Int), 0, Req.zero, [], noTag⟩ : Bod).vals none 0) (ls' := (⟨3, (W.l.past o).g + 1 + ((x.view.toNat % 2 : Nat) : Int), 0, Req.zero, [], noTag⟩ : Bod).vals none 0) rfl rfl rfl (zad rfl) rfl rfl (Nat.le_refl 76) (by repeat constructor) ?_
   refine gc ?_
   refine H.Ab (x := row bb _ _) (by repeat constructor) ?_
   refine H.Ab (x := row xb _ _) (by repeat constructor) ?_
   refine H.Aa (x := row kb _ _) (by repeat constructor) ?_
   refine H.Aa (x := row wb _ _) (by repeat constructor) ?_
   refine H.Aa (x := logsH _ _ _) (by repeat constructor) ?_
   refine H.Aa (x := row ob _ _) (by repeat constructor) ?_
   exact H.Ba (ls := (⟨3, (W.l.past o).g + 1 + ((x.view.toNat % 2 : Nat) : Int), 0, Req.zero, [], noTag⟩ : Bod).vals none 0) rfl rfl rfl (Rd.ofRow (.here _ _ _)) rfl (fun _ s => s.drop (.here _ _)) ⟨nil0, none, 0, rfl, QAt.nil _ _, Dj.nil _, (un_nil _).symm, rfl⟩
 ·have hk6 : ((x.kind.toNat : Nat) : Int).tmod 6 = 3 := zak (b := 6) h
  rw [h]
  have hq15 := fun G => q15_fn f G hfl (wb := wb) (kb := kb) (lb := lb) (l := W.l) hW.l hT (ap := ap) (m := m) (ac := ac) hnn ho (kv := W.w.kv) hx hq20 (W.l.past o).g
  rcases Bool.eq_false_or_eq_true x.raw with hraw | hraw
  ·have hr1 : (!x.raw) = false := by rw [hraw]; rfl
   have hb : x.bodK W n o 3 = (⟨4, fix1 (((x.view.toNat % 6 : Nat) : Int)), 0, Req.zero, x.qs n W.l.ch (W.w.kv o) (W.l.past o).g, noTag⟩ : Bod) := by simp [A15.bodK, hraw, Bod.zero]
   rw [hb]
   generalize x.qs n W.l.ch (W.w.kv o) (W.l.past o).g = Q at hq15 ⊢
   refine Fn.enter Tryz.func94 rfl Tryz.ntmps94 rfl (L := [(0, _), (1, _), (2, _)]) ⟨rfl, rfl, rfl, trivial⟩ fun base => ?_
   refine gC ?_
   refine H.box (ls := x.vals) rfl rfl rfl rfl fun xb => ?_
   refine H.Ar (ls := (Bod.zero 0).vals none 0) rfl rfl rfl fun ob => ?_
   refine gY ?_
   refine H.rem rfl rfl rfl (by decide) hk6 rfl ?_
   refine gO ?_
   refine H.rem (z := ((x.view.toNat % 6 : Nat) : Int)) rfl rfl rfl (by decide) (zak (b := 6) rfl) rfl ?_
   refine gO ?_
   refine H.rem (z := ((x.k.toNat % 6 : Nat) : Int)) rfl rfl rfl (by decide) (zak (b := 6) rfl) rfl ?_
   repeat (first | (refine H.Bc (t := 45) (out := (bodW 4 ((x.view.toNat % 6 : Nat) : Int) (1 + ((x.k.toNat % 6 : Nat) : Int))).vals none 0) rfl rfl rfl (by kernel_rfl) rfl ?_) | ((first | (apply H.ar; (iterate 4 exact rfl)) | (apply H.Bg; (iterate 2 exact rfl))); (with_reducible apply wr_u64; omega); exact rfl))
   refine H.Ar (ls := (Bod.zero 0).vals none 0) rfl rfl rfl fun bb => ?_
   refine H.Ak (ls := (Bod.zero 0).vals none 0) (vs := (bodW 4 ((x.view.toNat % 6 : Nat) : Int) (1 + ((x.k.toNat % 6 : Nat) : Int))).vals none 0) (ls' := (bodW 4 ((x.view.toNat % 6 : Nat) : Int) (1 + ((x.k.toNat % 6 : Nat) : Int))).vals none 0) rfl rfl rfl (zad rfl) rfl rfl (Nat.le_refl 76) (.here _ _ _) ?_
   refine gN ?_
   refine H.Aa (x := row wb _ _) (by repeat constructor) ?_
   refine H.Aa (x := logsH _ _ _) (by repeat constructor) ?_
   refine H.Ad rfl rfl rfl (hgr _) ?_
   refine H.Aa (x := row xb _ _) (by repeat constructor) ?_
   refine H.Aa (x := row bb _ _) (by repeat constructor) ?_
   refine ga ?_
   refine H.Ah (ls := x.vals) rfl rfl rfl (Rd.ofRow (.there _ (.here _ _ _))) rfl rfl ?_
   refine gN ?_
   refine H.Aa (x := row kb _ _) (by repeat constructor) ?_
   refine H.Aa (x := row wb _ _) (by repeat constructor) ?_
   refine H.Aa (x := logsH _ _ _) (by repeat constructor) ?_
   refine H.callE rfl rfl rfl (hq15 _) fun qi => ?_
   obtain ⟨qp, qc⟩ := qi
   refine H.freeze (.here _ _) fun g hg hd => ?_
   have hqa : QAt (un f g) qp Q := ListAt.mono (vals := pairV) (Le.right hd) (slc_listAt (vals := pairV) (fun _ => rfl) hg)
   refine H.Aa (x := row xb _ _) (by repeat constructor) ?_
   refine H.Aa (x := row bb _ _) (by repeat constructor) ?_
   by_cases hz : ((x.view.toNat % 6 : Nat) : Int) = 0
   ·rw [show fix1 (((x.view.toNat % 6 : Nat) : Int)) = 1 from if_pos hz]
    refine gT ?_
    refine H.Ah (ls := (⟨4, 1, 0, Req.zero, Q, noTag⟩ : Bod).vals qp qc) rfl rfl rfl (Rd.ofRow (.here _ _ _)) rfl rfl ?_
    refine H.Ak (ls := (Bod.zero 0).vals none 0) (vs := (⟨4, 1, 0, Req.zero, Q, noTag⟩ : Bod).vals qp qc) (ls' := (⟨4, 1, 0, Req.zero, Q, noTag⟩ : Bod).vals qp qc) rfl rfl rfl (zad rfl) rfl rfl (Nat.le_refl 76) (by repeat constructor) ?_
    refine gc ?_
    refine H.Ab (x := row bb _ _) (by repeat constructor) ?_
    refine H.Ab (x := row xb _ _) (by repeat constructor) ?_
    refine H.Aa (x := row kb _ _) (by repeat constructor) ?_
    refine H.Aa (x := row wb _ _) (by repeat constructor) ?_
    refine H.Aa (x := logsH _ _ _) (by repeat constructor) ?_
    refine H.Aa (x := row ob _ _) (by repeat constructor) ?_
    exact H.Ba (ls := (⟨4, 1, 0, Req.zero, Q, noTag⟩ : Bod).vals qp qc) rfl rfl rfl (Rd.ofRow (.here _ _ _)) rfl (fun _ s => s.drop (.here _ _)) ⟨g, qp, qc, rfl, hqa, hd, rfl, rfl⟩
   ·rw [show fix1 (((x.view.toNat % 6 : Nat) : Int)) = ((x.view.toNat % 6 : Nat) : Int) from if_neg hz]
    refine gT ?_
    refine H.Ah (ls := (⟨4, ((x.view.toNat % 6 : Nat) : Int), 0, Req.zero, Q, noTag⟩ : Bod).vals qp qc) rfl rfl rfl (Rd.ofRow (.here _ _ _)) rfl rfl ?_
    refine H.Ak (ls := (Bod.zero 0).vals none 0) (vs := (⟨4, ((x.view.toNat % 6 : Nat) : Int), 0, Req.zero, Q, noTag⟩ : Bod).vals qp qc) (ls' := (⟨4, ((x.view.toNat % 6 : Nat) : Int), 0, Req.zero, Q, noTag⟩ : Bod).vals qp qc) rfl rfl rfl (zad rfl) rfl rfl (Nat.le_refl 76) (by repeat constructor) ?_
    refine gc ?_
    refine H.Ab (x := row bb _ _) (by repeat constructor) ?_
    refine H.Ab (x := row xb _ _) (by repeat constructor) ?_
    refine H.Aa (x := row kb _ _) (by repeat constructor) ?_
    refine H.Aa (x := row wb _ _) (by repeat constructor) ?_
    refine H.Aa (x := logsH _ _ _) (by repeat constructor) ?_
    refine H.Aa (x := row ob _ _) (by repeat constructor) ?_
    exact H.Ba (ls := (⟨4, ((x.view.toNat % 6 : Nat) : Int), 0, Req.zero, Q, noTag⟩ : Bod).vals qp qc) rfl rfl rfl (Rd.ofRow (.here _ _ _)) rfl (fun _ s => s.drop (.here _ _)) ⟨g, qp, qc, rfl, hqa, hd, rfl, rfl⟩
  ·have hr1 : (!x.raw) = true := by rw [hraw]; rfl
   have hb : x.bodK W n o 3 = (⟨4, fix1 ((W.l.past o).g), 0, Req.zero, x.qs n W.l.ch (W.w.kv o) (W.l.past o).g, noTag⟩ : Bod) := by simp [A15.bodK, hraw, Bod.zero]
   rw [hb]
   generalize x.qs n W.l.ch (W.w.kv o) (W.l.past o).g = Q at hq15 ⊢
   refine Fn.enter Tryz.func94 rfl Tryz.ntmps94 rfl (L := [(0, _), (1, _), (2, _)]) ⟨rfl, rfl, rfl, trivial⟩ fun base => ?_
   refine gC ?_
   refine H.box (ls := x.vals) rfl rfl rfl rfl fun xb => ?_
   refine H.Ar (ls := (Bod.zero 0).vals none 0) rfl rfl rfl fun ob => ?_
   refine gY ?_
   refine H.rem rfl rfl rfl (by decide) hk6 rfl ?_
   refine gO ?_
   refine H.rem (z := ((x.view.toNat % 6 : Nat) : Int)) rfl rfl rfl (by decide) (zak (b := 6) rfl) rfl ?_
   refine gO ?_
   refine H.rem (z := ((x.k.toNat % 6 : Nat) : Int)) rfl rfl rfl (by decide) (zak (b := 6) rfl) rfl ?_
   repeat (first | (refine H.Bc (t := 45) (out := (bodW 4 ((x.view.toNat % 6 : Nat) : Int) (1 + ((x.k.toNat % 6 : Nat) : Int))).vals none 0) rfl rfl rfl (by kernel_rfl) rfl ?_) | ((first | (apply H.ar; (iterate 4 exact rfl)) | (apply H.Bg; (iterate 2 exact rfl))); (with_reducible apply wr_u64; omega); exact rfl))
   refine H.Ar (ls := (Bod.zero 0).vals none 0) rfl rfl rfl fun bb => ?_
   refine H.Ak (ls := (Bod.zero 0).vals none 0) (vs := (bodW 4 ((x.view.toNat % 6 : Nat) : Int) (1 + ((x.k.toNat % 6 : Nat) : Int))).vals none 0) (ls' := (bodW 4 ((x.view.toNat % 6 : Nat) : Int) (1 + ((x.k.toNat % 6 : Nat) : Int))).vals none 0) rfl rfl rfl (zad rfl) rfl rfl (Nat.le_refl 76) (.here _ _ _) ?_
   refine gN ?_
   refine H.Aa (x := row wb _ _) (by repeat constructor) ?_
   refine H.Aa (x := logsH _ _ _) (by repeat constructor) ?_
   refine H.Ad rfl rfl rfl (hgr _) ?_
   refine H.Aa (x := row xb _ _) (by repeat constructor) ?_
   refine H.Aa (x := row bb _ _) (by repeat constructor) ?_
   refine ga ?_
   refine H.Ah (ls := x.vals) rfl rfl rfl (Rd.ofRow (.there _ (.here _ _ _))) rfl rfl ?_
   refine gN ?_
   refine H.Aa (x := row kb _ _) (by repeat constructor) ?_
   refine H.Aa (x := row wb _ _) (by repeat constructor) ?_
   refine H.Aa (x := logsH _ _ _) (by repeat constructor) ?_
   refine H.callE rfl rfl rfl (hq15 _) fun qi => ?_
   obtain ⟨qp, qc⟩ := qi
   refine H.freeze (.here _ _) fun g hg hd => ?_
   have hqa : QAt (un f g) qp Q := ListAt.mono (vals := pairV) (Le.right hd) (slc_listAt (vals := pairV) (fun _ => rfl) hg)
   refine H.Aa (x := row xb _ _) (by repeat constructor) ?_
   refine H.Aa (x := row bb _ _) (by repeat constructor) ?_
   by_cases hz : (W.l.past o).g = 0
   ·rw [show fix1 ((W.l.past o).g) = 1 from if_pos hz]
    refine gT ?_
    refine H.Ah (ls := (⟨4, 1, 0, Req.zero, Q, noTag⟩ : Bod).vals qp qc) rfl rfl rfl (Rd.ofRow (.here _ _ _)) rfl rfl ?_
    refine H.Ak (ls := (Bod.zero 0).vals none 0) (vs := (⟨4, 1, 0, Req.zero, Q, noTag⟩ : Bod).vals qp qc) (ls' := (⟨4, 1, 0, Req.zero, Q, noTag⟩ : Bod).vals qp qc) rfl rfl rfl (zad rfl) rfl rfl (Nat.le_refl 76) (by repeat constructor) ?_
    refine gc ?_
    refine H.Ab (x := row bb _ _) (by repeat constructor) ?_
    refine H.Ab (x := row xb _ _) (by repeat constructor) ?_
    refine H.Aa (x := row kb _ _) (by repeat constructor) ?_
    refine H.Aa (x := row wb _ _) (by repeat constructor) ?_
    refine H.Aa (x := logsH _ _ _) (by repeat constructor) ?_
    refine H.Aa (x := row ob _ _) (by repeat constructor) ?_
    exact H.Ba (ls := (⟨4, 1, 0, Req.zero, Q, noTag⟩ : Bod).vals qp qc) rfl rfl rfl (Rd.ofRow (.here _ _ _)) rfl (fun _ s => s.drop (.here _ _)) ⟨g, qp, qc, rfl, hqa, hd, rfl, rfl⟩
   ·rw [show fix1 ((W.l.past o).g) = (W.l.past o).g from if_neg hz]
    refine gT ?_
    refine H.Ah (ls := (⟨4, (W.l.past o).g, 0, Req.zero, Q, noTag⟩ : Bod).vals qp qc) rfl rfl rfl (Rd.ofRow (.here _ _ _)) rfl rfl ?_
    refine H.Ak (ls := (Bod.zero 0).vals none 0) (vs := (⟨4, (W.l.past o).g, 0, Req.zero, Q, noTag⟩ : Bod).vals qp qc) (ls' := (⟨4, (W.l.past o).g, 0, Req.zero, Q, noTag⟩ : Bod).vals qp qc) rfl rfl rfl (zad rfl) rfl rfl (Nat.le_refl 76) (by repeat constructor) ?_
    refine gc ?_
    refine H.Ab (x := row bb _ _) (by repeat constructor) ?_
    refine H.Ab (x := row xb _ _) (by repeat constructor) ?_
    refine H.Aa (x := row kb _ _) (by repeat constructor) ?_
    refine H.Aa (x := row wb _ _) (by repeat constructor) ?_
    refine H.Aa (x := logsH _ _ _) (by repeat constructor) ?_
    refine H.Aa (x := row ob _ _) (by repeat constructor) ?_
    exact H.Ba (ls := (⟨4, (W.l.past o).g, 0, Req.zero, Q, noTag⟩ : Bod).vals qp qc) rfl rfl rfl (Rd.ofRow (.here _ _ _)) rfl (fun _ s => s.drop (.here _ _)) ⟨g, qp, qc, rfl, hqa, hd, rfl, rfl⟩
 ·have hk6 : ((x.kind.toNat : Nat) : Int).tmod 6 = 4 := zak (b := 6) h
  rw [h]
  rcases Bool.eq_false_or_eq_true x.raw with hraw | hraw
  ·have hr1 : (!x.raw) = false := by rw [hraw]; rfl
   have hb : x.bodK W n o 4 = (⟨5, fix1 (((x.view.toNat % 6 : Nat) : Int)), 0, Req.zero, [], noTag⟩ : Bod) := by simp [A15.bodK, hraw, Bod.zero]
   rw [hb]
   refine Fn.enter Tryz.func94 rfl Tryz.ntmps94 rfl (L := [(0, _), (1, _), (2, _)]) ⟨rfl, rfl, rfl, trivial⟩ fun base => ?_
   refine gC ?_
   refine H.box (ls := x.vals) rfl rfl rfl rfl fun xb => ?_
   refine H.Ar (ls := (Bod.zero 0).vals none 0) rfl rfl rfl fun ob => ?_
   refine gY ?_
   refine H.rem rfl rfl rfl (by decide) hk6 rfl ?_
   refine gO ?_
   refine H.rem (z := ((x.view.toNat % 6 : Nat) : Int)) rfl rfl rfl (by decide) (zak (b := 6) rfl) rfl ?_
   refine gO ?_
   refine H.rem (z := ((x.k.toNat % 6 : Nat) : Int)) rfl rfl rfl (by decide) (zak (b := 6) rfl) rfl ?_
   repeat (first | (refine H.Bc (t := 45) (out := (bodW 5 ((x.view.toNat % 6 : Nat) : Int) (1 + ((x.k.toNat % 6 : Nat) : Int))).vals none 0) rfl rfl rfl (by kernel_rfl) rfl ?_) | ((first | (apply H.ar; (iterate 4 exact rfl)) | (apply H.Bg; (iterate 2 exact rfl))); (with_reducible apply wr_u64; omega); exact rfl))
   refine H.Ar (ls := (Bod.zero 0).vals none 0) rfl rfl rfl fun bb => ?_
   refine H.Ak (ls := (Bod.zero 0).vals none 0) (vs := (bodW 5 ((x.view.toNat % 6 : Nat) : Int) (1 + ((x.k.toNat % 6 : Nat) : Int))).vals none 0) (ls' := (bodW 5 ((x.view.toNat % 6 : Nat) : Int) (1 + ((x.k.toNat % 6 : Nat) : Int))).vals none 0) rfl rfl rfl (zad rfl) rfl rfl (Nat.le_refl 76) (.here _ _ _) ?_
   refine gN ?_
   refine H.Aa (x := row wb _ _) (by repeat constructor) ?_
   refine H.Aa (x := logsH _ _ _) (by repeat constructor) ?_
   refine H.Ad rfl rfl rfl (hgr _) ?_
   refine H.Aa (x := row xb _ _) (by repeat constructor) ?_
   refine H.Aa (x := row bb _ _) (by repeat constructor) ?_
   by_cases hz : ((x.view.toNat % 6 : Nat) : Int) = 0
   ·rw [show fix1 (((x.view.toNat % 6 : Nat) : Int)) = 1 from if_pos hz]
    refine gT ?_
    refine H.Ah (ls := (⟨5, 1, 0, Req.zero, [], noTag⟩ : Bod).vals none 0) rfl rfl rfl (Rd.ofRow (.here _ _ _)) rfl rfl ?_
    refine H.Ak (ls := (Bod.zero 0).vals none 0) (vs := (⟨5, 1, 0, Req.zero, [], noTag⟩ : Bod).vals none 0) (ls' := (⟨5, 1, 0, Req.zero, [], noTag⟩ : Bod).vals none 0) rfl rfl rfl (zad rfl) rfl rfl (Nat.le_refl 76) (by repeat constructor) ?_
    refine gc ?_
    refine H.Ab (x := row bb _ _) (by repeat constructor) ?_
    refine H.Ab (x := row xb _ _) (by repeat constructor) ?_
    refine H.Aa (x := row kb _ _) (by repeat constructor) ?_
    refine H.Aa (x := row wb _ _) (by repeat constructor) ?_
    refine H.Aa (x := logsH _ _ _) (by repeat constructor) ?_
    refine H.Aa (x := row ob _ _) (by repeat constructor) ?_
    exact H.Ba (ls := (⟨5, 1, 0, Req.zero, [], noTag⟩ : Bod).vals none 0) rfl rfl rfl (Rd.ofRow (.here _ _ _)) rfl (fun _ s => s.drop (.here _ _)) ⟨nil0, none, 0, rfl, QAt.nil _ _, Dj.nil _, (un_nil _).symm, rfl⟩
   ·rw [show fix1 (((x.view.toNat % 6 : Nat) : Int)) = ((x.view.toNat % 6 : Nat) : Int) from if_neg hz]
    refine gT ?_
    refine H.Ah (ls := (⟨5, ((x.view.toNat % 6 : Nat) : Int), 0, Req.zero, [], noTag⟩ : Bod).vals none 0) rfl rfl rfl (Rd.ofRow (.here _ _ _)) rfl rfl ?_
    refine H.Ak (ls := (Bod.zero 0).vals none 0) (vs := (⟨5, ((x.view.toNat % 6 : Nat) : Int), 0, Req.zero, [], noTag⟩ : Bod).vals none 0) (ls' := (⟨5, ((x.view.toNat % 6 : Nat) : Int), 0, Req.zero, [], noTag⟩ : Bod).vals none 0) rfl rfl rfl (zad rfl) rfl rfl (Nat.le_refl 76) (by repeat constructor) ?_
    refine gc ?_
    refine H.Ab (x := row bb _ _) (by repeat constructor) ?_
    refine H.Ab (x := row xb _ _) (by repeat constructor) ?_
    refine H.Aa (x := row kb _ _) (by repeat constructor) ?_
    refine H.Aa (x := row wb _ _) (by repeat constructor) ?_
    refine H.Aa (x := logsH _ _ _) (by repeat constructor) ?_
    refine H.Aa (x := row ob _ _) (by repeat constructor) ?_
    exact H.Ba (ls := (⟨5, ((x.view.toNat % 6 : Nat) : Int), 0, Req.zero, [], noTag⟩ : Bod).vals none 0) rfl rfl rfl (Rd.ofRow (.here _ _ _)) rfl (fun _ s => s.drop (.here _ _)) ⟨nil0, none, 0, rfl, QAt.nil _ _, Dj.nil _, (un_nil _).symm, rfl⟩
  ·have hr1 : (!x.raw) = true := by rw [hraw]; rfl
   have hb : x.bodK W n o 4 = (⟨5, fix1 (lastV W.l.vs), 0, Req.zero, [], noTag⟩ : Bod) := by simp [A15.bodK, hraw, Bod.zero]
   rw [hb]
   refine Fn.enter Tryz.func94 rfl Tryz.ntmps94 rfl (L := [(0, _), (1, _), (2, _)]) ⟨rfl, rfl, rfl, trivial⟩ fun base => ?_
   refine gC ?_
   refine H.box (ls := x.vals) rfl rfl rfl rfl fun xb => ?_
   refine H.Ar (ls := (Bod.zero 0).vals none 0) rfl rfl rfl fun ob => ?_
   refine gY ?_
   refine H.rem rfl rfl rfl (by decide) hk6 rfl ?_
   refine gO ?_
   refine H.rem (z := ((x.view.toNat % 6 : Nat) : Int)) rfl rfl rfl (by decide) (zak (b := 6) rfl) rfl ?_
   refine gO ?_
   refine H.rem (z := ((x.k.toNat % 6 : Nat) : Int)) rfl rfl rfl (by decide) (zak (b := 6) rfl) rfl ?_
   repeat (first | (refine H.Bc (t := 45) (out := (bodW 5 ((x.view.toNat % 6 : Nat) : Int) (1 + ((x.k.toNat % 6 : Nat) : Int))).vals none 0) rfl rfl rfl (by kernel_rfl) rfl ?_) | ((first | (apply H.ar; (iterate 4 exact rfl)) | (apply H.Bg; (iterate 2 exact rfl))); (with_reducible apply wr_u64; omega); exact rfl))
   refine H.Ar (ls := (Bod.zero 0).vals none 0) rfl rfl rfl fun bb => ?_
   refine H.Ak (ls := (Bod.zero 0).vals none 0) (vs := (bodW 5 ((x.view.toNat % 6 : Nat) : Int) (1 + ((x.k.toNat % 6 : Nat) : Int))).vals none 0) (ls' := (bodW 5 ((x.view.toNat % 6 : Nat) : Int) (1 + ((x.k.toNat % 6 : Nat) : Int))).vals none 0) rfl rfl rfl (zad rfl) rfl rfl (Nat.le_refl 76) (.here _ _ _) ?_
   refine gN ?_
   refine H.Aa (x := row wb _ _) (by repeat constructor) ?_
   refine H.Aa (x := logsH _ _ _) (by repeat constructor) ?_
   refine H.Ad rfl rfl rfl (hgr _) ?_
   refine H.Aa (x := row xb _ _) (by repeat constructor) ?_
   refine H.Aa (x := row bb _ _) (by repeat constructor) ?_
   refine H.Aa (x := logsH _ _ _) (by repeat constructor) ?_
   refine H.unpack fun i1 hi1 => ?_
   obtain ⟨V, vp, vc, pp, pc, cp, cc, pb, cs⟩ := i1
   have hiF := hi1.mono hfl
   show H _ _ _ _ _ (row lb 200 (lgC W.l.n W.l.known vp V.length vc pp pc cp cc) :: slc vp V.length vc 195 4 (V.flatMap VV.vals) :: lst (V.map VV.own) :: fam (fun r => pstH (pb r) (W.l.past r)) W.l.n :: slc cp W.l.n cc 232 1 (chRow W.l cs) :: fam (chFam W.l cs) W.l.n :: _) _
   have hvs : V.map VV.w = W.l.vs := hi1.vs
   have hVl : V.length = W.l.vs.length := hi1.len
   have hvl := hW.l.vl
   have hV0 : 0 < V.length := by
    obtain ⟨w0, hw0, _⟩ := hW.l.zero
    rw [hVl]
    exact List.length_pos_of_mem hw0
   obtain ⟨X, hX⟩ : ∃ X, V[V.length - 1]? = some X := ⟨_, List.getElem?_eq_getElem (by omega)⟩
   have hXv : lastV W.l.vs = X.w.v := by
    unfold lastV
    rw [← hVl, ← hvs, List.getElem?_map, hX]
    rfl
   rw [hXv]
   refine H.Bp (p := vp) (n0 := V.length) (c := vc) (T := 195) (sz := 4) (xs := V.flatMap VV.vals) (by repeat constructor) (by omega) fun vb hvb => ?_
   refine H.Aa (x := row xb _ _) (by repeat constructor) ?_
   refine H.Aa (x := row bb _ _) (by repeat constructor) ?_
   refine ga ?_
   refine H.Aa (x := slc vp _ vc _ _ _) (by repeat constructor) ?_
   refine H.Aa (x := row lb _ _) (by repeat constructor) ?_
   refine H.Aa (x := row wb _ _) (by repeat constructor) ?_
   refine H.Bv [0, 1, 2, 3, 4, 5, 6, 7, 8, 9, 10, 11, 12, 13, 14, 15, 16, 17, 18] (by kernel_rfl) (by decide +kernel) (by repeat (first | exact zab | refine zaa ?_ | refine zac ?_ | refine zae ?_)) (S := [_, _, _]) rfl ?_
   refine HB.Af [(0, false), (1, false), (2, false), (3, false), (4, false), (5, false), (6, false), (7, false), (8, false), (9, false), (10, false), (11, false), (12, false), (13, false), (14, false), (15, false), (16, false), (17, false), (18, false)] 2 (by kernel_rfl) ?_
   refine gU ?_
   refine HQ.Av (b := vb) (off := 0) (i := V.length - 1) rfl (by rw [← hvb]; rfl) rfl (show ((V.length : Int) - 1) = ((V.length - 1 : Nat) : Int) by omega) (show V.length - 1 < V.length by omega) rfl ?_
   refine ge ?_
   refine HQ.Ag rfl rfl rfl (Rd1.of (i := 0) (by rw [Nat.zero_add]; exact Rd.slcElem (n := V.length) (c := vc) (T := 195) (xs := V) VV.len (by decide) (by rw [← hvb]; exact .there _ (.there _ (.here _ _ _))) hX) rfl) rfl ?_
   refine HQ.Ae rfl ?_
   refine HB.next [] (by kernel_rfl) (S' := []) rfl ?_
   refine HB.Af [(19, false)] 1 (by kernel_rfl) ?_
   refine ge ?_
   refine HQ.Ae rfl ?_
   refine HB.ev1 (i := 20) (by kernel_rfl) rfl ?_
   refine H.Aa (x := row bb _ _) (by repeat constructor) ?_
   refine H.Bj (ls := (bodW 5 ((x.view.toNat % 6 : Nat) : Int) 0).vals none 0) (ls' := (bodW 5 X.w.v 0).vals none 0) rfl rfl rfl rfl (.here _ _ _) (.there _ (.here _ _ _)) ?_
   refine gC ?_
   refine H.on0 rfl ?_
   refine HB.Al (by kernel_rfl) ?_
   refine H.Aa (x := fam (chFam W.l cs) _) (by repeat constructor) ?_
   refine H.Aa (x := slc cp _ cc _ _ _) (by repeat constructor) ?_
   refine H.Aa (x := fam (fun r => pstH _ _) _) (by repeat constructor) ?_
   refine H.Aa (x := lst (V.map VV.own)) (by repeat constructor) ?_
   refine H.Aa (x := slc vp _ vc _ _ _) (by repeat constructor) ?_
   refine H.Aa (x := row lb _ _) (by repeat constructor) ?_
   refine H.imp (zai ⟨V, vp, vc, pp, pc, cp, cc, pb, cs⟩ hi1) ?_
   refine H.Aa (x := row xb _ _) (by repeat constructor) ?_
   refine H.Aa (x := row bb _ _) (by repeat constructor) ?_
   by_cases hz : X.w.v = 0
   ·rw [show fix1 (X.w.v) = 1 from if_pos hz]
    refine gT ?_
    refine H.Ah (ls := (⟨5, 1, 0, Req.zero, [], noTag⟩ : Bod).vals none 0) rfl rfl rfl (Rd.ofRow (.here _ _ _)) rfl rfl ?_
    refine H.Ak (ls := (Bod.zero 0).vals none 0) (vs := (⟨5, 1, 0, Req.zero, [], noTag⟩ : Bod).vals none 0) (ls' := (⟨5, 1, 0, Req.zero, [], noTag⟩ : Bod).vals none 0) rfl rfl rfl (zad rfl) rfl rfl (Nat.le_refl 76) (by repeat constructor) ?_
    refine gc ?_
    refine H.Ab (x := row bb _ _) (by repeat constructor) ?_
    refine H.Ab (x := row xb _ _) (by repeat constructor) ?_
    refine H.Aa (x := row kb _ _) (by repeat constructor) ?_
    refine H.Aa (x := row wb _ _) (by repeat constructor) ?_
    refine H.Aa (x := logsH _ _ _) (by repeat constructor) ?_
    refine H.Aa (x := row ob _ _) (by repeat constructor) ?_
    exact H.Ba (ls := (⟨5, 1, 0, Req.zero, [], noTag⟩ : Bod).vals none 0) rfl rfl rfl (Rd.ofRow (.here _ _ _)) rfl (fun _ s => s.drop (.here _ _)) ⟨nil0, none, 0, rfl, QAt.nil _ _, Dj.nil _, (un_nil _).symm, rfl⟩
   ·rw [show fix1 (X.w.v) = X.w.v from if_neg hz]
    refine gV ?_
    refine H.Ah (ls := (⟨5, X.w.v, 0, Req.zero, [], noTag⟩ : Bod).vals none 0) rfl rfl rfl (Rd.ofRow (.here _ _ _)) rfl rfl ?_
    refine H.Ak (ls := (Bod.zero 0).vals none 0) (vs := (⟨5, X.w.v, 0, Req.zero, [], noTag⟩ : Bod).vals none 0) (ls' := (⟨5, X.w.v, 0, Req.zero, [], noTag⟩ : Bod).vals none 0) rfl rfl rfl (zad rfl) rfl rfl (Nat.le_refl 76) (by repeat constructor) ?_
    refine gc ?_
    refine H.Ab (x := row bb _ _) (by repeat constructor) ?_
    refine H.Ab (x := row xb _ _) (by repeat constructor) ?_
    refine H.Aa (x := row kb _ _) (by repeat constructor) ?_
    refine H.Aa (x := row wb _ _) (by repeat constructor) ?_
    refine H.Aa (x := logsH _ _ _) (by repeat constructor) ?_
    refine H.Aa (x := row ob _ _) (by repeat constructor) ?_
    exact H.Ba (ls := (⟨5, X.w.v, 0, Req.zero, [], noTag⟩ : Bod).vals none 0) rfl rfl rfl (Rd.ofRow (.here _ _ _)) rfl (fun _ s => s.drop (.here _ _)) ⟨nil0, none, 0, rfl, QAt.nil _ _, Dj.nil _, (un_nil _).symm, rfl⟩
 ·have hk6 : ((x.kind.toNat : Nat) : Int).tmod 6 = 5 := zak (b := 6) h
  rw [h]
  show Fn _ _ _ f _ (BodP f _ (⟨6, 0, (1 + ((x.k.toNat % 6 : Nat) : Int)), Req.zero, [], dig0 x.key⟩ : Bod))
  refine Fn.enter Tryz.func94 rfl Tryz.ntmps94 rfl (L := [(0, _), (1, _), (2, _)]) ⟨rfl, rfl, rfl, trivial⟩ fun base => ?_
  refine gC ?_
  refine H.box (ls := x.vals) rfl rfl rfl rfl fun xb => ?_
  refine H.Ar (ls := (Bod.zero 0).vals none 0) rfl rfl rfl fun ob => ?_
  refine gY ?_
  refine H.rem rfl rfl rfl (by decide) hk6 rfl ?_
  refine gO ?_
  refine H.rem (z := ((x.view.toNat % 6 : Nat) : Int)) rfl rfl rfl (by decide) (zak (b := 6) rfl) rfl ?_
  refine gO ?_
  refine H.rem (z := ((x.k.toNat % 6 : Nat) : Int)) rfl rfl rfl (by decide) (zak (b := 6) rfl) rfl ?_
  repeat (first | (refine H.Bc (t := 45) (out := (bodW 6 ((x.view.toNat % 6 : Nat) : Int) (1 + ((x.k.toNat % 6 : Nat) : Int))).vals none 0) rfl rfl rfl (by kernel_rfl) rfl ?_) | ((first | (apply H.ar; (iterate 4 exact rfl)) | (apply H.Bg; (iterate 2 exact rfl))); (with_reducible apply wr_u64; omega); exact rfl))
  refine H.Ar (ls := (Bod.zero 0).vals none 0) rfl rfl rfl fun bb => ?_
  refine H.Ak (ls := (Bod.zero 0).vals none 0) (vs := (bodW 6 ((x.view.toNat % 6 : Nat) : Int) (1 + ((x.k.toNat % 6 : Nat) : Int))).vals none 0) (ls' := (bodW 6 ((x.view.toNat % 6 : Nat) : Int) (1 + ((x.k.toNat % 6 : Nat) : Int))).vals none 0) rfl rfl rfl (zad rfl) rfl rfl (Nat.le_refl 76) (.here _ _ _) ?_
  refine gN ?_
  refine H.Aa (x := row wb _ _) (by repeat constructor) ?_
  refine H.Aa (x := logsH _ _ _) (by repeat constructor) ?_
  refine H.Ad rfl rfl rfl (hgr _) ?_
  refine H.Aa (x := row xb _ _) (by repeat constructor) ?_
  refine H.Aa (x := row bb _ _) (by repeat constructor) ?_
  refine ga ?_
  refine H.Ay (i := 0) rfl rfl rfl rfl (by decide) rfl ?_
  refine gT ?_
  refine H.Ah (ls := (⟨6, 0, (1 + ((x.k.toNat % 6 : Nat) : Int)), Req.zero, [], dig0 x.key⟩ : Bod).vals none 0) rfl rfl rfl (Rd.ofRow (.here _ _ _)) rfl rfl ?_
  refine H.Ak (ls := (Bod.zero 0).vals none 0) (vs := (⟨6, 0, (1 + ((x.k.toNat % 6 : Nat) : Int)), Req.zero, [], dig0 x.key⟩ : Bod).vals none 0) (ls' := (⟨6, 0, (1 + ((x.k.toNat % 6 : Nat) : Int)), Req.zero, [], dig0 x.key⟩ : Bod).vals none 0) rfl rfl rfl (zad rfl) rfl rfl (Nat.le_refl 76) (by repeat constructor) ?_
  refine gc ?_
  refine H.Ab (x := row bb _ _) (by repeat constructor) ?_
  refine H.Ab (x := row xb _ _) (by repeat constructor) ?_
  refine H.Aa (x := row kb _ _) (by repeat constructor) ?_
  refine H.Aa (x := row wb _ _) (by repeat constructor) ?_
  refine H.Aa (x := logsH _ _ _) (by repeat constructor) ?_
  refine H.Aa (x := row ob _ _) (by repeat constructor) ?_
  exact H.Ba (ls := (⟨6, 0, (1 + ((x.k.toNat % 6 : Nat) : Int)), Req.zero, [], dig0 x.key⟩ : Bod).vals none 0) rfl rfl rfl (Rd.ofRow (.here _ _ _)) rfl (fun _ s => s.drop (.here _ _)) ⟨nil0, none, 0, rfl, QAt.nil _ _, Dj.nil _, (un_nil _).symm, rfl⟩
end
structure W15P where
 kb : Nat
 lb : Nat
 ap : Option Addr
 ac : Nat
 l : List MV
def w15φ (e : Frag) (W : W15) (i : W15P) : Prop := i.l.map MV.m = W.w.all ∧ ∀ y ∈ i.l, y.Good e
def w15B (e : Frag) (wb n : Nat) (W : W15) (i : W15P) : List HP := [row wb 96 (w15C i.kb n i.ap i.l.length i.ac i.lb), row i.kb 37 (kRow n W.w.kv), slc i.ap i.l.length i.ac 47 121 (i.l.flatMap MV.vals), logsH e i.lb W.l]
def wH15 (e : Frag) (wb n : Nat) (W : W15) : HP := pack (w15φ e W) (w15B e wb n W)
theorem w15_fold {e : Frag} {F : List HP} {wb n : Nat} {W : W15} (i : W15P) (h : w15φ e W i) : ∀ x, stars (w15B e wb n W i ++ F) x → stars (wH15 e wb n W :: F) x := fun x hx => pack_fold (φ := w15φ e W) (B := w15B e wb n W) i h x hx
theorem w15_mono {f g : Frag} (h : Le f g) {wb n : Nat} {W : W15} : ∀ x, wH15 f wb n W x → wH15 g wb n W x := fun _ ⟨i, hi, hx⟩ => ⟨i, ⟨hi.1, fun y hy => (hi.2 y hy).mono h⟩, by
 obtain ⟨m1, m2, d1, e1, a1, m3, m4, d2, e2, a2, m5, m6, d3, e3, a3, m7, m8, d4, e4, a4, r4⟩ := hx
 exact ⟨m1, m2, d1, e1, a1, m3, m4, d2, e2, a2, m5, m6, d3, e3, a3, m7, m8, d4, e4, logsH_mono h _ a4, r4⟩⟩
theorem w15_up {f g : Frag} (h : Le f g) {wb n : Nat} {W : W15} {A : List HP} : ∀ x, stars (wH15 f wb n W :: A) x → stars (wH15 g wb n W :: A) x := fun _ ⟨h1, h2, hd, he, ha, hr⟩ => ⟨h1, h2, hd, he, w15_mono h _ ha, hr⟩
def DoP (f : Frag) (F : List HP) (wb n : Nat) (W : W15) : Value → Frag → List HP → Prop := fun v f' A' => ∃ (g : Frag) (u : Value), Dj f g ∧ v = u ∧ f' = un f g ∧ A' = wH15 f' wb n W :: F
section
variable (f : Frag) (F : List HP)
set_option maxRecDepth 20000 in
set_option maxHeartbeats 3200000 in
theorem do_fn {fl : Frag} (hfl : Le fl f) {wb n : Nat} {W : W15} {T : Nat} (hn3 : 3 ≤ n ∧ n ≤ 11) (hW : WI n W T) (hT : T ≤ 900) (hal : W.w.all.length ≤ 900) {x : A15} (hx : x.Has f) (hq20 : x.q.length ≤ 20) :
  Fn Tryz.prog 74 [.pointer (some ⟨wb, 0, none⟩), .agg x.vals.toArray] f (wH15 fl wb n W :: F) (DoP f F wb n (W.act n x)) := by
 refine Fn.unpack fun i0 hi => ?_
 obtain ⟨kb, lb, ap, ac, l⟩ := i0
 have hlm : l.map MV.m = W.w.all := hi.1
 have hlg : ∀ y ∈ l, y.Good fl := hi.2
 have hll : l.length ≤ 900 := by
  have := congrArg List.length hlm
  rw [List.length_map] at this
  omega
 have hn0 : ((n : Nat) : Int) ≠ 0 := by omega
 have ho : x.who.toNat % n < n := Nat.mod_lt _ (by omega)
 have hkv := hW.w.kv_le ho
 have hwho := x.who.toNat_lt
 have hoth := x.other.toNat_lt
 have hj : x.other.toNat % n < n := Nat.mod_lt _ (by omega)
 show Fn _ _ _ f (row wb 96 (w15C kb n ap l.length ac lb) :: row kb 37 (kRow n W.w.kv) :: slc ap l.length ac 47 121 (l.flatMap MV.vals) :: logsH fl lb W.l :: F) _
 refine Fn.enter Tryz.func74 rfl Tryz.ntmps74 rfl (L := [(0, _), (1, _)]) ⟨rfl, rfl, trivial⟩ fun base => ?_
 refine gC ?_
 refine H.box (ls := x.vals) rfl rfl rfl rfl fun xb => ?_
 refine H.Ar (ls := msgZ.vals none 0) rfl rfl rfl fun ob => ?_
 refine gY ?_
 refine H.rem (z := ((x.who.toNat % n : Nat) : Int)) rfl rfl rfl hn0 (zak (a := x.who.toNat) (b := n) rfl) rfl ?_
 refine gY ?_
 cases hmt : x.meet with
 | true =>
  have hact : W.act n x = { W with w := W.w.meet (x.who.toNat % n) (x.other.toNat % n) } := by unfold W15.act; rw [if_pos hmt]
  rw [hact]
  refine gY ?_
  refine H.rem (z := ((x.other.toNat % n : Nat) : Int)) rfl rfl rfl hn0 (zak (a := x.other.toNat) (b := n) rfl) rfl ?_
  refine gc ?_
  generalize hoe : x.who.toNat % n = o at *
  generalize hje : x.other.toNat % n = j at *
  have ho11 : o < 11 := by omega
  refine H.Aa (x := row kb _ _) (by repeat constructor) ?_
  refine H.Aa (x := row wb _ _) (by repeat constructor) ?_
  refine H.Aw (ι := Nat) (fun i => [(8, .int .i64 (i : Int)), (6, .int .i64 (1 + (o : Int))), (7, .int .i64 (j : Int)), (0, .pointer (some ⟨wb, 0, none⟩)), (4, .pointer (some ⟨ob, 0, none⟩))]) (fun _ => f)
   (fun i => row wb 96 (w15C kb n ap l.length ac lb) :: row kb 37 (kRow n (raised W.w.kv o j i)) :: row ob 47 (msgZ.vals none 0) :: row xb 144 x.vals :: slc ap l.length ac 47 121 (l.flatMap MV.vals) :: logsH fl lb W.l :: F)
   (fun i => i ≤ 11) (fun i => 11 - i) 0 (Nat.zero_le _) ⟨rfl, rfl, rfl, rfl, rfl, trivial⟩ rfl (by rw [raised_zero]) fun i hi2 => ?_
  have hi2 : i ≤ 11 := hi2
  by_cases hi11 : i < 11
  ·have hro := raised_o W.w.kv o j i
   have hrj := raised_j W.w.kv o j i
   have hrn := raised_next W.w.kv o j i
   have hg1 := kRow_get (kv := raised W.w.kv o j i) ho hi11
   have hg2 := kRow_get (kv := raised W.w.kv o j i) hj hi11
   rw [hro] at hg1
   rw [hrj] at hg2
   have hset := kRow_set (kv := raised W.w.kv o j i) (maxV (W.w.kv o) (W.w.kv j) i) ho hi11
   rw [hrn] at hset
   have hoo : (1 : Int) + (o : Int) - 1 = (o : Nat) := by omega
   refine gI ?_
   refine H.Bv [0, 1, 2, 3, 4, 5, 6, 7, 8, 9, 10, 11, 12, 13, 14, 15, 16, 17, 18, 19, 20, 21, 22, 23, 24, 25, 26, 27, 28] (by kernel_rfl) (by decide +kernel) (by repeat (first | exact zab | refine zaa ?_ | refine zac ?_ | refine zae ?_)) (S := [_, _]) rfl ?_
   refine HB.Af [(0, false), (1, false), (2, false), (3, false), (4, false), (5, false), (6, false), (7, false), (8, false), (9, false), (10, false), (11, false), (12, false), (13, false), (14, false), (15, false), (16, false), (17, false), (18, false), (19, false), (20, false), (21, false), (22, false), (23, false), (24, false), (25, false), (26, false), (27, false), (28, false)] 1 (by kernel_rfl) ?_
   refine gU ?_
   refine HQ.Av (i := o) rfl rfl rfl hoo ho rfl ?_
   refine HQ.Ay (i := i) rfl rfl rfl rfl hi11 rfl ?_
   refine HQ.Ag rfl rfl rfl (.at0 (Rd.ofRow (.there _ (.here _ _ _))) (by rw [Nat.zero_add, Nat.mul_one]; exact hg1)) rfl ?_
   refine gU ?_
   refine HQ.Av (i := j) rfl rfl rfl rfl hj rfl ?_
   refine HQ.Ay (i := i) rfl rfl rfl rfl hi11 rfl ?_
   refine HQ.Ag rfl rfl rfl (.at0 (Rd.ofRow (.there _ (.here _ _ _))) (by rw [Nat.zero_add, Nat.mul_one]; exact hg2)) rfl ?_
   refine HQ.max2 (z := maxV (W.w.kv o) (W.w.kv j) i) rfl rfl rfl rfl rfl ?_
   refine HQ.Av (i := o) rfl rfl rfl hoo ho rfl ?_
   refine HQ.Ay (i := i) rfl rfl rfl rfl hi11 rfl ?_
   refine HQ.Ae rfl ?_
   refine HB.next [] (by kernel_rfl) (S' := []) rfl ?_
   refine HB.ev1 (i := 29) (by kernel_rfl) rfl ?_
   refine H.Bj (v := .int .u64 (maxV (W.w.kv o) (W.w.kv j) i)) (ls := kRow n (raised W.w.kv o j i)) (ls' := kRow n (raised W.w.kv o j (i + 1))) rfl rfl rfl rfl (.there _ (.here _ _ _)) (by rw [Nat.zero_add, Nat.mul_one]; exact hset) ?_
   refine gC ?_
   refine H.on0 rfl ?_
   refine HB.Al (by kernel_rfl) ?_
   refine gG ?_
   exact H.Aq (i + 1) (by show i + 1 ≤ 11; omega) (by show 11 - (i + 1) < 11 - i; omega) ⟨rfl, rfl, rfl, rfl, rfl, trivial⟩ rfl rfl
  ·have e : i = 11 := by omega
   subst e
   rw [raised_end]
   repeat (first | (refine H.Bc (t := 47) (out := msgZ.vals none 0) rfl rfl rfl (by kernel_rfl) rfl ?_) | ((apply H.Aj); (iterate 3 exact rfl)) | (first | apply H.seq | apply H.Ao | apply H.nil | apply H.Ap) | ((apply H.cmp); (iterate 5 exact rfl)) | (apply H.Ci; exact rfl) | (first | apply H.Ca | apply H.exit | apply H.Cb | apply H.Cc))
   refine H.Ak (ls := msgZ.vals none 0) (vs := msgZ.vals none 0) (ls' := msgZ.vals none 0) rfl rfl rfl (zad rfl) rfl rfl (Nat.le_refl 121) (by repeat constructor) ?_
   refine gc ?_
   refine H.Ab (x := row xb _ _) (by repeat constructor) ?_
   refine H.Aa (x := row ob _ _) (by repeat constructor) ?_
   exact H.Ba (ls := msgZ.vals none 0) rfl rfl rfl (Rd.ofRow (.here _ _ _)) rfl (fun _ s => (s.drop (.here _ _)).imp (fun z hz => w15_up hfl z (w15_fold (W := { W with w := W.w.meet o j }) ⟨kb, lb, ap, ac, l⟩ ⟨hlm, hlg⟩ z hz))) ⟨nil0, _, Dj.nil _, rfl, (un_nil f).symm, rfl⟩
 | false =>
  refine gf ?_
  generalize hoe : x.who.toNat % n = o at *
  have ho11 : o < 11 := by omega
  have hoo : (1 : Int) + (o : Int) - 1 = (o : Nat) := by omega
  have ho1 : (1 : Int) + (o : Int) = ((o + 1 : Nat) : Int) := by omega
  have hact : W.act n x = if (W.next n o x).may = true then ⟨W.w.say o (W.next n o x).signed, (W.l.take (W.next n o x).signed).2⟩ else W := by
   unfold W15.act
   rw [if_neg (by rw [hmt]; decide), hoe]
  have hgk0 := kRow_get (kv := W.w.kv) ho ho11
  have hko := hkv o
  have hbody := fun G => body15_fn f G hfl (wb := wb) (kb := kb) (lb := lb) hW (by omega) (ap := ap) (m := l.length) (ac := ac) ho hx hq20
  refine H.Aa (x := logsH _ _ _) (by repeat constructor) ?_
  refine H.Aa (x := row kb _ _) (by repeat constructor) ?_
  refine H.Aa (x := row wb _ _) (by repeat constructor) ?_
  refine H.Aa (x := row xb _ _) (by repeat constructor) ?_
  refine H.cut (ι := Frag × Option Addr × Nat × Nat) (fun s => [(9, .pointer (some ⟨s.2.2.2, 0, none⟩)), (6, .int .i64 (1 + (o : Int))), (0, .pointer (some ⟨wb, 0, none⟩)), (4, .pointer (some ⟨ob, 0, none⟩))]) (fun s => un f s.1)
   (fun s => row xb 144 x.vals :: row s.2.2.2 47 ((W.next n o x).vals s.2.1 s.2.2.1) :: row ob 47 (msgZ.vals none 0) :: row wb 96 (w15C kb n ap l.length ac lb) :: row kb 37 (kRow n W.w.kv) :: logsH fl lb W.l :: slc ap l.length ac 47 121 (l.flatMap MV.vals) :: F)
   (fun s => QAt (un f s.1) s.2.1 (W.next n o x).body.q ∧ Dj f s.1) _ (fun s hs => ?_) ?_
  ·obtain ⟨g, qp, qc, mb⟩ := s
   obtain ⟨hqat, hd⟩ : QAt (un f g) qp (W.next n o x).body.q ∧ Dj f g := hs
   have hle2 := Le.un f g
   have hql := (x.bod_q hW (by omega) (o := o)).1
   have hgood : (⟨W.next n o x, qp, qc⟩ : MV).Good (un f g) := ⟨hqat, by show (x.bod W n o).q.length ≤ _; omega, A15.bod_ok hW (by omega) ho x⟩
   have hmsg := good_signed hgood
   have hmay := fun H => rmmay_fn (un f g) H hgood
   have hsg := fun H => rtagged_fn (un f g) H (m := W.next n o x) (q := qp) (qc := qc) hgood.1 (by show (x.bod W n o).q.length ≤ _; omega)
   show H _ _ _ [_, _, _, _] (un f g) (_ :: row mb _ ((W.next n o x).vals qp qc) :: _ :: _ :: _ :: _ :: _ :: F) _
   refine gC ?_
   refine H.Ah (ls := (W.next n o x).vals qp qc) rfl rfl rfl (Rd.ofRow (.there _ (.here _ _ _))) rfl rfl ?_
   refine H.Ad rfl rfl rfl (hmay _) ?_
   refine H.not (b := _) (c := _) rfl rfl rfl rfl ?_
   cases hmy : (W.next n o x).may with
   | false =>
    rw [hact, if_neg (by rw [hmy]; decide)]
    repeat (first | (refine H.Bc (t := 47) (out := msgZ.vals none 0) rfl rfl rfl (by kernel_rfl) rfl ?_) | (first | apply H.seq | apply H.Ao | apply H.nil | apply H.Ap) | (apply H.Cm; exact rfl))
    refine H.Ak (ls := msgZ.vals none 0) (vs := msgZ.vals none 0) (ls' := msgZ.vals none 0) rfl rfl rfl (zad rfl) rfl rfl (Nat.le_refl 121) (by repeat constructor) ?_
    refine gc ?_
    refine H.Ab (x := row xb _ _) (by repeat constructor) ?_
    refine H.Ab (x := row mb _ _) (by repeat constructor) ?_
    refine H.Aa (x := slc ap _ ac _ _ _) (by repeat constructor) ?_
    refine H.Aa (x := row kb _ _) (by repeat constructor) ?_
    refine H.Aa (x := row wb _ _) (by repeat constructor) ?_
    refine H.Aa (x := row ob _ _) (by repeat constructor) ?_
    exact H.Ba (ls := msgZ.vals none 0) rfl rfl rfl (Rd.ofRow (.here _ _ _)) rfl (fun _ s => (s.drop (.here _ _)).imp (fun z hz => w15_up (hfl.trans hle2) z (w15_fold ⟨kb, lb, ap, ac, l⟩ ⟨hlm, hlg⟩ z hz))) ⟨g, _, hd, rfl, rfl, rfl⟩
   | true =>
    rw [hact, if_pos hmy]
    generalize hms : (W.next n o x).signed = ms at *
    have htake := fun H => take_fn (un f g) H (hfl.trans hle2) (lb := lb) hW.l (by omega) (x := ⟨ms, qp, qc⟩) hmsg
    refine gf ?_
    refine H.Ah (ls := (W.next n o x).vals qp qc) rfl rfl rfl (Rd.ofRow (.there _ (.here _ _ _))) rfl rfl ?_
    refine H.Ad rfl rfl rfl (hsg _) ?_
    refine H.Ak (ls := (W.next n o x).vals qp qc) (vs := ms.vals qp qc) (ls' := ms.vals qp qc) rfl rfl rfl (zad rfl) rfl rfl (Nat.le_refl 121) (.there _ (.here _ _ _)) ?_
    refine gC ?_
    refine H.Aa (x := row wb _ _) (by repeat constructor) ?_
    refine H.Aa (x := row mb _ _) (by repeat constructor) ?_
    refine H.Az (by kernel_rfl) (by decide +kernel) (by repeat (first | exact zab | refine zaa ?_ | refine zac ?_ | refine zae ?_)) (S := [_, _]) rfl ?_
    refine HB.Af [(0, false), (1, false), (2, false), (3, false), (4, false)] 1 (by kernel_rfl) ?_
    refine gU ?_
    refine HQ.Ah (ls := ms.vals qp qc) rfl rfl rfl (Rd.ofRow (.here _ _ _)) rfl rfl ?_
    refine HQ.Ae rfl ?_
    refine HB.ev1 (i := 5) (by kernel_rfl) rfl ?_
    refine H.Aa (x := logsH _ _ _) (by repeat constructor) ?_
    refine H.Bq rfl rfl rfl (htake _) fun v f' A' hr => ?_
    obtain ⟨g2, hd2, rfl, rfl, rfl⟩ := hr
    refine gC ?_
    refine H.Aa (x := row wb _ _) (by repeat constructor) ?_
    refine H.Aa (x := row mb _ _) (by repeat constructor) ?_
    refine H.on [] (Le.un _ g2) rfl ?_
    refine HB.Al (by kernel_rfl) ?_
    refine gC ?_
    refine H.Bv [0, 1, 2, 3, 4, 5, 6, 7] (by kernel_rfl) (by decide +kernel) (by repeat (first | exact zab | refine zaa ?_ | refine zac ?_ | refine zae ?_)) (S := [_, _]) rfl ?_
    refine HB.Af [(0, false), (1, false), (2, false), (3, false), (4, false), (5, false)] 5 (by kernel_rfl) ?_
    refine gU ?_
    refine HQ.Ah (ls := ms.vals qp qc) rfl rfl rfl (Rd.ofRow (.here _ _ _)) rfl rfl ?_
    refine HQ.Ae rfl ?_
    refine HB.ev1 (i := 6) (by kernel_rfl) rfl ?_
    refine H.Bb (out := ms.vals qp qc) rfl rfl rfl rfl (by decide) (by decide) rfl rfl fun eb => ?_
    refine gC ?_
    refine H.Aa (x := row wb _ _) (by repeat constructor) ?_
    refine H.Aa (x := row mb _ _) (by repeat constructor) ?_
    refine H.on0 rfl ?_
    refine HB.ev1 (i := 7) (by kernel_rfl) rfl ?_
    refine H.Bd (sz := 121) (p := ap) (n0 := l.length) (c := ac) (xs := l.flatMap MV.vals) (m := 1) (news := ms.vals qp qc) rfl rfl rfl rfl rfl (fun p' c' => (by repeat constructor)) (Src.slice (Rd.ofRow (by repeat constructor)) rfl) (zad rfl) rfl (by omega) (by omega) fun ap2 ac2 => ?_
    refine gC ?_
    refine H.Ab (x := row eb _ _) (by repeat constructor) ?_
    refine H.on0 rfl ?_
    refine HB.next [] (by kernel_rfl) (S' := []) rfl ?_
    refine HB.Af [(8, false), (9, false)] 1 (by kernel_rfl) ?_
    refine gU ?_
    refine HQ.Ae rfl ?_
    refine HB.ev1 (i := 10) (by kernel_rfl) rfl ?_
    refine H.Bj (ls := w15C kb n ap l.length ac lb) (ls' := w15C kb n ap2 (l.length + 1) ac2 lb) rfl rfl rfl rfl (.there _ (.here _ _ _)) (.there _ (.here _ _ _)) ?_
    refine gC ?_
    refine H.on0 rfl ?_
    refine HB.Al (by kernel_rfl) ?_
    refine gC ?_
    have hset := kRow_set (kv := W.w.kv) (W.w.kv o o + 1) ho ho11
    refine H.Aa (x := row kb _ _) (by repeat constructor) ?_
    refine H.Aa (x := row wb _ _) (by repeat constructor) ?_
    refine H.Bv [0, 1, 2, 3, 4, 5, 6, 7, 8, 9, 10, 11, 12, 13] (by kernel_rfl) (by decide +kernel) (by repeat (first | exact zab | refine zaa ?_ | refine zac ?_ | refine zae ?_)) (S := [_, _]) rfl ?_
    refine HB.Af [(0, false), (1, false), (2, false), (3, false), (4, false), (5, false), (6, false), (7, false), (8, false), (9, false), (10, false), (11, false), (12, false), (13, false)] 1 (by kernel_rfl) ?_
    refine gU ?_
    refine HQ.Av (i := o) rfl rfl rfl hoo ho rfl ?_
    refine HQ.Ay (i := o) rfl rfl rfl hoo ho11 rfl ?_
    refine HQ.Ag rfl rfl rfl (.at0 (Rd.ofRow (.there _ (.here _ _ _))) (by rw [Nat.zero_add, Nat.mul_one]; exact hgk0)) rfl ?_
    refine gQ ?_
    refine HQ.Av (i := o) rfl rfl rfl hoo ho rfl ?_
    refine HQ.Ay (i := o) rfl rfl rfl hoo ho11 rfl ?_
    refine HQ.Ae rfl ?_
    refine HB.next [] (by kernel_rfl) (S' := []) rfl ?_
    refine HB.ev1 (i := 14) (by kernel_rfl) rfl ?_
    refine H.Bj (v := .int .u64 (W.w.kv o o + 1)) (ls := kRow n W.w.kv) (ls' := kRow n (W.w.say o ms).kv) rfl rfl rfl rfl (.there _ (.here _ _ _)) (by rw [Nat.zero_add, Nat.mul_one]; exact hset) ?_
    refine gC ?_
    refine H.on0 rfl ?_
    refine HB.Al (by kernel_rfl) ?_
    refine gC ?_
    refine H.Aa (x := row mb _ _) (by repeat constructor) ?_
    refine H.Ah (ls := ms.vals qp qc) rfl rfl rfl (Rd.ofRow (.here _ _ _)) rfl rfl ?_
    refine H.Ak (ls := msgZ.vals none 0) (vs := ms.vals qp qc) (ls' := ms.vals qp qc) rfl rfl rfl (zad rfl) rfl rfl (Nat.le_refl 121) (by repeat constructor) ?_
    refine gc ?_
    refine H.Ab (x := row xb _ _) (by repeat constructor) ?_
    refine H.Ab (x := row mb _ _) (by repeat constructor) ?_
    refine H.Aa (x := logsH _ _ _) (by repeat constructor) ?_
    refine H.Aa (x := slc ap2 _ ac2 _ _ _) (by repeat constructor) ?_
    refine H.Aa (x := row kb _ _) (by repeat constructor) ?_
    refine H.Aa (x := row wb _ _) (by repeat constructor) ?_
    refine H.Aa (x := row ob _ _) (by repeat constructor) ?_
    have hle3 := Le.un (un f g) g2
    have hφ : w15φ (un (un f g) g2) ⟨W.w.say o ms, (W.l.take ms).2⟩ ⟨kb, lb, ap2, ac2, l ++ [⟨ms, qp, qc⟩]⟩ := by
     refine ⟨?_, fun y hy => ?_⟩
     ·show (l ++ [(⟨ms, qp, qc⟩ : MV)]).map MV.m = W.w.all ++ [ms]
      rw [List.map_append, hlm]
      rfl
     ·rcases List.mem_append.1 hy with h | h
      ·exact (hlg y h).mono ((hfl.trans hle2).trans hle3)
      ·rw [List.mem_singleton.1 h]; exact hmsg.mono hle3
    have hsl : slc ap2 (l.length + 1) ac2 47 121 (l.flatMap MV.vals ++ ms.vals qp qc) = slc ap2 (l ++ [(⟨ms, qp, qc⟩ : MV)]).length ac2 47 121 ((l ++ [(⟨ms, qp, qc⟩ : MV)]).flatMap MV.vals) := slc_snoc (y := (⟨ms, qp, qc⟩ : MV))
    have hfold := w15_fold (F := F) (wb := wb) (n := n) _ hφ
    exact H.Ba (ls := ms.vals qp qc) rfl rfl rfl (Rd.ofRow (.here _ _ _)) rfl (fun _ s => (s.drop (.here _ _)).imp (fun z hz => hfold z (by
     rw [hsl] at hz
     show stars (row wb _ (w15C kb n ap2 (l ++ [(⟨ms, qp, qc⟩ : MV)]).length ac2 lb) :: _) z
     rw [List.length_append]
     rw [List.length_append] at hz
     exact hz))) ⟨un g g2, _, Dj.un3' hd hd2, rfl, un_assoc _ _ _, rfl⟩
  ·refine H.Az (by kernel_rfl) (by decide +kernel) (by repeat (first | exact zab | refine zaa ?_ | refine zac ?_ | refine zae ?_)) (S := [_, _, _]) rfl ?_
   refine HB.Af [(0, false), (1, false), (2, false), (3, false), (4, false), (5, false), (6, false), (7, false), (8, false), (9, false), (10, false), (11, false), (12, false), (13, false), (14, false), (15, false), (16, false), (17, false), (18, false), (19, false), (20, false), (21, false), (22, false), (23, false)] 4 (by kernel_rfl) ?_
   refine gU ?_
   refine HQ.Av (i := o) rfl rfl rfl hoo ho rfl ?_
   refine HQ.Ay (i := o) rfl rfl rfl hoo ho11 rfl ?_
   refine HQ.Ag rfl rfl rfl (.at0 (Rd.ofRow (.there _ (.there _ (.here _ _ _)))) (by rw [Nat.zero_add, Nat.mul_one]; exact hgk0)) rfl ?_
   refine gU ?_
   refine HQ.Av (i := o) rfl rfl rfl hoo ho rfl ?_
   refine HQ.Ah (ls := v11 (W.w.kv o)) rfl rfl rfl (by rw [Nat.zero_add]; exact Rd.kRow (Rd.ofRow (.there _ (.there _ (.here _ _ _)))) ho) rfl rfl ?_
   refine ge ?_
   refine HQ.Ah (ls := x.vals) rfl rfl rfl (Rd.ofRow (.here _ _ _)) rfl rfl ?_
   refine HQ.Ae rfl ?_
   refine HB.ev2 (i := 24) (j := 26) (by kernel_rfl) rfl rfl ?_ ?_
   ·refine H.Aa (x := row kb _ _) (by repeat constructor) ?_
    refine H.Aa (x := row wb _ _) (by repeat constructor) ?_
    refine H.Aa (x := logsH _ _ _) (by repeat constructor) ?_
    rw [ho1]
    refine H.Bq rfl rfl rfl (hbody _) fun v f' A' hr => ?_
    obtain ⟨g, qp, qc, rfl, hqat, hd, rfl, rfl⟩ := hr
    refine gC ?_
    refine H.Aa (x := row kb _ _) (by repeat constructor) ?_
    refine H.Aa (x := row wb _ _) (by repeat constructor) ?_
    refine H.Aa (x := row xb _ _) (by repeat constructor) ?_
    refine H.on [] (Le.un _ g) rfl ?_
    refine HB.Af [(25, false)] 2 (by kernel_rfl) ?_
    refine HQ.Bc (t := 47) (out := (W.next n o x).vals qp qc) rfl rfl rfl (by kernel_rfl) rfl ?_
    refine HQ.Ae rfl ?_
    refine HB.ev1 (i := 26) (by kernel_rfl) rfl ?_
    refine H.Ar (ls := msgZ.vals none 0) rfl rfl rfl fun mb => ?_
    refine gC ?_
    refine H.Aa (x := row kb _ _) (by repeat constructor) ?_
    refine H.Aa (x := row wb _ _) (by repeat constructor) ?_
    refine H.Aa (x := row xb _ _) (by repeat constructor) ?_
    refine H.on0 rfl ?_
    refine HB.ev1 (i := 27) (by kernel_rfl) rfl ?_
    refine H.Ak (ls := msgZ.vals none 0) (vs := (W.next n o x).vals qp qc) (ls' := (W.next n o x).vals qp qc) rfl rfl rfl (zad rfl) rfl rfl (Nat.le_refl 121) (by repeat constructor) ?_
    refine gC ?_
    refine H.on0 rfl ?_
    refine HB.Al (by kernel_rfl) ?_
    refine H.Aa (x := slc ap _ ac _ _ _) (by repeat constructor) ?_
    refine H.Aa (x := logsH _ _ _) (by repeat constructor) ?_
    refine H.Aa (x := row kb _ _) (by repeat constructor) ?_
    refine H.Aa (x := row wb _ _) (by repeat constructor) ?_
    refine H.Aa (x := row ob _ _) (by repeat constructor) ?_
    refine H.Aa (x := row mb _ _) (by repeat constructor) ?_
    refine H.Aa (x := row xb _ _) (by repeat constructor) ?_
    exact H.meet (g, qp, qc, mb) ⟨hqat, hd⟩ ⟨rfl, rfl, rfl, rfl, trivial⟩ rfl rfl
   ·refine H.Ar (ls := msgZ.vals none 0) rfl rfl rfl fun mb => ?_
    refine gC ?_
    refine H.Aa (x := row kb _ _) (by repeat constructor) ?_
    refine H.Aa (x := row wb _ _) (by repeat constructor) ?_
    refine H.Aa (x := row xb _ _) (by repeat constructor) ?_
    refine H.on0 rfl ?_
    refine HB.ev1 (i := 24) (by kernel_rfl) rfl ?_
    refine H.Aa (x := row kb _ _) (by repeat constructor) ?_
    refine H.Aa (x := row wb _ _) (by repeat constructor) ?_
    refine H.Aa (x := logsH _ _ _) (by repeat constructor) ?_
    rw [ho1]
    refine H.Bq rfl rfl rfl (hbody _) fun v f' A' hr => ?_
    obtain ⟨g, qp, qc, rfl, hqat, hd, rfl, rfl⟩ := hr
    refine gC ?_
    refine H.Aa (x := row kb _ _) (by repeat constructor) ?_
    refine H.Aa (x := row wb _ _) (by repeat constructor) ?_
    refine H.Aa (x := row xb _ _) (by repeat constructor) ?_
    refine H.on [] (Le.un _ g) rfl ?_
    refine HB.Af [(25, false)] 1 (by kernel_rfl) ?_
    refine HQ.Bc (t := 47) (out := (W.next n o x).vals qp qc) rfl rfl rfl (by kernel_rfl) rfl ?_
    refine HQ.Ae rfl ?_
    refine HB.ev1 (i := 27) (by kernel_rfl) rfl ?_
    refine H.Ak (ls := msgZ.vals none 0) (vs := (W.next n o x).vals qp qc) (ls' := (W.next n o x).vals qp qc) rfl rfl rfl (zad rfl) rfl rfl (Nat.le_refl 121) (by repeat constructor) ?_
    refine gC ?_
    refine H.on0 rfl ?_
    refine HB.Al (by kernel_rfl) ?_
    refine H.Aa (x := slc ap _ ac _ _ _) (by repeat constructor) ?_
    refine H.Aa (x := logsH _ _ _) (by repeat constructor) ?_
    refine H.Aa (x := row kb _ _) (by repeat constructor) ?_
    refine H.Aa (x := row wb _ _) (by repeat constructor) ?_
    refine H.Aa (x := row ob _ _) (by repeat constructor) ?_
    refine H.Aa (x := row mb _ _) (by repeat constructor) ?_
    refine H.Aa (x := row xb _ _) (by repeat constructor) ?_
    exact H.meet (g, qp, qc, mb) ⟨hqat, hd⟩ ⟨rfl, rfl, rfl, rfl, trivial⟩ rfl rfl
end
def few15 (l : List A15) : Bool := decide (l.length ≤ 100) && l.all fun x => decide (x.q.length ≤ 20)
theorem few15_all {l : List A15} (h : few15 l = true) : l.length ≤ 100 ∧ ∀ x ∈ l, x.q.length ≤ 20 := by
 unfold few15 at h
 simp only [Bool.and_eq_true, decide_eq_true_eq, List.all_eq_true] at h
 exact h
theorem A15.Has.mono {f g : Frag} (h : Le f g) {x : A15} (hx : x.Has f) : x.Has g := by
 rcases hx with e | ⟨b, off, cs, T, fr, h1, h2, h3⟩
 ·exact .inl e
 ·exact .inr ⟨b, off, cs, T, fr, h1, h _ _ h2, h3⟩
def Acts15P (f : Frag) (F : List HP) (n : Nat) (W : W15) : Value → Frag → List HP → Prop := fun v f' A' => ∃ (g : Frag) (wb : Nat), v = .pointer (some ⟨wb, 0, none⟩) ∧ Dj f g ∧ f' = un f g ∧ A' = wH15 f' wb n W :: F
section
variable (f : Frag) (F : List HP)
theorem odd15_fn (n8 : UInt8) : Fn Tryz.prog 73 [.int .u8 (n8.toNat : Nat)] f F (Ret (.int .i64 ((3 + 2 * (n8.toNat % 5) : Nat) : Int)) f F) := by
 have h := n8.toNat_lt
 have hm : ((n8.toNat % 5 : Nat) : Int) ≤ 4 := by omega
 refine Fn.enter Tryz.func73 rfl Tryz.ntmps73 rfl (L := [(0, _)]) ⟨rfl, trivial⟩ fun base => ?_
 refine gN ?_
 refine H.rem (z := ((n8.toNat % 5 : Nat) : Int)) rfl rfl rfl (by decide) (zak (b := 5) rfl) rfl ?_
 refine gG ?_
 refine H.Ac rfl rfl (fun _ h => h) ⟨?_, rfl, rfl⟩
 congr 1
theorem few15_fn {p : Option Addr} {c : Nat} {l : List A15} (hat : ListAt f p 12 A15.vals l) (hl : l.length ≤ 9223372036854775807) : Fn Tryz.prog 42 [.slice p l.length c] f F (Ret (.bool (few15 l)) f F) := by
 by_cases h30 : l.length ≤ 100
 ·refine Fn.enter Tryz.func42 rfl Tryz.ntmps42 rfl (L := [(0, _)]) ⟨rfl, trivial⟩ fun base => ?_
  refine gJ ?_
  refine H.Aw (ι := Nat) (fun i => [(3, .int .i64 (i : Int)), (0, .slice p l.length c)]) (fun _ => f) (fun _ => F) (fun i => i ≤ l.length ∧ ∀ j x, j < i → l[j]? = some x → x.q.length ≤ 20) (fun i => l.length - i) 0 ⟨Nat.zero_le _, fun j x hj => by omega⟩ ⟨rfl, rfl, trivial⟩ rfl rfl fun i hi => ?_
  obtain ⟨hi, hb⟩ : i ≤ l.length ∧ ∀ j x, j < i → l[j]? = some x → x.q.length ≤ 20 := hi
  by_cases hlt : i < l.length
  ·have hx : l[i]? = some l[i] := List.getElem?_eq_getElem hlt
   generalize l[i] = x at hx
   obtain ⟨b, off, cs, T, fr, rfl, hfb, hcs⟩ := hat i x hx
   have rd : ∀ A, Rd f A b (off + i * 12) x.vals := fun A => Rd.imm hfb hcs
   refine gI ?_
   refine H.Av rfl rfl rfl rfl hlt rfl ?_
   refine gO ?_
   refine H.Ag rfl rfl rfl (Rd1.of (i := 10) (rd _) rfl) rfl ?_
   refine gJ ?_
   by_cases hq : x.q.length ≤ 20
   ·skip
    refine gL ?_
    refine H.Aq (i + 1) ⟨by show i + 1 ≤ l.length; omega, fun j y hj hy => ?_⟩ (by show l.length - (i + 1) < l.length - i; omega) ⟨rfl, rfl, trivial⟩ rfl rfl
    by_cases e : j = i
    ·subst e; rw [hx] at hy; cases hy; exact hq
    ·exact hb j y (by omega) hy
   ·skip
    refine gI ?_
    refine H.Ac rfl rfl (fun _ h => h) ⟨?_, rfl, rfl⟩
    have : few15 l = false := by
     unfold few15
     rw [Bool.and_eq_false_iff]
     exact .inr (List.all_eq_false.2 ⟨x, List.mem_of_getElem? hx, by rw [decide_eq_false hq]; decide⟩)
    rw [this]
  ·refine gJ ?_
   refine H.Ac rfl rfl (fun _ h => h) ⟨?_, rfl, rfl⟩
   have : few15 l = true := by
    unfold few15
    rw [decide_eq_true h30, Bool.true_and, List.all_eq_true]
    intro x hx
    obtain ⟨j, hj⟩ := List.getElem?_of_mem hx
    have hjl := (List.getElem?_eq_some_iff.1 hj).1
    exact decide_eq_true (hb j x (by omega) hj)
   rw [this]
 ·refine Fn.enter Tryz.func42 rfl Tryz.ntmps42 rfl (L := [(0, _)]) ⟨rfl, trivial⟩ fun base => ?_
  refine gI ?_
  refine H.Ac rfl rfl (fun _ h => h) ⟨?_, rfl, rfl⟩
  have : few15 l = false := by unfold few15; rw [decide_eq_false h30]; rfl
  rw [this]
theorem nworld_fn {n : Nat} (h : fewZ (n : Int)) : Fn Tryz.prog 72 [.int .i64 (n : Int)] f F (Acts15P f F n (W15.zero n)) := by
 have hn : n ≤ 11 := by have := h.2.1; omega
 refine Fn.enter Tryz.func72 rfl Tryz.ntmps72 rfl (L := [(0, _)]) ⟨rfl, trivial⟩ fun base => ?_
 refine gN ?_
 refine H.Bq rfl rfl rfl (lgnew_fn f _ h) fun v f' A' hr => ?_
 obtain ⟨g, lb, hd, rfl, rfl, rfl⟩ := hr
 refine gW ?_
 refine H.makeS (m := n) (zs := v11 fun _ => 0) rfl rfl rfl rfl rfl rfl rfl (by decide) (by omega) (by omega) rfl fun kb => ?_
 rw [kRow_zero]
 repeat (first | (refine H.Bc (t := 96) (out := w15C kb n none 0 0 lb) rfl rfl rfl (by kernel_rfl) rfl ?_) | ((apply H.Aj); (iterate 3 exact rfl)))
 refine H.box (ls := w15C kb n none 0 0 lb) rfl rfl rfl rfl fun wb => ?_
 refine gc ?_
 refine H.Aa (x := logsH _ _ _) (by repeat constructor) ?_
 refine H.slc0 47 121 ?_
 refine H.Aa (x := row kb _ _) (by repeat constructor) ?_
 refine H.Aa (x := row wb _ _) (by repeat constructor) ?_
 refine H.imp (w15_fold (e := un f g) (n := n) (W := W15.zero n) ⟨kb, lb, none, 0, []⟩ ⟨rfl, fun y hy => by cases hy⟩) ?_
 exact H.Ac rfl rfl (fun _ h => h) ⟨g, wb, rfl, hd, rfl, rfl⟩
set_option maxHeartbeats 1600000 in
theorem acts15_fn {n8 : UInt8} {n : Nat} (hn8 : n = 3 + 2 * (n8.toNat % 5)) {p : Option Addr} {c : Nat} {xs : List A15} (hat : ListAt f p 12 A15.vals xs) (hh : ∀ x ∈ xs, x.Has f ∧ x.q.length ≤ 20) (hl : xs.length ≤ 100) :
  Fn Tryz.prog 44 [.int .u8 (n8.toNat : Nat), .slice p xs.length c] f F (Acts15P f F n (world15 n xs)) := by
 have hn3 : 3 ≤ n ∧ n ≤ 11 := by omega
 have hodd := fun G => odd15_fn f G n8
 rw [← hn8] at hodd
 have hfz : fewZ (n : Int) := ⟨by omega, by omega, by
  rw [show (2 : Int) = ((2 : Nat) : Int) from rfl, zak (a := n) (b := 2) (r := 1) (by omega)]; rfl⟩
 refine Fn.enter Tryz.func44 rfl Tryz.ntmps44 rfl (L := [(0, _), (1, _)]) ⟨rfl, rfl, trivial⟩ fun base => ?_
 refine gN ?_
 refine H.Ad rfl rfl rfl (hodd _) ?_
 refine H.Bq rfl rfl rfl (nworld_fn f _ hfz) fun v f' A' hr => ?_
 obtain ⟨g0, wb, rfl, hd0, rfl, rfl⟩ := hr
 refine gc ?_
 refine H.Aw (ι := Nat × Frag) (fun s => [(6, .int .i64 (s.1 : Int)), (1, .slice p xs.length c), (5, .pointer (some ⟨wb, 0, none⟩))]) (fun s => un f s.2)
  (fun s => wH15 (un f s.2) wb n (world15 n (xs.take s.1)) :: F)
  (fun s => s.1 ≤ xs.length ∧ Dj f s.2) (fun s => xs.length - s.1) (0, g0) ⟨Nat.zero_le _, hd0⟩ ⟨rfl, rfl, rfl, trivial⟩ rfl rfl fun s hs => ?_
 obtain ⟨k, G⟩ := s
 obtain ⟨hk, hdj⟩ : k ≤ xs.length ∧ Dj f G := hs
 show H _ _ _ [(6, .int .i64 (k : Int)), _, _] (un f G) (wH15 (un f G) wb n (world15 n (xs.take k)) :: F) _
 by_cases hlt : k < xs.length
 ·obtain ⟨x, hx⟩ : ∃ x, xs[k]? = some x := ⟨_, List.getElem?_eq_getElem hlt⟩
  have hnext : world15 n (xs.take (k + 1)) = (world15 n (xs.take k)).act n x := by rw [take_snoc hx, world15_snoc]
  obtain ⟨hxa, hxq⟩ := hh x (List.mem_of_getElem? hx)
  obtain ⟨b, off, cs, T, fr, rfl, hfb, hcs⟩ := hat k x hx
  have rd : ∀ A, Rd (un f G) A b (off + k * 12) x.vals := fun A => Rd.imm (Le.un f G b _ hfb) hcs
  have hinv := world15_inv hn3.1 hn3.2 xs k (by omega)
  have hwl := world15_len n xs k
  refine gI ?_
  refine H.Av (i := k) rfl rfl rfl rfl hlt rfl ?_
  refine H.Ah (ls := x.vals) rfl rfl rfl (rd _) rfl rfl ?_
  refine H.Bq rfl rfl rfl (do_fn (un f G) _ (Le.refl _) hn3 hinv (by omega) (by omega) (hxa.mono (Le.un f G)) hxq) fun v f' A' hr => ?_
  obtain ⟨g, u, hd, rfl, rfl, rfl⟩ := hr
  refine gG ?_
  refine H.Aq (k + 1, un G g) ⟨by show k + 1 ≤ xs.length; omega, Dj.un3' hdj hd⟩ (by show xs.length - (k + 1) < xs.length - k; omega) ⟨rfl, rfl, rfl, trivial⟩ (un_assoc _ _ _) ?_
  show wH15 (un (un f G) g) wb n _ :: F = wH15 (un f (un G g)) wb n (world15 n (xs.take (k + 1))) :: F
  rw [hnext, un_assoc]
 ·have e : k = xs.length := by omega
  subst e
  rw [List.take_length]
  refine gJ ?_
  exact H.Ac rfl rfl (fun _ h => h) ⟨G, wb, rfl, hdj, rfl, rfl⟩
end
theorem H.world15 {P : Program} {base : World} {m : Nat} {L : Env} {f : Frag} {A : List HP} {K : Kont} {wb n : Nat} {W : W15}
  (h : ∀ g kb ap ac lb (l : List MV), Dj f g → WAt (un f g) n W.w kb ap l → H P base m L (un f g) (row wb 96 (w15C kb n ap l.length ac lb) :: A) K) : H P base m L f (wH15 f wb n W :: A) K := by
 refine H.unpack fun i hi => ?_
 obtain ⟨kb, lb, ap, ac, l⟩ := i
 show H P base m L f (row wb 96 (w15C kb n ap l.length ac lb) :: row kb 37 (kRow n W.w.kv) :: slc ap l.length ac 47 121 (l.flatMap MV.vals) :: logsH f lb W.l :: A) K
 refine H.freeze (.there _ (.here _ _)) fun g1 hg1 hd1 => ?_
 refine H.freeze (.there _ (.here _ _)) fun g2 hg2 hd2 => ?_
 refine H.Ab (.there _ (.here _ _)) ?_
 have hd3 : Dj f (un g1 g2) := Dj.un3' hd1 hd2
 rw [un_assoc]
 have hle : Le f (un f (un g1 g2)) := Le.un _ _
 have h1 : KAt (un f (un g1 g2)) kb n W.w.kv := by rw [← un_assoc]; exact (KAt.of hg1 hd1).mono (Le.un _ g2)
 have h2 : ListAt (un f (un g1 g2)) ap 121 MV.vals l := by rw [← un_assoc]; exact (slc_listAt MV.len hg2).mono (Le.right hd2)
 exact h (un g1 g2) kb ap ac lb l hd3 ⟨h1, h2, fun y hy => (hi.2 y hy).mono hle, hi.1⟩
theorem unk_known {n : Nat} {l : List Msg} (h : WOK n l) : unk (knownS (strm l)) l = [] := by
 unfold unk
 rw [List.filter_eq_nil_iff]
 intro x hx
 obtain ⟨p, hp⟩ := strm_mem hx
 have h1 := strm_numA h hp
 have h2 := (List.getElem?_eq_some_iff.1 hp).1
 rw [decide_eq_true_eq, h1]
 show ¬ (((strm l (orgI x)).length : Nat) : Int) < _
 omega
theorem since_known {n : Nat} {l : List Msg} (h : WOK n l) (most : Int) : sinceM (knownS (strm l)) most l = [] := by
 unfold sinceM; rw [unk_known h]; exact List.take_nil
theorem since_world {n : Nat} {l : List Msg} (h : WOK n l) (hl : l.length ≤ 1000) : sinceM (fun _ => 0) 1000 l = l := by
 have e : unk (fun _ => 0) l = l := by
  unfold unk
  rw [List.filter_eq_self]
  intro x hx
  obtain ⟨q, hq⟩ := strm_mem hx
  have := strm_numA h hq
  rw [decide_eq_true_eq]
  show (0 : Int) < x.number
  omega
 unfold sinceM
 rw [e]
 exact List.take_of_length_le (by show l.length ≤ 1000; exact hl)
section
variable (f : Frag) (F : List HP)
set_option maxRecDepth 20000 in
set_option maxHeartbeats 3200000 in
theorem forgets_fn (htab : TabAt f) {n8 : UInt8} {p : Option Addr} {c : Nat} {xs : List A15} (hat : ListAt f p 12 A15.vals xs) (hh : ∀ x ∈ xs, x.Has f) (hxl : xs.length ≤ 9223372036854775807) (j8 : UInt8) :
  Fn Tryz.prog 13 [.int .u8 (n8.toNat : Nat), .slice p xs.length c, .int .u8 (j8.toNat : Nat)] f F (Ret (.bool true) f F) := by
 have hfew := few15_fn f F (c := c) hat hxl
 cases hf : few15 xs with
 | false =>
  rw [hf] at hfew
  refine Fn.enter Tryz.func13 rfl Tryz.ntmps13 rfl (L := [(0, _), (1, _), (2, _)]) ⟨rfl, rfl, rfl, trivial⟩ fun base => ?_
  refine gN ?_
  refine H.Ad rfl rfl rfl hfew ?_
  refine H.not (b := _) (c := _) rfl rfl rfl rfl ?_
  refine gS ?_
  refine H.Ad rfl rfl rfl (works18_fn f _) ?_
  refine gc ?_
  exact H.Ac rfl rfl (fun _ h => h) ⟨rfl, rfl, rfl⟩
 | true =>
  rw [hf] at hfew
  obtain ⟨hl100, hq20⟩ := few15_all hf
  by_cases h60 : xs.length ≤ 60
  ·obtain ⟨n, hn8⟩ : ∃ n, n = 3 + 2 * (n8.toNat % 5) := ⟨_, rfl⟩
   have hn3 : 3 ≤ n ∧ n ≤ 11 := by omega
   have hn0 : ((n : Nat) : Int) ≠ 0 := by omega
   have hacts := fun G => acts15_fn f G hn8 (c := c) hat (fun x hx => ⟨hh x hx, hq20 x hx⟩) hl100
   have hinv : WOK n (world15 n xs).w.all := by have := (world15_inv hn3.1 hn3.2 xs xs.length (by omega)).w.ok; rwa [List.take_length] at this
   have hwl : (world15 n xs).w.all.length ≤ 60 := by have := world15_len n xs xs.length; rw [List.take_length] at this; omega
   generalize world15 n xs = W at *
   have hj8 := j8.toNat_lt
   refine Fn.enter Tryz.func13 rfl Tryz.ntmps13 rfl (L := [(0, _), (1, _), (2, _)]) ⟨rfl, rfl, rfl, trivial⟩ fun base => ?_
   refine gN ?_
   refine H.Ad rfl rfl rfl hfew ?_
   refine H.not (b := _) (c := _) rfl rfl rfl rfl ?_
   refine gP ?_
   refine H.Bq rfl rfl rfl (hacts _) fun v f' A' hr => ?_
   obtain ⟨g, wb, rfl, hd, rfl, rfl⟩ := hr
   have le0 := Le.un f g
   generalize un f g = f0 at *
   refine H.world15 fun g1 kb ap ac lb l hd1 hwat => ?_
   have le1 := le0.trans (Le.un f0 g1)
   generalize un f0 g1 = f1 at *
   have hlm := hwat.m
   have hll : l.length = W.w.all.length := by rw [← hlm, List.length_map]
   clear hacts hfew
   obtain ⟨o, ho⟩ : ∃ o, o = j8.toNat % n := ⟨_, rfl⟩
   have hon : o < n := by rw [ho]; exact Nat.mod_lt _ (by omega)
   have ho11 : o < 11 := by omega
   refine gY ?_
   refine H.callE rfl rfl rfl (lnew_fn f1 _ (fewz_odd hn8)) fun la => ?_
   refine gW ?_
   refine H.callE rfl rfl rfl (gnew_fn f1 _ (fewz_odd hn8)) fun pb => ?_
   refine gS ?_
   refine H.Aa (x := row wb _ _) (by repeat constructor) ?_
   refine H.Aa (x := row pb _ _) (by repeat constructor) ?_
   refine H.Aa (x := loreH _ la _ _) (by repeat constructor) ?_
   refine H.Aw (ι := Nat × Frag × List MV) (fun s => [(13, .int .i64 (s.1 : Int)), (7, .pointer (some ⟨wb, 0, none⟩)), (8, .int .i64 (n : Int)), (9, .pointer (some ⟨la, 0, none⟩)), (11, .pointer (some ⟨pb, 0, none⟩)), (2, .int .u8 (j8.toNat : Nat))]) (fun s => s.2.1)
    (fun s => loreH s.2.1 la n s.2.2 :: row pb 148 (peC n fun _ _ => 0) :: row wb 96 (w15C kb n ap l.length ac lb) :: F)
    (fun s => s.1 ≤ l.length ∧ Le f1 s.2.1 ∧ s.2.2.map MV.m = W.w.all.take s.1) (fun s => l.length - s.1)
    (0, f1, []) ⟨Nat.zero_le _, Le.refl f1, rfl⟩ ⟨rfl, rfl, rfl, rfl, rfl, rfl, trivial⟩ rfl rfl fun s hs => ?_
   obtain ⟨i, e, LA⟩ := s
   obtain ⟨hi, hle, hA⟩ : i ≤ l.length ∧ Le f1 e ∧ LA.map MV.m = W.w.all.take i := hs
   show H _ _ _ [(13, .int .i64 (i : Int)), _, _, _, _, _] e (loreH e la n LA :: row pb _ _ :: row wb _ _ :: F) _
   have hAl : LA.length ≤ i := by
    have := congrArg List.length hA
    rw [List.length_map, List.length_take] at this
    omega
   by_cases hlt : i < l.length
   ·obtain ⟨b, off, rfl, rdA⟩ := hwat.a.all MV.len (by decide) (by omega)
    obtain ⟨y, hy⟩ : ∃ y, l[i]? = some y := ⟨_, List.getElem?_eq_getElem hlt⟩
    have hym : W.w.all[i]? = some y.m := by rw [← hlm, List.getElem?_map, hy]; rfl
    have hyg := hwat.g y (List.mem_of_getElem? hy)
    have hca : chk n (strm (LA.map MV.m)) y.m = 0 := by rw [hA]; exact hinv.next hym
    have hnx : W.w.all.take (i + 1) = W.w.all.take i ++ [y.m] := take_snoc hym
    refine gX ?_
    refine H.Av (i := i) rfl rfl rfl rfl hlt rfl ?_
    refine H.Ah (ls := y.vals) rfl rfl rfl (rdA _ _ _ _ hle hy) rfl rfl ?_
    refine H.Aa (x := loreH _ la _ _) (by repeat constructor) ?_
    refine H.Bq (R := AddP e _ la n LA y.m) rfl rfl rfl (ladd_fn e _ (tab_mono htab (le1.trans hle)) (Le.refl e) (hyg.mono hle) (by omega)) fun v f' A' hr => ?_
    obtain ⟨g2, q2, c2, rfl, hd2, rfl, rfl⟩ := hr
    rw [hca, if_pos rfl]
    have hle2 := hle.trans (Le.un e g2)
    generalize un e g2 = e2 at hle2 ⊢
    have hA2 : (LA ++ [(⟨y.m, q2, c2⟩ : MV)]).map MV.m = W.w.all.take (i + 1) := by rw [List.map_append, hA, hnx]; rfl
    generalize LA ++ [(⟨y.m, q2, c2⟩ : MV)] = LA2 at hA2 ⊢
    refine gX ?_
    exact H.Aq (i + 1, e2, LA2) ⟨by show i + 1 ≤ l.length; omega, hle2, hA2⟩ (by show l.length - (i + 1) < l.length - i; omega) ⟨rfl, rfl, rfl, rfl, rfl, rfl, trivial⟩ rfl rfl
   ·have hil : i = W.w.all.length := by omega
    rw [hil, List.take_length] at hA
    have e1o : ((o + 1 : Nat) : Int) = 1 + (o : Int) := by omega
    have hknown : ∀ G, Fn Tryz.prog 20 [.pointer (some ⟨la, 0, none⟩)] e (loreH e la n LA :: G) (Ret (.agg (v11 (knownS (strm W.w.all))).toArray) e (loreH e la n LA :: G)) := fun G => by
     have h := known_fn e G (fl := e) (lb := la) (n := n) (l := LA)
     rw [hA] at h
     exact h
    have htold : ∀ e G vv v, Fn Tryz.prog 46 [.pointer (some ⟨pb, 0, none⟩), .int .i64 (1 + (o : Int)), .agg (v11 v).toArray] e (row pb 148 (peC n vv) :: G) (Ret (.int .i64 0) e (row pb 148 (peC n (updF vv o v)) :: G)) := fun e G vv v => by
     have h := told_fn e G (pb := pb) (vv := vv) hon hn3.2 v
     rw [e1o] at h
     exact h
    have hlack : ∀ (e' : Frag) (hee : Le e e') G vv, Fn Tryz.prog 50 [.pointer (some ⟨pb, 0, none⟩), .int .i64 (1 + (o : Int)), .pointer (some ⟨la, 0, none⟩), .int .i64 1000] e' (loreH e la n LA :: row pb 148 (peC n vv) :: G) (SinceP e' (loreH e la n LA :: row pb 148 (peC n vv) :: G) (sinceM (vv o) 1000 W.w.all)) := fun e' hee G vv => by
     have h := lacks_fn e' G hee (pb := pb) (lb := la) (m := n) (vv := vv) hon hn3.2 (l := LA) (most := 1000)
     rw [e1o, hA] at h
     exact h
    have hs1 := since_known hinv 1000
    have hs2 := since_world hinv (by omega)
    generalize knownS (strm W.w.all) = kS at *
    refine gX ?_
    refine H.rem (z := ((o : Nat) : Int)) rfl rfl rfl hn0 (zak (a := j8.toNat) (b := n) ho.symm) rfl ?_
    refine gG ?_
    refine H.Aa (x := loreH _ la _ _) (by repeat constructor) ?_
    refine H.Ad rfl rfl rfl (hknown _) ?_
    refine H.Aa (x := row pb _ _) (by repeat constructor) ?_
    refine H.Ad rfl rfl rfl (htold _ _ _ _) ?_
    refine gN ?_
    refine H.Aa (x := loreH _ la _ _) (by repeat constructor) ?_
    refine H.Bq rfl rfl rfl (hlack e (Le.refl e) _ _) fun v f' A' hr => ?_
    obtain ⟨g2, rp, rc, R, rfl, hR, hRg, hd2, rfl, rfl⟩ := hr
    rw [zah, hs1] at hR
    have hR0 : R.length = 0 := by have := congrArg List.length hR; rwa [List.length_map] at this
    refine H.Ab (.here _ _) ?_
    have hle2 := Le.un e g2
    generalize un e g2 = e2 at hle2 ⊢
    clear hRg hR
    repeat (first | (refine H.buildA (t := 37) (out := v11 fun _ => 0) rfl rfl rfl (by kernel_rfl) rfl ?_) | ((first | apply H.Aj | apply H.Bm); (iterate 3 exact rfl)) | (first | apply H.seq | apply H.Ao | apply H.nil | apply H.Ap) | ((apply H.cmp); (iterate 5 exact rfl)) | (apply H.Bk) | (apply H.Bw; exact rfl; (omega)))
    refine H.Aa (x := row pb _ _) (by repeat constructor) ?_
    refine H.Ad rfl rfl rfl (htold _ _ _ _) ?_
    refine gC ?_
    refine H.Aa (x := row wb _ _) (by repeat constructor) ?_
    refine H.Az (by kernel_rfl) (by decide +kernel) (by repeat (first | exact zab | refine zaa ?_ | refine zac ?_ | refine zae ?_)) (S := [_]) rfl ?_
    refine HB.Af [(0, false), (1, false), (2, false), (4, false), (5, false), (6, false), (7, false)] 6 (by kernel_rfl) ?_
    refine gU ?_
    refine HQ.Ae rfl ?_
    refine HB.ev1 (i := 3) (by kernel_rfl) rfl ?_
    refine H.Aa (x := row pb _ _) (by repeat constructor) ?_
    refine H.Aa (x := loreH _ la _ _) (by repeat constructor) ?_
    refine H.Bq rfl rfl rfl (hlack e2 hle2 _ _) fun v f' A' hr => ?_
    obtain ⟨g3, sp, sc, S, rfl, hS, hSg, hd3, rfl, rfl⟩ := hr
    rw [zah, hs2] at hS
    refine H.freeze (.here _ _) fun g4 hg4 hd4 => ?_
    have hSat : ListAt (un (un e2 g3) g4) sp 121 MV.vals S := (slc_listAt MV.len hg4).mono (Le.right hd4)
    have hup4 := (Le.un e2 g3).trans (Le.un (un e2 g3) g4)
    have hle4 := (hle.trans hle2).trans hup4
    have hSg4 : ∀ y ∈ S, y.Good (un (un e2 g3) g4) := fun y hy => (hSg y hy).mono (Le.un (un e2 g3) g4)
    generalize un (un e2 g3) g4 = e4 at hSat hle4 hSg4 hup4 ⊢
    refine gC ?_
    refine H.Aa (x := row wb _ _) (by repeat constructor) ?_
    refine H.on [] hup4 rfl ?_
    refine HB.ev1 (i := 8) (by kernel_rfl) rfl ?_
    refine H.Ad rfl rfl rfl (rsameL_fn e4 _ hSat (hwat.a.mono hle4) hSg4 (fun y hy => (hwat.g y hy).mono hle4) (hS.trans hlm.symm) (by have := congrArg List.length hS; rw [List.length_map] at this; omega)) ?_
    refine gC ?_
    refine H.on0 rfl ?_
    refine HB.Af [(9, false)] 3 (by kernel_rfl) ?_
    refine ge ?_
    refine HQ.Ae rfl ?_
    refine HB.ev1 (i := 10) (by kernel_rfl) rfl ?_
    refine H.Ad rfl rfl rfl (works18_fn e4 _) ?_
    refine gC ?_
    refine H.on0 rfl ?_
    refine HB.Af [(11, false), (12, false)] 0 (by kernel_rfl) ?_
    refine gM ?_
    refine HQ.Ae rfl ?_
    refine HB.Al (by kernel_rfl) ?_
    refine gc ?_
    refine H.weakL (le1.trans hle4) ?_
    refine H.Ab (x := row wb _ _) (by repeat constructor) ?_
    refine H.Ab (x := loreH _ la _ _) (by repeat constructor) ?_
    refine H.Ab (x := row pb _ _) (by repeat constructor) ?_
    exact H.Ac rfl rfl (fun _ h => h) ⟨rfl, rfl, rfl⟩
  ·have h60' : 60 < xs.length := by omega
   refine Fn.enter Tryz.func13 rfl Tryz.ntmps13 rfl (L := [(0, _), (1, _), (2, _)]) ⟨rfl, rfl, rfl, trivial⟩ fun base => ?_
   refine gN ?_
   refine H.Ad rfl rfl rfl hfew ?_
   refine H.not (b := _) (c := _) rfl rfl rfl rfl ?_
   refine gP ?_
   refine H.Ad rfl rfl rfl (works18_fn f _) ?_
   refine gc ?_
   exact H.Ac rfl rfl (fun _ h => h) ⟨rfl, rfl, rfl⟩
end
end Go.Proofs.YtoigpgdmignaoaaGreatDoor

namespace Go.Proofs.YtoigpgdmignaoaaGreatDoor
open Go Go.ChangeShapes Go.WideShapes Go.RowKit Go.Deep
theorem Reads.bool {P : Program} {W : World} {t : TypeId} {cs : List Value} (ht : P.underlying t = some .bool) (h : Reads P W t cs) : ∃ b, cs = [.bool b] := by
 obtain ⟨H', enc, b, sp, hd, n, x, h⟩ := h
 obtain ⟨z, h1, _⟩ := DataW.trod_bool ht h
 exact ⟨z, h1⟩
theorem Reads.u8 {W : World} {cs : List Value} (h : Reads Tryz.prog W 5 cs) : ∃ x : UInt8, cs = [.int .u8 (x.toNat : Nat)] := by
 obtain ⟨x, _, e⟩ := reads_byte h
 exact ⟨x, e⟩
theorem ArgOk.u8 {W : World} {v : Value} (h : ArgOk Tryz.prog W 5 v) : ∃ x : UInt8, v = .int .u8 (x.toNat : Nat) := by
 obtain ⟨z, rfl, hz⟩ := h.int Tryz.underlying5
 exact ⟨UInt8.ofNat z.toNat, by rw [u8_back hz]⟩
theorem AllReads.cons {P : Program} {W : World} {t : TypeId} {ts : List TypeId} {ps : List (List Value)} (h : AllReads P W (t :: ts) ps) : ∃ p q, ps = p :: q ∧ Reads P W t p ∧ AllReads P W ts q := by
 cases ps with
 | nil => exact h.elim
 | cons p q => exact ⟨p, q, rfl, h.1, h.2⟩
theorem AllReads.nil {P : Program} {W : World} {ps : List (List Value)} (h : AllReads P W [] ps) : ps = [] := by
 cases ps with
 | nil => rfl
 | cons p q => exact h.elim
theorem reads_a15 {W : World} {cs : List Value} (h : Reads Tryz.prog W 144 cs) : ∃ x : A15, x.Has (memOf W) ∧ cs = x.vals := by
 obtain ⟨ps, rfl, hh⟩ := h.parts Tryz.underlying144 (by kernel_rfl)
 have h : AllReads Tryz.prog W [5, 5, 4, 4, 5, 5, 5, 5, 5, 5, 55, 4] ps := hh
 obtain ⟨p0, q0, rfl, r0, h⟩ := h.cons
 obtain ⟨p1, q1, rfl, r1, h⟩ := h.cons
 obtain ⟨p2, q2, rfl, r2, h⟩ := h.cons
 obtain ⟨p3, q3, rfl, r3, h⟩ := h.cons
 obtain ⟨p4, q4, rfl, r4, h⟩ := h.cons
 obtain ⟨p5, q5, rfl, r5, h⟩ := h.cons
 obtain ⟨p6, q6, rfl, r6, h⟩ := h.cons
 obtain ⟨p7, q7, rfl, r7, h⟩ := h.cons
 obtain ⟨p8, q8, rfl, r8, h⟩ := h.cons
 obtain ⟨p9, q9, rfl, r9, h⟩ := h.cons
 obtain ⟨p10, q10, rfl, r10, h⟩ := h.cons
 obtain ⟨p11, q11, rfl, r11, h⟩ := h.cons
 obtain rfl := h.nil
 obtain ⟨z0, rfl⟩ := r0.u8
 obtain ⟨z1, rfl⟩ := r1.u8
 obtain ⟨z2, rfl⟩ := r2.bool Tryz.underlying4
 obtain ⟨z3, rfl⟩ := r3.bool Tryz.underlying4
 obtain ⟨z4, rfl⟩ := r4.u8
 obtain ⟨z5, rfl⟩ := r5.u8
 obtain ⟨z6, rfl⟩ := r6.u8
 obtain ⟨z7, rfl⟩ := r7.u8
 obtain ⟨z8, rfl⟩ := r8.u8
 obtain ⟨z9, rfl⟩ := r9.u8
 obtain ⟨p, c, xs, rfl, _, _, _, hat⟩ := r10.list (sz := 1) Tryz.underlying55 (by kernel_rfl) (by decide) fun cs => reads_byte
 obtain ⟨z11, rfl⟩ := r11.bool Tryz.underlying4
 exact ⟨⟨z0, z1, z2, z3, z4, z5, z6, z7, z8, z9, xs, z11, p, c⟩, listAt_bat hat, rfl⟩
theorem ArgOk.acts15 {W : World} {v : Value} (h : ArgOk Tryz.prog W 86 v) : ∃ (p : Option Addr) (c : Nat) (xs : List A15), v = .slice p xs.length c ∧ xs.length ≤ 9223372036854775807 ∧ (∀ x ∈ xs, x.Has (memOf W)) ∧ ListAt (memOf W) p 12 A15.vals xs := by
  obtain ⟨p, c, xs, rfl, h1, h2, hq, hat⟩ := h.list (sz := 12) Tryz.underlying86 (by kernel_rfl) (by decide) fun cs => reads_a15
  exact ⟨p, c, xs, rfl, by have : maxLen ≤ 9223372036854775807 := by decide
                           omega, hq, hat⟩
theorem Tryz.own : ownKnob Tryz.prog.godebug = none := by kernel_rfl
theorem Tryz.laidOut : laidOutB Tryz.prog = true := by kernel_rfl
abbrev laidL : List (String × DataW Unit) := [("ratchet/sha.table", Rows.laid_ratchet_sha_table)]
theorem door_met (os : Os) (args : Array Value) : laidMetH Tryz.prog laidL ((World.doorLaid Tryz.prog 400 os).forCall (fun _ _ => 0) ⟨#[], args, []⟩).memory :=
 laidMetH_of_parts3 (fuel := 8) (laidMet_of_run' 8 (by kernel_rfl) (by kernel_rfl)) (by kernel_rfl) (by kernel_rfl)
theorem tab_eq : (Rows.laid_ratchet_sha_table : DataW Unit) = .agg ((Sha.k.map fun x => ((x.toNat : Nat) : Int)).map fun z => .lit (.int .u32 z)) := by kernel_rfl
theorem tab_of {W : World} (h : laidMetH Tryz.prog laidL W) : TabAt (memOf W) := by
 have h2 : laidMetH Tryz.prog [("ratchet/sha.table", .agg ((Sha.k.map fun x => ((x.toNat : Nat) : Int)).map fun z => .lit (.int .u32 z)))] W := by rw [← tab_eq]; exact h
 exact laid_ints h2 (by kernel_rfl) (by kernel_rfl) (t := 252) (e := 222) Tryz.underlying252 Tryz.underlying222 (by kernel_rfl)
end Go.Proofs.YtoigpgdmignaoaaGreatDoor
