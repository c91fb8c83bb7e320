/- Parts of the proof, one behind the other, each under its own heading. No conditions. -/
import Derived.Test.YtoigpgdmignaoaaGreatDoorZ05
set_option linter.unusedSectionVars false
set_option linter.unusedSimpArgs false
set_option linter.unusedVariables false
/- Layer 12: why a message is not taken. Condition: the table of the standard stands in the fragment. -/
namespace Go.Proofs.YtoigpgdmignaoaaGreatDoor
open Go
theorem strm_lenV (l : List MV) (o : Nat) : (strm (l.map MV.m) o).length = (strmV l o).length := by rw [← strmV_map, List.length_map]
theorem slc_deps {f : Frag} {A A' : List HP} {b n c : Nat} {T : TypeId} {xs : List MV} (h : At A (slc (some ⟨b, 0, none⟩) n c T 121 (xs.flatMap MV.vals)) A' (slc (some ⟨b, 0, none⟩) n c T 121 (xs.flatMap MV.vals))) {k : Nat} {y : MV} (hy : xs[k]? = some y) : Rd f A b (k * 121 + 2) (v11 y.m.deps) := by
 have h1 := Rd.slcElem (f := f) MV.len (by decide) h hy
 have e : y.vals = [.int .i64 y.m.origin, .int .u64 y.m.number] ++ v11 y.m.deps ++ (y.m.body.vals y.qp y.qc ++ b32 y.m.tag) := by unfold MV.vals Msg.vals; simp only [List.append_assoc]
 rw [e] at h1
 exact h1.sub rfl
theorem fits_at {n : Nat} {m : Msg} (h : fitsB n m = true) (hn : n ≤ 11) : ∃ o : Nat, orgI m = o ∧ m.origin - 1 = (o : Nat) ∧ o < n ∧ o < 11 ∧ 1 ≤ m.origin ∧ m.origin ≤ 11 := by
 have h1 := fits_org h
 refine ⟨(m.origin - 1).toNat, rfl, ?_⟩
 omega
section
variable (f : Frag) (F : List HP)
set_option maxHeartbeats 3200000 in
theorem lcheck_fn (htab : TabAt f) {fl : Frag} {lb n : Nat} {l : List MV} {x : MV} (hx : x.Good f) : Fn Tryz.prog 23 [.pointer (some ⟨lb, 0, none⟩), .agg x.vals.toArray] f (loreH fl lb n l :: F)
  (Ret (.int .i64 (chk n (strm (l.map MV.m)) x.m)) f (loreH fl lb n l :: F)) := by
 refine Fn.unpack fun i hi => ?_
 have hn := hi.2.2.2
 have hfits : ∀ {G}, Fn Tryz.prog 57 [.pointer (some ⟨lb, 0, none⟩), .agg x.vals.toArray] f (row lb 120 (loreCells n l i) :: G) (Ret (.bool (fitsB n x.m)) f (row lb 120 (loreCells n l i) :: G)) := fun {G} => fits_fn f G hn hx
 have hright : ∀ {G}, Fn Tryz.prog 58 [.agg x.vals.toArray] f G (Ret (.bool x.m.right) f G) := fun {G} => mright_fn f G htab hx
 cases h1 : fitsB n x.m with
 | false =>
  rw [h1] at hfits
  refine Fn.enter Tryz.func23 rfl Tryz.ntmps23 rfl (L := [(0, _), (1, _)]) ⟨rfl, rfl, trivial⟩ fun base => ?_
  refine gC ?_
  refine H.box (ls := x.vals) rfl rfl rfl rfl fun mb => ?_
  refine gZ ?_
  refine H.Ah (ls := x.vals) rfl rfl rfl (Rd.ofRow (.here _ _ _)) rfl rfl ?_
  refine H.Aa (x := row lb _ _) (by repeat constructor) ?_
  refine H.Af rfl rfl rfl hfits ?_
  refine H.not (b := _) (c := _) rfl rfl rfl rfl ?_
  refine ge ?_
  refine H.Aa (x := ordH l i) (by repeat constructor) ?_
  refine H.Aa (x := fam (strH l i) 11) (by repeat constructor) ?_
  refine H.Aa (x := row lb _ _) (by repeat constructor) ?_
  refine H.imp (zar i hi) ?_
  refine H.Ab (x := row mb _ _) (by repeat constructor) ?_
  refine H.Ac rfl rfl (fun _ h => h) ⟨?_, rfl, rfl⟩
  unfold chk
  rw [if_pos h1]
 | true =>
  obtain ⟨o, hoo, hoz, hon, ho11, ho1, ho2⟩ := fits_at h1 hn
  rw [h1] at hfits
  cases h2 : x.m.right with
  | false =>
   rw [h2] at hright
   refine Fn.enter Tryz.func23 rfl Tryz.ntmps23 rfl (L := [(0, _), (1, _)]) ⟨rfl, rfl, trivial⟩ fun base => ?_
   refine gC ?_
   refine H.box (ls := x.vals) rfl rfl rfl rfl fun mb => ?_
   refine gZ ?_
   refine H.Ah (ls := x.vals) rfl rfl rfl (Rd.ofRow (.here _ _ _)) rfl rfl ?_
   refine H.Aa (x := row lb _ _) (by repeat constructor) ?_
   refine H.Af rfl rfl rfl hfits ?_
   refine H.not (b := _) (c := _) rfl rfl rfl rfl ?_
   refine gW ?_
   refine H.Ah (ls := x.vals) rfl rfl rfl (Rd.ofRow (.there _ (.here _ _ _))) rfl rfl ?_
   refine H.Af rfl rfl rfl hright ?_
   refine H.not (b := _) (c := _) rfl rfl rfl rfl ?_
   refine ge ?_
   refine H.Aa (x := ordH l i) (by repeat constructor) ?_
   refine H.Aa (x := fam (strH l i) 11) (by repeat constructor) ?_
   refine H.Aa (x := row lb _ _) (by repeat constructor) ?_
   refine H.imp (zar i hi) ?_
   refine H.Ab (x := row mb _ _) (by repeat constructor) ?_
   refine H.Ac rfl rfl (fun _ h => h) ⟨?_, rfl, rfl⟩
   unfold chk
   rw [if_neg (by rw [h1]; decide), if_pos h2]
  | true =>
   rw [h2] at hright
   have hsl := strmV_le l o
   have hll := hi.2.1
   have hstr := loreCells_str n l i ho11
   have hlen := strm_lenV l o
   have hchk : chk n (strm (l.map MV.m)) x.m = if x.m.number ≤ ((strmV l o).length : Nat) then 13 else
     if x.m.number = (((strmV l o).length + 1 : Nat) : Int) ∧ 0 < (strmV l o).length ∧ aboveB (lastD (strm (l.map MV.m) o)) x.m.deps = true then 1 else
     if (((strmV l o).length + 1 : Nat) : Int) < x.m.number ∨ aboveB x.m.deps (knownS (strm (l.map MV.m))) = true then 12 else 0 := by
    unfold chk
    rw [if_neg (by rw [h1]; decide), if_neg (by rw [h2]; decide), hoo, hlen]
   by_cases h3 : x.m.number ≤ ((strmV l o).length : Nat)
   ·generalize hs : (strmV l o).length = s at *
    refine Fn.enter Tryz.func23 rfl Tryz.ntmps23 rfl (L := [(0, _), (1, _)]) ⟨rfl, rfl, trivial⟩ fun base => ?_
    refine gC ?_
    refine H.box (ls := x.vals) rfl rfl rfl rfl fun mb => ?_
    refine gZ ?_
    refine H.Ah (ls := x.vals) rfl rfl rfl (Rd.ofRow (.here _ _ _)) rfl rfl ?_
    refine H.Aa (x := row lb _ _) (by repeat constructor) ?_
    refine H.Af rfl rfl rfl hfits ?_
    refine H.not (b := _) (c := _) rfl rfl rfl rfl ?_
    refine gW ?_
    refine H.Ah (ls := x.vals) rfl rfl rfl (Rd.ofRow (.there _ (.here _ _ _))) rfl rfl ?_
    refine H.Af rfl rfl rfl hright ?_
    refine H.not (b := _) (c := _) rfl rfl rfl rfl ?_
    refine gW ?_
    refine H.Bj (by kernel_rfl) (by decide +kernel) (by repeat (first | exact zab | refine zaa ?_ | refine zac ?_ | refine zae ?_)) ?_
    refine gT ?_
    refine HQ.Ay (i := o) rfl rfl rfl hoz ho11 rfl ?_
    refine HQ.Ae rfl rfl rfl (Rd1.at0 (Rd.ofRow (by repeat constructor)) (by rw [Nat.mul_one, Nat.zero_add]; exact hstr)) rfl ?_
    refine gS ?_
    refine gY ?_
    refine H.Aa (x := ordH l i) (by repeat constructor) ?_
    refine H.Aa (x := fam (strH l i) 11) (by repeat constructor) ?_
    refine H.Aa (x := row lb _ _) (by repeat constructor) ?_
    refine H.imp (zar i hi) ?_
    refine H.Ab (x := row mb _ _) (by repeat constructor) ?_
    refine H.Ac rfl rfl (fun _ h => h) ⟨?_, rfl, rfl⟩
    rw [hchk, if_pos h3]
   ·by_cases h4 : x.m.number = (((strmV l o).length + 1 : Nat) : Int)
    ·by_cases h0 : 0 < (strmV l o).length
     ·obtain ⟨y, hy⟩ : ∃ y, (strmV l o)[(strmV l o).length - 1]? = some y := ⟨_, List.getElem?_eq_getElem (by omega)⟩
      have hlast : lastD (strm (l.map MV.m) o) = y.m.deps := by
       rw [← strmV_map]
       exact lastD_get (by rw [List.length_map, List.getElem?_map, hy]; rfl)
      rw [hlast] at hchk
      refine Fn.enter Tryz.func23 rfl Tryz.ntmps23 rfl (L := [(0, _), (1, _)]) ⟨rfl, rfl, trivial⟩ fun base => ?_
      refine gC ?_
      refine H.box (ls := x.vals) rfl rfl rfl rfl fun mb => ?_
      refine gZ ?_
      refine H.Ah (ls := x.vals) rfl rfl rfl (Rd.ofRow (.here _ _ _)) rfl rfl ?_
      refine H.Aa (x := row lb _ _) (by repeat constructor) ?_
      refine H.Af rfl rfl rfl hfits ?_
      refine H.not (b := _) (c := _) rfl rfl rfl rfl ?_
      refine gW ?_
      refine H.Ah (ls := x.vals) rfl rfl rfl (Rd.ofRow (.there _ (.here _ _ _))) rfl rfl ?_
      refine H.Af rfl rfl rfl hright ?_
      refine H.not (b := _) (c := _) rfl rfl rfl rfl ?_
      refine gW ?_
      refine H.Aa (x := fam (strH l i) 11) (by repeat constructor) ?_
      refine H.Cf ho11 ?_
      refine H.Bq (p := i.P o) (n0 := (strmV l o).length) (c := i.C o) (.here _ _ _) h0 fun sb hp => ?_
      have hrd : ∀ {f G}, Rd f (strH l i o :: G) sb (((strmV l o).length - 1) * 121 + 2) (v11 y.m.deps) := fun {f G} => by
       unfold strH
       rw [hp]
       exact slc_deps (.here _ _ _) hy
      rw [hp] at hstr
      generalize hs : (strmV l o).length = s at *
      refine H.Aa (x := row lb _ _) (by repeat constructor) ?_
      refine H.Aa (x := row mb _ _) (by repeat constructor) ?_
      refine H.Bj (by kernel_rfl) (by decide +kernel) (by repeat (first | exact zab | refine zaa ?_ | refine zac ?_ | refine zae ?_)) ?_
      refine gT ?_
      refine HQ.Ay (i := o) rfl rfl rfl hoz ho11 rfl ?_
      refine HQ.Ae rfl rfl rfl (Rd1.at0 (Rd.ofRow (by repeat constructor)) (by rw [Nat.mul_one, Nat.zero_add]; exact hstr)) rfl ?_
      refine gS ?_
      refine gY ?_
      refine H.Aa (x := row mb _ _) (by repeat constructor) ?_
      refine H.Aa (x := strH l i o) (by repeat constructor) ?_
      refine H.Az (by kernel_rfl) (by decide +kernel) (by repeat (first | exact zab | refine zaa ?_ | refine zac ?_ | refine zae ?_)) (S := [_, _]) rfl ?_
      refine HB.Ag [(0, false), (1, false), (2, false), (3, false), (4, false), (5, false), (6, false), (7, false), (8, false), (9, false), (10, false), (11, false), (12, false), (13, false), (14, false), (15, false), (16, false), (17, false)] 3 (by kernel_rfl) ?_
      refine gc ?_
      refine HQ.Ar (i := s - 1) rfl rfl rfl (by omega) (by omega) rfl ?_
      refine gE ?_
      refine HQ.Ah (ls := v11 y.m.deps) rfl rfl rfl (by rw [Nat.zero_add]; exact hrd) rfl rfl ?_
      refine gE ?_
      refine HQ.Ah (ls := v11 x.m.deps) rfl rfl rfl (zan (m := x.m) (q := x.qp) (qc := x.qc) (.there _ (.here _ _ _))) rfl rfl ?_
      refine HQ.Ad rfl ?_
      refine HB.ev1 (i := 18) (by kernel_rfl) rfl ?_
      refine H.Af rfl rfl rfl (above_fn f _ _ _) ?_
      cases hab : aboveB y.m.deps x.m.deps with
      | true =>
       refine gC ?_
       refine H.on0 rfl ?_
       refine HB.Ag [(19, false), (20, false)] 0 (by kernel_rfl) ?_
       refine gS ?_
       refine HQ.Ad rfl ?_
       refine HB.Al (by kernel_rfl) ?_
       refine ge ?_
       refine H.Aa (x := fam (updF (strH l i) o emp) 11) (by repeat constructor) ?_
       refine H.Aa (x := strH l i o) (by repeat constructor) ?_
       refine H.Ck ho11 ?_
       refine H.Aa (x := ordH l i) (by repeat constructor) ?_
       refine H.Aa (x := fam (strH l i) 11) (by repeat constructor) ?_
       refine H.Aa (x := row lb _ _) (by repeat constructor) ?_
       refine H.imp (zar i hi) ?_
       refine H.Ab (x := row mb _ _) (by repeat constructor) ?_
       refine H.Ac rfl rfl (fun _ h => h) ⟨?_, rfl, rfl⟩
       rw [hchk, if_neg h3, if_pos ⟨h4, h0, hab⟩]
      | false =>
       refine gC ?_
       refine H.on0 rfl ?_
       refine HB.Ag [(19, false), (20, false)] 0 (by kernel_rfl) ?_
       refine gS ?_
       refine HQ.Ad rfl ?_
       refine HB.Al (by kernel_rfl) ?_
       refine gY ?_
       refine H.Aa (x := fam (updF (strH l i) o emp) 11) (by repeat constructor) ?_
       refine H.Aa (x := strH l i o) (by repeat constructor) ?_
       refine H.Ck ho11 ?_
       have hc4 : ¬ (x.m.number = ((s + 1 : Nat) : Int) ∧ 0 < s ∧ aboveB y.m.deps x.m.deps = true) := by rintro ⟨_, _, h⟩; rw [hab] at h; cases h
       refine H.Aa (x := ordH l i) (by repeat constructor) ?_
       refine H.Aa (x := fam (strH l i) 11) (by repeat constructor) ?_
       refine H.Aa (x := row lb _ _) (by repeat constructor) ?_
       refine H.imp (zar i hi) ?_
       refine H.Aa (x := row mb _ _) (by repeat constructor) ?_
       refine H.Az (by kernel_rfl) (by decide +kernel) (by repeat (first | exact zab | refine zaa ?_ | refine zac ?_ | refine zae ?_)) (S := [_]) rfl ?_
       refine HB.Ag [(0, false), (1, false), (2, false)] 3 (by kernel_rfl) ?_
       refine gE ?_
       refine HQ.Ah (ls := v11 x.m.deps) rfl rfl rfl (zan (m := x.m) (q := x.qp) (qc := x.qc) (.here _ _ _)) rfl rfl ?_
       refine gD ?_
       refine HQ.Ad rfl ?_
       refine HB.ev1 (i := 3) (by kernel_rfl) rfl ?_
       refine H.Aa (x := loreH _ _ _ _) (by repeat constructor) ?_
       refine H.Af rfl rfl rfl (known_fn f _) ?_
       refine gC ?_
       refine H.Aa (x := row mb _ _) (by repeat constructor) ?_
       refine H.on0 rfl ?_
       refine HB.ev1 (i := 4) (by kernel_rfl) rfl ?_
       refine H.Af rfl rfl rfl (above_fn f _ _ _) ?_
       refine gC ?_
       refine H.on0 rfl ?_
       refine HB.Ag [(5, false)] 0 (by kernel_rfl) ?_
       refine gD ?_
       refine HQ.Ad rfl ?_
       refine HB.Al (by kernel_rfl) ?_
       cases hab : aboveB x.m.deps (knownS (strm (l.map MV.m))) with
       | true =>
        refine ge ?_
        refine H.Ab (.here _ _) ?_
        refine H.Ac rfl rfl (fun _ h => h) ⟨?_, rfl, rfl⟩
        rw [hchk, if_neg (by omega), if_neg hc4, if_pos (.inr hab)]
       | false =>
        refine gW ?_
        refine H.Ab (.here _ _) ?_
        refine H.Ac rfl rfl (fun _ h => h) ⟨?_, rfl, rfl⟩
        rw [hchk, if_neg (by omega), if_neg hc4, if_neg (by rintro (h | h); omega; rw [hab] at h; cases h)]
     ·have hc4 : ¬ (x.m.number = (((strmV l o).length + 1 : Nat) : Int) ∧ 0 < (strmV l o).length ∧ aboveB (lastD (strm (l.map MV.m) o)) x.m.deps = true) := fun h => h0 h.2.1
      generalize hs : (strmV l o).length = s at *
      refine Fn.enter Tryz.func23 rfl Tryz.ntmps23 rfl (L := [(0, _), (1, _)]) ⟨rfl, rfl, trivial⟩ fun base => ?_
      refine gC ?_
      refine H.box (ls := x.vals) rfl rfl rfl rfl fun mb => ?_
      refine gZ ?_
      refine H.Ah (ls := x.vals) rfl rfl rfl (Rd.ofRow (.here _ _ _)) rfl rfl ?_
      refine H.Aa (x := row lb _ _) (by repeat constructor) ?_
      refine H.Af rfl rfl rfl hfits ?_
      refine H.not (b := _) (c := _) rfl rfl rfl rfl ?_
      refine gW ?_
      refine H.Ah (ls := x.vals) rfl rfl rfl (Rd.ofRow (.there _ (.here _ _ _))) rfl rfl ?_
      refine H.Af rfl rfl rfl hright ?_
      refine H.not (b := _) (c := _) rfl rfl rfl rfl ?_
      refine gW ?_
      refine H.Bj (by kernel_rfl) (by decide +kernel) (by repeat (first | exact zab | refine zaa ?_ | refine zac ?_ | refine zae ?_)) ?_
      refine gT ?_
      refine HQ.Ay (i := o) rfl rfl rfl hoz ho11 rfl ?_
      refine HQ.Ae rfl rfl rfl (Rd1.at0 (Rd.ofRow (by repeat constructor)) (by rw [Nat.mul_one, Nat.zero_add]; exact hstr)) rfl ?_
      refine gS ?_
      refine gY ?_
      refine H.Az (by kernel_rfl) (by decide +kernel) (by repeat (first | exact zab | refine zaa ?_ | refine zac ?_ | refine zae ?_)) (S := [_, _]) rfl ?_
      refine HB.Ag [(0, false), (1, false), (2, false), (3, false), (4, false), (5, false), (6, false), (7, false), (8, false), (9, false), (10, false), (11, false), (12, false), (13, false), (14, false), (15, false), (16, false), (17, false)] 3 (by kernel_rfl) ?_
      refine gc ?_
      refine HQ.Ad rfl ?_
      refine HB.ev1 (i := 18) (by kernel_rfl) rfl ?_
      refine gF ?_
      refine H.on0 rfl ?_
      refine HB.Ag [(19, false), (20, false)] 0 (by kernel_rfl) ?_
      refine gM ?_
      refine HQ.Ad rfl ?_
      refine HB.Al (by kernel_rfl) ?_
      refine gY ?_
      refine H.Aa (x := ordH l i) (by repeat constructor) ?_
      refine H.Aa (x := fam (strH l i) 11) (by repeat constructor) ?_
      refine H.Aa (x := row lb _ _) (by repeat constructor) ?_
      refine H.imp (zar i hi) ?_
      refine H.Aa (x := row mb _ _) (by repeat constructor) ?_
      refine H.Az (by kernel_rfl) (by decide +kernel) (by repeat (first | exact zab | refine zaa ?_ | refine zac ?_ | refine zae ?_)) (S := [_]) rfl ?_
      refine HB.Ag [(0, false), (1, false), (2, false)] 3 (by kernel_rfl) ?_
      refine gE ?_
      refine HQ.Ah (ls := v11 x.m.deps) rfl rfl rfl (zan (m := x.m) (q := x.qp) (qc := x.qc) (.here _ _ _)) rfl rfl ?_
      refine gD ?_
      refine HQ.Ad rfl ?_
      refine HB.ev1 (i := 3) (by kernel_rfl) rfl ?_
      refine H.Aa (x := loreH _ _ _ _) (by repeat constructor) ?_
      refine H.Af rfl rfl rfl (known_fn f _) ?_
      refine gC ?_
      refine H.Aa (x := row mb _ _) (by repeat constructor) ?_
      refine H.on0 rfl ?_
      refine HB.ev1 (i := 4) (by kernel_rfl) rfl ?_
      refine H.Af rfl rfl rfl (above_fn f _ _ _) ?_
      refine gC ?_
      refine H.on0 rfl ?_
      refine HB.Ag [(5, false)] 0 (by kernel_rfl) ?_
      refine gD ?_
      refine HQ.Ad rfl ?_
      refine HB.Al (by kernel_rfl) ?_
      cases hab : aboveB x.m.deps (knownS (strm (l.map MV.m))) with
      | true =>
       refine ge ?_
       refine H.Ab (.here _ _) ?_
       refine H.Ac rfl rfl (fun _ h => h) ⟨?_, rfl, rfl⟩
       rw [hchk, if_neg (by omega), if_neg hc4, if_pos (.inr hab)]
      | false =>
       refine gW ?_
       refine H.Ab (.here _ _) ?_
       refine H.Ac rfl rfl (fun _ h => h) ⟨?_, rfl, rfl⟩
       rw [hchk, if_neg (by omega), if_neg hc4, if_neg (by rintro (h | h); omega; rw [hab] at h; cases h)]
    ·have hc4 : ¬ (x.m.number = (((strmV l o).length + 1 : Nat) : Int) ∧ 0 < (strmV l o).length ∧ aboveB (lastD (strm (l.map MV.m) o)) x.m.deps = true) := fun h => h4 h.1
     generalize hs : (strmV l o).length = s at *
     refine Fn.enter Tryz.func23 rfl Tryz.ntmps23 rfl (L := [(0, _), (1, _)]) ⟨rfl, rfl, trivial⟩ fun base => ?_
     refine gC ?_
     refine H.box (ls := x.vals) rfl rfl rfl rfl fun mb => ?_
     refine gZ ?_
     refine H.Ah (ls := x.vals) rfl rfl rfl (Rd.ofRow (.here _ _ _)) rfl rfl ?_
     refine H.Aa (x := row lb _ _) (by repeat constructor) ?_
     refine H.Af rfl rfl rfl hfits ?_
     refine H.not (b := _) (c := _) rfl rfl rfl rfl ?_
     refine gW ?_
     refine H.Ah (ls := x.vals) rfl rfl rfl (Rd.ofRow (.there _ (.here _ _ _))) rfl rfl ?_
     refine H.Af rfl rfl rfl hright ?_
     refine H.not (b := _) (c := _) rfl rfl rfl rfl ?_
     refine gW ?_
     refine H.Bj (by kernel_rfl) (by decide +kernel) (by repeat (first | exact zab | refine zaa ?_ | refine zac ?_ | refine zae ?_)) ?_
     refine gT ?_
     refine HQ.Ay (i := o) rfl rfl rfl hoz ho11 rfl ?_
     refine HQ.Ae rfl rfl rfl (Rd1.at0 (Rd.ofRow (by repeat constructor)) (by rw [Nat.mul_one, Nat.zero_add]; exact hstr)) rfl ?_
     refine gS ?_
     refine gY ?_
     refine H.Az (by kernel_rfl) (by decide +kernel) (by repeat (first | exact zab | refine zaa ?_ | refine zac ?_ | refine zae ?_)) (S := [_, _]) rfl ?_
     refine HB.Ag [(0, false), (1, false), (2, false), (3, false), (4, false), (5, false), (6, false), (7, false), (8, false), (9, false), (10, false), (11, false), (12, false), (13, false), (14, false), (15, false), (16, false), (17, false)] 3 (by kernel_rfl) ?_
     refine gc ?_
     refine HQ.Ad rfl ?_
     refine HB.ev1 (i := 18) (by kernel_rfl) rfl ?_
     refine gF ?_
     refine H.on0 rfl ?_
     refine HB.Ag [(19, false), (20, false)] 0 (by kernel_rfl) ?_
     refine gM ?_
     refine HQ.Ad rfl ?_
     refine HB.Al (by kernel_rfl) ?_
     refine gY ?_
     refine H.Aa (x := ordH l i) (by repeat constructor) ?_
     refine H.Aa (x := fam (strH l i) 11) (by repeat constructor) ?_
     refine H.Aa (x := row lb _ _) (by repeat constructor) ?_
     refine H.imp (zar i hi) ?_
     refine H.Ab (x := row mb _ _) (by repeat constructor) ?_
     refine H.Ac rfl rfl (fun _ h => h) ⟨?_, rfl, rfl⟩
     rw [hchk, if_neg (by omega), if_neg hc4, if_pos (.inl (by omega))]
end
theorem ListAt.none_nil {α : Type} {f : Frag} {sz : Nat} {vals : α → List Value} {p : Option Addr} {xs : List α} (h : ListAt f p sz vals xs) (hp : p = none) : xs = [] := by
 cases xs with
 | nil => rfl
 | cons x r =>
  obtain ⟨b, off, cs, T, fr, h1, _⟩ := h 0 x rfl
  rw [hp] at h1; cases h1
def loreC (n : Nat) (g : Nat → Value) (s : Value) : List Value := [.int .i64 (n : Int)] ++ c11 g ++ [s]
theorem loreC_last (n : Nat) (g : Nat → Value) (s v : Value) : SetV (loreC n g s) 12 v (loreC n g v) := by
 have e : loreC n g v = (loreC n g s).set 12 v := rfl
 rw [e]
 exact SetV.mk v (show 12 < 13 by decide)
theorem loreC_mid (n : Nat) (g : Nat → Value) (s v : Value) {o : Nat} (h : o < 11) : SetV (loreC n g s) (1 + o) v (loreC n (updF g o v) s) :=
 SetV.mid' (c11_set g v h) [.int .i64 (n : Int)] [s]
theorem loreC_str (n : Nat) (g : Nat → Value) (s : Value) {o : Nat} (h : o < 11) : (loreC n g s)[1 + o]? = some (g o) := by
 unfold loreC
 rw [List.append_assoc, List.getElem?_append_right (by show 1 ≤ 1 + o; omega), show 1 + o - [Value.int .i64 (n : Int)].length = o by show 1 + o - 1 = o; omega, List.getElem?_append_left (by show o < 11; exact h), c11_get _ h]
theorem c11_congr {g g' : Nat → Value} (h : ∀ k, k < 11 → g k = g' k) : c11 g = c11 g' := by
 unfold c11
 rw [h 0 (by decide), h 1 (by decide), h 2 (by decide), h 3 (by decide), h 4 (by decide), h 5 (by decide), h 6 (by decide), h 7 (by decide), h 8 (by decide), h 9 (by decide), h 10 (by decide)]
theorem lore_after {F : List HP} {lb n o : Nat} {l : List MV} {i : LP} {f' : Frag} {x : MV} {p2 po2 : Option Addr} {c2 co2 : Nat} (hoo : orgI x.m = o) (h : loreφ f' n (l ++ [x])) :
  ∀ y, stars (row lb 120 (loreC n (updF (fun k => .slice (i.P k) (strmV l k).length (i.C k)) o (.slice p2 ((strmV l o).length + 1) c2)) (.slice po2 (l.length + 1) co2)) ::
   fam (updF (strH l i) o (slc p2 ((strmV l o).length + 1) c2 47 121 ((strmV l o).flatMap MV.vals ++ x.vals))) 11 ::
   slc po2 (l.length + 1) co2 123 2 ((placesOf (l.map MV.m)).flatMap placeV ++ placeV (o, (strmV l o).length)) :: F) y → stars (loreH f' lb n (l ++ [x]) :: F) y := by
 have hcnt : cnt (l.map MV.m) o = (strmV l o).length := (strmV_len l o).symm
 have e1 : loreC n (updF (fun k => .slice (i.P k) (strmV l k).length (i.C k)) o (.slice p2 ((strmV l o).length + 1) c2)) (.slice po2 (l.length + 1) co2) = loreCells n (l ++ [x]) ⟨updF i.P o p2, updF i.C o c2, po2, co2⟩ := by
  unfold loreC loreCells
  rw [c11_congr (g' := fun k => .slice ((updF i.P o p2) k) (strmV (l ++ [x]) k).length ((updF i.C o c2) k)) fun k _ => ?_, List.length_append]
  ·rfl
  ·rw [strmV_snoc, hoo]
   by_cases e : k = o
   ·subst e; rw [zag, zag, zag, if_pos rfl, List.length_append]; rfl
   ·rw [zak _ _ e, zak _ _ e, zak _ _ e, if_neg e]
 have e2 : fam (updF (strH l i) o (slc p2 ((strmV l o).length + 1) c2 47 121 ((strmV l o).flatMap MV.vals ++ x.vals))) 11 = fam (strH (l ++ [x]) ⟨updF i.P o p2, updF i.C o c2, po2, co2⟩) 11 := by
  unfold fam
  rw [rngH_congr 11 fun k _ => ?_]
  unfold strH
  rw [strmV_snoc, hoo]
  by_cases e : k = o
  ·subst e
   show updF _ k _ k = slc (updF i.P k p2 k) _ (updF i.C k c2 k) _ _ _
   rw [zag, zag, zag, if_pos rfl, List.length_append, List.flatMap_append]
   show _ = slc p2 _ c2 _ _ (_ ++ (x.vals ++ []))
   rw [List.append_nil]; rfl
  ·show updF _ o _ k = slc (updF i.P o p2 k) _ (updF i.C o c2 k) _ _ _
   rw [zak _ _ e, zak _ _ e, zak _ _ e, if_neg e]
 have e3 : slc po2 (l.length + 1) co2 123 2 ((placesOf (l.map MV.m)).flatMap placeV ++ placeV (o, (strmV l o).length)) = ordH (l ++ [x]) ⟨updF i.P o p2, updF i.C o c2, po2, co2⟩ := by
  unfold ordH
  have hpl := placesOf_snoc (l.map MV.m) x.m
  rw [hoo, hcnt] at hpl
  rw [List.map_append, show [x].map MV.m = [x.m] from rfl, hpl, List.flatMap_append, List.length_append]
  rfl
 rw [e1, e2, e3]
 exact zar _ h
theorem loreφ_snoc {f f' : Frag} (hle : Le f f') {n : Nat} {l : List MV} {x : MV} (h : loreφ f n l) (hl : l.length < 100000) (hc : chk n (strm (l.map MV.m)) x.m = 0) (hx : x.Good f') : loreφ f' n (l ++ [x]) := by
 refine ⟨fun y hy => ?_, ?_, ?_, h.2.2.2⟩
 ·rcases List.mem_append.1 hy with hy | hy
  ·exact (h.1 y hy).mono hle
  ·rw [List.mem_singleton] at hy; subst hy; exact hx
 ·rw [List.length_append]; show l.length + 1 ≤ _; omega
 ·rw [List.map_append]; exact h.2.2.1.snoc hc
def msgZ : Msg := ⟨0, 0, fun _ => 0, Bod.zero 0, noTag⟩
theorem qs_qat0 {g : Frag} {p : Option Addr} {c : Nat} {q : List (Int × Int)} (h : qs p c q g) : QAt g p q := zbd (vals := pairV) (fun _ => rfl) h
section
variable (f : Frag) (F : List HP)
theorem cloneQ_fn {p : Option Addr} {c : Nat} {l : List (Int × Int)} (h : QAt f p l) (hl : l.length ≤ 1000000) :
  Fn Tryz.prog 70 [.slice p l.length c] f F (fun v f' A' => ∃ p c, v = .slice p l.length c ∧ f' = f ∧ A' = qs p c l :: F) := by
 have h' : ListAt f p 2 pairV l := h
 have hs := ListAt.src (P := Tryz.prog) (A := F) (c := c) (sz := 2) (vals := pairV) (fun _ => rfl) (by decide) h'
 cases p with
 | none =>
  have := h'.none_nil rfl
  subst this
  refine Fn.enter Tryz.func70 rfl Tryz.ntmps70 rfl (L := [(0, _)]) ⟨rfl, trivial⟩ fun base => ?_
  refine ge ?_
  refine H.slc0 61 2 ?_
  exact H.Ac rfl rfl (fun _ h => h) ⟨none, 0, rfl, rfl, rfl⟩
 | some a =>
  refine Fn.enter Tryz.func70 rfl Tryz.ntmps70 rfl (L := [(0, _)]) ⟨rfl, trivial⟩ fun base => ?_
  refine gZ ?_
  refine H.Ba rfl rfl rfl rfl (by decide) (by decide) rfl rfl fun eb => ?_
  refine H.asSlc (k := 0) (sz := 2) rfl (by decide) ?_
  refine gN ?_
  refine H.Bd (xs := []) rfl rfl rfl rfl rfl (fun p' c' => .here _ _ _) hs.cons (pairsV_one l) rfl (by omega) (by omega) fun p' c' => ?_
  rw [Nat.zero_add]
  refine ga ?_
  exact H.Ac rfl rfl (fun _ h => h) ⟨p', c', rfl, rfl, rfl⟩
theorem lown_fn {x : MV} (hx : x.Good f) : Fn Tryz.prog 56 [.agg x.vals.toArray] f F (fun v f' A' => ∃ p c, v = .agg (x.m.vals p c).toArray ∧ f' = f ∧ A' = qs p c x.m.body.q :: F) := by
 refine Fn.enter Tryz.func56 rfl Tryz.ntmps56 rfl (L := [(0, _)]) ⟨rfl, trivial⟩ fun base => ?_
 refine gC ?_
 refine H.box (ls := x.vals) rfl rfl rfl rfl fun mb => ?_
 refine H.Au (ls := msgZ.vals none 0) rfl rfl rfl fun ob => ?_
 refine gX ?_
 refine H.Ax rfl rfl rfl (cloneQ_fn f _ hx.1 hx.2.1) fun qp qc => ?_
 refine gX ?_
 refine H.Ah (ls := x.m.vals qp qc) rfl rfl rfl (Rd.ofRow (by repeat constructor)) rfl rfl ?_
 refine H.Ak (ls := msgZ.vals none 0) (vs := x.m.vals qp qc) (ls' := x.m.vals qp qc) rfl rfl rfl (zad rfl) rfl rfl (Nat.le_refl 121) (by repeat constructor) ?_
 refine ga ?_
 refine H.Ab (x := row mb _ _) (by repeat constructor) ?_
 refine H.Aa (x := row ob _ _) (by repeat constructor) ?_
 exact H.Bb rfl rfl rfl (Rd.ofRow (.here _ _ _)) rfl (fun _ s => s.drop (.here _ _)) ⟨qp, qc, rfl, rfl, rfl⟩
def AddP (f : Frag) (F : List HP) (lb n : Nat) (l : List MV) (m : Msg) : Value → Frag → List HP → Prop := fun v f' A' =>
 ∃ (g : Frag) (qp : Option Addr) (qc : Nat), v = .int .i64 (chk n (strm (l.map MV.m)) m) ∧ Dj f g ∧ f' = un f g ∧ A' = loreH f' lb n (if chk n (strm (l.map MV.m)) m = 0 then l ++ [⟨m, qp, qc⟩] else l) :: F
def AddQ (f : Frag) (F : List HP) (fl : Frag) (lb n : Nat) (l : List MV) (m : Msg) : Value → Frag → List HP → Prop := fun v f' A' =>
 ∃ (g : Frag) (qp : Option Addr) (qc : Nat), v = .int .i64 (chk n (strm (l.map MV.m)) m) ∧ Dj f g ∧ f' = un f g ∧ A' = loreH (un fl g) lb n (if chk n (strm (l.map MV.m)) m = 0 then l ++ [⟨m, qp, qc⟩] else l) :: F
theorem Dj.le {f g h : Frag} (h1 : Le f g) (h2 : Dj g h) : Dj f h := fun k => by
 rcases h2 k with e | e
 ·cases hf : f k with
  | none => exact .inl rfl
  | some o => rw [h1 k o hf] at e; cases e
 ·exact .inr e
set_option maxHeartbeats 3200000 in
theorem laddQ_fn (htab : TabAt f) {fl : Frag} (hfl : Le fl f) {lb n : Nat} {l : List MV} {x : MV} (hx : x.Good f) (hlen : l.length < 100000) :
  Fn Tryz.prog 19 [.pointer (some ⟨lb, 0, none⟩), .agg x.vals.toArray] f (loreH fl lb n l :: F) (AddQ f F fl lb n l x.m) := by
 by_cases hc : chk n (strm (l.map MV.m)) x.m = 0
 ·obtain ⟨z1, z2, z3, _, _⟩ := chk_zero hc
  refine Fn.unpack fun i0 hi0 => ?_
  refine Fn.imp (zar i0 hi0) ?_
  have hn := hi0.2.2.2
  obtain ⟨o, hoo, hoz, hon, ho11, ho1, ho2⟩ := fits_at z1 hn
  rw [hoo, strm_lenV] at z3
  have hsub : IntKind.i64.wrap (x.m.origin - 1) = ((o : Nat) : Int) := by rw [hoz]; exact wr_i64 (by omega)
  have hsl := strmV_le l o
  have hcnt : cnt (l.map MV.m) o = (strmV l o).length := strm_lenV l o
  refine Fn.enter Tryz.func19 rfl Tryz.ntmps19 rfl (L := [(0, _), (1, _)]) ⟨rfl, rfl, trivial⟩ fun base => ?_
  refine gC ?_
  refine H.box (ls := x.vals) rfl rfl rfl rfl fun mb => ?_
  refine gN ?_
  refine H.Ah (ls := x.vals) rfl rfl rfl (Rd.ofRow (.here _ _ _)) rfl rfl ?_
  refine H.Aa (x := loreH _ _ _ _) (by repeat constructor) ?_
  refine H.Af rfl rfl rfl (lcheck_fn f _ htab hx) ?_
  refine gG ?_
  rw [hc]
  skip
  refine H.loreOpen fun i hi => ?_
  unfold ordH
  have hstr := loreCells_str n l i ho11
  refine H.Aa (x := row mb _ _) (by repeat constructor) ?_
  refine H.Bj (by kernel_rfl) (by decide +kernel) (by repeat (first | exact zab | refine zaa ?_ | refine zac ?_ | refine zae ?_)) ?_
  refine gT ?_
  refine HQ.Ay (i := o) rfl rfl rfl hoz ho11 rfl ?_
  refine gS ?_
  refine gC ?_
  refine H.Bu [0, 1, 2, 3, 4, 5, 6, 7, 8, 9, 10, 11, 12, 13, 14] (by kernel_rfl) (by decide +kernel) (by repeat (first | exact zab | refine zaa ?_ | refine zac ?_ | refine zae ?_)) (S := [_, _]) rfl ?_
  refine HB.Ag [(0, false), (1, false), (2, false), (3, false), (4, false), (5, false), (6, false), (7, false), (8, false), (9, false), (10, false), (11, false), (12, false)] 5 (by kernel_rfl) ?_
  repeat (first | (apply HQ.ar; (iterate 4 exact rfl); exact hsub; exact rfl) | (refine HQ.Ae rfl rfl rfl (Rd1.at0 (Rd.ofRow (.there _ (.here _ _ _))) (by rw [Nat.mul_one, Nat.zero_add]; exact hstr)) rfl ?_) | ((first | apply HQ.Aj | apply HQ.Bf | apply HQ.Bo); (iterate 3 exact rfl)) | (apply HQ.Av; (iterate 3 exact rfl); exact inferInstance; exact rfl) | (apply HQ.Ae; (iterate 3 exact rfl); apply Rd1.ofRow; (repeat (first | exact .here _ _ _ | apply At.there)); (iterate 2 exact rfl)) | ((apply HQ.Bc); (iterate 5 exact rfl)))
  refine HQ.Ad rfl ?_
  refine HB.ev1 (i := 13) (by kernel_rfl) rfl ?_
  refine H.Ba (out := placeV (o, (strmV l o).length)) rfl rfl rfl rfl (by decide) (by decide) rfl rfl fun eb => ?_
  refine gC ?_
  refine H.Aa (x := row lb _ _) (by repeat constructor) ?_
  refine H.Aa (x := row mb _ _) (by repeat constructor) ?_
  refine H.on0 rfl ?_
  refine HB.ev1 (i := 14) (by kernel_rfl) rfl ?_
  have hpll : (placesOf (l.map MV.m)).length = l.length := by unfold placesOf; rw [placesFrom_len, List.length_map]
  refine H.Bd (xs := (placesOf (l.map MV.m)).flatMap placeV) (m := 1) (news := placeV (o, (strmV l o).length)) rfl rfl rfl rfl rfl (fun p' c' => (by repeat constructor)) (Src.slice (Rd.ofRow (by repeat constructor)) rfl) (zad rfl) rfl (by omega) (by omega) fun po2 co2 => ?_
  refine gC ?_
  refine H.Ab (x := row eb _ _) (by repeat constructor) ?_
  refine H.on0 rfl ?_
  refine HB.next [] (by kernel_rfl) (S' := []) rfl ?_
  refine HB.Ag [(15, false), (16, false)] 1 (by kernel_rfl) ?_
  refine gT ?_
  refine HQ.Ad rfl ?_
  refine HB.ev1 (i := 17) (by kernel_rfl) rfl ?_
  refine H.Bi (ls := loreC n (fun k => .slice (i.P k) (strmV l k).length (i.C k)) (.slice i.po l.length i.co)) (ls' := loreC n (fun k => .slice (i.P k) (strmV l k).length (i.C k)) (.slice po2 (l.length + 1) co2)) rfl rfl rfl rfl (.there _ (.here _ _ _)) (loreC_last _ _ _ _) ?_
  refine gC ?_
  refine H.on0 rfl ?_
  refine HB.Al (by kernel_rfl) ?_
  refine gC ?_
  refine H.Bu [0, 1, 2, 3, 4, 5, 6, 7] (by kernel_rfl) (by decide +kernel) (by repeat (first | exact zab | refine zaa ?_ | refine zac ?_ | refine zae ?_)) (S := [_, _]) rfl ?_
  refine HB.Ag [(0, false), (1, false), (2, false), (3, false), (4, false)] 5 (by kernel_rfl) ?_
  have hstr2 := loreC_str n (fun k => .slice (i.P k) (strmV l k).length (i.C k)) (.slice po2 (l.length + 1) co2) ho11
  repeat (first | (refine HQ.Ae rfl rfl rfl (Rd1.at0 (Rd.ofRow (.there _ (.here _ _ _))) (by rw [Nat.mul_one, Nat.zero_add]; exact hstr2)) rfl ?_) | (refine HQ.Ah (ls := x.vals) rfl rfl rfl (Rd.ofRow (.here _ _ _)) rfl rfl ?_) | ((first | apply HQ.Aj | apply HQ.Bf); (iterate 3 exact rfl)))
  refine HQ.Ad rfl ?_
  refine HB.ev1 (i := 5) (by kernel_rfl) rfl ?_
  refine H.Ax rfl rfl rfl (lown_fn f _ hx) fun qp qc => ?_
  refine gC ?_
  refine H.freeze (.here _ _) fun g hg hd => ?_
  refine H.on [] (Le.un f g) rfl ?_
  refine HB.ev1 (i := 6) (by kernel_rfl) rfl ?_
  refine H.Ba (out := x.m.vals qp qc) rfl rfl rfl rfl (by decide) (by decide) rfl rfl fun eb => ?_
  refine gC ?_
  refine H.Aa (x := row lb _ _) (by repeat constructor) ?_
  refine H.Aa (x := row mb _ _) (by repeat constructor) ?_
  refine H.on0 rfl ?_
  refine HB.ev1 (i := 7) (by kernel_rfl) rfl ?_
  refine H.Aa (x := fam (strH l i) 11) (by repeat constructor) ?_
  refine H.Cf ho11 ?_
  unfold strH
  refine H.Bd (xs := (strmV l o).flatMap MV.vals) (m := 1) (news := x.m.vals qp qc) rfl rfl rfl rfl rfl (fun p' c' => .here _ _ _) (Src.slice (Rd.ofRow (by repeat constructor)) rfl) (zad rfl) rfl (by omega) (by omega) fun p2 c2 => ?_
  refine gC ?_
  refine H.Ab (x := row eb _ _) (by repeat constructor) ?_
  refine H.famPut ho11 ?_
  refine H.Aa (x := row lb _ _) (by repeat constructor) ?_
  refine H.Aa (x := row mb _ _) (by repeat constructor) ?_
  refine H.on0 rfl ?_
  refine HB.next [] (by kernel_rfl) (S' := []) rfl ?_
  refine HB.Ag [(8, false)] 1 (by kernel_rfl) ?_
  refine gD ?_
  refine HQ.Ad rfl ?_
  refine HB.ev1 (i := 9) (by kernel_rfl) rfl ?_
  refine H.Bi (ls := loreC n (fun k => .slice (i.P k) (strmV l k).length (i.C k)) (.slice po2 (l.length + 1) co2)) (ls' := loreC n (updF (fun k => .slice (i.P k) (strmV l k).length (i.C k)) o (.slice p2 ((strmV l o).length + 1) c2)) (.slice po2 (l.length + 1) co2)) rfl rfl rfl rfl (.there _ (.here _ _ _)) (by rw [Nat.mul_one, Nat.zero_add]; exact loreC_mid _ _ _ _ ho11) ?_
  refine gC ?_
  refine H.on0 rfl ?_
  refine HB.Al (by kernel_rfl) ?_
  refine ga ?_
  refine H.Ab (x := row mb _ _) (by repeat constructor) ?_
  have hxg : (⟨x.m, qp, qc⟩ : MV).Good (un fl g) := ⟨QAt.mono (Le.right (Dj.le hfl hd)) (qs_qat0 hg), hx.2⟩
  refine H.imp (lore_after (x := ⟨x.m, qp, qc⟩) hoo (loreφ_snoc (Le.un fl g) hi hlen hc hxg)) ?_
  refine H.Ac rfl rfl (fun _ h => h) ⟨g, qp, qc, ?_, hd, rfl, ?_⟩
  ·rw [hc]
  ·rw [if_pos hc]; rfl
 ·have hA : Fn Tryz.prog 19 [.pointer (some ⟨lb, 0, none⟩), .agg x.vals.toArray] f (loreH fl lb n l :: F) (Ret (.int .i64 (chk n (strm (l.map MV.m)) x.m)) f (loreH fl lb n l :: F)) := by
   refine Fn.enter Tryz.func19 rfl Tryz.ntmps19 rfl (L := [(0, _), (1, _)]) ⟨rfl, rfl, trivial⟩ fun base => ?_
   refine gC ?_
   refine H.box (ls := x.vals) rfl rfl rfl rfl fun mb => ?_
   refine gN ?_
   refine H.Ah (ls := x.vals) rfl rfl rfl (Rd.ofRow (.here _ _ _)) rfl rfl ?_
   refine H.Aa (x := loreH _ _ _ _) (by repeat constructor) ?_
   refine H.Af rfl rfl rfl (lcheck_fn f _ htab hx) ?_
   refine gJ ?_
   refine H.Ab (x := row mb _ _) (by repeat constructor) ?_
   exact H.Ac rfl rfl (fun _ h => h) ⟨rfl, rfl, rfl⟩
  refine Fn.monoA hA ?_
  rintro v f' A' ⟨rfl, rfl, rfl⟩
  refine ⟨_, ⟨nil0, none, 0, rfl, Dj.nil _, (un_nil _).symm, rfl⟩, ?_⟩
  rw [if_neg hc]
  rintro y ⟨h1, h2, h3, h4, h5, h6⟩
  exact ⟨h1, h2, h3, h4, loreH_mono (Le.un fl nil0) _ h5, h6⟩
theorem ladd_fn (htab : TabAt f) {fl : Frag} (hfl : Le fl f) {lb n : Nat} {l : List MV} {x : MV} (hx : x.Good f) (hlen : l.length < 100000) :
  Fn Tryz.prog 19 [.pointer (some ⟨lb, 0, none⟩), .agg x.vals.toArray] f (loreH fl lb n l :: F) (AddP f F lb n l x.m) := by
 refine Fn.monoA (laddQ_fn f F htab hfl hx hlen) ?_
 rintro v f' A' ⟨g, qp, qc, e1, e2, rfl, rfl⟩
 refine ⟨_, ⟨g, qp, qc, e1, e2, rfl, rfl⟩, ?_⟩
 rintro y ⟨h1, h2, h3, h4, h5, h6⟩
 refine ⟨h1, h2, h3, h4, loreH_mono (fun k o hk => ?_) _ h5, h6⟩
 unfold un at hk ⊢
 cases hfk : fl k with
 | none =>
  rw [hfk] at hk
  rcases e2 k with e | e
  ·rw [e]; exact hk
  ·have hk2 : g k = some o := hk
   rw [e] at hk2; cases hk2
 | some o' =>
  rw [hfk] at hk
  rw [hfl k o' hfk]
  exact hk
end
theorem take_cons_drop {α : Type} {l : List α} {k : Nat} {y : α} (h : l[k]? = some y) : l = l.take k ++ y :: l.drop (k + 1) := by
 have h1 := zbe h
 have h2 := (List.take_append_drop (k + 1) l).symm
 rw [h1, List.append_assoc] at h2
 exact h2
theorem strmV_at {l : List MV} {k : Nat} {y : MV} (h : l[k]? = some y) : (strmV l (orgI y.m))[cnt ((l.map MV.m).take k) (orgI y.m)]? = some y := by
 have e := take_cons_drop h
 have h1 : strmV l (orgI y.m) = strmV (l.take k) (orgI y.m) ++ y :: strmV (l.drop (k + 1)) (orgI y.m) := by
  rw [e]
  unfold strmV
  rw [List.filter_append, List.filter_cons, if_pos (by simp)]
  rw [← e]
 have h2 : cnt ((l.map MV.m).take k) (orgI y.m) = (strmV (l.take k) (orgI y.m)).length := by rw [strmV_len, List.map_take]
 rw [h1, h2, List.getElem?_append_right (Nat.le_refl _), Nat.sub_self]
 rfl
section
variable (f : Frag) (F : List HP)
end
def msL (p : Option Addr) (c : Nat) (l : List MV) : HP := slc p l.length c 47 121 (l.flatMap MV.vals)
def sinceM (v : Nat → Int) (most : Int) (l : List Msg) : List Msg := (unk v l).take most.toNat
def SinceP (f : Frag) (A : List HP) (ms : List Msg) : Value → Frag → List HP → Prop := fun v f' A' =>
 ∃ (g : Frag) (p : Option Addr) (c : Nat) (R : List MV), v = .slice p R.length c ∧ R.map MV.m = ms ∧ (∀ y ∈ R, y.Good (un f g)) ∧ Dj f g ∧ f' = un f g ∧ A' = msL p c R :: A
theorem unk_snoc (u : Nat → Int) (l : List Msg) (m : Msg) : unk u (l ++ [m]) = if u (orgI m) < m.number then unk u l ++ [m] else unk u l := by
 unfold unk
 rw [List.filter_append]
 by_cases h : u (orgI m) < m.number
 ·rw [if_pos h, List.filter_cons, if_pos (decide_eq_true h)]; rfl
 ·rw [if_neg h, List.filter_cons, if_neg (by rw [decide_eq_false h]; decide)]; simp
theorem Dj.un3' {f g h : Frag} (h1 : Dj f g) (h2 : Dj (un f g) h) : Dj f (un g h) := Dj.un_right.2 ⟨h1, (Dj.un_left.1 h2).1⟩
theorem slc_snoc {p : Option Addr} {c : Nat} {T : TypeId} {R : List MV} {y : MV} : slc p (R.length + 1) c T 121 (R.flatMap MV.vals ++ y.vals) = slc p (R ++ [y]).length c T 121 ((R ++ [y]).flatMap MV.vals) := by
 rw [List.length_append, List.flatMap_append]
 show _ = slc p (R.length + 1) c T 121 (R.flatMap MV.vals ++ (y.vals ++ []))
 rw [List.append_nil]
theorem unk_take_more {u : Nat → Int} {l : List Msg} {k n : Nat} (h : n ≤ (unk u (l.take k)).length) : (unk u l).take n = (unk u (l.take k)).take n := by
 have e : unk u l = unk u (l.take k) ++ unk u (l.drop k) := by
  unfold unk
  rw [← List.filter_append, List.take_append_drop]
 rw [e, List.take_append_of_le_length h]
section
variable (f : Frag) (F : List HP)
set_option maxRecDepth 20000 in
set_option maxHeartbeats 3200000 in
theorem lsince_fn {fl : Frag} (hfl : Le fl f) {lb n : Nat} {l : List MV} {v : Nat → Int} {most : Int} :
  Fn Tryz.prog 21 [.pointer (some ⟨lb, 0, none⟩), .agg (v11 v).toArray, .int .i64 most] f (loreH fl lb n l :: F) (SinceP f (loreH fl lb n l :: F) (sinceM v most (l.map MV.m))) := by
 refine Fn.unpack fun i hi => ?_
 obtain ⟨P, C, po, co⟩ := i
 have hn := hi.2.2.2
 have hll := hi.2.1
 refine Fn.enter Tryz.func21 rfl Tryz.ntmps21 rfl (L := [(0, _), (1, _), (2, _)]) ⟨rfl, rfl, rfl, trivial⟩ fun base => ?_
 refine gC ?_
 refine H.box (ls := v11 v) rfl rfl rfl rfl fun vb => ?_
 refine gZ ?_
 unfold ordH
 refine H.slc0 47 121 ?_
 refine H.Aa (x := row vb _ _) (by repeat constructor) ?_
 refine H.Aw (ι := Nat × List MV × Frag × Option Addr × Nat) (fun s => [(16, .int .i64 (s.1 : Int)), (15, .int .i64 (l.length : Nat)), (14, .slice po l.length co), (6, .slice s.2.2.2.1 s.2.1.length s.2.2.2.2), (0, .pointer (some ⟨lb, 0, none⟩)), (2, .int .i64 most), (4, .pointer (some ⟨vb, 0, none⟩))]) (fun s => un f s.2.2.1)
  (fun s => row vb 37 (v11 v) :: slc s.2.2.2.1 s.2.1.length s.2.2.2.2 47 121 (s.2.1.flatMap MV.vals) :: row lb 120 (loreCells n l ⟨P, C, po, co⟩) :: fam (strH l ⟨P, C, po, co⟩) 11 :: slc po l.length co 123 2 ((placesOf (l.map MV.m)).flatMap placeV) :: F)
  (fun s => s.1 ≤ l.length ∧ s.2.1.map MV.m = unk v ((l.map MV.m).take s.1) ∧ s.2.1.length ≤ most.toNat ∧ (∀ y ∈ s.2.1, y.Good (un f s.2.2.1)) ∧ Dj f s.2.2.1) (fun s => l.length - s.1)
  (0, [], nil0, none, 0) ⟨Nat.zero_le _, rfl, Nat.zero_le _, (fun y hy => by cases hy), Dj.nil f⟩ ⟨rfl, rfl, rfl, rfl, rfl, rfl, rfl, trivial⟩ (un_nil f).symm rfl fun s hs => ?_
 obtain ⟨k, R, G, p, c⟩ := s
 obtain ⟨hk, hR, hRm, hRg, hdj⟩ : k ≤ l.length ∧ R.map MV.m = unk v ((l.map MV.m).take k) ∧ R.length ≤ most.toNat ∧ (∀ y ∈ R, y.Good (un f G)) ∧ Dj f G := hs
 have hRl : R.length ≤ l.length := by
  have h1 := congrArg List.length hR
  rw [List.length_map] at h1
  have h2 : (unk v ((l.map MV.m).take k)).length ≤ ((l.map MV.m).take k).length := List.length_filter_le _ _
  rw [List.length_take, List.length_map] at h2
  omega
 show H _ _ _ [(16, .int .i64 (k : Int)), _, _, (6, .slice p R.length c), _, _, _] (un f G) (_ :: slc p R.length c _ 121 (R.flatMap MV.vals) :: _ :: _ :: _ :: F) _
 by_cases hlt : k < l.length
 ·obtain ⟨y, hy⟩ : ∃ y, l[k]? = some y := ⟨_, List.getElem?_eq_getElem hlt⟩
  have hym : (l.map MV.m)[k]? = some y.m := by rw [List.getElem?_map, hy]; rfl
  have hyl := List.mem_of_getElem? hy
  have hpl := placesOf_get hym
  have hst := strmV_at hy
  have hnum := (chk_zero (hi.2.2.1 k y.m hym)).2.2.1
  have horg := hi.2.2.1.org (List.mem_of_getElem? hym)
  have hyg : y.Good (un f G) := ((hi.1 y hyl).mono hfl).mono (Le.un f G)
  have hnext : (l.map MV.m).take (k + 1) = (l.map MV.m).take k ++ [y.m] := zbe hym
  have hunk := unk_snoc v ((l.map MV.m).take k) y.m
  rw [← hnext] at hunk
  have ho11 : orgI y.m < 11 := by unfold orgI; omega
  have hal : cnt ((l.map MV.m).take k) (orgI y.m) < (strmV l (orgI y.m)).length := by
   rcases Nat.lt_or_ge (cnt ((l.map MV.m).take k) (orgI y.m)) (strmV l (orgI y.m)).length with h | h
   ·exact h
   ·rw [List.getElem?_eq_none h] at hst; cases hst
  have hsl := strmV_le l (orgI y.m)
  have hnum2 : y.m.number = ((cnt ((l.map MV.m).take k) (orgI y.m) + 1 : Nat) : Int) := hnum
  clear hnum horg
  generalize cnt ((l.map MV.m).take k) (orgI y.m) = a at *
  generalize orgI y.m = o at *
  have hstr := loreCells_str n l ⟨P, C, po, co⟩ ho11
  refine H.Aa (x := slc po _ co _ _ _) (by repeat constructor) ?_
  refine H.Bq (p := po) (n0 := l.length) (c := co) (.here _ _ _) (by omega) fun ob hpo => ?_
  subst hpo
  refine gJ ?_
  refine H.Ar (i := k) rfl rfl rfl rfl hlt rfl ?_
  refine H.Ah (ls := placeV (o, a)) rfl rfl rfl (by rw [Nat.zero_add]; exact Rd.slcElem (vals := placeV) (fun _ => rfl) (by decide) (.here _ _ _) hpl) rfl rfl ?_
  refine H.Au (ls := placeV (0, 0)) rfl rfl rfl fun tb => ?_
  refine H.Ak (ls := placeV (0, 0)) (vs := placeV (o, a)) (ls' := placeV (o, a)) rfl rfl rfl (zad rfl) rfl rfl (Nat.le_refl 2) (.here _ _ _) ?_
  by_cases hm : most ≤ (R.length : Nat)
  ·refine gQ ?_
   refine H.Ab (x := row tb _ _) (by repeat constructor) ?_
   refine H.Ab (x := row vb _ _) (by repeat constructor) ?_
   refine H.Aa (x := slc (some ⟨ob, 0, none⟩) _ co _ _ _) (by repeat constructor) ?_
   refine H.Aa (x := fam _ 11) (by repeat constructor) ?_
   refine H.Aa (x := row lb _ _) (by repeat constructor) ?_
   refine H.imp (zar (F := slc p R.length c 47 121 (R.flatMap MV.vals) :: F) ⟨P, C, some ⟨ob, 0, none⟩, co⟩ hi) ?_
   refine H.Aa (x := slc p _ c _ _ _) (by repeat constructor) ?_
   refine H.Ac rfl rfl (fun _ h => h) ⟨G, p, c, R, rfl, ?_, hRg, hdj, rfl, rfl⟩
   have h1 := congrArg List.length hR
   rw [List.length_map] at h1
   have h2 : most.toNat = R.length := by omega
   unfold sinceM
   rw [unk_take_more (k := k) (by omega), ← hR, List.take_of_length_le (by rw [List.length_map]; omega)]
  ·have h48 : ¬ (most ≤ (R.length : Nat)) := hm
   refine gG ?_
   refine H.Bj (by kernel_rfl) (by decide +kernel) (by repeat (first | exact zab | refine zaa ?_ | refine zac ?_ | refine zae ?_)) ?_
   refine gT ?_
   refine HQ.Ay (i := o) rfl rfl rfl rfl ho11 rfl ?_
   refine HQ.Ae rfl rfl rfl (.of (Rd.ofRow (by repeat constructor)) (by rw [Nat.mul_one]; exact zao v ho11)) rfl ?_
   refine gc ?_
   by_cases hv : v o ≤ (a : Nat)
   ·rw [if_pos (by omega)] at hunk
    refine gJ ?_
    refine H.Aa (x := fam _ 11) (by repeat constructor) ?_
    refine H.Cf ho11 ?_
    refine H.Bq (p := P o) (n0 := (strmV l o).length) (c := C o) (.here _ _ _) (by omega) fun sb hp => ?_
    have hrd : ∀ {f G}, Rd f (strH l ⟨P, C, some ⟨ob, 0, none⟩, co⟩ o :: G) sb (a * 121) y.vals := fun {f G} => by
     unfold strH
     show Rd f (slc (P o) _ _ _ _ _ :: G) _ _ _
     rw [hp]
     exact Rd.slcElem MV.len (by decide) (.here _ _ _) hst
    have hstr : (loreCells n l ⟨P, C, some ⟨ob, 0, none⟩, co⟩)[1 + o]? = some (.slice (some ⟨sb, 0, none⟩) (strmV l o).length (C o)) := by rw [hstr]; show some (Value.slice (P o) _ _) = _; rw [hp]
    refine H.Aa (x := row lb _ _) (by repeat constructor) ?_
    refine H.Aa (x := row tb _ _) (by repeat constructor) ?_
    refine H.Aa (x := strH l _ o) (by repeat constructor) ?_
    refine H.Az (by kernel_rfl) (by decide +kernel) (by repeat (first | exact zab | refine zaa ?_ | refine zac ?_ | refine zae ?_)) (S := [_, _, _]) rfl ?_
    refine HB.Ag [(0, false), (1, false), (2, false), (3, false), (4, false), (5, false), (6, false), (7, false), (8, false), (9, false), (10, false), (11, false)] 4 (by kernel_rfl) ?_
    refine gT ?_
    refine HQ.Ay (i := o) rfl rfl rfl rfl ho11 rfl ?_
    refine HQ.Ae rfl rfl rfl (Rd1.at0 (Rd.ofRow (.there _ (.there _ (.here _ _ _)))) (by rw [Nat.mul_one, Nat.zero_add]; exact hstr)) rfl ?_
    refine gT ?_
    refine HQ.Ar (i := a) rfl rfl rfl rfl hal rfl ?_
    refine HQ.Ah (ls := y.vals) rfl rfl rfl (by rw [Nat.zero_add]; exact hrd) rfl rfl ?_
    refine HQ.Ad rfl ?_
    refine HB.ev1 (i := 12) (by kernel_rfl) rfl ?_
    refine H.Ax rfl rfl rfl (lown_fn _ _ hyg) fun qp qc => ?_
    refine gC ?_
    refine H.freeze (.here _ _) fun g hg hd => ?_
    refine H.on [] (Le.un _ g) rfl ?_
    refine HB.ev1 (i := 13) (by kernel_rfl) rfl ?_
    refine H.Ba (out := y.m.vals qp qc) rfl rfl rfl rfl (by decide) (by decide) rfl rfl fun eb => ?_
    refine gC ?_
    refine H.Aa (x := row lb _ _) (by repeat constructor) ?_
    refine H.Aa (x := row tb _ _) (by repeat constructor) ?_
    refine H.Aa (x := strH l _ o) (by repeat constructor) ?_
    refine H.on0 rfl ?_
    refine HB.ev1 (i := 14) (by kernel_rfl) rfl ?_
    refine H.Bd (p := p) (c := c) (xs := R.flatMap MV.vals) (m := 1) (news := y.m.vals qp qc) rfl rfl rfl rfl rfl (fun p' c' => (by repeat constructor)) (Src.slice (Rd.ofRow (by repeat constructor)) rfl) (zad rfl) rfl (by omega) (by omega) fun p2 c2 => ?_
    refine gC ?_
    refine H.on0 rfl ?_
    refine HB.Ag [(15, false)] 0 (by kernel_rfl) ?_
    refine gD ?_
    refine HQ.Ad rfl ?_
    refine HB.Al (by kernel_rfl) ?_
    refine gW ?_
    refine H.Ab (x := row eb _ _) (by repeat constructor) ?_
    refine H.Ab (x := row tb _ _) (by repeat constructor) ?_
    refine H.Aa (x := slc (some ⟨ob, 0, none⟩) _ co _ _ _) (by repeat constructor) ?_
    refine H.Aa (x := fam _ 11) (by repeat constructor) ?_
    refine H.Aa (x := strH l _ o) (by repeat constructor) ?_
    refine H.Ck ho11 ?_
    refine H.Aa (x := row lb _ _) (by repeat constructor) ?_
    refine H.Aa (x := slc p2 _ c2 _ _ _) (by repeat constructor) ?_
    refine H.Aa (x := row vb _ _) (by repeat constructor) ?_
    have hyg2 : (⟨y.m, qp, qc⟩ : MV).Good (un (un f G) g) := ⟨qs_qat hg hd, hyg.2⟩
    refine H.Am (k + 1, R ++ [⟨y.m, qp, qc⟩], un G g, p2, c2) ⟨by show k + 1 ≤ l.length; omega, ?_, ?_, fun z hz => ?_, Dj.un3' hdj hd⟩ (by show l.length - (k + 1) < l.length - k; omega) ⟨rfl, rfl, rfl, ?_, rfl, rfl, rfl, trivial⟩ (un_assoc _ _ _) ?_
    ·show (R ++ [(⟨y.m, qp, qc⟩ : MV)]).map MV.m = _
     rw [List.map_append, hR, hunk]; rfl
    ·show (R ++ [(⟨y.m, qp, qc⟩ : MV)]).length ≤ _
     rw [List.length_append]; show R.length + 1 ≤ _; omega
    ·have hz : z ∈ R ++ [(⟨y.m, qp, qc⟩ : MV)] := hz
     show z.Good (un f (un G g))
     rw [← un_assoc]
     rcases List.mem_append.1 hz with hz | hz
     ·exact (hRg z hz).mono (Le.un _ _)
     ·rw [List.mem_singleton] at hz; subst hz; exact hyg2
    ·show some (Value.slice p2 (R.length + 1) c2) = some (Value.slice p2 (R ++ [(⟨y.m, qp, qc⟩ : MV)]).length c2)
     rw [List.length_append]; rfl
    ·show _ :: slc p2 (R.length + 1) c2 _ 121 (R.flatMap MV.vals ++ (⟨y.m, qp, qc⟩ : MV).vals) :: _ = _ :: slc p2 (R ++ [(⟨y.m, qp, qc⟩ : MV)]).length c2 _ 121 ((R ++ [(⟨y.m, qp, qc⟩ : MV)]).flatMap MV.vals) :: _
     rw [slc_snoc]
   ·rw [if_neg (by omega)] at hunk
    refine gL ?_
    refine H.Ab (x := row tb _ _) (by repeat constructor) ?_
    refine H.Aa (x := slc (some ⟨ob, 0, none⟩) _ co _ _ _) (by repeat constructor) ?_
    refine H.Aa (x := fam _ 11) (by repeat constructor) ?_
    refine H.Aa (x := row lb _ _) (by repeat constructor) ?_
    refine H.Aa (x := slc p _ c _ _ _) (by repeat constructor) ?_
    refine H.Aa (x := row vb _ _) (by repeat constructor) ?_
    refine H.Am (k + 1, R, G, p, c) ⟨by show k + 1 ≤ l.length; omega, by show R.map MV.m = _; rw [hR, hunk], hRm, hRg, hdj⟩ (by show l.length - (k + 1) < l.length - k; omega) ⟨rfl, rfl, rfl, rfl, rfl, rfl, rfl, trivial⟩ rfl rfl
 ·have e : k = l.length := by omega
  subst e
  refine gG ?_
  refine H.Ab (x := row vb _ _) (by repeat constructor) ?_
  refine H.Aa (x := slc po _ co _ _ _) (by repeat constructor) ?_
  refine H.Aa (x := fam _ 11) (by repeat constructor) ?_
  refine H.Aa (x := row lb _ _) (by repeat constructor) ?_
  refine H.imp (zar (F := slc p R.length c 47 121 (R.flatMap MV.vals) :: F) ⟨P, C, po, co⟩ hi) ?_
  refine H.Aa (x := slc p _ c _ _ _) (by repeat constructor) ?_
  refine H.Ac rfl rfl (fun _ h => h) ⟨G, p, c, R, rfl, ?_, hRg, hdj, rfl, rfl⟩
  have e2 : (l.map MV.m).take l.length = l.map MV.m := List.take_of_length_le (by rw [List.length_map]; exact Nat.le_refl _)
  rw [e2] at hR
  unfold sinceM
  rw [← hR, List.take_of_length_le (by rw [List.length_map]; omega)]
end
section
variable (f : Frag) (F : List HP)
theorem rclient_fn {i : Int} (h1 : 1 ≤ i) (h2 : i ≤ 8) : Fn Tryz.prog 97 [.int .i64 i] f F (BytesR (Sha.word32 clientW i) f F) := by
 refine Fn.enter Tryz.func97 rfl Tryz.ntmps97 rfl (L := [(0, _)]) ⟨rfl, trivial⟩ fun base => ?_
 refine gN ?_
 refine H.Ax rfl rfl rfl (rkey_fn (w := ⟨#[114, 97, 116, 99, 104, 101, 116, 32, 99, 108, 105, 101, 110, 116]⟩) f _ h1 h2 (by decide) (by decide)) fun p1 c1 => ?_
 refine ga ?_
 exact H.Ac rfl rfl (fun _ h => h) ⟨p1, c1, rfl, rfl, rfl⟩
set_option maxHeartbeats 800000 in
theorem rsigned_fn (r : Req) : Fn Tryz.prog 76 [.agg r.vals.toArray] f F (Ret (.agg r.signed.vals.toArray) f F) := by
 have has := fun G => rasked_fn f G r
 unfold Req.signed
 by_cases ha : r.asked
 ·have hbl := Req.bytes_max ha
  have hcl := fun G => rclient_fn f G ha.1 ha.2.1
  have hrq := fun G p c => rrequest_fn f G (p := p) (c := c) (l := []) r ha (by decide)
  have hk : (Sha.word32 clientW r.client).length = 32 := rfl
  rw [if_pos ha]
  rw [decide_eq_true ha] at has
  unfold Req.sig
  generalize Sha.word32 clientW r.client = key at hk hcl ⊢
  rw [show ([] : List UInt8) ++ r.bytes = r.bytes from rfl] at hrq
  generalize r.bytes = rb at hbl hrq ⊢
  refine Fn.enter Tryz.func76 rfl Tryz.ntmps76 rfl (L := [(0, _)]) ⟨rfl, trivial⟩ fun base => ?_
  refine gC ?_
  refine H.box (ls := r.vals) rfl rfl rfl rfl fun qb => ?_
  refine H.Au (ls := Req.zero.vals) rfl rfl rfl fun ob => ?_
  refine gC ?_
  refine H.Ah (ls := r.vals) rfl rfl rfl (Rd.ofRow (.there _ (.here _ _ _))) rfl rfl ?_
  refine H.Af rfl rfl rfl (has _) ?_
  refine ge ?_
  refine H.Aa (.there _ (.here _ _)) ?_
  refine H.Bu [0, 1, 2, 3, 4, 5] (by kernel_rfl) (by decide +kernel) (by repeat (first | exact zab | refine zaa ?_ | refine zac ?_ | refine zae ?_)) (S := [_]) rfl ?_
  refine HB.Ag [(0, false), (1, false), (3, false)] 5 (by kernel_rfl) ?_
  refine gT ?_
  refine HQ.Ah (ls := r.vals) rfl rfl rfl (Rd.ofRow (.here _ _ _)) rfl rfl ?_
  refine HQ.Ad rfl ?_
  refine HB.ev1 (i := 2) (by kernel_rfl) rfl ?_
  refine H.Ax rfl rfl rfl (hcl _) fun p1 c1 => ?_
  refine gC ?_
  refine H.Aa (.there _ (.here _ _)) ?_
  refine H.on0 rfl ?_
  refine HB.ev1 (i := 4) (by kernel_rfl) rfl ?_
  refine H.slc0 5 1 ?_
  refine H.Ax rfl rfl rfl (hrq _ none 0) fun p2 c2 => ?_
  refine gC ?_
  refine H.Aa (x := row qb _ _) (by repeat constructor) ?_
  refine H.on0 rfl ?_
  refine HB.ev1 (i := 5) (by kernel_rfl) rfl ?_
  refine H.Af rfl rfl rfl (hmac_fn f _ (key := key) (b := rb) (fun G => Src.append (Src.slcS (by repeat constructor) (by rw [zaf]; exact (Nat.mul_one _).symm))) (fun G => Src.append (Src.slcS (by repeat constructor) (by rw [zaf]; exact (Nat.mul_one _).symm))) (by omega) (by omega)) ?_
  generalize Sha.hmac key rb = t
  refine gC ?_
  refine H.on0 rfl ?_
  refine HB.next [] (by kernel_rfl) (S' := []) rfl ?_
  refine HB.Ag [(6, false)] 1 (by kernel_rfl) ?_
  refine gE ?_
  refine HQ.Ad rfl ?_
  refine HB.ev1 (i := 7) (by kernel_rfl) rfl ?_
  refine H.Ak (ls := r.vals) (vs := b32 t) (ls' := ({ r with tag := t } : Req).vals) rfl rfl rfl (zad rfl) rfl (splice_rtag r t) (by show 0 + 8 + 32 ≤ 40; decide) (.here _ _ _) ?_
  refine gC ?_
  refine H.on0 rfl ?_
  refine HB.Al (by kernel_rfl) ?_
  refine gC ?_
  refine H.Ah (ls := ({ r with tag := t } : Req).vals) rfl rfl rfl (Rd.ofRow (.here _ _ _)) rfl rfl ?_
  refine H.Ak (ls := Req.zero.vals) (vs := ({ r with tag := t } : Req).vals) (ls' := ({ r with tag := t } : Req).vals) rfl rfl rfl (zad rfl) rfl rfl (Nat.le_refl 40) (by repeat constructor) ?_
  refine ga ?_
  refine H.Ab (.here _ _) ?_
  refine H.Ab (.here _ _) ?_
  refine H.Ab (.here _ _) ?_
  exact H.Bb rfl rfl rfl (Rd.ofRow (.here _ _ _)) rfl (fun _ s => s.drop (.here _ _)) ⟨rfl, rfl, rfl⟩
 ·rw [if_neg ha]
  rw [decide_eq_false ha] at has
  refine Fn.enter Tryz.func76 rfl Tryz.ntmps76 rfl (L := [(0, _)]) ⟨rfl, trivial⟩ fun base => ?_
  refine gC ?_
  refine H.box (ls := r.vals) rfl rfl rfl rfl fun qb => ?_
  refine H.Au (ls := Req.zero.vals) rfl rfl rfl fun ob => ?_
  refine gC ?_
  refine H.Ah (ls := r.vals) rfl rfl rfl (Rd.ofRow (.there _ (.here _ _ _))) rfl rfl ?_
  refine H.Af rfl rfl rfl (has _) ?_
  refine gW ?_
  refine H.Ah (ls := r.vals) rfl rfl rfl (Rd.ofRow (.there _ (.here _ _ _))) rfl rfl ?_
  refine H.Ak (ls := Req.zero.vals) (vs := r.vals) (ls' := r.vals) rfl rfl rfl (zad rfl) rfl rfl (Nat.le_refl 40) (.here _ _ _) ?_
  refine ga ?_
  refine H.Ab (.there _ (.here _ _)) ?_
  exact H.Bb rfl rfl rfl (Rd.ofRow (.here _ _ _)) rfl (fun _ s => s.drop (.here _ _)) ⟨rfl, rfl, rfl⟩
end
theorem good_signed {m : Msg} {q : Option Addr} {c : Nat} {f : Frag} (h : (⟨m, q, c⟩ : MV).Good f) : (⟨m.signed, q, c⟩ : MV).Good f := by
 obtain ⟨h1, h2, h3⟩ := h
 refine ⟨?_, ?_, ?_⟩
 ·show QAt f q m.signed.body.q; rw [m.signed_parts.2.2.2]; exact h1
 ·show m.signed.body.q.length ≤ _; rw [m.signed_parts.2.2.2]; exact h2
 ·show m.signed.body.Ok; rw [m.signed_parts.2.2.2]; exact h3
theorem H.weakL {P : Program} {base : World} {n : Nat} {L : Env} {f g : Frag} {A : List HP} {K : Kont} (h : Le f g) (k : H P base n L f A K) : H P base n L g A K := .mk fun a w hf s => k.out a w hf (s.weak h)
theorem tab_mono {f g : Frag} (t : TabAt f) (h : Le f g) : TabAt g := IntsAt.mono h t
section
variable (f : Frag) (F : List HP)
end
section
variable (f : Frag) (F : List HP)
end
theorem zal {a b r : Nat} (h : a % b = r) : ((a : Nat) : Int).tmod ((b : Nat) : Int) = (r : Nat) := by rw [← h, Int.ofNat_tmod]
def BodP (f : Frag) (F : List HP) (b : Bod) : Value → Frag → List HP → Prop := fun v f' A' =>
 ∃ (g : Frag) (p : Option Addr) (c : Nat), v = .agg (b.vals p c).toArray ∧ QAt (un f g) p b.q ∧ Dj f g ∧ f' = un f g ∧ A' = F
section
variable (f : Frag) (F : List HP)
end
def peC (n : Nat) (vv : Nat → Nat → Int) : List Value := .int .i64 (n : Int) :: kRow 11 vv
theorem peC_len (n : Nat) (vv : Nat → Nat → Int) : (peC n vv).length = 122 := by unfold peC; rw [List.length_cons, kRow_len]
theorem peC_rd {f : Frag} {A A' : List HP} {pb n i : Nat} {T : TypeId} {vv : Nat → Nat → Int} (h : At A (row pb T (peC n vv)) A' (row pb T (peC n vv))) (hi : i < 11) : Rd f A pb (0 + 1 + i * 11) (v11 (vv i)) := by
 have h1 : Rd f A pb 0 (peC n vv) := Rd.ofRow h
 have h2 : Rd f A pb (0 + 1) (kRow 11 vv) := Rd.sub (pre := [.int .i64 (n : Int)]) (post := []) (by rw [List.append_nil]; exact h1) rfl
 intro base w s
 obtain ⟨cs, t, fr, h3, h4⟩ := h2 base w s
 refine ⟨cs, t, fr, h3, fun j hj => ?_⟩
 have hj : j < 11 := hj
 rw [Nat.add_assoc, h4 (i * 11 + j) (by rw [kRow_len]; omega), kRow_get hi hj, zao _ hj]
theorem peC_splice (n : Nat) (vv : Nat → Nat → Int) (v : Nat → Int) {i : Nat} (hi : i < 11) : splice (peC n vv) (0 + 1 + i * 11) (v11 v) = peC n (updF vv i v) := by
 have hl := peC_len n vv
 have hl2 := peC_len n (updF vv i v)
 have hv : (v11 v).length = 11 := rfl
 have ht : ((peC n vv).take (0 + 1 + i * 11)).length = 1 + i * 11 := by rw [List.length_take]; omega
 apply List.ext_getElem?
 intro j
 unfold splice
 by_cases h1 : j < 1 + i * 11
 ·rw [List.append_assoc, List.getElem?_append_left (by omega), List.getElem?_take_of_lt (by omega)]
  cases j with
  | zero => rfl
  | succ t =>
   show (kRow 11 vv)[t]? = (kRow 11 (updF vv i v))[t]?
   rw [kRow_at (by omega), kRow_at (by omega), zak _ _ (by omega)]
 ·by_cases h2 : j < 1 + i * 11 + 11
  ·rw [List.append_assoc, List.getElem?_append_right (by omega), ht, List.getElem?_append_left (by omega), zao v (show j - (1 + i * 11) < 11 by omega)]
   obtain ⟨t, rfl⟩ : ∃ t, j = t + 1 := ⟨j - 1, by omega⟩
   show _ = (kRow 11 (updF vv i v))[t]?
   rw [kRow_at (by omega), show t / 11 = i by omega, zag, show t % 11 = t + 1 - (1 + i * 11) by omega]
  ·rw [List.getElem?_append_right (by rw [List.length_append]; omega), List.length_append, ht, hv, List.getElem?_drop]
   rw [show 0 + 1 + i * 11 + 11 + (j - (1 + i * 11 + 11)) = j by omega]
   by_cases h3 : j < 122
   ·obtain ⟨t, rfl⟩ : ∃ t, j = t + 1 := ⟨j - 1, by omega⟩
    show (kRow 11 vv)[t]? = (kRow 11 (updF vv i v))[t]?
    rw [kRow_at (by omega), kRow_at (by omega), zak _ _ (by omega)]
   ·rw [List.getElem?_eq_none (by omega), List.getElem?_eq_none (by omega)]
section
variable (f : Frag) (F : List HP)
theorem gnew_no {z : Int} (h : ¬ fewZ z) : Fn Tryz.prog 45 [.int .i64 z] f F (Ret (.tuple #[.pointer none, .int .i64 1]) f F) := by
 refine Fn.enter Tryz.func45 rfl Tryz.ntmps45 rfl (L := [(0, _)]) ⟨rfl, trivial⟩ fun base => ?_
 refine gN ?_
 refine H.Af rfl rfl rfl (lnew_no f _ h) ?_
 refine gQ ?_
 exact H.ret2 rfl rfl rfl (fun _ h => h) ⟨rfl, rfl, rfl⟩
theorem gnew_fn {n : Nat} (h : fewZ (n : Int)) : Fn Tryz.prog 45 [.int .i64 (n : Int)] f F (RetE (fun pb : Nat => .tuple #[.pointer (some ⟨pb, 0, none⟩), .int .i64 0]) f (fun pb => row pb 148 (peC n fun _ _ => 0) :: F)) := by
 refine Fn.enter Tryz.func45 rfl Tryz.ntmps45 rfl (L := [(0, _)]) ⟨rfl, trivial⟩ fun base => ?_
 refine gN ?_
 refine H.callE rfl rfl rfl (lnew_fn f _ h) fun lb => ?_
 refine H.Ab (.here _ _) ?_
 repeat (first | (refine H.Bc (t := 148) (out := peC n fun _ _ => 0) rfl rfl rfl (by kernel_rfl) rfl ?_) | ((first | apply H.Aj | apply H.Ao); (iterate 3 exact rfl)) | (first | apply H.seq | apply H.Ap | apply H.nil | apply H.Aq) | ((apply H.cmp); (iterate 5 exact rfl)) | ((apply H.Cl); (iterate 4 exact rfl)) | (apply H.Ci; exact rfl) | (apply H.Bm))
 refine H.box (ls := peC n fun _ _ => 0) rfl rfl rfl rfl fun pb => ?_
 refine ga ?_
 exact H.ret2 rfl rfl rfl (fun _ h => h) ⟨pb, rfl, rfl, rfl⟩
theorem one18_fn {pb n : Nat} {vv : Nat → Nat → Int} (j : Int) : Fn Tryz.prog 75 [.pointer (some ⟨pb, 0, none⟩), .int .i64 j] f (row pb 148 (peC n vv) :: F) (Ret (.bool (decide (1 ≤ j ∧ j ≤ (n : Int)))) f (row pb 148 (peC n vv) :: F)) := by
 by_cases h1 : 1 ≤ j
 ·by_cases h2 : j ≤ (n : Int)
  ·rw [decide_eq_true ⟨h1, h2⟩]
   refine Fn.enter Tryz.func75 rfl Tryz.ntmps75 rfl (L := [(0, _), (1, _)]) ⟨rfl, rfl, trivial⟩ fun base => ?_
   refine gU ?_
   refine H.Ac rfl rfl (fun _ h => h) ⟨?_, rfl, rfl⟩
   first | rfl | (rw [decide_eq_true h2])
  ·rw [decide_eq_false (fun h => h2 h.2)]
   refine Fn.enter Tryz.func75 rfl Tryz.ntmps75 rfl (L := [(0, _), (1, _)]) ⟨rfl, rfl, trivial⟩ fun base => ?_
   refine gU ?_
   refine H.Ac rfl rfl (fun _ h => h) ⟨?_, rfl, rfl⟩
   first | rfl | (rw [decide_eq_false h2])
 ·rw [decide_eq_false (fun h => h1 h.1)]
  refine Fn.enter Tryz.func75 rfl Tryz.ntmps75 rfl (L := [(0, _), (1, _)]) ⟨rfl, rfl, trivial⟩ fun base => ?_
  refine gR ?_
  exact H.Ac rfl rfl (fun _ h => h) ⟨rfl, rfl, rfl⟩
theorem told_no {pb n : Nat} {vv : Nat → Nat → Int} {j : Int} (hj : ¬ (1 ≤ j ∧ j ≤ (n : Int))) (v : Nat → Int) : Fn Tryz.prog 46 [.pointer (some ⟨pb, 0, none⟩), .int .i64 j, .agg (v11 v).toArray] f (row pb 148 (peC n vv) :: F) (Ret (.int .i64 1) f (row pb 148 (peC n vv) :: F)) := by
 have hone := fun G => one18_fn f G (pb := pb) (n := n) (vv := vv) j
 rw [decide_eq_false hj] at hone
 refine Fn.enter Tryz.func46 rfl Tryz.ntmps46 rfl (L := [(0, _), (1, _), (2, _)]) ⟨rfl, rfl, rfl, trivial⟩ fun base => ?_
 refine gC ?_
 refine H.box (ls := v11 v) rfl rfl rfl rfl fun vb => ?_
 refine gZ ?_
 refine H.Aa (x := row pb _ _) (by repeat constructor) ?_
 refine H.Af rfl rfl rfl (hone _) ?_
 refine ge ?_
 refine H.Ab (x := row vb _ _) (by repeat constructor) ?_
 exact H.Ac rfl rfl (fun _ h => h) ⟨rfl, rfl, rfl⟩
theorem told_fn {pb n i : Nat} {vv : Nat → Nat → Int} (hi : i < n) (hn : n ≤ 11) (v : Nat → Int) : Fn Tryz.prog 46 [.pointer (some ⟨pb, 0, none⟩), .int .i64 ((i + 1 : Nat) : Int), .agg (v11 v).toArray] f (row pb 148 (peC n vv) :: F) (Ret (.int .i64 0) f (row pb 148 (peC n (updF vv i v)) :: F)) := by
 have hone := fun G => one18_fn f G (pb := pb) (n := n) (vv := vv) ((i + 1 : Nat) : Int)
 rw [decide_eq_true (by omega)] at hone
 have hi11 : i < 11 := by omega
 refine Fn.enter Tryz.func46 rfl Tryz.ntmps46 rfl (L := [(0, _), (1, _), (2, _)]) ⟨rfl, rfl, rfl, trivial⟩ fun base => ?_
 refine gC ?_
 refine H.box (ls := v11 v) rfl rfl rfl rfl fun vb => ?_
 refine gZ ?_
 refine H.Aa (x := row pb _ _) (by repeat constructor) ?_
 refine H.Af rfl rfl rfl (hone _) ?_
 refine gO ?_
 refine H.Bu [0, 1, 2, 3, 4, 5, 6] (by kernel_rfl) (by decide +kernel) (by repeat (first | exact zab | refine zaa ?_ | refine zac ?_ | refine zae ?_)) (S := [_, _]) rfl ?_
 refine HB.Ag [(0, false), (1, false), (2, false), (3, false), (4, false), (5, false), (6, false)] 1 (by kernel_rfl) ?_
 refine gT ?_
 refine HQ.Ah (ls := v11 v) rfl rfl rfl (Rd.ofRow (.there _ (.here _ _ _))) rfl rfl ?_
 refine gT ?_
 refine HQ.Ay (i := i) rfl rfl rfl (by omega) hi11 rfl ?_
 refine HQ.Ad rfl ?_
 refine HB.next [] (by kernel_rfl) (S' := []) rfl ?_
 refine HB.ev1 (i := 7) (by kernel_rfl) rfl ?_
 refine H.Ak (ls := peC n vv) (vs := v11 v) (ls' := peC n (updF vv i v)) rfl rfl rfl (zad rfl) rfl (peC_splice n vv v hi11) (by rw [peC_len]; show 0 + 1 + i * 11 + 11 ≤ 122; omega) (.here _ _ _) ?_
 refine gC ?_
 refine H.on0 rfl ?_
 refine HB.Al (by kernel_rfl) ?_
 refine ga ?_
 refine H.Ab (x := row vb _ _) (by repeat constructor) ?_
 exact H.Ac rfl rfl (fun _ h => h) ⟨rfl, rfl, rfl⟩
theorem lacks_fn {fl : Frag} (hfl : Le fl f) {pb n i lb m : Nat} {vv : Nat → Nat → Int} (hi : i < n) (hn : n ≤ 11) {l : List MV} {most : Int} :
  Fn Tryz.prog 50 [.pointer (some ⟨pb, 0, none⟩), .int .i64 ((i + 1 : Nat) : Int), .pointer (some ⟨lb, 0, none⟩), .int .i64 most] f (loreH fl lb m l :: row pb 148 (peC n vv) :: F) (SinceP f (loreH fl lb m l :: row pb 148 (peC n vv) :: F) (sinceM (vv i) most (l.map MV.m))) := by
 have hone := fun G => one18_fn f G (pb := pb) (n := n) (vv := vv) ((i + 1 : Nat) : Int)
 rw [decide_eq_true (by omega)] at hone
 have hi11 : i < 11 := by omega
 refine Fn.enter Tryz.func50 rfl Tryz.ntmps50 rfl (L := [(0, _), (1, _), (2, _), (3, _)]) ⟨rfl, rfl, rfl, rfl, trivial⟩ fun base => ?_
 refine gN ?_
 refine H.Aa (x := row pb _ _) (by repeat constructor) ?_
 refine H.Af rfl rfl rfl (hone _) ?_
 refine gf ?_
 refine H.Ay (i := i) rfl rfl rfl (by omega) hi11 rfl ?_
 refine H.Ah (ls := v11 (vv i)) rfl rfl rfl (peC_rd (.here _ _ _) hi11) rfl rfl ?_
 refine gN ?_
 refine H.Aa (x := loreH _ _ _ _) (by repeat constructor) ?_
 refine H.Bp rfl rfl rfl (lsince_fn f _ hfl (v := vv i) (most := most)) fun v f' A' hr => ?_
 obtain ⟨g, p, c, R, rfl, hR, hRg, hd, rfl, rfl⟩ := hr
 refine ga ?_
 exact H.Ac rfl rfl (fun _ h => h) ⟨g, p, c, R, rfl, hR, hRg, hd, rfl, rfl⟩
end
def vecW : Nat → Int
 | 0 => 3
 | 1 => 1
 | _ => 0
def vecO : Nat → Int
 | 0 => 1
 | _ => 0
section
variable (f : Frag) (F : List HP)
theorem of_fn {pb n i : Nat} {vv : Nat → Nat → Int} (hi : i < n) (hn : n ≤ 11) : Fn Tryz.prog 48 [.pointer (some ⟨pb, 0, none⟩), .int .i64 ((i + 1 : Nat) : Int)] f (row pb 148 (peC n vv) :: F) (Ret (.agg (v11 (vv i)).toArray) f (row pb 148 (peC n vv) :: F)) := by
 have hone := fun G => one18_fn f G (pb := pb) (n := n) (vv := vv) ((i + 1 : Nat) : Int)
 rw [decide_eq_true (by omega)] at hone
 have hi11 : i < 11 := by omega
 refine Fn.enter Tryz.func48 rfl Tryz.ntmps48 rfl (L := [(0, _), (1, _)]) ⟨rfl, rfl, trivial⟩ fun base => ?_
 refine gC ?_
 refine H.Au (ls := v11 fun _ => 0) rfl rfl rfl fun ob => ?_
 refine gN ?_
 refine H.Aa (x := row pb _ _) (by repeat constructor) ?_
 refine H.Af rfl rfl rfl (hone _) ?_
 refine gZ ?_
 refine H.Ay (i := i) rfl rfl rfl (by omega) hi11 rfl ?_
 refine H.Ah (ls := v11 (vv i)) rfl rfl rfl (peC_rd (.here _ _ _) hi11) rfl rfl ?_
 refine H.Ak (ls := v11 fun _ => 0) (vs := v11 (vv i)) (ls' := v11 (vv i)) rfl rfl rfl (zad rfl) rfl rfl (Nat.le_refl 11) (.there _ (.here _ _ _)) ?_
 refine gC ?_
 refine H.Ah (ls := v11 (vv i)) rfl rfl rfl (Rd.ofRow (.there _ (.here _ _ _))) rfl rfl ?_
 refine H.Ak (ls := v11 (vv i)) (vs := v11 (vv i)) (ls' := v11 (vv i)) rfl rfl rfl (zad rfl) rfl rfl (Nat.le_refl 11) (.there _ (.here _ _ _)) ?_
 refine ga ?_
 refine H.Aa (x := row ob _ _) (by repeat constructor) ?_
 exact H.Bb (ls := v11 (vv i)) rfl rfl rfl (Rd.ofRow (.here _ _ _)) rfl (fun _ s => s.drop (.here _ _)) ⟨rfl, rfl, rfl⟩
theorem of_no {pb n : Nat} {vv : Nat → Nat → Int} {j : Int} (hj : ¬ (1 ≤ j ∧ j ≤ (n : Int))) : Fn Tryz.prog 48 [.pointer (some ⟨pb, 0, none⟩), .int .i64 j] f (row pb 148 (peC n vv) :: F) (Ret (.agg (v11 fun _ => 0).toArray) f (row pb 148 (peC n vv) :: F)) := by
 have hone := fun G => one18_fn f G (pb := pb) (n := n) (vv := vv) j
 rw [decide_eq_false hj] at hone
 refine Fn.enter Tryz.func48 rfl Tryz.ntmps48 rfl (L := [(0, _), (1, _)]) ⟨rfl, rfl, trivial⟩ fun base => ?_
 refine gC ?_
 refine H.Au (ls := v11 fun _ => 0) rfl rfl rfl fun ob => ?_
 refine gN ?_
 refine H.Aa (x := row pb _ _) (by repeat constructor) ?_
 refine H.Af rfl rfl rfl (hone _) ?_
 refine gW ?_
 refine H.Ah (ls := v11 fun _ => 0) rfl rfl rfl (Rd.ofRow (.there _ (.here _ _ _))) rfl rfl ?_
 refine H.Ak (ls := v11 fun _ => 0) (vs := v11 fun _ => 0) (ls' := v11 fun _ => 0) rfl rfl rfl (zad rfl) rfl rfl (Nat.le_refl 11) (.there _ (.here _ _ _)) ?_
 refine ga ?_
 refine H.Aa (x := row ob _ _) (by repeat constructor) ?_
 exact H.Bb (ls := v11 fun _ => 0) rfl rfl rfl (Rd.ofRow (.here _ _ _)) rfl (fun _ s => s.drop (.here _ _)) ⟨rfl, rfl, rfl⟩
theorem works18_fn : Fn Tryz.prog 43 [] f F (Ret (.bool true) f F) := by
 have h3 : fewZ ((3 : Nat) : Int) := by decide
 have h13 : ¬ fewZ (13 : Int) := by decide
 have g1 := fun (F : List HP) (pb : Nat) (vv : Nat → Nat → Int) (v : Nat → Int) => (told_fn f F (pb := pb) (vv := vv) (n := 3) (i := 1) (by decide) (by decide) v : Fn Tryz.prog _ [_, .int .i64 2, _] _ _ _)
 have g2 := fun (F : List HP) (pb : Nat) (vv : Nat → Nat → Int) (v : Nat → Int) => (told_no f F (pb := pb) (vv := vv) (n := 3) (j := 4) (by decide) v : Fn Tryz.prog _ [_, .int .i64 4, _] _ _ _)
 have g3 := fun (F : List HP) (pb : Nat) (vv : Nat → Nat → Int) => (of_fn f F (pb := pb) (vv := vv) (n := 3) (i := 1) (by decide) (by decide) : Fn Tryz.prog _ [_, .int .i64 2] _ _ _)
 have g4 := fun (F : List HP) (pb : Nat) (vv : Nat → Nat → Int) => (of_no f F (pb := pb) (vv := vv) (n := 3) (j := 4) (by decide) : Fn Tryz.prog _ [_, .int .i64 4] _ _ _)
 refine Fn.enter Tryz.func43 rfl Tryz.ntmps43 rfl (L := []) trivial fun base => ?_
 refine gN ?_
 refine H.callE rfl rfl rfl (gnew_fn f _ (n := 3) h3) fun pb => ?_
 refine ge ?_
 refine H.Af rfl rfl rfl (gnew_no f _ h13) ?_
 repeat (first | (refine H.buildA (t := 37) (out := v11 vecW) rfl rfl rfl (by kernel_rfl) rfl ?_) | ((first | apply H.Aj | apply H.Ao); (iterate 3 exact rfl)) | (first | apply H.seq | apply H.Ap | apply H.nil | apply H.Aq) | ((apply H.cmp); (iterate 5 exact rfl)) | ((first | apply H.Be | apply H.Cl); (iterate 4 exact rfl)) | ((apply H.ptrNil); (iterate 5 exact rfl)) | (apply H.Ci; exact rfl) | (apply H.Bm))
 refine H.Aa (x := row pb _ _) (by repeat constructor) ?_
 refine H.Af rfl rfl rfl (g1 _ pb _ vecW) ?_
 repeat (first | (refine H.buildA (t := 37) (out := v11 vecO) rfl rfl rfl (by kernel_rfl) rfl ?_) | ((first | apply H.Aj | apply H.Ao); (iterate 3 exact rfl)) | (first | apply H.seq | apply H.Ap | apply H.nil | apply H.Aq))
 refine H.Af rfl rfl rfl (g1 _ pb _ vecO) ?_
 repeat (first | (refine H.buildA (t := 37) (out := v11 fun _ => 0) rfl rfl rfl (by kernel_rfl) rfl ?_) | ((first | apply H.Aj | apply H.Ao); (iterate 3 exact rfl)) | (first | apply H.seq | apply H.Ap | apply H.nil | apply H.Aq))
 refine H.Af rfl rfl rfl (g2 _ pb _ (fun _ => 0)) ?_
 refine gK ?_
 refine H.Af rfl rfl rfl (g3 _ pb _) ?_
 refine H.buildA (t := 37) (out := v11 vecO) rfl rfl rfl (by kernel_rfl) rfl ?_
 refine H.aggEq (xs := v11 vecO) (ys := v11 vecO) (D := 4) rfl rfl rfl rfl (by kernel_rfl) (by kernel_rfl) (by kernel_rfl) (by kernel_rfl) (by decide) (eqC_refl rfl) rfl ?_
 refine gV ?_
 refine H.Af rfl rfl rfl (g4 _ pb _) ?_
 refine H.buildA (t := 37) (out := v11 fun _ => 0) rfl rfl rfl (by kernel_rfl) rfl ?_
 refine H.aggEq (xs := v11 fun _ => 0) (ys := v11 fun _ => 0) (D := 4) rfl rfl rfl rfl (by kernel_rfl) (by kernel_rfl) (by kernel_rfl) (by kernel_rfl) (by decide) (eqC_refl rfl) rfl ?_
 refine gV ?_
 refine H.Ab (.here _ _) ?_
 exact H.Ac rfl rfl (fun _ h => h) ⟨rfl, rfl, rfl⟩
end
section
variable (f : Frag) (F : List HP)
end
section
variable (f : Frag) (F : List HP)
end
section
variable (f : Frag) (F : List HP)
end
section
variable (f : Frag) (F : List HP)
end
section
variable (f : Frag) (F : List HP)
theorem rsameL_fn {pa pb : Option Addr} {ca cb : Nat} {A B : List MV} (hA : ListAt f pa 121 MV.vals A) (hB : ListAt f pb 121 MV.vals B) (gA : ∀ y ∈ A, y.Good f) (gB : ∀ y ∈ B, y.Good f) (h : A.map MV.m = B.map MV.m) (hl : A.length ≤ 1000000) :
  Fn Tryz.prog 31 [.slice pa A.length ca, .slice pb B.length cb] f F (Ret (.bool true) f F) := by
 have hlen : A.length = B.length := by have := congrArg List.length h; rwa [List.length_map, List.length_map] at this
 refine Fn.enter Tryz.func31 rfl Tryz.ntmps31 rfl (L := [(0, _), (1, _)]) ⟨rfl, rfl, trivial⟩ fun base => ?_
 refine gG ?_
 refine H.Aw (ι := Nat) (fun i => [(5, .int .i64 (i : Int)), (0, .slice pa A.length ca), (1, .slice pb B.length cb)]) (fun _ => f) (fun _ => F) (fun i => i ≤ A.length) (fun i => A.length - i) 0 (Nat.zero_le _) ⟨rfl, rfl, rfl, trivial⟩ rfl rfl fun i hi => ?_
 have hi : i ≤ A.length := hi
 by_cases hlt : i < A.length
 ·obtain ⟨y, hy⟩ : ∃ y, A[i]? = some y := ⟨_, List.getElem?_eq_getElem hlt⟩
  obtain ⟨z, hz⟩ : ∃ z, B[i]? = some z := ⟨_, List.getElem?_eq_getElem (by omega)⟩
  have hyz : y.m = z.m := by
   have h1 : (A.map MV.m)[i]? = some y.m := by rw [List.getElem?_map, hy]; rfl
   rw [h, List.getElem?_map, hz] at h1
   exact (Option.some.inj h1).symm
  have hs : ∀ G, Fn Tryz.prog 30 [.agg y.vals.toArray, .agg z.vals.toArray] f G (Ret (.bool true) f G) := fun G => by
   have h := rsameM_fn f G (gA y (List.mem_of_getElem? hy)) (gB z (List.mem_of_getElem? hz))
   rw [hyz, Msg.eqB_refl] at h
   exact h
  obtain ⟨b, off, cs, T, fr, rfl, hfb, hcs⟩ := hA i y hy
  obtain ⟨b2, off2, cs2, T2, fr2, rfl, hfb2, hcs2⟩ := hB i z hz
  refine gJ ?_
  refine H.Az (by kernel_rfl) (by decide +kernel) (by repeat (first | exact zab | refine zaa ?_ | refine zac ?_ | refine zae ?_)) (S := []) rfl ?_
  refine HB.Ag [(0, false), (1, false), (2, false), (3, false), (4, false), (5, false), (6, false), (7, false)] 2 (by kernel_rfl) ?_
  refine gD ?_
  refine HQ.Ar (i := i) rfl rfl rfl rfl hlt rfl ?_
  refine HQ.Ah (ls := y.vals) rfl rfl rfl (Rd.imm hfb hcs) rfl rfl ?_
  refine gD ?_
  refine HQ.Ar (i := i) rfl rfl rfl rfl (by omega) rfl ?_
  refine HQ.Ah (ls := z.vals) rfl rfl rfl (Rd.imm hfb2 hcs2) rfl rfl ?_
  refine HQ.Ad rfl ?_
  refine HB.ev1 (i := 8) (by kernel_rfl) rfl ?_
  refine H.Af rfl rfl rfl (hs _) ?_
  refine gC ?_
  refine H.on0 rfl ?_
  refine HB.Ag [(9, false)] 0 (by kernel_rfl) ?_
  refine HQ.not (b := true) (c := false) rfl rfl rfl rfl ?_
  refine HQ.Ad rfl ?_
  refine HB.Al (by kernel_rfl) ?_
  refine gW ?_
  exact H.Am (i + 1) (by show i + 1 ≤ A.length; omega) (by show A.length - (i + 1) < A.length - i; omega) ⟨rfl, rfl, rfl, trivial⟩ rfl rfl
 ·refine gG ?_
  exact H.Ac rfl rfl (fun _ h => h) ⟨rfl, rfl, rfl⟩
end
structure WAt (f : Frag) (n : Nat) (W : W12) (kb : Nat) (ap : Option Addr) (l : List MV) : Prop where
 k : KAt f kb n W.kv
 a : ListAt f ap 121 MV.vals l
 g : ∀ x ∈ l, x.Good f
 m : l.map MV.m = W.all
def raised (kv : Nat → Nat → Int) (o j i : Nat) : Nat → Nat → Int := updF kv o fun t => if t < i then maxV (kv o) (kv j) t else kv o t
theorem raised_zero (kv : Nat → Nat → Int) (o j : Nat) : raised kv o j 0 = kv := by
 unfold raised
 have : (fun t => if t < 0 then maxV (kv o) (kv j) t else kv o t) = kv o := by funext t; rw [if_neg (by omega)]
 rw [this, updF_self]
theorem raised_o (kv : Nat → Nat → Int) (o j i : Nat) : raised kv o j i o i = kv o i := by
 unfold raised
 rw [zag]
 show (if i < i then _ else _) = _
 rw [if_neg (by omega)]
theorem raised_j (kv : Nat → Nat → Int) (o j i : Nat) : raised kv o j i j i = kv j i := by
 by_cases e : j = o
 ·subst e; exact raised_o kv j j i
 ·unfold raised; rw [zak _ _ e]
theorem raised_next (kv : Nat → Nat → Int) (o j i : Nat) : updF (raised kv o j i) o (updF (raised kv o j i o) i (maxV (kv o) (kv j) i)) = raised kv o j (i + 1) := by
 unfold raised
 rw [zag, updF_updF]
 congr 1
 funext t
 show (if t = i then _ else if t < i then _ else _) = if t < i + 1 then _ else _
 by_cases e : t = i
 ·subst e; rw [if_pos rfl, if_pos (by omega)]
 ·rw [if_neg e]
  by_cases h : t < i
  ·rw [if_pos h, if_pos (by omega)]
  ·rw [if_neg h, if_neg (by omega)]
theorem raised_end {n o j : Nat} (W : W12) : kRow n (raised W.kv o j 11) = kRow n (W.meet o j).kv := kRow_congr fun r _ i hi => by
 show raised W.kv o j 11 r i = updF W.kv o (maxV (W.kv o) (W.kv j)) r i
 unfold raised
 by_cases e : r = o
 ·subst e; rw [zag, zag, if_pos hi]
 ·rw [zak _ _ e, zak _ _ e]
section
variable (f : Frag) (F : List HP)
end
theorem ListAt.all {α : Type} {f : Frag} {p : Option Addr} {sz : Nat} {vals : α → List Value} {l : List α} (hv : ∀ x, (vals x).length = sz) (h1 : 0 < sz) (h : ListAt f p sz vals l) (h0 : 0 < l.length) :
  ∃ b off, p = some ⟨b, off, none⟩ ∧ ∀ (g : Frag) A i x, Le f g → l[i]? = some x → Rd g A b (off + i * sz) (vals x) := by
 obtain ⟨x0, hx0⟩ : ∃ x0, l[0]? = some x0 := ⟨_, List.getElem?_eq_getElem h0⟩
 obtain ⟨b, off, cs, T, fr, rfl, hfb, _⟩ := h 0 x0 hx0
 refine ⟨b, off, rfl, fun g A i x hle hx => ?_⟩
 obtain ⟨b', off', cs', T', fr', e, hfb', hcs'⟩ := h i x hx
 cases e
 exact Rd.imm (hle _ _ hfb') hcs'
theorem fewz_odd {n8 : UInt8} {n : Nat} (h : n = 3 + 2 * (n8.toNat % 5)) : fewZ (n : Int) := by
 refine ⟨by omega, by omega, ?_⟩
 exact zal (a := n) (b := 2) (r := 1) (by omega)
section
variable (f : Frag) (F : List HP)
end
theorem lore_up {f g : Frag} (h : Le f g) {lb n : Nat} {l : List MV} {A : List HP} : ∀ x, stars (loreH f lb n l :: A) x → stars (loreH g lb n l :: A) x :=
 fun _ ⟨h1, h2, hd, he, ha, hr⟩ => ⟨h1, h2, hd, he, loreH_mono h _ ha, hr⟩
def kn12 (k : Nat → Int) (l : List Msg) : Nat := (l.filter fun m => decide (m.number ≤ k (orgI m))).length
theorem kn12_snoc (k : Nat → Int) (l : List Msg) (m : Msg) : kn12 k (l ++ [m]) = kn12 k l + (if m.number ≤ k (orgI m) then 1 else 0) := by
 unfold kn12
 rw [List.filter_append, List.length_append, List.filter_cons, List.filter_nil]
 by_cases h : m.number ≤ k (orgI m)
 ·rw [if_pos h, if_pos (decide_eq_true h)]; rfl
 ·rw [if_neg h, if_neg (by rw [decide_eq_false h]; decide)]; rfl
theorem kn12_le (k : Nat → Int) (l : List Msg) : kn12 k l ≤ l.length := List.length_filter_le _ _
theorem tells_step {n : Nat} {all : List Msg} {k : Nat → Int} {i : Nat} {m : Msg} (hW : WOK n all) (hk : Knw all k) (hm : all[i]? = some m) {S : Strm} (hS : S = uptoS all (minU k (all.take i))) :
  (m.number ≤ k (orgI m) → chk n S m = 0 ∧ addS S m = uptoS all (minU k (all.take (i + 1)))) ∧ (¬ m.number ≤ k (orgI m) → S = uptoS all (minU k (all.take (i + 1)))) := by
 have e := take_cons_drop hm
 have hnx := zbe hm
 have h := sub_step (n := n) (pre := all.take i) (post := all.drop (i + 1)) (m := m) (k := k) (by rw [← e]; exact hW) (by rw [← e]; exact hk)
 rw [← e, ← hnx] at h
 subst hS
 exact ⟨h.1, fun hn => by rw [h.2 hn]⟩
theorem uptoS_zero {all : List Msg} {k : Nat → Int} (h : ∀ i, 0 ≤ k i) : strm [] = uptoS all (minU k []) := by
 rw [minU_nil h]
 funext i
 show ([] : List Msg) = (strm all i).take (0 : Int).toNat
 rfl
theorem knownS_u {all : List Msg} {u : Nat → Int} (h : Knw all u) {S : Strm} (hS : S = uptoS all u) : knownS S = u := by
 subst hS
 funext i
 exact knownS_uptoS h i
section
variable (f : Frag) (F : List HP)
end
theorem flat_splice {α : Type} {vals : α → List Value} {sz : Nat} (hv : ∀ x, (vals x).length = sz) {xs : List α} {i : Nat} (z : α) (hi : i < xs.length) (sp : List Value) :
  splice (xs.flatMap vals ++ sp) (i * sz) (vals z) = (xs.set i z).flatMap vals ++ sp := by
 have hx : xs[i]? = some xs[i] := List.getElem?_eq_getElem hi
 have hl : ((xs.take i).flatMap vals).length = i * sz := by rw [zbf hv, List.length_take, Nat.min_eq_left (by omega)]
 have h2 : (xs.set i z)[i]? = some z := by rw [List.getElem?_set_self hi]
 have e1 : (xs.set i z).take i = xs.take i := by rw [List.take_set_of_le (Nat.le_refl _)]
 have e2 : (xs.set i z).drop (i + 1) = xs.drop (i + 1) := by rw [List.drop_set_of_lt (by omega)]
 rw [flat_split xs hx, flat_split (xs.set i z) h2, e1, e2]
 generalize (xs.take i).flatMap vals = pre at hl
 unfold splice
 have e3 : pre ++ vals xs[i] ++ (xs.drop (i + 1)).flatMap vals ++ sp = pre ++ (vals xs[i] ++ ((xs.drop (i + 1)).flatMap vals ++ sp)) := by simp
 rw [e3, ← hl, List.take_left, hv z, ← hv xs[i], ← List.drop_drop, List.drop_left, List.drop_left]
 simp
section
variable {P : Program} {base : World} {n : Nat} {L : Env} {f : Frag} {A : List HP} {q : Post} {l rest : List Oper} {ty : TypeId} {pos : String} {af : Array Edge} {gd : Option (Nat × Bool)}
theorem H.storeE {α : Type} {vals : α → List Value} {sz : Nat} {t : TypeId} {x y : Operand} {b n0 c : Nat} {T : TypeId} {xs : List α} {i : Nat} {z : α} {A' : List HP} [hs : Siz P t sz] (hv : ∀ x, (vals x).length = sz) (h0 : 0 < sz) (hone : ∀ v ∈ vals z, one v = true) (hw : want? l L gd = true)
  (hx : ev? L x = some (.pointer (some ⟨b, i * sz, none⟩))) (hy : ev? L y = some (.agg (vals z).toArray)) (hi : i < xs.length)
  (hA : At A (slc (some ⟨b, 0, none⟩) n0 c T sz (xs.flatMap vals)) A' (slc (some ⟨b, 0, none⟩) n0 c T sz ((xs.set i z).flatMap vals)))
  (k : H P base n L f A' (.ops l rest q)) : H P base n L f A (.ops l (⟨none, .store t x y, ty, pos, af, gd⟩ :: rest) q) :=
 H.opS hw (fun a w hfr s => by
  obtain ⟨hl, hc, h3⟩ := s.slc_at hA
  have hn : xs.length = n0 := by
   rw [zbf hv] at hl
   exact Nat.eq_of_mul_eq_mul_right h0 hl
  rcases h3 with ⟨e, _⟩ | ⟨b', sp, e, hnc, hcs, hb⟩
  ·omega
  ·cases e
   have hle : i * sz + (vals z).length ≤ (xs.flatMap vals ++ sp).length := by
    rw [List.length_append, zbf hv, hv]
    have : (i + 1) * sz ≤ xs.length * sz := Nat.mul_le_mul_right _ hi
    rw [Nat.add_mul] at this
    omega
   have h1 := run_storeCells (P := P) (off := i * sz) (vals z) (xs.flatMap vals ++ sp) 0 w hb hone hle
   have hne : vals z ≠ [] := by intro h; have := hv z; rw [h] at this; simp at this; omega
   rw [if_neg hne, Nat.add_zero, flat_splice hv z hi] at h1
   refine ⟨World.putRow' w b T ((xs.set i z).flatMap vals ++ sp), ?_, s.turnRow hA (b := b) (o' := .cells ((xs.set i z).flatMap vals ++ sp).toArray T (0, 0)) ?_ rfl rfl rfl ?_ ?_⟩
   ·simp only [execOp, hfr.eval hx, hfr.eval hy, Instr.storeAt, Instr.sureAddr, storeVar, Value.cells, Sem.run_bind, Sem.run_pure, Result.andThen_ok, hs.run, List.size_toArray, hv]
    simp [h1]
   ·rintro m1 ⟨_, _, h⟩
    rcases h with ⟨h, _⟩ | ⟨b', sp', h, _, hcs', rfl⟩
    ·omega
    ·cases h; exact ⟨_, rfl⟩
   ·rfl
   ·have e4 : ((xs.set i z).flatMap vals).length = (xs.flatMap vals).length := by rw [zbf hv, zbf hv, List.length_set]
    refine ⟨by rw [e4]; exact hl, hc, .inr ⟨b, sp, rfl, hnc, ?_, rfl⟩⟩
    rw [List.length_append, e4, ← List.length_append]
    exact hcs) k
end
section
variable (f : Frag) (F : List HP)
end
structure PM where
 g : Int
 init : List (Int × Int)
 lv : Int
 ln : Int
namespace PM
def all (s : PM) : List (Int × Int) := s.init ++ [(s.lv, s.ln)]
def new : PM := ⟨0, [], 0, 0⟩
def isOpen (s : PM) (v : Int) : Bool := decide (v = s.g ∧ v = s.lv)
def changeOk (s : PM) (v : Int) : Bool := decide (s.g < v ∧ v < 1073741824)
def change (s : PM) (v : Int) : PM := if changeOk s v then { s with g := v } else s
def enterOk (s : PM) (v long : Int) : Bool := decide (s.lv < v ∧ s.g ≤ v ∧ v < 1073741824 ∧ 0 ≤ long)
def enter (s : PM) (v long : Int) : PM := if enterOk s v long then ⟨v, s.all, v, long⟩ else s
def prepare (s : PM) (v : Int) : PM := if isOpen s v then { s with ln := s.ln + 1 } else s
def commitOk (s : PM) (v k most : Int) : Bool := decide ((v = s.g ∧ v = s.lv) ∧ 0 ≤ most ∧ k ≤ most ∧ k = s.ln + 1)
def commit (s : PM) (v k most : Int) : PM := if commitOk s v k most then { s with ln := s.ln + 1 } else s
def voted : List (Int × Int) → Int → Option Int
 | [], _ => none
 | (w, n) :: r, v => if v = w then some n else voted r v
structure WF (s : PM) (B : Int) : Prop where
 rise : (s.all.map (·.1)).Pairwise (· < ·)
 low : ∀ p ∈ s.all, 0 ≤ p.1 ∧ p.1 < 1073741824 ∧ 0 ≤ p.2 ∧ p.2 ≤ B
 top : s.lv ≤ s.g
 g0 : 0 ≤ s.g
theorem new_wf : WF new 0 := ⟨by simp [new, all], by simp [new, all], by simp [new], by simp [new]⟩
theorem WF.last {s : PM} {B : Int} (h : WF s B) : 0 ≤ s.lv ∧ s.lv < 1073741824 ∧ 0 ≤ s.ln ∧ s.ln ≤ B := h.low (s.lv, s.ln) (by simp [all])
theorem WF.below {s : PM} {B : Int} (h : WF s B) : ∀ p ∈ s.init, p.1 < s.lv := by
 have := h.rise
 simp only [all, List.map_append, List.map_cons, List.map_nil, List.pairwise_append] at this
 intro p hp
 exact this.2.2 p.1 (List.mem_map.2 ⟨p, hp, rfl⟩) s.lv (by simp)
theorem WF.mono {s : PM} {B B' : Int} (h : WF s B) (hB : B ≤ B') : WF s B' := ⟨h.rise, fun p hp => by have := h.low p hp; omega, h.top, h.g0⟩
theorem WF.bump {s : PM} {B : Int} (h : WF s B) : WF { s with ln := s.ln + 1 } (B + 1) := by
 refine ⟨?_, ?_, h.top, h.g0⟩
 ·have := h.rise; simpa [all] using this
 ·intro p hp
  simp only [all, List.mem_append, List.mem_singleton] at hp
  rcases hp with hp | rfl
  ·have := h.low p (by simp [all, hp]); omega
  ·have := h.last; simp only; omega
theorem WF.change {s : PM} {B : Int} (h : WF s B) (v : Int) : WF (s.change v) B := by
 unfold PM.change
 split
 ·rename_i hc
  simp only [changeOk, decide_eq_true_eq] at hc
  refine ⟨h.rise, h.low, ?_, ?_⟩
  ·have := h.top; simp only; omega
  ·have := h.g0; simp only; omega
 ·exact h
theorem WF.enter {s : PM} {B : Int} (h : WF s B) (v long : Int) (hl : long ≤ B) : WF (s.enter v long) B := by
 unfold PM.enter
 split
 ·rename_i hc
  simp only [enterOk, decide_eq_true_eq] at hc
  refine ⟨?_, ?_, Int.le_refl _, ?_⟩
  ·show ((s.all ++ [(v, long)]).map (·.1)).Pairwise (· < ·)
   rw [List.map_append, List.pairwise_append]
   refine ⟨h.rise, by simp, ?_⟩
   intro a ha b hb
   simp at hb; subst hb
   obtain ⟨p, hp, rfl⟩ := List.mem_map.1 ha
   simp only [all, List.mem_append, List.mem_singleton] at hp
   rcases hp with hp | rfl
   ·have := h.below p hp; omega
   ·exact hc.1
  ·intro p hp
   simp only [all, List.mem_append, List.mem_singleton] at hp
   rcases hp with (hp | rfl) | rfl
   ·exact h.low p (by simp [all, hp])
   ·exact h.last
   ·have := h.last; simp only; omega
  ·have := h.last; simp only; omega
 ·exact h
theorem WF.prepare {s : PM} {B : Int} (h : WF s B) (v : Int) : WF (s.prepare v) (B + 1) := by
 unfold PM.prepare; split
 ·exact h.bump
 ·exact h.mono (by omega)
theorem WF.commit {s : PM} {B : Int} (h : WF s B) (v k most : Int) : WF (s.commit v k most) (B + 1) := by
 unfold PM.commit; split
 ·exact h.bump
 ·exact h.mono (by omega)
def kv (l : List (Int × Int)) : List (Int × Value) := l.map fun p => (p.1, .int .i64 p.2)
theorem kv_keys (l : List (Int × Int)) : (kv l).map (·.1) = l.map (·.1) := by simp [kv, Function.comp_def]
theorem getKV_kv (l : List (Int × Int)) (v : Int) : getKV (kv l) v = (voted l v).map (Value.int .i64) := by
 induction l with
 | nil => rfl
 | cons p r ih =>
  obtain ⟨w, n⟩ := p
  simp only [kv, List.map_cons, getKV, voted]
  split
  ·rfl
  ·exact ih
theorem put_absent {κ : Type} [DecidableEq κ] : ∀ (m : List (κ × Value)) (k : κ) (v : Value), k ∉ m.map (·.1) → putKV m k v = m ++ [(k, v)]
 | [], _, _, _ => rfl
 | (j, u) :: r, k, v, h => by
  have e : ¬ k = j := fun e => h (by simp [e])
  have := put_absent r k v (fun e => h (by simp at e ⊢; exact .inr e))
  simp [putKV, e, this]
theorem put_last {κ : Type} [DecidableEq κ] : ∀ (m : List (κ × Value)) (k : κ) (u v : Value), k ∉ m.map (·.1) → putKV (m ++ [(k, u)]) k v = m ++ [(k, v)]
 | [], k, u, v, _ => by simp [putKV]
 | (j, w) :: r, k, u, v, h => by
  have e : ¬ k = j := fun e => h (by simp [e])
  have := put_last r k u v (fun e => h (by simp at e ⊢; exact .inr e))
  simp [putKV, e, this]
theorem WF.not_init {s : PM} {B : Int} (h : WF s B) : s.lv ∉ s.init.map (·.1) := by
 intro hm
 obtain ⟨p, hp, e⟩ := List.mem_map.1 hm
 have := h.below p hp
 omega
theorem WF.kv_bump {s : PM} {B : Int} (h : WF s B) : putKV (kv s.all) s.lv (.int .i64 (s.ln + 1)) = kv ({ s with ln := s.ln + 1 } : PM).all := by
 have := put_last (kv s.init) s.lv (.int .i64 s.ln) (.int .i64 (s.ln + 1)) (by rw [kv_keys]; exact h.not_init)
 simpa [kv, all] using this
theorem WF.not_all {s : PM} {B v : Int} (h : WF s B) (hv : s.lv < v) : v ∉ s.all.map (·.1) := by
 intro hm
 obtain ⟨p, hp, e⟩ := List.mem_map.1 hm
 simp only [all, List.mem_append, List.mem_singleton] at hp
 rcases hp with hp | rfl
 ·have := h.below p hp; omega
 ·simp only at e; omega
theorem WF.kv_enter {s : PM} {B v long : Int} (h : WF s B) (hv : s.lv < v) : putKV (kv s.all) v (.int .i64 long) = kv (s.all ++ [(v, long)]) := by
 rw [put_absent _ _ _ (by rw [kv_keys]; exact h.not_all hv)]
 simp [kv]
theorem WF.kv_enter2 {s : PM} {B v long : Int} (h : WF s B) (hv : s.lv < v) (z : Value) : putKV (putKV (kv s.all) v z) v (.int .i64 long) = kv (s.all ++ [(v, long)]) := by
 rw [put_absent (kv s.all) _ _ (by rw [kv_keys]; exact h.not_all hv), put_last _ _ _ _ (by rw [kv_keys]; exact h.not_all hv)]
 simp [kv]
theorem voted_last {s : PM} {B : Int} (h : WF s B) : voted s.all s.lv = some s.ln := by
 have : ∀ l : List (Int × Int), s.lv ∉ l.map (·.1) → voted (l ++ [(s.lv, s.ln)]) s.lv = some s.ln := by
  intro l
  induction l with
  | nil => intro _; simp [voted]
  | cons p r ih =>
   intro hn
   obtain ⟨w, n⟩ := p
   have e : ¬ s.lv = w := fun e => hn (by simp [e])
   simp only [List.cons_append, voted, e, if_false]
   exact ih (fun e => hn (by simp at e ⊢; exact .inr e))
 exact this _ h.not_init
end PM
structure Vw where
 v : Int
 num : Int
 s : List Req
 p : List (Int × Req)
def Vw.all (w : Vw) : List Req := w.s ++ w.p.map Prod.snd
theorem Vw.all_len (w : Vw) : w.all.length = w.s.length + w.p.length := by unfold Vw.all; rw [List.length_append, List.length_map]
structure Lgs where
 n : Nat
 known : Nat → Int
 vs : List Vw
 past : Nat → PM
 ch : Nat → List (Int × Int)
def Lgs.new (n : Nat) : Lgs := ⟨n, fun _ => 0, [⟨0, 0, [], []⟩], fun _ => PM.new, fun _ => []⟩
def vwAt : List Vw → Int → Option Nat
 | [], _ => none
 | w :: r, v => if w.v = v then some 0 else (vwAt r v).map (· + 1)
theorem zav {vs : List Vw} {v : Int} {i : Nat} : vwAt vs v = some i ↔ (∃ w, vs[i]? = some w ∧ w.v = v) ∧ ∀ j w, j < i → vs[j]? = some w → w.v ≠ v := by
 induction vs generalizing i with
 | nil => simp [vwAt]
 | cons w r ih =>
  unfold vwAt
  by_cases h : w.v = v
  ·rw [if_pos h]
   refine ⟨fun e => ?_, fun ⟨_, e⟩ => ?_⟩
   ·cases e
    exact ⟨⟨w, rfl, h⟩, fun j w hj => by omega⟩
   ·cases i with
    | zero => rfl
    | succ i => exact absurd h (e 0 w (by omega) rfl)
  ·rw [if_neg h]
   cases i with
   | zero =>
    refine ⟨fun e => ?_, fun ⟨⟨w', e, e2⟩, _⟩ => ?_⟩
    ·cases hr : vwAt r v <;> rw [hr] at e <;> cases e
    ·cases e; exact absurd e2 h
   | succ i =>
    refine ⟨fun e => ?_, fun ⟨⟨w', e, e2⟩, e3⟩ => ?_⟩
    ·have e' : vwAt r v = some i := by
      cases hr : vwAt r v with
      | none => rw [hr] at e; cases e
      | some k => rw [hr] at e; simp at e; rw [e]
     obtain ⟨⟨w', e1, e2⟩, e3⟩ := ih.1 e'
     refine ⟨⟨w', e1, e2⟩, fun j x hj hx => ?_⟩
     cases j with
     | zero => cases hx; exact h
     | succ j => exact e3 j x (by omega) hx
    ·rw [ih.2 ⟨⟨w', e, e2⟩, fun j x hj hx => e3 (j + 1) x (by omega) hx⟩]
     rfl
theorem vwAt_none {vs : List Vw} {v : Int} : vwAt vs v = none ↔ ∀ w ∈ vs, w.v ≠ v := by
 induction vs with
 | nil => simp [vwAt]
 | cons w r ih =>
  unfold vwAt
  by_cases h : w.v = v
  ·rw [if_pos h]; simp [h]
  ·rw [if_neg h]
   cases hr : vwAt r v with
   | none => simp [h]; exact ih.1 hr
   | some k =>
    simp
    intro _
    obtain ⟨⟨w', e1, e2⟩, _⟩ := zav.1 hr
    exact ⟨w', List.mem_of_getElem? e1, e2⟩
def vwZ (vs : List Vw) (v : Int) : Int := match vwAt vs v with
 | none => -1
 | some i => (i : Nat)
def primI (n : Nat) (v : Int) : Nat := (v % (n : Int)).toNat
def primZ (n : Nat) (v : Int) : Int := 1 + ((primI n v : Nat) : Int)
def holdsB (l : List Req) (c t : Int) : Bool := l.any fun r => decide (r.client = c) && decide (r.time = t)
def chB (l : Lgs) (q : Int × Int) (v : Int) : Bool := (l.ch (q.1 - 1).toNat).any fun c => decide (c.1 = v) && decide (c.2 = q.2)
def bestOf (bv : Int) : List (Int × Int) → Int × Int → Int × Int
 | [], a => a
 | x :: r, a => bestOf bv r (if x.1 < bv ∧ (a.1 < x.1 ∨ (x.1 = a.1 ∧ a.2 < x.2)) then x else a)
def bestQ (past : Nat → PM) (bv : Int) : List (Int × Int) → Int × Int → Int × Int
 | [], a => a
 | q :: r, a => bestQ past bv r (bestOf bv (past (q.1 - 1).toNat).all a)
def insKF (v : Int) (vs : List Vw) : Nat → Nat
 | 0 => 0
 | k + 1 => match vs[k]? with
  | none => k + 1
  | some x => if v < x.v then insKF v vs k else k + 1
def insK (v : Int) (vs : List Vw) : Nat := insKF v vs vs.length
def insV (w : Vw) (vs : List Vw) : List Vw := vs.take (insK w.v vs) ++ w :: vs.drop (insK w.v vs)
theorem insKF_le (v : Int) (vs : List Vw) : ∀ k, insKF v vs k ≤ k
 | 0 => Nat.le_refl 0
 | k + 1 => by
  unfold insKF
  split
  ·exact Nat.le_refl _
  ·split
   ·exact Nat.le_succ_of_le (insKF_le v vs k)
   ·exact Nat.le_refl _
theorem insKF_above (v : Int) (vs : List Vw) : ∀ k j x, insKF v vs k ≤ j → j < k → vs[j]? = some x → v < x.v
 | 0, j, x, _, h, _ => by omega
 | k + 1, j, x, h1, h2, hx => by
  unfold insKF at h1
  cases hk : vs[k]? with
  | none => rw [hk] at h1; simp only at h1; omega
  | some y =>
   rw [hk] at h1
   simp only at h1
   by_cases hv : v < y.v
   ·rw [if_pos hv] at h1
    by_cases e : j = k
    ·subst e; rw [hk] at hx; cases hx; exact hv
    ·exact insKF_above v vs k j x h1 (by omega) hx
   ·rw [if_neg hv] at h1; omega
theorem insKF_below (v : Int) (vs : List Vw) : ∀ k x, 0 < insKF v vs k → vs[insKF v vs k - 1]? = some x → ¬ v < x.v
 | 0, x, h, _ => by unfold insKF at h; omega
 | k + 1, x, h, hx => by
  unfold insKF at h hx
  cases hk : vs[k]? with
  | none => rw [hk] at hx; simp only [Nat.add_sub_cancel] at hx; rw [hk] at hx; cases hx
  | some y =>
   rw [hk] at h hx
   simp only at h hx
   by_cases hv : v < y.v
   ·rw [if_pos hv] at h hx
    exact insKF_below v vs k x h hx
   ·rw [if_neg hv, Nat.add_sub_cancel, hk] at hx
    cases hx
    exact hv
theorem insV_perm (w : Vw) (vs : List Vw) : (w :: vs).Perm (insV w vs) := by
 unfold insV
 conv => lhs; rw [← List.take_append_drop (insK w.v vs) vs]
 exact List.perm_middle.symm
theorem bestOf_mem (bv : Int) : ∀ (l : List (Int × Int)) (a : Int × Int), bestOf bv l a = a ∨ bestOf bv l a ∈ l
 | [], a => .inl rfl
 | x :: r, a => by
  unfold bestOf
  split
  ·rcases bestOf_mem bv r x with h | h
   ·rw [h]; exact .inr (by simp)
   ·exact .inr (List.mem_cons_of_mem _ h)
  ·rcases bestOf_mem bv r a with h | h
   ·exact .inl h
   ·exact .inr (List.mem_cons_of_mem _ h)
theorem bestQ_mem (past : Nat → PM) (bv : Int) : ∀ (q : List (Int × Int)) (a : Int × Int), bestQ past bv q a = a ∨ ∃ p ∈ q, bestQ past bv q a ∈ (past (p.1 - 1).toNat).all
 | [], a => .inl rfl
 | x :: r, a => by
  unfold bestQ
  rcases bestQ_mem past bv r (bestOf bv (past (x.1 - 1).toNat).all a) with h | ⟨p, hp, h⟩
  ·rw [h]
   rcases bestOf_mem bv (past (x.1 - 1).toNat).all a with h2 | h2
   ·exact .inl h2
   ·exact .inr ⟨x, by simp, h2⟩
  ·exact .inr ⟨p, List.mem_cons_of_mem _ hp, h⟩
def Lgs.begins (l : Lgs) (m : Msg) : Bool × Lgs :=
 if m.body.q.length ≠ (l.n - 1) / 2 + 1 then (false, l) else
 if (m.body.q.all fun q => decide (q.2 ≤ m.deps (q.1 - 1).toNat) && chB l q m.body.view) = false then (false, l) else
 if (l.past (orgI m)).enterOk m.body.view (bestQ l.past m.body.view m.body.q (0, 0)).2 = false then (false, l) else
 (true, { l with
  past := updF l.past (orgI m) ((l.past (orgI m)).enter m.body.view (bestQ l.past m.body.view m.body.q (0, 0)).2)
  vs := insV ⟨m.body.view, m.number, ((match vwAt l.vs (bestQ l.past m.body.view m.body.q (0, 0)).1 with | none => [] | some i => (l.vs[i]?.map Vw.all).getD []).take (bestQ l.past m.body.view m.body.q (0, 0)).2.toNat), []⟩ l.vs })
def knowsV (w : Vw) (d : Int) : Nat := w.s.length + (w.p.filter fun x => decide (x.1 ≤ d)).length
def Lgs.doPast (l : Lgs) (r : Nat) (p : PM) : Lgs := { l with past := updF l.past r p }
def Lgs.counts (l : Lgs) (m : Msg) : Bool × Lgs :=
 let r := orgI m
 let p := l.past r
 let b := m.body
 let prim := decide (primZ l.n b.view = m.origin)
 let d := m.deps (primI l.n b.view)
 if b.kind = 3 then
  if p.changeOk b.view = true then (true, { l with past := updF l.past r (p.change b.view), ch := updF l.ch r (l.ch r ++ [(b.view, m.number)]) }) else (false, l)
 else if b.kind = 4 then (if prim = true then l.begins m else (false, l))
 else if b.kind = 5 then
  match vwAt l.vs b.view with
  | none => (false, l)
  | some i => match l.vs[i]? with
   | none => (false, l)
   | some w => if d < w.num then (false, l) else (p.enterOk b.view w.s.length, l.doPast r (p.enter b.view w.s.length))
 else if b.kind = 1 then
  match vwAt l.vs b.view with
  | none => (false, l)
  | some i => match l.vs[i]? with
   | none => (false, l)
   | some w => if prim = false ∨ b.req.auth = false ∨ holdsB w.all b.req.client b.req.time = true ∨ p.isOpen b.view = false then (false, l) else
    (true, { l with past := updF l.past r (p.prepare b.view), vs := l.vs.set i { w with p := w.p ++ [(m.number, b.req)] } })
 else if b.kind = 2 then
  match vwAt l.vs b.view with
  | none => (false, l)
  | some i => match l.vs[i]? with
   | none => (false, l)
   | some w => if prim = true then (false, l) else (p.commitOk b.view b.k (knowsV w d), l.doPast r (p.commit b.view b.k (knowsV w d)))
 else (decide (b.kind = 6), l)
def qIn (n : Nat) (m : Msg) : Bool := m.body.q.all fun p => decide (p.1 ≤ (n : Int))
def depsIn (m : Msg) (k : Nat → Int) : Bool := (List.range 11).all fun i => decide (m.deps i ≤ k i)
def Lgs.take (l : Lgs) (m : Msg) : (Bool × Int) × Lgs :=
 if m.may = false ∨ (l.n : Int) < m.origin ∨ qIn l.n m = false then ((false, 1), l) else
 if m.number ≠ l.known (orgI m) + 1 ∨ depsIn m l.known = false then ((false, 12), l) else
 (((l.counts m).1, 0), { (l.counts m).2 with known := updF (l.counts m).2.known (orgI m) ((l.counts m).2.known (orgI m) + 1) })
structure MIn (n : Nat) (m : Msg) : Prop where
 o : 1 ≤ m.origin ∧ m.origin ≤ (n : Int)
 q : ∀ p ∈ m.body.q, 1 ≤ p.1 ∧ p.1 ≤ (n : Int)
 v : 0 ≤ m.body.view
structure LI (l : Lgs) (T : Nat) : Prop where
 n3 : 3 ≤ l.n ∧ l.n ≤ 11
 kn : ∀ i, 0 ≤ l.known i ∧ l.known i ≤ (T : Int)
 wf : ∀ r, r < l.n → PM.WF (l.past r) T
 il : ∀ r, r < l.n → (l.past r).init.length ≤ T
 vl : l.vs.length ≤ T + 1
 cl : ∀ r, (l.ch r).length ≤ T
 al : ∀ w ∈ l.vs, w.all.length ≤ T
 log : ∀ r, r < l.n → ∀ p ∈ (l.past r).all, ∃ w ∈ l.vs, w.v = p.1 ∧ p.2 ≤ (w.all.length : Int)
 zero : ∃ w ∈ l.vs, w.v = 0
 rise : (l.vs.map Vw.v).Pairwise (· < ·)
 begun : ∀ w ∈ l.vs, w.v ≠ 0 → ∃ p ∈ (l.past (primI l.n w.v)).all, p.1 = w.v
 gb : ∀ r, r < l.n → (l.past r).g < 1073741824
theorem vwAt_mem {vs : List Vw} (h : (vs.map Vw.v).Pairwise (· < ·)) {w : Vw} (hw : w ∈ vs) : ∃ i, vwAt vs w.v = some i ∧ vs[i]? = some w := by
 obtain ⟨i, hi⟩ := List.getElem?_of_mem hw
 refine ⟨i, zav.2 ⟨⟨w, hi, rfl⟩, fun j x hj hx e => ?_⟩, hi⟩
 have h1 := (List.getElem?_eq_some_iff.1 hi)
 have h2 := (List.getElem?_eq_some_iff.1 hx)
 have := List.pairwise_iff_getElem.1 h j i (by rw [List.length_map]; exact h2.1) (by rw [List.length_map]; exact h1.1) hj
 rw [List.getElem_map, List.getElem_map, h1.2, h2.2, e] at this
 omega
theorem LI.best {l : Lgs} {T : Nat} (h : LI l T) {m : Msg} (hm : MIn l.n m) : ∃ i w, vwAt l.vs (bestQ l.past m.body.view m.body.q (0, 0)).1 = some i ∧ l.vs[i]? = some w ∧ 0 ≤ (bestQ l.past m.body.view m.body.q (0, 0)).2 ∧ (bestQ l.past m.body.view m.body.q (0, 0)).2 ≤ (w.all.length : Int) := by
 rcases bestQ_mem l.past m.body.view m.body.q (0, 0) with e | ⟨p, hp, hb⟩
 ·rw [e]
  obtain ⟨w, hw, h0⟩ := h.zero
  obtain ⟨i, h1, h2⟩ := vwAt_mem h.rise hw
  rw [h0] at h1
  exact ⟨i, w, h1, h2, Int.le_refl 0, by show (0 : Int) ≤ _; omega⟩
 ·have hq := hm.q p hp
  have hr : (p.1 - 1).toNat < l.n := by omega
  obtain ⟨w, hw, h0, h3⟩ := h.log _ hr _ hb
  obtain ⟨i, h1, h2⟩ := vwAt_mem h.rise hw
  rw [h0] at h1
  exact ⟨i, w, h1, h2, ((h.wf _ hr).low _ hb).2.2.1, h3⟩
theorem filt_take {α : Type} {p : α → Bool} {ws : List α} {i : Nat} {x : α} (hx : ws[i]? = some x) : (ws.take (i + 1)).filter p = (ws.take i).filter p ++ (if p x then [x] else []) := by
 rw [List.take_add_one, hx, List.filter_append]
 congr 1
 by_cases h : p x = true
 ·rw [if_pos h]; simp [h]
 ·rw [if_neg h]; simp [h]
def flatV {α : Type} (g : α → List Value) (l : List α) : List Value := (l.map g).flatten
theorem flatV_length {α : Type} {g : α → List Value} {sz : Nat} (hg : ∀ x, (g x).length = sz) (l : List α) : (flatV g l).length = l.length * sz := by
 induction l with
 | nil => simp [flatV]
 | cons x r ih => simp only [flatV, List.map_cons, List.flatten_cons, List.length_append, hg, List.length_cons] at ih ⊢; rw [ih, Nat.add_mul]; omega
theorem flatV_get {α : Type} {g : α → List Value} {sz : Nat} (hg : ∀ x, (g x).length = sz) : ∀ (l : List α) (i j : Nat) (x : α), l[i]? = some x → j < sz → (flatV g l)[i * sz + j]? = (g x)[j]?
 | [], i, j, x, h, _ => by simp at h
 | y :: r, 0, j, x, h, hj => by
  simp at h; subst h
  simp only [flatV, List.map_cons, List.flatten_cons, Nat.zero_mul, Nat.zero_add]
  exact List.getElem?_append_left (by rw [hg]; exact hj)
 | y :: r, i + 1, j, x, h, hj => by
  have ih := flatV_get hg r i j x (by simpa using h) hj
  simp only [flatV, List.map_cons, List.flatten_cons] at ih ⊢
  rw [List.getElem?_append_right (by rw [hg, Nat.add_mul]; omega), hg, ← ih]
  congr 1
  rw [Nat.add_mul]; omega
theorem flatV_append {α : Type} (g : α → List Value) (l r : List α) : flatV g (l ++ r) = flatV g l ++ flatV g r := by simp [flatV]
def voteV (p : Int × Int) : List Value := [.int .u64 p.1, .int .i64 p.2]
theorem voteV_len (p : Int × Int) : (voteV p).length = 2 := rfl
def pstL (b eb ec : Nat) (s : PM) : List HP := [row b 231 [.int .u64 s.g, .slice (some ⟨eb, 0, none⟩) (s.init.length + 1) ec],
 slc (some ⟨eb, 0, none⟩) (s.init.length + 1) ec 228 2 (flatV voteV s.all)]
def pstH (b : Nat) (s : PM) : HP := fun h => ∃ i : Nat × Nat, stars (pstL b i.1 i.2 s) h
theorem zam {b eb ec : Nat} {s : PM} {F : List HP} : ∀ x, stars (row b 231 [.int .u64 s.g, .slice (some ⟨eb, 0, none⟩) (s.init.length + 1) ec] ::
 slc (some ⟨eb, 0, none⟩) (s.init.length + 1) ec 228 2 (flatV voteV s.all) :: F) x → stars (pstH b s :: F) x :=
 fold_stars (B := [_, _]) fun x hx => ⟨(eb, ec), hx⟩
theorem pstH_open {fid : FuncId} {args : List Value} {f : Frag} {R : Value → Frag → List HP → Prop} {b : Nat} {s : PM} {F : List HP}
  (k : ∀ eb ec, Fn Tryz.prog fid args f (row b 231 [.int .u64 s.g, .slice (some ⟨eb, 0, none⟩) (s.init.length + 1) ec] ::
   slc (some ⟨eb, 0, none⟩) (s.init.length + 1) ec 228 2 (flatV voteV s.all) :: F) R) : Fn Tryz.prog fid args f (pstH b s :: F) R :=
 Fn.unfold (fun _ h => h) fun ⟨eb, ec⟩ => k eb ec
theorem pstH_openH {base : World} {n : Nat} {L : Env} {K : Kont} {f : Frag} {b : Nat} {s : PM} {F : List HP}
  (k : ∀ eb ec, H Tryz.prog base n L f (row b 231 [.int .u64 s.g, .slice (some ⟨eb, 0, none⟩) (s.init.length + 1) ec] ::
   slc (some ⟨eb, 0, none⟩) (s.init.length + 1) ec 228 2 (flatV voteV s.all) :: F) K) : H Tryz.prog base n L f (pstH b s :: F) K :=
 H.unfold (fun _ h => h) fun ⟨eb, ec⟩ => k eb ec
theorem all_last (s : PM) : s.all[s.init.length]? = some (s.lv, s.ln) := by simp [PM.all]
theorem votes_lv (s : PM) : (flatV voteV s.all)[s.init.length * 2 + 0]? = some (.int .u64 s.lv) := by rw [flatV_get voteV_len _ _ _ _ (all_last s) (by decide)]; rfl
theorem votes_ln (s : PM) : (flatV voteV s.all)[s.init.length * 2 + 1]? = some (.int .i64 s.ln) := by rw [flatV_get voteV_len _ _ _ _ (all_last s) (by decide)]; rfl
theorem all_len (s : PM) : s.all.length = s.init.length + 1 := by simp [PM.all]
section
variable (f : Frag) (F : List HP) (b : Nat) (s : PM)
theorem Fn.pstOpen {fid : FuncId} {args : List Value} {v : Value} (h : ∀ eb ec, Fn Tryz.prog fid args f (pstL b eb ec s ++ F) (Ret v f (pstL b eb ec s ++ F))) : Fn Tryz.prog fid args f (pstH b s :: F) (Ret v f (pstH b s :: F)) := by
 refine Fn.unfold (fun _ h => h) fun ⟨eb, ec⟩ => ?_
 intro base w hs
 refine (h eb ec base w hs).mono ?_
 rintro e w' ⟨u, f', A', he, ⟨rfl, rfl, rfl⟩, s'⟩
 exact ⟨_, _, _, he, ⟨rfl, rfl, rfl⟩, s'.imp zam⟩
theorem pst_last_o (eb ec : Nat) (hn : s.init.length ≤ 1000000) : Fn Tryz.prog 176 [.pointer (some ⟨b, 0, none⟩)] f (pstL b eb ec s ++ F) (Ret (.int .u64 s.lv) f (pstL b eb ec s ++ F)) := by
 show Fn _ _ _ f (row _ _ _ :: slc _ _ _ _ _ _ :: F) _
 refine Fn.enter Tryz.func176 rfl Tryz.ntmps176 rfl (L := [(0, _)]) ⟨rfl, trivial⟩ fun base => ?_
 refine gN ?_
 refine H.Bj (by kernel_rfl) (by decide +kernel) (by repeat (first | exact zab | refine zaa ?_ | refine zac ?_ | refine zae ?_)) ?_
 refine gT ?_
 refine HQ.Ce rfl rfl rfl rfl (by omega) rfl ?_
 refine gE ?_
 refine HQ.Ae rfl rfl rfl (.at0 (Rd.ofSlc (by repeat constructor) (by omega)) (votes_lv s)) rfl ?_
 refine gS ?_
 refine ga ?_
 exact H.Ac rfl rfl (fun _ h => h) ⟨rfl, rfl, rfl⟩
theorem pst_new : Fn Tryz.prog 114 [] f F (fun v f' A' => ∃ b, v = .pointer (some ⟨b, 0, none⟩) ∧ f' = f ∧ A' = pstH b PM.new :: F) := by
 refine Fn.enter Tryz.func114 rfl Tryz.ntmps114 rfl (L := []) trivial fun base => ?_
 refine gG ?_
 refine H.Ba rfl rfl rfl rfl (by decide) (by decide) rfl rfl fun eb => ?_
 refine gV ?_
 refine H.box rfl rfl rfl rfl fun b => ?_
 refine ga ?_
 refine H.Ac rfl rfl (A' := pstH b PM.new :: F) ?_ ⟨b, rfl, rfl, rfl⟩
 intro x hx
 refine zam (eb := eb) (ec := 1) x ?_
 refine keep_stars (fun y hy => ?_) x hx
 obtain ⟨m1, m2, d, e, a, r⟩ := hy
 exact ⟨m1, m2, d, e, row_slc (by rfl) (by decide) a, r⟩
theorem pst_open_o (eb ec : Nat) (hn : s.init.length ≤ 1000000) (v : Int) : Fn Tryz.prog 177 [.pointer (some ⟨b, 0, none⟩), .int .u64 v] f (pstL b eb ec s ++ F) (Ret (.bool (s.isOpen v)) f (pstL b eb ec s ++ F)) := by
 show Fn _ _ _ f (row _ _ _ :: slc _ _ _ _ _ _ :: F) _
 by_cases hv : v = s.g
 ·refine Fn.enter Tryz.func177 rfl Tryz.ntmps177 rfl (L := [(0, _), (1, _)]) ⟨rfl, rfl, trivial⟩ fun base => ?_
  refine gK ?_
  refine H.Bp rfl rfl rfl (pst_last_o f F b s eb ec hn) fun _ _ _ hR => ?_
  obtain ⟨rfl, rfl, rfl⟩ := hR
  refine gV ?_
  exact H.Ac rfl rfl (fun _ h => h) ⟨by simp [PM.isOpen, hv], rfl, rfl⟩
 ·refine Fn.enter Tryz.func177 rfl Tryz.ntmps177 rfl (L := [(0, _), (1, _)]) ⟨rfl, rfl, trivial⟩ fun base => ?_
  refine gH ?_
  exact H.Ac rfl rfl (fun _ h => h) ⟨by simp [PM.isOpen, hv], rfl, rfl⟩
theorem pst_open (hn : s.init.length ≤ 1000000) (v : Int) : Fn Tryz.prog 177 [.pointer (some ⟨b, 0, none⟩), .int .u64 v] f (pstH b s :: F) (Ret (.bool (s.isOpen v)) f (pstH b s :: F)) :=
 Fn.pstOpen f F b s fun eb ec => pst_open_o f F b s eb ec hn v
theorem pst_change (v : Int) : Fn Tryz.prog 151 [.pointer (some ⟨b, 0, none⟩), .int .u64 v] f (pstH b s :: F) (Ret (.bool (s.changeOk v)) f (pstH b (s.change v) :: F)) := by
 refine pstH_open fun eb ec => ?_
 by_cases h1 : v ≤ s.g
 ·refine Fn.enter Tryz.func151 rfl Tryz.ntmps151 rfl (L := [(0, _), (1, _)]) ⟨rfl, rfl, trivial⟩ fun base => ?_
  refine gR ?_
  have e : s.changeOk v = false := by simp [PM.changeOk]; omega
  exact H.Ac rfl rfl zam ⟨by rw [e], rfl, by simp [PM.change, e]⟩
 ·by_cases h2 : 1073741824 ≤ v
  ·refine Fn.enter Tryz.func151 rfl Tryz.ntmps151 rfl (L := [(0, _), (1, _)]) ⟨rfl, rfl, trivial⟩ fun base => ?_
   refine gH ?_
   have e : s.changeOk v = false := by simp [PM.changeOk]; omega
   exact H.Ac rfl rfl zam ⟨by rw [e], rfl, by simp [PM.change, e]⟩
  ·refine Fn.enter Tryz.func151 rfl Tryz.ntmps151 rfl (L := [(0, _), (1, _)]) ⟨rfl, rfl, trivial⟩ fun base => ?_
   refine gU ?_
   have e : s.changeOk v = true := by simp [PM.changeOk]; omega
   refine H.Ac rfl rfl (A' := pstH b (s.change v) :: F) ?_ ⟨by rw [e], rfl, rfl⟩
   rw [show s.change v = { s with g := v } by simp [PM.change, e]]
   exact zam (s := { s with g := v })
theorem votes_bump (s : PM) : SetV (flatV voteV s.all) (s.init.length * 2 + 1) (.int .i64 (s.ln + 1)) (flatV voteV ({ s with ln := s.ln + 1 } : PM).all) := by
 have h : s.init.length * 2 + 1 < (flatV voteV s.all).length := by rw [flatV_length voteV_len, all_len]; omega
 have := SetV.mk (.int .i64 (s.ln + 1)) h
 have e : (flatV voteV s.all).set (s.init.length * 2 + 1) (.int .i64 (s.ln + 1)) = flatV voteV ({ s with ln := s.ln + 1 } : PM).all := by
  simp only [PM.all, flatV_append]
  have h2 : (flatV voteV s.init).length = s.init.length * 2 := flatV_length voteV_len _
  rw [List.set_append_right _ _ (by omega), h2]
  have : s.init.length * 2 + 1 - s.init.length * 2 = 1 := by omega
  rw [this]
  rfl
 rwa [e] at this
theorem pst_prepare {B : Int} (hw : PM.WF s B) (hB : B ≤ 9000000000000000000) (hn : s.init.length ≤ 1000000) (v : Int) : Fn Tryz.prog 157 [.pointer (some ⟨b, 0, none⟩), .int .u64 v] f (pstH b s :: F) (Ret (.bool (s.isOpen v)) f (pstH b (s.prepare v) :: F)) := by
 have hl := hw.last
 cases ho : s.isOpen v with
 | false =>
  refine Fn.enter Tryz.func157 rfl Tryz.ntmps157 rfl (L := [(0, _), (1, _)]) ⟨rfl, rfl, trivial⟩ fun base => ?_
  refine gN ?_
  refine H.Bp rfl rfl rfl (pst_open f F b s hn v) fun _ _ _ hR => ?_
  obtain ⟨rfl, rfl, rfl⟩ := hR
  rw [ho]
  refine ge ?_
  exact H.Ac rfl rfl (fun _ h => h) ⟨rfl, rfl, by simp [PM.prepare, ho]⟩
 | true =>
  refine Fn.enter Tryz.func157 rfl Tryz.ntmps157 rfl (L := [(0, _), (1, _)]) ⟨rfl, rfl, trivial⟩ fun base => ?_
  refine gN ?_
  refine H.Bp rfl rfl rfl (pst_open f F b s hn v) fun _ _ _ hR => ?_
  obtain ⟨rfl, rfl, rfl⟩ := hR
  rw [ho]
  refine gO ?_
  refine pstH_openH fun eb ec => ?_
  refine H.drawT 16 (by kernel_rfl) (by decide +kernel) ?_
  refine gI ?_
  refine HS.Ce rfl rfl rfl rfl (by omega) rfl ?_
  refine gI ?_
  refine HS.Ae rfl rfl rfl (.at0 (Rd.ofSlc (by repeat constructor) (by omega)) (votes_ln s)) rfl ?_
  refine gI ?_
  refine HS.Ce rfl rfl rfl rfl (by omega) rfl ?_
  refine gI ?_
  refine H.store_slc rfl rfl rfl rfl (by repeat constructor) (votes_bump s) ?_
  refine ga ?_
  have hf := zam (b := b) (eb := eb) (ec := ec) (s := { s with ln := s.ln + 1 }) (F := F)
  rw [show s.prepare v = { s with ln := s.ln + 1 } by simp [PM.prepare, ho]]
  exact H.Ac rfl rfl hf ⟨rfl, rfl, rfl⟩
end
section
variable (f : Frag) (F : List HP) (b : Nat) (s : PM)
theorem pst_commit {B : Int} (hw : PM.WF s B) (hB : B ≤ 9000000000000000000) (hn : s.init.length ≤ 1000000) (v k most : Int) (hk : 0 ≤ k ∧ k ≤ 18446744073709551615) (hm : -9223372036854775808 ≤ most ∧ most ≤ 9223372036854775807) :
  Fn Tryz.prog 158 [.pointer (some ⟨b, 0, none⟩), .int .u64 v, .int .u64 k, .int .i64 most] f (pstH b s :: F) (Ret (.bool (s.commitOk v k most)) f (pstH b (s.commit v k most) :: F)) := by
 have hl := hw.last
 refine Fn.unfold (fun _ h => h) fun ⟨eb, ec⟩ => ?_
 show Fn _ _ _ f (row _ _ _ :: slc _ _ _ _ _ _ :: F) _
 cases ho : s.isOpen v with
 | false =>
  have e : s.commitOk v k most = false := by simp [PM.isOpen] at ho; simp [PM.commitOk]; omega
  refine Fn.enter Tryz.func158 rfl Tryz.ntmps158 rfl (L := [(0, _), (1, _), (2, _), (3, _)]) ⟨rfl, rfl, rfl, rfl, trivial⟩ fun base => ?_
  refine gN ?_
  refine H.draw ((0, false) :: (1, false) :: (2, true) :: qt 30 3) (by kernel_rfl) (by decide +kernel) (by repeat (first | exact zab | refine zaa ?_ | refine zac ?_ | refine zae ?_)) (S := [_, _]) rfl ?_
  refine gD ?_
  refine HQ.event ?_
  refine H.Bp rfl rfl rfl (pst_open_o f F b s eb ec hn v) fun _ _ _ hR => ?_
  obtain ⟨rfl, rfl, rfl⟩ := hR
  rw [ho]
  refine gC ?_
  refine H.back (A := [_, _]) rfl ?_
  refine gc ?_
  refine ge ?_
  exact H.Ac rfl rfl zam ⟨by rw [e], rfl, by simp [PM.commit, e]⟩
 | true =>
  have hopen : v = s.g ∧ v = s.lv := by simpa [PM.isOpen] using ho
  by_cases h1 : k = s.ln + 1
  ·by_cases h2 : most < 0
   ·have e : s.commitOk v k most = false := by simp [PM.commitOk]; omega
    clear hopen
    refine Fn.enter Tryz.func158 rfl Tryz.ntmps158 rfl (L := [(0, _), (1, _), (2, _), (3, _)]) ⟨rfl, rfl, rfl, rfl, trivial⟩ fun base => ?_
    refine gN ?_
    refine H.draw ((0, false) :: (1, false) :: (2, true) :: qt 30 3) (by kernel_rfl) (by decide +kernel) (by repeat (first | exact zab | refine zaa ?_ | refine zac ?_ | refine zae ?_)) (S := [_, _]) rfl ?_
    refine gD ?_
    refine HQ.event ?_
    refine H.Bp rfl rfl rfl (pst_open_o f F b s eb ec hn v) fun _ _ _ hR => ?_
    obtain ⟨rfl, rfl, rfl⟩ := hR
    rw [ho]
    refine gC ?_
    refine H.back (A := [_, _]) rfl ?_
    refine gc ?_
    refine HQ.Ce rfl rfl rfl rfl (by omega) rfl ?_
    refine gE ?_
    refine HQ.Ae rfl rfl rfl (.at0 (Rd.ofSlc (by repeat constructor) (by omega)) (votes_ln s)) rfl ?_
    refine gc ?_
    refine ge ?_
    exact H.Ac rfl rfl zam ⟨by rw [e], rfl, by simp [PM.commit, e]⟩
   ·by_cases h3 : most < k
    ·have e : s.commitOk v k most = false := by simp [PM.commitOk]; omega
     clear hopen
     refine Fn.enter Tryz.func158 rfl Tryz.ntmps158 rfl (L := [(0, _), (1, _), (2, _), (3, _)]) ⟨rfl, rfl, rfl, rfl, trivial⟩ fun base => ?_
     refine gN ?_
     refine H.draw ((0, false) :: (1, false) :: (2, true) :: qt 30 3) (by kernel_rfl) (by decide +kernel) (by repeat (first | exact zab | refine zaa ?_ | refine zac ?_ | refine zae ?_)) (S := [_, _]) rfl ?_
     refine gD ?_
     refine HQ.event ?_
     refine H.Bp rfl rfl rfl (pst_open_o f F b s eb ec hn v) fun _ _ _ hR => ?_
     obtain ⟨rfl, rfl, rfl⟩ := hR
     rw [ho]
     refine gC ?_
     refine H.back (A := [_, _]) rfl ?_
     refine gc ?_
     refine HQ.Ce rfl rfl rfl rfl (by omega) rfl ?_
     refine gE ?_
     refine HQ.Ae rfl rfl rfl (.at0 (Rd.ofSlc (by repeat constructor) (by omega)) (votes_ln s)) rfl ?_
     refine gc ?_
     refine gJ ?_
     exact H.Ac rfl rfl zam ⟨by rw [e], rfl, by simp [PM.commit, e]⟩
    ·have e : s.commitOk v k most = true := by simp [PM.commitOk]; omega
     clear hopen
     refine Fn.enter Tryz.func158 rfl Tryz.ntmps158 rfl (L := [(0, _), (1, _), (2, _), (3, _)]) ⟨rfl, rfl, rfl, rfl, trivial⟩ fun base => ?_
     refine gN ?_
     refine H.draw ((0, false) :: (1, false) :: (2, true) :: qt 30 3) (by kernel_rfl) (by decide +kernel) (by repeat (first | exact zab | refine zaa ?_ | refine zac ?_ | refine zae ?_)) (S := [_, _]) rfl ?_
     refine gD ?_
     refine HQ.event ?_
     refine H.Bp rfl rfl rfl (pst_open_o f F b s eb ec hn v) fun _ _ _ hR => ?_
     obtain ⟨rfl, rfl, rfl⟩ := hR
     rw [ho]
     refine gC ?_
     refine H.back (A := [_, _]) rfl ?_
     refine gc ?_
     refine HQ.Ce rfl rfl rfl rfl (by omega) rfl ?_
     refine gE ?_
     refine HQ.Ae rfl rfl rfl (.at0 (Rd.ofSlc (by repeat constructor) (by omega)) (votes_ln s)) rfl ?_
     refine gc ?_
     refine gL ?_
     refine H.drawT 16 (by kernel_rfl) (by decide +kernel) ?_
     refine gI ?_
     refine HS.Ce rfl rfl rfl rfl (by omega) rfl ?_
     refine gI ?_
     refine HS.Ae rfl rfl rfl (.at0 (Rd.ofSlc (by repeat constructor) (by omega)) (votes_ln s)) rfl ?_
     refine gI ?_
     refine HS.Ce rfl rfl rfl rfl (by omega) rfl ?_
     refine gI ?_
     refine H.store_slc rfl rfl rfl rfl (by repeat constructor) (votes_bump s) ?_
     refine ga ?_
     have hf := zam (b := b) (eb := eb) (ec := ec) (s := { s with ln := s.ln + 1 }) (F := F)
     rw [show s.commit v k most = { s with ln := s.ln + 1 } by simp [PM.commit, e]]
     exact H.Ac rfl rfl hf ⟨by rw [e], rfl, rfl⟩
  ·have e : s.commitOk v k most = false := by simp [PM.commitOk]; omega
   clear hopen
   refine Fn.enter Tryz.func158 rfl Tryz.ntmps158 rfl (L := [(0, _), (1, _), (2, _), (3, _)]) ⟨rfl, rfl, rfl, rfl, trivial⟩ fun base => ?_
   refine gN ?_
   refine H.draw ((0, false) :: (1, false) :: (2, true) :: qt 30 3) (by kernel_rfl) (by decide +kernel) (by repeat (first | exact zab | refine zaa ?_ | refine zac ?_ | refine zae ?_)) (S := [_, _]) rfl ?_
   refine gD ?_
   refine HQ.event ?_
   refine H.Bp rfl rfl rfl (pst_open_o f F b s eb ec hn v) fun _ _ _ hR => ?_
   obtain ⟨rfl, rfl, rfl⟩ := hR
   rw [ho]
   refine gC ?_
   refine H.back (A := [_, _]) rfl ?_
   refine gc ?_
   refine HQ.Ce rfl rfl rfl rfl (by omega) rfl ?_
   refine gE ?_
   refine HQ.Ae rfl rfl rfl (.at0 (Rd.ofSlc (by repeat constructor) (by omega)) (votes_ln s)) rfl ?_
   refine gc ?_
   refine ge ?_
   exact H.Ac rfl rfl zam ⟨by rw [e], rfl, by simp [PM.commit, e]⟩
theorem pst_enter {B : Int} (hw : PM.WF s B) (hn : s.init.length ≤ 100000) (v k : Int) :
  Fn Tryz.prog 153 [.pointer (some ⟨b, 0, none⟩), .int .u64 v, .int .i64 k] f (pstH b s :: F) (Ret (.bool (s.enterOk v k)) f (pstH b (s.enter v k) :: F)) := by
 have hl := hw.last
 refine Fn.unfold (fun _ h => h) fun ⟨eb, ec⟩ => ?_
 show Fn _ _ _ f (row _ _ _ :: slc _ _ _ _ _ _ :: F) _
 cases ho : s.enterOk v k with
 | false =>
  have hno : v ≤ s.lv ∨ v < s.g ∨ 1073741824 ≤ v ∨ k < 0 := by simp [PM.enterOk] at ho; omega
  have e2 : s.enter v k = s := by simp [PM.enter, ho]
  rw [e2]
  by_cases h1 : v ≤ s.lv
  ·clear hno
   refine Fn.enter Tryz.func153 rfl Tryz.ntmps153 rfl (L := [(0, _), (1, _), (2, _)]) ⟨rfl, rfl, rfl, trivial⟩ fun base => ?_
   refine gN ?_
   refine H.Bp rfl rfl rfl (pst_last_o f F b s eb ec (by omega)) fun _ _ _ hR => ?_
   obtain ⟨rfl, rfl, rfl⟩ := hR
   refine gQ ?_
   exact H.Ac rfl rfl zam ⟨rfl, rfl, rfl⟩
  ·by_cases h2 : v < s.g
   ·clear hno
    refine Fn.enter Tryz.func153 rfl Tryz.ntmps153 rfl (L := [(0, _), (1, _), (2, _)]) ⟨rfl, rfl, rfl, trivial⟩ fun base => ?_
    refine gN ?_
    refine H.Bp rfl rfl rfl (pst_last_o f F b s eb ec (by omega)) fun _ _ _ hR => ?_
    obtain ⟨rfl, rfl, rfl⟩ := hR
    refine gR ?_
    exact H.Ac rfl rfl zam ⟨rfl, rfl, rfl⟩
   ·by_cases h3 : 1073741824 ≤ v
    ·clear hno
     refine Fn.enter Tryz.func153 rfl Tryz.ntmps153 rfl (L := [(0, _), (1, _), (2, _)]) ⟨rfl, rfl, rfl, trivial⟩ fun base => ?_
     refine gN ?_
     refine H.Bp rfl rfl rfl (pst_last_o f F b s eb ec (by omega)) fun _ _ _ hR => ?_
     obtain ⟨rfl, rfl, rfl⟩ := hR
     refine gR ?_
     exact H.Ac rfl rfl zam ⟨rfl, rfl, rfl⟩
    ·have h4 : k < 0 := by omega
     clear hno
     refine Fn.enter Tryz.func153 rfl Tryz.ntmps153 rfl (L := [(0, _), (1, _), (2, _)]) ⟨rfl, rfl, rfl, trivial⟩ fun base => ?_
     refine gN ?_
     refine H.Bp rfl rfl rfl (pst_last_o f F b s eb ec (by omega)) fun _ _ _ hR => ?_
     obtain ⟨rfl, rfl, rfl⟩ := hR
     refine gH ?_
     exact H.Ac rfl rfl zam ⟨rfl, rfl, rfl⟩
 | true =>
  obtain ⟨h1, h2, h3, h4⟩ : s.lv < v ∧ s.g ≤ v ∧ v < 1073741824 ∧ 0 ≤ k := by simpa [PM.enterOk] using ho
  have e2 : s.enter v k = ⟨v, s.all, v, k⟩ := by simp [PM.enter, ho]
  rw [e2]
  refine Fn.enter Tryz.func153 rfl Tryz.ntmps153 rfl (L := [(0, _), (1, _), (2, _)]) ⟨rfl, rfl, rfl, trivial⟩ fun base => ?_
  refine gN ?_
  refine H.Bp rfl rfl rfl (pst_last_o f F b s eb ec (by omega)) fun _ _ _ hR => ?_
  obtain ⟨rfl, rfl, rfl⟩ := hR
  refine gU ?_
  refine H.Ba rfl rfl rfl rfl (by decide) (by decide) rfl rfl fun tb => ?_
  refine H.Bd (m := 1) rfl rfl rfl rfl rfl (fun p' c' => (by repeat constructor)) (Src.slice (Rd.ofRow (by repeat constructor)) rfl) (zad rfl) rfl (by omega) (by omega) fun p' c' => ?_
  refine H.Bq (by repeat constructor) (by omega) fun eb' hp => ?_
  subst hp
  refine gO ?_
  refine H.Ab (.here _ _) ?_
  have hf := zam (b := b) (eb := eb') (ec := c') (s := ⟨v, s.all, v, k⟩) (F := F)
  have hvw : flatV voteV (⟨v, s.all, v, k⟩ : PM).all = flatV voteV s.all ++ [.int .u64 v, .int .i64 k] := by
   simp only [PM.all]
   rw [flatV_append]
   rfl
  have hlen : (⟨v, s.all, v, k⟩ : PM).init.length = s.init.length + 1 := by simp [PM.all]
  rw [hvw, hlen] at hf
  exact H.Ac rfl rfl hf ⟨rfl, rfl, rfl⟩
theorem voted_drop : ∀ (l : List (Int × Int)) (k : Nat) (v : Int), (∀ i p, i < k → l[i]? = some p → v ≠ p.1) → PM.voted l v = PM.voted (l.drop k) v
 | l, 0, v, _ => by simp
 | [], k + 1, v, _ => by simp
 | (w, n) :: r, k + 1, v, h => by
  have h0 : v ≠ w := h 0 (w, n) (by omega) (by simp)
  simp only [PM.voted, h0, if_false, List.drop_succ_cons]
  exact voted_drop r k v fun i p hi hp => h (i + 1) p (by omega) (by simpa using hp)
theorem pst_voted (hn : s.init.length ≤ 1000000) (v : Int) :
  Fn Tryz.prog 117 [.pointer (some ⟨b, 0, none⟩), .int .u64 v] f (pstH b s :: F) (Ret (.tuple #[.int .i64 ((PM.voted s.all v).getD 0), .bool (PM.voted s.all v).isSome]) f (pstH b s :: F)) := by
 refine Fn.unfold (fun _ h => h) fun ⟨eb, ec⟩ => ?_
 show Fn _ _ _ f (row _ _ _ :: slc _ _ _ _ _ _ :: F) _
 refine Fn.enter Tryz.func117 rfl Tryz.ntmps117 rfl (L := [(0, _), (1, _)]) ⟨rfl, rfl, trivial⟩ fun base => ?_
 refine ga ?_
 refine H.Aw (fun k : Nat => [(6, .int .i64 (k : Int)), (0, .pointer (some ⟨b, 0, none⟩)), (1, .int .u64 v)]) (fun _ => f) (fun _ => row _ _ _ :: slc _ _ _ _ _ _ :: F) (fun k => k ≤ s.init.length + 1 ∧ ∀ i p, i < k → s.all[i]? = some p → v ≠ p.1) (fun k => s.init.length + 1 - k) 0 ⟨by omega, by intro i p hi; omega⟩ ⟨rfl, rfl, rfl, trivial⟩ rfl rfl fun k hk => ?_
 obtain ⟨hk, hall⟩ := hk
 refine gK ?_
 by_cases hlt : k < s.init.length + 1
 ·obtain ⟨p, hp⟩ : ∃ p, s.all[k]? = some p := ⟨s.all[k]'(by rw [all_len]; omega), by simp⟩
  have g1 : (flatV voteV s.all)[k * 2 + 0]? = some (.int .u64 p.1) := by rw [flatV_get voteV_len _ _ _ _ hp (by decide)]; rfl
  have g2 : (flatV voteV s.all)[k * 2 + 1]? = some (.int .i64 p.2) := by rw [flatV_get voteV_len _ _ _ _ hp (by decide)]; rfl
  refine gY ?_
  refine H.Ce rfl rfl rfl rfl hlt rfl ?_
  refine gP ?_
  refine H.Ae rfl rfl rfl (.at0 (Rd.ofSlc (by repeat constructor) (by omega)) g1) rfl ?_
  by_cases hv : p.1 = v
  ·refine gY ?_
   refine H.Ce rfl rfl rfl rfl hlt rfl ?_
   refine gP ?_
   refine H.Ae rfl rfl rfl (.at0 (Rd.ofSlc (by repeat constructor) (by omega)) g2) rfl ?_
   refine ga ?_
   have e : PM.voted s.all v = some p.2 := by
    rw [voted_drop s.all k v hall]
    have hk2 : k < s.all.length := by rw [all_len]; omega
    rw [List.drop_eq_getElem_cons hk2]
    have : s.all[k] = p := by rw [List.getElem?_eq_getElem hk2] at hp; exact Option.some.inj hp
    rw [this]
    simp [PM.voted, hv]
   exact H.ret2 rfl rfl rfl zam ⟨by rw [e]; rfl, rfl, rfl⟩
  ·refine gL ?_
   refine H.Am (k + 1) ⟨by omega, ?_⟩ (by omega) ⟨rfl, rfl, rfl, trivial⟩ rfl rfl
   intro i q hi hq
   by_cases c : i = k
   ·subst c; rw [hp] at hq; cases hq; exact fun e => hv e.symm
   ·exact hall i q (by omega) hq
 ·refine gG ?_
  have e : PM.voted s.all v = none := by
   rw [voted_drop s.all k v hall, List.drop_eq_nil_of_le (by rw [all_len]; omega)]
   rfl
  exact H.ret2 rfl rfl rfl zam ⟨by rw [e]; rfl, rfl, rfl⟩
end
def lst (xs : List HP) : HP := fun h => stars xs h
theorem lst_pull {x : HP} : ∀ {xs : List HP} {i : Nat}, xs[i]? = some x → stars xs = star x (stars (xs.set i emp))
 | [], i, h => by simp at h
 | y :: r, 0, h => by
  have e : y = x := by simpa using h
  subst e
  show star y (stars r) = star y (star emp (stars r))
  rw [emp_star]
 | y :: r, i + 1, h => by
  show star y (stars r) = star x (star y (stars (r.set i emp)))
  rw [lst_pull (xs := r) (i := i) (by simpa using h), zaw]
theorem set_get {α : Type} {xs : List α} {i : Nat} {x y : α} (h : xs[i]? = some x) : (xs.set i y)[i]? = some y := by
 rw [List.getElem?_set_self (List.getElem?_eq_some_iff.1 h).1]
theorem lst_put {x0 x : HP} {xs : List HP} {i : Nat} (h : xs[i]? = some x0) : star x (stars (xs.set i emp)) = stars (xs.set i x) := by
 rw [lst_pull (xs := xs.set i x) (i := i) (set_get h), List.set_set]
theorem lst_perm {a b : List HP} (h : a.Perm b) : stars a = stars b := by
 induction h with
 | nil => rfl
 | cons x _ ih => show star x _ = star x _; rw [ih]
 | swap x y l => show star y (star x _) = star x (star y _); rw [zaw]
 | trans _ _ h1 h2 => exact h1.trans h2
theorem set_self {α : Type} {xs : List α} {i : Nat} {x : α} (h : xs[i]? = some x) : xs.set i x = xs := by
 apply List.ext_getElem?
 intro j
 rw [List.getElem?_set]
 split
 ·rename_i e
  subst e
  rw [h]
  split
  ·rfl
  ·rename_i h2
   exact absurd (List.getElem?_eq_some_iff.1 h).1 h2
 ·rfl
theorem lst_pullA {x : HP} {xs : List HP} {i : Nat} (A : List HP) (h : xs[i]? = some x) : stars (lst xs :: A) = stars (x :: lst (xs.set i emp) :: A) := by
 show star (stars xs) (stars A) = star x (star (stars (xs.set i emp)) (stars A))
 rw [lst_pull h, zbg]
theorem lst_putA {x0 x : HP} {xs : List HP} {i : Nat} (A : List HP) (h : xs[i]? = some x0) : stars (x :: lst (xs.set i emp) :: A) = stars (lst (xs.set i x) :: A) := by
 show star x (star (stars (xs.set i emp)) (stars A)) = star (stars (xs.set i x)) (stars A)
 rw [← zbg, lst_put h]
section
variable {P : Program} {base : World} {n : Nat} {L : Env} {f : Frag} {A : List HP} {K : Kont} {xs : List HP} {i : Nat}
theorem H.lstPull {x : HP} (h : xs[i]? = some x) (kk : H P base n L f (x :: lst (xs.set i emp) :: A) K) : H P base n L f (lst xs :: A) K := H.conv (lst_pullA A h) kk
theorem H.lstPut {x0 x : HP} (h : xs[i]? = some x0) (kk : H P base n L f (lst (xs.set i x) :: A) K) : H P base n L f (x :: lst (xs.set i emp) :: A) K := H.conv (lst_putA A h) kk
theorem H.lstBack {x : HP} (h : xs[i]? = some x) (kk : H P base n L f (lst xs :: A) K) : H P base n L f (x :: lst (xs.set i emp) :: A) K := H.lstPut h (by rw [set_self h]; exact kk)
end
/-! ### Rows of cells, one for each number below a bound -/
def rngV (n : Nat) (g : Nat → Value) : List Value := (List.range n).map g
theorem rngV_len (n : Nat) (g : Nat → Value) : (rngV n g).length = n := by unfold rngV; rw [List.length_map, List.length_range]
theorem rngV_get {n : Nat} (g : Nat → Value) {i : Nat} (h : i < n) : (rngV n g)[i]? = some (g i) := by
 unfold rngV
 rw [List.getElem?_map, List.getElem?_range h]
 rfl
theorem rngV_set {n : Nat} (g : Nat → Value) {i : Nat} (v : Value) (h : i < n) : SetV (rngV n g) i v (rngV n (updF g i v)) := by
 have e : rngV n (updF g i v) = (rngV n g).set i v := by
  apply List.ext_getElem?
  intro j
  rw [List.getElem?_set, rngV_len]
  by_cases hj : j < n
  ·rw [rngV_get _ hj]
   split
   ·rename_i e; subst e; rw [zag]
   ·rename_i e; rw [zak _ _ (fun h => e h.symm), rngV_get _ hj]
  ·rw [List.getElem?_eq_none (by rw [rngV_len]; omega)]
   split
   ·rename_i e; omega
   ·rw [List.getElem?_eq_none (by rw [rngV_len]; omega)]
 rw [e]
 exact SetV.mk v (by rw [rngV_len]; exact h)
theorem rngV_congr {n : Nat} {g g' : Nat → Value} (h : ∀ i, i < n → g i = g' i) : rngV n g = rngV n g' := by
 unfold rngV
 exact List.map_congr_left fun i hi => h i (List.mem_range.1 hi)
structure VV where
 w : Vw
 sp : Option Addr
 sc : Nat
 pp : Option Addr
 pc : Nat
def VV.vals (x : VV) : List Value := [.int .u64 x.w.v, .int .u64 x.w.num, .slice x.sp x.w.s.length x.sc, .slice x.pp x.w.p.length x.pc]
theorem VV.len (x : VV) : x.vals.length = 4 := rfl
theorem Req.len (r : Req) : r.vals.length = 40 := rfl
def prepV (y : Int × Req) : List Value := .int .u64 y.1 :: y.2.vals
theorem prepV_len (y : Int × Req) : (prepV y).length = 41 := rfl
def VV.own (x : VV) : HP := slc x.pp x.w.p.length x.pc 241 41 (x.w.p.flatMap prepV)
theorem Reqs_one (l : List Req) : ∀ v ∈ l.flatMap Req.vals, one v = true := by
 intro v hv
 obtain ⟨r, _, hr⟩ := List.mem_flatMap.1 hv
 exact zad (l := r.vals) rfl v hr
def chV (c : Int × Int) : List Value := [.int .u64 c.1, .int .u64 c.2]
theorem chV_len (c : Int × Int) : (chV c).length = 2 := rfl
def lgC (n : Nat) (kn : Nat → Int) (vp : Option Addr) (vl vc : Nat) (pp : Option Addr) (pc : Nat) (cp : Option Addr) (cc : Nat) : List Value := [.int .i64 (n : Int)] ++ v11 kn ++ [.slice vp vl vc, .slice pp n pc, .slice cp n cc]
theorem lgC_kn {f : Frag} {A A' : List HP} {b n : Nat} {T : TypeId} {kn : Nat → Int} {vp : Option Addr} {vl vc : Nat} {pp : Option Addr} {pc : Nat} {cp : Option Addr} {cc : Nat}
  (h : At A (row b T (lgC n kn vp vl vc pp pc cp cc)) A' (row b T (lgC n kn vp vl vc pp pc cp cc))) : Rd f A b (0 + 1) (v11 kn) :=
 (Rd.ofRow (f := f) h).sub rfl
def addrV (b : Nat) : List Value := [.pointer (some ⟨b, 0, none⟩)]
structure LPt where
 V : List VV
 vp : Option Addr
 vc : Nat
 pp : Option Addr
 pc : Nat
 cp : Option Addr
 cc : Nat
 pb : Nat → Nat
 cs : Nat → Option Addr × Nat
structure lgφ (f : Frag) (l : Lgs) (i : LPt) : Prop where
 vs : i.V.map VV.w = l.vs
 s : ∀ x ∈ i.V, ListAt f x.sp 40 Req.vals x.w.s
 p : ListAt f i.pp 1 addrV ((List.range l.n).map i.pb)
def chRow (l : Lgs) (cs : Nat → Option Addr × Nat) : List Value := rngV l.n fun r => .slice (cs r).1 (l.ch r).length (cs r).2
def chFam (l : Lgs) (cs : Nat → Option Addr × Nat) (r : Nat) : HP := slc (cs r).1 (l.ch r).length (cs r).2 234 2 ((l.ch r).flatMap chV)
def lgB (lb : Nat) (l : Lgs) (i : LPt) : List HP := [row lb 200 (lgC l.n l.known i.vp i.V.length i.vc i.pp i.pc i.cp i.cc), slc i.vp i.V.length i.vc 195 4 (i.V.flatMap VV.vals), lst (i.V.map VV.own),
 fam (fun r => pstH (i.pb r) (l.past r)) l.n, slc i.cp l.n i.cc 232 1 (chRow l i.cs), fam (chFam l i.cs) l.n]
def logsH (f : Frag) (lb : Nat) (l : Lgs) : HP := pack (lgφ f l) (lgB lb l)
theorem lgφ.mono {f g : Frag} (h : Le f g) {l : Lgs} {i : LPt} (hl : lgφ f l i) : lgφ g l i := ⟨hl.vs, fun x hx => (hl.s x hx).mono h, hl.p.mono h⟩
theorem logsH_mono {f g : Frag} (h : Le f g) {lb : Nat} {l : Lgs} : ∀ x, logsH f lb l x → logsH g lb l x := fun _ ⟨i, hi, hx⟩ => ⟨i, hi.mono h, hx⟩
theorem zai {f : Frag} {F : List HP} {lb : Nat} {l : Lgs} (i : LPt) (h : lgφ f l i) : ∀ x, stars (lgB lb l i ++ F) x → stars (logsH f lb l :: F) x := fun x hx =>
 pack_fold (φ := lgφ f l) (B := lgB lb l) i h x hx
theorem lgφ.len {f : Frag} {l : Lgs} {i : LPt} (h : lgφ f l i) : i.V.length = l.vs.length := by rw [← h.vs, List.length_map]
theorem lgφ.at {f : Frag} {l : Lgs} {i : LPt} (h : lgφ f l i) {j : Nat} {x : VV} (hx : i.V[j]? = some x) : l.vs[j]? = some x.w := by rw [← h.vs, List.getElem?_map, hx]; rfl
theorem lgφ.of {f : Frag} {l : Lgs} {i : LPt} (h : lgφ f l i) {j : Nat} {w : Vw} (hw : l.vs[j]? = some w) : ∃ x, i.V[j]? = some x ∧ x.w = w := by
 rw [← h.vs, List.getElem?_map] at hw
 cases e : i.V[j]? with
 | none => rw [e] at hw; cases hw
 | some x => rw [e] at hw; cases hw; exact ⟨x, rfl, rfl⟩
theorem lgφ.past {f : Frag} {l : Lgs} {i : LPt} (h : lgφ f l i) (hn : 0 < l.n) : ∃ b off, i.pp = some ⟨b, off, none⟩ ∧ ∀ {e : Frag} {A : List HP} {r : Nat}, Le f e → r < l.n → Rd1 e A b (off + r) (.pointer (some ⟨i.pb r, 0, none⟩)) := by
 obtain ⟨b, off, h1, rd⟩ := ListAt.all (vals := addrV) (sz := 1) (fun _ => rfl) (by decide) h.p (by rw [List.length_map, List.length_range]; exact hn)
 refine ⟨b, off, h1, fun {e A r} he hr => ?_⟩
 have h2 := rd e A r (i.pb r) he (by rw [List.getElem?_map, List.getElem?_range hr]; rfl)
 have h3 := Rd1.of (i := 0) h2 (v := .pointer (some ⟨i.pb r, 0, none⟩)) rfl
 rw [Nat.mul_one, Nat.add_zero] at h3
 exact h3
section
variable (f : Frag) (F : List HP)
theorem prim_fn {n : Nat} (hn : 1 ≤ n ∧ n ≤ 11) {v : Int} (hv : 0 ≤ v) : Fn Tryz.prog 149 [.int .i64 (n : Int), .int .u64 v] f F (Ret (.int .i64 (primZ n v)) f F) := by
 have h1 : v % (n : Int) < n := Int.emod_lt_of_pos v (by omega)
 have h2 : 0 ≤ v % (n : Int) := Int.emod_nonneg v (by omega)
 have e : v.tmod (n : Int) = ((primI n v : Nat) : Int) := by
  unfold primI
  rw [Int.tmod_eq_emod_of_nonneg hv]
  omega
 have hl : primI n v < 11 := by unfold primI; omega
 refine Fn.enter Tryz.func149 rfl Tryz.ntmps149 rfl (L := [(0, _), (1, _)]) ⟨rfl, rfl, trivial⟩ fun base => ?_
 refine gW ?_
 refine H.rem (z := ((primI n v : Nat) : Int)) rfl rfl rfl (by omega) e rfl ?_
 refine gW ?_
 exact H.Ac rfl rfl (fun _ h => h) ⟨rfl, rfl, rfl⟩
theorem lgview_fn {lb n : Nat} {kn : Nat → Int} {V : List VV} {vp : Option Addr} {vc : Nat} {pp : Option Addr} {pc : Nat} {cp : Option Addr} {cc : Nat} (hl : V.length ≤ 100000) (v : Int) :
  Fn Tryz.prog 150 [.pointer (some ⟨lb, 0, none⟩), .int .u64 v] f (row lb 200 (lgC n kn vp V.length vc pp pc cp cc) :: slc vp V.length vc 195 4 (V.flatMap VV.vals) :: F)
   (Ret (.int .i64 (vwZ (V.map VV.w) v)) f (row lb 200 (lgC n kn vp V.length vc pp pc cp cc) :: slc vp V.length vc 195 4 (V.flatMap VV.vals) :: F)) := by
 refine Fn.enter Tryz.func150 rfl Tryz.ntmps150 rfl (L := [(0, _), (1, _)]) ⟨rfl, rfl, trivial⟩ fun base => ?_
 refine ga ?_
 refine H.Aw (ι := Nat) (fun i => [(5, .int .i64 (i : Int)), (0, .pointer (some ⟨lb, 0, none⟩)), (1, .int .u64 v)]) (fun _ => f)
  (fun _ => row lb 200 (lgC n kn vp V.length vc pp pc cp cc) :: slc vp V.length vc 195 4 (V.flatMap VV.vals) :: F)
  (fun i => i ≤ V.length ∧ ∀ j x, j < i → V[j]? = some x → x.w.v ≠ v) (fun i => V.length - i) 0 ⟨Nat.zero_le _, fun j x hj => by omega⟩ ⟨rfl, rfl, rfl, trivial⟩ rfl rfl fun i hi => ?_
 obtain ⟨hi, hb⟩ : i ≤ V.length ∧ ∀ j x, j < i → V[j]? = some x → x.w.v ≠ v := hi
 by_cases hlt : i < V.length
 ·obtain ⟨x, hx⟩ : ∃ x, V[i]? = some x := ⟨_, List.getElem?_eq_getElem hlt⟩
  refine H.Bq (p := vp) (n0 := V.length) (c := vc) (.there _ (.here _ _ _)) (by omega) fun sb hp => ?_
  subst hp
  refine gY ?_
  refine H.Ar (i := i) rfl rfl rfl rfl hlt rfl ?_
  refine gP ?_
  refine H.Ae rfl rfl rfl (Rd1.of (i := 0) (by rw [Nat.zero_add]; exact Rd.slcElem VV.len (by decide) (.there _ (.here _ _ _)) hx) rfl) rfl ?_
  refine gG ?_
  by_cases hv : x.w.v = v
  ·skip
   refine gJ ?_
   refine H.Ac rfl rfl (fun _ h => h) ⟨?_, rfl, rfl⟩
   have e : vwAt (V.map VV.w) v = some i := zav.2 ⟨⟨x.w, by rw [List.getElem?_map, hx]; rfl, hv⟩, fun j w hj hw => by
    rw [List.getElem?_map] at hw
    cases hj2 : V[j]? with
    | none => rw [hj2] at hw; cases hw
    | some y => rw [hj2] at hw; cases hw; exact hb j y hj hj2⟩
   unfold vwZ
   rw [e]
  ·skip
   refine gL ?_
   refine H.Am (i + 1) ⟨by show i + 1 ≤ V.length; omega, fun j y hj hy => ?_⟩ (by show V.length - (i + 1) < V.length - i; omega) ⟨rfl, rfl, rfl, trivial⟩ rfl rfl
   by_cases e : j = i
   ·subst e; rw [hx] at hy; cases hy; exact hv
   ·exact hb j y (by omega) hy
 ·skip
  refine gY ?_
  refine H.Ac rfl rfl (fun _ h => h) ⟨?_, rfl, rfl⟩
  have e : vwAt (V.map VV.w) v = none := vwAt_none.2 fun w hw => by
   obtain ⟨x, hx, rfl⟩ := List.mem_map.1 hw
   obtain ⟨j, hj⟩ := List.getElem?_of_mem hx
   have hjl := (List.getElem?_eq_some_iff.1 hj).1
   exact hb j x (by omega) hj
  unfold vwZ
  rw [e]
theorem holds_fn {p : Option Addr} {c : Nat} {R : List Req} (cl t : Int) (hl : R.length ≤ 100000) : Fn Tryz.prog 155 [.slice p R.length c, .int .i64 cl, .int .u64 t] f (slc p R.length c 42 40 (R.flatMap Req.vals) :: F)
  (Ret (.bool (holdsB R cl t)) f (slc p R.length c 42 40 (R.flatMap Req.vals) :: F)) := by
 refine Fn.enter Tryz.func155 rfl Tryz.ntmps155 rfl (L := [(0, _), (1, _), (2, _)]) ⟨rfl, rfl, rfl, trivial⟩ fun base => ?_
 refine ga ?_
 refine H.Aw (ι := Nat) (fun i => [(7, .int .i64 (i : Int)), (0, .slice p R.length c), (1, .int .i64 cl), (2, .int .u64 t)]) (fun _ => f)
  (fun _ => slc p R.length c 42 40 (R.flatMap Req.vals) :: F)
  (fun i => i ≤ R.length ∧ ∀ j x, j < i → R[j]? = some x → ¬ (x.client = cl ∧ x.time = t)) (fun i => R.length - i) 0 ⟨Nat.zero_le _, fun j x hj => by omega⟩ ⟨rfl, rfl, rfl, rfl, trivial⟩ rfl rfl fun i hi => ?_
 obtain ⟨hi, hb⟩ : i ≤ R.length ∧ ∀ j x, j < i → R[j]? = some x → ¬ (x.client = cl ∧ x.time = t) := hi
 by_cases hlt : i < R.length
 ·obtain ⟨x, hx⟩ : ∃ x, R[i]? = some x := ⟨_, List.getElem?_eq_getElem hlt⟩
  refine H.Bq (p := p) (n0 := R.length) (c := c) (.here _ _ _) (by omega) fun sb hp => ?_
  subst hp
  have rd : Rd f (slc (some ⟨sb, 0, none⟩) R.length c 42 40 (R.flatMap Req.vals) :: F) sb (0 + i * 40) x.vals := by rw [Nat.zero_add]; exact Rd.slcElem Req.len (by decide) (.here _ _ _) hx
  by_cases h1 : x.client = cl
  ·by_cases h2 : x.time = t
   ·skip
    refine gJ ?_
    refine H.Ar (i := i) rfl rfl rfl rfl hlt rfl ?_
    refine gP ?_
    refine H.Ae rfl rfl rfl (Rd1.of (i := 0) rd rfl) rfl ?_
    refine gK ?_
    refine H.Ar (i := i) rfl rfl rfl rfl hlt rfl ?_
    refine gP ?_
    refine H.Ae rfl rfl rfl (Rd1.of (i := 1) rd rfl) rfl ?_
    refine gQ ?_
    refine H.Ac rfl rfl (fun _ h => h) ⟨?_, rfl, rfl⟩
    have e : holdsB R cl t = true := List.any_eq_true.2 ⟨x, List.mem_of_getElem? hx, by rw [decide_eq_true h1, decide_eq_true h2]; rfl⟩
    rw [e]
   ·skip
    refine gJ ?_
    refine H.Ar (i := i) rfl rfl rfl rfl hlt rfl ?_
    refine gP ?_
    refine H.Ae rfl rfl rfl (Rd1.of (i := 0) rd rfl) rfl ?_
    refine gK ?_
    refine H.Ar (i := i) rfl rfl rfl rfl hlt rfl ?_
    refine gP ?_
    refine H.Ae rfl rfl rfl (Rd1.of (i := 1) rd rfl) rfl ?_
    refine gU ?_
    refine H.Am (i + 1) ⟨by show i + 1 ≤ R.length; omega, fun j y hj hy => ?_⟩ (by show R.length - (i + 1) < R.length - i; omega) ⟨rfl, rfl, rfl, rfl, trivial⟩ rfl rfl
    by_cases e : j = i
    ·subst e; rw [hx] at hy; cases hy; exact fun h => h2 h.2
    ·exact hb j y (by omega) hy
  ·skip
   refine gJ ?_
   refine H.Ar (i := i) rfl rfl rfl rfl hlt rfl ?_
   refine gP ?_
   refine H.Ae rfl rfl rfl (Rd1.of (i := 0) rd rfl) rfl ?_
   refine gR ?_
   refine H.Am (i + 1) ⟨by show i + 1 ≤ R.length; omega, fun j y hj hy => ?_⟩ (by show R.length - (i + 1) < R.length - i; omega) ⟨rfl, rfl, rfl, rfl, trivial⟩ rfl rfl
   by_cases e : j = i
   ·subst e; rw [hx] at hy; cases hy; exact fun h => h1 h.1
   ·exact hb j y (by omega) hy
 ·skip
  refine gG ?_
  refine H.Ac rfl rfl (fun _ h => h) ⟨?_, rfl, rfl⟩
  have e : holdsB R cl t = false := List.any_eq_false.2 fun x hx h => by
   obtain ⟨j, hj⟩ := List.getElem?_of_mem hx
   have hjl := (List.getElem?_eq_some_iff.1 hj).1
   simp only [Bool.and_eq_true, decide_eq_true_eq] at h
   exact hb j x (by omega) hj h
  rw [e]
theorem all_fn {fs : Frag} (hfs : Le fs f) {x : VV} (hs : ListAt fs x.sp 40 Req.vals x.w.s) (hl : x.w.s.length + x.w.p.length ≤ 100000) :
  Fn Tryz.prog 156 [.agg x.vals.toArray] f (x.own :: F) (RetE (fun i : Option Addr × Nat => .slice i.1 x.w.all.length i.2) f (fun i => slc i.1 x.w.all.length i.2 42 40 (x.w.all.flatMap Req.vals) :: x.own :: F)) := by
 refine Fn.enter Tryz.func156 rfl Tryz.ntmps156 rfl (L := [(0, _)]) ⟨rfl, trivial⟩ fun base => ?_
 refine gC ?_
 refine H.box (ls := x.vals) rfl rfl rfl rfl fun wb => ?_
 refine gN ?_
 refine H.Ba (out := []) rfl rfl rfl rfl (by decide) (by decide) rfl rfl fun eb => ?_
 refine H.asSlc (k := 0) (sz := 40) rfl (by decide) ?_
 refine H.Aa (x := row wb _ _) (by repeat constructor) ?_
 refine gP ?_
 refine H.Bd (xs := []) (m := x.w.s.length) (news := x.w.s.flatMap Req.vals) rfl rfl rfl rfl rfl (fun p' c' => (by repeat constructor)) ((hs.mono hfs).src Req.len (by decide)) (Reqs_one _) rfl (by omega) (by omega) fun ap ac => ?_
 rw [Nat.zero_add, List.nil_append]
 refine ga ?_
 have hll := x.w.all_len
 have hall : ∀ k, k ≤ x.w.p.length → (x.w.s ++ (x.w.p.take k).map Prod.snd).length = x.w.s.length + k := fun k hk => by
  rw [List.length_append, List.length_map, List.length_take]; omega
 refine H.Aa (x := VV.own x) (by repeat constructor) ?_
 refine H.Aa (x := slc ap _ ac _ _ _) (by repeat constructor) ?_
 refine H.Aa (x := row wb _ _) (by repeat constructor) ?_
 refine H.Aw (ι := Nat × Option Addr × Nat) (fun s => [(4, .int .i64 (s.1 : Int)), (3, .slice s.2.1 (x.w.s.length + s.1) s.2.2), (1, .pointer (some ⟨wb, 0, none⟩))]) (fun _ => f)
  (fun s => row wb 195 x.vals :: slc s.2.1 (x.w.s.length + s.1) s.2.2 42 40 ((x.w.s ++ (x.w.p.take s.1).map Prod.snd).flatMap Req.vals) :: x.own :: F)
  (fun s => s.1 ≤ x.w.p.length) (fun s => x.w.p.length - s.1) (0, ap, ac) (Nat.zero_le _) ⟨rfl, rfl, rfl, trivial⟩ rfl (by simp) fun s hs => ?_
 obtain ⟨i, qp, qc⟩ := s
 have hi : i ≤ x.w.p.length := hs
 show H _ _ _ [(4, .int .i64 (i : Int)), (3, .slice qp (x.w.s.length + i) qc), _] f (_ :: slc qp (x.w.s.length + i) qc _ 40 ((x.w.s ++ (x.w.p.take i).map Prod.snd).flatMap Req.vals) :: x.own :: F) _
 by_cases hlt : i < x.w.p.length
 ·obtain ⟨y, hy⟩ : ∃ y, x.w.p[i]? = some y := ⟨_, List.getElem?_eq_getElem hlt⟩
  have e1 : (x.w.s ++ (x.w.p.take (i + 1)).map Prod.snd).flatMap Req.vals = (x.w.s ++ (x.w.p.take i).map Prod.snd).flatMap Req.vals ++ y.2.vals := by
   rw [List.take_add_one, hy, List.map_append, ← List.append_assoc, List.flatMap_append]
   simp
  refine H.Bq (p := x.pp) (n0 := x.w.p.length) (c := x.pc) (T := 241) (sz := 41) (xs := x.w.p.flatMap prepV) (.there _ (.there _ (.here _ _ _))) (by omega) fun sb hp => ?_
  refine gY ?_
  rw [hp]
  refine H.Ar (i := i) rfl rfl rfl rfl hlt rfl ?_
  refine gP ?_
  refine H.Ah (ls := y.2.vals) rfl rfl rfl (Rd.sub (pre := [.int .u64 y.1]) (l := y.2.vals) (post := []) (by rw [List.append_nil, Nat.zero_add]; exact Rd.slcElem (vals := prepV) (xs := x.w.p) prepV_len (by decide) (by rw [← hp]; exact .there _ (.there _ (.here _ _ _))) hy) rfl) rfl rfl ?_
  refine H.Ba (out := y.2.vals) rfl rfl rfl rfl (by decide) (by decide) rfl rfl fun eb2 => ?_
  refine H.Bd (p := qp) (n0 := x.w.s.length + i) (c := qc) (m := 1) (news := y.2.vals) rfl rfl rfl rfl rfl (fun p' c' => (by repeat constructor)) (Src.slice (Rd.ofRow (by repeat constructor)) rfl) (zad rfl) rfl (by omega) (by omega) fun p2 c2 => ?_
  refine gW ?_
  refine H.Ab (x := row eb2 _ _) (by repeat constructor) ?_
  refine H.Aa (x := VV.own x) (by repeat constructor) ?_
  refine H.Aa (x := slc p2 _ c2 _ _ _) (by repeat constructor) ?_
  refine H.Aa (x := row wb _ _) (by repeat constructor) ?_
  refine H.Am (i + 1, p2, c2) (by show i + 1 ≤ x.w.p.length; omega) (by show x.w.p.length - (i + 1) < x.w.p.length - i; omega) ⟨rfl, rfl, rfl, trivial⟩ rfl ?_
  show _ :: slc p2 (x.w.s.length + i + 1) c2 _ 40 _ :: _ = _ :: slc p2 (x.w.s.length + (i + 1)) c2 _ 40 _ :: _
  rw [e1, Nat.add_assoc]
 ·have e : i = x.w.p.length := by omega
  subst e
  refine gY ?_
  refine H.Ab (x := row wb _ _) (by repeat constructor) ?_
  have e1 : x.w.s ++ (x.w.p.take x.w.p.length).map Prod.snd = x.w.all := by rw [List.take_length]; rfl
  rw [e1, ← hll]
  exact H.Ac rfl rfl (fun _ h => h) ⟨(qp, qc), rfl, rfl, rfl⟩
end
section
variable (f : Frag) (F : List HP)
set_option maxRecDepth 20000 in
set_option maxHeartbeats 1600000 in
theorem changed_fn {lb : Nat} {l : Lgs} {kn : Nat → Int} {vp : Option Addr} {vl vc : Nat} {pp : Option Addr} {pc : Nat} {cp : Option Addr} {cc : Nat} {cs : Nat → Option Addr × Nat} {q : Int × Int} (hq : 1 ≤ q.1 ∧ q.1 ≤ (l.n : Int)) (hn : l.n ≤ 11) (hc : ∀ r, (l.ch r).length ≤ 100000) (v : Int) :
  Fn Tryz.prog 175 [.pointer (some ⟨lb, 0, none⟩), .agg (pairV q).toArray, .int .u64 v] f
   (row lb 200 (lgC l.n kn vp vl vc pp pc cp cc) :: slc cp l.n cc 232 1 (chRow l cs) :: fam (chFam l cs) l.n :: F)
   (Ret (.bool (chB l q v)) f (row lb 200 (lgC l.n kn vp vl vc pp pc cp cc) :: slc cp l.n cc 232 1 (chRow l cs) :: fam (chFam l cs) l.n :: F)) := by
 obtain ⟨r, hre⟩ : ∃ r, r = (q.1 - 1).toNat := ⟨_, rfl⟩
 have hr : r < l.n := by omega
 have hrz : q.1 - 1 = (r : Nat) := by omega
 have hcr := hc r
 refine Fn.enter Tryz.func175 rfl Tryz.ntmps175 rfl (L := [(0, _), (1, _), (2, _)]) ⟨rfl, rfl, rfl, trivial⟩ fun base => ?_
 refine gC ?_
 refine H.box (ls := pairV q) rfl rfl rfl rfl fun qb => ?_
 refine gN ?_
 refine H.Bq (p := cp) (n0 := l.n) (c := cc) (.there _ (.there _ (.here _ _ _))) (by omega) fun cb hp => ?_
 subst hp
 refine H.Bj (by kernel_rfl) (by decide +kernel) (by repeat (first | exact zab | refine zaa ?_ | refine zac ?_ | refine zae ?_)) ?_
 refine gT ?_
 refine HQ.Ar (i := r) rfl rfl rfl hrz hr rfl ?_
 refine HQ.Ae rfl rfl rfl (by rw [Nat.zero_add, Nat.mul_one]; exact Rd1.at0 (Rd.ofSlc (.there _ (.there _ (.here _ _ _))) (by omega)) (rngV_get _ hr)) rfl ?_
 refine gS ?_
 refine H.Aa (x := fam _ _) (by repeat constructor) ?_
 refine H.Cf hr ?_
 refine H.Aa (x := fam _ _) (by repeat constructor) ?_
 refine H.Aa (x := chFam l cs r) (by repeat constructor) ?_
 refine H.Aa (x := row qb _ _) (by repeat constructor) ?_
 refine ga ?_
 refine H.Aw (ι := Nat) (fun i => [(8, .int .i64 (i : Int)), (7, .slice (cs r).1 (l.ch r).length (cs r).2), (2, .int .u64 v), (4, .pointer (some ⟨qb, 0, none⟩))]) (fun _ => f)
  (fun _ => row qb 61 (pairV q) :: chFam l cs r :: fam (updF (chFam l cs) r emp) l.n :: row lb 200 (lgC l.n kn vp vl vc pp pc (some ⟨cb, 0, none⟩) cc) :: slc (some ⟨cb, 0, none⟩) l.n cc 232 1 (chRow l cs) :: F)
  (fun i => i ≤ (l.ch r).length ∧ ∀ j x, j < i → (l.ch r)[j]? = some x → ¬ (x.1 = v ∧ x.2 = q.2)) (fun i => (l.ch r).length - i) 0 ⟨Nat.zero_le _, fun j x hj => by omega⟩ ⟨rfl, rfl, rfl, rfl, trivial⟩ rfl rfl fun i hi => ?_
 obtain ⟨hi, hb⟩ : i ≤ (l.ch r).length ∧ ∀ j x, j < i → (l.ch r)[j]? = some x → ¬ (x.1 = v ∧ x.2 = q.2) := hi
 by_cases hlt : i < (l.ch r).length
 ·obtain ⟨x, hx⟩ : ∃ x, (l.ch r)[i]? = some x := ⟨_, List.getElem?_eq_getElem hlt⟩
  refine H.Bq (p := (cs r).1) (n0 := (l.ch r).length) (c := (cs r).2) (T := 234) (sz := 2) (xs := (l.ch r).flatMap chV) (.there _ (.here _ _ _)) (by omega) fun sb hp => ?_
  have rd : ∀ {G : List HP}, Rd f (row qb 61 (pairV q) :: chFam l cs r :: G) sb (0 + i * 2) (chV x) := fun {G} => by
   rw [Nat.zero_add]; exact Rd.slcElem (vals := chV) (xs := l.ch r) (n := (l.ch r).length) (c := (cs r).2) (T := 234) chV_len (by decide) (by rw [← hp]; exact .there _ (.here _ _ _)) hx
  refine gJ ?_
  refine H.Bj (by kernel_rfl) (by decide +kernel) (by repeat (first | exact zab | refine zaa ?_ | refine zac ?_ | refine zae ?_)) ?_
  rw [hp]
  refine gD ?_
  refine HQ.Ar (i := i) rfl rfl rfl rfl hlt rfl ?_
  refine gE ?_
  refine HQ.Ae rfl rfl rfl (Rd1.of (i := 0) rd rfl) rfl ?_
  refine gS ?_
  by_cases h1 : x.1 = v
  ·skip
   refine gc ?_
   refine HQ.Ar (i := i) rfl rfl rfl rfl hlt rfl ?_
   refine gE ?_
   refine HQ.Ae rfl rfl rfl (Rd1.of (i := 1) rd rfl) rfl ?_
   refine gc ?_
   by_cases h2 : x.2 = q.2
   ·skip
    skip
    refine gJ ?_
    have e : chB l q v = true := by
     unfold chB
     rw [← hre]
     exact List.any_eq_true.2 ⟨x, List.mem_of_getElem? hx, by rw [decide_eq_true h1, decide_eq_true h2]; rfl⟩
    rw [e]
    refine H.Ab (.here _ _) ?_
    refine H.Ck hr ?_
    refine H.Aa (x := slc _ _ _ _ _ _) (by repeat constructor) ?_
    refine H.Aa (x := row lb _ _) (by repeat constructor) ?_
    exact H.Ac rfl rfl (fun _ h => h) ⟨rfl, rfl, rfl⟩
   ·skip
    skip
    refine gL ?_
    refine H.Am (i + 1) ⟨by show i + 1 ≤ (l.ch r).length; omega, fun j y hj hy => ?_⟩ (by show (l.ch r).length - (i + 1) < (l.ch r).length - i; omega) ⟨rfl, by rw [← hp]; rfl, rfl, rfl, trivial⟩ rfl rfl
    by_cases e : j = i
    ·subst e; rw [hx] at hy; cases hy; exact fun h => h2 h.2
    ·exact hb j y (by omega) hy
  ·skip
   refine gc ?_
   refine gW ?_
   refine H.Am (i + 1) ⟨by show i + 1 ≤ (l.ch r).length; omega, fun j y hj hy => ?_⟩ (by show (l.ch r).length - (i + 1) < (l.ch r).length - i; omega) ⟨rfl, by rw [← hp]; rfl, rfl, rfl, trivial⟩ rfl rfl
   by_cases e : j = i
   ·subst e; rw [hx] at hy; cases hy; exact fun h => h1 h.1
   ·exact hb j y (by omega) hy
 ·skip
  refine gG ?_
  have e : chB l q v = false := by
   unfold chB
   rw [← hre]
   refine List.any_eq_false.2 fun x hx h => ?_
   obtain ⟨j, hj⟩ := List.getElem?_of_mem hx
   have hjl := (List.getElem?_eq_some_iff.1 hj).1
   simp only [Bool.and_eq_true, decide_eq_true_eq] at h
   exact hb j x (by omega) hj h
  rw [e]
  refine H.Ab (.here _ _) ?_
  refine H.Ck hr ?_
  refine H.Aa (x := slc _ _ _ _ _ _) (by repeat constructor) ?_
  refine H.Aa (x := row lb _ _) (by repeat constructor) ?_
  exact H.Ac rfl rfl (fun _ h => h) ⟨rfl, rfl, rfl⟩
end
end Go.Proofs.YtoigpgdmignaoaaGreatDoor
