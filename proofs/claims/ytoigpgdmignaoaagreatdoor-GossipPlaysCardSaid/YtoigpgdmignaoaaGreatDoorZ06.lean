/- Parts of the proof, one behind the other, each under its own heading. No conditions. -/
import Derived.Test.YtoigpgdmignaoaaGreatDoorZ05
set_option linter.unusedSectionVars false
set_option linter.unusedSimpArgs false
set_option linter.unusedVariables false
/- Layer 12: why a message is not taken. Condition: the table of the standard stands in the fragment. -/
namespace Go.Proofs.YtoigpgdmignaoaaGreatDoor
open Go
theorem strm_lenV (l : List MV) (o : Nat) : (strm (l.map MV.m) o).length = (strmV l o).length := by rw [← strmV_map, List.length_map]
theorem slc_deps {f : Frag} {A A' : List HP} {b n c : Nat} {T : TypeId} {xs : List MV} (h : At A (slc (some ⟨b, 0, none⟩) n c T 121 (xs.flatMap MV.vals)) A' (slc (some ⟨b, 0, none⟩) n c T 121 (xs.flatMap MV.vals))) {k : Nat} {y : MV} (hy : xs[k]? = some y) : Rd f A b (k * 121 + 2) (v11 y.m.deps) := by
 have h1 := Rd.slcElem (f := f) MV.len (by decide) h hy
 have e : y.vals = [.int .i64 y.m.origin, .int .u64 y.m.number] ++ v11 y.m.deps ++ (y.m.body.vals y.qp y.qc ++ b32 y.m.tag) := by unfold MV.vals Msg.vals; simp only [List.append_assoc]
 rw [e] at h1
 exact h1.sub rfl
theorem fits_at {n : Nat} {m : Msg} (h : fitsB n m = true) (hn : n ≤ 11) : ∃ o : Nat, orgI m = o ∧ m.origin - 1 = (o : Nat) ∧ o < n ∧ o < 11 ∧ 1 ≤ m.origin ∧ m.origin ≤ 11 := by
 have h1 := fits_org h
 refine ⟨(m.origin - 1).toNat, rfl, ?_⟩
 omega
section
variable (f : Frag) (F : List HP)
set_option maxHeartbeats 3200000 in
theorem lcheck_fn (htab : TabAt f) {fl : Frag} {lb n : Nat} {l : List MV} {x : MV} (hx : x.Good f) : Fn Tryz.prog 23 [.pointer (some ⟨lb, 0, none⟩), .agg x.vals.toArray] f (loreH fl lb n l :: F)
  (Ret (.int .i64 (chk n (strm (l.map MV.m)) x.m)) f (loreH fl lb n l :: F)) := by
 refine Fn.unpack fun i hi => ?_
 have hn := hi.2.2.2
 have hfits : ∀ {G}, Fn Tryz.prog 57 [.pointer (some ⟨lb, 0, none⟩), .agg x.vals.toArray] f (row lb 120 (loreCells n l i) :: G) (Ret (.bool (fitsB n x.m)) f (row lb 120 (loreCells n l i) :: G)) := fun {G} => fits_fn f G hn hx
 have hright : ∀ {G}, Fn Tryz.prog 58 [.agg x.vals.toArray] f G (Ret (.bool x.m.right) f G) := fun {G} => mright_fn f G htab hx
 cases h1 : fitsB n x.m with
 | false =>
  rw [h1] at hfits
  refine Fn.enter Tryz.func23 rfl Tryz.ntmps23 rfl (L := [(0, _), (1, _)]) ⟨rfl, rfl, trivial⟩ fun base => ?_
  refine gC ?_
  refine H.box (ls := x.vals) rfl rfl rfl rfl fun mb => ?_
  refine gQ ?_
  refine H.Ah (ls := x.vals) rfl rfl rfl (Rd.ofRow (.here _ _ _)) rfl rfl ?_
  refine H.Aa (x := row lb _ _) (by repeat constructor) ?_
  refine H.Ad rfl rfl rfl hfits ?_
  refine H.not (b := _) (c := _) rfl rfl rfl rfl ?_
  refine gG ?_
  refine H.Aa (x := ordH l i) (by repeat constructor) ?_
  refine H.Aa (x := fam (strH l i) 11) (by repeat constructor) ?_
  refine H.Aa (x := row lb _ _) (by repeat constructor) ?_
  refine H.imp (zau i hi) ?_
  refine H.Ab (x := row mb _ _) (by repeat constructor) ?_
  refine H.Ac rfl rfl (fun _ h => h) ⟨?_, rfl, rfl⟩
  unfold chk
  rw [if_pos h1]
 | true =>
  obtain ⟨o, hoo, hoz, hon, ho11, ho1, ho2⟩ := fits_at h1 hn
  rw [h1] at hfits
  cases h2 : x.m.right with
  | false =>
   rw [h2] at hright
   refine Fn.enter Tryz.func23 rfl Tryz.ntmps23 rfl (L := [(0, _), (1, _)]) ⟨rfl, rfl, trivial⟩ fun base => ?_
   refine gC ?_
   refine H.box (ls := x.vals) rfl rfl rfl rfl fun mb => ?_
   refine gQ ?_
   refine H.Ah (ls := x.vals) rfl rfl rfl (Rd.ofRow (.here _ _ _)) rfl rfl ?_
   refine H.Aa (x := row lb _ _) (by repeat constructor) ?_
   refine H.Ad rfl rfl rfl hfits ?_
   refine H.not (b := _) (c := _) rfl rfl rfl rfl ?_
   refine gV ?_
   refine H.Ah (ls := x.vals) rfl rfl rfl (Rd.ofRow (.there _ (.here _ _ _))) rfl rfl ?_
   refine H.Ad rfl rfl rfl hright ?_
   refine H.not (b := _) (c := _) rfl rfl rfl rfl ?_
   refine gG ?_
   refine H.Aa (x := ordH l i) (by repeat constructor) ?_
   refine H.Aa (x := fam (strH l i) 11) (by repeat constructor) ?_
   refine H.Aa (x := row lb _ _) (by repeat constructor) ?_
   refine H.imp (zau i hi) ?_
   refine H.Ab (x := row mb _ _) (by repeat constructor) ?_
   refine H.Ac rfl rfl (fun _ h => h) ⟨?_, rfl, rfl⟩
   unfold chk
   rw [if_neg (by rw [h1]; decide), if_pos h2]
  | true =>
   rw [h2] at hright
   have hsl := strmV_le l o
   have hll := hi.2.1
   have hstr := loreCells_str n l i ho11
   have hlen := strm_lenV l o
   have hchk : chk n (strm (l.map MV.m)) x.m = if x.m.number ≤ ((strmV l o).length : Nat) then 13 else
     if x.m.number = (((strmV l o).length + 1 : Nat) : Int) ∧ 0 < (strmV l o).length ∧ aboveB (lastD (strm (l.map MV.m) o)) x.m.deps = true then 1 else
     if (((strmV l o).length + 1 : Nat) : Int) < x.m.number ∨ aboveB x.m.deps (knownS (strm (l.map MV.m))) = true then 12 else 0 := by
    unfold chk
    rw [if_neg (by rw [h1]; decide), if_neg (by rw [h2]; decide), hoo, hlen]
   by_cases h3 : x.m.number ≤ ((strmV l o).length : Nat)
   ·generalize hs : (strmV l o).length = s at *
    refine Fn.enter Tryz.func23 rfl Tryz.ntmps23 rfl (L := [(0, _), (1, _)]) ⟨rfl, rfl, trivial⟩ fun base => ?_
    refine gC ?_
    refine H.box (ls := x.vals) rfl rfl rfl rfl fun mb => ?_
    refine gQ ?_
    refine H.Ah (ls := x.vals) rfl rfl rfl (Rd.ofRow (.here _ _ _)) rfl rfl ?_
    refine H.Aa (x := row lb _ _) (by repeat constructor) ?_
    refine H.Ad rfl rfl rfl hfits ?_
    refine H.not (b := _) (c := _) rfl rfl rfl rfl ?_
    refine gV ?_
    refine H.Ah (ls := x.vals) rfl rfl rfl (Rd.ofRow (.there _ (.here _ _ _))) rfl rfl ?_
    refine H.Ad rfl rfl rfl hright ?_
    refine H.not (b := _) (c := _) rfl rfl rfl rfl ?_
    refine gV ?_
    refine H.Bg (by kernel_rfl) (by decide +kernel) (by repeat (first | exact zab | refine zaa ?_ | refine zac ?_ | refine zae ?_)) ?_
    refine gW ?_
    refine HQ.Aw (i := o) rfl rfl rfl hoz ho11 rfl ?_
    refine HQ.Af rfl rfl rfl (Rd1.at0 (Rd.ofRow (by repeat constructor)) (by rw [Nat.mul_one, Nat.zero_add]; exact hstr)) rfl ?_
    refine gS ?_
    refine gX ?_
    refine H.Aa (x := ordH l i) (by repeat constructor) ?_
    refine H.Aa (x := fam (strH l i) 11) (by repeat constructor) ?_
    refine H.Aa (x := row lb _ _) (by repeat constructor) ?_
    refine H.imp (zau i hi) ?_
    refine H.Ab (x := row mb _ _) (by repeat constructor) ?_
    refine H.Ac rfl rfl (fun _ h => h) ⟨?_, rfl, rfl⟩
    rw [hchk, if_pos h3]
   ·by_cases h4 : x.m.number = (((strmV l o).length + 1 : Nat) : Int)
    ·by_cases h0 : 0 < (strmV l o).length
     ·obtain ⟨y, hy⟩ : ∃ y, (strmV l o)[(strmV l o).length - 1]? = some y := ⟨_, List.getElem?_eq_getElem (by omega)⟩
      have hlast : lastD (strm (l.map MV.m) o) = y.m.deps := by
       rw [← strmV_map]
       exact lastD_get (by rw [List.length_map, List.getElem?_map, hy]; rfl)
      rw [hlast] at hchk
      refine Fn.enter Tryz.func23 rfl Tryz.ntmps23 rfl (L := [(0, _), (1, _)]) ⟨rfl, rfl, trivial⟩ fun base => ?_
      refine gC ?_
      refine H.box (ls := x.vals) rfl rfl rfl rfl fun mb => ?_
      refine gQ ?_
      refine H.Ah (ls := x.vals) rfl rfl rfl (Rd.ofRow (.here _ _ _)) rfl rfl ?_
      refine H.Aa (x := row lb _ _) (by repeat constructor) ?_
      refine H.Ad rfl rfl rfl hfits ?_
      refine H.not (b := _) (c := _) rfl rfl rfl rfl ?_
      refine gV ?_
      refine H.Ah (ls := x.vals) rfl rfl rfl (Rd.ofRow (.there _ (.here _ _ _))) rfl rfl ?_
      refine H.Ad rfl rfl rfl hright ?_
      refine H.not (b := _) (c := _) rfl rfl rfl rfl ?_
      refine gV ?_
      refine H.Aa (x := fam (strH l i) 11) (by repeat constructor) ?_
      refine H.Cj ho11 ?_
      refine H.Bq (p := i.P o) (n0 := (strmV l o).length) (c := i.C o) (.here _ _ _) h0 fun sb hp => ?_
      have hrd : ∀ {f G}, Rd f (strH l i o :: G) sb (((strmV l o).length - 1) * 121 + 2) (v11 y.m.deps) := fun {f G} => by
       unfold strH
       rw [hp]
       exact slc_deps (.here _ _ _) hy
      rw [hp] at hstr
      generalize hs : (strmV l o).length = s at *
      refine H.Aa (x := row lb _ _) (by repeat constructor) ?_
      refine H.Aa (x := row mb _ _) (by repeat constructor) ?_
      refine H.Bg (by kernel_rfl) (by decide +kernel) (by repeat (first | exact zab | refine zaa ?_ | refine zac ?_ | refine zae ?_)) ?_
      refine gW ?_
      refine HQ.Aw (i := o) rfl rfl rfl hoz ho11 rfl ?_
      refine HQ.Af rfl rfl rfl (Rd1.at0 (Rd.ofRow (by repeat constructor)) (by rw [Nat.mul_one, Nat.zero_add]; exact hstr)) rfl ?_
      refine gS ?_
      refine gX ?_
      refine H.Aa (x := row mb _ _) (by repeat constructor) ?_
      refine H.Aa (x := strH l i o) (by repeat constructor) ?_
      refine H.Az (by kernel_rfl) (by decide +kernel) (by repeat (first | exact zab | refine zaa ?_ | refine zac ?_ | refine zae ?_)) (S := [_, _]) rfl ?_
      refine HB.Ag [(0, false), (1, false), (2, false), (3, false), (4, false), (5, false), (6, false), (7, false), (8, false), (9, false), (10, false), (11, false), (12, false), (13, false), (14, false), (15, false), (16, false), (17, false)] 3 (by kernel_rfl) ?_
      refine ge ?_
      refine HQ.Ar (i := s - 1) rfl rfl rfl (by omega) (by omega) rfl ?_
      refine gE ?_
      refine HQ.Ah (ls := v11 y.m.deps) rfl rfl rfl (by rw [Nat.zero_add]; exact hrd) rfl rfl ?_
      refine gE ?_
      refine HQ.Ah (ls := v11 x.m.deps) rfl rfl rfl (zan (m := x.m) (q := x.qp) (qc := x.qc) (.there _ (.here _ _ _))) rfl rfl ?_
      refine HQ.Ae rfl ?_
      refine HB.ev1 (i := 18) (by kernel_rfl) rfl ?_
      refine H.Ad rfl rfl rfl (above_fn f _ _ _) ?_
      cases hab : aboveB y.m.deps x.m.deps with
      | true =>
       refine gC ?_
       refine H.on0 rfl ?_
       refine HB.Ag [(19, false), (20, false)] 0 (by kernel_rfl) ?_
       refine gN ?_
       refine HQ.Ae rfl ?_
       refine HB.Al (by kernel_rfl) ?_
       refine gG ?_
       refine H.Aa (x := fam (updF (strH l i) o emp) 11) (by repeat constructor) ?_
       refine H.Aa (x := strH l i o) (by repeat constructor) ?_
       refine H.Ck ho11 ?_
       refine H.Aa (x := ordH l i) (by repeat constructor) ?_
       refine H.Aa (x := fam (strH l i) 11) (by repeat constructor) ?_
       refine H.Aa (x := row lb _ _) (by repeat constructor) ?_
       refine H.imp (zau i hi) ?_
       refine H.Ab (x := row mb _ _) (by repeat constructor) ?_
       refine H.Ac rfl rfl (fun _ h => h) ⟨?_, rfl, rfl⟩
       rw [hchk, if_neg h3, if_pos ⟨h4, h0, hab⟩]
      | false =>
       refine gC ?_
       refine H.on0 rfl ?_
       refine HB.Ag [(19, false), (20, false)] 0 (by kernel_rfl) ?_
       refine gN ?_
       refine HQ.Ae rfl ?_
       refine HB.Al (by kernel_rfl) ?_
       refine gX ?_
       refine H.Aa (x := fam (updF (strH l i) o emp) 11) (by repeat constructor) ?_
       refine H.Aa (x := strH l i o) (by repeat constructor) ?_
       refine H.Ck ho11 ?_
       have hc4 : ¬ (x.m.number = ((s + 1 : Nat) : Int) ∧ 0 < s ∧ aboveB y.m.deps x.m.deps = true) := by rintro ⟨_, _, h⟩; rw [hab] at h; cases h
       refine H.Aa (x := ordH l i) (by repeat constructor) ?_
       refine H.Aa (x := fam (strH l i) 11) (by repeat constructor) ?_
       refine H.Aa (x := row lb _ _) (by repeat constructor) ?_
       refine H.imp (zau i hi) ?_
       refine H.Aa (x := row mb _ _) (by repeat constructor) ?_
       refine H.Az (by kernel_rfl) (by decide +kernel) (by repeat (first | exact zab | refine zaa ?_ | refine zac ?_ | refine zae ?_)) (S := [_]) rfl ?_
       refine HB.Ag [(0, false), (1, false), (2, false)] 3 (by kernel_rfl) ?_
       refine gE ?_
       refine HQ.Ah (ls := v11 x.m.deps) rfl rfl rfl (zan (m := x.m) (q := x.qp) (qc := x.qc) (.here _ _ _)) rfl rfl ?_
       refine gD ?_
       refine HQ.Ae rfl ?_
       refine HB.ev1 (i := 3) (by kernel_rfl) rfl ?_
       refine H.Aa (x := loreH _ _ _ _) (by repeat constructor) ?_
       refine H.Ad rfl rfl rfl (known_fn f _) ?_
       refine gC ?_
       refine H.Aa (x := row mb _ _) (by repeat constructor) ?_
       refine H.on0 rfl ?_
       refine HB.ev1 (i := 4) (by kernel_rfl) rfl ?_
       refine H.Ad rfl rfl rfl (above_fn f _ _ _) ?_
       refine gC ?_
       refine H.on0 rfl ?_
       refine HB.Ag [(5, false)] 0 (by kernel_rfl) ?_
       refine gD ?_
       refine HQ.Ae rfl ?_
       refine HB.Al (by kernel_rfl) ?_
       cases hab : aboveB x.m.deps (knownS (strm (l.map MV.m))) with
       | true =>
        refine gG ?_
        refine H.Ab (.here _ _) ?_
        refine H.Ac rfl rfl (fun _ h => h) ⟨?_, rfl, rfl⟩
        rw [hchk, if_neg (by omega), if_neg hc4, if_pos (.inr hab)]
       | false =>
        refine gV ?_
        refine H.Ab (.here _ _) ?_
        refine H.Ac rfl rfl (fun _ h => h) ⟨?_, rfl, rfl⟩
        rw [hchk, if_neg (by omega), if_neg hc4, if_neg (by rintro (h | h); omega; rw [hab] at h; cases h)]
     ·have hc4 : ¬ (x.m.number = (((strmV l o).length + 1 : Nat) : Int) ∧ 0 < (strmV l o).length ∧ aboveB (lastD (strm (l.map MV.m) o)) x.m.deps = true) := fun h => h0 h.2.1
      generalize hs : (strmV l o).length = s at *
      refine Fn.enter Tryz.func23 rfl Tryz.ntmps23 rfl (L := [(0, _), (1, _)]) ⟨rfl, rfl, trivial⟩ fun base => ?_
      refine gC ?_
      refine H.box (ls := x.vals) rfl rfl rfl rfl fun mb => ?_
      refine gQ ?_
      refine H.Ah (ls := x.vals) rfl rfl rfl (Rd.ofRow (.here _ _ _)) rfl rfl ?_
      refine H.Aa (x := row lb _ _) (by repeat constructor) ?_
      refine H.Ad rfl rfl rfl hfits ?_
      refine H.not (b := _) (c := _) rfl rfl rfl rfl ?_
      refine gV ?_
      refine H.Ah (ls := x.vals) rfl rfl rfl (Rd.ofRow (.there _ (.here _ _ _))) rfl rfl ?_
      refine H.Ad rfl rfl rfl hright ?_
      refine H.not (b := _) (c := _) rfl rfl rfl rfl ?_
      refine gV ?_
      refine H.Bg (by kernel_rfl) (by decide +kernel) (by repeat (first | exact zab | refine zaa ?_ | refine zac ?_ | refine zae ?_)) ?_
      refine gW ?_
      refine HQ.Aw (i := o) rfl rfl rfl hoz ho11 rfl ?_
      refine HQ.Af rfl rfl rfl (Rd1.at0 (Rd.ofRow (by repeat constructor)) (by rw [Nat.mul_one, Nat.zero_add]; exact hstr)) rfl ?_
      refine gS ?_
      refine gX ?_
      refine H.Az (by kernel_rfl) (by decide +kernel) (by repeat (first | exact zab | refine zaa ?_ | refine zac ?_ | refine zae ?_)) (S := [_, _]) rfl ?_
      refine HB.Ag [(0, false), (1, false), (2, false), (3, false), (4, false), (5, false), (6, false), (7, false), (8, false), (9, false), (10, false), (11, false), (12, false), (13, false), (14, false), (15, false), (16, false), (17, false)] 3 (by kernel_rfl) ?_
      refine ge ?_
      refine HQ.Ae rfl ?_
      refine HB.ev1 (i := 18) (by kernel_rfl) rfl ?_
      refine gF ?_
      refine H.on0 rfl ?_
      refine HB.Ag [(19, false), (20, false)] 0 (by kernel_rfl) ?_
      refine gN ?_
      refine HQ.Ae rfl ?_
      refine HB.Al (by kernel_rfl) ?_
      refine gX ?_
      refine H.Aa (x := ordH l i) (by repeat constructor) ?_
      refine H.Aa (x := fam (strH l i) 11) (by repeat constructor) ?_
      refine H.Aa (x := row lb _ _) (by repeat constructor) ?_
      refine H.imp (zau i hi) ?_
      refine H.Aa (x := row mb _ _) (by repeat constructor) ?_
      refine H.Az (by kernel_rfl) (by decide +kernel) (by repeat (first | exact zab | refine zaa ?_ | refine zac ?_ | refine zae ?_)) (S := [_]) rfl ?_
      refine HB.Ag [(0, false), (1, false), (2, false)] 3 (by kernel_rfl) ?_
      refine gE ?_
      refine HQ.Ah (ls := v11 x.m.deps) rfl rfl rfl (zan (m := x.m) (q := x.qp) (qc := x.qc) (.here _ _ _)) rfl rfl ?_
      refine gD ?_
      refine HQ.Ae rfl ?_
      refine HB.ev1 (i := 3) (by kernel_rfl) rfl ?_
      refine H.Aa (x := loreH _ _ _ _) (by repeat constructor) ?_
      refine H.Ad rfl rfl rfl (known_fn f _) ?_
      refine gC ?_
      refine H.Aa (x := row mb _ _) (by repeat constructor) ?_
      refine H.on0 rfl ?_
      refine HB.ev1 (i := 4) (by kernel_rfl) rfl ?_
      refine H.Ad rfl rfl rfl (above_fn f _ _ _) ?_
      refine gC ?_
      refine H.on0 rfl ?_
      refine HB.Ag [(5, false)] 0 (by kernel_rfl) ?_
      refine gD ?_
      refine HQ.Ae rfl ?_
      refine HB.Al (by kernel_rfl) ?_
      cases hab : aboveB x.m.deps (knownS (strm (l.map MV.m))) with
      | true =>
       refine gG ?_
       refine H.Ab (.here _ _) ?_
       refine H.Ac rfl rfl (fun _ h => h) ⟨?_, rfl, rfl⟩
       rw [hchk, if_neg (by omega), if_neg hc4, if_pos (.inr hab)]
      | false =>
       refine gV ?_
       refine H.Ab (.here _ _) ?_
       refine H.Ac rfl rfl (fun _ h => h) ⟨?_, rfl, rfl⟩
       rw [hchk, if_neg (by omega), if_neg hc4, if_neg (by rintro (h | h); omega; rw [hab] at h; cases h)]
    ·have hc4 : ¬ (x.m.number = (((strmV l o).length + 1 : Nat) : Int) ∧ 0 < (strmV l o).length ∧ aboveB (lastD (strm (l.map MV.m) o)) x.m.deps = true) := fun h => h4 h.1
     generalize hs : (strmV l o).length = s at *
     refine Fn.enter Tryz.func23 rfl Tryz.ntmps23 rfl (L := [(0, _), (1, _)]) ⟨rfl, rfl, trivial⟩ fun base => ?_
     refine gC ?_
     refine H.box (ls := x.vals) rfl rfl rfl rfl fun mb => ?_
     refine gQ ?_
     refine H.Ah (ls := x.vals) rfl rfl rfl (Rd.ofRow (.here _ _ _)) rfl rfl ?_
     refine H.Aa (x := row lb _ _) (by repeat constructor) ?_
     refine H.Ad rfl rfl rfl hfits ?_
     refine H.not (b := _) (c := _) rfl rfl rfl rfl ?_
     refine gV ?_
     refine H.Ah (ls := x.vals) rfl rfl rfl (Rd.ofRow (.there _ (.here _ _ _))) rfl rfl ?_
     refine H.Ad rfl rfl rfl hright ?_
     refine H.not (b := _) (c := _) rfl rfl rfl rfl ?_
     refine gV ?_
     refine H.Bg (by kernel_rfl) (by decide +kernel) (by repeat (first | exact zab | refine zaa ?_ | refine zac ?_ | refine zae ?_)) ?_
     refine gW ?_
     refine HQ.Aw (i := o) rfl rfl rfl hoz ho11 rfl ?_
     refine HQ.Af rfl rfl rfl (Rd1.at0 (Rd.ofRow (by repeat constructor)) (by rw [Nat.mul_one, Nat.zero_add]; exact hstr)) rfl ?_
     refine gS ?_
     refine gX ?_
     refine H.Az (by kernel_rfl) (by decide +kernel) (by repeat (first | exact zab | refine zaa ?_ | refine zac ?_ | refine zae ?_)) (S := [_, _]) rfl ?_
     refine HB.Ag [(0, false), (1, false), (2, false), (3, false), (4, false), (5, false), (6, false), (7, false), (8, false), (9, false), (10, false), (11, false), (12, false), (13, false), (14, false), (15, false), (16, false), (17, false)] 3 (by kernel_rfl) ?_
     refine ge ?_
     refine HQ.Ae rfl ?_
     refine HB.ev1 (i := 18) (by kernel_rfl) rfl ?_
     refine gF ?_
     refine H.on0 rfl ?_
     refine HB.Ag [(19, false), (20, false)] 0 (by kernel_rfl) ?_
     refine gN ?_
     refine HQ.Ae rfl ?_
     refine HB.Al (by kernel_rfl) ?_
     refine gX ?_
     refine H.Aa (x := ordH l i) (by repeat constructor) ?_
     refine H.Aa (x := fam (strH l i) 11) (by repeat constructor) ?_
     refine H.Aa (x := row lb _ _) (by repeat constructor) ?_
     refine H.imp (zau i hi) ?_
     refine H.Ab (x := row mb _ _) (by repeat constructor) ?_
     refine H.Ac rfl rfl (fun _ h => h) ⟨?_, rfl, rfl⟩
     rw [hchk, if_neg (by omega), if_neg hc4, if_pos (.inl (by omega))]
end
theorem ListAt.none_nil {α : Type} {f : Frag} {sz : Nat} {vals : α → List Value} {p : Option Addr} {xs : List α} (h : ListAt f p sz vals xs) (hp : p = none) : xs = [] := by
 cases xs with
 | nil => rfl
 | cons x r =>
  obtain ⟨b, off, cs, T, fr, h1, _⟩ := h 0 x rfl
  rw [hp] at h1; cases h1
def loreC (n : Nat) (g : Nat → Value) (s : Value) : List Value := [.int .i64 (n : Int)] ++ c11 g ++ [s]
theorem loreC_last (n : Nat) (g : Nat → Value) (s v : Value) : SetV (loreC n g s) 12 v (loreC n g v) := by
 have e : loreC n g v = (loreC n g s).set 12 v := rfl
 rw [e]
 exact SetV.mk v (show 12 < 13 by decide)
theorem loreC_mid (n : Nat) (g : Nat → Value) (s v : Value) {o : Nat} (h : o < 11) : SetV (loreC n g s) (1 + o) v (loreC n (updF g o v) s) :=
 SetV.mid' (c11_set g v h) [.int .i64 (n : Int)] [s]
theorem loreC_str (n : Nat) (g : Nat → Value) (s : Value) {o : Nat} (h : o < 11) : (loreC n g s)[1 + o]? = some (g o) := by
 unfold loreC
 rw [List.append_assoc, List.getElem?_append_right (by show 1 ≤ 1 + o; omega), show 1 + o - [Value.int .i64 (n : Int)].length = o by show 1 + o - 1 = o; omega, List.getElem?_append_left (by show o < 11; exact h), c11_get _ h]
theorem c11_congr {g g' : Nat → Value} (h : ∀ k, k < 11 → g k = g' k) : c11 g = c11 g' := by
 unfold c11
 rw [h 0 (by decide), h 1 (by decide), h 2 (by decide), h 3 (by decide), h 4 (by decide), h 5 (by decide), h 6 (by decide), h 7 (by decide), h 8 (by decide), h 9 (by decide), h 10 (by decide)]
theorem lore_after {F : List HP} {lb n o : Nat} {l : List MV} {i : LP} {f' : Frag} {x : MV} {p2 po2 : Option Addr} {c2 co2 : Nat} (hoo : orgI x.m = o) (h : loreφ f' n (l ++ [x])) :
  ∀ y, stars (row lb 120 (loreC n (updF (fun k => .slice (i.P k) (strmV l k).length (i.C k)) o (.slice p2 ((strmV l o).length + 1) c2)) (.slice po2 (l.length + 1) co2)) ::
   fam (updF (strH l i) o (slc p2 ((strmV l o).length + 1) c2 47 121 ((strmV l o).flatMap MV.vals ++ x.vals))) 11 ::
   slc po2 (l.length + 1) co2 123 2 ((placesOf (l.map MV.m)).flatMap placeV ++ placeV (o, (strmV l o).length)) :: F) y → stars (loreH f' lb n (l ++ [x]) :: F) y := by
 have hcnt : cnt (l.map MV.m) o = (strmV l o).length := (strmV_len l o).symm
 have e1 : loreC n (updF (fun k => .slice (i.P k) (strmV l k).length (i.C k)) o (.slice p2 ((strmV l o).length + 1) c2)) (.slice po2 (l.length + 1) co2) = loreCells n (l ++ [x]) ⟨updF i.P o p2, updF i.C o c2, po2, co2⟩ := by
  unfold loreC loreCells
  rw [c11_congr (g' := fun k => .slice ((updF i.P o p2) k) (strmV (l ++ [x]) k).length ((updF i.C o c2) k)) fun k _ => ?_, List.length_append]
  ·rfl
  ·rw [strmV_snoc, hoo]
   by_cases e : k = o
   ·subst e; rw [zah, zah, zah, if_pos rfl, List.length_append]; rfl
   ·rw [zal _ _ e, zal _ _ e, zal _ _ e, if_neg e]
 have e2 : fam (updF (strH l i) o (slc p2 ((strmV l o).length + 1) c2 47 121 ((strmV l o).flatMap MV.vals ++ x.vals))) 11 = fam (strH (l ++ [x]) ⟨updF i.P o p2, updF i.C o c2, po2, co2⟩) 11 := by
  unfold fam
  rw [rngH_congr 11 fun k _ => ?_]
  unfold strH
  rw [strmV_snoc, hoo]
  by_cases e : k = o
  ·subst e
   show updF _ k _ k = slc (updF i.P k p2 k) _ (updF i.C k c2 k) _ _ _
   rw [zah, zah, zah, if_pos rfl, List.length_append, List.flatMap_append]
   show _ = slc p2 _ c2 _ _ (_ ++ (x.vals ++ []))
   rw [List.append_nil]; rfl
  ·show updF _ o _ k = slc (updF i.P o p2 k) _ (updF i.C o c2 k) _ _ _
   rw [zal _ _ e, zal _ _ e, zal _ _ e, if_neg e]
 have e3 : slc po2 (l.length + 1) co2 123 2 ((placesOf (l.map MV.m)).flatMap placeV ++ placeV (o, (strmV l o).length)) = ordH (l ++ [x]) ⟨updF i.P o p2, updF i.C o c2, po2, co2⟩ := by
  unfold ordH
  have hpl := placesOf_snoc (l.map MV.m) x.m
  rw [hoo, hcnt] at hpl
  rw [List.map_append, show [x].map MV.m = [x.m] from rfl, hpl, List.flatMap_append, List.length_append]
  rfl
 rw [e1, e2, e3]
 exact zau _ h
theorem loreφ_snoc {f f' : Frag} (hle : Le f f') {n : Nat} {l : List MV} {x : MV} (h : loreφ f n l) (hl : l.length < 100000) (hc : chk n (strm (l.map MV.m)) x.m = 0) (hx : x.Good f') : loreφ f' n (l ++ [x]) := by
 refine ⟨fun y hy => ?_, ?_, ?_, h.2.2.2⟩
 ·rcases List.mem_append.1 hy with hy | hy
  ·exact (h.1 y hy).mono hle
  ·rw [List.mem_singleton] at hy; subst hy; exact hx
 ·rw [List.length_append]; show l.length + 1 ≤ _; omega
 ·rw [List.map_append]; exact h.2.2.1.snoc hc
def msgZ : Msg := ⟨0, 0, fun _ => 0, Bod.zero 0, noTag⟩
theorem qs_qat0 {g : Frag} {p : Option Addr} {c : Nat} {q : List (Int × Int)} (h : qs p c q g) : QAt g p q := zbl (vals := pairV) (fun _ => rfl) h
section
variable (f : Frag) (F : List HP)
theorem cloneQ_fn {p : Option Addr} {c : Nat} {l : List (Int × Int)} (h : QAt f p l) (hl : l.length ≤ 1000000) :
  Fn Tryz.prog 70 [.slice p l.length c] f F (fun v f' A' => ∃ p c, v = .slice p l.length c ∧ f' = f ∧ A' = qs p c l :: F) := by
 have h' : ListAt f p 2 pairV l := h
 have hs := ListAt.src (P := Tryz.prog) (A := F) (c := c) (sz := 2) (vals := pairV) (fun _ => rfl) (by decide) h'
 cases p with
 | none =>
  have := h'.none_nil rfl
  subst this
  refine Fn.enter Tryz.func70 rfl Tryz.ntmps70 rfl (L := [(0, _)]) ⟨rfl, trivial⟩ fun base => ?_
  refine gQ ?_
  refine H.slc0 61 2 ?_
  exact H.Ac rfl rfl (fun _ h => h) ⟨none, 0, rfl, rfl, rfl⟩
 | some a =>
  refine Fn.enter Tryz.func70 rfl Tryz.ntmps70 rfl (L := [(0, _)]) ⟨rfl, trivial⟩ fun base => ?_
  refine gQ ?_
  refine H.Bb rfl rfl rfl rfl (by decide) (by decide) rfl rfl fun eb => ?_
  refine H.asSlc (k := 0) (sz := 2) rfl (by decide) ?_
  refine gO ?_
  refine H.Bd (xs := []) rfl rfl rfl rfl rfl (fun p' c' => .here _ _ _) hs.cons (pairsV_one l) rfl (by omega) (by omega) fun p' c' => ?_
  rw [Nat.zero_add]
  refine gf ?_
  exact H.Ac rfl rfl (fun _ h => h) ⟨p', c', rfl, rfl, rfl⟩
theorem lown_fn {x : MV} (hx : x.Good f) : Fn Tryz.prog 56 [.agg x.vals.toArray] f F (fun v f' A' => ∃ p c, v = .agg (x.m.vals p c).toArray ∧ f' = f ∧ A' = qs p c x.m.body.q :: F) := by
 refine Fn.enter Tryz.func56 rfl Tryz.ntmps56 rfl (L := [(0, _)]) ⟨rfl, trivial⟩ fun base => ?_
 refine gC ?_
 refine H.box (ls := x.vals) rfl rfl rfl rfl fun mb => ?_
 refine H.Au (ls := msgZ.vals none 0) rfl rfl rfl fun ob => ?_
 refine gY ?_
 refine H.Ay rfl rfl rfl (cloneQ_fn f _ hx.1 hx.2.1) fun qp qc => ?_
 refine gc ?_
 refine H.Ah (ls := x.m.vals qp qc) rfl rfl rfl (Rd.ofRow (by repeat constructor)) rfl rfl ?_
 refine H.Ak (ls := msgZ.vals none 0) (vs := x.m.vals qp qc) (ls' := x.m.vals qp qc) rfl rfl rfl (zad rfl) rfl rfl (Nat.le_refl 121) (by repeat constructor) ?_
 refine gf ?_
 refine H.Ab (x := row mb _ _) (by repeat constructor) ?_
 refine H.Aa (x := row ob _ _) (by repeat constructor) ?_
 exact H.Ba rfl rfl rfl (Rd.ofRow (.here _ _ _)) rfl (fun _ s => s.drop (.here _ _)) ⟨qp, qc, rfl, rfl, rfl⟩
def AddP (f : Frag) (F : List HP) (lb n : Nat) (l : List MV) (m : Msg) : Value → Frag → List HP → Prop := fun v f' A' =>
 ∃ (g : Frag) (qp : Option Addr) (qc : Nat), v = .int .i64 (chk n (strm (l.map MV.m)) m) ∧ Dj f g ∧ f' = un f g ∧ A' = loreH f' lb n (if chk n (strm (l.map MV.m)) m = 0 then l ++ [⟨m, qp, qc⟩] else l) :: F
def AddQ (f : Frag) (F : List HP) (fl : Frag) (lb n : Nat) (l : List MV) (m : Msg) : Value → Frag → List HP → Prop := fun v f' A' =>
 ∃ (g : Frag) (qp : Option Addr) (qc : Nat), v = .int .i64 (chk n (strm (l.map MV.m)) m) ∧ Dj f g ∧ f' = un f g ∧ A' = loreH (un fl g) lb n (if chk n (strm (l.map MV.m)) m = 0 then l ++ [⟨m, qp, qc⟩] else l) :: F
theorem Dj.le {f g h : Frag} (h1 : Le f g) (h2 : Dj g h) : Dj f h := fun k => by
 rcases h2 k with e | e
 ·cases hf : f k with
  | none => exact .inl rfl
  | some o => rw [h1 k o hf] at e; cases e
 ·exact .inr e
set_option maxHeartbeats 3200000 in
theorem laddQ_fn (htab : TabAt f) {fl : Frag} (hfl : Le fl f) {lb n : Nat} {l : List MV} {x : MV} (hx : x.Good f) (hlen : l.length < 100000) :
  Fn Tryz.prog 19 [.pointer (some ⟨lb, 0, none⟩), .agg x.vals.toArray] f (loreH fl lb n l :: F) (AddQ f F fl lb n l x.m) := by
 by_cases hc : chk n (strm (l.map MV.m)) x.m = 0
 ·obtain ⟨z1, z2, z3, _, _⟩ := chk_zero hc
  refine Fn.unpack fun i0 hi0 => ?_
  refine Fn.imp (zau i0 hi0) ?_
  have hn := hi0.2.2.2
  obtain ⟨o, hoo, hoz, hon, ho11, ho1, ho2⟩ := fits_at z1 hn
  rw [hoo, strm_lenV] at z3
  have hsub : IntKind.i64.wrap (x.m.origin - 1) = ((o : Nat) : Int) := by rw [hoz]; exact wr_i64 (by omega)
  have hsl := strmV_le l o
  have hcnt : cnt (l.map MV.m) o = (strmV l o).length := strm_lenV l o
  refine Fn.enter Tryz.func19 rfl Tryz.ntmps19 rfl (L := [(0, _), (1, _)]) ⟨rfl, rfl, trivial⟩ fun base => ?_
  refine gC ?_
  refine H.box (ls := x.vals) rfl rfl rfl rfl fun mb => ?_
  refine gO ?_
  refine H.Ah (ls := x.vals) rfl rfl rfl (Rd.ofRow (.here _ _ _)) rfl rfl ?_
  refine H.Aa (x := loreH _ _ _ _) (by repeat constructor) ?_
  refine H.Ad rfl rfl rfl (lcheck_fn f _ htab hx) ?_
  refine gH ?_
  rw [hc]
  skip
  refine H.loreOpen fun i hi => ?_
  unfold ordH
  have hstr := loreCells_str n l i ho11
  refine H.Aa (x := row mb _ _) (by repeat constructor) ?_
  refine H.Bg (by kernel_rfl) (by decide +kernel) (by repeat (first | exact zab | refine zaa ?_ | refine zac ?_ | refine zae ?_)) ?_
  refine gW ?_
  refine HQ.Aw (i := o) rfl rfl rfl hoz ho11 rfl ?_
  refine gS ?_
  refine gC ?_
  refine H.Bu [0, 1, 2, 3, 4, 5, 6, 7, 8, 9, 10, 11, 12, 13, 14] (by kernel_rfl) (by decide +kernel) (by repeat (first | exact zab | refine zaa ?_ | refine zac ?_ | refine zae ?_)) (S := [_, _]) rfl ?_
  refine HB.Ag [(0, false), (1, false), (2, false), (3, false), (4, false), (5, false), (6, false), (7, false), (8, false), (9, false), (10, false), (11, false), (12, false)] 5 (by kernel_rfl) ?_
  repeat (first | (apply HQ.ar; (iterate 4 exact rfl); exact hsub; exact rfl) | (refine HQ.Af rfl rfl rfl (Rd1.at0 (Rd.ofRow (.there _ (.here _ _ _))) (by rw [Nat.mul_one, Nat.zero_add]; exact hstr)) rfl ?_) | ((first | apply HQ.Aj | apply HQ.Be | apply HQ.Bm); (iterate 3 exact rfl)) | (apply HQ.Av; (iterate 3 exact rfl); exact inferInstance; exact rfl) | (apply HQ.Af; (iterate 3 exact rfl); apply Rd1.ofRow; (repeat (first | exact .here _ _ _ | apply At.there)); (iterate 2 exact rfl)) | ((apply HQ.Bc); (iterate 5 exact rfl)))
  refine HQ.Ae rfl ?_
  refine HB.ev1 (i := 13) (by kernel_rfl) rfl ?_
  refine H.Bb (out := placeV (o, (strmV l o).length)) rfl rfl rfl rfl (by decide) (by decide) rfl rfl fun eb => ?_
  refine gC ?_
  refine H.Aa (x := row lb _ _) (by repeat constructor) ?_
  refine H.Aa (x := row mb _ _) (by repeat constructor) ?_
  refine H.on0 rfl ?_
  refine HB.ev1 (i := 14) (by kernel_rfl) rfl ?_
  have hpll : (placesOf (l.map MV.m)).length = l.length := by unfold placesOf; rw [placesFrom_len, List.length_map]
  refine H.Bd (xs := (placesOf (l.map MV.m)).flatMap placeV) (m := 1) (news := placeV (o, (strmV l o).length)) rfl rfl rfl rfl rfl (fun p' c' => (by repeat constructor)) (Src.slice (Rd.ofRow (by repeat constructor)) rfl) (zad rfl) rfl (by omega) (by omega) fun po2 co2 => ?_
  refine gC ?_
  refine H.Ab (x := row eb _ _) (by repeat constructor) ?_
  refine H.on0 rfl ?_
  refine HB.next [] (by kernel_rfl) (S' := []) rfl ?_
  refine HB.Ag [(15, false), (16, false)] 1 (by kernel_rfl) ?_
  refine gW ?_
  refine HQ.Ae rfl ?_
  refine HB.ev1 (i := 17) (by kernel_rfl) rfl ?_
  refine H.Bj (ls := loreC n (fun k => .slice (i.P k) (strmV l k).length (i.C k)) (.slice i.po l.length i.co)) (ls' := loreC n (fun k => .slice (i.P k) (strmV l k).length (i.C k)) (.slice po2 (l.length + 1) co2)) rfl rfl rfl rfl (.there _ (.here _ _ _)) (loreC_last _ _ _ _) ?_
  refine gC ?_
  refine H.on0 rfl ?_
  refine HB.Al (by kernel_rfl) ?_
  refine gC ?_
  refine H.Bu [0, 1, 2, 3, 4, 5, 6, 7] (by kernel_rfl) (by decide +kernel) (by repeat (first | exact zab | refine zaa ?_ | refine zac ?_ | refine zae ?_)) (S := [_, _]) rfl ?_
  refine HB.Ag [(0, false), (1, false), (2, false), (3, false), (4, false)] 5 (by kernel_rfl) ?_
  have hstr2 := loreC_str n (fun k => .slice (i.P k) (strmV l k).length (i.C k)) (.slice po2 (l.length + 1) co2) ho11
  repeat (first | (refine HQ.Af rfl rfl rfl (Rd1.at0 (Rd.ofRow (.there _ (.here _ _ _))) (by rw [Nat.mul_one, Nat.zero_add]; exact hstr2)) rfl ?_) | (refine HQ.Ah (ls := x.vals) rfl rfl rfl (Rd.ofRow (.here _ _ _)) rfl rfl ?_) | ((first | apply HQ.Aj | apply HQ.Be); (iterate 3 exact rfl)))
  refine HQ.Ae rfl ?_
  refine HB.ev1 (i := 5) (by kernel_rfl) rfl ?_
  refine H.Ay rfl rfl rfl (lown_fn f _ hx) fun qp qc => ?_
  refine gC ?_
  refine H.freeze (.here _ _) fun g hg hd => ?_
  refine H.on [] (Le.un f g) rfl ?_
  refine HB.ev1 (i := 6) (by kernel_rfl) rfl ?_
  refine H.Bb (out := x.m.vals qp qc) rfl rfl rfl rfl (by decide) (by decide) rfl rfl fun eb => ?_
  refine gC ?_
  refine H.Aa (x := row lb _ _) (by repeat constructor) ?_
  refine H.Aa (x := row mb _ _) (by repeat constructor) ?_
  refine H.on0 rfl ?_
  refine HB.ev1 (i := 7) (by kernel_rfl) rfl ?_
  refine H.Aa (x := fam (strH l i) 11) (by repeat constructor) ?_
  refine H.Cj ho11 ?_
  unfold strH
  refine H.Bd (xs := (strmV l o).flatMap MV.vals) (m := 1) (news := x.m.vals qp qc) rfl rfl rfl rfl rfl (fun p' c' => .here _ _ _) (Src.slice (Rd.ofRow (by repeat constructor)) rfl) (zad rfl) rfl (by omega) (by omega) fun p2 c2 => ?_
  refine gC ?_
  refine H.Ab (x := row eb _ _) (by repeat constructor) ?_
  refine H.famPut ho11 ?_
  refine H.Aa (x := row lb _ _) (by repeat constructor) ?_
  refine H.Aa (x := row mb _ _) (by repeat constructor) ?_
  refine H.on0 rfl ?_
  refine HB.next [] (by kernel_rfl) (S' := []) rfl ?_
  refine HB.Ag [(8, false)] 1 (by kernel_rfl) ?_
  refine gD ?_
  refine HQ.Ae rfl ?_
  refine HB.ev1 (i := 9) (by kernel_rfl) rfl ?_
  refine H.Bj (ls := loreC n (fun k => .slice (i.P k) (strmV l k).length (i.C k)) (.slice po2 (l.length + 1) co2)) (ls' := loreC n (updF (fun k => .slice (i.P k) (strmV l k).length (i.C k)) o (.slice p2 ((strmV l o).length + 1) c2)) (.slice po2 (l.length + 1) co2)) rfl rfl rfl rfl (.there _ (.here _ _ _)) (by rw [Nat.mul_one, Nat.zero_add]; exact loreC_mid _ _ _ _ ho11) ?_
  refine gC ?_
  refine H.on0 rfl ?_
  refine HB.Al (by kernel_rfl) ?_
  refine gf ?_
  refine H.Ab (x := row mb _ _) (by repeat constructor) ?_
  have hxg : (⟨x.m, qp, qc⟩ : MV).Good (un fl g) := ⟨QAt.mono (Le.right (Dj.le hfl hd)) (qs_qat0 hg), hx.2⟩
  refine H.imp (lore_after (x := ⟨x.m, qp, qc⟩) hoo (loreφ_snoc (Le.un fl g) hi hlen hc hxg)) ?_
  refine H.Ac rfl rfl (fun _ h => h) ⟨g, qp, qc, ?_, hd, rfl, ?_⟩
  ·rw [hc]
  ·rw [if_pos hc]; rfl
 ·have hA : Fn Tryz.prog 19 [.pointer (some ⟨lb, 0, none⟩), .agg x.vals.toArray] f (loreH fl lb n l :: F) (Ret (.int .i64 (chk n (strm (l.map MV.m)) x.m)) f (loreH fl lb n l :: F)) := by
   refine Fn.enter Tryz.func19 rfl Tryz.ntmps19 rfl (L := [(0, _), (1, _)]) ⟨rfl, rfl, trivial⟩ fun base => ?_
   refine gC ?_
   refine H.box (ls := x.vals) rfl rfl rfl rfl fun mb => ?_
   refine gO ?_
   refine H.Ah (ls := x.vals) rfl rfl rfl (Rd.ofRow (.here _ _ _)) rfl rfl ?_
   refine H.Aa (x := loreH _ _ _ _) (by repeat constructor) ?_
   refine H.Ad rfl rfl rfl (lcheck_fn f _ htab hx) ?_
   refine gL ?_
   refine H.Ab (x := row mb _ _) (by repeat constructor) ?_
   exact H.Ac rfl rfl (fun _ h => h) ⟨rfl, rfl, rfl⟩
  refine Fn.monoA hA ?_
  rintro v f' A' ⟨rfl, rfl, rfl⟩
  refine ⟨_, ⟨nil0, none, 0, rfl, Dj.nil _, (un_nil _).symm, rfl⟩, ?_⟩
  rw [if_neg hc]
  rintro y ⟨h1, h2, h3, h4, h5, h6⟩
  exact ⟨h1, h2, h3, h4, loreH_mono (Le.un fl nil0) _ h5, h6⟩
theorem ladd_fn (htab : TabAt f) {fl : Frag} (hfl : Le fl f) {lb n : Nat} {l : List MV} {x : MV} (hx : x.Good f) (hlen : l.length < 100000) :
  Fn Tryz.prog 19 [.pointer (some ⟨lb, 0, none⟩), .agg x.vals.toArray] f (loreH fl lb n l :: F) (AddP f F lb n l x.m) := by
 refine Fn.monoA (laddQ_fn f F htab hfl hx hlen) ?_
 rintro v f' A' ⟨g, qp, qc, e1, e2, rfl, rfl⟩
 refine ⟨_, ⟨g, qp, qc, e1, e2, rfl, rfl⟩, ?_⟩
 rintro y ⟨h1, h2, h3, h4, h5, h6⟩
 refine ⟨h1, h2, h3, h4, loreH_mono (fun k o hk => ?_) _ h5, h6⟩
 unfold un at hk ⊢
 cases hfk : fl k with
 | none =>
  rw [hfk] at hk
  rcases e2 k with e | e
  ·rw [e]; exact hk
  ·have hk2 : g k = some o := hk
   rw [e] at hk2; cases hk2
 | some o' =>
  rw [hfk] at hk
  rw [hfl k o' hfk]
  exact hk
end
theorem take_cons_drop {α : Type} {l : List α} {k : Nat} {y : α} (h : l[k]? = some y) : l = l.take k ++ y :: l.drop (k + 1) := by
 have h1 := zbm h
 have h2 := (List.take_append_drop (k + 1) l).symm
 rw [h1, List.append_assoc] at h2
 exact h2
theorem strmV_at {l : List MV} {k : Nat} {y : MV} (h : l[k]? = some y) : (strmV l (orgI y.m))[cnt ((l.map MV.m).take k) (orgI y.m)]? = some y := by
 have e := take_cons_drop h
 have h1 : strmV l (orgI y.m) = strmV (l.take k) (orgI y.m) ++ y :: strmV (l.drop (k + 1)) (orgI y.m) := by
  rw [e]
  unfold strmV
  rw [List.filter_append, List.filter_cons, if_pos (by simp)]
  rw [← e]
 have h2 : cnt ((l.map MV.m).take k) (orgI y.m) = (strmV (l.take k) (orgI y.m)).length := by rw [strmV_len, List.map_take]
 rw [h1, h2, List.getElem?_append_right (Nat.le_refl _), Nat.sub_self]
 rfl
def getM (l : List Msg) (o z : Int) : Msg × Bool := match findM l o z with
 | some m => (m, true)
 | none => (msgZ, false)
theorem msgZ_good (f : Frag) : (⟨msgZ, none, 0⟩ : MV).Good f := ⟨QAt.nil f none, Nat.zero_le _, ⟨by decide, by decide⟩, ⟨by decide, by decide⟩, reqz_ok⟩
section
variable (f : Frag) (F : List HP)
end
def msL (p : Option Addr) (c : Nat) (l : List MV) : HP := slc p l.length c 47 121 (l.flatMap MV.vals)
def sinceM (v : Nat → Int) (most : Int) (l : List Msg) : List Msg := (unk v l).take most.toNat
def SinceP (f : Frag) (A : List HP) (ms : List Msg) : Value → Frag → List HP → Prop := fun v f' A' =>
 ∃ (g : Frag) (p : Option Addr) (c : Nat) (R : List MV), v = .slice p R.length c ∧ R.map MV.m = ms ∧ (∀ y ∈ R, y.Good (un f g)) ∧ Dj f g ∧ f' = un f g ∧ A' = msL p c R :: A
theorem unk_snoc (u : Nat → Int) (l : List Msg) (m : Msg) : unk u (l ++ [m]) = if u (orgI m) < m.number then unk u l ++ [m] else unk u l := by
 unfold unk
 rw [List.filter_append]
 by_cases h : u (orgI m) < m.number
 ·rw [if_pos h, List.filter_cons, if_pos (decide_eq_true h)]; rfl
 ·rw [if_neg h, List.filter_cons, if_neg (by rw [decide_eq_false h]; decide)]; simp
theorem Dj.un3' {f g h : Frag} (h1 : Dj f g) (h2 : Dj (un f g) h) : Dj f (un g h) := Dj.un_right.2 ⟨h1, (Dj.un_left.1 h2).1⟩
theorem slc_snoc {p : Option Addr} {c : Nat} {T : TypeId} {R : List MV} {y : MV} : slc p (R.length + 1) c T 121 (R.flatMap MV.vals ++ y.vals) = slc p (R ++ [y]).length c T 121 ((R ++ [y]).flatMap MV.vals) := by
 rw [List.length_append, List.flatMap_append]
 show _ = slc p (R.length + 1) c T 121 (R.flatMap MV.vals ++ (y.vals ++ []))
 rw [List.append_nil]
theorem unk_take_more {u : Nat → Int} {l : List Msg} {k n : Nat} (h : n ≤ (unk u (l.take k)).length) : (unk u l).take n = (unk u (l.take k)).take n := by
 have e : unk u l = unk u (l.take k) ++ unk u (l.drop k) := by
  unfold unk
  rw [← List.filter_append, List.take_append_drop]
 rw [e, List.take_append_of_le_length h]
section
variable (f : Frag) (F : List HP)
set_option maxRecDepth 20000 in
set_option maxHeartbeats 3200000 in
theorem lsince_fn {fl : Frag} (hfl : Le fl f) {lb n : Nat} {l : List MV} {v : Nat → Int} {most : Int} :
  Fn Tryz.prog 21 [.pointer (some ⟨lb, 0, none⟩), .agg (v11 v).toArray, .int .i64 most] f (loreH fl lb n l :: F) (SinceP f (loreH fl lb n l :: F) (sinceM v most (l.map MV.m))) := by
 refine Fn.unpack fun i hi => ?_
 obtain ⟨P, C, po, co⟩ := i
 have hn := hi.2.2.2
 have hll := hi.2.1
 refine Fn.enter Tryz.func21 rfl Tryz.ntmps21 rfl (L := [(0, _), (1, _), (2, _)]) ⟨rfl, rfl, rfl, trivial⟩ fun base => ?_
 refine gC ?_
 refine H.box (ls := v11 v) rfl rfl rfl rfl fun vb => ?_
 refine gQ ?_
 unfold ordH
 refine H.slc0 47 121 ?_
 refine H.Aa (x := row vb _ _) (by repeat constructor) ?_
 refine H.Ax (ι := Nat × List MV × Frag × Option Addr × Nat) (fun s => [(16, .int .i64 (s.1 : Int)), (15, .int .i64 (l.length : Nat)), (14, .slice po l.length co), (6, .slice s.2.2.2.1 s.2.1.length s.2.2.2.2), (0, .pointer (some ⟨lb, 0, none⟩)), (2, .int .i64 most), (4, .pointer (some ⟨vb, 0, none⟩))]) (fun s => un f s.2.2.1)
  (fun s => row vb 37 (v11 v) :: slc s.2.2.2.1 s.2.1.length s.2.2.2.2 47 121 (s.2.1.flatMap MV.vals) :: row lb 120 (loreCells n l ⟨P, C, po, co⟩) :: fam (strH l ⟨P, C, po, co⟩) 11 :: slc po l.length co 123 2 ((placesOf (l.map MV.m)).flatMap placeV) :: F)
  (fun s => s.1 ≤ l.length ∧ s.2.1.map MV.m = unk v ((l.map MV.m).take s.1) ∧ s.2.1.length ≤ most.toNat ∧ (∀ y ∈ s.2.1, y.Good (un f s.2.2.1)) ∧ Dj f s.2.2.1) (fun s => l.length - s.1)
  (0, [], nil0, none, 0) ⟨Nat.zero_le _, rfl, Nat.zero_le _, (fun y hy => by cases hy), Dj.nil f⟩ ⟨rfl, rfl, rfl, rfl, rfl, rfl, rfl, trivial⟩ (un_nil f).symm rfl fun s hs => ?_
 obtain ⟨k, R, G, p, c⟩ := s
 obtain ⟨hk, hR, hRm, hRg, hdj⟩ : k ≤ l.length ∧ R.map MV.m = unk v ((l.map MV.m).take k) ∧ R.length ≤ most.toNat ∧ (∀ y ∈ R, y.Good (un f G)) ∧ Dj f G := hs
 have hRl : R.length ≤ l.length := by
  have h1 := congrArg List.length hR
  rw [List.length_map] at h1
  have h2 : (unk v ((l.map MV.m).take k)).length ≤ ((l.map MV.m).take k).length := List.length_filter_le _ _
  rw [List.length_take, List.length_map] at h2
  omega
 show H _ _ _ [(16, .int .i64 (k : Int)), _, _, (6, .slice p R.length c), _, _, _] (un f G) (_ :: slc p R.length c _ 121 (R.flatMap MV.vals) :: _ :: _ :: _ :: F) _
 by_cases hlt : k < l.length
 ·obtain ⟨y, hy⟩ : ∃ y, l[k]? = some y := ⟨_, List.getElem?_eq_getElem hlt⟩
  have hym : (l.map MV.m)[k]? = some y.m := by rw [List.getElem?_map, hy]; rfl
  have hyl := List.mem_of_getElem? hy
  have hpl := placesOf_get hym
  have hst := strmV_at hy
  have hnum := (chk_zero (hi.2.2.1 k y.m hym)).2.2.1
  have horg := hi.2.2.1.org (List.mem_of_getElem? hym)
  have hyg : y.Good (un f G) := ((hi.1 y hyl).mono hfl).mono (Le.un f G)
  have hnext : (l.map MV.m).take (k + 1) = (l.map MV.m).take k ++ [y.m] := zbm hym
  have hunk := unk_snoc v ((l.map MV.m).take k) y.m
  rw [← hnext] at hunk
  have ho11 : orgI y.m < 11 := by unfold orgI; omega
  have hal : cnt ((l.map MV.m).take k) (orgI y.m) < (strmV l (orgI y.m)).length := by
   rcases Nat.lt_or_ge (cnt ((l.map MV.m).take k) (orgI y.m)) (strmV l (orgI y.m)).length with h | h
   ·exact h
   ·rw [List.getElem?_eq_none h] at hst; cases hst
  have hsl := strmV_le l (orgI y.m)
  have hnum2 : y.m.number = ((cnt ((l.map MV.m).take k) (orgI y.m) + 1 : Nat) : Int) := hnum
  clear hnum horg
  generalize cnt ((l.map MV.m).take k) (orgI y.m) = a at *
  generalize orgI y.m = o at *
  have hstr := loreCells_str n l ⟨P, C, po, co⟩ ho11
  refine H.Aa (x := slc po _ co _ _ _) (by repeat constructor) ?_
  refine H.Bq (p := po) (n0 := l.length) (c := co) (.here _ _ _) (by omega) fun ob hpo => ?_
  subst hpo
  refine gL ?_
  refine H.Ar (i := k) rfl rfl rfl rfl hlt rfl ?_
  refine H.Ah (ls := placeV (o, a)) rfl rfl rfl (by rw [Nat.zero_add]; exact Rd.slcElem (vals := placeV) (fun _ => rfl) (by decide) (.here _ _ _) hpl) rfl rfl ?_
  refine H.Au (ls := placeV (0, 0)) rfl rfl rfl fun tb => ?_
  refine H.Ak (ls := placeV (0, 0)) (vs := placeV (o, a)) (ls' := placeV (o, a)) rfl rfl rfl (zad rfl) rfl rfl (Nat.le_refl 2) (.here _ _ _) ?_
  by_cases hm : most ≤ (R.length : Nat)
  ·refine gU ?_
   refine H.Ab (x := row tb _ _) (by repeat constructor) ?_
   refine H.Ab (x := row vb _ _) (by repeat constructor) ?_
   refine H.Aa (x := slc (some ⟨ob, 0, none⟩) _ co _ _ _) (by repeat constructor) ?_
   refine H.Aa (x := fam _ 11) (by repeat constructor) ?_
   refine H.Aa (x := row lb _ _) (by repeat constructor) ?_
   refine H.imp (zau (F := slc p R.length c 47 121 (R.flatMap MV.vals) :: F) ⟨P, C, some ⟨ob, 0, none⟩, co⟩ hi) ?_
   refine H.Aa (x := slc p _ c _ _ _) (by repeat constructor) ?_
   refine H.Ac rfl rfl (fun _ h => h) ⟨G, p, c, R, rfl, ?_, hRg, hdj, rfl, rfl⟩
   have h1 := congrArg List.length hR
   rw [List.length_map] at h1
   have h2 : most.toNat = R.length := by omega
   unfold sinceM
   rw [unk_take_more (k := k) (by omega), ← hR, List.take_of_length_le (by rw [List.length_map]; omega)]
  ·have h48 : ¬ (most ≤ (R.length : Nat)) := hm
   refine gH ?_
   refine H.Bg (by kernel_rfl) (by decide +kernel) (by repeat (first | exact zab | refine zaa ?_ | refine zac ?_ | refine zae ?_)) ?_
   refine gW ?_
   refine HQ.Aw (i := o) rfl rfl rfl rfl ho11 rfl ?_
   refine HQ.Af rfl rfl rfl (.of (Rd.ofRow (by repeat constructor)) (by rw [Nat.mul_one]; exact zam v ho11)) rfl ?_
   refine gS ?_
   by_cases hv : v o ≤ (a : Nat)
   ·rw [if_pos (by omega)] at hunk
    refine gL ?_
    refine H.Aa (x := fam _ 11) (by repeat constructor) ?_
    refine H.Cj ho11 ?_
    refine H.Bq (p := P o) (n0 := (strmV l o).length) (c := C o) (.here _ _ _) (by omega) fun sb hp => ?_
    have hrd : ∀ {f G}, Rd f (strH l ⟨P, C, some ⟨ob, 0, none⟩, co⟩ o :: G) sb (a * 121) y.vals := fun {f G} => by
     unfold strH
     show Rd f (slc (P o) _ _ _ _ _ :: G) _ _ _
     rw [hp]
     exact Rd.slcElem MV.len (by decide) (.here _ _ _) hst
    have hstr : (loreCells n l ⟨P, C, some ⟨ob, 0, none⟩, co⟩)[1 + o]? = some (.slice (some ⟨sb, 0, none⟩) (strmV l o).length (C o)) := by rw [hstr]; show some (Value.slice (P o) _ _) = _; rw [hp]
    refine H.Aa (x := row lb _ _) (by repeat constructor) ?_
    refine H.Aa (x := row tb _ _) (by repeat constructor) ?_
    refine H.Aa (x := strH l _ o) (by repeat constructor) ?_
    refine H.Az (by kernel_rfl) (by decide +kernel) (by repeat (first | exact zab | refine zaa ?_ | refine zac ?_ | refine zae ?_)) (S := [_, _, _]) rfl ?_
    refine HB.Ag [(0, false), (1, false), (2, false), (3, false), (4, false), (5, false), (6, false), (7, false), (8, false), (9, false), (10, false), (11, false)] 4 (by kernel_rfl) ?_
    refine gW ?_
    refine HQ.Aw (i := o) rfl rfl rfl rfl ho11 rfl ?_
    refine HQ.Af rfl rfl rfl (Rd1.at0 (Rd.ofRow (.there _ (.there _ (.here _ _ _)))) (by rw [Nat.mul_one, Nat.zero_add]; exact hstr)) rfl ?_
    refine gW ?_
    refine HQ.Ar (i := a) rfl rfl rfl rfl hal rfl ?_
    refine HQ.Ah (ls := y.vals) rfl rfl rfl (by rw [Nat.zero_add]; exact hrd) rfl rfl ?_
    refine HQ.Ae rfl ?_
    refine HB.ev1 (i := 12) (by kernel_rfl) rfl ?_
    refine H.Ay rfl rfl rfl (lown_fn _ _ hyg) fun qp qc => ?_
    refine gC ?_
    refine H.freeze (.here _ _) fun g hg hd => ?_
    refine H.on [] (Le.un _ g) rfl ?_
    refine HB.ev1 (i := 13) (by kernel_rfl) rfl ?_
    refine H.Bb (out := y.m.vals qp qc) rfl rfl rfl rfl (by decide) (by decide) rfl rfl fun eb => ?_
    refine gC ?_
    refine H.Aa (x := row lb _ _) (by repeat constructor) ?_
    refine H.Aa (x := row tb _ _) (by repeat constructor) ?_
    refine H.Aa (x := strH l _ o) (by repeat constructor) ?_
    refine H.on0 rfl ?_
    refine HB.ev1 (i := 14) (by kernel_rfl) rfl ?_
    refine H.Bd (p := p) (c := c) (xs := R.flatMap MV.vals) (m := 1) (news := y.m.vals qp qc) rfl rfl rfl rfl rfl (fun p' c' => (by repeat constructor)) (Src.slice (Rd.ofRow (by repeat constructor)) rfl) (zad rfl) rfl (by omega) (by omega) fun p2 c2 => ?_
    refine gC ?_
    refine H.on0 rfl ?_
    refine HB.Ag [(15, false)] 0 (by kernel_rfl) ?_
    refine gD ?_
    refine HQ.Ae rfl ?_
    refine HB.Al (by kernel_rfl) ?_
    refine gI ?_
    refine H.Ab (x := row eb _ _) (by repeat constructor) ?_
    refine H.Ab (x := row tb _ _) (by repeat constructor) ?_
    refine H.Aa (x := slc (some ⟨ob, 0, none⟩) _ co _ _ _) (by repeat constructor) ?_
    refine H.Aa (x := fam _ 11) (by repeat constructor) ?_
    refine H.Aa (x := strH l _ o) (by repeat constructor) ?_
    refine H.Ck ho11 ?_
    refine H.Aa (x := row lb _ _) (by repeat constructor) ?_
    refine H.Aa (x := slc p2 _ c2 _ _ _) (by repeat constructor) ?_
    refine H.Aa (x := row vb _ _) (by repeat constructor) ?_
    have hyg2 : (⟨y.m, qp, qc⟩ : MV).Good (un (un f G) g) := ⟨qs_qat hg hd, hyg.2⟩
    refine H.Am (k + 1, R ++ [⟨y.m, qp, qc⟩], un G g, p2, c2) ⟨by show k + 1 ≤ l.length; omega, ?_, ?_, fun z hz => ?_, Dj.un3' hdj hd⟩ (by show l.length - (k + 1) < l.length - k; omega) ⟨rfl, rfl, rfl, ?_, rfl, rfl, rfl, trivial⟩ (un_assoc _ _ _) ?_
    ·show (R ++ [(⟨y.m, qp, qc⟩ : MV)]).map MV.m = _
     rw [List.map_append, hR, hunk]; rfl
    ·show (R ++ [(⟨y.m, qp, qc⟩ : MV)]).length ≤ _
     rw [List.length_append]; show R.length + 1 ≤ _; omega
    ·have hz : z ∈ R ++ [(⟨y.m, qp, qc⟩ : MV)] := hz
     show z.Good (un f (un G g))
     rw [← un_assoc]
     rcases List.mem_append.1 hz with hz | hz
     ·exact (hRg z hz).mono (Le.un _ _)
     ·rw [List.mem_singleton] at hz; subst hz; exact hyg2
    ·show some (Value.slice p2 (R.length + 1) c2) = some (Value.slice p2 (R ++ [(⟨y.m, qp, qc⟩ : MV)]).length c2)
     rw [List.length_append]; rfl
    ·show _ :: slc p2 (R.length + 1) c2 _ 121 (R.flatMap MV.vals ++ (⟨y.m, qp, qc⟩ : MV).vals) :: _ = _ :: slc p2 (R ++ [(⟨y.m, qp, qc⟩ : MV)]).length c2 _ 121 ((R ++ [(⟨y.m, qp, qc⟩ : MV)]).flatMap MV.vals) :: _
     rw [slc_snoc]
   ·rw [if_neg (by omega)] at hunk
    refine gT ?_
    refine H.Ab (x := row tb _ _) (by repeat constructor) ?_
    refine H.Aa (x := slc (some ⟨ob, 0, none⟩) _ co _ _ _) (by repeat constructor) ?_
    refine H.Aa (x := fam _ 11) (by repeat constructor) ?_
    refine H.Aa (x := row lb _ _) (by repeat constructor) ?_
    refine H.Aa (x := slc p _ c _ _ _) (by repeat constructor) ?_
    refine H.Aa (x := row vb _ _) (by repeat constructor) ?_
    refine H.Am (k + 1, R, G, p, c) ⟨by show k + 1 ≤ l.length; omega, by show R.map MV.m = _; rw [hR, hunk], hRm, hRg, hdj⟩ (by show l.length - (k + 1) < l.length - k; omega) ⟨rfl, rfl, rfl, rfl, rfl, rfl, rfl, trivial⟩ rfl rfl
 ·have e : k = l.length := by omega
  subst e
  refine gH ?_
  refine H.Ab (x := row vb _ _) (by repeat constructor) ?_
  refine H.Aa (x := slc po _ co _ _ _) (by repeat constructor) ?_
  refine H.Aa (x := fam _ 11) (by repeat constructor) ?_
  refine H.Aa (x := row lb _ _) (by repeat constructor) ?_
  refine H.imp (zau (F := slc p R.length c 47 121 (R.flatMap MV.vals) :: F) ⟨P, C, po, co⟩ hi) ?_
  refine H.Aa (x := slc p _ c _ _ _) (by repeat constructor) ?_
  refine H.Ac rfl rfl (fun _ h => h) ⟨G, p, c, R, rfl, ?_, hRg, hdj, rfl, rfl⟩
  have e2 : (l.map MV.m).take l.length = l.map MV.m := List.take_of_length_le (by rw [List.length_map]; exact Nat.le_refl _)
  rw [e2] at hR
  unfold sinceM
  rw [← hR, List.take_of_length_le (by rw [List.length_map]; omega)]
end
section
variable (f : Frag) (F : List HP)
theorem rclient_fn {i : Int} (h1 : 1 ≤ i) (h2 : i ≤ 8) : Fn Tryz.prog 97 [.int .i64 i] f F (BytesR (Sha.word32 clientW i) f F) := by
 refine Fn.enter Tryz.func97 rfl Tryz.ntmps97 rfl (L := [(0, _)]) ⟨rfl, trivial⟩ fun base => ?_
 refine gO ?_
 refine H.Ay rfl rfl rfl (rkey_fn (w := ⟨#[114, 97, 116, 99, 104, 101, 116, 32, 99, 108, 105, 101, 110, 116]⟩) f _ h1 h2 (by decide) (by decide)) fun p1 c1 => ?_
 refine gf ?_
 exact H.Ac rfl rfl (fun _ h => h) ⟨p1, c1, rfl, rfl, rfl⟩
set_option maxHeartbeats 800000 in
theorem rsigned_fn (r : Req) : Fn Tryz.prog 76 [.agg r.vals.toArray] f F (Ret (.agg r.signed.vals.toArray) f F) := by
 have has := fun G => rasked_fn f G r
 unfold Req.signed
 by_cases ha : r.asked
 ·have hbl := Req.bytes_max ha
  have hcl := fun G => rclient_fn f G ha.1 ha.2.1
  have hrq := fun G p c => rrequest_fn f G (p := p) (c := c) (l := []) r ha (by decide)
  have hk : (Sha.word32 clientW r.client).length = 32 := rfl
  rw [if_pos ha]
  rw [decide_eq_true ha] at has
  unfold Req.sig
  generalize Sha.word32 clientW r.client = key at hk hcl ⊢
  rw [show ([] : List UInt8) ++ r.bytes = r.bytes from rfl] at hrq
  generalize r.bytes = rb at hbl hrq ⊢
  refine Fn.enter Tryz.func76 rfl Tryz.ntmps76 rfl (L := [(0, _)]) ⟨rfl, trivial⟩ fun base => ?_
  refine gC ?_
  refine H.box (ls := r.vals) rfl rfl rfl rfl fun qb => ?_
  refine H.Au (ls := Req.zero.vals) rfl rfl rfl fun ob => ?_
  refine gC ?_
  refine H.Ah (ls := r.vals) rfl rfl rfl (Rd.ofRow (.there _ (.here _ _ _))) rfl rfl ?_
  refine H.Ad rfl rfl rfl (has _) ?_
  refine gG ?_
  refine H.Aa (.there _ (.here _ _)) ?_
  refine H.Bu [0, 1, 2, 3, 4, 5] (by kernel_rfl) (by decide +kernel) (by repeat (first | exact zab | refine zaa ?_ | refine zac ?_ | refine zae ?_)) (S := [_]) rfl ?_
  refine HB.Ag [(0, false), (1, false), (3, false)] 5 (by kernel_rfl) ?_
  refine gW ?_
  refine HQ.Ah (ls := r.vals) rfl rfl rfl (Rd.ofRow (.here _ _ _)) rfl rfl ?_
  refine HQ.Ae rfl ?_
  refine HB.ev1 (i := 2) (by kernel_rfl) rfl ?_
  refine H.Ay rfl rfl rfl (hcl _) fun p1 c1 => ?_
  refine gC ?_
  refine H.Aa (.there _ (.here _ _)) ?_
  refine H.on0 rfl ?_
  refine HB.ev1 (i := 4) (by kernel_rfl) rfl ?_
  refine H.slc0 5 1 ?_
  refine H.Ay rfl rfl rfl (hrq _ none 0) fun p2 c2 => ?_
  refine gC ?_
  refine H.Aa (x := row qb _ _) (by repeat constructor) ?_
  refine H.on0 rfl ?_
  refine HB.ev1 (i := 5) (by kernel_rfl) rfl ?_
  refine H.Ad rfl rfl rfl (hmac_fn f _ (key := key) (b := rb) (fun G => Src.append (Src.slcS (by repeat constructor) (by rw [zaf]; exact (Nat.mul_one _).symm))) (fun G => Src.append (Src.slcS (by repeat constructor) (by rw [zaf]; exact (Nat.mul_one _).symm))) (by omega) (by omega)) ?_
  generalize Sha.hmac key rb = t
  refine gC ?_
  refine H.on0 rfl ?_
  refine HB.next [] (by kernel_rfl) (S' := []) rfl ?_
  refine HB.Ag [(6, false)] 1 (by kernel_rfl) ?_
  refine gE ?_
  refine HQ.Ae rfl ?_
  refine HB.ev1 (i := 7) (by kernel_rfl) rfl ?_
  refine H.Ak (ls := r.vals) (vs := b32 t) (ls' := ({ r with tag := t } : Req).vals) rfl rfl rfl (zad rfl) rfl (splice_rtag r t) (by show 0 + 8 + 32 ≤ 40; decide) (.here _ _ _) ?_
  refine gC ?_
  refine H.on0 rfl ?_
  refine HB.Al (by kernel_rfl) ?_
  refine gC ?_
  refine H.Ah (ls := ({ r with tag := t } : Req).vals) rfl rfl rfl (Rd.ofRow (.here _ _ _)) rfl rfl ?_
  refine H.Ak (ls := Req.zero.vals) (vs := ({ r with tag := t } : Req).vals) (ls' := ({ r with tag := t } : Req).vals) rfl rfl rfl (zad rfl) rfl rfl (Nat.le_refl 40) (by repeat constructor) ?_
  refine gf ?_
  refine H.Ab (.here _ _) ?_
  refine H.Ab (.here _ _) ?_
  refine H.Ab (.here _ _) ?_
  exact H.Ba rfl rfl rfl (Rd.ofRow (.here _ _ _)) rfl (fun _ s => s.drop (.here _ _)) ⟨rfl, rfl, rfl⟩
 ·rw [if_neg ha]
  rw [decide_eq_false ha] at has
  refine Fn.enter Tryz.func76 rfl Tryz.ntmps76 rfl (L := [(0, _)]) ⟨rfl, trivial⟩ fun base => ?_
  refine gC ?_
  refine H.box (ls := r.vals) rfl rfl rfl rfl fun qb => ?_
  refine H.Au (ls := Req.zero.vals) rfl rfl rfl fun ob => ?_
  refine gC ?_
  refine H.Ah (ls := r.vals) rfl rfl rfl (Rd.ofRow (.there _ (.here _ _ _))) rfl rfl ?_
  refine H.Ad rfl rfl rfl (has _) ?_
  refine gV ?_
  refine H.Ah (ls := r.vals) rfl rfl rfl (Rd.ofRow (.there _ (.here _ _ _))) rfl rfl ?_
  refine H.Ak (ls := Req.zero.vals) (vs := r.vals) (ls' := r.vals) rfl rfl rfl (zad rfl) rfl rfl (Nat.le_refl 40) (.here _ _ _) ?_
  refine gf ?_
  refine H.Ab (.there _ (.here _ _)) ?_
  exact H.Ba rfl rfl rfl (Rd.ofRow (.here _ _ _)) rfl (fun _ s => s.drop (.here _ _)) ⟨rfl, rfl, rfl⟩
end
theorem good_signed {m : Msg} {q : Option Addr} {c : Nat} {f : Frag} (h : (⟨m, q, c⟩ : MV).Good f) : (⟨m.signed, q, c⟩ : MV).Good f := by
 obtain ⟨h1, h2, h3⟩ := h
 refine ⟨?_, ?_, ?_⟩
 ·show QAt f q m.signed.body.q; rw [m.signed_parts.2.2.2]; exact h1
 ·show m.signed.body.q.length ≤ _; rw [m.signed_parts.2.2.2]; exact h2
 ·show m.signed.body.Ok; rw [m.signed_parts.2.2.2]; exact h3
theorem H.weakL {P : Program} {base : World} {n : Nat} {L : Env} {f g : Frag} {A : List HP} {K : Kont} (h : Le f g) (k : H P base n L f A K) : H P base n L g A K := .mk fun a w hf s => k.out a w hf (s.weak h)
theorem tab_mono {f g : Frag} (t : TabAt f) (h : Le f g) : TabAt g := IntsAt.mono h t
section
variable (f : Frag) (F : List HP)
end
section
variable (f : Frag) (F : List HP)
end
theorem zak {a b r : Nat} (h : a % b = r) : ((a : Nat) : Int).tmod ((b : Nat) : Int) = (r : Nat) := by rw [← h, Int.ofNat_tmod]
def BodP (f : Frag) (F : List HP) (b : Bod) : Value → Frag → List HP → Prop := fun v f' A' =>
 ∃ (g : Frag) (p : Option Addr) (c : Nat), v = .agg (b.vals p c).toArray ∧ QAt (un f g) p b.q ∧ Dj f g ∧ f' = un f g ∧ A' = F
section
variable (f : Frag) (F : List HP)
end
def peC (n : Nat) (vv : Nat → Nat → Int) : List Value := .int .i64 (n : Int) :: kRow 11 vv
theorem peC_len (n : Nat) (vv : Nat → Nat → Int) : (peC n vv).length = 122 := by unfold peC; rw [List.length_cons, zbe]
theorem peC_rd {f : Frag} {A A' : List HP} {pb n i : Nat} {T : TypeId} {vv : Nat → Nat → Int} (h : At A (row pb T (peC n vv)) A' (row pb T (peC n vv))) (hi : i < 11) : Rd f A pb (0 + 1 + i * 11) (v11 (vv i)) := by
 have h1 : Rd f A pb 0 (peC n vv) := Rd.ofRow h
 have h2 : Rd f A pb (0 + 1) (kRow 11 vv) := Rd.sub (pre := [.int .i64 (n : Int)]) (post := []) (by rw [List.append_nil]; exact h1) rfl
 intro base w s
 obtain ⟨cs, t, fr, h3, h4⟩ := h2 base w s
 refine ⟨cs, t, fr, h3, fun j hj => ?_⟩
 have hj : j < 11 := hj
 rw [Nat.add_assoc, h4 (i * 11 + j) (by rw [zbe]; omega), kRow_get hi hj, zam _ hj]
theorem peC_splice (n : Nat) (vv : Nat → Nat → Int) (v : Nat → Int) {i : Nat} (hi : i < 11) : splice (peC n vv) (0 + 1 + i * 11) (v11 v) = peC n (updF vv i v) := by
 have hl := peC_len n vv
 have hl2 := peC_len n (updF vv i v)
 have hv : (v11 v).length = 11 := rfl
 have ht : ((peC n vv).take (0 + 1 + i * 11)).length = 1 + i * 11 := by rw [List.length_take]; omega
 apply List.ext_getElem?
 intro j
 unfold splice
 by_cases h1 : j < 1 + i * 11
 ·rw [List.append_assoc, List.getElem?_append_left (by omega), List.getElem?_take_of_lt (by omega)]
  cases j with
  | zero => rfl
  | succ t =>
   show (kRow 11 vv)[t]? = (kRow 11 (updF vv i v))[t]?
   rw [zbg (by omega), zbg (by omega), zal _ _ (by omega)]
 ·by_cases h2 : j < 1 + i * 11 + 11
  ·rw [List.append_assoc, List.getElem?_append_right (by omega), ht, List.getElem?_append_left (by omega), zam v (show j - (1 + i * 11) < 11 by omega)]
   obtain ⟨t, rfl⟩ : ∃ t, j = t + 1 := ⟨j - 1, by omega⟩
   show _ = (kRow 11 (updF vv i v))[t]?
   rw [zbg (by omega), show t / 11 = i by omega, zah, show t % 11 = t + 1 - (1 + i * 11) by omega]
  ·rw [List.getElem?_append_right (by rw [List.length_append]; omega), List.length_append, ht, hv, List.getElem?_drop]
   rw [show 0 + 1 + i * 11 + 11 + (j - (1 + i * 11 + 11)) = j by omega]
   by_cases h3 : j < 122
   ·obtain ⟨t, rfl⟩ : ∃ t, j = t + 1 := ⟨j - 1, by omega⟩
    show (kRow 11 vv)[t]? = (kRow 11 (updF vv i v))[t]?
    rw [zbg (by omega), zbg (by omega), zal _ _ (by omega)]
   ·rw [List.getElem?_eq_none (by omega), List.getElem?_eq_none (by omega)]
section
variable (f : Frag) (F : List HP)
theorem gnew_no {z : Int} (h : ¬ fewZ z) : Fn Tryz.prog 45 [.int .i64 z] f F (Ret (.tuple #[.pointer none, .int .i64 1]) f F) := by
 refine Fn.enter Tryz.func45 rfl Tryz.ntmps45 rfl (L := [(0, _)]) ⟨rfl, trivial⟩ fun base => ?_
 refine gO ?_
 refine H.Ad rfl rfl rfl (lnew_no f _ h) ?_
 refine gc ?_
 exact H.ret2 rfl rfl rfl (fun _ h => h) ⟨rfl, rfl, rfl⟩
theorem gnew_fn {n : Nat} (h : fewZ (n : Int)) : Fn Tryz.prog 45 [.int .i64 (n : Int)] f F (RetE (fun pb : Nat => .tuple #[.pointer (some ⟨pb, 0, none⟩), .int .i64 0]) f (fun pb => row pb 148 (peC n fun _ _ => 0) :: F)) := by
 refine Fn.enter Tryz.func45 rfl Tryz.ntmps45 rfl (L := [(0, _)]) ⟨rfl, trivial⟩ fun base => ?_
 refine gO ?_
 refine H.callE rfl rfl rfl (lnew_fn f _ h) fun lb => ?_
 refine H.Ab (.here _ _) ?_
 repeat (first | (refine H.Bc (t := 148) (out := peC n fun _ _ => 0) rfl rfl rfl (by kernel_rfl) rfl ?_) | ((first | apply H.Aj | apply H.Ap); (iterate 3 exact rfl)) | (first | apply H.seq | apply H.Aq | apply H.nil | apply H.Ao) | ((apply H.cmp); (iterate 5 exact rfl)) | ((apply H.extract); (iterate 4 exact rfl)) | (apply H.Ci; exact rfl) | (apply H.Bk))
 refine H.box (ls := peC n fun _ _ => 0) rfl rfl rfl rfl fun pb => ?_
 refine gf ?_
 exact H.ret2 rfl rfl rfl (fun _ h => h) ⟨pb, rfl, rfl, rfl⟩
theorem one_nil (j : Int) : Fn Tryz.prog 75 [.pointer none, .int .i64 j] f F (Ret (.bool false) f F) := by
 refine Fn.enter Tryz.func75 rfl Tryz.ntmps75 rfl (L := [(0, _), (1, _)]) ⟨rfl, rfl, trivial⟩ fun base => ?_
 refine ga ?_
 exact H.Ac rfl rfl (fun _ h => h) ⟨rfl, rfl, rfl⟩
theorem one18_fn {pb n : Nat} {vv : Nat → Nat → Int} (j : Int) : Fn Tryz.prog 75 [.pointer (some ⟨pb, 0, none⟩), .int .i64 j] f (row pb 148 (peC n vv) :: F) (Ret (.bool (decide (1 ≤ j ∧ j ≤ (n : Int)))) f (row pb 148 (peC n vv) :: F)) := by
 by_cases h1 : 1 ≤ j
 ·by_cases h2 : j ≤ (n : Int)
  ·rw [decide_eq_true ⟨h1, h2⟩]
   refine Fn.enter Tryz.func75 rfl Tryz.ntmps75 rfl (L := [(0, _), (1, _)]) ⟨rfl, rfl, trivial⟩ fun base => ?_
   refine gZ ?_
   refine H.Ac rfl rfl (fun _ h => h) ⟨?_, rfl, rfl⟩
   first | rfl | (rw [decide_eq_true h2])
  ·rw [decide_eq_false (fun h => h2 h.2)]
   refine Fn.enter Tryz.func75 rfl Tryz.ntmps75 rfl (L := [(0, _), (1, _)]) ⟨rfl, rfl, trivial⟩ fun base => ?_
   refine gZ ?_
   refine H.Ac rfl rfl (fun _ h => h) ⟨?_, rfl, rfl⟩
   first | rfl | (rw [decide_eq_false h2])
 ·rw [decide_eq_false (fun h => h1 h.1)]
  refine Fn.enter Tryz.func75 rfl Tryz.ntmps75 rfl (L := [(0, _), (1, _)]) ⟨rfl, rfl, trivial⟩ fun base => ?_
  refine ga ?_
  exact H.Ac rfl rfl (fun _ h => h) ⟨rfl, rfl, rfl⟩
theorem told_nil (j : Int) (v : Nat → Int) : Fn Tryz.prog 46 [.pointer none, .int .i64 j, .agg (v11 v).toArray] f F (Ret (.int .i64 2) f F) := by
 refine Fn.enter Tryz.func46 rfl Tryz.ntmps46 rfl (L := [(0, _), (1, _), (2, _)]) ⟨rfl, rfl, rfl, trivial⟩ fun base => ?_
 refine gC ?_
 refine H.box (ls := v11 v) rfl rfl rfl rfl fun vb => ?_
 refine gQ ?_
 refine H.Ab (.here _ _) ?_
 exact H.Ac rfl rfl (fun _ h => h) ⟨rfl, rfl, rfl⟩
theorem told_no {pb n : Nat} {vv : Nat → Nat → Int} {j : Int} (hj : ¬ (1 ≤ j ∧ j ≤ (n : Int))) (v : Nat → Int) : Fn Tryz.prog 46 [.pointer (some ⟨pb, 0, none⟩), .int .i64 j, .agg (v11 v).toArray] f (row pb 148 (peC n vv) :: F) (Ret (.int .i64 1) f (row pb 148 (peC n vv) :: F)) := by
 have hone := fun G => one18_fn f G (pb := pb) (n := n) (vv := vv) j
 rw [decide_eq_false hj] at hone
 refine Fn.enter Tryz.func46 rfl Tryz.ntmps46 rfl (L := [(0, _), (1, _), (2, _)]) ⟨rfl, rfl, rfl, trivial⟩ fun base => ?_
 refine gC ?_
 refine H.box (ls := v11 v) rfl rfl rfl rfl fun vb => ?_
 refine gQ ?_
 refine H.Aa (x := row pb _ _) (by repeat constructor) ?_
 refine H.Ad rfl rfl rfl (hone _) ?_
 refine gc ?_
 refine H.Ab (x := row vb _ _) (by repeat constructor) ?_
 exact H.Ac rfl rfl (fun _ h => h) ⟨rfl, rfl, rfl⟩
theorem told_fn {pb n i : Nat} {vv : Nat → Nat → Int} (hi : i < n) (hn : n ≤ 11) (v : Nat → Int) : Fn Tryz.prog 46 [.pointer (some ⟨pb, 0, none⟩), .int .i64 ((i + 1 : Nat) : Int), .agg (v11 v).toArray] f (row pb 148 (peC n vv) :: F) (Ret (.int .i64 0) f (row pb 148 (peC n (updF vv i v)) :: F)) := by
 have hone := fun G => one18_fn f G (pb := pb) (n := n) (vv := vv) ((i + 1 : Nat) : Int)
 rw [decide_eq_true (by omega)] at hone
 have hi11 : i < 11 := by omega
 refine Fn.enter Tryz.func46 rfl Tryz.ntmps46 rfl (L := [(0, _), (1, _), (2, _)]) ⟨rfl, rfl, rfl, trivial⟩ fun base => ?_
 refine gC ?_
 refine H.box (ls := v11 v) rfl rfl rfl rfl fun vb => ?_
 refine gQ ?_
 refine H.Aa (x := row pb _ _) (by repeat constructor) ?_
 refine H.Ad rfl rfl rfl (hone _) ?_
 refine ga ?_
 refine H.Bu [0, 1, 2, 3, 4, 5, 6] (by kernel_rfl) (by decide +kernel) (by repeat (first | exact zab | refine zaa ?_ | refine zac ?_ | refine zae ?_)) (S := [_, _]) rfl ?_
 refine HB.Ag [(0, false), (1, false), (2, false), (3, false), (4, false), (5, false), (6, false)] 1 (by kernel_rfl) ?_
 refine gW ?_
 refine HQ.Ah (ls := v11 v) rfl rfl rfl (Rd.ofRow (.there _ (.here _ _ _))) rfl rfl ?_
 refine gW ?_
 refine HQ.Aw (i := i) rfl rfl rfl (by omega) hi11 rfl ?_
 refine HQ.Ae rfl ?_
 refine HB.next [] (by kernel_rfl) (S' := []) rfl ?_
 refine HB.ev1 (i := 7) (by kernel_rfl) rfl ?_
 refine H.Ak (ls := peC n vv) (vs := v11 v) (ls' := peC n (updF vv i v)) rfl rfl rfl (zad rfl) rfl (peC_splice n vv v hi11) (by rw [peC_len]; show 0 + 1 + i * 11 + 11 ≤ 122; omega) (.here _ _ _) ?_
 refine gC ?_
 refine H.on0 rfl ?_
 refine HB.Al (by kernel_rfl) ?_
 refine gf ?_
 refine H.Ab (x := row vb _ _) (by repeat constructor) ?_
 exact H.Ac rfl rfl (fun _ h => h) ⟨rfl, rfl, rfl⟩
theorem lacks_fn {fl : Frag} (hfl : Le fl f) {pb n i lb m : Nat} {vv : Nat → Nat → Int} (hi : i < n) (hn : n ≤ 11) {l : List MV} {most : Int} :
  Fn Tryz.prog 50 [.pointer (some ⟨pb, 0, none⟩), .int .i64 ((i + 1 : Nat) : Int), .pointer (some ⟨lb, 0, none⟩), .int .i64 most] f (loreH fl lb m l :: row pb 148 (peC n vv) :: F) (SinceP f (loreH fl lb m l :: row pb 148 (peC n vv) :: F) (sinceM (vv i) most (l.map MV.m))) := by
 have hone := fun G => one18_fn f G (pb := pb) (n := n) (vv := vv) ((i + 1 : Nat) : Int)
 rw [decide_eq_true (by omega)] at hone
 have hi11 : i < 11 := by omega
 refine Fn.enter Tryz.func50 rfl Tryz.ntmps50 rfl (L := [(0, _), (1, _), (2, _), (3, _)]) ⟨rfl, rfl, rfl, rfl, trivial⟩ fun base => ?_
 refine gO ?_
 refine H.Aa (x := row pb _ _) (by repeat constructor) ?_
 refine H.Ad rfl rfl rfl (hone _) ?_
 refine ga ?_
 refine H.Aw (i := i) rfl rfl rfl (by omega) hi11 rfl ?_
 refine H.Ah (ls := v11 (vv i)) rfl rfl rfl (peC_rd (.here _ _ _) hi11) rfl rfl ?_
 refine gO ?_
 refine H.Aa (x := loreH _ _ _ _) (by repeat constructor) ?_
 refine H.Bo rfl rfl rfl (lsince_fn f _ hfl (v := vv i) (most := most)) fun v f' A' hr => ?_
 obtain ⟨g, p, c, R, rfl, hR, hRg, hd, rfl, rfl⟩ := hr
 refine gf ?_
 exact H.Ac rfl rfl (fun _ h => h) ⟨g, p, c, R, rfl, hR, hRg, hd, rfl, rfl⟩
end
def vecW : Nat → Int
 | 0 => 3
 | 1 => 1
 | _ => 0
def vecO : Nat → Int
 | 0 => 1
 | _ => 0
section
variable (f : Frag) (F : List HP)
theorem of_fn {pb n i : Nat} {vv : Nat → Nat → Int} (hi : i < n) (hn : n ≤ 11) : Fn Tryz.prog 48 [.pointer (some ⟨pb, 0, none⟩), .int .i64 ((i + 1 : Nat) : Int)] f (row pb 148 (peC n vv) :: F) (Ret (.agg (v11 (vv i)).toArray) f (row pb 148 (peC n vv) :: F)) := by
 have hone := fun G => one18_fn f G (pb := pb) (n := n) (vv := vv) ((i + 1 : Nat) : Int)
 rw [decide_eq_true (by omega)] at hone
 have hi11 : i < 11 := by omega
 refine Fn.enter Tryz.func48 rfl Tryz.ntmps48 rfl (L := [(0, _), (1, _)]) ⟨rfl, rfl, trivial⟩ fun base => ?_
 refine gC ?_
 refine H.Au (ls := v11 fun _ => 0) rfl rfl rfl fun ob => ?_
 refine gO ?_
 refine H.Aa (x := row pb _ _) (by repeat constructor) ?_
 refine H.Ad rfl rfl rfl (hone _) ?_
 refine gY ?_
 refine H.Aw (i := i) rfl rfl rfl (by omega) hi11 rfl ?_
 refine H.Ah (ls := v11 (vv i)) rfl rfl rfl (peC_rd (.here _ _ _) hi11) rfl rfl ?_
 refine H.Ak (ls := v11 fun _ => 0) (vs := v11 (vv i)) (ls' := v11 (vv i)) rfl rfl rfl (zad rfl) rfl rfl (Nat.le_refl 11) (.there _ (.here _ _ _)) ?_
 refine gC ?_
 refine H.Ah (ls := v11 (vv i)) rfl rfl rfl (Rd.ofRow (.there _ (.here _ _ _))) rfl rfl ?_
 refine H.Ak (ls := v11 (vv i)) (vs := v11 (vv i)) (ls' := v11 (vv i)) rfl rfl rfl (zad rfl) rfl rfl (Nat.le_refl 11) (.there _ (.here _ _ _)) ?_
 refine gf ?_
 refine H.Aa (x := row ob _ _) (by repeat constructor) ?_
 exact H.Ba (ls := v11 (vv i)) rfl rfl rfl (Rd.ofRow (.here _ _ _)) rfl (fun _ s => s.drop (.here _ _)) ⟨rfl, rfl, rfl⟩
theorem of_nil (j : Int) : Fn Tryz.prog 48 [.pointer none, .int .i64 j] f F (Ret (.agg (v11 fun _ => 0).toArray) f F) := by
 refine Fn.enter Tryz.func48 rfl Tryz.ntmps48 rfl (L := [(0, _), (1, _)]) ⟨rfl, rfl, trivial⟩ fun base => ?_
 refine gC ?_
 refine H.Au (ls := v11 fun _ => 0) rfl rfl rfl fun ob => ?_
 refine gO ?_
 refine H.Ad rfl rfl rfl (one_nil f _ j) ?_
 refine gV ?_
 refine H.Ah (ls := v11 fun _ => 0) rfl rfl rfl (Rd.ofRow (.here _ _ _)) rfl rfl ?_
 refine H.Ak (ls := v11 fun _ => 0) (vs := v11 fun _ => 0) (ls' := v11 fun _ => 0) rfl rfl rfl (zad rfl) rfl rfl (Nat.le_refl 11) (.here _ _ _) ?_
 refine gf ?_
 exact H.Ba (ls := v11 fun _ => 0) rfl rfl rfl (Rd.ofRow (.here _ _ _)) rfl (fun _ s => s.drop (.here _ _)) ⟨rfl, rfl, rfl⟩
theorem of_no {pb n : Nat} {vv : Nat → Nat → Int} {j : Int} (hj : ¬ (1 ≤ j ∧ j ≤ (n : Int))) : Fn Tryz.prog 48 [.pointer (some ⟨pb, 0, none⟩), .int .i64 j] f (row pb 148 (peC n vv) :: F) (Ret (.agg (v11 fun _ => 0).toArray) f (row pb 148 (peC n vv) :: F)) := by
 have hone := fun G => one18_fn f G (pb := pb) (n := n) (vv := vv) j
 rw [decide_eq_false hj] at hone
 refine Fn.enter Tryz.func48 rfl Tryz.ntmps48 rfl (L := [(0, _), (1, _)]) ⟨rfl, rfl, trivial⟩ fun base => ?_
 refine gC ?_
 refine H.Au (ls := v11 fun _ => 0) rfl rfl rfl fun ob => ?_
 refine gO ?_
 refine H.Aa (x := row pb _ _) (by repeat constructor) ?_
 refine H.Ad rfl rfl rfl (hone _) ?_
 refine gV ?_
 refine H.Ah (ls := v11 fun _ => 0) rfl rfl rfl (Rd.ofRow (.there _ (.here _ _ _))) rfl rfl ?_
 refine H.Ak (ls := v11 fun _ => 0) (vs := v11 fun _ => 0) (ls' := v11 fun _ => 0) rfl rfl rfl (zad rfl) rfl rfl (Nat.le_refl 11) (.there _ (.here _ _ _)) ?_
 refine gf ?_
 refine H.Aa (x := row ob _ _) (by repeat constructor) ?_
 exact H.Ba (ls := v11 fun _ => 0) rfl rfl rfl (Rd.ofRow (.here _ _ _)) rfl (fun _ s => s.drop (.here _ _)) ⟨rfl, rfl, rfl⟩
theorem works18_fn : Fn Tryz.prog 43 [] f F (Ret (.bool true) f F) := by
 have h3 : fewZ ((3 : Nat) : Int) := by decide
 have h13 : ¬ fewZ (13 : Int) := by decide
 have g1 := fun (F : List HP) (pb : Nat) (vv : Nat → Nat → Int) (v : Nat → Int) => (told_fn f F (pb := pb) (vv := vv) (n := 3) (i := 1) (by decide) (by decide) v : Fn Tryz.prog _ [_, .int .i64 2, _] _ _ _)
 have g2 := fun (F : List HP) (pb : Nat) (vv : Nat → Nat → Int) (v : Nat → Int) => (told_no f F (pb := pb) (vv := vv) (n := 3) (j := 4) (by decide) v : Fn Tryz.prog _ [_, .int .i64 4, _] _ _ _)
 have g3 := fun (F : List HP) (pb : Nat) (vv : Nat → Nat → Int) => (of_fn f F (pb := pb) (vv := vv) (n := 3) (i := 1) (by decide) (by decide) : Fn Tryz.prog _ [_, .int .i64 2] _ _ _)
 have g4 := fun (F : List HP) (pb : Nat) (vv : Nat → Nat → Int) => (of_no f F (pb := pb) (vv := vv) (n := 3) (j := 4) (by decide) : Fn Tryz.prog _ [_, .int .i64 4] _ _ _)
 refine Fn.enter Tryz.func43 rfl Tryz.ntmps43 rfl (L := []) trivial fun base => ?_
 refine gO ?_
 refine H.callE rfl rfl rfl (gnew_fn f _ (n := 3) h3) fun pb => ?_
 refine gc ?_
 refine H.Ad rfl rfl rfl (gnew_no f _ h13) ?_
 repeat (first | (refine H.buildA (t := 37) (out := v11 vecW) rfl rfl rfl (by kernel_rfl) rfl ?_) | ((first | apply H.Aj | apply H.Ap); (iterate 3 exact rfl)) | (first | apply H.seq | apply H.Aq | apply H.nil | apply H.Ao) | ((apply H.cmp); (iterate 5 exact rfl)) | ((first | apply H.Bf | apply H.extract); (iterate 4 exact rfl)) | ((apply H.ptrNil); (iterate 5 exact rfl)) | (apply H.Ci; exact rfl) | (apply H.Bk))
 refine H.Aa (x := row pb _ _) (by repeat constructor) ?_
 refine H.Ad rfl rfl rfl (g1 _ pb _ vecW) ?_
 repeat (first | (refine H.buildA (t := 37) (out := v11 vecO) rfl rfl rfl (by kernel_rfl) rfl ?_) | ((first | apply H.Aj | apply H.Ap); (iterate 3 exact rfl)) | (first | apply H.seq | apply H.Aq | apply H.nil | apply H.Ao))
 refine H.Ad rfl rfl rfl (g1 _ pb _ vecO) ?_
 repeat (first | (refine H.buildA (t := 37) (out := v11 fun _ => 0) rfl rfl rfl (by kernel_rfl) rfl ?_) | ((first | apply H.Aj | apply H.Ap); (iterate 3 exact rfl)) | (first | apply H.seq | apply H.Aq | apply H.nil | apply H.Ao))
 refine H.Ad rfl rfl rfl (g2 _ pb _ (fun _ => 0)) ?_
 refine gM ?_
 refine H.Ad rfl rfl rfl (g3 _ pb _) ?_
 refine H.buildA (t := 37) (out := v11 vecO) rfl rfl rfl (by kernel_rfl) rfl ?_
 refine H.aggEq (xs := v11 vecO) (ys := v11 vecO) (D := 4) rfl rfl rfl rfl (by kernel_rfl) (by kernel_rfl) (by kernel_rfl) (by kernel_rfl) (by decide) (zbi rfl) rfl ?_
 refine gT ?_
 refine H.Ad rfl rfl rfl (g4 _ pb _) ?_
 refine H.buildA (t := 37) (out := v11 fun _ => 0) rfl rfl rfl (by kernel_rfl) rfl ?_
 refine H.aggEq (xs := v11 fun _ => 0) (ys := v11 fun _ => 0) (D := 4) rfl rfl rfl rfl (by kernel_rfl) (by kernel_rfl) (by kernel_rfl) (by kernel_rfl) (by decide) (zbi rfl) rfl ?_
 refine gT ?_
 refine H.Ab (.here _ _) ?_
 exact H.Ac rfl rfl (fun _ h => h) ⟨rfl, rfl, rfl⟩
end
section
variable (f : Frag) (F : List HP)
set_option maxHeartbeats 1600000 in
theorem rcheck_fn {i n : Int} {r : Option Addr} {d : Nat} {b : List UInt8} {t : Nat → UInt8} (h1 : 1 ≤ i) (h2 : i ≤ 11) (h3 : 1 ≤ n) (h4 : n ≤ 65536) (hs : ∀ G, Src Tryz.prog f (G ++ F) (.slice r b.length d) 1 b.length (bytesV b)) (hl : b.length ≤ 1024) :
  Fn Tryz.prog 60 [.int .i64 i, .int .u64 n, .slice r b.length d, .agg (b32 t).toArray] f F (Ret (.bool (eq32 t (Sha.numbered i n b))) f F) := by
 refine Fn.enter Tryz.func60 rfl Tryz.ntmps60 rfl (L := [(0, _), (1, _), (2, _), (3, _)]) ⟨rfl, rfl, rfl, rfl, trivial⟩ fun base => ?_
 refine gC ?_
 refine H.box (ls := b32 t) rfl rfl rfl rfl fun tb => ?_
 refine gO ?_
 refine H.Az (by kernel_rfl) (by decide +kernel) (by repeat (first | exact zab | refine zaa ?_ | refine zac ?_ | refine zae ?_)) (S := [_]) rfl ?_
 refine HB.Ag [(0, false), (1, false), (2, false), (3, false), (4, false), (5, false), (6, false), (7, false), (8, false), (9, false), (10, false), (11, false), (12, false), (13, false), (14, false), (15, false), (16, false), (17, false), (18, false), (19, false), (20, false), (21, false), (22, false), (23, false)] 4 (by kernel_rfl) ?_
 repeat (first | (refine HQ.Ah (ls := b32 t) rfl rfl rfl (Rd.ofRow (by repeat constructor)) rfl rfl ?_) | ((first | apply HQ.Aj | apply HQ.Bm); (iterate 3 exact rfl)) | ((apply HQ.cmp); (iterate 5 exact rfl)) | (apply HQ.Bh; (iterate 4 exact rfl)) | (apply HQ.Bl; (iterate 3 exact rfl); (first | assumption | omega)))
 refine HQ.Ae rfl ?_
 refine HB.ev1 (i := 24) (by kernel_rfl) rfl ?_
 skip
 refine H.Ad rfl rfl rfl (rnumbered_fn f _ h1 h2 (fun G => (hs (G ++ [_])).assoc) (by omega)) ?_
 generalize Sha.numbered i n b = u
 refine gC ?_
 refine H.on0 rfl ?_
 refine HB.Ag [(25, false), (26, false), (27, false)] 0 (by kernel_rfl) ?_
 repeat (first | (refine HQ.aggEq (xs := b32 t) (ys := b32 u) (D := 4) rfl rfl rfl rfl (by kernel_rfl) (by kernel_rfl) (by kernel_rfl) (by kernel_rfl) (by decide) (show eqC (b32 t) (b32 u) = eq32 t u from rfl) rfl ?_) | ((apply HQ.Ap); (iterate 3 exact rfl)) | (apply HQ.Bh; (iterate 4 exact rfl)))
 refine HQ.Ae rfl ?_
 refine HB.Al (by kernel_rfl) ?_
 refine gf ?_
 refine H.Ab (x := row tb _ _) (by repeat constructor) ?_
 exact H.Ac rfl rfl (fun _ h => h) ⟨rfl, rfl, rfl⟩
set_option maxHeartbeats 1600000 in
theorem rmright_fn {x : MV} (hx : x.Good f) : Fn Tryz.prog 24 [.agg x.vals.toArray] f F (Ret (.bool x.m.right) f F) := by
 have hmay := fun G => rmmay_fn f G hx
 unfold Msg.right
 by_cases hm : x.m.may = true
 ·rw [hm] at hmay ⊢
  rw [Bool.true_and]
  have htg := fun G => rbytes_fn (m := x.m) (qc := x.qc) f G hx.1 (by have := hx.2.1; omega)
  unfold Msg.bytes at htg
  rw [if_pos hm] at htg
  have htl := Msg.tagged_max hm
  have hou := Msg.may_outer hm
  generalize x.m.tagged = tg at htg htl ⊢
  obtain ⟨o1, o2, o3, o4, _⟩ := hou
  refine Fn.enter Tryz.func24 rfl Tryz.ntmps24 rfl (L := [(0, _)]) ⟨rfl, trivial⟩ fun base => ?_
  refine gC ?_
  refine H.box (ls := x.vals) rfl rfl rfl rfl fun mb => ?_
  refine gO ?_
  refine H.Az (by kernel_rfl) (by decide +kernel) (by repeat (first | exact zab | refine zaa ?_ | refine zac ?_ | refine zae ?_)) (S := [_]) rfl ?_
  refine HB.Ag [(0, false)] 13 (by kernel_rfl) ?_
  repeat ((refine HQ.Ah (ls := x.vals) rfl rfl rfl (Rd.ofRow (by repeat constructor)) rfl rfl ?_))
  refine HQ.Ae rfl ?_
  refine HB.ev1 (i := 1) (by kernel_rfl) rfl ?_
  refine H.Ad rfl rfl rfl (hmay _) ?_
  refine gC ?_
  refine H.on0 rfl ?_
  refine HB.Ag [(2, false), (3, false), (4, false), (5, false), (6, false), (7, false), (9, false), (10, false)] 4 (by kernel_rfl) ?_
  repeat (first | (refine HQ.Ah (ls := x.vals) rfl rfl rfl (Rd.ofRow (by repeat constructor)) rfl rfl ?_) | (refine HQ.Ah (ls := b32 x.m.tag) rfl rfl rfl (msg_tag (m := x.m) (q := x.qp) (qc := x.qc) (by repeat constructor)) rfl rfl ?_) | ((apply HQ.Aj); (iterate 3 exact rfl)) | (apply HQ.Av; (iterate 3 exact rfl); exact inferInstance; exact rfl) | (apply HQ.Af; (iterate 3 exact rfl); apply Rd1.ofRow; (repeat (exact .here _ _ _)); (iterate 2 exact rfl)))
  refine HQ.Ae rfl ?_
  refine HB.ev1 (i := 8) (by kernel_rfl) rfl ?_
  skip
  refine H.Ay rfl rfl rfl (htg _) fun p1 c1 => ?_
  refine gC ?_
  refine H.Aa (x := row mb _ _) (by repeat constructor) ?_
  refine H.on0 rfl ?_
  refine HB.ev1 (i := 11) (by kernel_rfl) rfl ?_
  skip
  refine H.Ad rfl rfl rfl (rcheck_fn f _ o1 o2 o3 o4 (fun G => Src.append (Src.slcS (by repeat constructor) (by rw [zaf]; exact (Nat.mul_one _).symm))) htl) ?_
  refine gC ?_
  refine H.on0 rfl ?_
  refine HB.Ag [(12, false), (13, false)] 0 (by kernel_rfl) ?_
  refine gN ?_
  refine HQ.Ae rfl ?_
  refine HB.Al (by kernel_rfl) ?_
  refine gf ?_
  refine H.Ab (x := row mb _ _) (by repeat constructor) ?_
  refine H.Ab (x := slc p1 _ _ _ _ _) (by repeat constructor) ?_
  exact H.Ac rfl rfl (fun _ h => h) ⟨rfl, rfl, rfl⟩
 ·rw [Bool.eq_false_iff.2 hm] at hmay ⊢
  rw [Bool.false_and]
  refine Fn.enter Tryz.func24 rfl Tryz.ntmps24 rfl (L := [(0, _)]) ⟨rfl, trivial⟩ fun base => ?_
  refine gC ?_
  refine H.box (ls := x.vals) rfl rfl rfl rfl fun mb => ?_
  refine gO ?_
  refine H.Az (by kernel_rfl) (by decide +kernel) (by repeat (first | exact zab | refine zaa ?_ | refine zac ?_ | refine zae ?_)) (S := [_]) rfl ?_
  refine HB.Ag [(0, false)] 13 (by kernel_rfl) ?_
  repeat ((refine HQ.Ah (ls := x.vals) rfl rfl rfl (Rd.ofRow (by repeat constructor)) rfl rfl ?_))
  refine HQ.Ae rfl ?_
  refine HB.ev1 (i := 1) (by kernel_rfl) rfl ?_
  refine H.Ad rfl rfl rfl (hmay _) ?_
  refine gC ?_
  refine H.on0 rfl ?_
  refine HB.Ag [(2, false), (3, false), (4, false), (5, false), (6, false), (7, false), (9, false), (10, false)] 4 (by kernel_rfl) ?_
  refine gN ?_
  refine HQ.Ae rfl ?_
  refine HB.ev1 (i := 8) (by kernel_rfl) rfl ?_
  refine gF ?_
  refine H.on0 rfl ?_
  refine HB.ev1 (i := 11) (by kernel_rfl) rfl ?_
  refine gF ?_
  refine H.on0 rfl ?_
  refine HB.Ag [(12, false), (13, false)] 0 (by kernel_rfl) ?_
  refine gN ?_
  refine HQ.Ae rfl ?_
  refine HB.Al (by kernel_rfl) ?_
  refine gf ?_
  refine H.Ab (x := row mb _ _) (by repeat constructor) ?_
  exact H.Ac rfl rfl (fun _ h => h) ⟨rfl, rfl, rfl⟩
end
def refC (n : Nat) (p : Option Addr) (m c : Nat) (v : Nat → Int) : List Value := [.int .i64 (n : Int), .slice p m c] ++ v11 v
def refφ (f : Frag) (n : Nat) (l : List MV) : Prop := (∀ x ∈ l, x.Good f) ∧ l.length ≤ 100000 ∧ LOK n (l.map MV.m) ∧ n ≤ 11
def refL (f : Frag) (rb n : Nat) (l : List MV) : HP := pack (fun _ : Option Addr × Nat => refφ f n l) (fun i => [row rb 63 (refC n i.1 l.length i.2 (knownS (strm (l.map MV.m)))), slc i.1 l.length i.2 47 121 (l.flatMap MV.vals)])
theorem zbb {fl : Frag} {F : List HP} {rb n : Nat} {l : List MV} (i : Option Addr × Nat) (h : refφ fl n l) : ∀ x, stars (row rb 63 (refC n i.1 l.length i.2 (knownS (strm (l.map MV.m)))) :: slc i.1 l.length i.2 47 121 (l.flatMap MV.vals) :: F) x → stars (refL fl rb n l :: F) x := fun x hx =>
 pack_fold (ι := Option Addr × Nat) (φ := fun _ => refφ fl n l) (B := fun i => [row rb 63 (refC n i.1 l.length i.2 (knownS (strm (l.map MV.m)))), slc i.1 l.length i.2 47 121 (l.flatMap MV.vals)]) i h x hx
theorem refL_mono {f g : Frag} (h : Le f g) {rb n : Nat} {l : List MV} : ∀ x, refL f rb n l x → refL g rb n l x := fun _ ⟨i, hi, hx⟩ => ⟨i, ⟨fun x hx => (hi.1 x hx).mono h, hi.2⟩, hx⟩
theorem ref_up {f g : Frag} (h : Le f g) {rb n : Nat} {l : List MV} {A : List HP} : ∀ x, stars (refL f rb n l :: A) x → stars (refL g rb n l :: A) x :=
 fun _ ⟨h1, h2, hd, he, ha, hr⟩ => ⟨h1, h2, hd, he, refL_mono h _ ha, hr⟩
theorem refC_deps {f : Frag} {A A' : List HP} {rb n : Nat} {T : TypeId} {p : Option Addr} {m c : Nat} {v : Nat → Int} (h : At A (row rb T (refC n p m c v)) A' (row rb T (refC n p m c v))) : Rd f A rb (0 + 2) (v11 v) := by
 have h1 := Rd.ofRow (f := f) h
 have e : refC n p m c v = [.int .i64 (n : Int), .slice p m c] ++ v11 v ++ [] := by unfold refC; rw [List.append_nil]
 rw [e] at h1
 exact h1.sub rfl
theorem getM_at {l : List Msg} {i : Nat} {y : Msg} {o z : Int} (hy : l[i]? = some y) (h1 : y.origin = o) (h2 : y.number = z) (hb : ∀ j x, j < i → l[j]? = some x → ¬ (x.origin = o ∧ x.number = z)) : getM l o z = (y, true) := by
 have hf : findM l o z = some y := by
  unfold findM
  have e := take_cons_drop hy
  rw [e, List.find?_append]
  have h0 : (l.take i).find? (fun x => decide (x.origin = o) && decide (x.number = z)) = none := by
   rw [List.find?_eq_none]
   intro x hx hp
   obtain ⟨j, hj⟩ := List.getElem?_of_mem hx
   rw [List.getElem?_take] at hj
   split at hj
   ·rename_i hlt
    simp only [Bool.and_eq_true, decide_eq_true_eq] at hp
    exact hb j x hlt hj hp
   ·cases hj
  rw [h0, List.find?_cons, h1, h2]
  simp
 unfold getM
 rw [hf]
theorem getM_none {l : List Msg} {o z : Int} (hb : ∀ j x, j < l.length → l[j]? = some x → ¬ (x.origin = o ∧ x.number = z)) : getM l o z = (msgZ, false) := by
 have hf : findM l o z = none := by
  unfold findM
  rw [List.find?_eq_none]
  intro x hx hp
  obtain ⟨j, hj⟩ := List.getElem?_of_mem hx
  simp only [Bool.and_eq_true, decide_eq_true_eq] at hp
  have hjl : j < l.length := by
   rcases Nat.lt_or_ge j l.length with h | h
   ·exact h
   ·rw [List.getElem?_eq_none h] at hj; cases hj
  exact hb j x hjl hj hp
 unfold getM
 rw [hf]
def RGetP (f : Frag) (A : List HP) (r : Msg × Bool) : Value → Frag → List HP → Prop := fun v f' A' => ∃ y : MV, v = .tuple #[.agg y.vals.toArray, .bool r.2] ∧ y.m = r.1 ∧ y.Good f ∧ f' = f ∧ A' = A
section
variable (f : Frag) (F : List HP)
theorem rlnew_fn {n : Nat} (h : fewZ (n : Int)) : Fn Tryz.prog 26 [.int .i64 (n : Int)] f F (RetE (fun rb : Nat => .tuple #[.pointer (some ⟨rb, 0, none⟩), .int .i64 0]) f (fun rb => refL f rb n [] :: F)) := by
 obtain ⟨h1, h2, h3⟩ := h
 have hn : n ≤ 11 := by omega
 refine Fn.enter Tryz.func26 rfl Tryz.ntmps26 rfl (L := [(0, _)]) ⟨rfl, trivial⟩ fun base => ?_
 repeat (first | (refine H.rem (z := 1) rfl rfl rfl (by decide) h3 rfl ?_) | (refine H.Bc (t := 63) (out := refC n none 0 0 (fun _ => 0)) rfl rfl rfl (by kernel_rfl) rfl ?_) | ((first | apply H.Aj | apply H.Ap); (iterate 3 exact rfl)) | (first | apply H.seq | apply H.Aq | apply H.nil | apply H.Ao) | ((apply H.cmp); (iterate 5 exact rfl)) | ((apply H.Bf); (iterate 4 exact rfl)) | (apply H.Ci; exact rfl) | (apply H.Bk) | (apply H.gno; (iterate 3 exact rfl); (omega)))
 refine H.box (ls := refC n none 0 0 (fun _ => 0)) rfl rfl rfl rfl fun rb => ?_
 refine gf ?_
 refine H.slc0 47 121 ?_
 refine H.Aa (x := row rb _ _) (by repeat constructor) ?_
 refine H.imp (zbb (l := []) (fl := f) (none, 0) ⟨fun x hx => (by cases hx), Nat.zero_le _, LOK.nil n, hn⟩) ?_
 exact H.ret2 rfl rfl rfl (fun _ h => h) ⟨rb, rfl, rfl, rfl⟩
set_option maxRecDepth 20000 in
set_option maxHeartbeats 1600000 in
theorem rlget_fn {fl : Frag} (hfl : Le fl f) {rb n : Nat} {l : List MV} {og z : Int} :
  Fn Tryz.prog 29 [.pointer (some ⟨rb, 0, none⟩), .int .i64 og, .int .u64 z] f (refL fl rb n l :: F) (RGetP f (refL fl rb n l :: F) (getM (l.map MV.m) og z)) := by
 refine Fn.unpack fun i0 hi0 => ?_
 obtain ⟨p, c⟩ := i0
 have hll := hi0.2.1
 refine Fn.enter Tryz.func29 rfl Tryz.ntmps29 rfl (L := [(0, _), (1, _), (2, _)]) ⟨rfl, rfl, rfl, trivial⟩ fun base => ?_
 refine gC ?_
 refine H.Au (ls := msgZ.vals none 0) rfl rfl rfl fun ob => ?_
 refine gf ?_
 refine H.Ax (ι := Nat) (fun i => [(8, .int .i64 (i : Int)), (0, .pointer (some ⟨rb, 0, none⟩)), (1, .int .i64 og), (2, .int .u64 z), (6, .pointer (some ⟨ob, 0, none⟩))]) (fun _ => f)
  (fun _ => row ob 47 (msgZ.vals none 0) :: row rb 63 (refC n p l.length c (knownS (strm (l.map MV.m)))) :: slc p l.length c 47 121 (l.flatMap MV.vals) :: F)
  (fun i => i ≤ l.length ∧ ∀ j x, j < i → l[j]? = some x → ¬ (x.m.origin = og ∧ x.m.number = z)) (fun i => l.length - i) 0 ⟨Nat.zero_le _, fun j x hj => by omega⟩ ⟨rfl, rfl, rfl, rfl, rfl, trivial⟩ rfl rfl fun i hi => ?_
 obtain ⟨hi, hb⟩ : i ≤ l.length ∧ ∀ j x, j < i → l[j]? = some x → ¬ (x.m.origin = og ∧ x.m.number = z) := hi
 have hbm : ∀ j x, j < i → (l.map MV.m)[j]? = some x → ¬ (x.origin = og ∧ x.number = z) := fun j x hj hx => by
  rw [List.getElem?_map] at hx
  cases hl : l[j]? with
  | none => rw [hl] at hx; cases hx
  | some y => rw [hl] at hx; cases hx; exact hb j y hj hl
 by_cases hlt : i < l.length
 ·obtain ⟨y, hy⟩ : ∃ y, l[i]? = some y := ⟨_, List.getElem?_eq_getElem hlt⟩
  have hyg := (hi0.1 y (List.mem_of_getElem? hy)).mono hfl
  refine H.Aa (x := slc p _ c _ _ _) (by repeat constructor) ?_
  refine H.Bq (p := p) (n0 := l.length) (c := c) (.here _ _ _) (by omega) fun sb hp => ?_
  subst hp
  have rd : ∀ {G}, Rd f (slc (some ⟨sb, 0, none⟩) l.length c 47 121 (l.flatMap MV.vals) :: G) sb (0 + i * 121) y.vals := fun {G} => by rw [Nat.zero_add]; exact Rd.slcElem MV.len (by decide) (.here _ _ _) hy
  refine gR ?_
  refine H.Ar (i := i) rfl rfl rfl rfl hlt rfl ?_
  refine gP ?_
  refine H.Af rfl rfl rfl (Rd1.of (i := 0) rd rfl) rfl ?_
  by_cases h1 : y.m.origin = og
  ·refine gM ?_
   refine H.Ar (i := i) rfl rfl rfl rfl hlt rfl ?_
   refine gP ?_
   refine H.Af rfl rfl rfl (Rd1.of (i := 1) rd rfl) rfl ?_
   by_cases h2 : y.m.number = z
   ·refine gU ?_
    refine H.Ar (i := i) rfl rfl rfl rfl hlt rfl ?_
    refine H.Ah (ls := y.vals) rfl rfl rfl rd rfl rfl ?_
    refine H.Ak (ls := msgZ.vals none 0) (vs := y.vals) (ls' := y.vals) rfl rfl rfl (zad rfl) rfl rfl (Nat.le_refl 121) (.there _ (.here _ _ _)) ?_
    refine gf ?_
    refine H.Aa (x := row rb _ _) (by repeat constructor) ?_
    refine H.Aa (x := row ob _ _) (by repeat constructor) ?_
    have hget : getM (l.map MV.m) og z = (y.m, true) := getM_at (i := i) (by rw [List.getElem?_map, hy]; rfl) h1 h2 hbm
    rw [hget]
    exact H.retCT (ls := y.vals) rfl rfl rfl rfl (Rd.ofRow (.here _ _ _)) rfl (fun _ s => (s.drop (.here _ _)).imp (zbb (some ⟨sb, 0, none⟩, c) hi0)) ⟨y, rfl, rfl, hyg, rfl, rfl⟩
   ·refine gT ?_
    refine H.Aa (x := row rb _ _) (by repeat constructor) ?_
    refine H.Aa (x := row ob _ _) (by repeat constructor) ?_
    refine H.Am (i + 1) ⟨by show i + 1 ≤ l.length; omega, fun j x hj hx => ?_⟩ (by show l.length - (i + 1) < l.length - i; omega) ⟨rfl, rfl, rfl, rfl, rfl, trivial⟩ rfl rfl
    by_cases e : j = i
    ·subst e; rw [hy] at hx; cases hx; exact fun h => h2 h.2
    ·exact hb j x (by omega) hx
  ·refine ga ?_
   refine H.Aa (x := row rb _ _) (by repeat constructor) ?_
   refine H.Aa (x := row ob _ _) (by repeat constructor) ?_
   refine H.Am (i + 1) ⟨by show i + 1 ≤ l.length; omega, fun j x hj hx => ?_⟩ (by show l.length - (i + 1) < l.length - i; omega) ⟨rfl, rfl, rfl, rfl, rfl, trivial⟩ rfl rfl
   by_cases e : j = i
   ·subst e; rw [hy] at hx; cases hx; exact fun h => h1 h.1
   ·exact hb j x (by omega) hx
 ·have e : i = l.length := by omega
  subst e
  have hget : getM (l.map MV.m) og z = (msgZ, false) := getM_none fun j x hj hx => hbm j x (by rw [List.length_map] at hj; exact hj) hx
  rw [hget]
  repeat (first | (refine H.Bc (t := 47) (out := msgZ.vals none 0) rfl rfl rfl (by kernel_rfl) rfl ?_) | ((first | apply H.Aj | apply H.Be | apply H.Bm); (iterate 3 exact rfl)) | (apply H.Av; (iterate 3 exact rfl); exact inferInstance; exact rfl) | (apply H.Af; (iterate 3 exact rfl); apply Rd1.ofRow; (repeat (first | exact .here _ _ _ | apply At.there)); (iterate 2 exact rfl)) | (first | apply H.seq | apply H.Aq | apply H.nil | apply H.Ao) | ((apply H.cmp); (iterate 5 exact rfl)) | (first | apply H.Cb | apply H.exit | apply H.By | apply H.Cc) | (apply H.Bv; exact rfl; (omega)))
  refine H.Ak (ls := msgZ.vals none 0) (vs := msgZ.vals none 0) (ls' := msgZ.vals none 0) rfl rfl rfl (zad rfl) rfl rfl (Nat.le_refl 121) (.here _ _ _) ?_
  refine gf ?_
  exact H.retCT (ls := msgZ.vals none 0) rfl rfl rfl rfl (Rd.ofRow (.here _ _ _)) rfl (fun _ s => (s.drop (.here _ _)).imp (zbb (p, c) hi0)) ⟨⟨msgZ, none, 0⟩, rfl, rfl, msgZ_good _, rfl, rfl⟩
end
def Pos (m : Msg) : Prop := ∀ i, i < 11 → 0 ≤ m.deps i
theorem fitsB_no1 {n : Nat} {m : Msg} {i : Nat} {p : Int × Int} (hp : m.body.q[i]? = some p) (h : (n : Int) < p.1) : fitsB n m = false := by
 unfold fitsB
 have : m.body.q.all (fun p => decide (p.1 ≤ (n : Int))) = false := List.all_eq_false.2 ⟨p, List.mem_of_getElem? hp, by rw [decide_eq_false (by omega)]; decide⟩
 rw [this]; simp
theorem fitsB_no2 {n : Nat} {m : Msg} {i : Nat} (hi : i < 11) (hn : n ≤ i) (h : ¬ m.deps i = 0) (hp : Pos m) : fitsB n m = false := by
 unfold fitsB
 have h0 := hp i hi
 have : (List.range 11).all (fun i => decide (i < n) || decide (m.deps i ≤ 0)) = false := List.all_eq_false.2 ⟨i, List.mem_range.2 hi, by rw [decide_eq_false (by omega), decide_eq_false (by omega)]; decide⟩
 rw [this]; simp
theorem fitsB_yes {n : Nat} {m : Msg} (h1 : m.may = true) (h2 : m.origin ≤ (n : Int)) (h3 : ∀ (j : Nat) x, j < m.body.q.length → m.body.q[j]? = some x → x.1 ≤ (n : Int)) (h4 : ∀ j : Nat, n ≤ j → j < 11 → m.deps j = 0) : fitsB n m = true := by
 unfold fitsB
 rw [h1, decide_eq_true h2]
 simp only [Bool.true_and, Bool.and_eq_true]
 constructor
 ·rw [List.all_eq_true]
  intro x hx
  obtain ⟨j, hj⟩ := List.getElem?_of_mem hx
  have hjl : j < m.body.q.length := by
   rcases Nat.lt_or_ge j m.body.q.length with h | h
   ·exact h
   ·rw [List.getElem?_eq_none h] at hj; cases hj
  exact decide_eq_true (h3 j x hjl hj)
 ·rw [List.all_eq_true]
  intro j hj
  have hj := List.mem_range.1 hj
  rw [Bool.or_eq_true, decide_eq_true_eq, decide_eq_true_eq]
  by_cases h : j < n
  ·exact .inl h
  ·exact .inr (by rw [h4 j (by omega) hj]; exact Int.le_refl _)
section
variable (f : Frag) (F : List HP)
set_option maxHeartbeats 1600000 in
theorem rform_fn {rb n : Nat} {p : Option Addr} {m c : Nat} {v : Nat → Int} (hn : n ≤ 11) {x : MV} (hx : x.Good f) (hpos : Pos x.m) : Fn Tryz.prog 87 [.pointer (some ⟨rb, 0, none⟩), .agg x.vals.toArray] f (row rb 63 (refC n p m c v) :: F)
  (Ret (.bool (fitsB n x.m)) f (row rb 63 (refC n p m c v) :: F)) := by
 have hq : x.m.body.q.length ≤ 1000000000 := by have := hx.2.1; omega
 have hmay : ∀ G, Fn Tryz.prog 54 [.agg x.vals.toArray] f G (Ret (.bool x.m.may) f G) := fun G => rmay_fn f G hx.1 hq
 by_cases hm : x.m.may = true
 ·rw [hm] at hmay
  by_cases ho : x.m.origin ≤ (n : Int)
  ·skip
   refine Fn.enter Tryz.func87 rfl Tryz.ntmps87 rfl (L := [(0, _), (1, _)]) ⟨rfl, rfl, trivial⟩ fun base => ?_
   refine gC ?_
   refine H.box (ls := x.vals) rfl rfl rfl rfl fun mb => ?_
   refine gO ?_
   refine H.Az (by kernel_rfl) (by decide +kernel) (by repeat (first | exact zab | refine zaa ?_ | refine zac ?_ | refine zae ?_)) (S := [_, _]) rfl ?_
   refine HB.Ag [(0, false)] 11 (by kernel_rfl) ?_
   refine HQ.Ah (ls := x.vals) rfl rfl rfl (Rd.ofRow (.here _ _ _)) rfl rfl ?_
   refine HQ.Ae rfl ?_
   refine HB.ev1 (i := 1) (by kernel_rfl) rfl ?_
   refine H.Ad rfl rfl rfl (hmay _) ?_
   refine gC ?_
   refine H.on0 rfl ?_
   refine HB.Ag [(2, false), (3, false), (4, false), (5, false), (6, false), (7, false), (8, false), (9, false), (10, false), (11, false)] 0 (by kernel_rfl) ?_
   refine ge ?_
   refine HQ.Ae rfl ?_
   refine HB.Al (by kernel_rfl) ?_
   refine gT ?_
   refine H.Ax (ι := Nat) (fun i => [(5, .int .i64 (i : Int)), (0, .pointer (some ⟨rb, 0, none⟩)), (3, .pointer (some ⟨mb, 0, none⟩))]) (fun _ => f) (fun _ => row mb 47 x.vals :: row rb 63 (refC n p m c v) :: F)
    (fun i => i ≤ x.m.body.q.length ∧ ∀ (j : Nat) y, j < i → x.m.body.q[j]? = some y → y.1 ≤ (n : Int)) (fun i => x.m.body.q.length - i) 0 ⟨Nat.zero_le _, fun j y hj => by omega⟩ ⟨rfl, rfl, rfl, trivial⟩ rfl rfl fun i hi => ?_
   obtain ⟨hi, hb⟩ : i ≤ x.m.body.q.length ∧ ∀ (j : Nat) y, j < i → x.m.body.q[j]? = some y → y.1 ≤ (n : Int) := hi
   by_cases hlt : i < x.m.body.q.length
   ·obtain ⟨y, hy⟩ : ∃ y, x.m.body.q[i]? = some y := ⟨_, List.getElem?_eq_getElem hlt⟩
    obtain ⟨b, off, cs, T, fr, hqp, hfb, hcs⟩ := hx.1 i y hy
    have rd : ∀ A, Rd f A b (off + i * 2) (pairV y) := fun A => Rd.imm hfb hcs
    have hxv : x.vals = x.m.vals (some ⟨b, off, none⟩) x.qc := by unfold MV.vals; rw [hqp]
    rw [hxv]
    by_cases hyn : y.1 ≤ (n : Int)
    ·refine gR ?_
     refine H.Bg (by kernel_rfl) (by decide +kernel) (by repeat (first | exact zab | refine zaa ?_ | refine zac ?_ | refine zae ?_)) ?_
     refine gW ?_
     refine HQ.Ar (i := i) rfl rfl rfl rfl hlt rfl ?_
     refine gE ?_
     refine HQ.Af rfl rfl rfl (Rd1.of (i := 0) (rd _) rfl) rfl ?_
     refine ge ?_
     refine gT ?_
     refine H.Am (i + 1) ⟨by show i + 1 ≤ x.m.body.q.length; omega, fun j z hj hz => ?_⟩ (by show x.m.body.q.length - (i + 1) < x.m.body.q.length - i; omega) ⟨rfl, rfl, rfl, trivial⟩ rfl rfl
     by_cases e : j = i
     ·subst e; rw [hy] at hz; cases hz; exact hyn
     ·exact hb j z (by omega) hz
    ·rw [fitsB_no1 hy (by omega)]
     refine gR ?_
     refine H.Bg (by kernel_rfl) (by decide +kernel) (by repeat (first | exact zab | refine zaa ?_ | refine zac ?_ | refine zae ?_)) ?_
     refine gW ?_
     refine HQ.Ar (i := i) rfl rfl rfl rfl hlt rfl ?_
     refine gE ?_
     refine HQ.Af rfl rfl rfl (Rd1.of (i := 0) (rd _) rfl) rfl ?_
     refine ge ?_
     refine gL ?_
     refine H.Ab (.here _ _) ?_
     exact H.Ac rfl rfl (fun _ h => h) ⟨rfl, rfl, rfl⟩
   ·have e : i = x.m.body.q.length := by omega
    subst e
    refine gR ?_
    refine H.Ax (ι := Nat) (fun i => [(6, .int .i64 (i : Int)), (0, .pointer (some ⟨rb, 0, none⟩)), (3, .pointer (some ⟨mb, 0, none⟩))]) (fun _ => f) (fun _ => row mb 47 x.vals :: row rb 63 (refC n p m c v) :: F)
     (fun i => n ≤ i ∧ i ≤ 11 ∧ ∀ j : Nat, n ≤ j → j < i → x.m.deps j = 0) (fun i => 11 - i) n ⟨Nat.le_refl _, hn, fun j h1 h2 => by omega⟩ ⟨rfl, rfl, rfl, trivial⟩ rfl rfl fun i hi => ?_
    obtain ⟨hni, hi, hd⟩ : n ≤ i ∧ i ≤ 11 ∧ ∀ j : Nat, n ≤ j → j < i → x.m.deps j = 0 := hi
    by_cases hi11 : i < 11
    ·by_cases hz : x.m.deps i = 0
     ·refine gR ?_
      refine H.Aw (i := i) rfl rfl rfl rfl hi11 rfl ?_
      refine H.Af rfl rfl rfl (by rw [Nat.mul_one]; exact Rd1.of (zan (m := x.m) (q := x.qp) (qc := x.qc) (.here _ _ _)) (zam x.m.deps hi11)) rfl ?_
      refine gT ?_
      refine H.Am (i + 1) ⟨by show n ≤ i + 1; omega, by show i + 1 ≤ 11; omega, fun j h1 h2 => ?_⟩ (by show 11 - (i + 1) < 11 - i; omega) ⟨rfl, rfl, rfl, trivial⟩ rfl rfl
      by_cases e : j = i
      ·rw [e]; exact hz
      ·exact hd j h1 (by omega)
     ·rw [fitsB_no2 hi11 hni hz hpos]
      refine gR ?_
      refine H.Aw (i := i) rfl rfl rfl rfl hi11 rfl ?_
      refine H.Af rfl rfl rfl (by rw [Nat.mul_one]; exact Rd1.of (zan (m := x.m) (q := x.qp) (qc := x.qc) (.here _ _ _)) (zam x.m.deps hi11)) rfl ?_
      refine gL ?_
      refine H.Ab (.here _ _) ?_
      exact H.Ac rfl rfl (fun _ h => h) ⟨rfl, rfl, rfl⟩
    ·have e : i = 11 := by omega
     subst e
     rw [fitsB_yes hm ho hb hd]
     refine gV ?_
     refine H.Ab (.here _ _) ?_
     exact H.Ac rfl rfl (fun _ h => h) ⟨rfl, rfl, rfl⟩
  ·have e : fitsB n x.m = false := by unfold fitsB; rw [decide_eq_false ho]; simp
   rw [e]
   refine Fn.enter Tryz.func87 rfl Tryz.ntmps87 rfl (L := [(0, _), (1, _)]) ⟨rfl, rfl, trivial⟩ fun base => ?_
   refine gC ?_
   refine H.box (ls := x.vals) rfl rfl rfl rfl fun mb => ?_
   refine gO ?_
   refine H.Az (by kernel_rfl) (by decide +kernel) (by repeat (first | exact zab | refine zaa ?_ | refine zac ?_ | refine zae ?_)) (S := [_, _]) rfl ?_
   refine HB.Ag [(0, false)] 11 (by kernel_rfl) ?_
   refine HQ.Ah (ls := x.vals) rfl rfl rfl (Rd.ofRow (.here _ _ _)) rfl rfl ?_
   refine HQ.Ae rfl ?_
   refine HB.ev1 (i := 1) (by kernel_rfl) rfl ?_
   refine H.Ad rfl rfl rfl (hmay _) ?_
   refine gC ?_
   refine H.on0 rfl ?_
   refine HB.Ag [(2, false), (3, false), (4, false), (5, false), (6, false), (7, false), (8, false), (9, false), (10, false), (11, false)] 0 (by kernel_rfl) ?_
   refine ge ?_
   refine HQ.Ae rfl ?_
   refine HB.Al (by kernel_rfl) ?_
   refine gL ?_
   refine H.Ab (.here _ _) ?_
   exact H.Ac rfl rfl (fun _ h => h) ⟨rfl, rfl, rfl⟩
 ·have hm : x.m.may = false := Bool.eq_false_iff.2 hm
  have e : fitsB n x.m = false := by unfold fitsB; rw [hm]; rfl
  rw [hm] at hmay
  rw [e]
  refine Fn.enter Tryz.func87 rfl Tryz.ntmps87 rfl (L := [(0, _), (1, _)]) ⟨rfl, rfl, trivial⟩ fun base => ?_
  refine gC ?_
  refine H.box (ls := x.vals) rfl rfl rfl rfl fun mb => ?_
  refine gO ?_
  refine H.Az (by kernel_rfl) (by decide +kernel) (by repeat (first | exact zab | refine zaa ?_ | refine zac ?_ | refine zae ?_)) (S := [_, _]) rfl ?_
  refine HB.Ag [(0, false)] 11 (by kernel_rfl) ?_
  refine HQ.Ah (ls := x.vals) rfl rfl rfl (Rd.ofRow (.here _ _ _)) rfl rfl ?_
  refine HQ.Ae rfl ?_
  refine HB.ev1 (i := 1) (by kernel_rfl) rfl ?_
  refine H.Ad rfl rfl rfl (hmay _) ?_
  refine gC ?_
  refine H.on0 rfl ?_
  refine HB.Ag [(2, false), (3, false), (4, false), (5, false), (6, false), (7, false), (8, false), (9, false), (10, false), (11, false)] 0 (by kernel_rfl) ?_
  refine gN ?_
  refine HQ.Ae rfl ?_
  refine HB.Al (by kernel_rfl) ?_
  refine gG ?_
  refine H.Ab (.here _ _) ?_
  exact H.Ac rfl rfl (fun _ h => h) ⟨rfl, rfl, rfl⟩
end
theorem aboveB_true {a b : Nat → Int} {i : Nat} (hi : i < 11) (h : b i < a i) : aboveB a b = true := by
 unfold aboveB
 rw [List.any_eq_true]
 exact ⟨i, List.mem_range.2 hi, decide_eq_true h⟩
section
variable (f : Frag) (F : List HP)
set_option maxRecDepth 20000 in
set_option maxHeartbeats 3200000 in
theorem rlcheck_fn {fl : Frag} (hfl : Le fl f) {rb n : Nat} {l : List MV} {x : MV} (hx : x.Good f) (hpos : Pos x.m) : Fn Tryz.prog 62 [.pointer (some ⟨rb, 0, none⟩), .agg x.vals.toArray] f (refL fl rb n l :: F)
  (Ret (.int .i64 (chk n (strm (l.map MV.m)) x.m)) f (refL fl rb n l :: F)) := by
 refine Fn.unpack fun i0 hi => ?_
 obtain ⟨p, c⟩ := i0
 have hn := hi.2.2.2
 have hform : ∀ {G}, Fn Tryz.prog 87 [.pointer (some ⟨rb, 0, none⟩), .agg x.vals.toArray] f (row rb 63 (refC n p l.length c (knownS (strm (l.map MV.m)))) :: G) (Ret (.bool (fitsB n x.m)) f (row rb 63 (refC n p l.length c (knownS (strm (l.map MV.m)))) :: G)) := fun {G} => rform_fn f G hn hx hpos
 have hright : ∀ {G}, Fn Tryz.prog 24 [.agg x.vals.toArray] f G (Ret (.bool x.m.right) f G) := fun {G} => rmright_fn f G hx
 refine Fn.enter Tryz.func62 rfl Tryz.ntmps62 rfl (L := [(0, _), (1, _)]) ⟨rfl, rfl, trivial⟩ fun base => ?_
 refine gC ?_
 refine H.box (ls := x.vals) rfl rfl rfl rfl fun mb => ?_
 refine gO ?_
 refine H.Ah (ls := x.vals) rfl rfl rfl (Rd.ofRow (.here _ _ _)) rfl rfl ?_
 refine H.Aa (x := row rb _ _) (by repeat constructor) ?_
 refine H.Ad rfl rfl rfl hform ?_
 refine H.not (b := _) (c := _) rfl rfl rfl rfl ?_
 cases h1 : fitsB n x.m with
 | false =>
  refine gG ?_
  refine H.Aa (x := slc _ _ _ _ _ _) (by repeat constructor) ?_
  refine H.Aa (x := row rb _ _) (by repeat constructor) ?_
  refine H.imp (zbb (p, c) hi) ?_
  refine H.Ab (x := row mb _ _) (by repeat constructor) ?_
  refine H.Ac rfl rfl (fun _ h => h) ⟨?_, rfl, rfl⟩
  unfold chk
  rw [if_pos h1]
 | true =>
  obtain ⟨o, hoo, hoz, hon, ho11, ho1, ho2⟩ := fits_at h1 hn
  have hoe : x.m.origin = ((o + 1 : Nat) : Int) := by omega
  clear hform
  refine gV ?_
  refine H.Ah (ls := x.vals) rfl rfl rfl (Rd.ofRow (.there _ (.here _ _ _))) rfl rfl ?_
  refine H.Ad rfl rfl rfl hright ?_
  refine H.not (b := _) (c := _) rfl rfl rfl rfl ?_
  clear hright
  cases h2 : x.m.right with
  | false =>
   refine gG ?_
   refine H.Aa (x := slc _ _ _ _ _ _) (by repeat constructor) ?_
   refine H.Aa (x := row rb _ _) (by repeat constructor) ?_
   refine H.imp (zbb (p, c) hi) ?_
   refine H.Ab (x := row mb _ _) (by repeat constructor) ?_
   refine H.Ac rfl rfl (fun _ h => h) ⟨?_, rfl, rfl⟩
   unfold chk
   rw [if_neg (by rw [h1]; decide), if_pos h2]
  | true =>
   have hsl := strmV_le l o
   have hll := hi.2.1
   have hlen := strm_lenV l o
   have hv : (v11 (knownS (strm (l.map MV.m))))[o]? = some (.int .u64 (((strmV l o).length : Nat) : Int)) := by rw [zam _ ho11, knownS_len]
   have hchk : chk n (strm (l.map MV.m)) x.m = if x.m.number ≤ ((strmV l o).length : Nat) then 13 else
     if x.m.number = (((strmV l o).length + 1 : Nat) : Int) ∧ 0 < (strmV l o).length ∧ aboveB (lastD (strm (l.map MV.m) o)) x.m.deps = true then 1 else
     if (((strmV l o).length + 1 : Nat) : Int) < x.m.number ∨ aboveB x.m.deps (knownS (strm (l.map MV.m))) = true then 12 else 0 := by
    unfold chk
    rw [if_neg (by rw [h1]; decide), if_neg (by rw [h2]; decide), hoo, hlen]
   have hlast : 0 < (strmV l o).length → ∃ y : MV, lastD (strm (l.map MV.m) o) = y.m.deps ∧ getM (l.map MV.m) x.m.origin (((strmV l o).length : Nat) : Int) = (y.m, true) := fun h0 => by
    obtain ⟨y, hy⟩ : ∃ y, (strmV l o)[(strmV l o).length - 1]? = some y := ⟨_, List.getElem?_eq_getElem (by omega)⟩
    refine ⟨y, ?_, ?_⟩
    ·rw [← strmV_map]
     exact lastD_get (by rw [List.length_map, List.getElem?_map, hy]; rfl)
    ·have h5 := hi.2.2.1.find hon ((strmV l o).length - 1)
     rw [show (strmV l o).length - 1 + 1 = (strmV l o).length by omega, ← strmV_map, List.getElem?_map, hy] at h5
     unfold getM
     rw [hoe, h5]
     rfl
   have hget := fun G => rlget_fn f G hfl (rb := rb) (n := n) (l := l) (og := x.m.origin) (z := (((strmV l o).length : Nat) : Int))
   generalize (strmV l o).length = s at *
   refine gV ?_
   refine H.Bg (by kernel_rfl) (by decide +kernel) (by repeat (first | exact zab | refine zaa ?_ | refine zac ?_ | refine zae ?_)) ?_
   refine gW ?_
   refine HQ.Aw (i := o) rfl rfl rfl hoz ho11 rfl ?_
   refine HQ.Af rfl rfl rfl (by rw [Nat.mul_one]; exact Rd1.of (refC_deps (.here _ _ _)) hv) rfl ?_
   refine gS ?_
   refine gR ?_
   by_cases h3 : x.m.number ≤ s
   ·skip
    refine gL ?_
    refine H.Aa (x := slc _ _ _ _ _ _) (by repeat constructor) ?_
    refine H.Aa (x := row rb _ _) (by repeat constructor) ?_
    refine H.imp (zbb (p, c) hi) ?_
    refine H.Ab (x := row mb _ _) (by repeat constructor) ?_
    refine H.Ac rfl rfl (fun _ h => h) ⟨?_, rfl, rfl⟩
    rw [hchk, if_pos h3]
   ·refine H.Bv rfl h3 ?_
    refine H.Bk ?_
    refine H.Ao ?_
    refine H.seq ?_
    refine H.Aa (x := slc _ _ _ _ _ _) (by repeat constructor) ?_
    refine H.Aa (x := row rb _ _) (by repeat constructor) ?_
    refine H.imp (zbb (p, c) hi) ?_
    refine H.cut (ι := Unit) (fun _ => [(0, .pointer (some ⟨rb, 0, none⟩)), (3, .pointer (some ⟨mb, 0, none⟩)), (5, .int .u64 (s : Nat))]) (fun _ => f) (fun _ => refL fl rb n l :: row mb 47 x.vals :: F)
     (fun _ => ¬ (x.m.number = ((s + 1 : Nat) : Int) ∧ 0 < s ∧ aboveB (lastD (strm (l.map MV.m) o)) x.m.deps = true)) _ (fun _ hc4 => ?_) ?_
    ·clear hget hlast hi
     refine H.unpack fun i1 hi => ?_
     obtain ⟨p, c⟩ := i1
     refine gf ?_
     refine H.Aa (x := slc _ _ _ _ _ _) (by repeat constructor) ?_
     refine H.Aa (x := row mb _ _) (by repeat constructor) ?_
     refine H.Aa (x := row rb _ _) (by repeat constructor) ?_
     refine H.Ax (ι := Nat) (fun t => [(9, .int .i64 (t : Int)), (0, .pointer (some ⟨rb, 0, none⟩)), (3, .pointer (some ⟨mb, 0, none⟩)), (5, .int .u64 (s : Nat))]) (fun _ => f)
      (fun _ => row rb 63 (refC n p l.length c (knownS (strm (l.map MV.m)))) :: row mb 47 x.vals :: slc p l.length c 47 121 (l.flatMap MV.vals) :: F)
      (fun t => t ≤ 11 ∧ ∀ j, j < t → x.m.deps j ≤ knownS (strm (l.map MV.m)) j) (fun t => 11 - t) 0 ⟨Nat.zero_le _, fun j hj => by omega⟩ ⟨rfl, rfl, rfl, rfl, trivial⟩ rfl rfl fun t ht => ?_
     obtain ⟨ht, hdn⟩ : t ≤ 11 ∧ ∀ j, j < t → x.m.deps j ≤ knownS (strm (l.map MV.m)) j := ht
     by_cases ht11 : t < 11
     ·skip
      refine gL ?_
      refine H.Bg (by kernel_rfl) (by decide +kernel) (by repeat (first | exact zab | refine zaa ?_ | refine zac ?_ | refine zae ?_)) ?_
      refine gW ?_
      refine HQ.Aw (i := t) rfl rfl rfl rfl ht11 rfl ?_
      refine HQ.Af rfl rfl rfl (by rw [Nat.mul_one]; exact Rd1.of (zan (m := x.m) (q := x.qp) (qc := x.qc) (.there _ (.here _ _ _))) (zam x.m.deps ht11)) rfl ?_
      refine gW ?_
      refine HQ.Aw (i := t) rfl rfl rfl rfl ht11 rfl ?_
      refine HQ.Af rfl rfl rfl (by rw [Nat.mul_one]; exact Rd1.of (refC_deps (.here _ _ _)) (zam _ ht11)) rfl ?_
      refine gS ?_
      refine gC ?_
      by_cases hdt : x.m.deps t ≤ knownS (strm (l.map MV.m)) t
      ·skip
       refine gT ?_
       refine H.Am (t + 1) ⟨by show t + 1 ≤ 11; omega, fun j hj => ?_⟩ (by show 11 - (t + 1) < 11 - t; omega) ⟨rfl, rfl, rfl, rfl, trivial⟩ rfl rfl
       by_cases e : j = t
       ·rw [e]; exact hdt
       ·exact hdn j (by omega)
      ·skip
       refine gL ?_
       refine H.Aa (x := slc _ _ _ _ _ _) (by repeat constructor) ?_
       refine H.Aa (x := row rb _ _) (by repeat constructor) ?_
       refine H.imp (zbb (p, c) hi) ?_
       refine H.Ab (x := row mb _ _) (by repeat constructor) ?_
       refine H.Ac rfl rfl (fun _ h => h) ⟨?_, rfl, rfl⟩
       rw [hchk, if_neg (by omega), if_neg hc4, if_pos (.inr (aboveB_true ht11 (by omega)))]
     ·have hab : aboveB x.m.deps (knownS (strm (l.map MV.m))) = false := zbd.2 fun j hj => hdn j (by omega)
      refine gX ?_
      by_cases h4 : x.m.number = ((s + 1 : Nat) : Int)
      ·skip
       refine gT ?_
       refine H.Aa (x := slc _ _ _ _ _ _) (by repeat constructor) ?_
       refine H.Aa (x := row rb _ _) (by repeat constructor) ?_
       refine H.imp (zbb (p, c) hi) ?_
       refine H.Ab (x := row mb _ _) (by repeat constructor) ?_
       refine H.Ac rfl rfl (fun _ h => h) ⟨?_, rfl, rfl⟩
       rw [hchk, if_neg (by omega), if_neg hc4, if_neg (by rintro (h | h); omega; rw [hab] at h; cases h)]
      ·skip
       refine gL ?_
       refine H.Aa (x := slc _ _ _ _ _ _) (by repeat constructor) ?_
       refine H.Aa (x := row rb _ _) (by repeat constructor) ?_
       refine H.imp (zbb (p, c) hi) ?_
       refine H.Ab (x := row mb _ _) (by repeat constructor) ?_
       refine H.Ac rfl rfl (fun _ h => h) ⟨?_, rfl, rfl⟩
       rw [hchk, if_neg (by omega), if_neg hc4, if_pos (.inl (by omega))]
    ·by_cases h4 : x.m.number = ((s + 1 : Nat) : Int)
     ·by_cases h0 : 0 < s
      ·obtain ⟨y, hly, hgt⟩ := hlast h0
       rw [hgt] at hget
       rw [hly] at hchk
       refine H.Aa (x := row mb _ _) (by repeat constructor) ?_
       refine gU ?_
       refine H.Aa (x := refL _ _ _ _) (by repeat constructor) ?_
       refine H.Bo rfl rfl rfl (hget _) fun v f' A' hr => ?_
       obtain ⟨z, rfl, hzm, hzg, hff, rfl⟩ := hr
       rw [hff]
       have hzm : z.m = y.m := hzm
       rw [← hzm] at hchk hly
       clear hget hgt hi hlast
       refine gc ?_
       refine H.Au (ls := msgZ.vals none 0) rfl rfl rfl fun zb => ?_
       refine H.Ak (ls := msgZ.vals none 0) (vs := z.vals) (ls' := z.vals) rfl rfl rfl (zad rfl) rfl rfl (Nat.le_refl 121) (.here _ _ _) ?_
       refine H.Aa (x := row mb _ _) (by repeat constructor) ?_
       refine H.Aa (x := row zb _ _) (by repeat constructor) ?_
       refine gf ?_
       refine H.Ax (ι := Nat) (fun t => [(8, .int .i64 (t : Int)), (0, .pointer (some ⟨rb, 0, none⟩)), (3, .pointer (some ⟨mb, 0, none⟩)), (6, .pointer (some ⟨zb, 0, none⟩)), (5, .int .u64 (s : Nat))]) (fun _ => f)
        (fun _ => row zb 47 z.vals :: row mb 47 x.vals :: refL fl rb n l :: F)
        (fun t => t ≤ 11 ∧ ∀ j, j < t → z.m.deps j ≤ x.m.deps j) (fun t => 11 - t) 0 ⟨Nat.zero_le _, fun j hj => by omega⟩ ⟨rfl, rfl, rfl, rfl, rfl, trivial⟩ rfl rfl fun t ht => ?_
       obtain ⟨ht, hdn⟩ : t ≤ 11 ∧ ∀ j, j < t → z.m.deps j ≤ x.m.deps j := ht
       by_cases ht11 : t < 11
       ·skip
        refine gL ?_
        refine H.Bg (by kernel_rfl) (by decide +kernel) (by repeat (first | exact zab | refine zaa ?_ | refine zac ?_ | refine zae ?_)) ?_
        refine gW ?_
        refine HQ.Aw (i := t) rfl rfl rfl rfl ht11 rfl ?_
        refine HQ.Af rfl rfl rfl (by rw [Nat.mul_one]; exact Rd1.of (zan (m := x.m) (q := x.qp) (qc := x.qc) (.there _ (.here _ _ _))) (zam x.m.deps ht11)) rfl ?_
        refine gW ?_
        refine HQ.Aw (i := t) rfl rfl rfl rfl ht11 rfl ?_
        refine HQ.Af rfl rfl rfl (by rw [Nat.mul_one]; exact Rd1.of (zan (m := z.m) (q := z.qp) (qc := z.qc) (.here _ _ _)) (zam z.m.deps ht11)) rfl ?_
        refine gS ?_
        refine gC ?_
        by_cases hdt : z.m.deps t ≤ x.m.deps t
        ·skip
         refine gT ?_
         refine H.Am (t + 1) ⟨by show t + 1 ≤ 11; omega, fun j hj => ?_⟩ (by show 11 - (t + 1) < 11 - t; omega) ⟨rfl, rfl, rfl, rfl, rfl, trivial⟩ rfl rfl
         by_cases e : j = t
         ·rw [e]; exact hdt
         ·exact hdn j (by omega)
        ·skip
         refine gL ?_
         refine H.Ab (x := row zb _ _) (by repeat constructor) ?_
         refine H.Ab (x := row mb _ _) (by repeat constructor) ?_
         refine H.Ac rfl rfl (fun _ h => h) ⟨?_, rfl, rfl⟩
         rw [hchk, if_neg (by omega), if_pos ⟨h4, h0, aboveB_true ht11 (by omega)⟩]
       ·have hab0 : aboveB z.m.deps x.m.deps = false := zbd.2 fun j hj => hdn j (by omega)
        have hc4 : ¬ (x.m.number = ((s + 1 : Nat) : Int) ∧ 0 < s ∧ aboveB (lastD (strm (l.map MV.m) o)) x.m.deps = true) := by rintro ⟨_, _, h⟩; rw [hly, hab0] at h; cases h
        clear hdn ht hab0
        refine gH ?_
        refine H.Ab (x := row zb _ _) (by repeat constructor) ?_
        refine H.Aa (x := refL _ _ _ _) (by repeat constructor) ?_
        exact H.meet () hc4 ⟨rfl, rfl, rfl, trivial⟩ rfl rfl
      ·refine H.Aa (x := row mb _ _) (by repeat constructor) ?_
       refine gZ ?_
       refine H.Aa (x := refL _ _ _ _) (by repeat constructor) ?_
       exact H.meet () (fun h => h0 h.2.1) ⟨rfl, rfl, rfl, trivial⟩ rfl rfl
     ·refine H.Aa (x := row mb _ _) (by repeat constructor) ?_
      refine ga ?_
      refine H.Aa (x := refL _ _ _ _) (by repeat constructor) ?_
      exact H.meet () (fun h => h4 h.1) ⟨rfl, rfl, rfl, trivial⟩ rfl rfl
end
theorem refC_set (n : Nat) (p : Option Addr) (m c : Nat) (v : Nat → Int) (z : Int) {o : Nat} (h : o < 11) : SetV (refC n p m c v) (0 + 2 + o * 1) (.int .u64 z) (refC n p m c (updF v o z)) := by
 have h1 := (v11_upd v z h).mid [.int .i64 (n : Int), .slice p m c] []
 rw [List.append_nil, List.append_nil] at h1
 rw [Nat.mul_one]
 exact h1
theorem knownS_add (S : Strm) (m : Msg) : knownS (addS S m) = updF (knownS S) (orgI m) (knownS S (orgI m) + 1) := by
 funext i
 unfold knownS addS
 by_cases h : i = orgI m
 ·subst h
  rw [zah, zah, List.length_append]
  show ((((S (orgI m)).length + 1 : Nat)) : Int) = _
  omega
 ·rw [zal _ _ h, zal _ _ h]
def RSinceP (f : Frag) (A : List HP) (ms : List Msg) : Value → Frag → List HP → Prop := fun v f' A' =>
 ∃ (p : Option Addr) (c : Nat) (R : List MV), v = .slice p R.length c ∧ R.map MV.m = ms ∧ (∀ y ∈ R, y.Good f) ∧ f' = f ∧ A' = msL p c R :: A
section
variable (f : Frag) (F : List HP)
set_option maxRecDepth 20000 in
set_option maxHeartbeats 3200000 in
theorem rladd_fn {fl : Frag} (hfl : Le fl f) {rb n : Nat} {l : List MV} {x : MV} (hx : x.Good fl) (hpos : Pos x.m) (hlen : l.length < 100000) :
  Fn Tryz.prog 27 [.pointer (some ⟨rb, 0, none⟩), .agg x.vals.toArray] f (refL fl rb n l :: F)
   (Ret (.int .i64 (chk n (strm (l.map MV.m)) x.m)) f (refL fl rb n (if chk n (strm (l.map MV.m)) x.m = 0 then l ++ [x] else l) :: F)) := by
 have hck : ∀ G, Fn Tryz.prog 62 [.pointer (some ⟨rb, 0, none⟩), .agg x.vals.toArray] f (refL fl rb n l :: G) (Ret (.int .i64 (chk n (strm (l.map MV.m)) x.m)) f (refL fl rb n l :: G)) := fun G => rlcheck_fn f G hfl (hx.mono hfl) hpos
 by_cases hc : chk n (strm (l.map MV.m)) x.m = 0
 ·obtain ⟨z1, z2, z3, _, _⟩ := chk_zero hc
  rw [hc] at hck ⊢
  rw [if_pos rfl]
  refine Fn.enter Tryz.func27 rfl Tryz.ntmps27 rfl (L := [(0, _), (1, _)]) ⟨rfl, rfl, trivial⟩ fun base => ?_
  refine gC ?_
  refine H.box (ls := x.vals) rfl rfl rfl rfl fun mb => ?_
  refine gO ?_
  refine H.Ah (ls := x.vals) rfl rfl rfl (Rd.ofRow (.here _ _ _)) rfl rfl ?_
  refine H.Aa (x := refL _ _ _ _) (by repeat constructor) ?_
  refine H.Ad rfl rfl rfl (hck _) ?_
  refine gc ?_
  refine H.unpack fun i hi => ?_
  obtain ⟨p, c⟩ := i
  have hn := hi.2.2.2
  obtain ⟨o, hoo, hoz, hon, ho11, ho1, ho2⟩ := fits_at z1 hn
  have hkl := knownS_len l o
  have hsl := strmV_le l o
  refine H.Aa (x := row rb _ _) (by repeat constructor) ?_
  refine H.Aa (x := row mb _ _) (by repeat constructor) ?_
  refine H.Bu [0, 1, 2, 3, 4, 5, 6, 7] (by kernel_rfl) (by decide +kernel) (by repeat (first | exact zab | refine zaa ?_ | refine zac ?_ | refine zae ?_)) (S := [_, _]) rfl ?_
  refine HB.Ag [(0, false), (1, false), (2, false), (3, false), (4, false), (5, false)] 5 (by kernel_rfl) ?_
  refine gW ?_
  refine HQ.Ah (ls := x.vals) rfl rfl rfl (Rd.ofRow (.here _ _ _)) rfl rfl ?_
  refine HQ.Ae rfl ?_
  refine HB.ev1 (i := 6) (by kernel_rfl) rfl ?_
  refine H.Bb (out := x.vals) rfl rfl rfl rfl (by decide) (by decide) rfl rfl fun eb => ?_
  refine gC ?_
  refine H.Aa (x := row rb _ _) (by repeat constructor) ?_
  refine H.Aa (x := row mb _ _) (by repeat constructor) ?_
  refine H.on0 rfl ?_
  refine HB.ev1 (i := 7) (by kernel_rfl) rfl ?_
  refine H.Bd (p := p) (n0 := l.length) (c := c) (xs := l.flatMap MV.vals) (m := 1) (news := x.vals) rfl rfl rfl rfl rfl (fun p' c' => (by repeat constructor)) (Src.slice (Rd.ofRow (by repeat constructor)) rfl) (zad rfl) rfl (by omega) (by omega) fun p2 c2 => ?_
  refine gC ?_
  refine H.Ab (x := row eb _ _) (by repeat constructor) ?_
  refine H.on0 rfl ?_
  refine HB.next [] (by kernel_rfl) (S' := []) rfl ?_
  refine HB.Ag [(8, false), (9, false)] 1 (by kernel_rfl) ?_
  refine gW ?_
  refine HQ.Ae rfl ?_
  refine HB.ev1 (i := 10) (by kernel_rfl) rfl ?_
  refine H.Bj (ls := refC n p l.length c (knownS (strm (l.map MV.m)))) (ls' := refC n p2 (l.length + 1) c2 (knownS (strm (l.map MV.m)))) rfl rfl rfl rfl (.there _ (.here _ _ _)) (.there _ (.here _ _ _)) ?_
  refine gC ?_
  refine H.on0 rfl ?_
  refine HB.Al (by kernel_rfl) ?_
  refine gC ?_
  refine H.Bu [0, 1, 2, 3, 4, 5, 6, 7, 8, 9, 10, 11] (by kernel_rfl) (by decide +kernel) (by repeat (first | exact zab | refine zaa ?_ | refine zac ?_ | refine zae ?_)) (S := [_, _]) rfl ?_
  refine HB.Ag [(0, false), (1, false), (2, false), (3, false), (4, false), (5, false), (6, false), (7, false), (8, false), (9, false), (10, false), (11, false)] 1 (by kernel_rfl) ?_
  have hv : (v11 (knownS (strm (l.map MV.m))))[o]? = some (.int .u64 (knownS (strm (l.map MV.m)) o)) := zam _ ho11
  refine gW ?_
  refine HQ.Aw (i := o) rfl rfl rfl hoz ho11 rfl ?_
  refine HQ.Af rfl rfl rfl (by rw [Nat.mul_one]; exact Rd1.of (refC_deps (.there _ (.here _ _ _))) hv) rfl ?_
  refine gW ?_
  refine HQ.Aw (i := o) rfl rfl rfl hoz ho11 rfl ?_
  refine HQ.Ae rfl ?_
  refine HB.next [] (by kernel_rfl) (S' := []) rfl ?_
  refine HB.ev1 (i := 12) (by kernel_rfl) rfl ?_
  refine H.Bj (ls := refC n p2 (l.length + 1) c2 (knownS (strm (l.map MV.m)))) (ls' := refC n p2 (l.length + 1) c2 (updF (knownS (strm (l.map MV.m))) o (knownS (strm (l.map MV.m)) o + 1))) rfl rfl rfl rfl (.there _ (.here _ _ _)) (refC_set _ _ _ _ _ _ ho11) ?_
  refine gC ?_
  refine H.on0 rfl ?_
  refine HB.Al (by kernel_rfl) ?_
  refine gf ?_
  refine H.Ab (x := row mb _ _) (by repeat constructor) ?_
  have hφ : refφ fl n (l ++ [x]) := loreφ_snoc (Le.refl fl) hi hlen hc hx
  have e1 : refC n p2 (l.length + 1) c2 (updF (knownS (strm (l.map MV.m))) o (knownS (strm (l.map MV.m)) o + 1)) = refC n p2 (l ++ [x]).length c2 (knownS (strm ((l ++ [x]).map MV.m))) := by
   rw [List.map_append, show [x].map MV.m = [x.m] from rfl, strm_snoc, knownS_add, hoo, List.length_append]
   rfl
  rw [e1]
  have e2 : slc p2 (l.length + 1) c2 47 121 (l.flatMap MV.vals ++ x.vals) = slc p2 (l ++ [x]).length c2 47 121 ((l ++ [x]).flatMap MV.vals) := slc_snoc
  refine H.conv (A' := row rb 63 (refC n p2 (l ++ [x]).length c2 (knownS (strm ((l ++ [x]).map MV.m)))) :: slc p2 (l ++ [x]).length c2 47 121 ((l ++ [x]).flatMap MV.vals) :: F) (by rw [← e2]; rfl) ?_
  refine H.imp (zbb (p2, c2) hφ) ?_
  exact H.Ac rfl rfl (fun _ h => h) ⟨rfl, rfl, rfl⟩
 ·rw [if_neg hc]
  refine Fn.enter Tryz.func27 rfl Tryz.ntmps27 rfl (L := [(0, _), (1, _)]) ⟨rfl, rfl, trivial⟩ fun base => ?_
  refine gC ?_
  refine H.box (ls := x.vals) rfl rfl rfl rfl fun mb => ?_
  refine gO ?_
  refine H.Ah (ls := x.vals) rfl rfl rfl (Rd.ofRow (.here _ _ _)) rfl rfl ?_
  refine H.Aa (x := refL _ _ _ _) (by repeat constructor) ?_
  refine H.Ad rfl rfl rfl (hck _) ?_
  refine gH ?_
  refine H.Ab (x := row mb _ _) (by repeat constructor) ?_
  exact H.Ac rfl rfl (fun _ h => h) ⟨rfl, rfl, rfl⟩
set_option maxRecDepth 20000 in
set_option maxHeartbeats 3200000 in
theorem rlsinceO_fn {fl : Frag} (hfl : Le fl f) {rb n : Nat} {l : List MV} {v : Nat → Int} {most : Int} {p : Option Addr} {c : Nat} (hi0 : refφ fl n l) :
  Fn Tryz.prog 32 [.pointer (some ⟨rb, 0, none⟩), .agg (v11 v).toArray, .int .i64 most] f (row rb 63 (refC n p l.length c (knownS (strm (l.map MV.m)))) :: slc p l.length c 47 121 (l.flatMap MV.vals) :: F)
   (RSinceP f (row rb 63 (refC n p l.length c (knownS (strm (l.map MV.m)))) :: slc p l.length c 47 121 (l.flatMap MV.vals) :: F) (sinceM v most (l.map MV.m))) := by
 have hll := hi0.2.1
 have hn := hi0.2.2.2
 refine Fn.enter Tryz.func32 rfl Tryz.ntmps32 rfl (L := [(0, _), (1, _), (2, _)]) ⟨rfl, rfl, rfl, trivial⟩ fun base => ?_
 refine gC ?_
 refine H.box (ls := v11 v) rfl rfl rfl rfl fun vb => ?_
 refine gf ?_
 refine H.slc0 47 121 ?_
 refine H.Aa (x := row vb _ _) (by repeat constructor) ?_
 refine H.Ax (ι := Nat × List MV × Option Addr × Nat) (fun s => [(8, .int .i64 (s.1 : Int)), (7, .slice s.2.2.1 s.2.1.length s.2.2.2), (0, .pointer (some ⟨rb, 0, none⟩)), (2, .int .i64 most), (4, .pointer (some ⟨vb, 0, none⟩))]) (fun _ => f)
  (fun s => row vb 37 (v11 v) :: slc s.2.2.1 s.2.1.length s.2.2.2 47 121 (s.2.1.flatMap MV.vals) :: row rb 63 (refC n p l.length c (knownS (strm (l.map MV.m)))) :: slc p l.length c 47 121 (l.flatMap MV.vals) :: F)
  (fun s => s.1 ≤ l.length ∧ s.2.1.map MV.m = unk v ((l.map MV.m).take s.1) ∧ s.2.1.length ≤ most.toNat ∧ (∀ y ∈ s.2.1, y.Good f)) (fun s => l.length - s.1)
  (0, [], none, 0) ⟨Nat.zero_le _, rfl, Nat.zero_le _, (fun y hy => by cases hy)⟩ ⟨rfl, rfl, rfl, rfl, rfl, trivial⟩ rfl rfl fun s hs => ?_
 obtain ⟨k, R, rp, rc⟩ := s
 obtain ⟨hk, hR, hRm, hRg⟩ : k ≤ l.length ∧ R.map MV.m = unk v ((l.map MV.m).take k) ∧ R.length ≤ most.toNat ∧ (∀ y ∈ R, y.Good f) := hs
 have hRl : R.length ≤ l.length := by
  have h1 := congrArg List.length hR
  rw [List.length_map] at h1
  have h2 : (unk v ((l.map MV.m).take k)).length ≤ ((l.map MV.m).take k).length := List.length_filter_le _ _
  rw [List.length_take, List.length_map] at h2
  omega
 show H _ _ _ [(8, .int .i64 (k : Int)), (7, .slice rp R.length rc), _, _, _] f (_ :: slc rp R.length rc _ 121 (R.flatMap MV.vals) :: _ :: _ :: F) _
 by_cases hlt : k < l.length
 ·by_cases hm : (R.length : Int) < most
  ·obtain ⟨y, hy⟩ : ∃ y, l[k]? = some y := ⟨_, List.getElem?_eq_getElem hlt⟩
   have hym : (l.map MV.m)[k]? = some y.m := by rw [List.getElem?_map, hy]; rfl
   have hyg := (hi0.1 y (List.mem_of_getElem? hy)).mono hfl
   have horg := hi0.2.2.1.org (List.mem_of_getElem? hym)
   have hnext : (l.map MV.m).take (k + 1) = (l.map MV.m).take k ++ [y.m] := zbm hym
   have hunk := unk_snoc v ((l.map MV.m).take k) y.m
   rw [← hnext] at hunk
   obtain ⟨o, hoo, hoz⟩ : ∃ o : Nat, orgI y.m = o ∧ y.m.origin - 1 = (o : Nat) := ⟨orgI y.m, rfl, by unfold orgI; omega⟩
   have ho11 : o < 11 := by omega
   rw [hoo] at hunk
   refine H.Aa (x := slc p _ c _ _ _) (by repeat constructor) ?_
   refine H.Bq (p := p) (n0 := l.length) (c := c) (.here _ _ _) (by omega) fun sb hp => ?_
   subst hp
   have rd : ∀ {G}, Rd f (slc (some ⟨sb, 0, none⟩) l.length c 47 121 (l.flatMap MV.vals) :: G) sb (0 + k * 121) y.vals := fun {G} => by rw [Nat.zero_add]; exact Rd.slcElem MV.len (by decide) (.here _ _ _) hy
   refine gU ?_
   refine H.Bg (by kernel_rfl) (by decide +kernel) (by repeat (first | exact zab | refine zaa ?_ | refine zac ?_ | refine zae ?_)) ?_
   refine gW ?_
   refine HQ.Ar (i := k) rfl rfl rfl rfl hlt rfl ?_
   refine gE ?_
   refine HQ.Af rfl rfl rfl (Rd1.of (i := 1) rd rfl) rfl ?_
   refine gW ?_
   refine HQ.Ar (i := k) rfl rfl rfl rfl hlt rfl ?_
   refine gE ?_
   refine HQ.Af rfl rfl rfl (Rd1.of (i := 0) rd rfl) rfl ?_
   refine gS ?_
   refine HQ.Aw (i := o) rfl rfl rfl hoz ho11 rfl ?_
   refine HQ.Af rfl rfl rfl (Rd1.of (Rd.ofRow (.there _ (.here _ _ _))) (by rw [Nat.mul_one]; exact zam v ho11)) rfl ?_
   refine gS ?_
   by_cases hv : v o < y.m.number
   ·rw [if_pos hv] at hunk
    refine gU ?_
    refine H.Ar (i := k) rfl rfl rfl rfl hlt rfl ?_
    refine H.Ah (ls := y.vals) rfl rfl rfl rd rfl rfl ?_
    refine H.Bb (out := y.vals) rfl rfl rfl rfl (by decide) (by decide) rfl rfl fun eb => ?_
    refine H.Bd (p := rp) (n0 := R.length) (c := rc) (xs := R.flatMap MV.vals) (m := 1) (news := y.vals) rfl rfl rfl rfl rfl (fun p' c' => (by repeat constructor)) (Src.slice (Rd.ofRow (by repeat constructor)) rfl) (zad rfl) rfl (by omega) (by omega) fun p2 c2 => ?_
    refine gI ?_
    refine H.Ab (x := row eb _ _) (by repeat constructor) ?_
    refine H.Aa (x := row rb _ _) (by repeat constructor) ?_
    refine H.Aa (x := slc p2 _ c2 _ _ _) (by repeat constructor) ?_
    refine H.Aa (x := row vb _ _) (by repeat constructor) ?_
    refine H.Am (k + 1, R ++ [y], p2, c2) ⟨by show k + 1 ≤ l.length; omega, by show (R ++ [y]).map MV.m = _; rw [List.map_append, hR, hunk]; rfl, by show (R ++ [y]).length ≤ _; rw [List.length_append]; show R.length + 1 ≤ _; omega, fun z hz => ?_⟩ (by show l.length - (k + 1) < l.length - k; omega) ⟨rfl, ?_, rfl, rfl, rfl, trivial⟩ rfl ?_
    ·have hz : z ∈ R ++ [y] := hz
     rcases List.mem_append.1 hz with hz | hz
     ·exact hRg z hz
     ·rw [List.mem_singleton] at hz; subst hz; exact hyg
    ·show some (Value.slice p2 (R.length + 1) c2) = some (Value.slice p2 (R ++ [y]).length c2)
     rw [List.length_append]; rfl
    ·show _ :: slc p2 (R.length + 1) c2 _ 121 (R.flatMap MV.vals ++ y.vals) :: _ = _ :: slc p2 (R ++ [y]).length c2 _ 121 ((R ++ [y]).flatMap MV.vals) :: _
     rw [slc_snoc]
   ·rw [if_neg hv] at hunk
    refine gT ?_
    refine H.Aa (x := row rb _ _) (by repeat constructor) ?_
    refine H.Aa (x := slc rp _ rc _ _ _) (by repeat constructor) ?_
    refine H.Aa (x := row vb _ _) (by repeat constructor) ?_
    exact H.Am (k + 1, R, rp, rc) ⟨by show k + 1 ≤ l.length; omega, by show R.map MV.m = _; rw [hR, hunk], hRm, hRg⟩ (by show l.length - (k + 1) < l.length - k; omega) ⟨rfl, rfl, rfl, rfl, rfl, trivial⟩ rfl rfl
  ·refine gU ?_
   refine H.Ab (x := row vb _ _) (by repeat constructor) ?_
   refine H.Aa (x := slc p _ c _ _ _) (by repeat constructor) ?_
   refine H.Aa (x := row rb _ _) (by repeat constructor) ?_
   refine H.Aa (x := slc rp _ rc _ _ _) (by repeat constructor) ?_
   refine H.Ac rfl rfl (fun _ h => h) ⟨rp, rc, R, rfl, ?_, hRg, rfl, rfl⟩
   have h1 := congrArg List.length hR
   rw [List.length_map] at h1
   have h2 : most.toNat = R.length := by omega
   unfold sinceM
   rw [unk_take_more (k := k) (by omega), ← hR, List.take_of_length_le (by rw [List.length_map]; omega)]
 ·have e : k = l.length := by omega
  subst e
  refine ga ?_
  refine H.Ab (x := row vb _ _) (by repeat constructor) ?_
  refine H.Aa (x := slc p _ c _ _ _) (by repeat constructor) ?_
  refine H.Aa (x := row rb _ _) (by repeat constructor) ?_
  refine H.Aa (x := slc rp _ rc _ _ _) (by repeat constructor) ?_
  refine H.Ac rfl rfl (fun _ h => h) ⟨rp, rc, R, rfl, ?_, hRg, rfl, rfl⟩
  have e2 : (l.map MV.m).take l.length = l.map MV.m := List.take_of_length_le (by rw [List.length_map]; exact Nat.le_refl _)
  rw [e2] at hR
  unfold sinceM
  rw [← hR, List.take_of_length_le (by rw [List.length_map]; omega)]
theorem rsameL_fn {pa pb : Option Addr} {ca cb : Nat} {A B : List MV} (hA : ListAt f pa 121 MV.vals A) (hB : ListAt f pb 121 MV.vals B) (gA : ∀ y ∈ A, y.Good f) (gB : ∀ y ∈ B, y.Good f) (h : A.map MV.m = B.map MV.m) (hl : A.length ≤ 1000000) :
  Fn Tryz.prog 31 [.slice pa A.length ca, .slice pb B.length cb] f F (Ret (.bool true) f F) := by
 have hlen : A.length = B.length := by have := congrArg List.length h; rwa [List.length_map, List.length_map] at this
 refine Fn.enter Tryz.func31 rfl Tryz.ntmps31 rfl (L := [(0, _), (1, _)]) ⟨rfl, rfl, trivial⟩ fun base => ?_
 refine gH ?_
 refine H.Ax (ι := Nat) (fun i => [(5, .int .i64 (i : Int)), (0, .slice pa A.length ca), (1, .slice pb B.length cb)]) (fun _ => f) (fun _ => F) (fun i => i ≤ A.length) (fun i => A.length - i) 0 (Nat.zero_le _) ⟨rfl, rfl, rfl, trivial⟩ rfl rfl fun i hi => ?_
 have hi : i ≤ A.length := hi
 by_cases hlt : i < A.length
 ·obtain ⟨y, hy⟩ : ∃ y, A[i]? = some y := ⟨_, List.getElem?_eq_getElem hlt⟩
  obtain ⟨z, hz⟩ : ∃ z, B[i]? = some z := ⟨_, List.getElem?_eq_getElem (by omega)⟩
  have hyz : y.m = z.m := by
   have h1 : (A.map MV.m)[i]? = some y.m := by rw [List.getElem?_map, hy]; rfl
   rw [h, List.getElem?_map, hz] at h1
   exact (Option.some.inj h1).symm
  have hs : ∀ G, Fn Tryz.prog 30 [.agg y.vals.toArray, .agg z.vals.toArray] f G (Ret (.bool true) f G) := fun G => by
   have h := rsameM_fn f G (gA y (List.mem_of_getElem? hy)) (gB z (List.mem_of_getElem? hz))
   rw [hyz, Msg.eqB_refl] at h
   exact h
  obtain ⟨b, off, cs, T, fr, rfl, hfb, hcs⟩ := hA i y hy
  obtain ⟨b2, off2, cs2, T2, fr2, rfl, hfb2, hcs2⟩ := hB i z hz
  refine gL ?_
  refine H.Az (by kernel_rfl) (by decide +kernel) (by repeat (first | exact zab | refine zaa ?_ | refine zac ?_ | refine zae ?_)) (S := []) rfl ?_
  refine HB.Ag [(0, false), (1, false), (2, false), (3, false), (4, false), (5, false), (6, false), (7, false)] 2 (by kernel_rfl) ?_
  refine gD ?_
  refine HQ.Ar (i := i) rfl rfl rfl rfl hlt rfl ?_
  refine HQ.Ah (ls := y.vals) rfl rfl rfl (Rd.imm hfb hcs) rfl rfl ?_
  refine gD ?_
  refine HQ.Ar (i := i) rfl rfl rfl rfl (by omega) rfl ?_
  refine HQ.Ah (ls := z.vals) rfl rfl rfl (Rd.imm hfb2 hcs2) rfl rfl ?_
  refine HQ.Ae rfl ?_
  refine HB.ev1 (i := 8) (by kernel_rfl) rfl ?_
  refine H.Ad rfl rfl rfl (hs _) ?_
  refine gC ?_
  refine H.on0 rfl ?_
  refine HB.Ag [(9, false)] 0 (by kernel_rfl) ?_
  refine HQ.not (b := true) (c := false) rfl rfl rfl rfl ?_
  refine HQ.Ae rfl ?_
  refine HB.Al (by kernel_rfl) ?_
  refine gV ?_
  exact H.Am (i + 1) (by show i + 1 ≤ A.length; omega) (by show A.length - (i + 1) < A.length - i; omega) ⟨rfl, rfl, rfl, trivial⟩ rfl rfl
 ·refine gH ?_
  exact H.Ac rfl rfl (fun _ h => h) ⟨rfl, rfl, rfl⟩
end
def tellV (n : Nat) (vv : Nat → Nat → Int) (j : Int) (v : Nat → Int) : Nat → Nat → Int := if 1 ≤ j ∧ j ≤ (n : Int) then updF vv (j - 1).toNat v else vv
def tellE (n : Nat) (j : Int) : Int := if 1 ≤ j ∧ j ≤ (n : Int) then 0 else 1
def ofV (n : Nat) (vv : Nat → Nat → Int) (j : Int) : Nat → Int := if 1 ≤ j ∧ j ≤ (n : Int) then vv (j - 1).toNat else fun _ => 0
def lacksV (n : Nat) (vv : Nat → Nat → Int) (j most : Int) (l : List Msg) : List Msg := if 1 ≤ j ∧ j ≤ (n : Int) then sinceM (vv (j - 1).toNat) most l else []
theorem idx18 {n : Nat} {j : Int} (h : 1 ≤ j ∧ j ≤ (n : Int)) : ∃ i, i < n ∧ j = ((i + 1 : Nat) : Int) ∧ (j - 1).toNat = i := ⟨(j - 1).toNat, by omega, by omega, rfl⟩
section
variable (f : Frag) (F : List HP)
theorem toldJ_fn {pb n : Nat} {vv : Nat → Nat → Int} (hn : n ≤ 11) (j : Int) (v : Nat → Int) : Fn Tryz.prog 46 [.pointer (some ⟨pb, 0, none⟩), .int .i64 j, .agg (v11 v).toArray] f (row pb 148 (peC n vv) :: F) (Ret (.int .i64 (tellE n j)) f (row pb 148 (peC n (tellV n vv j v)) :: F)) := by
 unfold tellE tellV
 by_cases h : 1 ≤ j ∧ j ≤ (n : Int)
 ·rw [if_pos h, if_pos h]
  obtain ⟨i, hi, e, e2⟩ := idx18 h
  rw [e2, e]
  exact told_fn f F hi hn v
 ·rw [if_neg h, if_neg h]
  exact told_no f F h v
theorem ofJ_fn {pb n : Nat} {vv : Nat → Nat → Int} (hn : n ≤ 11) (j : Int) : Fn Tryz.prog 48 [.pointer (some ⟨pb, 0, none⟩), .int .i64 j] f (row pb 148 (peC n vv) :: F) (Ret (.agg (v11 (ofV n vv j)).toArray) f (row pb 148 (peC n vv) :: F)) := by
 unfold ofV
 by_cases h : 1 ≤ j ∧ j ≤ (n : Int)
 ·rw [if_pos h]
  obtain ⟨i, hi, e, e2⟩ := idx18 h
  rw [e2, e]
  exact of_fn f F hi hn
 ·rw [if_neg h]
  exact of_no f F h
theorem lacks_nil (j most : Int) (u : Value) : Fn Tryz.prog 50 [.pointer none, .int .i64 j, u, .int .i64 most] f F (Ret (.slice none 0 0) f F) := by
 refine Fn.enter Tryz.func50 rfl Tryz.ntmps50 rfl (L := [(0, _), (1, _), (2, _), (3, _)]) ⟨rfl, rfl, rfl, rfl, trivial⟩ fun base => ?_
 refine gO ?_
 refine H.Ad rfl rfl rfl (one_nil f _ j) ?_
 refine gc ?_
 exact H.Ac rfl rfl (fun _ h => h) ⟨rfl, rfl, rfl⟩
theorem lacksJ_fn {fl : Frag} (hfl : Le fl f) {pb n lb m : Nat} {vv : Nat → Nat → Int} (hn : n ≤ 11) {l : List MV} (j most : Int) :
  Fn Tryz.prog 50 [.pointer (some ⟨pb, 0, none⟩), .int .i64 j, .pointer (some ⟨lb, 0, none⟩), .int .i64 most] f (loreH fl lb m l :: row pb 148 (peC n vv) :: F) (SinceP f (loreH fl lb m l :: row pb 148 (peC n vv) :: F) (lacksV n vv j most (l.map MV.m))) := by
 unfold lacksV
 by_cases h : 1 ≤ j ∧ j ≤ (n : Int)
 ·rw [if_pos h]
  obtain ⟨i, hi, e, e2⟩ := idx18 h
  rw [e2, e]
  exact lacks_fn f F hfl hi hn
 ·rw [if_neg h]
  have hone := fun G => one18_fn f G (pb := pb) (n := n) (vv := vv) j
  rw [decide_eq_false h] at hone
  refine Fn.enter Tryz.func50 rfl Tryz.ntmps50 rfl (L := [(0, _), (1, _), (2, _), (3, _)]) ⟨rfl, rfl, rfl, rfl, trivial⟩ fun base => ?_
  refine gO ?_
  refine H.Aa (x := row pb _ _) (by repeat constructor) ?_
  refine H.Ad rfl rfl rfl (hone _) ?_
  refine gc ?_
  refine H.Aa (x := loreH _ _ _ _) (by repeat constructor) ?_
  refine H.slc0 47 121 ?_
  exact H.Ac rfl rfl (fun _ h => h) ⟨nil0, none, 0, [], rfl, rfl, fun y hy => (by cases hy), Dj.nil f, (un_nil f).symm, rfl⟩
-- the document's
theorem rtold_fn {pb n : Nat} {vv : Nat → Nat → Int} (hn : n ≤ 11) (j : Int) (v : Nat → Int) : Fn Tryz.prog 47 [.pointer (some ⟨pb, 0, none⟩), .int .i64 j, .agg (v11 v).toArray] f (row pb 100 (peC n vv) :: F) (Ret (.int .i64 (tellE n j)) f (row pb 100 (peC n (tellV n vv j v)) :: F)) := by
 unfold tellE tellV
 by_cases h1 : 1 ≤ j
 ·by_cases h2 : j ≤ (n : Int)
  ·rw [if_pos ⟨h1, h2⟩, if_pos ⟨h1, h2⟩]
   obtain ⟨i, hi, e, e2⟩ := idx18 ⟨h1, h2⟩
   have hi11 : i < 11 := by omega
   rw [e2]
   subst e
   clear e2 h1 h2
   refine Fn.enter Tryz.func47 rfl Tryz.ntmps47 rfl (L := [(0, _), (1, _), (2, _)]) ⟨rfl, rfl, rfl, trivial⟩ fun base => ?_
   refine gC ?_
   refine H.box (ls := v11 v) rfl rfl rfl rfl fun vb => ?_
   refine gX ?_
   refine H.Aa (x := row pb _ _) (by repeat constructor) ?_
   refine H.Bu [0, 1, 2, 3, 4, 5] (by kernel_rfl) (by decide +kernel) (by repeat (first | exact zab | refine zaa ?_ | refine zac ?_ | refine zae ?_)) (S := [_, _]) rfl ?_
   refine HB.Ag [(0, false), (1, false), (2, false), (3, false), (4, false), (5, false)] 2 (by kernel_rfl) ?_
   refine gW ?_
   refine HQ.Ah (ls := v11 v) rfl rfl rfl (Rd.ofRow (.there _ (.here _ _ _))) rfl rfl ?_
   refine gW ?_
   refine HQ.Ae rfl ?_
   refine HB.next [] (by kernel_rfl) (S' := []) rfl ?_
   refine HB.Ag [(6, false)] 1 (by kernel_rfl) ?_
   refine HQ.Aw (i := i) rfl rfl rfl (by omega) hi11 rfl ?_
   refine HQ.Ae rfl ?_
   refine HB.ev1 (i := 7) (by kernel_rfl) rfl ?_
   refine H.Ak (ls := peC n vv) (vs := v11 v) (ls' := peC n (updF vv i v)) rfl rfl rfl (zad rfl) rfl (peC_splice n vv v hi11) (by rw [peC_len]; show 0 + 1 + i * 11 + 11 ≤ 122; omega) (.here _ _ _) ?_
   refine gC ?_
   refine H.on0 rfl ?_
   refine HB.Al (by kernel_rfl) ?_
   refine gf ?_
   refine H.Ab (x := row vb _ _) (by repeat constructor) ?_
   exact H.Ac rfl rfl (fun _ h => h) ⟨rfl, rfl, rfl⟩
  ·rw [if_neg (fun h => h2 h.2), if_neg (fun h => h2 h.2)]
   refine Fn.enter Tryz.func47 rfl Tryz.ntmps47 rfl (L := [(0, _), (1, _), (2, _)]) ⟨rfl, rfl, rfl, trivial⟩ fun base => ?_
   refine gC ?_
   refine H.box (ls := v11 v) rfl rfl rfl rfl fun vb => ?_
   refine gK ?_
   refine H.Ab (x := row vb _ _) (by repeat constructor) ?_
   exact H.Ac rfl rfl (fun _ h => h) ⟨rfl, rfl, rfl⟩
 ·rw [if_neg (fun h => h1 h.1), if_neg (fun h => h1 h.1)]
  refine Fn.enter Tryz.func47 rfl Tryz.ntmps47 rfl (L := [(0, _), (1, _), (2, _)]) ⟨rfl, rfl, rfl, trivial⟩ fun base => ?_
  refine gC ?_
  refine H.box (ls := v11 v) rfl rfl rfl rfl fun vb => ?_
  refine gU ?_
  refine H.Ab (x := row vb _ _) (by repeat constructor) ?_
  exact H.Ac rfl rfl (fun _ h => h) ⟨rfl, rfl, rfl⟩
theorem rof18_fn {pb n : Nat} {vv : Nat → Nat → Int} (hn : n ≤ 11) (j : Int) : Fn Tryz.prog 49 [.pointer (some ⟨pb, 0, none⟩), .int .i64 j] f (row pb 100 (peC n vv) :: F) (Ret (.agg (v11 (ofV n vv j)).toArray) f (row pb 100 (peC n vv) :: F)) := by
 unfold ofV
 by_cases h1 : 1 ≤ j
 ·by_cases h2 : j ≤ (n : Int)
  ·rw [if_pos ⟨h1, h2⟩]
   obtain ⟨i, hi, e, e2⟩ := idx18 ⟨h1, h2⟩
   have hi11 : i < 11 := by omega
   rw [e2]
   subst e
   clear e2 h1 h2
   refine Fn.enter Tryz.func49 rfl Tryz.ntmps49 rfl (L := [(0, _), (1, _)]) ⟨rfl, rfl, trivial⟩ fun base => ?_
   refine gC ?_
   refine H.Au (ls := v11 fun _ => 0) rfl rfl rfl fun ob => ?_
   refine gX ?_
   refine H.Aw (i := i) rfl rfl rfl (by omega) hi11 rfl ?_
   refine H.Ah (ls := v11 (vv i)) rfl rfl rfl (peC_rd (.there _ (.here _ _ _)) hi11) rfl rfl ?_
   refine H.Ak (ls := v11 fun _ => 0) (vs := v11 (vv i)) (ls' := v11 (vv i)) rfl rfl rfl (zad rfl) rfl rfl (Nat.le_refl 11) (.here _ _ _) ?_
   refine gf ?_
   exact H.Ba (ls := v11 (vv i)) rfl rfl rfl (Rd.ofRow (.here _ _ _)) rfl (fun _ s => s.drop (.here _ _)) ⟨rfl, rfl, rfl⟩
  ·rw [if_neg (fun h => h2 h.2)]
   refine Fn.enter Tryz.func49 rfl Tryz.ntmps49 rfl (L := [(0, _), (1, _)]) ⟨rfl, rfl, trivial⟩ fun base => ?_
   refine gC ?_
   refine H.Au (ls := v11 fun _ => 0) rfl rfl rfl fun ob => ?_
   repeat (first | (refine H.buildA (t := 37) (out := v11 fun _ => 0) rfl rfl rfl (by kernel_rfl) rfl ?_) | ((first | apply H.Aj | apply H.Be); (iterate 3 exact rfl)) | (apply H.Av; (iterate 3 exact rfl); exact inferInstance; exact rfl) | (apply H.Af; (iterate 3 exact rfl); apply Rd1.ofRow; (repeat (first | exact .here _ _ _ | apply At.there)); (iterate 2 exact rfl)) | (first | apply H.seq | apply H.Aq | apply H.nil | apply H.Ao) | ((apply H.cmp); (iterate 5 exact rfl)) | ((apply H.Bf); (iterate 4 exact rfl)) | (apply H.gno; (iterate 3 exact rfl); (omega)) | (apply H.Bt; exact rfl; (omega)))
   refine H.Ak (ls := v11 fun _ => 0) (vs := v11 fun _ => 0) (ls' := v11 fun _ => 0) rfl rfl rfl (zad rfl) rfl rfl (Nat.le_refl 11) (.here _ _ _) ?_
   refine gf ?_
   refine H.Aa (x := row ob _ _) (by repeat constructor) ?_
   exact H.Ba (ls := v11 fun _ => 0) rfl rfl rfl (Rd.ofRow (.here _ _ _)) rfl (fun _ s => s.drop (.here _ _)) ⟨rfl, rfl, rfl⟩
 ·rw [if_neg (fun h => h1 h.1)]
  refine Fn.enter Tryz.func49 rfl Tryz.ntmps49 rfl (L := [(0, _), (1, _)]) ⟨rfl, rfl, trivial⟩ fun base => ?_
  refine gC ?_
  refine H.Au (ls := v11 fun _ => 0) rfl rfl rfl fun ob => ?_
  repeat (first | (refine H.buildA (t := 37) (out := v11 fun _ => 0) rfl rfl rfl (by kernel_rfl) rfl ?_) | ((first | apply H.Aj | apply H.Be); (iterate 3 exact rfl)) | (first | apply H.seq | apply H.Aq | apply H.nil | apply H.Ao) | ((apply H.cmp); (iterate 5 exact rfl)) | (apply H.Bp; (iterate 2 exact rfl)) | (apply H.Bh; (iterate 4 exact rfl)) | (apply H.Cl; exact rfl) | (apply H.Bl; (iterate 3 exact rfl); (omega)))
  refine H.Ak (ls := v11 fun _ => 0) (vs := v11 fun _ => 0) (ls' := v11 fun _ => 0) rfl rfl rfl (zad rfl) rfl rfl (Nat.le_refl 11) (.here _ _ _) ?_
  refine gf ?_
  refine H.Aa (x := row ob _ _) (by repeat constructor) ?_
  exact H.Ba (ls := v11 fun _ => 0) rfl rfl rfl (Rd.ofRow (.here _ _ _)) rfl (fun _ s => s.drop (.here _ _)) ⟨rfl, rfl, rfl⟩
theorem rlacks_fn {fl : Frag} (hfl : Le fl f) {rb n m : Nat} {l : List MV} {p : Option Addr} {c : Nat} (hi0 : refφ fl m l) {pb : Nat} {vv : Nat → Nat → Int} (hn : n ≤ 11) (j most : Int) :
  Fn Tryz.prog 51 [.pointer (some ⟨pb, 0, none⟩), .int .i64 j, .pointer (some ⟨rb, 0, none⟩), .int .i64 most] f (row rb 63 (refC m p l.length c (knownS (strm (l.map MV.m)))) :: slc p l.length c 47 121 (l.flatMap MV.vals) :: row pb 100 (peC n vv) :: F)
   (RSinceP f (row rb 63 (refC m p l.length c (knownS (strm (l.map MV.m)))) :: slc p l.length c 47 121 (l.flatMap MV.vals) :: row pb 100 (peC n vv) :: F) (lacksV n vv j most (l.map MV.m))) := by
 unfold lacksV
 by_cases h1 : 1 ≤ j
 ·by_cases h2 : j ≤ (n : Int)
  ·rw [if_pos ⟨h1, h2⟩]
   obtain ⟨i, hi, e, e2⟩ := idx18 ⟨h1, h2⟩
   have hi11 : i < 11 := by omega
   rw [e2]
   subst e
   clear e2 h1 h2
   refine Fn.enter Tryz.func51 rfl Tryz.ntmps51 rfl (L := [(0, _), (1, _), (2, _), (3, _)]) ⟨rfl, rfl, rfl, rfl, trivial⟩ fun base => ?_
   refine gX ?_
   refine H.Aw (i := i) rfl rfl rfl (by omega) hi11 rfl ?_
   refine H.Ah (ls := v11 (vv i)) rfl rfl rfl (peC_rd (.there _ (.there _ (.here _ _ _))) hi11) rfl rfl ?_
   refine gO ?_
   refine H.Bo rfl rfl rfl (rlsinceO_fn f _ hfl hi0 (v := vv i) (most := most)) fun v f' A' hr => ?_
   obtain ⟨p2, c2, R2, rfl, hR2, hR2g, rfl, rfl⟩ := hr
   refine gf ?_
   exact H.Ac rfl rfl (fun _ h => h) ⟨p2, c2, R2, rfl, hR2, hR2g, rfl, rfl⟩
  ·rw [if_neg (fun h => h2 h.2)]
   refine Fn.enter Tryz.func51 rfl Tryz.ntmps51 rfl (L := [(0, _), (1, _), (2, _), (3, _)]) ⟨rfl, rfl, rfl, rfl, trivial⟩ fun base => ?_
   refine gK ?_
   refine H.slc0 47 121 ?_
   exact H.Ac rfl rfl (fun _ h => h) ⟨none, 0, [], rfl, rfl, fun y hy => (by cases hy), rfl, rfl⟩
 ·rw [if_neg (fun h => h1 h.1)]
  refine Fn.enter Tryz.func51 rfl Tryz.ntmps51 rfl (L := [(0, _), (1, _), (2, _), (3, _)]) ⟨rfl, rfl, rfl, rfl, trivial⟩ fun base => ?_
  refine gU ?_
  refine H.slc0 47 121 ?_
  exact H.Ac rfl rfl (fun _ h => h) ⟨none, 0, [], rfl, rfl, fun y hy => (by cases hy), rfl, rfl⟩
end
structure WAt (f : Frag) (n : Nat) (W : W12) (kb : Nat) (ap : Option Addr) (l : List MV) : Prop where
 k : KAt f kb n W.kv
 a : ListAt f ap 121 MV.vals l
 g : ∀ x ∈ l, x.Good f
 m : l.map MV.m = W.all
def raised (kv : Nat → Nat → Int) (o j i : Nat) : Nat → Nat → Int := updF kv o fun t => if t < i then maxV (kv o) (kv j) t else kv o t
theorem raised_zero (kv : Nat → Nat → Int) (o j : Nat) : raised kv o j 0 = kv := by
 unfold raised
 have : (fun t => if t < 0 then maxV (kv o) (kv j) t else kv o t) = kv o := by funext t; rw [if_neg (by omega)]
 rw [this, updF_self]
theorem raised_o (kv : Nat → Nat → Int) (o j i : Nat) : raised kv o j i o i = kv o i := by
 unfold raised
 rw [zah]
 show (if i < i then _ else _) = _
 rw [if_neg (by omega)]
theorem raised_j (kv : Nat → Nat → Int) (o j i : Nat) : raised kv o j i j i = kv j i := by
 by_cases e : j = o
 ·subst e; exact raised_o kv j j i
 ·unfold raised; rw [zal _ _ e]
theorem raised_next (kv : Nat → Nat → Int) (o j i : Nat) : updF (raised kv o j i) o (updF (raised kv o j i o) i (maxV (kv o) (kv j) i)) = raised kv o j (i + 1) := by
 unfold raised
 rw [zah, updF_updF]
 congr 1
 funext t
 show (if t = i then _ else if t < i then _ else _) = if t < i + 1 then _ else _
 by_cases e : t = i
 ·subst e; rw [if_pos rfl, if_pos (by omega)]
 ·rw [if_neg e]
  by_cases h : t < i
  ·rw [if_pos h, if_pos (by omega)]
  ·rw [if_neg h, if_neg (by omega)]
theorem raised_end {n o j : Nat} (W : W12) : kRow n (raised W.kv o j 11) = kRow n (W.meet o j).kv := kRow_congr fun r _ i hi => by
 show raised W.kv o j 11 r i = updF W.kv o (maxV (W.kv o) (W.kv j)) r i
 unfold raised
 by_cases e : r = o
 ·subst e; rw [zah, zah, if_pos hi]
 ·rw [zal _ _ e, zal _ _ e]
section
variable (f : Frag) (F : List HP)
end
theorem ListAt.all {α : Type} {f : Frag} {p : Option Addr} {sz : Nat} {vals : α → List Value} {l : List α} (hv : ∀ x, (vals x).length = sz) (h1 : 0 < sz) (h : ListAt f p sz vals l) (h0 : 0 < l.length) :
  ∃ b off, p = some ⟨b, off, none⟩ ∧ ∀ (g : Frag) A i x, Le f g → l[i]? = some x → Rd g A b (off + i * sz) (vals x) := by
 obtain ⟨x0, hx0⟩ : ∃ x0, l[0]? = some x0 := ⟨_, List.getElem?_eq_getElem h0⟩
 obtain ⟨b, off, cs, T, fr, rfl, hfb, _⟩ := h 0 x0 hx0
 refine ⟨b, off, rfl, fun g A i x hle hx => ?_⟩
 obtain ⟨b', off', cs', T', fr', e, hfb', hcs'⟩ := h i x hx
 cases e
 exact Rd.imm (hle _ _ hfb') hcs'
theorem fewz_odd {n8 : UInt8} {n : Nat} (h : n = 3 + 2 * (n8.toNat % 5)) : fewZ (n : Int) := by
 refine ⟨by omega, by omega, ?_⟩
 exact zak (a := n) (b := 2) (r := 1) (by omega)
theorem WOK.next {n : Nat} {all : List Msg} (hW : WOK n all) {i : Nat} {y : Msg} (hy : all[i]? = some y) : chk n (strm (all.take i)) y = 0 := (hW i y hy).chk
section
variable (f : Frag) (F : List HP)
end
section
variable (f : Frag) (F : List HP)
end
theorem flat_splice {α : Type} {vals : α → List Value} {sz : Nat} (hv : ∀ x, (vals x).length = sz) {xs : List α} {i : Nat} (z : α) (hi : i < xs.length) (sp : List Value) :
  splice (xs.flatMap vals ++ sp) (i * sz) (vals z) = (xs.set i z).flatMap vals ++ sp := by
 have hx : xs[i]? = some xs[i] := List.getElem?_eq_getElem hi
 have hl : ((xs.take i).flatMap vals).length = i * sz := by rw [zbh hv, List.length_take, Nat.min_eq_left (by omega)]
 have h2 : (xs.set i z)[i]? = some z := by rw [List.getElem?_set_self hi]
 have e1 : (xs.set i z).take i = xs.take i := by rw [List.take_set_of_le (Nat.le_refl _)]
 have e2 : (xs.set i z).drop (i + 1) = xs.drop (i + 1) := by rw [List.drop_set_of_lt (by omega)]
 rw [flat_split xs hx, flat_split (xs.set i z) h2, e1, e2]
 generalize (xs.take i).flatMap vals = pre at hl
 unfold splice
 have e3 : pre ++ vals xs[i] ++ (xs.drop (i + 1)).flatMap vals ++ sp = pre ++ (vals xs[i] ++ ((xs.drop (i + 1)).flatMap vals ++ sp)) := by simp
 rw [e3, ← hl, List.take_left, hv z, ← hv xs[i], ← List.drop_drop, List.drop_left, List.drop_left]
 simp
section
variable {P : Program} {base : World} {n : Nat} {L : Env} {f : Frag} {A : List HP} {q : Post} {l rest : List Oper} {ty : TypeId} {pos : String} {af : Array Edge} {gd : Option (Nat × Bool)}
theorem H.storeE {α : Type} {vals : α → List Value} {sz : Nat} {t : TypeId} {x y : Operand} {b n0 c : Nat} {T : TypeId} {xs : List α} {i : Nat} {z : α} {A' : List HP} [hs : Siz P t sz] (hv : ∀ x, (vals x).length = sz) (h0 : 0 < sz) (hone : ∀ v ∈ vals z, one v = true) (hw : want? l L gd = true)
  (hx : ev? L x = some (.pointer (some ⟨b, i * sz, none⟩))) (hy : ev? L y = some (.agg (vals z).toArray)) (hi : i < xs.length)
  (hA : At A (slc (some ⟨b, 0, none⟩) n0 c T sz (xs.flatMap vals)) A' (slc (some ⟨b, 0, none⟩) n0 c T sz ((xs.set i z).flatMap vals)))
  (k : H P base n L f A' (.ops l rest q)) : H P base n L f A (.ops l (⟨none, .store t x y, ty, pos, af, gd⟩ :: rest) q) :=
 H.opS hw (fun a w hfr s => by
  obtain ⟨hl, hc, h3⟩ := s.slc_at hA
  have hn : xs.length = n0 := by
   rw [zbh hv] at hl
   exact Nat.eq_of_mul_eq_mul_right h0 hl
  rcases h3 with ⟨e, _⟩ | ⟨b', sp, e, hnc, hcs, hb⟩
  ·omega
  ·cases e
   have hle : i * sz + (vals z).length ≤ (xs.flatMap vals ++ sp).length := by
    rw [List.length_append, zbh hv, hv]
    have : (i + 1) * sz ≤ xs.length * sz := Nat.mul_le_mul_right _ hi
    rw [Nat.add_mul] at this
    omega
   have h1 := run_storeCells (P := P) (off := i * sz) (vals z) (xs.flatMap vals ++ sp) 0 w hb hone hle
   have hne : vals z ≠ [] := by intro h; have := hv z; rw [h] at this; simp at this; omega
   rw [if_neg hne, Nat.add_zero, flat_splice hv z hi] at h1
   refine ⟨World.putRow' w b T ((xs.set i z).flatMap vals ++ sp), ?_, s.turnRow hA (b := b) (o' := .cells ((xs.set i z).flatMap vals ++ sp).toArray T (0, 0)) ?_ rfl rfl rfl ?_ ?_⟩
   ·simp only [execOp, hfr.eval hx, hfr.eval hy, Instr.storeAt, Instr.sureAddr, storeVar, Value.cells, Sem.run_bind, Sem.run_pure, Result.andThen_ok, hs.run, List.size_toArray, hv]
    simp [h1]
   ·rintro m1 ⟨_, _, h⟩
    rcases h with ⟨h, _⟩ | ⟨b', sp', h, _, hcs', rfl⟩
    ·omega
    ·cases h; exact ⟨_, rfl⟩
   ·rfl
   ·have e4 : ((xs.set i z).flatMap vals).length = (xs.flatMap vals).length := by rw [zbh hv, zbh hv, List.length_set]
    refine ⟨by rw [e4]; exact hl, hc, .inr ⟨b, sp, rfl, hnc, ?_, rfl⟩⟩
    rw [List.length_append, e4, ← List.length_append]
    exact hcs) k
end
section
variable (f : Frag) (F : List HP)
end
structure PM where
 g : Int
 init : List (Int × Int)
 lv : Int
 ln : Int
namespace PM
def all (s : PM) : List (Int × Int) := s.init ++ [(s.lv, s.ln)]
def new : PM := ⟨0, [], 0, 0⟩
def isOpen (s : PM) (v : Int) : Bool := decide (v = s.g ∧ v = s.lv)
def changeOk (s : PM) (v : Int) : Bool := decide (s.g < v ∧ v < 1073741824)
def change (s : PM) (v : Int) : PM := if changeOk s v then { s with g := v } else s
def enterOk (s : PM) (v long : Int) : Bool := decide (s.lv < v ∧ s.g ≤ v ∧ v < 1073741824 ∧ 0 ≤ long)
def enter (s : PM) (v long : Int) : PM := if enterOk s v long then ⟨v, s.all, v, long⟩ else s
def prepare (s : PM) (v : Int) : PM := if isOpen s v then { s with ln := s.ln + 1 } else s
def commitOk (s : PM) (v k most : Int) : Bool := decide ((v = s.g ∧ v = s.lv) ∧ 0 ≤ most ∧ k ≤ most ∧ k = s.ln + 1)
def commit (s : PM) (v k most : Int) : PM := if commitOk s v k most then { s with ln := s.ln + 1 } else s
def voted : List (Int × Int) → Int → Option Int
 | [], _ => none
 | (w, n) :: r, v => if v = w then some n else voted r v
structure WF (s : PM) (B : Int) : Prop where
 rise : (s.all.map (·.1)).Pairwise (· < ·)
 low : ∀ p ∈ s.all, 0 ≤ p.1 ∧ p.1 < 1073741824 ∧ 0 ≤ p.2 ∧ p.2 ≤ B
 top : s.lv ≤ s.g
 g0 : 0 ≤ s.g
theorem new_wf : WF new 0 := ⟨by simp [new, all], by simp [new, all], by simp [new], by simp [new]⟩
theorem WF.last {s : PM} {B : Int} (h : WF s B) : 0 ≤ s.lv ∧ s.lv < 1073741824 ∧ 0 ≤ s.ln ∧ s.ln ≤ B := h.low (s.lv, s.ln) (by simp [all])
theorem WF.below {s : PM} {B : Int} (h : WF s B) : ∀ p ∈ s.init, p.1 < s.lv := by
 have := h.rise
 simp only [all, List.map_append, List.map_cons, List.map_nil, List.pairwise_append] at this
 intro p hp
 exact this.2.2 p.1 (List.mem_map.2 ⟨p, hp, rfl⟩) s.lv (by simp)
theorem WF.mono {s : PM} {B B' : Int} (h : WF s B) (hB : B ≤ B') : WF s B' := ⟨h.rise, fun p hp => by have := h.low p hp; omega, h.top, h.g0⟩
theorem WF.bump {s : PM} {B : Int} (h : WF s B) : WF { s with ln := s.ln + 1 } (B + 1) := by
 refine ⟨?_, ?_, h.top, h.g0⟩
 ·have := h.rise; simpa [all] using this
 ·intro p hp
  simp only [all, List.mem_append, List.mem_singleton] at hp
  rcases hp with hp | rfl
  ·have := h.low p (by simp [all, hp]); omega
  ·have := h.last; simp only; omega
theorem WF.change {s : PM} {B : Int} (h : WF s B) (v : Int) : WF (s.change v) B := by
 unfold PM.change
 split
 ·rename_i hc
  simp only [changeOk, decide_eq_true_eq] at hc
  refine ⟨h.rise, h.low, ?_, ?_⟩
  ·have := h.top; simp only; omega
  ·have := h.g0; simp only; omega
 ·exact h
theorem WF.enter {s : PM} {B : Int} (h : WF s B) (v long : Int) (hl : long ≤ B) : WF (s.enter v long) B := by
 unfold PM.enter
 split
 ·rename_i hc
  simp only [enterOk, decide_eq_true_eq] at hc
  refine ⟨?_, ?_, Int.le_refl _, ?_⟩
  ·show ((s.all ++ [(v, long)]).map (·.1)).Pairwise (· < ·)
   rw [List.map_append, List.pairwise_append]
   refine ⟨h.rise, by simp, ?_⟩
   intro a ha b hb
   simp at hb; subst hb
   obtain ⟨p, hp, rfl⟩ := List.mem_map.1 ha
   simp only [all, List.mem_append, List.mem_singleton] at hp
   rcases hp with hp | rfl
   ·have := h.below p hp; omega
   ·exact hc.1
  ·intro p hp
   simp only [all, List.mem_append, List.mem_singleton] at hp
   rcases hp with (hp | rfl) | rfl
   ·exact h.low p (by simp [all, hp])
   ·exact h.last
   ·have := h.last; simp only; omega
  ·have := h.last; simp only; omega
 ·exact h
theorem WF.prepare {s : PM} {B : Int} (h : WF s B) (v : Int) : WF (s.prepare v) (B + 1) := by
 unfold PM.prepare; split
 ·exact h.bump
 ·exact h.mono (by omega)
theorem WF.commit {s : PM} {B : Int} (h : WF s B) (v k most : Int) : WF (s.commit v k most) (B + 1) := by
 unfold PM.commit; split
 ·exact h.bump
 ·exact h.mono (by omega)
def kv (l : List (Int × Int)) : List (Int × Value) := l.map fun p => (p.1, .int .i64 p.2)
theorem kv_keys (l : List (Int × Int)) : (kv l).map (·.1) = l.map (·.1) := by simp [kv, Function.comp_def]
theorem getKV_kv (l : List (Int × Int)) (v : Int) : getKV (kv l) v = (voted l v).map (Value.int .i64) := by
 induction l with
 | nil => rfl
 | cons p r ih =>
  obtain ⟨w, n⟩ := p
  simp only [kv, List.map_cons, getKV, voted]
  split
  ·rfl
  ·exact ih
theorem put_absent {κ : Type} [DecidableEq κ] : ∀ (m : List (κ × Value)) (k : κ) (v : Value), k ∉ m.map (·.1) → putKV m k v = m ++ [(k, v)]
 | [], _, _, _ => rfl
 | (j, u) :: r, k, v, h => by
  have e : ¬ k = j := fun e => h (by simp [e])
  have := put_absent r k v (fun e => h (by simp at e ⊢; exact .inr e))
  simp [putKV, e, this]
theorem put_last {κ : Type} [DecidableEq κ] : ∀ (m : List (κ × Value)) (k : κ) (u v : Value), k ∉ m.map (·.1) → putKV (m ++ [(k, u)]) k v = m ++ [(k, v)]
 | [], k, u, v, _ => by simp [putKV]
 | (j, w) :: r, k, u, v, h => by
  have e : ¬ k = j := fun e => h (by simp [e])
  have := put_last r k u v (fun e => h (by simp at e ⊢; exact .inr e))
  simp [putKV, e, this]
theorem WF.not_init {s : PM} {B : Int} (h : WF s B) : s.lv ∉ s.init.map (·.1) := by
 intro hm
 obtain ⟨p, hp, e⟩ := List.mem_map.1 hm
 have := h.below p hp
 omega
theorem WF.kv_bump {s : PM} {B : Int} (h : WF s B) : putKV (kv s.all) s.lv (.int .i64 (s.ln + 1)) = kv ({ s with ln := s.ln + 1 } : PM).all := by
 have := put_last (kv s.init) s.lv (.int .i64 s.ln) (.int .i64 (s.ln + 1)) (by rw [kv_keys]; exact h.not_init)
 simpa [kv, all] using this
theorem WF.not_all {s : PM} {B v : Int} (h : WF s B) (hv : s.lv < v) : v ∉ s.all.map (·.1) := by
 intro hm
 obtain ⟨p, hp, e⟩ := List.mem_map.1 hm
 simp only [all, List.mem_append, List.mem_singleton] at hp
 rcases hp with hp | rfl
 ·have := h.below p hp; omega
 ·simp only at e; omega
theorem WF.kv_enter {s : PM} {B v long : Int} (h : WF s B) (hv : s.lv < v) : putKV (kv s.all) v (.int .i64 long) = kv (s.all ++ [(v, long)]) := by
 rw [put_absent _ _ _ (by rw [kv_keys]; exact h.not_all hv)]
 simp [kv]
theorem WF.kv_enter2 {s : PM} {B v long : Int} (h : WF s B) (hv : s.lv < v) (z : Value) : putKV (putKV (kv s.all) v z) v (.int .i64 long) = kv (s.all ++ [(v, long)]) := by
 rw [put_absent (kv s.all) _ _ (by rw [kv_keys]; exact h.not_all hv), put_last _ _ _ _ (by rw [kv_keys]; exact h.not_all hv)]
 simp [kv]
theorem voted_last {s : PM} {B : Int} (h : WF s B) : voted s.all s.lv = some s.ln := by
 have : ∀ l : List (Int × Int), s.lv ∉ l.map (·.1) → voted (l ++ [(s.lv, s.ln)]) s.lv = some s.ln := by
  intro l
  induction l with
  | nil => intro _; simp [voted]
  | cons p r ih =>
   intro hn
   obtain ⟨w, n⟩ := p
   have e : ¬ s.lv = w := fun e => hn (by simp [e])
   simp only [List.cons_append, voted, e, if_false]
   exact ih (fun e => hn (by simp at e ⊢; exact .inr e))
 exact this _ h.not_init
end PM
structure Vw where
 v : Int
 num : Int
 s : List Req
 p : List (Int × Req)
def Vw.all (w : Vw) : List Req := w.s ++ w.p.map Prod.snd
theorem Vw.all_len (w : Vw) : w.all.length = w.s.length + w.p.length := by unfold Vw.all; rw [List.length_append, List.length_map]
structure Lgs where
 n : Nat
 known : Nat → Int
 vs : List Vw
 past : Nat → PM
 ch : Nat → List (Int × Int)
def Lgs.new (n : Nat) : Lgs := ⟨n, fun _ => 0, [⟨0, 0, [], []⟩], fun _ => PM.new, fun _ => []⟩
def vwAt : List Vw → Int → Option Nat
 | [], _ => none
 | w :: r, v => if w.v = v then some 0 else (vwAt r v).map (· + 1)
theorem zav {vs : List Vw} {v : Int} {i : Nat} : vwAt vs v = some i ↔ (∃ w, vs[i]? = some w ∧ w.v = v) ∧ ∀ j w, j < i → vs[j]? = some w → w.v ≠ v := by
 induction vs generalizing i with
 | nil => simp [vwAt]
 | cons w r ih =>
  unfold vwAt
  by_cases h : w.v = v
  ·rw [if_pos h]
   refine ⟨fun e => ?_, fun ⟨_, e⟩ => ?_⟩
   ·cases e
    exact ⟨⟨w, rfl, h⟩, fun j w hj => by omega⟩
   ·cases i with
    | zero => rfl
    | succ i => exact absurd h (e 0 w (by omega) rfl)
  ·rw [if_neg h]
   cases i with
   | zero =>
    refine ⟨fun e => ?_, fun ⟨⟨w', e, e2⟩, _⟩ => ?_⟩
    ·cases hr : vwAt r v <;> rw [hr] at e <;> cases e
    ·cases e; exact absurd e2 h
   | succ i =>
    refine ⟨fun e => ?_, fun ⟨⟨w', e, e2⟩, e3⟩ => ?_⟩
    ·have e' : vwAt r v = some i := by
      cases hr : vwAt r v with
      | none => rw [hr] at e; cases e
      | some k => rw [hr] at e; simp at e; rw [e]
     obtain ⟨⟨w', e1, e2⟩, e3⟩ := ih.1 e'
     refine ⟨⟨w', e1, e2⟩, fun j x hj hx => ?_⟩
     cases j with
     | zero => cases hx; exact h
     | succ j => exact e3 j x (by omega) hx
    ·rw [ih.2 ⟨⟨w', e, e2⟩, fun j x hj hx => e3 (j + 1) x (by omega) hx⟩]
     rfl
theorem vwAt_none {vs : List Vw} {v : Int} : vwAt vs v = none ↔ ∀ w ∈ vs, w.v ≠ v := by
 induction vs with
 | nil => simp [vwAt]
 | cons w r ih =>
  unfold vwAt
  by_cases h : w.v = v
  ·rw [if_pos h]; simp [h]
  ·rw [if_neg h]
   cases hr : vwAt r v with
   | none => simp [h]; exact ih.1 hr
   | some k =>
    simp
    intro _
    obtain ⟨⟨w', e1, e2⟩, _⟩ := zav.1 hr
    exact ⟨w', List.mem_of_getElem? e1, e2⟩
def vwZ (vs : List Vw) (v : Int) : Int := match vwAt vs v with
 | none => -1
 | some i => (i : Nat)
def primI (n : Nat) (v : Int) : Nat := (v % (n : Int)).toNat
def primZ (n : Nat) (v : Int) : Int := 1 + ((primI n v : Nat) : Int)
def holdsB (l : List Req) (c t : Int) : Bool := l.any fun r => decide (r.client = c) && decide (r.time = t)
def chB (l : Lgs) (q : Int × Int) (v : Int) : Bool := (l.ch (q.1 - 1).toNat).any fun c => decide (c.1 = v) && decide (c.2 = q.2)
def bestOf (bv : Int) : List (Int × Int) → Int × Int → Int × Int
 | [], a => a
 | x :: r, a => bestOf bv r (if x.1 < bv ∧ (a.1 < x.1 ∨ (x.1 = a.1 ∧ a.2 < x.2)) then x else a)
def bestQ (past : Nat → PM) (bv : Int) : List (Int × Int) → Int × Int → Int × Int
 | [], a => a
 | q :: r, a => bestQ past bv r (bestOf bv (past (q.1 - 1).toNat).all a)
def insKF (v : Int) (vs : List Vw) : Nat → Nat
 | 0 => 0
 | k + 1 => match vs[k]? with
  | none => k + 1
  | some x => if v < x.v then insKF v vs k else k + 1
def insK (v : Int) (vs : List Vw) : Nat := insKF v vs vs.length
def insV (w : Vw) (vs : List Vw) : List Vw := vs.take (insK w.v vs) ++ w :: vs.drop (insK w.v vs)
theorem insKF_le (v : Int) (vs : List Vw) : ∀ k, insKF v vs k ≤ k
 | 0 => Nat.le_refl 0
 | k + 1 => by
  unfold insKF
  split
  ·exact Nat.le_refl _
  ·split
   ·exact Nat.le_succ_of_le (insKF_le v vs k)
   ·exact Nat.le_refl _
theorem insKF_above (v : Int) (vs : List Vw) : ∀ k j x, insKF v vs k ≤ j → j < k → vs[j]? = some x → v < x.v
 | 0, j, x, _, h, _ => by omega
 | k + 1, j, x, h1, h2, hx => by
  unfold insKF at h1
  cases hk : vs[k]? with
  | none => rw [hk] at h1; simp only at h1; omega
  | some y =>
   rw [hk] at h1
   simp only at h1
   by_cases hv : v < y.v
   ·rw [if_pos hv] at h1
    by_cases e : j = k
    ·subst e; rw [hk] at hx; cases hx; exact hv
    ·exact insKF_above v vs k j x h1 (by omega) hx
   ·rw [if_neg hv] at h1; omega
theorem insKF_below (v : Int) (vs : List Vw) : ∀ k x, 0 < insKF v vs k → vs[insKF v vs k - 1]? = some x → ¬ v < x.v
 | 0, x, h, _ => by unfold insKF at h; omega
 | k + 1, x, h, hx => by
  unfold insKF at h hx
  cases hk : vs[k]? with
  | none => rw [hk] at hx; simp only [Nat.add_sub_cancel] at hx; rw [hk] at hx; cases hx
  | some y =>
   rw [hk] at h hx
   simp only at h hx
   by_cases hv : v < y.v
   ·rw [if_pos hv] at h hx
    exact insKF_below v vs k x h hx
   ·rw [if_neg hv, Nat.add_sub_cancel, hk] at hx
    cases hx
    exact hv
theorem insV_perm (w : Vw) (vs : List Vw) : (w :: vs).Perm (insV w vs) := by
 unfold insV
 conv => lhs; rw [← List.take_append_drop (insK w.v vs) vs]
 exact List.perm_middle.symm
theorem bestOf_mem (bv : Int) : ∀ (l : List (Int × Int)) (a : Int × Int), bestOf bv l a = a ∨ bestOf bv l a ∈ l
 | [], a => .inl rfl
 | x :: r, a => by
  unfold bestOf
  split
  ·rcases bestOf_mem bv r x with h | h
   ·rw [h]; exact .inr (by simp)
   ·exact .inr (List.mem_cons_of_mem _ h)
  ·rcases bestOf_mem bv r a with h | h
   ·exact .inl h
   ·exact .inr (List.mem_cons_of_mem _ h)
theorem bestQ_mem (past : Nat → PM) (bv : Int) : ∀ (q : List (Int × Int)) (a : Int × Int), bestQ past bv q a = a ∨ ∃ p ∈ q, bestQ past bv q a ∈ (past (p.1 - 1).toNat).all
 | [], a => .inl rfl
 | x :: r, a => by
  unfold bestQ
  rcases bestQ_mem past bv r (bestOf bv (past (x.1 - 1).toNat).all a) with h | ⟨p, hp, h⟩
  ·rw [h]
   rcases bestOf_mem bv (past (x.1 - 1).toNat).all a with h2 | h2
   ·exact .inl h2
   ·exact .inr ⟨x, by simp, h2⟩
  ·exact .inr ⟨p, List.mem_cons_of_mem _ hp, h⟩
def Lgs.begins (l : Lgs) (m : Msg) : Bool × Lgs :=
 if m.body.q.length ≠ (l.n - 1) / 2 + 1 then (false, l) else
 if (m.body.q.all fun q => decide (q.2 ≤ m.deps (q.1 - 1).toNat) && chB l q m.body.view) = false then (false, l) else
 if (l.past (orgI m)).enterOk m.body.view (bestQ l.past m.body.view m.body.q (0, 0)).2 = false then (false, l) else
 (true, { l with
  past := updF l.past (orgI m) ((l.past (orgI m)).enter m.body.view (bestQ l.past m.body.view m.body.q (0, 0)).2)
  vs := insV ⟨m.body.view, m.number, ((match vwAt l.vs (bestQ l.past m.body.view m.body.q (0, 0)).1 with | none => [] | some i => (l.vs[i]?.map Vw.all).getD []).take (bestQ l.past m.body.view m.body.q (0, 0)).2.toNat), []⟩ l.vs })
def knowsV (w : Vw) (d : Int) : Nat := w.s.length + (w.p.filter fun x => decide (x.1 ≤ d)).length
def Lgs.doPast (l : Lgs) (r : Nat) (p : PM) : Lgs := { l with past := updF l.past r p }
def Lgs.counts (l : Lgs) (m : Msg) : Bool × Lgs :=
 let r := orgI m
 let p := l.past r
 let b := m.body
 let prim := decide (primZ l.n b.view = m.origin)
 let d := m.deps (primI l.n b.view)
 if b.kind = 3 then
  if p.changeOk b.view = true then (true, { l with past := updF l.past r (p.change b.view), ch := updF l.ch r (l.ch r ++ [(b.view, m.number)]) }) else (false, l)
 else if b.kind = 4 then (if prim = true then l.begins m else (false, l))
 else if b.kind = 5 then
  match vwAt l.vs b.view with
  | none => (false, l)
  | some i => match l.vs[i]? with
   | none => (false, l)
   | some w => if d < w.num then (false, l) else (p.enterOk b.view w.s.length, l.doPast r (p.enter b.view w.s.length))
 else if b.kind = 1 then
  match vwAt l.vs b.view with
  | none => (false, l)
  | some i => match l.vs[i]? with
   | none => (false, l)
   | some w => if prim = false ∨ b.req.auth = false ∨ holdsB w.all b.req.client b.req.time = true ∨ p.isOpen b.view = false then (false, l) else
    (true, { l with past := updF l.past r (p.prepare b.view), vs := l.vs.set i { w with p := w.p ++ [(m.number, b.req)] } })
 else if b.kind = 2 then
  match vwAt l.vs b.view with
  | none => (false, l)
  | some i => match l.vs[i]? with
   | none => (false, l)
   | some w => if prim = true then (false, l) else (p.commitOk b.view b.k (knowsV w d), l.doPast r (p.commit b.view b.k (knowsV w d)))
 else (decide (b.kind = 6), l)
def qIn (n : Nat) (m : Msg) : Bool := m.body.q.all fun p => decide (p.1 ≤ (n : Int))
def depsIn (m : Msg) (k : Nat → Int) : Bool := (List.range 11).all fun i => decide (m.deps i ≤ k i)
def Lgs.take (l : Lgs) (m : Msg) : (Bool × Int) × Lgs :=
 if m.may = false ∨ (l.n : Int) < m.origin ∨ qIn l.n m = false then ((false, 1), l) else
 if m.number ≠ l.known (orgI m) + 1 ∨ depsIn m l.known = false then ((false, 12), l) else
 (((l.counts m).1, 0), { (l.counts m).2 with known := updF (l.counts m).2.known (orgI m) ((l.counts m).2.known (orgI m) + 1) })
structure MIn (n : Nat) (m : Msg) : Prop where
 o : 1 ≤ m.origin ∧ m.origin ≤ (n : Int)
 q : ∀ p ∈ m.body.q, 1 ≤ p.1 ∧ p.1 ≤ (n : Int)
 v : 0 ≤ m.body.view
structure LI (l : Lgs) (T : Nat) : Prop where
 n3 : 3 ≤ l.n ∧ l.n ≤ 11
 kn : ∀ i, 0 ≤ l.known i ∧ l.known i ≤ (T : Int)
 wf : ∀ r, r < l.n → PM.WF (l.past r) T
 il : ∀ r, r < l.n → (l.past r).init.length ≤ T
 vl : l.vs.length ≤ T + 1
 cl : ∀ r, (l.ch r).length ≤ T
 al : ∀ w ∈ l.vs, w.all.length ≤ T
 log : ∀ r, r < l.n → ∀ p ∈ (l.past r).all, ∃ w ∈ l.vs, w.v = p.1 ∧ p.2 ≤ (w.all.length : Int)
 zero : ∃ w ∈ l.vs, w.v = 0
 rise : (l.vs.map Vw.v).Pairwise (· < ·)
 begun : ∀ w ∈ l.vs, w.v ≠ 0 → ∃ p ∈ (l.past (primI l.n w.v)).all, p.1 = w.v
 gb : ∀ r, r < l.n → (l.past r).g < 1073741824
theorem vwAt_mem {vs : List Vw} (h : (vs.map Vw.v).Pairwise (· < ·)) {w : Vw} (hw : w ∈ vs) : ∃ i, vwAt vs w.v = some i ∧ vs[i]? = some w := by
 obtain ⟨i, hi⟩ := List.getElem?_of_mem hw
 refine ⟨i, zav.2 ⟨⟨w, hi, rfl⟩, fun j x hj hx e => ?_⟩, hi⟩
 have h1 := (List.getElem?_eq_some_iff.1 hi)
 have h2 := (List.getElem?_eq_some_iff.1 hx)
 have := List.pairwise_iff_getElem.1 h j i (by rw [List.length_map]; exact h2.1) (by rw [List.length_map]; exact h1.1) hj
 rw [List.getElem_map, List.getElem_map, h1.2, h2.2, e] at this
 omega
theorem LI.best {l : Lgs} {T : Nat} (h : LI l T) {m : Msg} (hm : MIn l.n m) : ∃ i w, vwAt l.vs (bestQ l.past m.body.view m.body.q (0, 0)).1 = some i ∧ l.vs[i]? = some w ∧ 0 ≤ (bestQ l.past m.body.view m.body.q (0, 0)).2 ∧ (bestQ l.past m.body.view m.body.q (0, 0)).2 ≤ (w.all.length : Int) := by
 rcases bestQ_mem l.past m.body.view m.body.q (0, 0) with e | ⟨p, hp, hb⟩
 ·rw [e]
  obtain ⟨w, hw, h0⟩ := h.zero
  obtain ⟨i, h1, h2⟩ := vwAt_mem h.rise hw
  rw [h0] at h1
  exact ⟨i, w, h1, h2, Int.le_refl 0, by show (0 : Int) ≤ _; omega⟩
 ·have hq := hm.q p hp
  have hr : (p.1 - 1).toNat < l.n := by omega
  obtain ⟨w, hw, h0, h3⟩ := h.log _ hr _ hb
  obtain ⟨i, h1, h2⟩ := vwAt_mem h.rise hw
  rw [h0] at h1
  exact ⟨i, w, h1, h2, ((h.wf _ hr).low _ hb).2.2.1, h3⟩
theorem filt_take {α : Type} {p : α → Bool} {ws : List α} {i : Nat} {x : α} (hx : ws[i]? = some x) : (ws.take (i + 1)).filter p = (ws.take i).filter p ++ (if p x then [x] else []) := by
 rw [List.take_add_one, hx, List.filter_append]
 congr 1
 by_cases h : p x = true
 ·rw [if_pos h]; simp [h]
 ·rw [if_neg h]; simp [h]
end Go.Proofs.YtoigpgdmignaoaaGreatDoor
