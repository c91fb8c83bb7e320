/- Parts of the proof, one behind the other, each under its own heading. No conditions. -/
import Derived.Test.YtoigpgdmignaoaaGreatDoorZ07
import Derived.Test.YtoigpgdmignaoaaGreatDoorRows
import Derived.Test.YtoigpgdmignaoaaGreatDoorCards
import Derived.Test.YtoigpgdmignaoaaGreatDoorTie
set_option linter.unusedSectionVars false
set_option linter.unusedSimpArgs false
set_option linter.unusedVariables false
/- Layer 12: the law's example. Condition: the table of the standard stands in the fragment. -/
namespace Go.Proofs.YtoigpgdmignaoaaGreatDoor
open Go
theorem fits_signed (n : Nat) (m : Msg) : fitsB n m.signed = fitsB n m := by
  unfold fitsB
  rw [Msg.signed_may, m.signed_parts.1, m.signed_parts.2.2.1, m.signed_parts.2.2.2]
theorem chk_as {n : Nat} {S : Strm} {m : Msg} (h1 : fitsB n m = true) (h2 : m.right = true) {o k : Nat} {d : Nat → Int} {z : Int} (ho : orgI m = o) (hz : m.number = z) (hd : m.deps = d) (hk : (S o).length = k) :
    chk n S m = if z ≤ (k : Nat) then 13 else if z = ((k + 1 : Nat) : Int) ∧ 0 < k ∧ aboveB (lastD (S o)) d = true then 1 else if ((k + 1 : Nat) : Int) < z ∨ aboveB d (knownS S) = true then 12 else 0 := by
  unfold chk
  rw [if_neg (by rw [h1]; decide), if_neg (by rw [h2]; decide), ho, hz, hd, hk]
def bodC : Bod := { Bod.zero 3 with view := 1 }
def vec1 : Nat → Int
  | 0 => 1
  | _ + 1 => 0
def m1u : Msg := ⟨1, 1, fun _ => 0, bodC, noTag⟩
theorem m1u_fits : fitsB 3 m1u = true := by decide +kernel
theorem m1u_may : m1u.may = true := by decide +kernel
theorem bodC_ok : bodC.Ok := ⟨⟨by decide, by decide⟩, ⟨by decide, by decide⟩, reqz_ok⟩
theorem good_signed {m : Msg} {q : Option Addr} {c : Nat} {f : Frag} (h : (⟨m, q, c⟩ : MV).Good f) : (⟨m.signed, q, c⟩ : MV).Good f := by
  obtain ⟨h1, h2, h3⟩ := h
  refine ⟨?_, ?_, ?_⟩
  · show QAt f q m.signed.body.q; rw [m.signed_parts.2.2.2]; exact h1
  · show m.signed.body.q.length ≤ _; rw [m.signed_parts.2.2.2]; exact h2
  · show m.signed.body.Ok; rw [m.signed_parts.2.2.2]; exact h3
theorem H.weakL {P : Program} {base : World} {n : Nat} {L : Env} {f g : Frag} {A : List HP} {K : Kont} (h : Le f g) (k : H P base n L f A K) : H P base n L g A K := .mk fun a w hf s => k.out a w hf (s.weak h)
theorem tab_mono {f g : Frag} (t : TabAt f) (h : Le f g) : TabAt g := IntsAt.mono h t
section
variable (f : Frag) (F : List HP)
end
end Go.Proofs.YtoigpgdmignaoaaGreatDoor

/- Layer 13: the law's example. Condition: the table of the standard stands in the fragment. -/
namespace Go.Proofs.YtoigpgdmignaoaaGreatDoor
open Go
theorem put_room {e : Int} {ws ws' : List Msg} {m : Msg} {z : Int} (h : PutR e ws m z ws') (ho : openZ e = true) (hk : ∀ x ∈ ws, keyM x ≠ keyM m) (hc : cntO ws m.origin < 11) : z = 0 ∧ ws'.Perm (ws ++ [m]) := by
  cases h with
  | shut g => rw [ho] at g; cases g
  | again _ x hx e => exact absurd e (hk x hx)
  | room _ _ _ _ p => exact ⟨rfl, p⟩
  | full _ _ g => omega
  | swap _ _ g => omega
theorem next_no {c : Msg → Int} {ws ws' : List Msg} {r : Option Msg} (h : NextR c ws r ws') (hc : ∀ x ∈ ws, c x = 12) : r = none ∧ ws'.Perm ws := by
  have hf : (ws.filter fun x => openZ (c x)) = ws := by
    rw [List.filter_eq_self]
    intro x hx
    rw [hc x hx]; rfl
  cases h with
  | no _ _ p => rw [hf] at p; exact ⟨rfl, p⟩
  | yes x hx h0 => rw [hc x hx] at h0; cases h0
theorem next_yes {c : Msg → Int} {ws ws' : List Msg} {r : Option Msg} {m : Msg} (h : NextR c ws r ws') (hm : m ∈ ws) (h0 : c m = 0) (hc : ∀ x ∈ ws, x = m ∨ c x = 12) : r = some m ∧ (m :: ws').Perm ws := by
  have hf : (ws.filter fun x => openZ (c x)) = ws := by
    rw [List.filter_eq_self]
    intro x hx
    rcases hc x hx with h1 | h1
    · rw [h1, h0]; rfl
    · rw [h1]; rfl
  cases h with
  | no g => exact absurd h0 (g m hm)
  | yes x hx g0 _ _ p =>
    rcases hc x hx with h1 | h1
    · subst h1; rw [hf] at p; exact ⟨rfl, p⟩
    · rw [h1] at g0; cases g0
def bodD : Bod := { Bod.zero 3 with view := 2 }
def m3u : Msg := ⟨1, 2, vec1, bodD, noTag⟩
theorem m3u_fits : fitsB 3 m3u = true := by decide +kernel
theorem m3u_may : m3u.may = true := by decide +kernel
structure Ex13 (m1 m2 : Msg) : Prop where
  a : chk 3 (strm []) m2 = 12
  b : chk 3 (strm []) m1 = 0
  c : chk 3 (strm [m1]) m2 = 0
  n1 : m1.number = 1
  n2 : m2.number = 2
  o1 : m1.origin = 1
  o2 : m2.origin = 1
theorem ex13 : Ex13 m1u.signed m3u.signed := by
  have f1 : fitsB 3 m1u.signed = true := by rw [fits_signed]; exact m1u_fits
  have f2 : fitsB 3 m3u.signed = true := by rw [fits_signed]; exact m3u_fits
  have r1 := Msg.signed_isright m1u_may
  have r2 := Msg.signed_isright m3u_may
  obtain ⟨a1, a2, a3, _⟩ := m1u.signed_parts
  obtain ⟨b1, b2, b3, _⟩ := m3u.signed_parts
  generalize m1u.signed = m1 at *
  generalize m3u.signed = m2 at *
  have o1 : orgI m1 = 0 := by unfold orgI; rw [a1]; rfl
  have o2 : orgI m2 = 0 := by unfold orgI; rw [b1]; rfl
  have n1 : m1.number = 1 := a2
  have n2 : m2.number = 2 := b2
  have s1 : ∀ i, strm [m1] i = if i = 0 then [m1] else [] := fun i => by
    unfold strm
    rw [List.filter_cons, o1, List.filter_nil]
    by_cases h : i = 0
    · subst h; rfl
    · rw [if_neg h, if_neg (by rw [decide_eq_false (fun e => h e.symm)]; decide)]
  refine ⟨?_, ?_, ?_, n1, n2, a1, b1⟩
  · rw [chk_as f2 r2 o2 n2 b3 (k := 0) rfl]
    rw [if_neg (by decide), if_neg (by rintro ⟨_, h, _⟩; cases h), if_pos (.inl (by decide))]
  · rw [chk_as f1 r1 o1 n1 a3 (k := 0) rfl]
    rw [if_neg (by decide), if_neg (by rintro ⟨_, h, _⟩; cases h), if_neg (by decide)]
  · rw [chk_as f2 r2 o2 n2 b3 (k := 1) (by rw [s1]; rfl)]
    have hl : aboveB (lastD (strm [m1] 0)) m3u.deps = false := by
      refine aboveB_false.2 fun i hi => ?_
      rw [s1]
      show m1.deps i ≤ vec1 i
      rw [a3]
      match i with
      | 0 => show (0 : Int) ≤ 1; decide
      | i + 1 => exact Int.le_refl 0
    have hk : aboveB m3u.deps (knownS (strm [m1])) = false := by
      refine aboveB_false.2 fun i hi => ?_
      show vec1 i ≤ (((strm [m1] i).length : Nat) : Int)
      rw [s1]
      match i with
      | 0 => exact Int.le_refl 1
      | i + 1 => exact Int.le_refl 0
    rw [if_neg (by decide), if_neg (by rintro ⟨_, _, h⟩; rw [hl] at h; cases h), if_neg (by rw [hk]; decide)]
theorem bodD_ok : bodD.Ok := ⟨⟨by decide, by decide⟩, ⟨by decide, by decide⟩, reqz_ok⟩
theorem perm_one {a : List MV} {m : Msg} (h : (a.map MV.m).Perm [m]) : ∃ y, a = [y] ∧ y.m = m := by
  have h1 := List.perm_singleton.1 h
  match a, h1 with
  | [y], h1 => exact ⟨y, rfl, by simpa using h1⟩
section
variable (f : Frag) (F : List HP)
set_option maxHeartbeats 3200000 in
set_option maxRecDepth 20000 in
theorem works13_fn (htab : TabAt f) : Fn Tryz.prog 35 [] f F (Ret (.bool true) f F) := by
  have hex := ex13
  have gb : ∀ f, (⟨m1u.signed, none, 0⟩ : MV).Good f := fun f => good_signed ⟨QAt.nil f none, Nat.zero_le _, bodC_ok⟩
  have g2 : ∀ f, (⟨m3u.signed, none, 0⟩ : MV).Good f := fun f => good_signed ⟨QAt.nil f none, Nat.zero_le _, bodD_ok⟩
  have t1 := fun f G => rtagged_fn f G (m := m1u) (q := none) (qc := 0) (QAt.nil _ none) (Nat.zero_le _)
  have t2 := fun f G => rtagged_fn f G (m := m3u) (q := none) (qc := 0) (QAt.nil _ none) (Nat.zero_le _)
  generalize m1u.signed = m1 at *
  generalize m3u.signed = m2 at *
  obtain ⟨ha, hb, hc, n1, n2, o1, o2⟩ := hex
  have hne : keyM m2 ≠ keyM m1 := fun e => by
    have h1 : m2.number = m1.number := congrArg (·.2) e
    omega
  refine Fn.enter Tryz.func35 rfl Tryz.ntmps35 rfl (L := []) trivial fun base => ?_
  repeat (first | ((apply H.assign); (iterate 3 exact rfl)) | (first | apply H.seq | apply H.region | apply H.nil | apply H.then_normal))
  refine H.callE rfl rfl rfl (lnew_fn f F (n := 3) (by decide)) fun lb => ?_
  repeat (first | (refine H.build (t := 45) (out := bodC.vals none 0) rfl rfl rfl (by kernel_rfl) rfl ?_) | (refine H.build (t := 47) (out := m1u.vals none 0) rfl rfl rfl (by kernel_rfl) rfl ?_) | ((first | apply H.move | apply H.assign); (iterate 3 exact rfl)) | (first | apply H.seq | apply H.region | apply H.nil | apply H.then_normal) | ((apply H.cmp); (iterate 5 exact rfl)) | ((first | apply H.pickF | apply H.extract); (iterate 4 exact rfl)) | ((apply H.ptrNil); (iterate 5 exact rfl)) | (apply H.cond_false; exact rfl) | (apply H.skip))
  refine H.callR rfl rfl rfl (t1 f _) ?_
  refine H.alloc (ls := msgZ.vals none 0) rfl rfl rfl fun ob => ?_
  refine H.storeN (ls := msgZ.vals none 0) (vs := m1.vals none 0) (ls' := m1.vals none 0) rfl rfl rfl (allOne_mem rfl) rfl rfl (Nat.le_refl 121) (.here _ _ _) ?_
  repeat (first | (refine H.buildA (t := 37) (out := v11 vec1) rfl rfl rfl (by kernel_rfl) rfl ?_) | (refine H.build (t := 45) (out := bodD.vals none 0) rfl rfl rfl (by kernel_rfl) rfl ?_) | (refine H.build (t := 47) (out := m3u.vals none 0) rfl rfl rfl (by kernel_rfl) rfl ?_) | (first | apply H.seq | apply H.region | apply H.nil | apply H.then_normal))
  refine H.callR rfl rfl rfl (t2 f _) ?_
  refine H.alloc (ls := msgZ.vals none 0) rfl rfl rfl fun o2b => ?_
  refine H.storeN (ls := msgZ.vals none 0) (vs := m2.vals none 0) (ls' := m2.vals none 0) rfl rfl rfl (allOne_mem rfl) rfl rfl (Nat.le_refl 121) (.here _ _ _) ?_
  repeat ((first | apply H.seq | apply H.region | apply H.nil | apply H.then_normal))
  refine H.callE rfl rfl rfl (wnew_fn f _) fun wb => ?_
  repeat (first | ((first | apply H.move | apply H.assign); (iterate 3 exact rfl)) | (first | apply H.seq | apply H.region | apply H.nil | apply H.then_normal))
  refine H.loadN (ls := m2.vals none 0) rfl rfl rfl (Rd.ofRow (.there _ (.here _ _ _))) rfl rfl ?_
  refine H.front (x := loreH _ _ _ _) (by repeat (first | exact .here _ _ | apply Pull.there)) ?_
  refine H.front (x := waitH _ _ _) (by repeat (first | exact .here _ _ | apply Pull.there)) ?_
  refine H.call rfl rfl rfl (wput_fn f _ htab (Le.refl f) (n := 3) (ws := []) (l := []) (x := ⟨m2, none, 0⟩) (g2 f) (by decide)) fun v f' A' hr => ?_
  obtain ⟨q1, z1, w1, hp1, _, hd1, rfl, rfl, rfl⟩ := hr
  rw [show chk 3 (strm (([] : List MV).map MV.m)) (⟨m2, none, 0⟩ : MV).m = 12 from ha] at hp1
  obtain ⟨hz1, hq1⟩ := put_room hp1 rfl (fun x hx => by cases hx) (by show 0 < 11; decide)
  subst hz1
  obtain ⟨y2, rfl, hy2⟩ := perm_one hq1
  have hy2 : y2.m = m2 := hy2
  clear hp1 hq1
  have le1 := Le.un f q1
  generalize un f q1 = f1 at le1 ⊢
  repeat (first | ((first | apply H.move | apply H.assign); (iterate 3 exact rfl)) | (first | apply H.seq | apply H.region | apply H.nil | apply H.then_normal))
  refine H.call rfl rfl rfl (wnext_fn f1 _ (tab_mono htab le1) (Le.refl f1)) fun v f' A' hr => ?_
  obtain ⟨r1, w1, hn1, _, _, rfl, hff, rfl⟩ := hr
  rw [hff]
  obtain ⟨hr1, hp2⟩ := next_no hn1 (fun x hx => by
    rw [List.mem_singleton.1 (show x ∈ [y2.m] from hx), hy2]; exact ha)
  obtain rfl : r1 = none := by cases r1 with | none => rfl | some y => cases hr1
  obtain ⟨y3, rfl, hy3⟩ := perm_one (show (w1.map MV.m).Perm [m2] by rw [← hy2]; exact hp2)
  repeat (first | ((apply H.move); (iterate 3 exact rfl)) | ((apply H.extract); (iterate 4 exact rfl)))
  refine H.alloc (ls := msgZ.vals none 0) rfl rfl rfl fun nb => ?_
  refine H.storeN (ls := msgZ.vals none 0) (vs := msgZ.vals none 0) (ls' := msgZ.vals none 0) rfl rfl rfl (allOne_mem rfl) rfl rfl (Nat.le_refl 121) (.here _ _ _) ?_
  repeat (first | ((first | apply H.move | apply H.assign); (iterate 3 exact rfl)) | (first | apply H.seq | apply H.region | apply H.nil | apply H.then_normal))
  refine H.loadN (ls := m1.vals none 0) rfl rfl rfl (Rd.ofRow (.there _ (.there _ (.there _ (.there _ (.here _ _ _)))))) rfl rfl ?_
  refine H.front (x := loreH _ _ _ _) (by repeat (first | exact .here _ _ | apply Pull.there)) ?_
  refine H.front (x := waitH _ _ _) (by repeat (first | exact .here _ _ | apply Pull.there)) ?_
  refine H.call rfl rfl rfl (wput_fn f1 _ (tab_mono htab le1) (Le.refl f1) (n := 3) (ws := [y3]) (l := []) (x := ⟨m1, none, 0⟩) (gb f1) (by show 1 < 100000; decide)) fun v f' A' hr => ?_
  obtain ⟨q2, z2, w2, hp3, _, hd2, rfl, rfl, rfl⟩ := hr
  rw [show chk 3 (strm (([] : List MV).map MV.m)) (⟨m1, none, 0⟩ : MV).m = 0 from hb] at hp3
  obtain ⟨hz2, hq2⟩ := put_room hp3 rfl (fun x hx => by
    rw [List.mem_singleton.1 (show x ∈ [y3.m] from hx), hy3]; exact hne) (Nat.lt_of_le_of_lt (cntO_le _ _) (by show 1 < 11; decide))
  subst hz2
  have hq2 : (w2.map MV.m).Perm [m2, m1] := by rw [← hy3]; exact hq2
  clear hp3
  have le2 := le1.trans (Le.un f1 q2)
  generalize un f1 q2 = f2 at le2 ⊢
  repeat (first | ((first | apply H.move | apply H.assign); (iterate 3 exact rfl)) | (first | apply H.seq | apply H.region | apply H.nil | apply H.then_normal))
  refine H.call rfl rfl rfl (wnext_fn f2 _ (tab_mono htab le2) (Le.refl f2)) fun v f' A' hr => ?_
  obtain ⟨r2, w3, hn2, hg2', _, rfl, hff, rfl⟩ := hr
  rw [hff]
  obtain ⟨hr2, hp4⟩ := next_yes hn2 (m := m1) (hq2.mem_iff.2 (by simp)) hb (fun x hx => by
    rcases List.mem_cons.1 (hq2.mem_iff.1 hx) with h | h
    · right; rw [h]; exact ha
    · left; simpa using h)
  obtain ⟨y4, rfl, hy4⟩ : ∃ y4, r2 = some y4 ∧ y4.m = m1 := by
    cases r2 with
    | none => cases hr2
    | some y => exact ⟨y, rfl, by simpa using hr2⟩
  have hg4 := (hg2' y4 rfl).2
  obtain ⟨y5, rfl, hy5⟩ := perm_one (show (w3.map MV.m).Perm [m2] from ((hp4.trans hq2).trans (List.Perm.swap m1 m2 [])).cons_inv)
  clear hg2' hr2 hp4 hn2
  repeat (first | ((apply H.move); (iterate 3 exact rfl)) | ((apply H.extract); (iterate 4 exact rfl)))
  refine H.alloc (ls := msgZ.vals none 0) rfl rfl rfl fun xb => ?_
  refine H.storeN (ls := msgZ.vals none 0) (vs := y4.vals) (ls' := y4.vals) rfl rfl rfl (allOne_mem rfl) rfl rfl (Nat.le_refl 121) (.here _ _ _) ?_
  repeat (first | ((first | apply H.move | apply H.assign); (iterate 3 exact rfl)) | (first | apply H.seq | apply H.region | apply H.nil | apply H.then_normal))
  refine H.loadN (ls := y4.vals) rfl rfl rfl (Rd.ofRow (.here _ _ _)) rfl rfl ?_
  refine H.front (x := loreH _ _ _ _) (by repeat (first | exact .here _ _ | apply Pull.there)) ?_
  refine H.call (R := AddP f2 _ lb 3 [] y4.m) rfl rfl rfl (ladd_fn f2 _ (tab_mono htab le2) le2 hg4 (by decide)) fun v f' A' hr => ?_
  obtain ⟨g3, q3, c3, rfl, hd3, rfl, rfl⟩ := hr
  rw [show chk 3 (strm (([] : List MV).map MV.m)) y4.m = 0 by rw [hy4]; exact hb, if_pos rfl]
  have le3 := le2.trans (Le.un f2 g3)
  have up3 := Le.un f2 g3
  generalize un f2 g3 = f3 at le3 up3 ⊢
  repeat (first | ((apply H.move); (iterate 3 exact rfl)) | (first | apply H.seq | apply H.region | apply H.nil | apply H.then_normal))
  refine H.front (x := loreH _ _ _ _) (by repeat (first | exact .here _ _ | apply Pull.there)) ?_
  refine H.front (x := waitH _ _ _) (by repeat (first | exact .here _ _ | apply Pull.there)) ?_
  refine H.call rfl rfl rfl (wnext_fn f3 _ (tab_mono htab le3) up3) fun v f' A' hr => ?_
  obtain ⟨r3, w4, hn3, _, _, rfl, hff, rfl⟩ := hr
  rw [hff]
  obtain ⟨hr3, hp5⟩ := next_yes hn3 (m := m2) (by rw [← hy5]; simp) (by show chk 3 (strm [y4.m]) m2 = 0; rw [hy4]; exact hc) (fun x hx => by
    left; rw [List.mem_singleton.1 (show x ∈ [y5.m] from hx), hy5])
  obtain ⟨y6, rfl, hy6⟩ : ∃ y6, r3 = some y6 ∧ y6.m = m2 := by
    cases r3 with
    | none => cases hr3
    | some y => exact ⟨y, rfl, by simpa using hr3⟩
  have hw4 : w4.length = 0 := by
    have h1 := hp5.length_eq
    simp at h1
    rw [h1]; rfl
  clear hr3 hp5 hn3
  have hn4 : y4.m.number = 1 := by rw [hy4]; exact n1
  have hn6 : y6.m.number = 2 := by rw [hy6]; exact n2
  repeat (first | ((apply H.move); (iterate 3 exact rfl)) | ((apply H.extract); (iterate 4 exact rfl)))
  refine H.alloc (ls := msgZ.vals none 0) rfl rfl rfl fun yb => ?_
  refine H.storeN (ls := msgZ.vals none 0) (vs := y6.vals) (ls' := y6.vals) rfl rfl rfl (allOne_mem rfl) rfl rfl (Nat.le_refl 121) (.here _ _ _) ?_
  repeat (first | ((first | apply H.move | apply H.assign); (iterate 3 exact rfl)) | (apply H.fieldAddr; (iterate 3 exact rfl); exact inferInstance; exact rfl) | (apply H.load1; (iterate 3 exact rfl); apply Rd1.ofRow; (repeat (first | exact .here _ _ _ | apply At.there)); (iterate 2 exact rfl)) | (first | apply H.seq | apply H.region | apply H.nil | apply H.then_normal) | ((apply H.cmp); (iterate 5 exact rfl)) | (apply H.pickT; (iterate 4 exact rfl)) | ((apply H.not); (iterate 4 exact rfl)) | (apply H.gyes; (iterate 3 exact rfl); (assumption)))
  refine H.front (x := waitH _ _ _) (by repeat (first | exact .here _ _ | apply Pull.there)) ?_
  refine H.callR rfl rfl rfl (wlen_fn f3 _) ?_
  rw [hw4]
  repeat (first | ((apply H.assign); (iterate 3 exact rfl)) | (first | apply H.nil | apply H.then_normal) | ((apply H.cmp); (iterate 5 exact rfl)) | (apply H.pickT; (iterate 4 exact rfl)) | (apply H.ret))
  refine H.weakL le3 ?_
  iterate 7 refine H.drop (.here _ _) ?_
  exact H.ret1 rfl rfl (fun _ h => h) ⟨rfl, rfl, rfl⟩
end
end Go.Proofs.YtoigpgdmignaoaaGreatDoor

/- Layer 13, plain: messages of a world wait, and are taken. No program in sight; no conditions. -/
namespace Go.Proofs.YtoigpgdmignaoaaGreatDoor
open Go
theorem orgI_of {x y : Msg} (h : x.origin = y.origin) : orgI x = orgI y := by unfold orgI; rw [h]
theorem wuniq {n : Nat} {all : List Msg} (hW : WOK n all) {x y : Msg} (hx : x ∈ all) (hy : y ∈ all) (ho : orgI x = orgI y) (hn : x.number = y.number) : x = y := by
  obtain ⟨p, hp⟩ := strm_mem hx
  obtain ⟨q, hq⟩ := strm_mem hy
  rw [← ho] at hq
  have h1 := strm_numA hW hp
  have h2 := strm_numA hW hq
  have : p = q := by omega
  subst this
  rw [hp] at hq
  exact Option.some.inj hq
theorem upto_at {n : Nat} {pre post : List Msg} {m : Msg} {u : Nat → Int} (hW : WOK n (pre ++ m :: post)) (hn : m.number = u (orgI m) + 1) : uptoS (pre ++ m :: post) u (orgI m) = strm pre (orgI m) ∧ strm (pre ++ m :: post) (orgI m) = strm pre (orgI m) ++ m :: strm post (orgI m) := by
  have hnum := hW.at.num
  have hall : strm (pre ++ m :: post) (orgI m) = strm pre (orgI m) ++ m :: strm post (orgI m) := by
    rw [strm_app, strm_cons, if_pos rfl]; rfl
  refine ⟨?_, hall⟩
  unfold uptoS
  have hu : (u (orgI m)).toNat = cnt pre (orgI m) := by omega
  rw [hu, hall]
  unfold cnt
  exact List.take_left
theorem wchk0 {n : Nat} {all : List Msg} {u : Nat → Int} (hW : WOK n all) (hu : Knw all u) {m : Msg} (hm : m ∈ all) (hn : m.number = u (orgI m) + 1) (hd : ∀ i, i < 11 → m.deps i ≤ u i) : chk n (uptoS all u) m = 0 := by
  obtain ⟨pre, post, rfl⟩ := List.append_of_mem hm
  have hok := hW.at
  obtain ⟨h1, _⟩ := upto_at hW hn
  refine chk_ok hok.fits hok.right ?_ (fun hp i hi => ?_) fun i hi => ?_
  · rw [h1]; exact hok.num
  · rw [h1] at hp ⊢
    obtain ⟨x, hx, e⟩ := lastD_mem hp
    rw [e]
    unfold strm at hx
    rw [List.mem_filter] at hx
    exact hok.mono x hx.1 (of_decide_eq_true hx.2) i hi
  · rw [knownS_uptoS hu]; exact hd i hi
theorem wchk {n : Nat} {all : List Msg} {u : Nat → Int} (hW : WOK n all) (hu : Knw all u) {m : Msg} (hm : m ∈ all) :
    (m.number ≤ u (orgI m) ∧ chk n (uptoS all u) m = 13) ∨ (u (orgI m) < m.number ∧ chk n (uptoS all u) m = 12) ∨ (m.number = u (orgI m) + 1 ∧ (∀ i, i < 11 → m.deps i ≤ u i) ∧ chk n (uptoS all u) m = 0) := by
  have hk := knownS_uptoS hu
  have hlen : (((uptoS all u (orgI m)).length : Nat) : Int) = u (orgI m) := hk (orgI m)
  have hfr : fitsB n m = true ∧ m.right = true := by
    obtain ⟨pre, post, rfl⟩ := List.append_of_mem hm
    exact ⟨hW.at.fits, hW.at.right⟩
  by_cases h1 : m.number ≤ u (orgI m)
  · refine .inl ⟨h1, ?_⟩
    unfold chk
    rw [if_neg (by rw [hfr.1]; decide), if_neg (by rw [hfr.2]; decide), if_pos (by omega)]
  · by_cases h2 : m.number = u (orgI m) + 1 ∧ ∀ i, i < 11 → m.deps i ≤ u i
    · exact .inr (.inr ⟨h2.1, h2.2, wchk0 hW hu hm h2.1 h2.2⟩)
    · refine .inr (.inl ⟨by omega, ?_⟩)
      unfold chk
      rw [if_neg (by rw [hfr.1]; decide), if_neg (by rw [hfr.2]; decide), if_neg (by omega), if_neg, if_pos]
      · by_cases h3 : m.number = u (orgI m) + 1
        · right
          cases ha : aboveB m.deps (knownS (uptoS all u)) with
          | true => rfl
          | false =>
            refine absurd ⟨h3, fun i hi => ?_⟩ h2
            have := aboveB_false.1 ha i hi
            rwa [hk] at this
        · left; omega
      · rintro ⟨e, hp, ha⟩
        obtain ⟨pre, post, rfl⟩ := List.append_of_mem hm
        obtain ⟨g1, _⟩ := upto_at (u := u) hW (by omega)
        rw [g1] at hp ha
        obtain ⟨x, hx, e2⟩ := lastD_mem hp
        unfold strm at hx
        rw [List.mem_filter] at hx
        rw [e2, aboveB_false.2 fun i hi => hW.at.mono x hx.1 (of_decide_eq_true hx.2) i hi] at ha
        cases ha
theorem wtake {n : Nat} {all : List Msg} {u : Nat → Int} (hW : WOK n all) (hu : Knw all u) {m : Msg} (hm : m ∈ all) (h0 : chk n (uptoS all u) m = 0) : addS (uptoS all u) m = uptoS all (nextU u m) ∧ Knw all (nextU u m) := by
  obtain ⟨hn, hd⟩ : m.number = u (orgI m) + 1 ∧ ∀ i, i < 11 → m.deps i ≤ u i := by
    rcases wchk hW hu hm with ⟨_, h⟩ | ⟨_, h⟩ | ⟨a, b, _⟩
    · rw [h] at h0; cases h0
    · rw [h] at h0; cases h0
    · exact ⟨a, b⟩
  have hun : ∀ x ∈ all, orgI x = orgI m → x.number = m.number → x = m := fun x hx e1 e2 => wuniq hW hx hm e1 e2
  obtain ⟨pre, post, rfl⟩ := List.append_of_mem hm
  obtain ⟨g1, g2⟩ := upto_at hW hn
  have hnum := hW.at.num
  have hle := hu.le (orgI m)
  have hge : ∀ i, u i ≤ nextU u m i := fun i => by
    unfold nextU updF
    split
    · rename_i e; rw [e]; omega
    · exact Int.le_refl _
  constructor
  · funext i
    unfold addS updF
    by_cases e : i = orgI m
    · subst e
      rw [if_pos rfl, g1]
      have e1 : nextU u m (orgI m) = u (orgI m) + 1 := by unfold nextU updF; rw [if_pos rfl]
      unfold uptoS
      rw [e1, g2, show (u (orgI m) + 1).toNat = (strm pre (orgI m)).length + 1 by unfold cnt at hnum; omega]
      rw [List.take_append, List.take_of_length_le (by omega), Nat.add_sub_cancel_left]
      rfl
    · rw [if_neg e]
      have e1 : nextU u m i = u i := by unfold nextU updF; rw [if_neg e]
      unfold uptoS
      rw [e1]
  · refine ⟨fun i => ?_, fun x hx hxn i hi => ?_⟩
    · by_cases e : i = orgI m
      · subst e
        have e1 : nextU u m (orgI m) = u (orgI m) + 1 := by unfold nextU updF; rw [if_pos rfl]
        have e2 : cnt (pre ++ m :: post) (orgI m) = cnt pre (orgI m) + 1 + cnt post (orgI m) := by
          unfold cnt; rw [g2, List.length_append, List.length_cons]; omega
        rw [e1, e2]
        omega
      · have e1 : nextU u m i = u i := by unfold nextU updF; rw [if_neg e]
        rw [e1]; exact hu.le i
    · refine Int.le_trans ?_ (hge i)
      by_cases e : orgI x = orgI m
      · have e1 : nextU u m (orgI m) = u (orgI m) + 1 := by unfold nextU updF; rw [if_pos rfl]
        rw [e, e1] at hxn
        by_cases h : x.number ≤ u (orgI m)
        · exact hu.closed x hx (by rw [e]; exact h) i hi
        · rw [hun x hx e (by omega)]; exact hd i hi
      · have e1 : nextU u m (orgI x) = u (orgI x) := by unfold nextU updF; rw [if_neg e]
        rw [e1] at hxn
        exact hu.closed x hx hxn i hi
theorem nextU_ge (u : Nat → Int) (m : Msg) (i : Nat) : u i ≤ nextU u m i := by
  unfold nextU updF
  split
  · rename_i e; rw [e]; omega
  · exact Int.le_refl _
structure WtI (n : Nat) (all : List Msg) (u : Nat → Int) (ws : List Msg) : Prop where
  knw : Knw all u
  sub : ∀ x ∈ ws, x ∈ all
  ku : KU ws
  cnt : ∀ o, cntO ws o ≤ 11
def Idle (n : Nat) (all : List Msg) (u : Nat → Int) (ws : List Msg) : Prop := ∀ x ∈ ws, chk n (uptoS all u) x = 12
def Rdy (n : Nat) (all : List Msg) (u : Nat → Int) (m : Msg) : Prop := m ∈ all ∧ chk n (uptoS all u) m = 0
def Aim (n : Nat) (all : List Msg) (u : Nat → Int) (ws : List Msg) (m : Msg) : Prop := m.number ≤ u (orgI m) ∨ (Rdy n all u m ∧ m ∈ ws)
theorem Rdy.mono {n : Nat} {all : List Msg} {u u' : Nat → Int} {m : Msg} (hW : WOK n all) (hu : Knw all u) (hu' : Knw all u') (hle : ∀ i, u i ≤ u' i) (h : Rdy n all u m) : m.number ≤ u' (orgI m) ∨ Rdy n all u' m := by
  obtain ⟨hn, hd⟩ : m.number = u (orgI m) + 1 ∧ ∀ i, i < 11 → m.deps i ≤ u i := by
    rcases wchk hW hu h.1 with ⟨_, h'⟩ | ⟨_, h'⟩ | ⟨a, b, _⟩
    · have := h.2; rw [h'] at this; cases this
    · have := h.2; rw [h'] at this; cases this
    · exact ⟨a, b⟩
  by_cases h1 : m.number ≤ u' (orgI m)
  · exact .inl h1
  · have := hle (orgI m)
    exact .inr ⟨h.1, wchk0 hW hu' h.1 (by omega) fun i hi => Int.le_trans (hd i hi) (hle i)⟩
theorem put_ready {n : Nat} {all : List Msg} {u : Nat → Int} {ws ws' : List Msg} {m : Msg} {z : Int} (hW : WOK n all) (hI : WtI n all u ws) (hid : Idle n all u ws) (hr : Rdy n all u m) (h : PutR (chk n (uptoS all u) m) ws m z ws') : m ∈ ws' := by
  obtain ⟨hm, h0⟩ := hr
  rw [h0] at h
  have hn : m.number = u (orgI m) + 1 := by
    rcases wchk hW hI.knw hm with ⟨_, h'⟩ | ⟨_, h'⟩ | ⟨a, b, _⟩
    · rw [h'] at h0; cases h0
    · rw [h'] at h0; cases h0
    · exact a
  cases h with
  | shut g => cases g
  | again _ x hx hk =>
    have h1 := hid x hx
    have hk' : (x.origin, x.number) = (m.origin, m.number) := hk
    injection hk' with k1 k2
    rw [wuniq hW (hI.sub x hx) hm (orgI_of k1) k2, h0] at h1
    cases h1
  | room _ _ _ _ p => exact p.mem_iff.2 (by simp)
  | full _ _ _ t ht hl =>
    have h1 := hid t ht.mem
    have e := orgI_of ht.org
    rcases wchk hW hI.knw (hI.sub t ht.mem) with ⟨_, h'⟩ | ⟨h', _⟩ | ⟨h', _⟩
    · rw [h'] at h1; cases h1
    · rw [e] at h'; omega
    · rw [e] at h'; omega
  | swap _ _ _ t ht _ _ p =>
    have h2 : m ∈ t :: ws' := p.mem_iff.2 (by simp)
    rcases List.mem_cons.1 h2 with h3 | h3
    · have h1 := hid t ht.mem
      rw [← h3, h0] at h1
      cases h1
    · exact h3
theorem WtI.put {n : Nat} {all : List Msg} {u : Nat → Int} {ws ws' : List Msg} {m : Msg} {e z : Int} (hI : WtI n all u ws) (hm : m ∈ all) (h : PutR e ws m z ws') : WtI n all u ws' :=
  ⟨hI.knw, fun x hx => by
    rcases h.mem hx with h1 | ⟨h1, _⟩
    · exact hI.sub x h1
    · rw [h1]; exact hm, h.ku hI.ku, h.cnt hI.cnt⟩
theorem WtI.next {n : Nat} {all : List Msg} {u : Nat → Int} {ws ws' : List Msg} {x : Msg} (hW : WOK n all) (hI : WtI n all u ws) (h : NextR (chk n (uptoS all u)) ws (some x) ws') :
    Rdy n all u x ∧ x ∈ ws ∧ addS (uptoS all u) x = uptoS all (nextU u x) ∧ WtI n all (nextU u x) ws' := by
  have hc := h.cnt hI.cnt
  have hk := h.ku hI.ku
  have hm := fun y (hy : y ∈ ws') => hI.sub y (h.mem hy).1
  cases h with
  | yes _ hx h0 _ _ p =>
    obtain ⟨a, b⟩ := wtake hW hI.knw (hI.sub x hx) h0
    exact ⟨⟨hI.sub x hx, h0⟩, hx, a, b, hm, hk, hc⟩
theorem Aim.next {n : Nat} {all : List Msg} {u : Nat → Int} {ws ws' : List Msg} {x m : Msg} (hW : WOK n all) (hI : WtI n all u ws) (h : NextR (chk n (uptoS all u)) ws (some x) ws') (ha : Aim n all u ws m) : Aim n all (nextU u x) ws' m := by
  obtain ⟨hr, _, _, hI'⟩ := hI.next hW h
  rcases ha with ha | ⟨ha, hw⟩
  · exact .inl (Int.le_trans ha (nextU_ge u x _))
  · rcases ha.mono hW hI.knw hI'.knw (nextU_ge u x) with h1 | h1
    · exact .inl h1
    · by_cases e : m = x
      · subst e
        left
        rcases wchk hW hI.knw ha.1 with ⟨_, h'⟩ | ⟨_, h'⟩ | ⟨a, b, _⟩
        · have := ha.2; rw [h'] at this; cases this
        · have := ha.2; rw [h'] at this; cases this
        · unfold nextU updF; rw [if_pos rfl]; omega
      · refine .inr ⟨h1, ?_⟩
        cases h with
        | yes _ hx h0 _ _ p =>
          have h2 : m ∈ x :: ws' := p.mem_iff.2 (List.mem_filter.2 ⟨hw, by rw [ha.2]; rfl⟩)
          rcases List.mem_cons.1 h2 with h3 | h3
          · exact absurd h3 e
          · exact h3
theorem WtI.stop {n : Nat} {all : List Msg} {u : Nat → Int} {ws ws' : List Msg} (hI : WtI n all u ws) (h : NextR (chk n (uptoS all u)) ws none ws') :
    WtI n all u ws' ∧ Idle n all u ws' ∧ ∀ m, Aim n all u ws m → m.number ≤ u (orgI m) := by
  refine ⟨⟨hI.knw, fun y hy => hI.sub y (h.mem hy).1, h.ku hI.ku, h.cnt hI.cnt⟩, fun x hx => ?_, fun m ha => ?_⟩
  · obtain ⟨h1, h2⟩ := h.mem hx
    rcases openZ_true.1 h2 with h3 | h3
    · cases h with
      | no g => exact absurd h3 (g x h1)
    · exact h3
  · rcases ha with ha | ⟨ha, hw⟩
    · exact ha
    · cases h with
      | no g => exact absurd ha.2 (g m hw)
/-! ### How much is known -/
def sumTo (g : Nat → Int) : Nat → Int
  | 0 => 0
  | k + 1 => sumTo g k + g k
theorem sumTo_le {g h : Nat → Int} (hle : ∀ i, g i ≤ h i) : ∀ k, sumTo g k ≤ sumTo h k
  | 0 => Int.le_refl _
  | k + 1 => Int.add_le_add (sumTo_le hle k) (hle k)
theorem sumTo_lt {g h : Nat → Int} (hle : ∀ i, g i ≤ h i) {o : Nat} (ho : g o < h o) : ∀ k, o < k → sumTo g k + 1 ≤ sumTo h k
  | 0, hk => absurd hk (Nat.not_lt_zero _)
  | k + 1, hk => by
    show sumTo g k + g k + 1 ≤ sumTo h k + h k
    by_cases e : o = k
    · subst e
      have := sumTo_le hle o
      omega
    · have := sumTo_lt hle ho k (by omega)
      have := hle k
      omega
theorem sumTo_ind {g : Nat → Int} {o : Nat} : ∀ k, sumTo (fun i => g i + (if i = o then 1 else 0)) k = sumTo g k + (if o < k then 1 else 0)
  | 0 => rfl
  | k + 1 => by
    show sumTo (fun i => g i + (if i = o then 1 else 0)) k + (g k + (if k = o then 1 else 0)) = sumTo g k + g k + _
    rw [sumTo_ind k]
    by_cases h1 : o < k
    · rw [if_pos h1, if_neg (by omega), if_pos (by omega)]; omega
    · rw [if_neg h1]
      by_cases h2 : k = o
      · rw [if_pos h2, if_pos (by omega)]; omega
      · rw [if_neg h2, if_neg (by omega)]; omega
theorem len_sum (N : Nat) : ∀ l : List Msg, (∀ x ∈ l, orgI x < N) → (l.length : Int) = sumTo (fun i => (cnt l i : Nat)) N
  | [], _ => by
    have : ∀ k, sumTo (fun i => ((cnt [] i : Nat) : Int)) k = 0 := fun k => by
      induction k with
      | zero => rfl
      | succ k ih => show sumTo _ k + _ = 0; rw [ih]; rfl
    rw [this]; rfl
  | x :: l, h => by
    have ih := len_sum N l fun y hy => h y (List.mem_cons_of_mem x hy)
    have e : (fun i => ((cnt (x :: l) i : Nat) : Int)) = fun i => ((cnt l i : Nat) : Int) + (if i = orgI x then 1 else 0) := by
      funext i
      unfold cnt
      rw [strm_cons, List.length_append]
      by_cases e : i = orgI x
      · rw [if_pos e, if_pos e]; show ((1 + _ : Nat) : Int) = _; omega
      · rw [if_neg e, if_neg e]; show ((0 + _ : Nat) : Int) = _; omega
    rw [e, sumTo_ind, if_pos (h x (by simp)), ← ih, List.length_cons]
    omega
def AllK (all : List Msg) (u : Nat → Int) : Prop := ∀ i, u i = (cnt all i : Nat)
theorem org_lt {n : Nat} (hn : n ≤ 11) {all : List Msg} (hW : WOK n all) {x : Msg} (hx : x ∈ all) : orgI x < 11 := by
  obtain ⟨pre, post, rfl⟩ := List.append_of_mem hx
  have := hW.at.org
  unfold orgI
  omega
end Go.Proofs.YtoigpgdmignaoaaGreatDoor

/- Layer 13, plain: round by round all messages of a world are taken. No program in sight; no conditions. -/
namespace Go.Proofs.YtoigpgdmignaoaaGreatDoor
open Go
theorem sumTo_nonneg {g : Nat → Int} (h : ∀ i, 0 ≤ g i) : ∀ k, 0 ≤ sumTo g k
  | 0 => Int.le_refl _
  | k + 1 => by
    have := sumTo_nonneg h k
    have := h k
    show 0 ≤ sumTo g k + g k
    omega
theorem sum_next {u : Nat → Int} {m : Msg} (h : orgI m < 11) : sumTo (nextU u m) 11 = sumTo u 11 + 1 := by
  have e : nextU u m = fun i => u i + (if i = orgI m then 1 else 0) := by
    funext i
    unfold nextU updF
    by_cases e : i = orgI m
    · rw [if_pos e, if_pos e, e]
    · rw [if_neg e, if_neg e, Int.add_zero]
  rw [e, sumTo_ind, if_pos h]
theorem sum_all {n : Nat} (hn : n ≤ 11) {all : List Msg} {u : Nat → Int} (hW : WOK n all) (hu : Knw all u) : sumTo u 11 ≤ all.length ∧ (AllK all u → sumTo u 11 = all.length) := by
  have h2 := len_sum 11 all fun x hx => org_lt hn hW hx
  refine ⟨by rw [h2]; exact sumTo_le (fun i => (hu.le i).2) 11, fun hk => ?_⟩
  rw [h2]
  congr 1
  funext i
  exact hk i
theorem zero_knw (all : List Msg) : Knw all (fun _ => 0) ↔ ∀ x ∈ all, x.number ≤ 0 → ∀ i, i < 11 → x.deps i ≤ 0 :=
  ⟨fun h x hx hn i hi => h.closed x hx hn i hi, fun h => ⟨fun i => ⟨Int.le_refl _, by show (0 : Int) ≤ _; omega⟩, h⟩⟩
theorem knw0 {n : Nat} {all : List Msg} (hW : WOK n all) : Knw all (fun _ => 0) := (zero_knw all).2 fun x hx hn => by
  obtain ⟨p, hp⟩ := strm_mem hx
  have := strm_numA hW hp
  omega
theorem upto0 (all : List Msg) : uptoS all (fun _ => 0) = strm [] := by
  funext i
  unfold uptoS
  show List.take 0 _ = _
  rw [List.take_zero]
  rfl
theorem WtI.few {n : Nat} (hn : n ≤ 11) {all : List Msg} {u : Nat → Int} {ws : List Msg} (hW : WOK n all) (hI : WtI n all u ws) : ws.length ≤ 121 :=
  len_few 11 ws (fun x hx => by
    obtain ⟨pre, post, e⟩ := List.append_of_mem (hI.sub x hx)
    rw [e] at hW
    have := hW.at.org
    omega) hI.cnt
theorem WtI.nil {n : Nat} {all : List Msg} (hW : WOK n all) : WtI n all (fun _ => 0) [] := ⟨knw0 hW, fun x hx => (by cases hx), List.nodup_nil, fun o => Nat.zero_le _⟩
end Go.Proofs.YtoigpgdmignaoaaGreatDoor

/- Layer 12: LoreNil. Condition: the table of the standard stands in the fragment. -/
namespace Go.Proofs.YtoigpgdmignaoaaGreatDoor
open Go
section
variable (f : Frag) (F : List HP)
end
end Go.Proofs.YtoigpgdmignaoaaGreatDoor

/- Layer 12: the document's worlds: few acts; what an act says. No condition. -/
namespace Go.Proofs.YtoigpgdmignaoaaGreatDoor
open Go
def bodS (v : Int) (p : Option Addr) (m c : Nat) : List Value := [.int .u8 4, .int .u64 v, .int .u64 0] ++ Req.zero.vals ++ [.slice p m c] ++ b32 noTag
theorem bodS_eq (v : Int) (q : List (Int × Int)) (p : Option Addr) (c : Nat) : ({ Bod.zero 4 with view := v, q := q } : Bod).vals p c = bodS v p q.length c := rfl
theorem bodS_set (v : Int) (p p' : Option Addr) (m m' c c' : Nat) : SetV (bodS v p m c) 43 (.slice p' m' c') (bodS v p' m' c') := by
  have e : bodS v p' m' c' = (bodS v p m c).set 43 (.slice p' m' c') := rfl
  rw [e]
  exact SetV.mk _ (show 43 < 76 by decide)
def bodV (k : UInt8) (v : Int) : Bod := ⟨k, v, 0, Req.zero, [], noTag⟩
theorem tmod_nat {a b r : Nat} (h : a % b = r) : ((a : Nat) : Int).tmod ((b : Nat) : Int) = (r : Nat) := by rw [← h, Int.ofNat_tmod]
def BodP (f : Frag) (F : List HP) (b : Bod) : Value → Frag → List HP → Prop := fun v f' A' =>
  ∃ (g : Frag) (p : Option Addr) (c : Nat), v = .agg (b.vals p c).toArray ∧ QAt (un f g) p b.q ∧ Dj f g ∧ f' = un f g ∧ A' = F
theorem top_more {n r : Nat} {x : A12} (h1 : 1 ≤ r) (h : r < x.top n) : r + 1 ≤ n ∧ r + 1 ≤ x.q.length := by
  unfold A12.top at h
  split at h
  · omega
  · split at h <;> omega
theorem top_end {n r : Nat} {x : A12} (hn : 1 ≤ n) (h : r = x.top n) : ¬ (r + 1 ≤ n ∧ r + 1 ≤ x.q.length) := by
  unfold A12.top at h
  split at h
  · omega
  · split at h <;> omega
theorem qTo_next (x : A12) {r : Nat} (h1 : 1 ≤ r) : x.qTo (r + 1) = x.qTo r ++ [(((r + 1 : Nat) : Int), 1 + (((x.q.getD r 0).toNat % 8 : Nat) : Int))] := by
  obtain ⟨k, rfl⟩ : ∃ k, r = k + 1 := ⟨r - 1, by omega⟩
  rfl
section
variable (f : Frag) (F : List HP)
theorem few12_fn {p : Option Addr} {c : Nat} {l : List A12} (hat : ListAt f p 8 A12.vals l) (hl : l.length ≤ 9223372036854775807) : Fn Tryz.prog 15 [.slice p l.length c] f F (Ret (.bool (few12 l)) f F) := by
  by_cases h30 : l.length ≤ 100
  · refine Fn.enter Tryz.func15 rfl Tryz.ntmps15 rfl (L := [(0, _)]) ⟨rfl, trivial⟩ fun base => ?_
    repeat (first | ((first | apply H.move | apply H.assign | apply H.len_slice); (iterate 3 exact rfl)) | (first | apply H.seq | apply H.region | apply H.nil | apply H.then_normal) | ((apply H.cmp); (iterate 5 exact rfl)) | (first | apply H.skip | apply H.block) | (apply H.cond_no; exact rfl; (omega)))
    refine H.loop (ι := Nat) (fun i => [(3, .int .i64 (i : Int)), (0, .slice p l.length c)]) (fun _ => f) (fun _ => F) (fun i => i ≤ l.length ∧ ∀ j x, j < i → l[j]? = some x → x.q.length ≤ 20) (fun i => l.length - i) 0 ⟨Nat.zero_le _, fun j x hj => by omega⟩ ⟨rfl, rfl, trivial⟩ rfl rfl fun i hi => ?_
    obtain ⟨hi, hb⟩ : i ≤ l.length ∧ ∀ j x, j < i → l[j]? = some x → x.q.length ≤ 20 := hi
    by_cases hlt : i < l.length
    · have hx : l[i]? = some l[i] := List.getElem?_eq_getElem hlt
      generalize l[i] = x at hx
      obtain ⟨b, off, cs, T, fr, rfl, hfb, hcs⟩ := hat i x hx
      have rd : ∀ A, Rd f A b (off + i * 8) x.vals := fun A => Rd.imm hfb hcs
      by_cases hq : x.q.length ≤ 20
      · repeat (first | ((first | apply H.move | apply H.len_slice); (iterate 3 exact rfl)) | (first | apply H.seq | apply H.region | apply H.nil | apply H.then_normal) | ((apply H.cmp); (iterate 5 exact rfl)) | (first | apply H.skip | apply H.block) | (apply H.cond_yes; exact rfl; (omega)))
        refine H.index_slice rfl rfl rfl rfl hlt rfl ?_
        repeat ((apply H.fieldAddr; (iterate 3 exact rfl); exact inferInstance; exact rfl))
        refine H.load1 rfl rfl rfl (Rd1.of (i := 7) (rd _) rfl) rfl ?_
        repeat (first | ((first | apply H.move | apply H.assign | apply H.len_slice); (iterate 3 exact rfl)) | (first | apply H.region | apply H.nil | apply H.then_normal) | ((apply H.cmp); (iterate 5 exact rfl)) | ((apply H.ar; (iterate 4 exact rfl)); (with_reducible apply wr_i64_n1; omega); exact rfl) | (first | apply H.skip | apply H.in_normal) | (apply H.cond_no; exact rfl; (omega)))
        refine H.again (i + 1) ⟨by show i + 1 ≤ l.length; omega, fun j y hj hy => ?_⟩ (by show l.length - (i + 1) < l.length - i; omega) ⟨rfl, rfl, trivial⟩ rfl rfl
        by_cases e : j = i
        · subst e; rw [hx] at hy; cases hy; exact hq
        · exact hb j y (by omega) hy
      · repeat (first | ((first | apply H.move | apply H.len_slice); (iterate 3 exact rfl)) | (first | apply H.seq | apply H.region | apply H.nil | apply H.then_normal) | ((apply H.cmp); (iterate 5 exact rfl)) | (first | apply H.skip | apply H.block) | (apply H.cond_yes; exact rfl; (omega)))
        refine H.index_slice rfl rfl rfl rfl hlt rfl ?_
        repeat ((apply H.fieldAddr; (iterate 3 exact rfl); exact inferInstance; exact rfl))
        refine H.load1 rfl rfl rfl (Rd1.of (i := 7) (rd _) rfl) rfl ?_
        repeat (first | ((first | apply H.assign | apply H.len_slice); (iterate 3 exact rfl)) | (first | apply H.seq | apply H.region | apply H.nil | apply H.then_normal) | ((apply H.cmp); (iterate 5 exact rfl)) | (first | apply H.ret | apply H.then_ret | apply H.in_ret | apply H.loop_ret) | (apply H.cond_yes; exact rfl; (omega)))
        refine H.ret1 rfl rfl (fun _ h => h) ⟨?_, rfl, rfl⟩
        have : few12 l = false := by
          unfold few12
          rw [Bool.and_eq_false_iff]
          refine .inr (List.all_eq_false.2 ⟨x, List.mem_of_getElem? hx, by rw [decide_eq_false hq]; decide⟩)
        rw [this]
    · repeat (first | ((first | apply H.move | apply H.assign | apply H.len_slice); (iterate 3 exact rfl)) | (first | apply H.seq | apply H.region | apply H.nil | apply H.then_normal) | ((apply H.cmp); (iterate 5 exact rfl)) | (first | apply H.ret | apply H.then_exit | apply H.exit | apply H.in_hit | apply H.loop_exit) | (apply H.cond_no; exact rfl; (omega)))
      refine H.ret1 rfl rfl (fun _ h => h) ⟨?_, rfl, rfl⟩
      have : few12 l = true := by
        unfold few12
        rw [decide_eq_true h30, Bool.true_and, List.all_eq_true]
        intro x hx
        obtain ⟨j, hj⟩ := List.getElem?_of_mem hx
        have hjl : j < l.length := by
          rcases Nat.lt_or_ge j l.length with h1 | h1
          · exact h1
          · rw [List.getElem?_eq_none h1] at hj; cases hj
        exact decide_eq_true (hb j x (by omega) hj)
      rw [this]
  · refine Fn.enter Tryz.func15 rfl Tryz.ntmps15 rfl (L := [(0, _)]) ⟨rfl, trivial⟩ fun base => ?_
    repeat (first | ((first | apply H.move | apply H.assign | apply H.len_slice); (iterate 3 exact rfl)) | (first | apply H.seq | apply H.region | apply H.nil | apply H.then_normal) | ((apply H.cmp); (iterate 5 exact rfl)) | (first | apply H.ret | apply H.then_ret) | (apply H.cond_yes; exact rfl; (omega)))
    refine H.ret1 rfl rfl (fun _ h => h) ⟨?_, rfl, rfl⟩
    have : few12 l = false := by unfold few12; rw [decide_eq_false h30]; rfl
    rw [this]
set_option maxHeartbeats 1600000 in
theorem abody_fn {n : Nat} (hn : 1 ≤ n ∧ n ≤ 11) {x : A12} (hx : x.Has f) (hl : x.q.length ≤ 20) :
    Fn Tryz.prog 53 [.agg x.vals.toArray, .int .i64 (n : Int)] f F (BodP f F (x.bod n)) := by
  have hk := x.k.toNat_lt
  have hvm : ((x.view.toNat % 6 : Nat) : Int) ≤ 5 := by omega
  have hkm : ((x.k.toNat % 6 : Nat) : Int) ≤ 5 := by omega
  have hcm : ((x.client.toNat % 3 : Nat) : Int) ≤ 2 := by omega
  have hcases : x.kind.toNat % 6 = 0 ∨ x.kind.toNat % 6 = 1 ∨ x.kind.toNat % 6 = 2 ∨ x.kind.toNat % 6 = 3 ∨ x.kind.toNat % 6 = 4 ∨ x.kind.toNat % 6 = 5 := by omega
  unfold A12.bod
  rcases hcases with h | h | h | h | h | h
  · have hk6 : ((x.kind.toNat : Nat) : Int).tmod 6 = 0 := tmod_nat (b := 6) h
    rw [h]
    show Fn _ _ _ f F (BodP f F (⟨1, 1 + ((x.view.toNat % 6 : Nat) : Int), 0, x.req.signed, [], noTag⟩ : Bod))
    refine Fn.enter Tryz.func53 rfl Tryz.ntmps53 rfl (L := [(0, _), (1, _)]) ⟨rfl, rfl, trivial⟩ fun base => ?_
    repeat ((first | apply H.seq | apply H.region))
    refine H.box (ls := x.vals) rfl rfl rfl rfl fun xb => ?_
    refine H.alloc (ls := (Bod.zero 0).vals none 0) rfl rfl rfl fun ob => ?_
    repeat (first | (apply H.fieldAddr; (iterate 3 exact rfl); exact inferInstance; exact rfl) | (apply H.load1; (iterate 3 exact rfl); apply Rd1.ofRow; (repeat (first | exact .here _ _ _ | apply At.there)); (iterate 2 exact rfl)) | (first | apply H.seq | apply H.region | apply H.nil | apply H.then_normal))
    refine H.rem rfl rfl rfl (by decide) hk6 rfl ?_
    repeat (first | (apply H.fieldAddr; (iterate 3 exact rfl); exact inferInstance; exact rfl) | (apply H.load1; (iterate 3 exact rfl); apply Rd1.ofRow; (repeat (first | exact .here _ _ _ | apply At.there)); (iterate 2 exact rfl)) | ((apply H.ar; (iterate 4 exact rfl)); (with_reducible apply wr_u8; omega); exact rfl))
    refine H.rem (z := ((x.view.toNat % 6 : Nat) : Int)) rfl rfl rfl (by decide) (by rw [Int.ofNat_tmod]; rfl) rfl ?_
    repeat (first | (refine H.build (t := 45) (out := (bodV 1 (1 + ((x.view.toNat % 6 : Nat) : Int))).vals none 0) rfl rfl rfl (by kernel_rfl) rfl ?_) | ((first | (apply H.ar; (iterate 4 exact rfl)) | (apply H.conv_int; (iterate 2 exact rfl))); (with_reducible apply wr_u64; omega); exact rfl))
    refine H.alloc (ls := (Bod.zero 0).vals none 0) rfl rfl rfl fun bb => ?_
    refine H.storeN (ls := (Bod.zero 0).vals none 0) (vs := (bodV 1 (1 + ((x.view.toNat % 6 : Nat) : Int))).vals none 0) (ls' := (bodV 1 (1 + ((x.view.toNat % 6 : Nat) : Int))).vals none 0) rfl rfl rfl (allOne_mem rfl) rfl rfl (Nat.le_refl 76) (.here _ _ _) ?_
    have hsg := fun G => rsigned_fn f G x.req
    generalize x.req.signed = r at hsg ⊢
    repeat (first | ((apply H.assign); (iterate 3 exact rfl)) | (apply H.fieldAddr; (iterate 3 exact rfl); exact inferInstance; exact rfl) | (apply H.load1; (iterate 3 exact rfl); apply Rd1.ofRow; (repeat (first | exact .here _ _ _ | apply At.there)); (iterate 2 exact rfl)) | (first | apply H.seq | apply H.region | apply H.nil | apply H.then_normal) | ((apply H.cmp); (iterate 5 exact rfl)) | (apply H.cond_true; exact rfl) | (apply H.block))
    refine H.rem (z := ((x.client.toNat % 3 : Nat) : Int)) rfl rfl rfl (by decide) (tmod_nat (b := 3) rfl) rfl ?_
    repeat (first | (refine H.build (t := 42) (out := x.req.vals) rfl rfl rfl (by kernel_rfl) rfl ?_) | (apply H.fieldAddr; (iterate 3 exact rfl); exact inferInstance; exact rfl) | (apply H.load1; (iterate 3 exact rfl); apply Rd1.ofRow; (repeat (first | exact .here _ _ _ | apply At.there)); (iterate 2 exact rfl)) | ((first | apply H.cmp | apply H.build); (iterate 5 exact rfl)) | ((first | (apply H.ar; (iterate 4 exact rfl)) | (apply H.conv_int; (iterate 2 exact rfl))); (first | (with_reducible apply wr_i64; omega) | (with_reducible apply wr_u64; omega)); exact rfl))
    refine H.callR rfl rfl rfl (hsg _) ?_
    repeat ((apply H.fieldAddr; (iterate 3 exact rfl); exact inferInstance; exact rfl))
    refine H.storeN (ls := (bodV 1 (1 + ((x.view.toNat % 6 : Nat) : Int))).vals none 0) (vs := r.vals) (ls' := (⟨1, 1 + ((x.view.toNat % 6 : Nat) : Int), 0, r, [], noTag⟩ : Bod).vals none 0) rfl rfl rfl (allOne_mem rfl) rfl rfl (show 3 + 40 ≤ 76 by decide) (.here _ _ _) ?_
    repeat (first | (first | apply H.seq | apply H.region | apply H.nil | apply H.then_normal) | (apply H.in_normal))
    refine H.loadN (ls := (⟨1, 1 + ((x.view.toNat % 6 : Nat) : Int), 0, r, [], noTag⟩ : Bod).vals none 0) rfl rfl rfl (Rd.ofRow (by repeat (first | exact .here _ _ _ | apply At.there))) rfl rfl ?_
    refine H.storeN (ls := (Bod.zero 0).vals none 0) (vs := (⟨1, 1 + ((x.view.toNat % 6 : Nat) : Int), 0, r, [], noTag⟩ : Bod).vals none 0) (ls' := (⟨1, 1 + ((x.view.toNat % 6 : Nat) : Int), 0, r, [], noTag⟩ : Bod).vals none 0) rfl rfl rfl (allOne_mem rfl) rfl rfl (Nat.le_refl 76) (by repeat (first | exact .here _ _ _ | apply At.there)) ?_
    repeat (first | (first | apply H.nil | apply H.then_normal) | (apply H.ret))
    refine H.drop (x := row bb _ _) (by repeat (first | exact .here _ _ | apply Pull.there)) ?_
    refine H.drop (x := row xb _ _) (by repeat (first | exact .here _ _ | apply Pull.there)) ?_
    refine H.front (x := row ob _ _) (by repeat (first | exact .here _ _ | apply Pull.there)) ?_
    exact H.retD (ls := (⟨1, 1 + ((x.view.toNat % 6 : Nat) : Int), 0, r, [], noTag⟩ : Bod).vals none 0) rfl rfl rfl (Rd.ofRow (.here _ _ _)) rfl (fun _ s => s.drop (.here _ _)) ⟨nil0, none, 0, rfl, QAt.nil _ _, Dj.nil _, (un_nil _).symm, rfl⟩
  · have hk6 : ((x.kind.toNat : Nat) : Int).tmod 6 = 1 := tmod_nat (b := 6) h
    rw [h]
    show Fn _ _ _ f F (BodP f F (⟨2, 1 + ((x.view.toNat % 6 : Nat) : Int), 1 + ((x.k.toNat % 6 : Nat) : Int), Req.zero, [], noTag⟩ : Bod))
    refine Fn.enter Tryz.func53 rfl Tryz.ntmps53 rfl (L := [(0, _), (1, _)]) ⟨rfl, rfl, trivial⟩ fun base => ?_
    repeat ((first | apply H.seq | apply H.region))
    refine H.box (ls := x.vals) rfl rfl rfl rfl fun xb => ?_
    refine H.alloc (ls := (Bod.zero 0).vals none 0) rfl rfl rfl fun ob => ?_
    repeat (first | (apply H.fieldAddr; (iterate 3 exact rfl); exact inferInstance; exact rfl) | (apply H.load1; (iterate 3 exact rfl); apply Rd1.ofRow; (repeat (first | exact .here _ _ _ | apply At.there)); (iterate 2 exact rfl)) | (first | apply H.seq | apply H.region | apply H.nil | apply H.then_normal))
    refine H.rem rfl rfl rfl (by decide) hk6 rfl ?_
    repeat (first | (apply H.fieldAddr; (iterate 3 exact rfl); exact inferInstance; exact rfl) | (apply H.load1; (iterate 3 exact rfl); apply Rd1.ofRow; (repeat (first | exact .here _ _ _ | apply At.there)); (iterate 2 exact rfl)) | ((apply H.ar; (iterate 4 exact rfl)); (with_reducible apply wr_u8; omega); exact rfl))
    refine H.rem (z := ((x.view.toNat % 6 : Nat) : Int)) rfl rfl rfl (by decide) (by rw [Int.ofNat_tmod]; rfl) rfl ?_
    repeat (first | (refine H.build (t := 45) (out := (bodV 2 (1 + ((x.view.toNat % 6 : Nat) : Int))).vals none 0) rfl rfl rfl (by kernel_rfl) rfl ?_) | ((first | (apply H.ar; (iterate 4 exact rfl)) | (apply H.conv_int; (iterate 2 exact rfl))); (with_reducible apply wr_u64; omega); exact rfl))
    refine H.alloc (ls := (Bod.zero 0).vals none 0) rfl rfl rfl fun bb => ?_
    refine H.storeN (ls := (Bod.zero 0).vals none 0) (vs := (bodV 2 (1 + ((x.view.toNat % 6 : Nat) : Int))).vals none 0) (ls' := (bodV 2 (1 + ((x.view.toNat % 6 : Nat) : Int))).vals none 0) rfl rfl rfl (allOne_mem rfl) rfl rfl (Nat.le_refl 76) (.here _ _ _) ?_
    repeat (first | ((apply H.assign); (iterate 3 exact rfl)) | (apply H.fieldAddr; (iterate 3 exact rfl); exact inferInstance; exact rfl) | (apply H.load1; (iterate 3 exact rfl); apply Rd1.ofRow; (repeat (first | exact .here _ _ _ | apply At.there)); (iterate 2 exact rfl)) | (first | apply H.seq | apply H.region | apply H.nil | apply H.then_normal) | ((apply H.cmp); (iterate 5 exact rfl)) | (apply H.cond_true; exact rfl) | (apply H.cond_false; exact rfl) | (apply H.block))
    refine H.rem (z := ((x.k.toNat % 6 : Nat) : Int)) rfl rfl rfl (by decide) (tmod_nat (b := 6) rfl) rfl ?_
    repeat (first | (apply H.fieldAddr; (iterate 3 exact rfl); exact inferInstance; exact rfl) | (first | apply H.seq | apply H.region | apply H.nil | apply H.then_normal) | ((first | (apply H.ar; (iterate 4 exact rfl)) | (apply H.conv_int; (iterate 2 exact rfl))); (with_reducible apply wr_u64; omega); exact rfl) | (apply H.store1; (iterate 4 exact rfl); (repeat (exact .here _ _ _)); (repeat (first | exact .here _ _ _ | apply SetV.there))) | (apply H.in_normal))
    refine H.loadN (ls := (⟨2, 1 + ((x.view.toNat % 6 : Nat) : Int), 1 + ((x.k.toNat % 6 : Nat) : Int), Req.zero, [], noTag⟩ : Bod).vals none 0) rfl rfl rfl (Rd.ofRow (by repeat (first | exact .here _ _ _ | apply At.there))) rfl rfl ?_
    refine H.storeN (ls := (Bod.zero 0).vals none 0) (vs := (⟨2, 1 + ((x.view.toNat % 6 : Nat) : Int), 1 + ((x.k.toNat % 6 : Nat) : Int), Req.zero, [], noTag⟩ : Bod).vals none 0) (ls' := (⟨2, 1 + ((x.view.toNat % 6 : Nat) : Int), 1 + ((x.k.toNat % 6 : Nat) : Int), Req.zero, [], noTag⟩ : Bod).vals none 0) rfl rfl rfl (allOne_mem rfl) rfl rfl (Nat.le_refl 76) (by repeat (first | exact .here _ _ _ | apply At.there)) ?_
    repeat (first | (first | apply H.nil | apply H.then_normal) | (apply H.ret))
    refine H.drop (x := row bb _ _) (by repeat (first | exact .here _ _ | apply Pull.there)) ?_
    refine H.drop (x := row xb _ _) (by repeat (first | exact .here _ _ | apply Pull.there)) ?_
    refine H.front (x := row ob _ _) (by repeat (first | exact .here _ _ | apply Pull.there)) ?_
    exact H.retD (ls := (⟨2, 1 + ((x.view.toNat % 6 : Nat) : Int), 1 + ((x.k.toNat % 6 : Nat) : Int), Req.zero, [], noTag⟩ : Bod).vals none 0) rfl rfl rfl (Rd.ofRow (.here _ _ _)) rfl (fun _ s => s.drop (.here _ _)) ⟨nil0, none, 0, rfl, QAt.nil _ _, Dj.nil _, (un_nil _).symm, rfl⟩
  · have hk6 : ((x.kind.toNat : Nat) : Int).tmod 6 = 2 := tmod_nat (b := 6) h
    rw [h]
    show Fn _ _ _ f F (BodP f F (bodV 3 (1 + ((x.view.toNat % 6 : Nat) : Int))))
    refine Fn.enter Tryz.func53 rfl Tryz.ntmps53 rfl (L := [(0, _), (1, _)]) ⟨rfl, rfl, trivial⟩ fun base => ?_
    repeat ((first | apply H.seq | apply H.region))
    refine H.box (ls := x.vals) rfl rfl rfl rfl fun xb => ?_
    refine H.alloc (ls := (Bod.zero 0).vals none 0) rfl rfl rfl fun ob => ?_
    repeat (first | (apply H.fieldAddr; (iterate 3 exact rfl); exact inferInstance; exact rfl) | (apply H.load1; (iterate 3 exact rfl); apply Rd1.ofRow; (repeat (first | exact .here _ _ _ | apply At.there)); (iterate 2 exact rfl)) | (first | apply H.seq | apply H.region | apply H.nil | apply H.then_normal))
    refine H.rem rfl rfl rfl (by decide) hk6 rfl ?_
    repeat (first | (apply H.fieldAddr; (iterate 3 exact rfl); exact inferInstance; exact rfl) | (apply H.load1; (iterate 3 exact rfl); apply Rd1.ofRow; (repeat (first | exact .here _ _ _ | apply At.there)); (iterate 2 exact rfl)) | ((apply H.ar; (iterate 4 exact rfl)); (with_reducible apply wr_u8; omega); exact rfl))
    refine H.rem (z := ((x.view.toNat % 6 : Nat) : Int)) rfl rfl rfl (by decide) (by rw [Int.ofNat_tmod]; rfl) rfl ?_
    repeat (first | (refine H.build (t := 45) (out := (bodV 3 (1 + ((x.view.toNat % 6 : Nat) : Int))).vals none 0) rfl rfl rfl (by kernel_rfl) rfl ?_) | ((first | (apply H.ar; (iterate 4 exact rfl)) | (apply H.conv_int; (iterate 2 exact rfl))); (with_reducible apply wr_u64; omega); exact rfl))
    refine H.alloc (ls := (Bod.zero 0).vals none 0) rfl rfl rfl fun bb => ?_
    refine H.storeN (ls := (Bod.zero 0).vals none 0) (vs := (bodV 3 (1 + ((x.view.toNat % 6 : Nat) : Int))).vals none 0) (ls' := (bodV 3 (1 + ((x.view.toNat % 6 : Nat) : Int))).vals none 0) rfl rfl rfl (allOne_mem rfl) rfl rfl (Nat.le_refl 76) (.here _ _ _) ?_
    repeat (first | ((apply H.assign); (iterate 3 exact rfl)) | (apply H.fieldAddr; (iterate 3 exact rfl); exact inferInstance; exact rfl) | (apply H.load1; (iterate 3 exact rfl); apply Rd1.ofRow; (repeat (exact .here _ _ _)); (iterate 2 exact rfl)) | (first | apply H.seq | apply H.region | apply H.nil | apply H.then_normal) | ((apply H.cmp); (iterate 5 exact rfl)) | (apply H.cond_false; exact rfl) | (first | apply H.skip | apply H.block | apply H.in_normal))
    refine H.loadN (ls := (bodV 3 (1 + ((x.view.toNat % 6 : Nat) : Int))).vals none 0) rfl rfl rfl (Rd.ofRow (by repeat (first | exact .here _ _ _ | apply At.there))) rfl rfl ?_
    refine H.storeN (ls := (Bod.zero 0).vals none 0) (vs := (bodV 3 (1 + ((x.view.toNat % 6 : Nat) : Int))).vals none 0) (ls' := (bodV 3 (1 + ((x.view.toNat % 6 : Nat) : Int))).vals none 0) rfl rfl rfl (allOne_mem rfl) rfl rfl (Nat.le_refl 76) (by repeat (first | exact .here _ _ _ | apply At.there)) ?_
    repeat (first | (first | apply H.nil | apply H.then_normal) | (apply H.ret))
    refine H.drop (x := row bb _ _) (by repeat (first | exact .here _ _ | apply Pull.there)) ?_
    refine H.drop (x := row xb _ _) (by repeat (first | exact .here _ _ | apply Pull.there)) ?_
    refine H.front (x := row ob _ _) (by repeat (first | exact .here _ _ | apply Pull.there)) ?_
    exact H.retD (ls := (bodV 3 (1 + ((x.view.toNat % 6 : Nat) : Int))).vals none 0) rfl rfl rfl (Rd.ofRow (.here _ _ _)) rfl (fun _ s => s.drop (.here _ _)) ⟨nil0, none, 0, rfl, QAt.nil _ _, Dj.nil _, (un_nil _).symm, rfl⟩
  · have hk6 : ((x.kind.toNat : Nat) : Int).tmod 6 = 3 := tmod_nat (b := 6) h
    rw [h]
    show Fn _ _ _ f F (BodP f F (⟨4, 1 + ((x.view.toNat % 6 : Nat) : Int), 0, Req.zero, x.qTo (x.top n), noTag⟩ : Bod))
    refine Fn.enter Tryz.func53 rfl Tryz.ntmps53 rfl (L := [(0, _), (1, _)]) ⟨rfl, rfl, trivial⟩ fun base => ?_
    repeat ((first | apply H.seq | apply H.region))
    refine H.box (ls := x.vals) rfl rfl rfl rfl fun xb => ?_
    refine H.alloc (ls := (Bod.zero 0).vals none 0) rfl rfl rfl fun ob => ?_
    repeat (first | (apply H.fieldAddr; (iterate 3 exact rfl); exact inferInstance; exact rfl) | (apply H.load1; (iterate 3 exact rfl); apply Rd1.ofRow; (repeat (first | exact .here _ _ _ | apply At.there)); (iterate 2 exact rfl)) | (first | apply H.seq | apply H.region | apply H.nil | apply H.then_normal))
    refine H.rem rfl rfl rfl (by decide) hk6 rfl ?_
    repeat (first | (apply H.fieldAddr; (iterate 3 exact rfl); exact inferInstance; exact rfl) | (apply H.load1; (iterate 3 exact rfl); apply Rd1.ofRow; (repeat (first | exact .here _ _ _ | apply At.there)); (iterate 2 exact rfl)) | ((apply H.ar; (iterate 4 exact rfl)); (with_reducible apply wr_u8; omega); exact rfl))
    refine H.rem (z := ((x.view.toNat % 6 : Nat) : Int)) rfl rfl rfl (by decide) (by rw [Int.ofNat_tmod]; rfl) rfl ?_
    repeat (first | (refine H.build (t := 45) (out := (bodV 4 (1 + ((x.view.toNat % 6 : Nat) : Int))).vals none 0) rfl rfl rfl (by kernel_rfl) rfl ?_) | ((first | (apply H.ar; (iterate 4 exact rfl)) | (apply H.conv_int; (iterate 2 exact rfl))); (with_reducible apply wr_u64; omega); exact rfl))
    refine H.alloc (ls := (Bod.zero 0).vals none 0) rfl rfl rfl fun bb => ?_
    refine H.storeN (ls := (Bod.zero 0).vals none 0) (vs := (bodV 4 (1 + ((x.view.toNat % 6 : Nat) : Int))).vals none 0) (ls' := (bodV 4 (1 + ((x.view.toNat % 6 : Nat) : Int))).vals none 0) rfl rfl rfl (allOne_mem rfl) rfl rfl (Nat.le_refl 76) (.here _ _ _) ?_
    repeat (first | ((apply H.assign); (iterate 3 exact rfl)) | (apply H.fieldAddr; (iterate 3 exact rfl); exact inferInstance; exact rfl) | (apply H.load1; (iterate 3 exact rfl); apply Rd1.ofRow; (repeat (first | exact .here _ _ _ | apply At.there)); (iterate 2 exact rfl)) | (first | apply H.seq | apply H.region | apply H.nil | apply H.then_normal) | ((apply H.cmp); (iterate 5 exact rfl)) | (apply H.cond_true; exact rfl) | (apply H.cond_false; exact rfl) | (apply H.block))
    refine H.rem (z := ((x.k.toNat % 6 : Nat) : Int)) rfl rfl rfl (by decide) (tmod_nat (b := 6) rfl) rfl ?_
    repeat (first | (refine H.build (t := 61) (out := pairV (1, 1 + ((x.k.toNat % 6 : Nat) : Int))) rfl rfl rfl (by kernel_rfl) rfl ?_) | ((first | (apply H.ar; (iterate 4 exact rfl)) | (apply H.conv_int; (iterate 2 exact rfl))); (with_reducible apply wr_u64; omega); exact rfl))
    refine H.buildSlice (out := pairV (1, 1 + ((x.k.toNat % 6 : Nat) : Int))) rfl rfl rfl rfl (by decide) (by decide) rfl rfl fun eb => ?_
    refine H.asSlc (k := 1) (sz := 2) rfl (by decide) ?_
    repeat (first | (refine H.store1 (ls := bodS (1 + ((x.view.toNat % 6 : Nat) : Int)) none 0 0) (ls' := bodS (1 + ((x.view.toNat % 6 : Nat) : Int)) (some ⟨eb, 0, none⟩) 1 1) rfl rfl rfl rfl (.there _ (.here _ _ _)) (bodS_set _ _ _ _ _ _ _) ?_) | ((apply H.assign); (iterate 3 exact rfl)) | (apply H.fieldAddr; (iterate 3 exact rfl); exact inferInstance; exact rfl) | (first | apply H.seq | apply H.region | apply H.nil | apply H.then_normal) | (apply H.block))
    have htl := x.top_le (n := n) hn.1
    refine H.loop (ι := Nat × Option Addr × Nat) (fun s => [(6, .int .i64 ((s.1 + 1 : Nat) : Int)), (1, .int .i64 (n : Int)), (2, .pointer (some ⟨xb, 0, none⟩)), (5, .pointer (some ⟨bb, 0, none⟩)), (4, .pointer (some ⟨ob, 0, none⟩))]) (fun _ => f)
      (fun s => slc s.2.1 s.1 s.2.2 61 2 ((x.qTo s.1).flatMap pairV) :: row bb 45 (bodS (1 + ((x.view.toNat % 6 : Nat) : Int)) s.2.1 s.1 s.2.2) :: row ob 45 ((Bod.zero 0).vals none 0) :: row xb 113 x.vals :: F)
      (fun s => 1 ≤ s.1 ∧ s.1 ≤ x.top n) (fun s => x.top n - s.1) (1, some ⟨eb, 0, none⟩, 1) ⟨Nat.le_refl 1, htl.1⟩ ⟨rfl, rfl, rfl, rfl, rfl, trivial⟩ rfl rfl fun s hs => ?_
    obtain ⟨r, p, c⟩ := s
    obtain ⟨hr1, hrt⟩ : 1 ≤ r ∧ r ≤ x.top n := hs
    show H _ _ _ [(6, .int .i64 ((r + 1 : Nat) : Int)), _, _, _, _] f (slc p r c _ 2 ((x.qTo r).flatMap pairV) :: row bb _ (bodS (1 + ((x.view.toNat % 6 : Nat) : Int)) p r c) :: _ :: _ :: F) _
    by_cases hlt : r < x.top n
    · obtain ⟨hrn, hrl⟩ := top_more hr1 hlt
      rcases hx with hx | ⟨b, off, cs, T, fr, hqp, hfb, hcs⟩
      · rw [hx] at hrl; exact absurd hrl (by simp)
      · have hrd : ∀ A, Rd f A b off (bytesV x.q) := fun A => Rd.imm hfb fun i hi => by rw [bytesV_len] at hi; exact hcs i hi
        have hby : (bytesV x.q)[r]? = some (.int .u8 ((x.q.getD r 0).toNat : Nat)) := by
          unfold bytesV
          rw [List.getElem?_map, List.getElem?_eq_getElem (by omega), List.getD_eq_getElem?_getD, List.getElem?_eq_getElem (by omega)]
          rfl
        have hnx := qTo_next x hr1
        have hpv : (x.qTo (r + 1)).flatMap pairV = (x.qTo r).flatMap pairV ++ pairV (((r + 1 : Nat) : Int), 1 + (((x.q.getD r 0).toNat % 8 : Nat) : Int)) := by
          rw [hnx, List.flatMap_append]
          rfl
        have hbm : (((x.q.getD r 0).toNat % 8 : Nat) : Int) ≤ 7 := by omega
        generalize x.q.getD r 0 = qr at *
        have hxv : x.vals = [.int .u8 (x.who.toNat : Nat), .int .u8 (x.other.toNat : Nat), .bool x.meet, .int .u8 (x.kind.toNat : Nat), .int .u8 (x.view.toNat : Nat), .int .u8 (x.k.toNat : Nat), .int .u8 (x.client.toNat : Nat), .slice (some ⟨b, off, none⟩) x.q.length x.qc] := by unfold A12.vals; rw [hqp]
        rw [hxv]
        repeat (first | ((first | apply H.move | apply H.len_slice); (iterate 3 exact rfl)) | (apply H.fieldAddr; (iterate 3 exact rfl); exact inferInstance; exact rfl) | (apply H.load1; (iterate 3 exact rfl); apply Rd1.ofRow; (repeat (first | exact .here _ _ _ | apply At.there)); (iterate 2 exact rfl)) | (first | apply H.seq | apply H.region | apply H.nil | apply H.then_normal) | ((apply H.cmp); (iterate 5 exact rfl)) | (apply H.pickT; (iterate 4 exact rfl)) | (first | apply H.skip | apply H.block) | (apply H.gyes; (iterate 3 exact rfl); (omega)) | (apply H.cond_yes; exact rfl; (omega)))
        refine H.front (x := row xb _ _) (by repeat (first | exact .here _ _ | apply Pull.there)) ?_
        refine H.front (x := row bb _ _) (by repeat (first | exact .here _ _ | apply Pull.there)) ?_
        refine H.drawC [0, 1, 2, 3, 4, 5, 6, 7, 8, 9, 10, 11, 12, 13, 14] (by kernel_rfl) (by decide +kernel) (by repeat (first | exact blind_fn | refine blind_seq ?_ | refine blind_block ?_ | refine blind_loop ?_)) (S := [_, _]) rfl ?_
        refine HB.quiet [(0, false), (1, false), (2, false), (3, false), (4, false), (5, false), (6, false), (7, false), (8, false), (9, false), (10, false), (11, false), (12, false)] 4 (by kernel_rfl) ?_
        repeat (first | ((apply HQ.move); (iterate 3 exact rfl)) | (apply HQ.fieldAddr; (iterate 3 exact rfl); exact inferInstance; exact rfl) | (apply HQ.load1; (iterate 3 exact rfl); apply Rd1.ofRow; (repeat (first | exact .here _ _ _ | apply At.there)); (iterate 2 exact rfl)) | ((apply HQ.ar; (iterate 4 exact rfl)); (with_reducible apply wr_i64_s1; omega); exact rfl))
        refine HQ.index1 (i := r) rfl rfl rfl (by omega) (by omega) rfl ?_
        refine HQ.load1 rfl rfl rfl (Rd1.of (hrd _) hby) rfl ?_
        refine HQ.rem (z := ((qr.toNat % 8 : Nat) : Int)) rfl rfl rfl (by decide) (tmod_nat (b := 8) rfl) rfl ?_
        repeat (first | (refine HQ.build (t := 61) (out := pairV (((r + 1 : Nat) : Int), 1 + ((qr.toNat % 8 : Nat) : Int))) rfl rfl rfl rfl rfl ?_) | ((first | (apply HQ.ar; (iterate 4 exact rfl)) | (apply HQ.conv_int; (iterate 2 exact rfl))); (with_reducible apply wr_u64; omega); exact rfl))
        refine HQ.more rfl ?_
        refine HB.ev1 (i := 13) (by kernel_rfl) rfl ?_
        refine H.buildSlice (out := pairV (((r + 1 : Nat) : Int), 1 + ((qr.toNat % 8 : Nat) : Int))) rfl rfl rfl rfl (by decide) (by decide) rfl rfl fun e2 => ?_
        repeat ((apply H.nil))
        refine H.front (x := row xb _ _) (by repeat (first | exact .here _ _ | apply Pull.there)) ?_
        refine H.front (x := row bb _ _) (by repeat (first | exact .here _ _ | apply Pull.there)) ?_
        refine H.on0 rfl ?_
        refine HB.ev1 (i := 14) (by kernel_rfl) rfl ?_
        refine H.append (p := p) (n0 := r) (c := c) (xs := (x.qTo r).flatMap pairV) (m := 1) (news := pairV (((r + 1 : Nat) : Int), 1 + ((qr.toNat % 8 : Nat) : Int))) rfl rfl rfl rfl rfl (fun p' c' => (by repeat (first | exact .here _ _ _ | apply At.there))) (Src.slice (Rd.ofRow (by repeat (first | exact .here _ _ _ | apply At.there))) rfl) (allOne_mem rfl) rfl (by omega) (by omega) fun p2 c2 => ?_
        repeat ((apply H.nil))
        refine H.drop (x := row e2 _ _) (by repeat (first | exact .here _ _ | apply Pull.there)) ?_
        refine H.on0 rfl ?_
        refine HB.next [] (by kernel_rfl) (S' := []) rfl ?_
        refine HB.quiet [(15, false)] 1 (by kernel_rfl) ?_
        repeat ((apply HQ.fieldAddr; (iterate 3 exact rfl); exact inferInstance; exact rfl))
        refine HQ.more rfl ?_
        refine HB.ev1 (i := 16) (by kernel_rfl) rfl ?_
        refine H.store1 (ls := bodS (1 + ((x.view.toNat % 6 : Nat) : Int)) p r c) (ls' := bodS (1 + ((x.view.toNat % 6 : Nat) : Int)) p2 (r + 1) c2) rfl rfl rfl rfl (.here _ _ _) (bodS_set _ _ _ _ _ _ _) ?_
        repeat ((apply H.nil))
        refine H.on0 rfl ?_
        refine HB.done (by kernel_rfl) ?_
        repeat (first | ((first | apply H.move | apply H.assign); (iterate 3 exact rfl)) | (first | apply H.region | apply H.nil | apply H.then_normal) | ((apply H.ar; (iterate 4 exact rfl)); (with_reducible apply wr_i64_n1; omega); exact rfl) | (apply H.in_normal))
        rw [← hxv]
        refine H.front (x := row ob _ _) (by repeat (first | exact .here _ _ | apply Pull.there)) ?_
        refine H.front (x := row bb _ _) (by repeat (first | exact .here _ _ | apply Pull.there)) ?_
        refine H.front (x := slc p2 _ c2 _ _ _) (by repeat (first | exact .here _ _ | apply Pull.there)) ?_
        refine H.again (r + 1, p2, c2) ⟨by show 1 ≤ r + 1; omega, hlt⟩ (by show x.top n - (r + 1) < x.top n - r; omega) ⟨rfl, rfl, rfl, rfl, rfl, trivial⟩ rfl ?_
        show slc p2 (r + 1) c2 _ 2 ((x.qTo r).flatMap pairV ++ pairV _) :: _ = slc p2 (r + 1) c2 _ 2 ((x.qTo (r + 1)).flatMap pairV) :: _
        rw [hpv]
    · have hrt : r = x.top n := by omega
      have hte := top_end hn.1 hrt
      have hval : bodS (1 + ((x.view.toNat % 6 : Nat) : Int)) p r c = (⟨4, (1 + ((x.view.toNat % 6 : Nat) : Int)), 0, Req.zero, x.qTo (x.top n), noTag⟩ : Bod).vals p c := by
        rw [hrt]
        have := bodS_eq (1 + ((x.view.toNat % 6 : Nat) : Int)) (x.qTo (x.top n)) p c
        rw [x.qTo_len] at this
        exact this.symm
      rw [hval]
      by_cases hn2 : r + 1 ≤ n
      · have hq2 : ¬ (r + 1 ≤ x.q.length) := fun e => hte ⟨hn2, e⟩
        repeat (first | ((first | apply H.move | apply H.len_slice); (iterate 3 exact rfl)) | (apply H.fieldAddr; (iterate 3 exact rfl); exact inferInstance; exact rfl) | (apply H.load1; (iterate 3 exact rfl); apply Rd1.ofRow; (repeat (first | exact .here _ _ _ | apply At.there)); (iterate 2 exact rfl)) | (first | apply H.seq | apply H.region | apply H.nil | apply H.then_normal) | ((apply H.cmp); (iterate 5 exact rfl)) | (apply H.pickT; (iterate 4 exact rfl)) | (first | apply H.then_exit | apply H.exit | apply H.in_normal | apply H.in_hit | apply H.loop_exit) | (apply H.gyes; (iterate 3 exact rfl); (omega)) | (apply H.cond_no; exact rfl; (omega)))
        refine H.loadN (ls := (⟨4, (1 + ((x.view.toNat % 6 : Nat) : Int)), 0, Req.zero, x.qTo (x.top n), noTag⟩ : Bod).vals p c) rfl rfl rfl (Rd.ofRow (by repeat (first | exact .here _ _ _ | apply At.there))) rfl rfl ?_
        refine H.storeN (ls := (Bod.zero 0).vals none 0) (vs := (⟨4, (1 + ((x.view.toNat % 6 : Nat) : Int)), 0, Req.zero, x.qTo (x.top n), noTag⟩ : Bod).vals p c) (ls' := (⟨4, (1 + ((x.view.toNat % 6 : Nat) : Int)), 0, Req.zero, x.qTo (x.top n), noTag⟩ : Bod).vals p c) rfl rfl rfl (allOne_mem rfl) rfl rfl (Nat.le_refl 76) (by repeat (first | exact .here _ _ _ | apply At.there)) ?_
        repeat (first | (first | apply H.nil | apply H.then_normal) | (apply H.ret))
        refine H.drop (x := row bb _ _) (by repeat (first | exact .here _ _ | apply Pull.there)) ?_
        refine H.drop (x := row xb _ _) (by repeat (first | exact .here _ _ | apply Pull.there)) ?_
        refine H.freeze (x := slc p _ c _ _ _) (by repeat (first | exact .here _ _ | apply Pull.there)) fun g hg hd => ?_
        have hg' : qs p c (x.qTo (x.top n)) g := by unfold qs; rw [x.qTo_len, ← hrt]; exact hg
        refine H.retD (ls := (⟨4, (1 + ((x.view.toNat % 6 : Nat) : Int)), 0, Req.zero, x.qTo (x.top n), noTag⟩ : Bod).vals p c) rfl rfl rfl (Rd.ofRow (.here _ _ _)) rfl (fun _ s => s.drop (.here _ _)) ⟨g, p, c, rfl, qs_qat hg' hd, hd, rfl, rfl⟩
      · skip
        repeat (first | ((first | apply H.move | apply H.len_slice); (iterate 3 exact rfl)) | (first | apply H.seq | apply H.region | apply H.nil | apply H.then_normal) | ((apply H.cmp); (iterate 5 exact rfl)) | (apply H.pass; (iterate 2 exact rfl)) | ((apply H.pickF); (iterate 4 exact rfl)) | (apply H.cond_false; exact rfl) | (first | apply H.then_exit | apply H.exit | apply H.in_normal | apply H.in_hit | apply H.loop_exit) | (apply H.gno; (iterate 3 exact rfl); (omega)))
        refine H.loadN (ls := (⟨4, (1 + ((x.view.toNat % 6 : Nat) : Int)), 0, Req.zero, x.qTo (x.top n), noTag⟩ : Bod).vals p c) rfl rfl rfl (Rd.ofRow (by repeat (first | exact .here _ _ _ | apply At.there))) rfl rfl ?_
        refine H.storeN (ls := (Bod.zero 0).vals none 0) (vs := (⟨4, (1 + ((x.view.toNat % 6 : Nat) : Int)), 0, Req.zero, x.qTo (x.top n), noTag⟩ : Bod).vals p c) (ls' := (⟨4, (1 + ((x.view.toNat % 6 : Nat) : Int)), 0, Req.zero, x.qTo (x.top n), noTag⟩ : Bod).vals p c) rfl rfl rfl (allOne_mem rfl) rfl rfl (Nat.le_refl 76) (by repeat (first | exact .here _ _ _ | apply At.there)) ?_
        repeat (first | (first | apply H.nil | apply H.then_normal) | (apply H.ret))
        refine H.drop (x := row bb _ _) (by repeat (first | exact .here _ _ | apply Pull.there)) ?_
        refine H.drop (x := row xb _ _) (by repeat (first | exact .here _ _ | apply Pull.there)) ?_
        refine H.freeze (x := slc p _ c _ _ _) (by repeat (first | exact .here _ _ | apply Pull.there)) fun g hg hd => ?_
        have hg' : qs p c (x.qTo (x.top n)) g := by unfold qs; rw [x.qTo_len, ← hrt]; exact hg
        refine H.retD (ls := (⟨4, (1 + ((x.view.toNat % 6 : Nat) : Int)), 0, Req.zero, x.qTo (x.top n), noTag⟩ : Bod).vals p c) rfl rfl rfl (Rd.ofRow (.here _ _ _)) rfl (fun _ s => s.drop (.here _ _)) ⟨g, p, c, rfl, qs_qat hg' hd, hd, rfl, rfl⟩
  · have hk6 : ((x.kind.toNat : Nat) : Int).tmod 6 = 4 := tmod_nat (b := 6) h
    rw [h]
    show Fn _ _ _ f F (BodP f F (bodV 5 (1 + ((x.view.toNat % 6 : Nat) : Int))))
    refine Fn.enter Tryz.func53 rfl Tryz.ntmps53 rfl (L := [(0, _), (1, _)]) ⟨rfl, rfl, trivial⟩ fun base => ?_
    repeat ((first | apply H.seq | apply H.region))
    refine H.box (ls := x.vals) rfl rfl rfl rfl fun xb => ?_
    refine H.alloc (ls := (Bod.zero 0).vals none 0) rfl rfl rfl fun ob => ?_
    repeat (first | (apply H.fieldAddr; (iterate 3 exact rfl); exact inferInstance; exact rfl) | (apply H.load1; (iterate 3 exact rfl); apply Rd1.ofRow; (repeat (first | exact .here _ _ _ | apply At.there)); (iterate 2 exact rfl)) | (first | apply H.seq | apply H.region | apply H.nil | apply H.then_normal))
    refine H.rem rfl rfl rfl (by decide) hk6 rfl ?_
    repeat (first | (apply H.fieldAddr; (iterate 3 exact rfl); exact inferInstance; exact rfl) | (apply H.load1; (iterate 3 exact rfl); apply Rd1.ofRow; (repeat (first | exact .here _ _ _ | apply At.there)); (iterate 2 exact rfl)) | ((apply H.ar; (iterate 4 exact rfl)); (with_reducible apply wr_u8; omega); exact rfl))
    refine H.rem (z := ((x.view.toNat % 6 : Nat) : Int)) rfl rfl rfl (by decide) (by rw [Int.ofNat_tmod]; rfl) rfl ?_
    repeat (first | (refine H.build (t := 45) (out := (bodV 5 (1 + ((x.view.toNat % 6 : Nat) : Int))).vals none 0) rfl rfl rfl (by kernel_rfl) rfl ?_) | ((first | (apply H.ar; (iterate 4 exact rfl)) | (apply H.conv_int; (iterate 2 exact rfl))); (with_reducible apply wr_u64; omega); exact rfl))
    refine H.alloc (ls := (Bod.zero 0).vals none 0) rfl rfl rfl fun bb => ?_
    refine H.storeN (ls := (Bod.zero 0).vals none 0) (vs := (bodV 5 (1 + ((x.view.toNat % 6 : Nat) : Int))).vals none 0) (ls' := (bodV 5 (1 + ((x.view.toNat % 6 : Nat) : Int))).vals none 0) rfl rfl rfl (allOne_mem rfl) rfl rfl (Nat.le_refl 76) (.here _ _ _) ?_
    repeat (first | ((apply H.assign); (iterate 3 exact rfl)) | (apply H.fieldAddr; (iterate 3 exact rfl); exact inferInstance; exact rfl) | (apply H.load1; (iterate 3 exact rfl); apply Rd1.ofRow; (repeat (exact .here _ _ _)); (iterate 2 exact rfl)) | (first | apply H.seq | apply H.region | apply H.nil | apply H.then_normal) | ((apply H.cmp); (iterate 5 exact rfl)) | (apply H.cond_false; exact rfl) | (first | apply H.skip | apply H.block | apply H.in_normal))
    refine H.loadN (ls := (bodV 5 (1 + ((x.view.toNat % 6 : Nat) : Int))).vals none 0) rfl rfl rfl (Rd.ofRow (by repeat (first | exact .here _ _ _ | apply At.there))) rfl rfl ?_
    refine H.storeN (ls := (Bod.zero 0).vals none 0) (vs := (bodV 5 (1 + ((x.view.toNat % 6 : Nat) : Int))).vals none 0) (ls' := (bodV 5 (1 + ((x.view.toNat % 6 : Nat) : Int))).vals none 0) rfl rfl rfl (allOne_mem rfl) rfl rfl (Nat.le_refl 76) (by repeat (first | exact .here _ _ _ | apply At.there)) ?_
    repeat (first | (first | apply H.nil | apply H.then_normal) | (apply H.ret))
    refine H.drop (x := row bb _ _) (by repeat (first | exact .here _ _ | apply Pull.there)) ?_
    refine H.drop (x := row xb _ _) (by repeat (first | exact .here _ _ | apply Pull.there)) ?_
    refine H.front (x := row ob _ _) (by repeat (first | exact .here _ _ | apply Pull.there)) ?_
    exact H.retD (ls := (bodV 5 (1 + ((x.view.toNat % 6 : Nat) : Int))).vals none 0) rfl rfl rfl (Rd.ofRow (.here _ _ _)) rfl (fun _ s => s.drop (.here _ _)) ⟨nil0, none, 0, rfl, QAt.nil _ _, Dj.nil _, (un_nil _).symm, rfl⟩
  · have hk6 : ((x.kind.toNat : Nat) : Int).tmod 6 = 5 := tmod_nat (b := 6) h
    rw [h]
    show Fn _ _ _ f F (BodP f F (⟨6, 0, 1 + ((x.k.toNat : Nat) : Int), Req.zero, [], dig0 x.client⟩ : Bod))
    refine Fn.enter Tryz.func53 rfl Tryz.ntmps53 rfl (L := [(0, _), (1, _)]) ⟨rfl, rfl, trivial⟩ fun base => ?_
    repeat ((first | apply H.seq | apply H.region))
    refine H.box (ls := x.vals) rfl rfl rfl rfl fun xb => ?_
    refine H.alloc (ls := (Bod.zero 0).vals none 0) rfl rfl rfl fun ob => ?_
    repeat (first | (apply H.fieldAddr; (iterate 3 exact rfl); exact inferInstance; exact rfl) | (apply H.load1; (iterate 3 exact rfl); apply Rd1.ofRow; (repeat (first | exact .here _ _ _ | apply At.there)); (iterate 2 exact rfl)) | (first | apply H.seq | apply H.region | apply H.nil | apply H.then_normal))
    refine H.rem rfl rfl rfl (by decide) hk6 rfl ?_
    repeat (first | (apply H.fieldAddr; (iterate 3 exact rfl); exact inferInstance; exact rfl) | (apply H.load1; (iterate 3 exact rfl); apply Rd1.ofRow; (repeat (first | exact .here _ _ _ | apply At.there)); (iterate 2 exact rfl)) | ((apply H.ar; (iterate 4 exact rfl)); (with_reducible apply wr_u8; omega); exact rfl))
    refine H.rem (z := ((x.view.toNat % 6 : Nat) : Int)) rfl rfl rfl (by decide) (by rw [Int.ofNat_tmod]; rfl) rfl ?_
    repeat (first | (refine H.build (t := 45) (out := (bodV 6 (1 + ((x.view.toNat % 6 : Nat) : Int))).vals none 0) rfl rfl rfl (by kernel_rfl) rfl ?_) | ((first | (apply H.ar; (iterate 4 exact rfl)) | (apply H.conv_int; (iterate 2 exact rfl))); (with_reducible apply wr_u64; omega); exact rfl))
    refine H.alloc (ls := (Bod.zero 0).vals none 0) rfl rfl rfl fun bb => ?_
    refine H.storeN (ls := (Bod.zero 0).vals none 0) (vs := (bodV 6 (1 + ((x.view.toNat % 6 : Nat) : Int))).vals none 0) (ls' := (bodV 6 (1 + ((x.view.toNat % 6 : Nat) : Int))).vals none 0) rfl rfl rfl (allOne_mem rfl) rfl rfl (Nat.le_refl 76) (.here _ _ _) ?_
    repeat (first | ((apply H.assign); (iterate 3 exact rfl)) | (apply H.fieldAddr; (iterate 3 exact rfl); exact inferInstance; exact rfl) | (apply H.load1; (iterate 3 exact rfl); apply Rd1.ofRow; (repeat (first | exact .here _ _ _ | apply At.there)); (iterate 2 exact rfl)) | (first | apply H.seq | apply H.region | apply H.nil | apply H.then_normal) | ((apply H.cmp); (iterate 5 exact rfl)) | ((first | (apply H.ar; (iterate 4 exact rfl)) | (apply H.conv_int; (iterate 2 exact rfl))); (with_reducible apply wr_u64; omega); exact rfl) | (apply H.store1; (iterate 4 exact rfl); (repeat (exact .here _ _ _)); (repeat (first | exact .here _ _ _ | apply SetV.there))) | (apply H.cond_true; exact rfl) | (apply H.cond_false; exact rfl) | (apply H.block))
    refine H.index_array (i := 0) rfl rfl rfl rfl (by decide) rfl ?_
    repeat (first | (first | apply H.seq | apply H.region | apply H.nil | apply H.then_normal) | (apply H.store1; (iterate 4 exact rfl); (repeat (exact .here _ _ _)); (repeat (first | exact .here _ _ _ | apply SetV.there))) | (apply H.in_normal))
    refine H.loadN (ls := (⟨6, 0, 1 + ((x.k.toNat : Nat) : Int), Req.zero, [], dig0 x.client⟩ : Bod).vals none 0) rfl rfl rfl (Rd.ofRow (by repeat (first | exact .here _ _ _ | apply At.there))) rfl rfl ?_
    refine H.storeN (ls := (Bod.zero 0).vals none 0) (vs := (⟨6, 0, 1 + ((x.k.toNat : Nat) : Int), Req.zero, [], dig0 x.client⟩ : Bod).vals none 0) (ls' := (⟨6, 0, 1 + ((x.k.toNat : Nat) : Int), Req.zero, [], dig0 x.client⟩ : Bod).vals none 0) rfl rfl rfl (allOne_mem rfl) rfl rfl (Nat.le_refl 76) (by repeat (first | exact .here _ _ _ | apply At.there)) ?_
    repeat (first | (first | apply H.nil | apply H.then_normal) | (apply H.ret))
    refine H.drop (x := row bb _ _) (by repeat (first | exact .here _ _ | apply Pull.there)) ?_
    refine H.drop (x := row xb _ _) (by repeat (first | exact .here _ _ | apply Pull.there)) ?_
    refine H.front (x := row ob _ _) (by repeat (first | exact .here _ _ | apply Pull.there)) ?_
    exact H.retD (ls := (⟨6, 0, 1 + ((x.k.toNat : Nat) : Int), Req.zero, [], dig0 x.client⟩ : Bod).vals none 0) rfl rfl rfl (Rd.ofRow (.here _ _ _)) rfl (fun _ s => s.drop (.here _ _)) ⟨nil0, none, 0, rfl, QAt.nil _ _, Dj.nil _, (un_nil _).symm, rfl⟩
end
end Go.Proofs.YtoigpgdmignaoaaGreatDoor

/- Layer 12: the document's worlds: what Acts makes. No condition. -/
namespace Go.Proofs.YtoigpgdmignaoaaGreatDoor
open Go
def worldC (kb n : Nat) (ap : Option Addr) (m ac : Nat) : List Value := [.slice (some ⟨kb, 0, none⟩) n n, .slice ap m ac]
structure WAt (f : Frag) (n : Nat) (W : W12) (kb : Nat) (ap : Option Addr) (l : List MV) : Prop where
  k : KAt f kb n W.kv
  a : ListAt f ap 121 MV.vals l
  g : ∀ x ∈ l, x.Good f
  m : l.map MV.m = W.all
def ActsP (f : Frag) (F : List HP) (n : Nat) (W : W12) : Value → Frag → List HP → Prop := fun v f' A' =>
  ∃ (g : Frag) (wb kb : Nat) (ap : Option Addr) (ac : Nat) (l : List MV), v = .pointer (some ⟨wb, 0, none⟩) ∧ Dj f g ∧ f' = un f g ∧ A' = row wb 34 (worldC kb n ap l.length ac) :: F ∧ WAt f' n W kb ap l
def raised (kv : Nat → Nat → Int) (o j i : Nat) : Nat → Nat → Int := updF kv o fun t => if t < i then maxV (kv o) (kv j) t else kv o t
theorem raised_zero (kv : Nat → Nat → Int) (o j : Nat) : raised kv o j 0 = kv := by
  unfold raised
  have : (fun t => if t < 0 then maxV (kv o) (kv j) t else kv o t) = kv o := by funext t; rw [if_neg (by omega)]
  rw [this, updF_self]
theorem raised_o (kv : Nat → Nat → Int) (o j i : Nat) : raised kv o j i o i = kv o i := by
  unfold raised
  rw [updF_same]
  show (if i < i then _ else _) = _
  rw [if_neg (by omega)]
theorem raised_j (kv : Nat → Nat → Int) (o j i : Nat) : raised kv o j i j i = kv j i := by
  by_cases e : j = o
  · subst e; exact raised_o kv j j i
  · unfold raised; rw [updF_ne _ _ e]
theorem raised_next (kv : Nat → Nat → Int) (o j i : Nat) : updF (raised kv o j i) o (updF (raised kv o j i o) i (maxV (kv o) (kv j) i)) = raised kv o j (i + 1) := by
  unfold raised
  rw [updF_same, updF_updF]
  congr 1
  funext t
  show (if t = i then _ else if t < i then _ else _) = if t < i + 1 then _ else _
  by_cases e : t = i
  · subst e; rw [if_pos rfl, if_pos (by omega)]
  · rw [if_neg e]
    by_cases h : t < i
    · rw [if_pos h, if_pos (by omega)]
    · rw [if_neg h, if_neg (by omega)]
theorem raised_end {n o j : Nat} (W : W12) : kRow n (raised W.kv o j 11) = kRow n (W.meet o j).kv := kRow_congr fun r _ i hi => by
  show raised W.kv o j 11 r i = updF W.kv o (maxV (W.kv o) (W.kv j)) r i
  unfold raised
  by_cases e : r = o
  · subst e; rw [updF_same, updF_same, if_pos hi]
  · rw [updF_ne _ _ e, updF_ne _ _ e]
theorem A12.Has.mono {f g : Frag} (h : Le f g) {x : A12} (hx : x.Has f) : x.Has g := by
  rcases hx with e | ⟨b, off, cs, T, fr, h1, h2, h3⟩
  · exact .inl e
  · exact .inr ⟨b, off, cs, T, fr, h1, h _ _ h2, h3⟩
def A12.zero : A12 := ⟨0, 0, false, 0, 0, 0, 0, [], none, 0⟩
section
variable (f : Frag) (F : List HP)
set_option maxRecDepth 20000 in
set_option maxHeartbeats 3200000 in
theorem acts_fn {n8 : UInt8} {n : Nat} (hn8 : n = 3 + 2 * (n8.toNat % 5)) {p : Option Addr} {c : Nat} {xs : List A12} (hat : ListAt f p 8 A12.vals xs) (hh : ∀ x ∈ xs, x.Has f ∧ x.q.length ≤ 20) (hl : xs.length ≤ 100) :
    Fn Tryz.prog 17 [.int .u8 (n8.toNat : Nat), .slice p xs.length c] f F (ActsP f F n (worldOf n xs)) := by
  have hn3 : 3 ≤ n ∧ n ≤ 11 := by omega
  have hodd := fun G => rodd_fn f G n8
  rw [← hn8] at hodd
  have hn0 : ((n : Nat) : Int) ≠ 0 := by omega
  refine Fn.enter Tryz.func17 rfl Tryz.ntmps17 rfl (L := [(0, _), (1, _)]) ⟨rfl, rfl, trivial⟩ fun base => ?_
  repeat (first | ((first | apply H.move | apply H.assign); (iterate 3 exact rfl)) | (first | apply H.seq | apply H.region | apply H.nil | apply H.then_normal))
  refine H.callR rfl rfl rfl (hodd _) ?_
  refine H.makeS (m := n) (zs := v11 fun _ => 0) rfl rfl rfl rfl rfl rfl rfl (by decide) (by omega) (by omega) rfl fun kb => ?_
  rw [kRow_zero]
  repeat ((refine H.build (t := 34) (out := worldC kb n none 0 0) rfl rfl rfl (by kernel_rfl) rfl ?_))
  refine H.box (ls := worldC kb n none 0 0) rfl rfl rfl rfl fun wb => ?_
  repeat (first | ((apply H.assign); (iterate 3 exact rfl)) | (first | apply H.seq | apply H.region | apply H.nil | apply H.then_normal) | (apply H.block))
  refine H.slc0 47 121 ?_
  refine H.front (x := row kb _ _) (by repeat (first | exact .here _ _ | apply Pull.there)) ?_
  refine H.front (x := row wb _ _) (by repeat (first | exact .here _ _ | apply Pull.there)) ?_
  refine H.loop (ι := Nat × Frag × List MV × Option Addr × Nat) (fun s => [(6, .int .i64 (s.1 : Int)), (1, .slice p xs.length c), (5, .pointer (some ⟨wb, 0, none⟩))]) (fun s => un f s.2.1)
    (fun s => row wb 34 (worldC kb n s.2.2.2.1 s.2.2.1.length s.2.2.2.2) :: row kb 37 (kRow n (worldOf n (xs.take s.1)).kv) :: slc s.2.2.2.1 s.2.2.1.length s.2.2.2.2 47 121 (s.2.2.1.flatMap MV.vals) :: F)
    (fun s => s.1 ≤ xs.length ∧ s.2.2.1.map MV.m = (worldOf n (xs.take s.1)).all ∧ (∀ y ∈ s.2.2.1, y.Good (un f s.2.1)) ∧ Dj f s.2.1) (fun s => xs.length - s.1)
    (0, nil0, [], none, 0) ⟨Nat.zero_le _, rfl, (fun y hy => by cases hy), Dj.nil f⟩ ⟨rfl, rfl, rfl, trivial⟩ (un_nil f).symm rfl fun s hs => ?_
  obtain ⟨k, G, l, ap, ac⟩ := s
  obtain ⟨hk, hm, hg, hdj⟩ : k ≤ xs.length ∧ l.map MV.m = (worldOf n (xs.take k)).all ∧ (∀ y ∈ l, y.Good (un f G)) ∧ Dj f G := hs
  show H _ _ _ [(6, .int .i64 (k : Int)), _, _] (un f G) (row wb _ (worldC kb n ap l.length ac) :: row kb _ (kRow n (worldOf n (xs.take k)).kv) :: slc ap l.length ac _ 121 (l.flatMap MV.vals) :: F) _
  have hinv := worldOf_inv (n := n) (by omega) hn3.2 xs k
  have hwl := worldOf_len n xs k
  have hll : l.length ≤ 100 := by
    have := congrArg List.length hm
    rw [List.length_map] at this
    omega
  by_cases hlt : k < xs.length
  · obtain ⟨x, hx⟩ : ∃ x, xs[k]? = some x := ⟨_, List.getElem?_eq_getElem hlt⟩
    have hnext : worldOf n (xs.take (k + 1)) = (worldOf n (xs.take k)).act n x := by rw [take_snoc hx, worldOf_snoc]
    obtain ⟨hxa, hxq⟩ := hh x (List.mem_of_getElem? hx)
    obtain ⟨b, off, cs, T, fr, rfl, hfb, hcs⟩ := hat k x hx
    have rd : ∀ A, Rd (un f G) A b (off + k * 8) x.vals := fun A => Rd.imm (Le.un f G b _ hfb) hcs
    clear hcs hfb
    generalize hW : worldOf n (xs.take k) = W at *
    have ho : x.who.toNat % n < n := Nat.mod_lt _ (by omega)
    have hkv := hinv.kv_le ho
    have hrem := tmod_nat (a := x.who.toNat) (b := n) rfl
    have hwho := x.who.toNat_lt
    have hoth := x.other.toNat_lt
    have hj : x.other.toNat % n < n := Nat.mod_lt _ (by omega)
    repeat (first | ((first | apply H.move | apply H.len_slice); (iterate 3 exact rfl)) | (first | apply H.seq | apply H.region | apply H.nil | apply H.then_normal) | ((apply H.cmp); (iterate 5 exact rfl)) | (first | apply H.skip | apply H.block) | (apply H.cond_yes; exact rfl; (omega)))
    refine H.index_slice (i := k) rfl rfl rfl rfl hlt rfl ?_
    refine H.loadN (ls := x.vals) rfl rfl rfl (rd _) rfl rfl ?_
    refine H.alloc (ls := A12.zero.vals) rfl rfl rfl fun xb => ?_
    refine H.storeN (ls := A12.zero.vals) (vs := x.vals) (ls' := x.vals) rfl rfl rfl (allOne_mem rfl) rfl rfl (Nat.le_refl 8) (.here _ _ _) ?_
    repeat ((first | apply H.seq | apply H.nil | apply H.then_normal))
    refine H.drawQ (by kernel_rfl) (by decide +kernel) (by repeat (first | exact blind_fn | refine blind_seq ?_ | refine blind_block ?_ | refine blind_loop ?_)) ?_
    repeat (first | (refine HQ.rem (z := ((x.who.toNat % n : Nat) : Int)) rfl rfl rfl hn0 hrem rfl ?_) | ((first | apply HQ.move | apply HQ.assign | apply HQ.nilCheck | apply HQ.len_slice); (iterate 3 exact rfl)) | (apply HQ.fieldAddr; (iterate 3 exact rfl); exact inferInstance; exact rfl) | (apply HQ.load1; (iterate 3 exact rfl); apply Rd1.ofRow; (repeat (first | exact .here _ _ _ | apply At.there)); (iterate 2 exact rfl)) | ((apply HQ.done0); exact rfl) | ((apply HQ.conv_int; (iterate 2 exact rfl)); (with_reducible apply wr_i64; omega); exact rfl))
    repeat (first | (apply H.fieldAddr; (iterate 3 exact rfl); exact inferInstance; exact rfl) | (apply H.load1; (iterate 3 exact rfl); apply Rd1.ofRow; (repeat (exact .here _ _ _)); (iterate 2 exact rfl)) | (first | apply H.seq | apply H.region | apply H.nil | apply H.then_normal))
    cases hmt : x.meet with
    | true =>
      unfold W12.act at hnext
      rw [if_pos hmt] at hnext
      repeat (first | (apply H.seq) | (apply H.cond_true; exact rfl))
      generalize hoe : x.who.toNat % n = o at *
      refine H.drawQ (by kernel_rfl) (by decide +kernel) (by repeat (first | exact blind_fn | refine blind_seq ?_ | refine blind_block ?_ | refine blind_loop ?_)) ?_
      repeat (first | (refine HQ.rem (z := ((x.other.toNat % n : Nat) : Int)) rfl rfl rfl hn0 (tmod_nat (a := x.other.toNat) (b := n) rfl) rfl ?_) | ((first | apply HQ.move | apply HQ.assign | apply HQ.nilCheck | apply HQ.len_slice); (iterate 3 exact rfl)) | (apply HQ.fieldAddr; (iterate 3 exact rfl); exact inferInstance; exact rfl) | (apply HQ.load1; (iterate 3 exact rfl); apply Rd1.ofRow; (repeat (first | exact .here _ _ _ | apply At.there)); (iterate 2 exact rfl)) | ((apply HQ.done0); exact rfl) | ((apply HQ.conv_int; (iterate 2 exact rfl)); (with_reducible apply wr_i64; omega); exact rfl))
      repeat (first | ((apply H.assign); (iterate 3 exact rfl)) | (first | apply H.seq | apply H.region | apply H.nil | apply H.then_normal) | (apply H.block))
      generalize hje : x.other.toNat % n = j at *
      refine H.front (x := row kb _ _) (by repeat (first | exact .here _ _ | apply Pull.there)) ?_
      refine H.front (x := row wb _ _) (by repeat (first | exact .here _ _ | apply Pull.there)) ?_
      refine H.loop (ι := Nat) (fun i => [(10, .int .i64 (i : Int)), (8, .int .i64 (o : Int)), (9, .int .i64 (j : Int)), (5, .pointer (some ⟨wb, 0, none⟩)), (6, .int .i64 (k : Int)), (1, .slice (some ⟨b, off, none⟩) xs.length c)]) (fun _ => un f G)
        (fun i => row wb 34 (worldC kb n ap l.length ac) :: row kb 37 (kRow n (raised W.kv o j i)) :: row xb 113 x.vals :: slc ap l.length ac 47 121 (l.flatMap MV.vals) :: F)
        (fun i => i ≤ 11) (fun i => 11 - i) 0 (Nat.zero_le _) ⟨rfl, rfl, rfl, rfl, rfl, rfl, trivial⟩ rfl (by rw [raised_zero]) fun i hi => ?_
      have hi : i ≤ 11 := hi
      by_cases hi11 : i < 11
      · have hro := raised_o W.kv o j i
        have hrj := raised_j W.kv o j i
        have hrn := raised_next W.kv o j i
        have hg1 := kRow_get (kv := raised W.kv o j i) ho hi11
        have hg2 := kRow_get (kv := raised W.kv o j i) hj hi11
        rw [hro] at hg1
        rw [hrj] at hg2
        have hset := kRow_set (kv := raised W.kv o j i) (maxV (W.kv o) (W.kv j) i) ho hi11
        rw [hrn] at hset
        repeat (first | ((apply H.move); (iterate 3 exact rfl)) | (first | apply H.seq | apply H.region | apply H.nil | apply H.then_normal) | ((apply H.cmp); (iterate 5 exact rfl)) | (first | apply H.skip | apply H.block) | (apply H.cond_yes; exact rfl; (omega)))
        refine H.drawC [0, 1, 2, 3, 4, 5, 6, 7, 8, 9, 10, 11, 12, 13, 14, 15, 16, 17, 18, 19, 20, 21, 22, 23, 24, 25, 26] (by kernel_rfl) (by decide +kernel) (by repeat (first | exact blind_fn | refine blind_seq ?_ | refine blind_block ?_ | refine blind_loop ?_)) (S := [_, _]) rfl ?_
        refine HB.quiet [(0, false), (1, false), (2, false), (3, false), (4, false), (5, false), (6, false), (7, false), (8, false), (9, false), (10, false), (11, false), (12, false), (13, false), (14, false), (15, false), (16, false), (17, false), (18, false), (19, false), (20, false), (21, false), (22, false), (23, false), (24, false), (25, false), (26, false)] 1 (by kernel_rfl) ?_
        repeat (first | ((first | apply HQ.move | apply HQ.nilCheck); (iterate 3 exact rfl)) | (apply HQ.fieldAddr; (iterate 3 exact rfl); exact inferInstance; exact rfl) | (apply HQ.load1; (iterate 3 exact rfl); apply Rd1.ofRow; (repeat (exact .here _ _ _)); (iterate 2 exact rfl)))
        refine HQ.index_slice (i := o) rfl rfl rfl rfl ho rfl ?_
        refine HQ.index_array (i := i) rfl rfl rfl rfl hi11 rfl ?_
        refine HQ.load1 rfl rfl rfl (.at0 (Rd.ofRow (.there _ (.here _ _ _))) (by rw [Nat.zero_add, Nat.mul_one]; exact hg1)) rfl ?_
        repeat (first | ((first | apply HQ.move | apply HQ.nilCheck); (iterate 3 exact rfl)) | (apply HQ.fieldAddr; (iterate 3 exact rfl); exact inferInstance; exact rfl) | (apply HQ.load1; (iterate 3 exact rfl); apply Rd1.ofRow; (repeat (exact .here _ _ _)); (iterate 2 exact rfl)))
        refine HQ.index_slice (i := j) rfl rfl rfl rfl hj rfl ?_
        refine HQ.index_array (i := i) rfl rfl rfl rfl hi11 rfl ?_
        refine HQ.load1 rfl rfl rfl (.at0 (Rd.ofRow (.there _ (.here _ _ _))) (by rw [Nat.zero_add, Nat.mul_one]; exact hg2)) rfl ?_
        refine HQ.max2 (z := maxV (W.kv o) (W.kv j) i) rfl rfl rfl rfl rfl ?_
        refine HQ.index_slice (i := o) rfl rfl rfl rfl ho rfl ?_
        refine HQ.index_array (i := i) rfl rfl rfl rfl hi11 rfl ?_
        refine HQ.more rfl ?_
        refine HB.next [] (by kernel_rfl) (S' := []) rfl ?_
        refine HB.ev1 (i := 27) (by kernel_rfl) rfl ?_
        refine H.store1 (v := .int .u64 (maxV (W.kv o) (W.kv j) i)) (ls := kRow n (raised W.kv o j i)) (ls' := kRow n (raised W.kv o j (i + 1))) rfl rfl rfl rfl (.there _ (.here _ _ _)) (by rw [Nat.zero_add, Nat.mul_one]; exact hset) ?_
        repeat ((apply H.nil))
        refine H.on0 rfl ?_
        refine HB.done (by kernel_rfl) ?_
        repeat (first | ((first | apply H.move | apply H.assign); (iterate 3 exact rfl)) | (first | apply H.region | apply H.nil | apply H.then_normal) | ((apply H.ar; (iterate 4 exact rfl)); (with_reducible apply wr_i64_n1; omega); exact rfl) | (apply H.in_normal))
        refine H.again (i + 1) (by show i + 1 ≤ 11; omega) (by show 11 - (i + 1) < 11 - i; omega) ⟨rfl, rfl, rfl, rfl, rfl, rfl, trivial⟩ rfl rfl
      · have e : i = 11 := by omega
        subst e
        rw [raised_end]
        repeat (first | ((first | apply H.move | apply H.assign); (iterate 3 exact rfl)) | (first | apply H.seq | apply H.region | apply H.nil | apply H.then_normal) | ((apply H.cmp); (iterate 5 exact rfl)) | ((apply H.ar; (iterate 4 exact rfl)); (with_reducible apply wr_i64_n1; omega); exact rfl) | (apply H.cond_false; exact rfl) | (first | apply H.then_exit | apply H.exit | apply H.in_hit | apply H.loop_exit))
        refine H.drop (x := row xb _ _) (by repeat (first | exact .here _ _ | apply Pull.there)) ?_
        refine H.again (k + 1, G, l, ap, ac) ⟨by show k + 1 ≤ xs.length; omega, by show l.map MV.m = _; rw [hnext]; exact hm, hg, hdj⟩ (by show xs.length - (k + 1) < xs.length - k; omega) ⟨rfl, rfl, rfl, trivial⟩ rfl ?_
        show _ :: _ :: _ = _ :: row kb _ (kRow n (worldOf n (xs.take (k + 1))).kv) :: _
        rw [hnext]
    | false =>
      unfold W12.act at hnext
      rw [if_neg (by rw [hmt]; decide)] at hnext
      repeat (first | (first | apply H.seq | apply H.then_normal) | (apply H.cond_false; exact rfl) | (apply H.skip))
      generalize hoe : x.who.toNat % n = o at *
      refine H.front (x := row kb _ _) (by repeat (first | exact .here _ _ | apply Pull.there)) ?_
      refine H.front (x := row wb _ _) (by repeat (first | exact .here _ _ | apply Pull.there)) ?_
      refine H.front (x := row xb _ _) (by repeat (first | exact .here _ _ | apply Pull.there)) ?_
      have hxa2 : x.Has (un f G) := A12.Has.mono (Le.un f G) hxa
      have hgk0 := kRow_get (kv := W.kv) ho (show o < 11 by omega)
      refine H.drawB (by kernel_rfl) (by decide +kernel) (by repeat (first | exact blind_fn | refine blind_seq ?_ | refine blind_block ?_ | refine blind_loop ?_)) (S := [_, _, _]) rfl ?_
      refine HB.quiet [(0, false), (1, false), (2, false), (3, false), (4, false), (5, false), (6, false), (7, false), (8, false), (9, false), (10, false), (11, false), (12, false), (13, false), (14, false), (15, false), (16, false), (17, false), (18, false), (19, false), (20, false), (21, false), (22, false), (23, false), (24, false)] 4 (by kernel_rfl) ?_
      have hko := hkv o
      repeat (first | ((first | apply HQ.move | apply HQ.nilCheck); (iterate 3 exact rfl)) | (apply HQ.fieldAddr; (iterate 3 exact rfl); exact inferInstance; exact rfl) | (apply HQ.load1; (iterate 3 exact rfl); apply Rd1.ofRow; (repeat (first | exact .here _ _ _ | apply At.there)); (iterate 2 exact rfl)) | ((apply HQ.ar; (iterate 4 exact rfl)); (with_reducible apply wr_i64_n1; omega); exact rfl))
      refine HQ.index_slice (i := o) rfl rfl rfl rfl ho rfl ?_
      refine HQ.index_array (i := o) rfl rfl rfl rfl (by omega) rfl ?_
      refine HQ.load1 rfl rfl rfl (.at0 (Rd.ofRow (.there _ (.there _ (.here _ _ _)))) (by rw [Nat.zero_add, Nat.mul_one]; exact hgk0)) rfl ?_
      repeat (first | ((first | apply HQ.move | apply HQ.nilCheck); (iterate 3 exact rfl)) | (apply HQ.fieldAddr; (iterate 3 exact rfl); exact inferInstance; exact rfl) | (apply HQ.load1; (iterate 3 exact rfl); apply Rd1.ofRow; (repeat (first | exact .here _ _ _ | apply At.there)); (iterate 2 exact rfl)) | ((apply HQ.ar; (iterate 4 exact rfl)); (with_reducible apply wr_u64; omega); exact rfl))
      refine HQ.index_slice (i := o) rfl rfl rfl rfl ho rfl ?_
      refine HQ.loadN (ls := v11 (W.kv o)) rfl rfl rfl (by rw [Nat.zero_add]; exact Rd.kRow (Rd.ofRow (.there _ (.there _ (.here _ _ _)))) ho) rfl rfl ?_
      refine HQ.loadN (ls := x.vals) rfl rfl rfl (Rd.ofRow (.here _ _ _)) rfl rfl ?_
      repeat (first | ((first | apply HQ.move | apply HQ.nilCheck | apply HQ.len_slice); (iterate 3 exact rfl)) | (apply HQ.fieldAddr; (iterate 3 exact rfl); exact inferInstance; exact rfl) | (apply HQ.load1; (iterate 3 exact rfl); apply Rd1.ofRow; (repeat (first | exact .here _ _ _ | apply At.there)); (iterate 2 exact rfl)))
      refine HQ.more rfl ?_
      refine HB.ev2 (i := 25) (j := 27) (by kernel_rfl) rfl rfl ?_ ?_
      · refine H.call rfl rfl rfl (abody_fn (un f G) _ (n := n) ⟨by omega, by omega⟩ hxa2 hxq) fun v f' A' hr => ?_
        obtain ⟨g, qp, qc, rfl, hqat, hd, rfl, rfl⟩ := hr
        have hgood : (⟨W.next n o x, qp, qc⟩ : MV).Good (un (un f G) g) := ⟨hqat, by have := (x.bod_q (n := n) (by omega)).1; show (x.bod n).q.length ≤ _; omega, x.bod_ok n⟩
        have hmsg := good_signed hgood
        have hmay : ∀ H, Fn Tryz.prog 54 [.agg ((W.next n o x).vals qp qc).toArray] (un (un f G) g) H (Ret (.bool (W.next n o x).may) (un (un f G) g) H) := fun H => rmay_fn (un (un f G) g) H hgood.1 (by have := hgood.2.1; show (W.next n o x).body.q.length ≤ _; have h2 : (W.next n o x).body.q.length ≤ 1000000 := this; omega)
        have hsg := fun H => rtagged_fn (un (un f G) g) H (m := W.next n o x) (q := qp) (qc := qc) hgood.1 (by have h2 : (W.next n o x).body.q.length ≤ 1000000 := hgood.2.1; omega)
        repeat ((apply H.nil))
        refine H.on [] (Le.un _ g) rfl ?_
        refine HB.quiet [(26, false)] 2 (by kernel_rfl) ?_
        refine HQ.build (t := 47) (out := (W.next n o x).vals qp qc) rfl rfl rfl (by kernel_rfl) rfl ?_
        refine HQ.more rfl ?_
        refine HB.ev1 (i := 27) (by kernel_rfl) rfl ?_
        refine H.alloc (ls := msgZ.vals none 0) rfl rfl rfl fun mb => ?_
        repeat ((apply H.nil))
        refine H.front (x := row kb _ _) (by repeat (first | exact .here _ _ | apply Pull.there)) ?_
        refine H.front (x := row wb _ _) (by repeat (first | exact .here _ _ | apply Pull.there)) ?_
        refine H.front (x := row xb _ _) (by repeat (first | exact .here _ _ | apply Pull.there)) ?_
        refine H.on0 rfl ?_
        refine HB.ev1 (i := 28) (by kernel_rfl) rfl ?_
        refine H.storeN (ls := msgZ.vals none 0) (vs := (W.next n o x).vals qp qc) (ls' := (W.next n o x).vals qp qc) rfl rfl rfl (allOne_mem rfl) rfl rfl (Nat.le_refl 121) (by repeat (first | exact .here _ _ _ | apply At.there)) ?_
        repeat ((apply H.nil))
        refine H.on0 rfl ?_
        refine HB.done (by kernel_rfl) ?_
        repeat ((first | apply H.seq | apply H.region | apply H.then_normal))
        refine H.loadN (ls := (W.next n o x).vals qp qc) rfl rfl rfl (Rd.ofRow (by repeat (first | exact .here _ _ _ | apply At.there))) rfl rfl ?_
        cases hmy : (W.next n o x).may with
        | false =>
          rw [hmy] at hmay
          rw [if_neg (by rw [hmy]; decide)] at hnext
          refine H.callR rfl rfl rfl (hmay _) ?_
          repeat (first | ((first | apply H.move | apply H.assign); (iterate 3 exact rfl)) | (first | apply H.region | apply H.nil | apply H.then_normal) | ((apply H.ar; (iterate 4 exact rfl)); (with_reducible apply wr_i64_n1; omega); exact rfl) | (apply H.cond_false; exact rfl) | (first | apply H.skip | apply H.in_normal))
          refine H.drop (x := row mb _ _) (by repeat (first | exact .here _ _ | apply Pull.there)) ?_
          refine H.drop (x := row xb _ _) (by repeat (first | exact .here _ _ | apply Pull.there)) ?_
          refine H.front (x := slc ap _ ac _ _ _) (by repeat (first | exact .here _ _ | apply Pull.there)) ?_
          refine H.front (x := row kb _ _) (by repeat (first | exact .here _ _ | apply Pull.there)) ?_
          refine H.front (x := row wb _ _) (by repeat (first | exact .here _ _ | apply Pull.there)) ?_
          refine H.again (k + 1, un G g, l, ap, ac) ⟨by show k + 1 ≤ xs.length; omega, by show l.map MV.m = _; rw [hnext]; exact hm, fun y hy => by show y.Good (un f (un G g)); rw [← un_assoc]; exact (hg y hy).mono (Le.un _ g), Dj.un3' hdj hd⟩ (by show xs.length - (k + 1) < xs.length - k; omega) ⟨rfl, rfl, rfl, trivial⟩ (un_assoc _ _ _) ?_
          show _ :: _ :: _ = _ :: row kb _ (kRow n (worldOf n (xs.take (k + 1))).kv) :: _
          rw [hnext]
        | true =>
          rw [hmy] at hmay
          rw [if_pos hmy] at hnext
          refine H.callR rfl rfl rfl (hmay _) ?_
          repeat (first | (first | apply H.seq | apply H.nil | apply H.then_normal) | (apply H.cond_true; exact rfl))
          refine H.front (x := row wb _ _) (by repeat (first | exact .here _ _ | apply Pull.there)) ?_
          refine H.front (x := row mb _ _) (by repeat (first | exact .here _ _ | apply Pull.there)) ?_
          refine H.drawC [0, 1, 2, 3, 4, 5, 6, 7, 8] (by kernel_rfl) (by decide +kernel) (by repeat (first | exact blind_fn | refine blind_seq ?_ | refine blind_block ?_ | refine blind_loop ?_)) (S := [_, _]) rfl ?_
          refine HB.quiet [(0, false), (1, false), (2, false), (3, false), (4, false), (5, false)] 6 (by kernel_rfl) ?_
          repeat (first | ((first | apply HQ.move | apply HQ.nilCheck); (iterate 3 exact rfl)) | (apply HQ.fieldAddr; (iterate 3 exact rfl); exact inferInstance; exact rfl) | (apply HQ.load1; (iterate 3 exact rfl); apply Rd1.ofRow; (repeat (first | exact .here _ _ _ | apply At.there)); (iterate 2 exact rfl)))
          refine HQ.loadN (ls := (W.next n o x).vals qp qc) rfl rfl rfl (Rd.ofRow (.here _ _ _)) rfl rfl ?_
          refine HQ.more rfl ?_
          refine HB.ev1 (i := 6) (by kernel_rfl) rfl ?_
          refine H.callR rfl rfl rfl (hsg _) ?_
          generalize hms : (W.next n o x).signed = ms at *
          repeat ((apply H.nil))
          refine H.on0 rfl ?_
          refine HB.ev1 (i := 7) (by kernel_rfl) rfl ?_
          refine H.buildSlice (out := ms.vals qp qc) rfl rfl rfl rfl (by decide) (by decide) rfl rfl fun eb => ?_
          repeat ((apply H.nil))
          refine H.front (x := row wb _ _) (by repeat (first | exact .here _ _ | apply Pull.there)) ?_
          refine H.front (x := row mb _ _) (by repeat (first | exact .here _ _ | apply Pull.there)) ?_
          refine H.on0 rfl ?_
          refine HB.ev1 (i := 8) (by kernel_rfl) rfl ?_
          refine H.append (p := ap) (n0 := l.length) (c := ac) (xs := l.flatMap MV.vals) (m := 1) (news := ms.vals qp qc) rfl rfl rfl rfl rfl (fun p' c' => (by repeat (first | exact .here _ _ _ | apply At.there))) (Src.slice (Rd.ofRow (by repeat (first | exact .here _ _ _ | apply At.there))) rfl) (allOne_mem rfl) rfl (by omega) (by omega) fun ap2 ac2 => ?_
          repeat ((apply H.nil))
          refine H.drop (x := row eb _ _) (by repeat (first | exact .here _ _ | apply Pull.there)) ?_
          refine H.on0 rfl ?_
          refine HB.next [] (by kernel_rfl) (S' := []) rfl ?_
          refine HB.quiet [(9, false), (10, false)] 1 (by kernel_rfl) ?_
          repeat (first | ((apply HQ.nilCheck); (iterate 3 exact rfl)) | (apply HQ.fieldAddr; (iterate 3 exact rfl); exact inferInstance; exact rfl))
          refine HQ.more rfl ?_
          refine HB.ev1 (i := 11) (by kernel_rfl) rfl ?_
          refine H.store1 (ls := worldC kb n ap l.length ac) (ls' := worldC kb n ap2 (l.length + 1) ac2) rfl rfl rfl rfl (.there _ (.here _ _ _)) (.there _ (.here _ _ _)) ?_
          repeat ((apply H.nil))
          refine H.on0 rfl ?_
          refine HB.done (by kernel_rfl) ?_
          repeat ((apply H.then_normal))
          have hgk := kRow_get (kv := W.kv) ho (show o < 11 by omega)
          have hset := kRow_set (kv := W.kv) (W.kv o o + 1) ho (show o < 11 by omega)
          refine H.front (x := row kb _ _) (by repeat (first | exact .here _ _ | apply Pull.there)) ?_
          refine H.front (x := row wb _ _) (by repeat (first | exact .here _ _ | apply Pull.there)) ?_
          refine H.drawC [0, 1, 2, 3, 4, 5, 6, 7, 8, 9, 10, 11] (by kernel_rfl) (by decide +kernel) (by repeat (first | exact blind_fn | refine blind_seq ?_ | refine blind_block ?_ | refine blind_loop ?_)) (S := [_, _]) rfl ?_
          refine HB.quiet [(0, false), (1, false), (2, false), (3, false), (4, false), (5, false), (6, false), (7, false), (8, false), (9, false), (10, false), (11, false)] 1 (by kernel_rfl) ?_
          repeat (first | ((first | apply HQ.move | apply HQ.nilCheck); (iterate 3 exact rfl)) | (apply HQ.fieldAddr; (iterate 3 exact rfl); exact inferInstance; exact rfl) | (apply HQ.load1; (iterate 3 exact rfl); apply Rd1.ofRow; (repeat (exact .here _ _ _)); (iterate 2 exact rfl)))
          refine HQ.index_slice (i := o) rfl rfl rfl rfl ho rfl ?_
          refine HQ.index_array (i := o) rfl rfl rfl rfl (by omega) rfl ?_
          refine HQ.load1 rfl rfl rfl (.at0 (Rd.ofRow (.there _ (.here _ _ _))) (by rw [Nat.zero_add, Nat.mul_one]; exact hgk)) rfl ?_
          repeat (((apply HQ.ar; (iterate 4 exact rfl)); (with_reducible apply wr_u64; omega); exact rfl))
          refine HQ.index_slice (i := o) rfl rfl rfl rfl ho rfl ?_
          refine HQ.index_array (i := o) rfl rfl rfl rfl (by omega) rfl ?_
          refine HQ.more rfl ?_
          refine HB.next [] (by kernel_rfl) (S' := []) rfl ?_
          refine HB.ev1 (i := 12) (by kernel_rfl) rfl ?_
          refine H.store1 (v := .int .u64 (W.kv o o + 1)) (ls := kRow n W.kv) (ls' := kRow n (W.say o ms).kv) rfl rfl rfl rfl (.there _ (.here _ _ _)) (by rw [Nat.zero_add, Nat.mul_one]; exact hset) ?_
          repeat ((apply H.nil))
          refine H.on0 rfl ?_
          refine HB.done (by kernel_rfl) ?_
          repeat (first | ((first | apply H.move | apply H.assign); (iterate 3 exact rfl)) | (first | apply H.region | apply H.nil | apply H.then_normal) | ((apply H.ar; (iterate 4 exact rfl)); (with_reducible apply wr_i64_n1; omega); exact rfl) | (apply H.in_normal))
          refine H.drop (x := row mb _ _) (by repeat (first | exact .here _ _ | apply Pull.there)) ?_
          refine H.drop (x := row xb _ _) (by repeat (first | exact .here _ _ | apply Pull.there)) ?_
          refine H.front (x := slc ap2 _ ac2 _ _ _) (by repeat (first | exact .here _ _ | apply Pull.there)) ?_
          refine H.front (x := row kb _ _) (by repeat (first | exact .here _ _ | apply Pull.there)) ?_
          refine H.front (x := row wb _ _) (by repeat (first | exact .here _ _ | apply Pull.there)) ?_
          refine H.again (k + 1, un G g, l ++ [⟨ms, qp, qc⟩], ap2, ac2) ⟨by show k + 1 ≤ xs.length; omega, by show (l ++ [(⟨ms, qp, qc⟩ : MV)]).map MV.m = _; rw [hnext, List.map_append, hm]; rfl, fun y hy => ?_, Dj.un3' hdj hd⟩ (by show xs.length - (k + 1) < xs.length - k; omega) ⟨rfl, rfl, rfl, trivial⟩ (un_assoc _ _ _) ?_
          · show y.Good (un f (un G g))
            rw [← un_assoc]
            have hy : y ∈ l ++ [(⟨ms, qp, qc⟩ : MV)] := hy
            rcases List.mem_append.1 hy with hy | hy
            · exact (hg y hy).mono (Le.un _ g)
            · rw [List.mem_singleton] at hy; subst hy; exact hmsg
          · show row wb _ (worldC kb n ap2 (l.length + 1) ac2) :: _ :: slc ap2 (l.length + 1) ac2 _ 121 (l.flatMap MV.vals ++ (⟨ms, qp, qc⟩ : MV).vals) :: F = row wb _ (worldC kb n ap2 (l ++ [(⟨ms, qp, qc⟩ : MV)]).length ac2) :: row kb _ (kRow n (worldOf n (xs.take (k + 1))).kv) :: slc ap2 (l ++ [(⟨ms, qp, qc⟩ : MV)]).length ac2 _ 121 ((l ++ [(⟨ms, qp, qc⟩ : MV)]).flatMap MV.vals) :: F
            rw [slc_snoc, hnext, List.length_append]
            rfl
      · refine H.alloc (ls := msgZ.vals none 0) rfl rfl rfl fun mb => ?_
        repeat ((apply H.nil))
        refine H.front (x := row kb _ _) (by repeat (first | exact .here _ _ | apply Pull.there)) ?_
        refine H.front (x := row wb _ _) (by repeat (first | exact .here _ _ | apply Pull.there)) ?_
        refine H.front (x := row xb _ _) (by repeat (first | exact .here _ _ | apply Pull.there)) ?_
        refine H.on0 rfl ?_
        refine HB.ev1 (i := 25) (by kernel_rfl) rfl ?_
        refine H.call rfl rfl rfl (abody_fn (un f G) _ (n := n) ⟨by omega, by omega⟩ hxa2 hxq) fun v f' A' hr => ?_
        obtain ⟨g, qp, qc, rfl, hqat, hd, rfl, rfl⟩ := hr
        have hgood : (⟨W.next n o x, qp, qc⟩ : MV).Good (un (un f G) g) := ⟨hqat, by have := (x.bod_q (n := n) (by omega)).1; show (x.bod n).q.length ≤ _; omega, x.bod_ok n⟩
        have hmsg := good_signed hgood
        have hmay : ∀ H, Fn Tryz.prog 54 [.agg ((W.next n o x).vals qp qc).toArray] (un (un f G) g) H (Ret (.bool (W.next n o x).may) (un (un f G) g) H) := fun H => rmay_fn (un (un f G) g) H hgood.1 (by have := hgood.2.1; show (W.next n o x).body.q.length ≤ _; have h2 : (W.next n o x).body.q.length ≤ 1000000 := this; omega)
        have hsg := fun H => rtagged_fn (un (un f G) g) H (m := W.next n o x) (q := qp) (qc := qc) hgood.1 (by have h2 : (W.next n o x).body.q.length ≤ 1000000 := hgood.2.1; omega)
        repeat ((apply H.nil))
        refine H.on [] (Le.un _ g) rfl ?_
        refine HB.quiet [(26, false)] 1 (by kernel_rfl) ?_
        refine HQ.build (t := 47) (out := (W.next n o x).vals qp qc) rfl rfl rfl (by kernel_rfl) rfl ?_
        refine HQ.more rfl ?_
        refine HB.ev1 (i := 28) (by kernel_rfl) rfl ?_
        refine H.storeN (ls := msgZ.vals none 0) (vs := (W.next n o x).vals qp qc) (ls' := (W.next n o x).vals qp qc) rfl rfl rfl (allOne_mem rfl) rfl rfl (Nat.le_refl 121) (by repeat (first | exact .here _ _ _ | apply At.there)) ?_
        repeat ((apply H.nil))
        refine H.on0 rfl ?_
        refine HB.done (by kernel_rfl) ?_
        repeat ((first | apply H.seq | apply H.region | apply H.then_normal))
        refine H.loadN (ls := (W.next n o x).vals qp qc) rfl rfl rfl (Rd.ofRow (by repeat (first | exact .here _ _ _ | apply At.there))) rfl rfl ?_
        cases hmy : (W.next n o x).may with
        | false =>
          rw [hmy] at hmay
          rw [if_neg (by rw [hmy]; decide)] at hnext
          refine H.callR rfl rfl rfl (hmay _) ?_
          repeat (first | ((first | apply H.move | apply H.assign); (iterate 3 exact rfl)) | (first | apply H.region | apply H.nil | apply H.then_normal) | ((apply H.ar; (iterate 4 exact rfl)); (with_reducible apply wr_i64_n1; omega); exact rfl) | (apply H.cond_false; exact rfl) | (first | apply H.skip | apply H.in_normal))
          refine H.drop (x := row mb _ _) (by repeat (first | exact .here _ _ | apply Pull.there)) ?_
          refine H.drop (x := row xb _ _) (by repeat (first | exact .here _ _ | apply Pull.there)) ?_
          refine H.front (x := slc ap _ ac _ _ _) (by repeat (first | exact .here _ _ | apply Pull.there)) ?_
          refine H.front (x := row kb _ _) (by repeat (first | exact .here _ _ | apply Pull.there)) ?_
          refine H.front (x := row wb _ _) (by repeat (first | exact .here _ _ | apply Pull.there)) ?_
          refine H.again (k + 1, un G g, l, ap, ac) ⟨by show k + 1 ≤ xs.length; omega, by show l.map MV.m = _; rw [hnext]; exact hm, fun y hy => by show y.Good (un f (un G g)); rw [← un_assoc]; exact (hg y hy).mono (Le.un _ g), Dj.un3' hdj hd⟩ (by show xs.length - (k + 1) < xs.length - k; omega) ⟨rfl, rfl, rfl, trivial⟩ (un_assoc _ _ _) ?_
          show _ :: _ :: _ = _ :: row kb _ (kRow n (worldOf n (xs.take (k + 1))).kv) :: _
          rw [hnext]
        | true =>
          rw [hmy] at hmay
          rw [if_pos hmy] at hnext
          refine H.callR rfl rfl rfl (hmay _) ?_
          repeat (first | (first | apply H.seq | apply H.nil | apply H.then_normal) | (apply H.cond_true; exact rfl))
          refine H.front (x := row wb _ _) (by repeat (first | exact .here _ _ | apply Pull.there)) ?_
          refine H.front (x := row mb _ _) (by repeat (first | exact .here _ _ | apply Pull.there)) ?_
          refine H.drawC [0, 1, 2, 3, 4, 5, 6, 7, 8] (by kernel_rfl) (by decide +kernel) (by repeat (first | exact blind_fn | refine blind_seq ?_ | refine blind_block ?_ | refine blind_loop ?_)) (S := [_, _]) rfl ?_
          refine HB.quiet [(0, false), (1, false), (2, false), (3, false), (4, false), (5, false)] 6 (by kernel_rfl) ?_
          repeat (first | ((first | apply HQ.move | apply HQ.nilCheck); (iterate 3 exact rfl)) | (apply HQ.fieldAddr; (iterate 3 exact rfl); exact inferInstance; exact rfl) | (apply HQ.load1; (iterate 3 exact rfl); apply Rd1.ofRow; (repeat (first | exact .here _ _ _ | apply At.there)); (iterate 2 exact rfl)))
          refine HQ.loadN (ls := (W.next n o x).vals qp qc) rfl rfl rfl (Rd.ofRow (.here _ _ _)) rfl rfl ?_
          refine HQ.more rfl ?_
          refine HB.ev1 (i := 6) (by kernel_rfl) rfl ?_
          refine H.callR rfl rfl rfl (hsg _) ?_
          generalize hms : (W.next n o x).signed = ms at *
          repeat ((apply H.nil))
          refine H.on0 rfl ?_
          refine HB.ev1 (i := 7) (by kernel_rfl) rfl ?_
          refine H.buildSlice (out := ms.vals qp qc) rfl rfl rfl rfl (by decide) (by decide) rfl rfl fun eb => ?_
          repeat ((apply H.nil))
          refine H.front (x := row wb _ _) (by repeat (first | exact .here _ _ | apply Pull.there)) ?_
          refine H.front (x := row mb _ _) (by repeat (first | exact .here _ _ | apply Pull.there)) ?_
          refine H.on0 rfl ?_
          refine HB.ev1 (i := 8) (by kernel_rfl) rfl ?_
          refine H.append (p := ap) (n0 := l.length) (c := ac) (xs := l.flatMap MV.vals) (m := 1) (news := ms.vals qp qc) rfl rfl rfl rfl rfl (fun p' c' => (by repeat (first | exact .here _ _ _ | apply At.there))) (Src.slice (Rd.ofRow (by repeat (first | exact .here _ _ _ | apply At.there))) rfl) (allOne_mem rfl) rfl (by omega) (by omega) fun ap2 ac2 => ?_
          repeat ((apply H.nil))
          refine H.drop (x := row eb _ _) (by repeat (first | exact .here _ _ | apply Pull.there)) ?_
          refine H.on0 rfl ?_
          refine HB.next [] (by kernel_rfl) (S' := []) rfl ?_
          refine HB.quiet [(9, false), (10, false)] 1 (by kernel_rfl) ?_
          repeat (first | ((apply HQ.nilCheck); (iterate 3 exact rfl)) | (apply HQ.fieldAddr; (iterate 3 exact rfl); exact inferInstance; exact rfl))
          refine HQ.more rfl ?_
          refine HB.ev1 (i := 11) (by kernel_rfl) rfl ?_
          refine H.store1 (ls := worldC kb n ap l.length ac) (ls' := worldC kb n ap2 (l.length + 1) ac2) rfl rfl rfl rfl (.there _ (.here _ _ _)) (.there _ (.here _ _ _)) ?_
          repeat ((apply H.nil))
          refine H.on0 rfl ?_
          refine HB.done (by kernel_rfl) ?_
          repeat ((apply H.then_normal))
          have hgk := kRow_get (kv := W.kv) ho (show o < 11 by omega)
          have hset := kRow_set (kv := W.kv) (W.kv o o + 1) ho (show o < 11 by omega)
          refine H.front (x := row kb _ _) (by repeat (first | exact .here _ _ | apply Pull.there)) ?_
          refine H.front (x := row wb _ _) (by repeat (first | exact .here _ _ | apply Pull.there)) ?_
          refine H.drawC [0, 1, 2, 3, 4, 5, 6, 7, 8, 9, 10, 11] (by kernel_rfl) (by decide +kernel) (by repeat (first | exact blind_fn | refine blind_seq ?_ | refine blind_block ?_ | refine blind_loop ?_)) (S := [_, _]) rfl ?_
          refine HB.quiet [(0, false), (1, false), (2, false), (3, false), (4, false), (5, false), (6, false), (7, false), (8, false), (9, false), (10, false), (11, false)] 1 (by kernel_rfl) ?_
          repeat (first | ((first | apply HQ.move | apply HQ.nilCheck); (iterate 3 exact rfl)) | (apply HQ.fieldAddr; (iterate 3 exact rfl); exact inferInstance; exact rfl) | (apply HQ.load1; (iterate 3 exact rfl); apply Rd1.ofRow; (repeat (exact .here _ _ _)); (iterate 2 exact rfl)))
          refine HQ.index_slice (i := o) rfl rfl rfl rfl ho rfl ?_
          refine HQ.index_array (i := o) rfl rfl rfl rfl (by omega) rfl ?_
          refine HQ.load1 rfl rfl rfl (.at0 (Rd.ofRow (.there _ (.here _ _ _))) (by rw [Nat.zero_add, Nat.mul_one]; exact hgk)) rfl ?_
          repeat (((apply HQ.ar; (iterate 4 exact rfl)); (with_reducible apply wr_u64; omega); exact rfl))
          refine HQ.index_slice (i := o) rfl rfl rfl rfl ho rfl ?_
          refine HQ.index_array (i := o) rfl rfl rfl rfl (by omega) rfl ?_
          refine HQ.more rfl ?_
          refine HB.next [] (by kernel_rfl) (S' := []) rfl ?_
          refine HB.ev1 (i := 12) (by kernel_rfl) rfl ?_
          refine H.store1 (v := .int .u64 (W.kv o o + 1)) (ls := kRow n W.kv) (ls' := kRow n (W.say o ms).kv) rfl rfl rfl rfl (.there _ (.here _ _ _)) (by rw [Nat.zero_add, Nat.mul_one]; exact hset) ?_
          repeat ((apply H.nil))
          refine H.on0 rfl ?_
          refine HB.done (by kernel_rfl) ?_
          repeat (first | ((first | apply H.move | apply H.assign); (iterate 3 exact rfl)) | (first | apply H.region | apply H.nil | apply H.then_normal) | ((apply H.ar; (iterate 4 exact rfl)); (with_reducible apply wr_i64_n1; omega); exact rfl) | (apply H.in_normal))
          refine H.drop (x := row mb _ _) (by repeat (first | exact .here _ _ | apply Pull.there)) ?_
          refine H.drop (x := row xb _ _) (by repeat (first | exact .here _ _ | apply Pull.there)) ?_
          refine H.front (x := slc ap2 _ ac2 _ _ _) (by repeat (first | exact .here _ _ | apply Pull.there)) ?_
          refine H.front (x := row kb _ _) (by repeat (first | exact .here _ _ | apply Pull.there)) ?_
          refine H.front (x := row wb _ _) (by repeat (first | exact .here _ _ | apply Pull.there)) ?_
          refine H.again (k + 1, un G g, l ++ [⟨ms, qp, qc⟩], ap2, ac2) ⟨by show k + 1 ≤ xs.length; omega, by show (l ++ [(⟨ms, qp, qc⟩ : MV)]).map MV.m = _; rw [hnext, List.map_append, hm]; rfl, fun y hy => ?_, Dj.un3' hdj hd⟩ (by show xs.length - (k + 1) < xs.length - k; omega) ⟨rfl, rfl, rfl, trivial⟩ (un_assoc _ _ _) ?_
          · show y.Good (un f (un G g))
            rw [← un_assoc]
            have hy : y ∈ l ++ [(⟨ms, qp, qc⟩ : MV)] := hy
            rcases List.mem_append.1 hy with hy | hy
            · exact (hg y hy).mono (Le.un _ g)
            · rw [List.mem_singleton] at hy; subst hy; exact hmsg
          · show row wb _ (worldC kb n ap2 (l.length + 1) ac2) :: _ :: slc ap2 (l.length + 1) ac2 _ 121 (l.flatMap MV.vals ++ (⟨ms, qp, qc⟩ : MV).vals) :: F = row wb _ (worldC kb n ap2 (l ++ [(⟨ms, qp, qc⟩ : MV)]).length ac2) :: row kb _ (kRow n (worldOf n (xs.take (k + 1))).kv) :: slc ap2 (l ++ [(⟨ms, qp, qc⟩ : MV)]).length ac2 _ 121 ((l ++ [(⟨ms, qp, qc⟩ : MV)]).flatMap MV.vals) :: F
            rw [slc_snoc, hnext, List.length_append]
            rfl
  · have e : k = xs.length := by omega
    subst e
    repeat (first | ((first | apply H.move | apply H.assign | apply H.len_slice); (iterate 3 exact rfl)) | (first | apply H.seq | apply H.region | apply H.nil | apply H.then_normal) | ((apply H.cmp); (iterate 5 exact rfl)) | (first | apply H.ret | apply H.then_exit | apply H.exit | apply H.in_hit | apply H.loop_exit) | (apply H.cond_no; exact rfl; (omega)))
    rw [show xs.take xs.length = xs from List.take_length] at hm ⊢
    refine H.freeze (x := row kb _ _) (by repeat (first | exact .here _ _ | apply Pull.there)) fun g1 hg1 hd1 => ?_
    refine H.freeze (x := slc ap _ ac _ _ _) (by repeat (first | exact .here _ _ | apply Pull.there)) fun g2 hg2 hd2 => ?_
    have e3 : un (un (un f G) g1) g2 = un f (un (un G g1) g2) := by rw [un_assoc, un_assoc, un_assoc]
    have hd3 : Dj f (un (un G g1) g2) := by
      have h1 := Dj.un3' hdj hd1
      rw [un_assoc] at hd2
      exact Dj.un3' h1 hd2
    refine H.ret1 rfl rfl (fun _ h => h) ⟨un (un G g1) g2, wb, kb, ap, ac, l, rfl, hd3, e3, rfl, ?_⟩
    have hle1 : Le (un f G) (un (un (un f G) g1) g2) := (Le.un _ g1).trans (Le.un _ g2)
    exact ⟨(KAt.of hg1 hd1).mono (Le.un _ g2), (slc_listAt MV.len hg2).mono (Le.right hd2), fun y hy => (hg y hy).mono hle1, hm⟩
end
end Go.Proofs.YtoigpgdmignaoaaGreatDoor

/- Layer 12: LoreForks. Condition: the table of the standard stands in the fragment. -/
namespace Go.Proofs.YtoigpgdmignaoaaGreatDoor
open Go
theorem ListAt.all {α : Type} {f : Frag} {p : Option Addr} {sz : Nat} {vals : α → List Value} {l : List α} (hv : ∀ x, (vals x).length = sz) (h1 : 0 < sz) (h : ListAt f p sz vals l) (h0 : 0 < l.length) :
    ∃ b off, p = some ⟨b, off, none⟩ ∧ ∀ (g : Frag) A i x, Le f g → l[i]? = some x → Rd g A b (off + i * sz) (vals x) := by
  obtain ⟨x0, hx0⟩ : ∃ x0, l[0]? = some x0 := ⟨_, List.getElem?_eq_getElem h0⟩
  obtain ⟨b, off, cs, T, fr, rfl, hfb, _⟩ := h 0 x0 hx0
  refine ⟨b, off, rfl, fun g A i x hle hx => ?_⟩
  obtain ⟨b', off', cs', T', fr', e, hfb', hcs'⟩ := h i x hx
  cases e
  exact Rd.imm (hle _ _ hfb') hcs'
theorem fewz_odd {n8 : UInt8} {n : Nat} (h : n = 3 + 2 * (n8.toNat % 5)) : fewZ (n : Int) := by
  refine ⟨by omega, by omega, ?_⟩
  exact tmod_nat (a := n) (b := 2) (r := 1) (by omega)
theorem few12_all {l : List A12} (h : few12 l = true) : l.length ≤ 100 ∧ ∀ x ∈ l, x.q.length ≤ 20 := by
  unfold few12 at h
  simp only [Bool.and_eq_true, decide_eq_true_eq, List.all_eq_true] at h
  exact h
section
variable (f : Frag) (F : List HP)
end
end Go.Proofs.YtoigpgdmignaoaaGreatDoor

/- Layer 13: WaitAll. Condition: the table of the standard stands in the fragment. -/
namespace Go.Proofs.YtoigpgdmignaoaaGreatDoor
open Go
theorem lore_upW {f g : Frag} (h : Le f g) {lb n : Nat} {l : List MV} {A : List HP} : ∀ x, stars (loreH f lb n l :: A) x → stars (loreH g lb n l :: A) x :=
  fun _ ⟨h1, h2, hd, he, ha, hr⟩ => ⟨h1, h2, hd, he, loreH_mono h _ ha, hr⟩
structure AS where
  i : Nat
  e : Frag
  L : List MV
  ws : List MV
  u : Nat → Int
structure AΦ (n : Nat) (all : List Msg) (f1 : Frag) (s : AS) : Prop where
  le : Le f1 s.e
  st : strm (s.L.map MV.m) = uptoS all s.u
  len : (s.L.length : Int) = sumTo s.u 11
  w : WtI n all s.u (s.ws.map MV.m)
theorem AΦ.small {n : Nat} (hn : n ≤ 11) {all : List Msg} {f1 : Frag} {s : AS} (hW : WOK n all) (h : AΦ n all f1 s) : s.L.length ≤ all.length := by
  have := (sum_all hn hW h.w.knw).1
  have := h.len
  omega
theorem AΦ.take {n : Nat} (hn : n ≤ 11) {all : List Msg} {f1 : Frag} {s : AS} (hW : WOK n all) (h : AΦ n all f1 s) {y : MV} {ws' : List MV} (hx : NextR (chk n (strm (s.L.map MV.m))) (s.ws.map MV.m) (some y.m) (ws'.map MV.m)) {e' : Frag} (he : Le s.e e') (q : Option Addr) (c : Nat) :
    chk n (strm (s.L.map MV.m)) y.m = 0 ∧ AΦ n all f1 ⟨s.i, e', s.L ++ [⟨y.m, q, c⟩], ws', nextU s.u y.m⟩ := by
  rw [h.st] at hx ⊢
  obtain ⟨hr, _, ha, hw⟩ := h.w.next hW hx
  refine ⟨hr.2, h.le.trans he, ?_, ?_, hw⟩
  · show strm ((s.L ++ [(⟨y.m, q, c⟩ : MV)]).map MV.m) = _
    rw [List.map_append]
    show strm (s.L.map MV.m ++ [y.m]) = _
    rw [strm_snoc, h.st]
    exact ha
  · show (((s.L ++ [(⟨y.m, q, c⟩ : MV)]).length : Nat) : Int) = _
    rw [List.length_append, sum_next (org_lt hn hW hr.1), ← h.len]
    show ((s.L.length + 1 : Nat) : Int) = _
    omega
section
variable (f : Frag) (F : List HP)
end
end Go.Proofs.YtoigpgdmignaoaaGreatDoor

/- Layer 13, plain: what does not hang on one that is kept back is taken, whatever else waits. No program in sight; no conditions. -/
namespace Go.Proofs.YtoigpgdmignaoaaGreatDoor
open Go
def Tr (all : List Msg) : Prop := ∀ pre m post, all = pre ++ m :: post → ∀ x ∈ pre, x.number ≤ m.deps (orgI x) → ∀ i, i < 11 → x.deps i ≤ m.deps i
theorem Tr.snoc {all : List Msg} {m : Msg} (h : Tr all) (hm : ∀ x ∈ all, x.number ≤ m.deps (orgI x) → ∀ i, i < 11 → x.deps i ≤ m.deps i) : Tr (all ++ [m]) := fun pre y post e => by
  rcases List.eq_nil_or_concat post with h1 | ⟨q, z, h1⟩
  · subst h1
    obtain ⟨e1, e2⟩ := List.append_inj' e rfl
    cases e2
    rw [← e1]
    exact hm
  · subst h1
    have e' : all ++ [m] = (pre ++ y :: q) ++ [z] := by rw [e]; simp
    obtain ⟨e1, _⟩ := List.append_inj' e' rfl
    exact h pre y q e1
theorem W12.act_tr {n : Nat} (h1 : 1 ≤ n) {W : W12} (hi : WInv n W) (h : Tr W.all) (x : A12) : Tr (W.act n x).all := by
  have ho : x.who.toNat % n < n := Nat.mod_lt _ h1
  unfold W12.act
  split
  · exact h
  · split
    · show Tr (W.all ++ [_])
      refine h.snoc fun y hy hn i hi2 => ?_
      obtain ⟨_, _, e3, _⟩ := (W.next n (x.who.toNat % n) x).signed_parts
      rw [e3] at hn ⊢
      exact (hi.knw _ ho).closed y hy hn i hi2
    · exact h
theorem worldOf_tr {n : Nat} (h1 : 1 ≤ n) (h11 : n ≤ 11) (l : List A12) : ∀ k, Tr (worldOf n (l.take k)).all
  | 0 => fun pre m post e => by
    have : ([] : List Msg) = pre ++ m :: post := e
    simp at this
  | k + 1 => by
    cases h : l[k]? with
    | none =>
      have e : l.take (k + 1) = l.take k := by rw [List.take_add_one, h]; simp
      rw [e]; exact worldOf_tr h1 h11 l k
    | some x =>
      rw [take_snoc h, worldOf_snoc]
      exact W12.act_tr h1 (worldOf_inv h1 h11 l k) (worldOf_tr h1 h11 l k) x
def Free (bad : Nat) (m : Msg) : Prop := orgI m ≠ bad ∧ m.deps bad ≤ 0
instance (bad : Nat) (m : Msg) : Decidable (Free bad m) := by unfold Free; infer_instance
def AllF (all : List Msg) (bad : Nat) (u : Nat → Int) : Prop := ∀ x ∈ all, Free bad x → x.number ≤ u (orgI x)
theorem strm_last {n : Nat} {pre : List Msg} (hW : WOK n pre) {i d : Nat} (h0 : 0 < d) (hd : d ≤ cnt pre i) : ∃ y ∈ pre, orgI y = i ∧ y.number = (d : Nat) := by
  obtain ⟨y, hy⟩ : ∃ y, (strm pre i)[d - 1]? = some y := ⟨_, List.getElem?_eq_getElem (by unfold cnt at hd; omega)⟩
  have h1 := strm_numA hW hy
  obtain ⟨h2, h3⟩ := strm_org hy
  exact ⟨y, h2, h3, by omega⟩
theorem free_ready {n bad : Nat} (hb : bad < 11) {all : List Msg} {u : Nat → Int} (hW : WOK n all) (hT : Tr all) (hu : Knw all u) (h : ¬ AllF all bad u) : ∃ m, Free bad m ∧ Rdy n all u m := by
  cases hf : all.filter fun x => decide (Free bad x ∧ ¬ x.number ≤ u (orgI x)) with
  | nil =>
    refine absurd (fun x hx hfx => ?_) h
    rw [List.filter_eq_nil_iff] at hf
    have := hf x hx
    rw [decide_eq_true_eq] at this
    by_cases hn : x.number ≤ u (orgI x)
    · exact hn
    · exact absurd ⟨hfx, hn⟩ this
  | cons m rest =>
    obtain ⟨pre, post, rfl, hp, hm, _⟩ := filter_cons_split hf
    rw [decide_eq_true_eq] at hm
    obtain ⟨hfm, hmn⟩ := hm
    have hok := hW.at
    have hpre := hW.pre
    have hkn : ∀ x ∈ pre, Free bad x → x.number ≤ u (orgI x) := fun x hx hfx => by
      have := hp x hx
      rw [decide_eq_false_iff_not] at this
      by_cases hn : x.number ≤ u (orgI x)
      · exact hn
      · exact absurd ⟨hfx, hn⟩ this
    have hge : ((cnt pre (orgI m) : Nat) : Int) ≤ u (orgI m) := by
      by_cases h0 : cnt pre (orgI m) = 0
      · have := (hu.le (orgI m)).1
        omega
      · obtain ⟨y, hy, hyo, hyn⟩ := strm_last hpre (by omega) (Nat.le_refl (cnt pre (orgI m)))
        have h1 := hok.mono y hy hyo bad hb
        have h2 := hkn y hy ⟨by rw [hyo]; exact hfm.1, Int.le_trans h1 hfm.2⟩
        rw [hyo] at h2
        omega
    have hnum := hok.num
    refine ⟨m, hfm, by simp, wchk0 hW hu (by simp) (by omega) fun i hi => ?_⟩
    have hdi := hok.dep i hi
    by_cases h0 : m.deps i ≤ 0
    · have := (hu.le i).1
      omega
    · obtain ⟨d, hd⟩ : ∃ d : Nat, m.deps i = (d : Nat) := ⟨(m.deps i).toNat, by omega⟩
      obtain ⟨y, hy, hyo, hyn⟩ := strm_last hpre (i := i) (d := d) (by omega) (by omega)
      have h1 := hT pre m post rfl y hy (by rw [hyo, hyn, hd]; exact Int.le_refl _) bad hb
      have hib : i ≠ bad := fun e => by
        have := hfm.2
        rw [← e] at this
        exact h0 this
      have h2 := hkn y hy ⟨by rw [hyo]; exact hib, Int.le_trans h1 hfm.2⟩
      rw [hyo, hyn] at h2
      omega
def FPh (n : Nat) (all : List Msg) (bad r i : Nat) (u : Nat → Int) : Prop :=
  AllF all bad u ∨ ((r : Int) ≤ sumTo u 11 ∧ ((r : Int) + 1 ≤ sumTo u 11 ∨ ∃ (t : Nat) (m : Msg), i ≤ t ∧ all[t]? = some m ∧ Free bad m ∧ Rdy n all u m))
theorem FPh.start {n bad r : Nat} (hb : bad < 11) {all : List Msg} {u : Nat → Int} (hW : WOK n all) (hT : Tr all) (hu : Knw all u) (hr : (r : Int) ≤ sumTo u 11) : FPh n all bad r 0 u := by
  by_cases h : AllF all bad u
  · exact .inl h
  · obtain ⟨m, hf, hm⟩ := free_ready hb hW hT hu h
    obtain ⟨t, ht⟩ := List.getElem?_of_mem hm.1
    exact .inr ⟨hr, .inr ⟨t, m, Nat.zero_le _, ht, hf, hm⟩⟩
theorem FPh.round {n bad r i : Nat} (hb : bad < 11) {all : List Msg} {u : Nat → Int} (hW : WOK n all) (hT : Tr all) (hu : Knw all u) (hi : all.length ≤ i) (h : FPh n all bad r i u) : FPh n all bad (r + 1) 0 u := by
  rcases h with h | ⟨h1, h2 | ⟨t, m, t1, t2, _⟩⟩
  · exact .inl h
  · exact FPh.start hb hW hT hu (by omega)
  · have := (List.getElem?_eq_some_iff.1 t2).1
    omega
theorem FPh.skip {n bad r i : Nat} {all : List Msg} {u : Nat → Int} {m : Msg} (hm : all[i]? = some m) (hf : ¬ Free bad m) (h : FPh n all bad r i u) : FPh n all bad r (i + 1) u := by
  rcases h with h | ⟨h1, h2 | ⟨t, x, t1, t2, hx, hr⟩⟩
  · exact .inl h
  · exact .inr ⟨h1, .inl h2⟩
  · refine .inr ⟨h1, .inr ⟨t, x, ?_, t2, hx, hr⟩⟩
    by_cases e : t = i
    · subst e
      rw [hm] at t2
      cases t2
      exact absurd hx hf
    · omega
theorem FPh.step {n bad r i : Nat} (hn : n ≤ 11) {all : List Msg} {u u' : Nat → Int} {m : Msg} (hW : WOK n all) (hu : Knw all u) (hu' : Knw all u') (hle : ∀ i, u i ≤ u' i) (hm : all[i]? = some m) (ha : Rdy n all u m → m.number ≤ u' (orgI m)) (h : FPh n all bad r i u) : FPh n all bad r (i + 1) u' := by
  have hs := sumTo_le hle 11
  have grow : ∀ x, Rdy n all u x → x.number ≤ u' (orgI x) → sumTo u 11 + 1 ≤ sumTo u' 11 := fun x hx hk => by
    refine sumTo_lt hle (o := orgI x) ?_ 11 (org_lt hn hW hx.1)
    rcases wchk hW hu hx.1 with ⟨_, h'⟩ | ⟨_, h'⟩ | ⟨a, b, _⟩
    · have := hx.2; rw [h'] at this; cases this
    · have := hx.2; rw [h'] at this; cases this
    · omega
  rcases h with h | ⟨h1, h2⟩
  · exact .inl fun x hx hf => Int.le_trans (h x hx hf) (hle _)
  · refine .inr ⟨by omega, ?_⟩
    rcases h2 with h2 | ⟨t, x, t1, t3, hf, hx⟩
    · left; omega
    · by_cases e : t = i
      · subst e
        rw [hm] at t3
        cases t3
        have := grow m hx (ha hx)
        left; omega
      · rcases hx.mono hW hu hu' hle with h3 | h3
        · have := grow x hx h3
          left; omega
        · exact .inr ⟨t, x, by omega, t3, hf, h3⟩
theorem FPh.all {n bad r i : Nat} (hn : n ≤ 11) {all : List Msg} {u : Nat → Int} (hW : WOK n all) (hu : Knw all u) (hr : all.length < r) (h : FPh n all bad r i u) : AllF all bad u := by
  rcases h with h | ⟨h1, _⟩
  · exact h
  · have := (sum_all hn hW hu).1
    omega
theorem known_free {n bad : Nat} (hb : bad < 11) {all : List Msg} {u : Nat → Int} (hW : WOK n all) (hu : Knw all u) (h0 : u bad = 0) (h : AllF all bad u) {m : Msg} (hm : m ∈ all) : m.number ≤ u (orgI m) ↔ Free bad m := by
  refine ⟨fun hk => ⟨fun e => ?_, ?_⟩, fun hf => h m hm hf⟩
  · rw [e, h0] at hk
    obtain ⟨p, hp⟩ := strm_mem hm
    have := strm_numA hW hp
    omega
  · have := hu.closed m hm hk bad hb
    omega
theorem Rdy.num {n : Nat} {all : List Msg} {u : Nat → Int} {m : Msg} (hW : WOK n all) (hu : Knw all u) (h : Rdy n all u m) : m.number = u (orgI m) + 1 := by
  rcases wchk hW hu h.1 with ⟨_, h'⟩ | ⟨_, h'⟩ | ⟨a, _, _⟩
  · have := h.2; rw [h'] at this; cases this
  · have := h.2; rw [h'] at this; cases this
  · exact a
end Go.Proofs.YtoigpgdmignaoaaGreatDoor

/- Layer 13: WaitFlood. Condition: the table of the standard stands in the fragment. -/
namespace Go.Proofs.YtoigpgdmignaoaaGreatDoor
open Go
def NoB (k : Nat) (ws : List Msg) : Prop := ∀ x ∈ ws, ¬ (orgI x = k ∧ x.number = 1)
theorem get_known {n : Nat} {all L : List Msg} {u : Nat → Int} (hW : WOK n all) (hu : Knw all u) (hst : strm L = uptoS all u) {m : Msg} (hm : m ∈ all) : (getM L m.origin m.number).2 = decide (m.number ≤ u (orgI m)) := by
  have hin : ∀ x ∈ L, x.number ≤ u (orgI x) := fun x hx => by
    obtain ⟨p, hp⟩ := strm_mem hx
    rw [hst] at hp
    unfold uptoS at hp
    have h1 := (List.getElem?_eq_some_iff.1 hp).1
    rw [List.length_take] at h1
    rw [List.getElem?_take_of_lt (by omega)] at hp
    have := strm_numA hW hp
    have := (hu.le (orgI x)).1
    omega
  unfold getM
  cases h : findM L m.origin m.number with
  | none =>
    show false = _
    symm
    rw [decide_eq_false_iff_not]
    intro hk
    obtain ⟨p, hp⟩ := strm_mem hm
    have h1 := strm_numA hW hp
    have h2 : m ∈ strm L (orgI m) := by
      rw [hst]
      unfold uptoS
      refine List.mem_of_getElem? (i := p) ?_
      rw [List.getElem?_take_of_lt (by omega)]
      exact hp
    have h3 : m ∈ L := by unfold strm at h2; exact (List.mem_filter.1 h2).1
    unfold findM at h
    rw [List.find?_eq_none] at h
    exact h m h3 (by simp)
  | some x =>
    show true = _
    symm
    rw [decide_eq_true_eq]
    unfold findM at h
    have h1 := List.mem_of_find?_eq_some h
    have h2 := List.find?_some h
    rw [Bool.and_eq_true, decide_eq_true_eq, decide_eq_true_eq] at h2
    have := hin x h1
    rw [orgI_of h2.1, h2.2] at this
    exact this
section
variable (f : Frag) (F : List HP)
set_option maxRecDepth 20000 in
set_option maxHeartbeats 6400000 in
theorem waitFlood_fn (htab : TabAt f) {n8 : UInt8} {p : Option Addr} {c : Nat} {xs : List A12} (hat : ListAt f p 8 A12.vals xs) (hh : ∀ x ∈ xs, x.Has f) (hxl : xs.length ≤ 9223372036854775807) (who : UInt8) :
    Fn Tryz.prog 11 [.int .u8 (n8.toNat : Nat), .slice p xs.length c, .int .u8 (who.toNat : Nat)] f F (Ret (.bool true) f F) := by
  have hfew := few12_fn f F (c := c) hat hxl
  cases hf : few12 xs with
  | false =>
    rw [hf] at hfew
    refine Fn.enter Tryz.func11 rfl Tryz.ntmps11 rfl (L := [(0, _), (1, _), (2, _)]) ⟨rfl, rfl, rfl, trivial⟩ fun base => ?_
    repeat (first | ((first | apply H.move | apply H.assign); (iterate 3 exact rfl)) | (first | apply H.seq | apply H.region | apply H.nil | apply H.then_normal))
    refine H.callR rfl rfl rfl hfew ?_
    refine H.not (b := _) (c := _) rfl rfl rfl rfl ?_
    repeat (first | ((first | apply H.move | apply H.len_slice); (iterate 3 exact rfl)) | (first | apply H.seq | apply H.region | apply H.nil | apply H.then_normal) | (apply H.pass; (iterate 2 exact rfl)) | (apply H.pickT; (iterate 4 exact rfl)) | (apply H.cond_true; exact rfl))
    refine H.callR rfl rfl rfl (works13_fn f _ htab) ?_
    repeat (first | ((apply H.assign); (iterate 3 exact rfl)) | (first | apply H.nil | apply H.then_normal) | (first | apply H.ret | apply H.then_ret))
    exact H.ret1 rfl rfl (fun _ h => h) ⟨rfl, rfl, rfl⟩
  | true =>
    rw [hf] at hfew
    obtain ⟨hl100, hq20⟩ := few12_all hf
    by_cases h80 : xs.length ≤ 80
    · obtain ⟨n, hn8⟩ : ∃ n, n = 3 + 2 * (n8.toNat % 5) := ⟨_, rfl⟩
      have hn3 : 3 ≤ n ∧ n ≤ 11 := by omega
      have hacts := fun G => acts_fn f G hn8 (c := c) hat (fun x hx => ⟨hh x hx, hq20 x hx⟩) hl100
      have hinv : WInv n (worldOf n xs) := by have := worldOf_inv (n := n) (by omega) hn3.2 xs xs.length; rwa [List.take_length] at this
      have hTr : Tr (worldOf n xs).all := by have := worldOf_tr (n := n) (by omega) hn3.2 xs xs.length; rwa [List.take_length] at this
      have hwl : (worldOf n xs).all.length ≤ 80 := by have := worldOf_len n xs xs.length; rw [List.take_length] at this; omega
      generalize worldOf n xs = W at *
      obtain ⟨k, hke⟩ : ∃ k, k = who.toNat % n := ⟨_, rfl⟩
      have hkn : k < n := by rw [hke]; exact Nat.mod_lt _ (by omega)
      have hk11 : k < 11 := by omega
      have hwho := who.toNat_lt
      have hn0 : ((n : Nat) : Int) ≠ 0 := by omega
      refine Fn.enter Tryz.func11 rfl Tryz.ntmps11 rfl (L := [(0, _), (1, _), (2, _)]) ⟨rfl, rfl, rfl, trivial⟩ fun base => ?_
      repeat (first | ((first | apply H.move | apply H.assign); (iterate 3 exact rfl)) | (first | apply H.seq | apply H.region | apply H.nil | apply H.then_normal))
      refine H.callR rfl rfl rfl hfew ?_
      refine H.not (b := _) (c := _) rfl rfl rfl rfl ?_
      repeat (first | ((first | apply H.move | apply H.len_slice); (iterate 3 exact rfl)) | (first | apply H.seq | apply H.region | apply H.nil | apply H.then_normal) | ((apply H.cmp); (iterate 5 exact rfl)) | ((apply H.pickF); (iterate 4 exact rfl)) | (apply H.skip) | (apply H.cond_no; exact rfl; (omega)))
      refine H.call rfl rfl rfl (hacts _) fun v f' A' hr => ?_
      obtain ⟨g, wb, kb, ap, ac, l, rfl, hd, rfl, rfl, hwat⟩ := hr
      have le1 := Le.un f g
      generalize un f g = f1 at *
      have hlm := hwat.m
      have hll : l.length = W.all.length := by rw [← hlm, List.length_map]
      have hW := hinv.ok
      clear hacts hfew hinv
      repeat (first | ((first | apply H.move | apply H.assign | apply H.nilCheck | apply H.len_slice); (iterate 3 exact rfl)) | (apply H.fieldAddr; (iterate 3 exact rfl); exact inferInstance; exact rfl) | (apply H.load1; (iterate 3 exact rfl); apply Rd1.ofRow; (repeat (exact .here _ _ _)); (iterate 2 exact rfl)) | (first | apply H.seq | apply H.region | apply H.nil | apply H.then_normal) | ((apply H.conv_int; (iterate 2 exact rfl)); (with_reducible apply wr_i64; omega); exact rfl))
      refine H.rem (z := ((k : Nat) : Int)) rfl rfl rfl hn0 (tmod_nat (a := who.toNat) (b := n) hke.symm) rfl ?_
      repeat (first | ((first | apply H.move | apply H.assign | apply H.nilCheck | apply H.len_slice); (iterate 3 exact rfl)) | (apply H.fieldAddr; (iterate 3 exact rfl); exact inferInstance; exact rfl) | (apply H.load1; (iterate 3 exact rfl); apply Rd1.ofRow; (repeat (exact .here _ _ _)); (iterate 2 exact rfl)) | (first | apply H.seq | apply H.region | apply H.nil | apply H.then_normal) | ((apply H.ar; (iterate 4 exact rfl)); (with_reducible apply wr_i64; omega); exact rfl))
      refine H.callE rfl rfl rfl (lnew_fn f1 _ (fewz_odd hn8)) fun lb => ?_
      repeat (first | ((first | apply H.move | apply H.assign); (iterate 3 exact rfl)) | (first | apply H.seq | apply H.region | apply H.nil | apply H.then_normal) | ((apply H.cmp); (iterate 5 exact rfl)) | ((first | apply H.pickF | apply H.extract); (iterate 4 exact rfl)) | ((apply H.ptrNil); (iterate 5 exact rfl)) | (apply H.cond_false; exact rfl) | (apply H.skip))
      refine H.callE rfl rfl rfl (wnew_fn f1 _) fun xb => ?_
      repeat (first | ((apply H.assign); (iterate 3 exact rfl)) | (first | apply H.seq | apply H.region | apply H.nil | apply H.then_normal) | (apply H.block))
      have hs0 : AΦ n W.all f1 ⟨0, f1, [], [], fun _ => 0⟩ := ⟨Le.refl f1, (upto0 W.all).symm, by rfl, WtI.nil hW⟩
      refine H.loop (ι := AS) (fun s => [(12, .int .i64 (s.i : Int)), (7, .pointer (some ⟨wb, 0, none⟩)), (8, .int .i64 (1 + (k : Int))), (9, .pointer (some ⟨lb, 0, none⟩)), (11, .pointer (some ⟨xb, 0, none⟩))]) (fun s => s.e)
        (fun s => waitH s.e xb s.ws :: loreH s.e lb n s.L :: row wb 34 (worldC kb n ap l.length ac) :: F)
        (fun s => AΦ n W.all f1 s ∧ Idle n W.all s.u (s.ws.map MV.m) ∧ s.u k = 0 ∧ NoB k (s.ws.map MV.m) ∧ s.i ≤ l.length + 1 ∧ FPh n W.all k s.i 0 s.u) (fun s => l.length + 1 - s.i) ⟨0, f1, [], [], fun _ => 0⟩ ⟨hs0, fun x hx => (by cases hx), rfl, fun x hx => (by cases hx), Nat.zero_le _, FPh.start hk11 hW hTr (knw0 hW) (sumTo_nonneg (fun _ => Int.le_refl 0) 11)⟩ ⟨rfl, rfl, rfl, rfl, rfl, trivial⟩ rfl rfl fun s hs => ?_
      obtain ⟨r, e0, L0, ws0, u0⟩ := s
      obtain ⟨hA0, hid0, hz0, hnb0, hr0, hph0⟩ : AΦ n W.all f1 ⟨r, e0, L0, ws0, u0⟩ ∧ Idle n W.all u0 (ws0.map MV.m) ∧ u0 k = 0 ∧ NoB k (ws0.map MV.m) ∧ r ≤ l.length + 1 ∧ FPh n W.all k r 0 u0 := hs
      show H _ _ _ [(12, .int .i64 (r : Int)), _, _, _, _] e0 (waitH e0 xb ws0 :: loreH e0 lb n L0 :: _ :: F) _
      by_cases hrl : r ≤ l.length
      · skip
        repeat (first | ((first | apply H.move | apply H.assign | apply H.nilCheck | apply H.len_slice); (iterate 3 exact rfl)) | (apply H.fieldAddr; (iterate 3 exact rfl); exact inferInstance; exact rfl) | (apply H.load1; (iterate 3 exact rfl); apply Rd1.ofRow; (repeat (first | exact .here _ _ _ | apply At.there)); (iterate 2 exact rfl)) | (first | apply H.seq | apply H.region | apply H.nil | apply H.then_normal) | ((apply H.cmp); (iterate 5 exact rfl)) | (first | apply H.skip | apply H.block) | (apply H.cond_yes; exact rfl; (omega)))
        refine H.front (x := loreH _ _ _ _) (by repeat (first | exact .here _ _ | apply Pull.there)) ?_
        refine H.front (x := waitH _ _ _) (by repeat (first | exact .here _ _ | apply Pull.there)) ?_
        refine H.loop (ι := AS) (fun s => [(12, .int .i64 (r : Int)), (13, .int .i64 (s.i : Int)), (7, .pointer (some ⟨wb, 0, none⟩)), (8, .int .i64 (1 + (k : Int))), (9, .pointer (some ⟨lb, 0, none⟩)), (11, .pointer (some ⟨xb, 0, none⟩))]) (fun s => s.e)
          (fun s => waitH s.e xb s.ws :: loreH s.e lb n s.L :: row wb 34 (worldC kb n ap l.length ac) :: F)
          (fun s => AΦ n W.all f1 s ∧ Idle n W.all s.u (s.ws.map MV.m) ∧ s.u k = 0 ∧ NoB k (s.ws.map MV.m) ∧ s.i ≤ l.length ∧ FPh n W.all k r s.i s.u) (fun s => l.length - s.i) ⟨0, e0, L0, ws0, u0⟩ ⟨⟨hA0.le, hA0.st, hA0.len, hA0.w⟩, hid0, hz0, hnb0, Nat.zero_le _, hph0⟩ ⟨rfl, rfl, rfl, rfl, rfl, rfl, trivial⟩ rfl rfl fun s hs => ?_
        obtain ⟨i, e, L, ws, u⟩ := s
        obtain ⟨hA, hid, hu0, hnb, hil, hph⟩ : AΦ n W.all f1 ⟨i, e, L, ws, u⟩ ∧ Idle n W.all u (ws.map MV.m) ∧ u k = 0 ∧ NoB k (ws.map MV.m) ∧ i ≤ l.length ∧ FPh n W.all k r i u := hs
        have hle : Le f1 e := hA.le
        have hst : strm (L.map MV.m) = uptoS W.all u := hA.st
        have hI : WtI n W.all u (ws.map MV.m) := hA.w
        have hfe : Le f e := le1.trans hle
        show H _ _ _ [_, (13, .int .i64 (i : Int)), _, _, _, _] e (waitH e xb ws :: loreH e lb n L :: _ :: F) _
        by_cases hlt : i < l.length
        · obtain ⟨b, off, rfl, rdA⟩ := hwat.a.all MV.len (by decide) (by omega)
          obtain ⟨y, hy⟩ : ∃ y, l[i]? = some y := ⟨_, List.getElem?_eq_getElem hlt⟩
          have hyi : W.all[i]? = some y.m := by rw [← hlm, List.getElem?_map, hy]; rfl
          have hyl := List.mem_of_getElem? hy
          have hyg : y.Good e := (hwat.g y hyl).mono hle
          have hym : y.m ∈ W.all := List.mem_of_getElem? hyi
          have hyorg : 1 ≤ y.m.origin := by
            obtain ⟨pre, post, e9⟩ := List.append_of_mem hym
            rw [e9] at hW
            exact hW.at.org.1
          repeat (first | ((first | apply H.move | apply H.nilCheck | apply H.len_slice); (iterate 3 exact rfl)) | (apply H.fieldAddr; (iterate 3 exact rfl); exact inferInstance; exact rfl) | (apply H.load1; (iterate 3 exact rfl); apply Rd1.ofRow; (repeat (first | exact .here _ _ _ | apply At.there)); (iterate 2 exact rfl)) | (first | apply H.seq | apply H.region | apply H.nil | apply H.then_normal) | ((apply H.cmp); (iterate 5 exact rfl)) | (first | apply H.skip | apply H.block) | (apply H.cond_yes; exact rfl; (omega)))
          refine H.index_slice (i := i) rfl rfl rfl rfl hlt rfl ?_
          refine H.loadN (ls := y.vals) rfl rfl rfl (rdA _ _ _ _ hle hy) rfl rfl ?_
          refine H.alloc (ls := msgZ.vals none 0) rfl rfl rfl fun tb => ?_
          refine H.storeN (ls := msgZ.vals none 0) (vs := y.vals) (ls' := y.vals) rfl rfl rfl (allOne_mem rfl) rfl rfl (Nat.le_refl 121) (.here _ _ _) ?_
          by_cases hsk : y.m.origin = 1 + (k : Int) ∧ y.m.number = 1
          · obtain ⟨hs1, hs2⟩ := hsk
            repeat (first | ((first | apply H.move | apply H.assign); (iterate 3 exact rfl)) | (apply H.fieldAddr; (iterate 3 exact rfl); exact inferInstance; exact rfl) | (apply H.load1; (iterate 3 exact rfl); apply Rd1.ofRow; (repeat (exact .here _ _ _)); (iterate 2 exact rfl)) | (first | apply H.seq | apply H.region | apply H.nil | apply H.then_normal) | ((apply H.cmp); (iterate 5 exact rfl)) | ((apply H.ar; (iterate 4 exact rfl)); (with_reducible apply wr_i64_n1; omega); exact rfl) | (apply H.pickT; (iterate 4 exact rfl)) | (first | apply H.then_exit | apply H.exit | apply H.in_hit) | (apply H.gyes; (iterate 3 exact rfl); (assumption)) | (apply H.cond_yes; exact rfl; (assumption)))
            refine H.drop (x := row tb _ _) (by repeat (first | exact .here _ _ | apply Pull.there)) ?_
            refine H.front (x := loreH _ _ _ _) (by repeat (first | exact .here _ _ | apply Pull.there)) ?_
            refine H.front (x := waitH _ _ _) (by repeat (first | exact .here _ _ | apply Pull.there)) ?_
            exact H.again ⟨i + 1, e, L, ws, u⟩ ⟨⟨hA.le, hA.st, hA.len, hA.w⟩, hid, hu0, hnb, by show i + 1 ≤ l.length; omega, hph.skip hyi (fun hf => hf.1 (by unfold orgI; rw [hs1]; omega))⟩ (by show l.length - (i + 1) < l.length - i; omega) ⟨rfl, rfl, rfl, rfl, rfl, rfl, trivial⟩ rfl rfl
          · refine H.nil ?_
            refine H.then_normal ?_
            refine H.seq ?_
            refine H.cut (ι := Unit) (fun _ => [(12, .int .i64 (r : Int)), (13, .int .i64 (i : Int)), (7, .pointer (some ⟨wb, 0, none⟩)), (8, .int .i64 (1 + (k : Int))), (9, .pointer (some ⟨lb, 0, none⟩)), (11, .pointer (some ⟨xb, 0, none⟩)), (14, .pointer (some ⟨tb, 0, none⟩)), (91, .bool false)]) (fun _ => e) (fun _ => row tb 47 y.vals :: waitH e xb ws :: loreH e lb n L :: row wb 34 (worldC kb n (some ⟨b, off, none⟩) l.length ac) :: F) (fun _ => True) _ (fun _ _ => ?_) ?_
            · have hwl2 : ws.length ≤ 121 := by have := hI.few hn3.2 hW; rwa [List.length_map] at this
              repeat (first | ((apply H.move); (iterate 3 exact rfl)) | (first | apply H.seq | apply H.region))
              refine H.loadN (ls := y.vals) rfl rfl rfl (Rd.ofRow (.here _ _ _)) rfl rfl ?_
              refine H.front (x := loreH _ _ _ _) (by repeat (first | exact .here _ _ | apply Pull.there)) ?_
              refine H.front (x := waitH _ _ _) (by repeat (first | exact .here _ _ | apply Pull.there)) ?_
              refine H.call rfl rfl rfl (wput_fn e _ (tab_mono htab hfe) (Le.refl e) hyg (by omega)) fun v f' A' hr => ?_
              obtain ⟨g1, z, ws1, hp, hl1, hd1, rfl, rfl, rfl⟩ := hr
              rw [hst] at hp
              have hI1 := hI.put hym hp
              have haim : Rdy n W.all u y.m → Aim n W.all u (ws1.map MV.m) y.m := fun hr => .inr ⟨hr, put_ready hW hI hid hr hp⟩
              have hnb1 : NoB k (ws1.map MV.m) := fun x hx hxx => by
                rcases hp.mem hx with h1 | ⟨h1, _⟩
                · exact hnb x h1 hxx
                · rw [h1] at hxx
                  refine hsk ⟨?_, hxx.2⟩
                  have h2 := hxx.1
                  unfold orgI at h2
                  omega
              have hup := Le.un e g1
              have hle1 := hle.trans hup
              generalize un e g1 = e1 at hup hle1 ⊢
              clear hp
              refine H.front (x := loreH _ _ _ _) (by repeat (first | exact .here _ _ | apply Pull.there)) ?_
              refine H.imp (lore_upW hup) ?_
              refine H.front (x := waitH _ _ _) (by repeat (first | exact .here _ _ | apply Pull.there)) ?_
              refine H.drop (x := row tb _ _) (by repeat (first | exact .here _ _ | apply Pull.there)) ?_
              have hs1 : AΦ n W.all f1 ⟨i, e1, L, ws1, u⟩ := ⟨hle1, hst, hA.len, hI1⟩
              repeat (first | (first | apply H.nil | apply H.then_normal) | (apply H.block))
              refine H.loop (ι := AS) (fun _ => [(12, .int .i64 (r : Int)), (13, .int .i64 (i : Int)), (7, .pointer (some ⟨wb, 0, none⟩)), (8, .int .i64 (1 + (k : Int))), (9, .pointer (some ⟨lb, 0, none⟩)), (11, .pointer (some ⟨xb, 0, none⟩))]) (fun s => s.e)
                (fun s => waitH s.e xb s.ws :: loreH s.e lb n s.L :: row wb 34 (worldC kb n (some ⟨b, off, none⟩) l.length ac) :: F)
                (fun s => AΦ n W.all f1 s ∧ (∀ j, u j ≤ s.u j) ∧ (Rdy n W.all u y.m → Aim n W.all s.u (s.ws.map MV.m) y.m) ∧ s.u k = 0 ∧ NoB k (s.ws.map MV.m)) (fun s => s.ws.length) ⟨i, e1, L, ws1, u⟩ ⟨hs1, fun _ => Int.le_refl _, haim, hu0, hnb1⟩ ⟨rfl, rfl, rfl, rfl, rfl, rfl, trivial⟩ rfl rfl fun s hs => ?_
              obtain ⟨j, e2, L2, ws2, u2⟩ := s
              obtain ⟨hA2, hge, haim2, hu02, hnb2⟩ : AΦ n W.all f1 ⟨j, e2, L2, ws2, u2⟩ ∧ (∀ j, u j ≤ u2 j) ∧ (Rdy n W.all u y.m → Aim n W.all u2 (ws2.map MV.m) y.m) ∧ u2 k = 0 ∧ NoB k (ws2.map MV.m) := hs
              have hle2 : Le f1 e2 := hA2.le
              have hfe2 := le1.trans hle2
              have hst2 : strm (L2.map MV.m) = uptoS W.all u2 := hA2.st
              have hI2 : WtI n W.all u2 (ws2.map MV.m) := hA2.w
              show H _ _ _ [_, _, _, _, _, _] e2 (waitH e2 xb ws2 :: loreH e2 lb n L2 :: _ :: F) _
              repeat (first | ((apply H.move); (iterate 3 exact rfl)) | (first | apply H.seq | apply H.region) | (apply H.block))
              refine H.call rfl rfl rfl (wnext_fn e2 _ (tab_mono htab hfe2) (Le.refl e2)) fun v f' A' hr => ?_
              obtain ⟨r2, ws3, hn, hr1, hsub3, rfl, hff, rfl⟩ := hr
              rw [hff]
              have hnb3 : NoB k (ws3.map MV.m) := fun x hx => by
                obtain ⟨z, hz, rfl⟩ := List.mem_map.1 hx
                exact hnb2 z.m (List.mem_map_of_mem (hsub3 z hz))
              cases r2 with
              | none =>
                have hn' : NextR (chk n (uptoS W.all u2)) (ws2.map MV.m) none (ws3.map MV.m) := by rw [← hst2]; exact hn
                obtain ⟨hI3, hid3, haim3⟩ := hI2.stop hn'
                repeat (first | ((apply H.move); (iterate 3 exact rfl)) | ((apply H.extract); (iterate 4 exact rfl)))
                refine H.alloc (ls := msgZ.vals none 0) rfl rfl rfl fun zb => ?_
                refine H.storeN (ls := msgZ.vals none 0) (vs := msgZ.vals none 0) (ls' := msgZ.vals none 0) rfl rfl rfl (allOne_mem rfl) rfl rfl (Nat.le_refl 121) (.here _ _ _) ?_
                refine H.drop (.here _ _) ?_
                repeat (first | ((first | apply H.move | apply H.assign); (iterate 3 exact rfl)) | (first | apply H.seq | apply H.region | apply H.nil | apply H.then_normal) | ((apply H.ar; (iterate 4 exact rfl)); (with_reducible apply wr_i64_n1; omega); exact rfl) | ((apply H.not); (iterate 4 exact rfl)) | (apply H.cond_true; exact rfl) | (first | apply H.then_exit | apply H.exit | apply H.in_normal | apply H.in_hit | apply H.loop_exit) | (apply H.in_miss; exact rfl))
                exact H.again ⟨i + 1, e2, L2, ws3, u2⟩ ⟨⟨hle2, hst2, hA2.len, hI3⟩, hid3, hu02, hnb3, by show i + 1 ≤ l.length; omega, hph.step hn3.2 hW hI.knw hI3.knw hge hyi (fun hr => haim3 _ (haim2 hr))⟩ (by show l.length - (i + 1) < l.length - i; omega) ⟨rfl, rfl, rfl, rfl, rfl, rfl, trivial⟩ rfl rfl
              | some y2 =>
                have hn' : NextR (chk n (uptoS W.all u2)) (ws2.map MV.m) (some y2.m) (ws3.map MV.m) := by rw [← hst2]; exact hn
                have hg2 := (hr1 y2 rfl).2
                have hsm : L2.length ≤ W.all.length := AΦ.small hn3.2 hW hA2
                obtain ⟨hrdy, hin2, _, _⟩ := hI2.next hW hn'
                have hnum2 := hrdy.num hW hI2.knw
                have hok2 : orgI y2.m ≠ k := fun e => hnb2 y2.m hin2 ⟨e, by rw [hnum2, e, hu02]; rfl⟩
                have hu03 : nextU u2 y2.m k = 0 := by unfold nextU updF; rw [if_neg (fun e => hok2 e.symm)]; exact hu02
                repeat (first | ((apply H.move); (iterate 3 exact rfl)) | ((apply H.extract); (iterate 4 exact rfl)))
                refine H.alloc (ls := msgZ.vals none 0) rfl rfl rfl fun zb => ?_
                refine H.storeN (ls := msgZ.vals none 0) (vs := y2.vals) (ls' := y2.vals) rfl rfl rfl (allOne_mem rfl) rfl rfl (Nat.le_refl 121) (.here _ _ _) ?_
                repeat (first | ((first | apply H.move | apply H.assign); (iterate 3 exact rfl)) | (first | apply H.seq | apply H.region | apply H.nil | apply H.then_normal) | ((apply H.not); (iterate 4 exact rfl)) | (apply H.cond_false; exact rfl) | (apply H.skip))
                refine H.loadN (ls := y2.vals) rfl rfl rfl (Rd.ofRow (.here _ _ _)) rfl rfl ?_
                refine H.drop (.here _ _) ?_
                refine H.front (x := loreH _ _ _ _) (by repeat (first | exact .here _ _ | apply Pull.there)) ?_
                refine H.call (R := AddP e2 _ lb n L2 y2.m) rfl rfl rfl (ladd_fn e2 _ (tab_mono htab hfe2) (Le.refl e2) hg2 (by omega)) fun v f' A' hr => ?_
                obtain ⟨g3, q3, c3, rfl, hd3, rfl, rfl⟩ := hr
                obtain ⟨hc0, hA3⟩ := AΦ.take hn3.2 hW hA2 (y := y2) (ws' := ws3) hn (Le.un e2 g3) q3 c3
                rw [show chk n (strm (L2.map MV.m)) y2.m = 0 from hc0, if_pos rfl]
                have up3 := Le.un e2 g3
                generalize un e2 g3 = e3 at up3 hA3 ⊢
                repeat (first | (first | apply H.nil | apply H.then_normal) | ((apply H.cmp); (iterate 5 exact rfl)) | (apply H.cond_false; exact rfl) | (first | apply H.skip | apply H.in_normal))
                refine H.front (x := waitH _ _ _) (by repeat (first | exact .here _ _ | apply Pull.there)) ?_
                refine H.imp (wait_up up3) ?_
                exact H.again ⟨j, e3, L2 ++ [⟨y2.m, q3, c3⟩], ws3, nextU u2 y2.m⟩ ⟨hA3, fun j => Int.le_trans (hge j) (nextU_ge u2 y2.m j), fun hr => (haim2 hr).next hW hI2 hn', hu03, hnb3⟩ (by have := hn'.len; rw [List.length_map, List.length_map] at this; exact this) ⟨rfl, rfl, rfl, rfl, rfl, rfl, trivial⟩ rfl rfl
            · by_cases ho : y.m.origin = 1 + (k : Int)
              · have hno : ¬ y.m.number = 1 := fun h => hsk ⟨ho, h⟩
                repeat (first | ((apply H.move); (iterate 3 exact rfl)) | (apply H.fieldAddr; (iterate 3 exact rfl); exact inferInstance; exact rfl) | (apply H.load1; (iterate 3 exact rfl); apply Rd1.ofRow; (repeat (exact .here _ _ _)); (iterate 2 exact rfl)) | (first | apply H.seq | apply H.region | apply H.nil | apply H.then_normal) | ((apply H.cmp); (iterate 5 exact rfl)) | (apply H.pickT; (iterate 4 exact rfl)) | (apply H.skip) | (apply H.gyes; (iterate 3 exact rfl); (assumption)) | (apply H.cond_no; exact rfl; (assumption)))
                refine H.know (d := 91) (u := .bool false) rfl (by rw [decide_eq_false hno]) ?_
                exact H.meet () trivial ⟨rfl, rfl, rfl, rfl, rfl, rfl, rfl, rfl, trivial⟩ rfl rfl
              · skip
                repeat (first | ((apply H.move); (iterate 3 exact rfl)) | (apply H.fieldAddr; (iterate 3 exact rfl); exact inferInstance; exact rfl) | (apply H.load1; (iterate 3 exact rfl); apply Rd1.ofRow; (repeat (exact .here _ _ _)); (iterate 2 exact rfl)) | (first | apply H.seq | apply H.region | apply H.nil | apply H.then_normal) | ((apply H.cmp); (iterate 5 exact rfl)) | (apply H.pass; (iterate 2 exact rfl)) | ((apply H.pickF); (iterate 4 exact rfl)) | (apply H.cond_false; exact rfl) | (apply H.skip) | (apply H.gno; (iterate 3 exact rfl); (assumption)))
                exact H.meet () trivial ⟨rfl, rfl, rfl, rfl, rfl, rfl, rfl, rfl, trivial⟩ rfl rfl
        · skip
          repeat (first | ((first | apply H.move | apply H.assign | apply H.nilCheck | apply H.len_slice); (iterate 3 exact rfl)) | (apply H.fieldAddr; (iterate 3 exact rfl); exact inferInstance; exact rfl) | (apply H.load1; (iterate 3 exact rfl); apply Rd1.ofRow; (repeat (first | exact .here _ _ _ | apply At.there)); (iterate 2 exact rfl)) | (first | apply H.seq | apply H.region | apply H.nil | apply H.then_normal) | ((apply H.cmp); (iterate 5 exact rfl)) | ((apply H.ar; (iterate 4 exact rfl)); (with_reducible apply wr_i64_n1; omega); exact rfl) | (first | apply H.then_exit | apply H.exit | apply H.in_normal | apply H.in_hit | apply H.loop_exit) | (apply H.cond_no; exact rfl; (omega)))
          refine H.front (x := loreH _ _ _ _) (by repeat (first | exact .here _ _ | apply Pull.there)) ?_
          refine H.front (x := waitH _ _ _) (by repeat (first | exact .here _ _ | apply Pull.there)) ?_
          exact H.again ⟨r + 1, e, L, ws, u⟩ ⟨⟨hA.le, hA.st, hA.len, hA.w⟩, hid, hu0, hnb, by show r + 1 ≤ l.length + 1; omega, hph.round hk11 hW hTr hI.knw (by omega)⟩ (by show l.length + 1 - (r + 1) < l.length + 1 - r; omega) ⟨rfl, rfl, rfl, rfl, rfl, trivial⟩ rfl rfl
      · have hI0 : WtI n W.all u0 (ws0.map MV.m) := hA0.w
        have hK : AllF W.all k u0 := hph0.all hn3.2 hW hI0.knw (by omega)
        have hst0 : strm (L0.map MV.m) = uptoS W.all u0 := hA0.st
        have hle0 : Le f1 e0 := hA0.le
        have h121 : ws0.length ≤ 121 := by have := hI0.few hn3.2 hW; rwa [List.length_map] at this
        repeat (first | ((first | apply H.move | apply H.assign | apply H.nilCheck | apply H.len_slice); (iterate 3 exact rfl)) | (apply H.fieldAddr; (iterate 3 exact rfl); exact inferInstance; exact rfl) | (apply H.load1; (iterate 3 exact rfl); apply Rd1.ofRow; (repeat (first | exact .here _ _ _ | apply At.there)); (iterate 2 exact rfl)) | (first | apply H.seq | apply H.region | apply H.nil | apply H.then_normal) | ((apply H.cmp); (iterate 5 exact rfl)) | (first | apply H.then_exit | apply H.exit | apply H.block | apply H.in_hit | apply H.loop_exit) | (apply H.cond_no; exact rfl; (omega)))
        refine H.front (x := loreH _ _ _ _) (by repeat (first | exact .here _ _ | apply Pull.there)) ?_
        refine H.front (x := waitH _ _ _) (by repeat (first | exact .here _ _ | apply Pull.there)) ?_
        refine H.loop (ι := Nat × Frag) (fun s => [(17, .int .i64 (s.1 : Int)), (7, .pointer (some ⟨wb, 0, none⟩)), (8, .int .i64 (1 + (k : Int))), (9, .pointer (some ⟨lb, 0, none⟩)), (11, .pointer (some ⟨xb, 0, none⟩))]) (fun s => s.2)
          (fun _ => waitH e0 xb ws0 :: loreH e0 lb n L0 :: row wb 34 (worldC kb n ap l.length ac) :: F)
          (fun s => s.1 ≤ l.length ∧ Le e0 s.2) (fun s => l.length - s.1) (0, e0) ⟨Nat.zero_le _, Le.refl e0⟩ ⟨rfl, rfl, rfl, rfl, rfl, trivial⟩ rfl rfl fun s hs => ?_
        obtain ⟨j, e⟩ := s
        obtain ⟨hjl, hle⟩ : j ≤ l.length ∧ Le e0 e := hs
        show H _ _ _ [(17, .int .i64 (j : Int)), _, _, _, _] e (waitH e0 xb ws0 :: loreH e0 lb n L0 :: _ :: F) _
        have hle1 := hle0.trans hle
        by_cases hlt : j < l.length
        · obtain ⟨b, off, rfl, rdA⟩ := hwat.a.all MV.len (by decide) (by omega)
          obtain ⟨y, hy⟩ : ∃ y, l[j]? = some y := ⟨_, List.getElem?_eq_getElem hlt⟩
          have hyi : W.all[j]? = some y.m := by rw [← hlm, List.getElem?_map, hy]; rfl
          have hym : y.m ∈ W.all := List.mem_of_getElem? hyi
          have hyorg : 1 ≤ y.m.origin := by
            obtain ⟨pre, post, e9⟩ := List.append_of_mem hym
            rw [e9] at hW
            exact hW.at.org.1
          have hkn2 := get_known hW hI0.knw hst0 hym
          have hfree := known_free hk11 hW hI0.knw hz0 hK hym
          have hget : ∀ G, Fn Tryz.prog 28 [.pointer (some ⟨lb, 0, none⟩), .int .i64 y.m.origin, .int .u64 y.m.number] e (loreH e0 lb n L0 :: G) (GetP e (loreH e0 lb n L0 :: G) (getM (L0.map MV.m) y.m.origin y.m.number)) := fun G => lgetA_fn e G hle
          generalize getM (L0.map MV.m) y.m.origin y.m.number = r at hget hkn2
          by_cases ho : y.m.origin = 1 + (k : Int)
          · have hr2 : r.2 = false := by
              rw [hkn2, decide_eq_false_iff_not]
              intro hx
              exact (hfree.1 hx).1 (by unfold orgI; omega)
            clear hfree hkn2
            repeat (first | ((first | apply H.move | apply H.nilCheck | apply H.len_slice); (iterate 3 exact rfl)) | (apply H.fieldAddr; (iterate 3 exact rfl); exact inferInstance; exact rfl) | (apply H.load1; (iterate 3 exact rfl); apply Rd1.ofRow; (repeat (first | exact .here _ _ _ | apply At.there)); (iterate 2 exact rfl)) | (first | apply H.seq | apply H.region | apply H.nil | apply H.then_normal) | ((apply H.cmp); (iterate 5 exact rfl)) | (first | apply H.skip | apply H.block) | (apply H.cond_yes; exact rfl; (omega)))
            refine H.index_slice (i := j) rfl rfl rfl rfl hlt rfl ?_
            refine H.loadN (ls := y.vals) rfl rfl rfl (rdA _ _ _ _ hle1 hy) rfl rfl ?_
            refine H.alloc (ls := msgZ.vals none 0) rfl rfl rfl fun tb => ?_
            refine H.storeN (ls := msgZ.vals none 0) (vs := y.vals) (ls' := y.vals) rfl rfl rfl (allOne_mem rfl) rfl rfl (Nat.le_refl 121) (.here _ _ _) ?_
            repeat (first | ((apply H.move); (iterate 3 exact rfl)) | (apply H.fieldAddr; (iterate 3 exact rfl); exact inferInstance; exact rfl) | (apply H.load1; (iterate 3 exact rfl); apply Rd1.ofRow; (repeat (exact .here _ _ _)); (iterate 2 exact rfl)) | (first | apply H.seq | apply H.region | apply H.nil | apply H.then_normal))
            refine H.front (x := loreH _ _ _ _) (by repeat (first | exact .here _ _ | apply Pull.there)) ?_
            refine H.call rfl rfl rfl (hget _) fun v f' A' hr => ?_
            obtain ⟨g4, z1, rfl, hzm, hzg, hd4, rfl, rfl⟩ := hr
            rw [hr2]
            have hle4 := hle.trans (Le.un e g4)
            generalize un e g4 = e4 at hle4 hzg ⊢
            repeat (first | ((apply H.move); (iterate 3 exact rfl)) | ((apply H.extract); (iterate 4 exact rfl)))
            refine H.alloc (ls := msgZ.vals none 0) rfl rfl rfl fun gb => ?_
            refine H.storeN (ls := msgZ.vals none 0) (vs := z1.vals) (ls' := z1.vals) rfl rfl rfl (allOne_mem rfl) rfl rfl (Nat.le_refl 121) (.here _ _ _) ?_
            refine H.drop (.here _ _) ?_
            refine H.front (x := row tb _ _) (by repeat (first | exact .here _ _ | apply Pull.there)) ?_
            repeat (first | ((first | apply H.move | apply H.assign); (iterate 3 exact rfl)) | (apply H.fieldAddr; (iterate 3 exact rfl); exact inferInstance; exact rfl) | (apply H.load1; (iterate 3 exact rfl); apply Rd1.ofRow; (repeat (exact .here _ _ _)); (iterate 2 exact rfl)) | (first | apply H.seq | apply H.region | apply H.nil | apply H.then_normal) | ((apply H.cmp); (iterate 5 exact rfl)) | (apply H.pass; (iterate 2 exact rfl)) | (apply H.pickT; (iterate 4 exact rfl)) | (apply H.gyes; (iterate 3 exact rfl); (assumption)))
            refine H.beq (b := false) rfl rfl rfl rfl rfl rfl ?_
            repeat (first | ((first | apply H.move | apply H.assign); (iterate 3 exact rfl)) | (first | apply H.region | apply H.nil | apply H.then_normal) | ((apply H.ar; (iterate 4 exact rfl)); (with_reducible apply wr_i64_n1; omega); exact rfl) | (apply H.cond_false; exact rfl) | (first | apply H.skip | apply H.in_normal))
            refine H.drop (x := row tb _ _) (by repeat (first | exact .here _ _ | apply Pull.there)) ?_
            refine H.front (x := loreH _ _ _ _) (by repeat (first | exact .here _ _ | apply Pull.there)) ?_
            refine H.front (x := waitH _ _ _) (by repeat (first | exact .here _ _ | apply Pull.there)) ?_
            exact H.again (j + 1, e4) ⟨by show j + 1 ≤ l.length; omega, hle4⟩ (by show l.length - (j + 1) < l.length - j; omega) ⟨rfl, rfl, rfl, rfl, rfl, trivial⟩ rfl rfl
          · have hok : orgI y.m ≠ k := by unfold orgI; omega
            by_cases hd0 : 0 < y.m.deps k
            · have hr2 : r.2 = false := by
                rw [hkn2, decide_eq_false_iff_not]
                intro hx
                have := (hfree.1 hx).2
                omega
              clear hfree hkn2
              repeat (first | ((first | apply H.move | apply H.nilCheck | apply H.len_slice); (iterate 3 exact rfl)) | (apply H.fieldAddr; (iterate 3 exact rfl); exact inferInstance; exact rfl) | (apply H.load1; (iterate 3 exact rfl); apply Rd1.ofRow; (repeat (first | exact .here _ _ _ | apply At.there)); (iterate 2 exact rfl)) | (first | apply H.seq | apply H.region | apply H.nil | apply H.then_normal) | ((apply H.cmp); (iterate 5 exact rfl)) | (first | apply H.skip | apply H.block) | (apply H.cond_yes; exact rfl; (omega)))
              refine H.index_slice (i := j) rfl rfl rfl rfl hlt rfl ?_
              refine H.loadN (ls := y.vals) rfl rfl rfl (rdA _ _ _ _ hle1 hy) rfl rfl ?_
              refine H.alloc (ls := msgZ.vals none 0) rfl rfl rfl fun tb => ?_
              refine H.storeN (ls := msgZ.vals none 0) (vs := y.vals) (ls' := y.vals) rfl rfl rfl (allOne_mem rfl) rfl rfl (Nat.le_refl 121) (.here _ _ _) ?_
              repeat (first | ((apply H.move); (iterate 3 exact rfl)) | (apply H.fieldAddr; (iterate 3 exact rfl); exact inferInstance; exact rfl) | (apply H.load1; (iterate 3 exact rfl); apply Rd1.ofRow; (repeat (exact .here _ _ _)); (iterate 2 exact rfl)) | (first | apply H.seq | apply H.region | apply H.nil | apply H.then_normal))
              refine H.front (x := loreH _ _ _ _) (by repeat (first | exact .here _ _ | apply Pull.there)) ?_
              refine H.call rfl rfl rfl (hget _) fun v f' A' hr => ?_
              obtain ⟨g4, z1, rfl, hzm, hzg, hd4, rfl, rfl⟩ := hr
              rw [hr2]
              have hle4 := hle.trans (Le.un e g4)
              generalize un e g4 = e4 at hle4 hzg ⊢
              repeat (first | ((apply H.move); (iterate 3 exact rfl)) | ((apply H.extract); (iterate 4 exact rfl)))
              refine H.alloc (ls := msgZ.vals none 0) rfl rfl rfl fun gb => ?_
              refine H.storeN (ls := msgZ.vals none 0) (vs := z1.vals) (ls' := z1.vals) rfl rfl rfl (allOne_mem rfl) rfl rfl (Nat.le_refl 121) (.here _ _ _) ?_
              refine H.drop (.here _ _) ?_
              refine H.front (x := row tb _ _) (by repeat (first | exact .here _ _ | apply Pull.there)) ?_
              repeat (first | ((first | apply H.move | apply H.assign); (iterate 3 exact rfl)) | (apply H.fieldAddr; (iterate 3 exact rfl); exact inferInstance; exact rfl) | (apply H.load1; (iterate 3 exact rfl); apply Rd1.ofRow; (repeat (exact .here _ _ _)); (iterate 2 exact rfl)) | (first | apply H.seq | apply H.region | apply H.nil | apply H.then_normal) | ((apply H.cmp); (iterate 5 exact rfl)) | ((apply H.ar; (iterate 4 exact rfl)); (with_reducible apply wr_i64; omega); exact rfl) | (apply H.gno; (iterate 3 exact rfl); (assumption)))
              refine H.index_array (i := k) rfl rfl rfl (by omega) hk11 rfl ?_
              refine H.load1 rfl rfl rfl (by rw [Nat.mul_one]; exact Rd1.of (msg_deps (m := y.m) (q := y.qp) (qc := y.qc) (.here _ _ _)) (v11_get y.m.deps hk11)) rfl ?_
              repeat (first | ((apply H.cmp); (iterate 5 exact rfl)) | ((apply H.pickF); (iterate 4 exact rfl)))
              refine H.beq (b := false) rfl rfl rfl rfl (by rw [decide_eq_true hd0]; rfl) rfl ?_
              repeat (first | ((first | apply H.move | apply H.assign); (iterate 3 exact rfl)) | (first | apply H.region | apply H.nil | apply H.then_normal) | ((apply H.ar; (iterate 4 exact rfl)); (with_reducible apply wr_i64_n1; omega); exact rfl) | (apply H.cond_false; exact rfl) | (first | apply H.skip | apply H.in_normal))
              refine H.drop (x := row tb _ _) (by repeat (first | exact .here _ _ | apply Pull.there)) ?_
              refine H.front (x := loreH _ _ _ _) (by repeat (first | exact .here _ _ | apply Pull.there)) ?_
              refine H.front (x := waitH _ _ _) (by repeat (first | exact .here _ _ | apply Pull.there)) ?_
              exact H.again (j + 1, e4) ⟨by show j + 1 ≤ l.length; omega, hle4⟩ (by show l.length - (j + 1) < l.length - j; omega) ⟨rfl, rfl, rfl, rfl, rfl, trivial⟩ rfl rfl
            · have hr2 : r.2 = true := by
                rw [hkn2, decide_eq_true_eq]
                exact hfree.2 ⟨hok, by omega⟩
              clear hfree hkn2
              repeat (first | ((first | apply H.move | apply H.nilCheck | apply H.len_slice); (iterate 3 exact rfl)) | (apply H.fieldAddr; (iterate 3 exact rfl); exact inferInstance; exact rfl) | (apply H.load1; (iterate 3 exact rfl); apply Rd1.ofRow; (repeat (first | exact .here _ _ _ | apply At.there)); (iterate 2 exact rfl)) | (first | apply H.seq | apply H.region | apply H.nil | apply H.then_normal) | ((apply H.cmp); (iterate 5 exact rfl)) | (first | apply H.skip | apply H.block) | (apply H.cond_yes; exact rfl; (omega)))
              refine H.index_slice (i := j) rfl rfl rfl rfl hlt rfl ?_
              refine H.loadN (ls := y.vals) rfl rfl rfl (rdA _ _ _ _ hle1 hy) rfl rfl ?_
              refine H.alloc (ls := msgZ.vals none 0) rfl rfl rfl fun tb => ?_
              refine H.storeN (ls := msgZ.vals none 0) (vs := y.vals) (ls' := y.vals) rfl rfl rfl (allOne_mem rfl) rfl rfl (Nat.le_refl 121) (.here _ _ _) ?_
              repeat (first | ((apply H.move); (iterate 3 exact rfl)) | (apply H.fieldAddr; (iterate 3 exact rfl); exact inferInstance; exact rfl) | (apply H.load1; (iterate 3 exact rfl); apply Rd1.ofRow; (repeat (exact .here _ _ _)); (iterate 2 exact rfl)) | (first | apply H.seq | apply H.region | apply H.nil | apply H.then_normal))
              refine H.front (x := loreH _ _ _ _) (by repeat (first | exact .here _ _ | apply Pull.there)) ?_
              refine H.call rfl rfl rfl (hget _) fun v f' A' hr => ?_
              obtain ⟨g4, z1, rfl, hzm, hzg, hd4, rfl, rfl⟩ := hr
              rw [hr2]
              have hle4 := hle.trans (Le.un e g4)
              generalize un e g4 = e4 at hle4 hzg ⊢
              repeat (first | ((apply H.move); (iterate 3 exact rfl)) | ((apply H.extract); (iterate 4 exact rfl)))
              refine H.alloc (ls := msgZ.vals none 0) rfl rfl rfl fun gb => ?_
              refine H.storeN (ls := msgZ.vals none 0) (vs := z1.vals) (ls' := z1.vals) rfl rfl rfl (allOne_mem rfl) rfl rfl (Nat.le_refl 121) (.here _ _ _) ?_
              refine H.drop (.here _ _) ?_
              refine H.front (x := row tb _ _) (by repeat (first | exact .here _ _ | apply Pull.there)) ?_
              repeat (first | ((first | apply H.move | apply H.assign); (iterate 3 exact rfl)) | (apply H.fieldAddr; (iterate 3 exact rfl); exact inferInstance; exact rfl) | (apply H.load1; (iterate 3 exact rfl); apply Rd1.ofRow; (repeat (exact .here _ _ _)); (iterate 2 exact rfl)) | (first | apply H.seq | apply H.region | apply H.nil | apply H.then_normal) | ((apply H.cmp); (iterate 5 exact rfl)) | ((apply H.ar; (iterate 4 exact rfl)); (with_reducible apply wr_i64; omega); exact rfl) | (apply H.gno; (iterate 3 exact rfl); (assumption)))
              refine H.index_array (i := k) rfl rfl rfl (by omega) hk11 rfl ?_
              refine H.load1 rfl rfl rfl (by rw [Nat.mul_one]; exact Rd1.of (msg_deps (m := y.m) (q := y.qp) (qc := y.qc) (.here _ _ _)) (v11_get y.m.deps hk11)) rfl ?_
              repeat (first | ((apply H.cmp); (iterate 5 exact rfl)) | ((apply H.pickF); (iterate 4 exact rfl)))
              refine H.beq (b := false) rfl rfl rfl rfl (by rw [decide_eq_false hd0]; rfl) rfl ?_
              repeat (first | ((first | apply H.move | apply H.assign); (iterate 3 exact rfl)) | (first | apply H.region | apply H.nil | apply H.then_normal) | ((apply H.ar; (iterate 4 exact rfl)); (with_reducible apply wr_i64_n1; omega); exact rfl) | (apply H.cond_false; exact rfl) | (first | apply H.skip | apply H.in_normal))
              refine H.drop (x := row tb _ _) (by repeat (first | exact .here _ _ | apply Pull.there)) ?_
              refine H.front (x := loreH _ _ _ _) (by repeat (first | exact .here _ _ | apply Pull.there)) ?_
              refine H.front (x := waitH _ _ _) (by repeat (first | exact .here _ _ | apply Pull.there)) ?_
              exact H.again (j + 1, e4) ⟨by show j + 1 ≤ l.length; omega, hle4⟩ (by show l.length - (j + 1) < l.length - j; omega) ⟨rfl, rfl, rfl, rfl, rfl, trivial⟩ rfl rfl
        · have hfe := le1.trans hle1
          repeat (first | ((first | apply H.move | apply H.nilCheck | apply H.len_slice); (iterate 3 exact rfl)) | (apply H.fieldAddr; (iterate 3 exact rfl); exact inferInstance; exact rfl) | (apply H.load1; (iterate 3 exact rfl); apply Rd1.ofRow; (repeat (first | exact .here _ _ _ | apply At.there)); (iterate 2 exact rfl)) | (first | apply H.seq | apply H.region | apply H.nil | apply H.then_normal) | ((apply H.cmp); (iterate 5 exact rfl)) | (first | apply H.then_exit | apply H.exit | apply H.in_hit | apply H.loop_exit) | (apply H.cond_no; exact rfl; (omega)))
          refine H.callR rfl rfl rfl (wlen_fn e _) ?_
          repeat (first | ((apply H.move); (iterate 3 exact rfl)) | ((apply H.cmp); (iterate 5 exact rfl)) | (apply H.gyes; (iterate 3 exact rfl); (omega)))
          refine H.callR rfl rfl rfl (works13_fn e _ (tab_mono htab hfe)) ?_
          repeat (first | ((apply H.assign); (iterate 3 exact rfl)) | (first | apply H.nil | apply H.then_normal) | (apply H.pickT; (iterate 4 exact rfl)) | (apply H.ret))
          refine H.weakL hfe ?_
          refine H.drop (.here _ _) ?_
          refine H.drop (.here _ _) ?_
          refine H.drop (.here _ _) ?_
          exact H.ret1 rfl rfl (fun _ h => h) ⟨rfl, rfl, rfl⟩
    · skip
      refine Fn.enter Tryz.func11 rfl Tryz.ntmps11 rfl (L := [(0, _), (1, _), (2, _)]) ⟨rfl, rfl, rfl, trivial⟩ fun base => ?_
      repeat (first | ((first | apply H.move | apply H.assign); (iterate 3 exact rfl)) | (first | apply H.seq | apply H.region | apply H.nil | apply H.then_normal))
      refine H.callR rfl rfl rfl hfew ?_
      refine H.not (b := _) (c := _) rfl rfl rfl rfl ?_
      repeat (first | ((first | apply H.move | apply H.len_slice); (iterate 3 exact rfl)) | (first | apply H.seq | apply H.region | apply H.nil | apply H.then_normal) | ((apply H.cmp); (iterate 5 exact rfl)) | ((apply H.pickF); (iterate 4 exact rfl)) | (apply H.cond_yes; exact rfl; (omega)))
      refine H.callR rfl rfl rfl (works13_fn f _ htab) ?_
      repeat (first | ((apply H.assign); (iterate 3 exact rfl)) | (first | apply H.nil | apply H.then_normal) | (first | apply H.ret | apply H.then_ret))
      exact H.ret1 rfl rfl (fun _ h => h) ⟨rfl, rfl, rfl⟩
end
end Go.Proofs.YtoigpgdmignaoaaGreatDoor

/- Layer 12: acts that a law is given. -/
namespace Go.Proofs.YtoigpgdmignaoaaGreatDoor
open Go Go.ChangeShapes Go.WideShapes Go.RowKit Go.Deep
theorem Reads.bool {P : Program} {W : World} {t : TypeId} {cs : List Value} (ht : P.underlying t = some .bool) (h : Reads P W t cs) : ∃ b, cs = [.bool b] := by
  obtain ⟨H', enc, b, sp, hd, n, x, h⟩ := h
  obtain ⟨z, h1, _⟩ := DataW.trod_bool ht h
  exact ⟨z, h1⟩
theorem Reads.u8 {W : World} {cs : List Value} (h : Reads Tryz.prog W 5 cs) : ∃ x : UInt8, cs = [.int .u8 (x.toNat : Nat)] := by
  obtain ⟨x, _, e⟩ := reads_byte h
  exact ⟨x, e⟩
set_option maxHeartbeats 4000000 in
theorem reads_a12 {W : World} {cs : List Value} (h : Reads Tryz.prog W 113 cs) : ∃ x : A12, x.Has (memOf W) ∧ cs = x.vals := by
  obtain ⟨ps, rfl, hh⟩ := h.parts Tryz.underlying113 (by kernel_rfl)
  have h : AllReads Tryz.prog W [5, 5, 4, 5, 5, 5, 5, 55] ps := hh
  match ps, h with
  | [p0, p1, p2, p3, p4, p5, p6, p7], ⟨r0, r1, r2, r3, r4, r5, r6, r7, _⟩ =>
    obtain ⟨z0, rfl⟩ := r0.u8
    obtain ⟨z1, rfl⟩ := r1.u8
    obtain ⟨b2, rfl⟩ := r2.bool Tryz.underlying4
    obtain ⟨z3, rfl⟩ := r3.u8
    obtain ⟨z4, rfl⟩ := r4.u8
    obtain ⟨z5, rfl⟩ := r5.u8
    obtain ⟨z6, rfl⟩ := r6.u8
    obtain ⟨p, c, xs, rfl, _, _, _, hat⟩ := r7.list (sz := 1) Tryz.underlying55 (by kernel_rfl) (by decide) fun cs => reads_byte
    exact ⟨⟨z0, z1, b2, z3, z4, z5, z6, xs, p, c⟩, listAt_bat hat, rfl⟩
theorem ArgOk.u8 {W : World} {v : Value} (h : ArgOk Tryz.prog W 5 v) : ∃ x : UInt8, v = .int .u8 (x.toNat : Nat) := by
  obtain ⟨z, rfl, hz⟩ := h.int Tryz.underlying5
  exact ⟨UInt8.ofNat z.toNat, by rw [u8_back hz]⟩
theorem ArgOk.acts {W : World} {v : Value} (h : ArgOk Tryz.prog W 22 v) : ∃ (p : Option Addr) (c : Nat) (xs : List A12), v = .slice p xs.length c ∧ xs.length ≤ 9223372036854775807 ∧ (∀ x ∈ xs, x.Has (memOf W)) ∧ ListAt (memOf W) p 8 A12.vals xs := by
  obtain ⟨p, c, xs, rfl, h1, h2, hq, hat⟩ := h.list (sz := 8) Tryz.underlying22 (by kernel_rfl) (by decide) fun cs => reads_a12
  exact ⟨p, c, xs, rfl, by have : maxLen ≤ 9223372036854775807 := by decide
                           omega, hq, hat⟩
end Go.Proofs.YtoigpgdmignaoaaGreatDoor

/- Rows whose laws read the table of sha: what is given of the program, and what the row's condition says. -/
namespace Go.Proofs.YtoigpgdmignaoaaGreatDoor
open Go Go.ChangeShapes Go.WideShapes Go.RowKit Go.Deep
theorem Tryz.own : ownKnob Tryz.prog.godebug = none := by kernel_rfl
theorem Tryz.laidOut : laidOutB Tryz.prog = true := by kernel_rfl
abbrev laidL : List (String × DataW Unit) := [("ratchet/sha.table", Rows.laid_ratchet_sha_table)]
theorem door_met (os : Os) (args : Array Value) : laidMetH Tryz.prog laidL ((World.doorLaid Tryz.prog 400 os).forCall (fun _ _ => 0) ⟨#[], args, []⟩).memory :=
  laidMetH_of_parts3 (fuel := 8) (laidMet_of_run' 8 (by kernel_rfl) (by kernel_rfl)) (by kernel_rfl) (by kernel_rfl)
theorem tab_eq : (Rows.laid_ratchet_sha_table : DataW Unit) = .agg ((Sha.k.map fun x => ((x.toNat : Nat) : Int)).map fun z => .lit (.int .u32 z)) := by kernel_rfl
theorem tab_of {W : World} (h : laidMetH Tryz.prog laidL W) : TabAt (memOf W) := by
  have h2 : laidMetH Tryz.prog [("ratchet/sha.table", .agg ((Sha.k.map fun x => ((x.toNat : Nat) : Int)).map fun z => .lit (.int .u32 z)))] W := by rw [← tab_eq]; exact h
  exact laid_ints h2 (by kernel_rfl) (by kernel_rfl) (t := 252) (e := 222) Tryz.underlying252 Tryz.underlying222 (by kernel_rfl)
end Go.Proofs.YtoigpgdmignaoaaGreatDoor
