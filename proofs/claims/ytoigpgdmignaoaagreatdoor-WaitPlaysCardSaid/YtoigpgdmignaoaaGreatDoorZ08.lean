/- Parts of the proof, one behind the other, each under its own heading. No conditions. -/
import Derived.Test.YtoigpgdmignaoaaGreatDoorZ07
set_option linter.unusedSectionVars false
set_option linter.unusedSimpArgs false
set_option linter.unusedVariables false
/- Layer 13: the law's example. Condition: the table of the standard stands in the fragment. -/
namespace Go.Proofs.YtoigpgdmignaoaaGreatDoor
open Go
theorem put_room {e : Int} {ws ws' : List Msg} {m : Msg} {z : Int} (h : PutR e ws m z ws') (ho : openZ e = true) (hk : ∀ x ∈ ws, keyM x ≠ keyM m) (hc : cntO ws m.origin < 11) : z = 0 ∧ ws'.Perm (ws ++ [m]) := by
 cases h with
 | shut g => rw [ho] at g; cases g
 | again _ x hx e => exact absurd e (hk x hx)
 | room _ _ _ _ p => exact ⟨rfl, p⟩
 | full _ _ g => omega
 | swap _ _ g => omega
theorem next_no {c : Msg → Int} {ws ws' : List Msg} {r : Option Msg} (h : NextR c ws r ws') (hc : ∀ x ∈ ws, c x = 12) : r = none ∧ ws'.Perm ws := by
 have hf : (ws.filter fun x => openZ (c x)) = ws := by
  rw [List.filter_eq_self]
  intro x hx
  rw [hc x hx]; rfl
 cases h with
 | no _ _ p => rw [hf] at p; exact ⟨rfl, p⟩
 | yes x hx h0 => rw [hc x hx] at h0; cases h0
theorem next_yes {c : Msg → Int} {ws ws' : List Msg} {r : Option Msg} {m : Msg} (h : NextR c ws r ws') (hm : m ∈ ws) (h0 : c m = 0) (hc : ∀ x ∈ ws, x = m ∨ c x = 12) : r = some m ∧ (m :: ws').Perm ws := by
 have hf : (ws.filter fun x => openZ (c x)) = ws := by
  rw [List.filter_eq_self]
  intro x hx
  rcases hc x hx with h1 | h1
  ·rw [h1, h0]; rfl
  ·rw [h1]; rfl
 cases h with
 | no g => exact absurd h0 (g m hm)
 | yes x hx g0 _ _ p =>
  rcases hc x hx with h1 | h1
  ·subst h1; rw [hf] at p; exact ⟨rfl, p⟩
  ·rw [h1] at g0; cases g0
def bodD : Bod := { Bod.zero 3 with view := 2 }
def m3u : Msg := ⟨1, 2, vec1, bodD, noTag⟩
theorem m3u_fits : fitsB 3 m3u = true := by decide +kernel
theorem m3u_may : m3u.may = true := by decide +kernel
structure Ex13 (m1 m2 : Msg) : Prop where
 a : chk 3 (strm []) m2 = 12
 b : chk 3 (strm []) m1 = 0
 c : chk 3 (strm [m1]) m2 = 0
 n1 : m1.number = 1
 n2 : m2.number = 2
 o1 : m1.origin = 1
 o2 : m2.origin = 1
theorem ex13 : Ex13 m1u.signed m3u.signed := by
 have f1 : fitsB 3 m1u.signed = true := by rw [fits_signed]; exact m1u_fits
 have f2 : fitsB 3 m3u.signed = true := by rw [fits_signed]; exact m3u_fits
 have r1 := Msg.signed_isright m1u_may
 have r2 := Msg.signed_isright m3u_may
 obtain ⟨a1, a2, a3, _⟩ := m1u.signed_parts
 obtain ⟨b1, b2, b3, _⟩ := m3u.signed_parts
 generalize m1u.signed = m1 at *
 generalize m3u.signed = m2 at *
 have o1 : orgI m1 = 0 := by unfold orgI; rw [a1]; rfl
 have o2 : orgI m2 = 0 := by unfold orgI; rw [b1]; rfl
 have n1 : m1.number = 1 := a2
 have n2 : m2.number = 2 := b2
 have s1 : ∀ i, strm [m1] i = if i = 0 then [m1] else [] := fun i => by
  unfold strm
  rw [List.filter_cons, o1, List.filter_nil]
  by_cases h : i = 0
  ·subst h; rfl
  ·rw [if_neg h, if_neg (by rw [decide_eq_false (fun e => h e.symm)]; decide)]
 refine ⟨?_, ?_, ?_, n1, n2, a1, b1⟩
 ·rw [chk_as f2 r2 o2 n2 b3 (k := 0) rfl]
  rw [if_neg (by decide), if_neg (by rintro ⟨_, h, _⟩; cases h), if_pos (.inl (by decide))]
 ·rw [chk_as f1 r1 o1 n1 a3 (k := 0) rfl]
  rw [if_neg (by decide), if_neg (by rintro ⟨_, h, _⟩; cases h), if_neg (by decide)]
 ·rw [chk_as f2 r2 o2 n2 b3 (k := 1) (by rw [s1]; rfl)]
  have hl : aboveB (lastD (strm [m1] 0)) m3u.deps = false := by
   refine zaw.2 fun i hi => ?_
   rw [s1]
   show m1.deps i ≤ vec1 i
   rw [a3]
   match i with
   | 0 => show (0 : Int) ≤ 1; decide
   | i + 1 => exact Int.le_refl 0
  have hk : aboveB m3u.deps (knownS (strm [m1])) = false := by
   refine zaw.2 fun i hi => ?_
   show vec1 i ≤ (((strm [m1] i).length : Nat) : Int)
   rw [s1]
   match i with
   | 0 => exact Int.le_refl 1
   | i + 1 => exact Int.le_refl 0
  rw [if_neg (by decide), if_neg (by rintro ⟨_, _, h⟩; rw [hl] at h; cases h), if_neg (by rw [hk]; decide)]
theorem bodD_ok : bodD.Ok := ⟨⟨by decide, by decide⟩, ⟨by decide, by decide⟩, reqz_ok⟩
theorem perm_one {a : List MV} {m : Msg} (h : (a.map MV.m).Perm [m]) : ∃ y, a = [y] ∧ y.m = m := by
 have h1 := List.perm_singleton.1 h
 match a, h1 with
 | [y], h1 => exact ⟨y, rfl, by simpa using h1⟩
section
variable (f : Frag) (F : List HP)
set_option maxHeartbeats 3200000 in
set_option maxRecDepth 20000 in
theorem works13_fn (htab : TabAt f) : Fn Tryz.prog 35 [] f F (Ret (.bool true) f F) := by
 have hex := ex13
 have gb : ∀ f, (⟨m1u.signed, none, 0⟩ : MV).Good f := fun f => good_signed ⟨QAt.nil f none, Nat.zero_le _, bodC_ok⟩
 have g2 : ∀ f, (⟨m3u.signed, none, 0⟩ : MV).Good f := fun f => good_signed ⟨QAt.nil f none, Nat.zero_le _, bodD_ok⟩
 have t1 := fun f G => rtagged_fn f G (m := m1u) (q := none) (qc := 0) (QAt.nil _ none) (Nat.zero_le _)
 have t2 := fun f G => rtagged_fn f G (m := m3u) (q := none) (qc := 0) (QAt.nil _ none) (Nat.zero_le _)
 generalize m1u.signed = m1 at *
 generalize m3u.signed = m2 at *
 obtain ⟨ha, hb, hc, n1, n2, o1, o2⟩ := hex
 have hne : keyM m2 ≠ keyM m1 := fun e => by
  have h1 : m2.number = m1.number := congrArg (·.2) e
  omega
 refine Fn.enter Tryz.func35 rfl Tryz.ntmps35 rfl (L := []) trivial fun base => ?_
 repeat (first | ((apply H.Ad); (iterate 3 exact rfl)) | (first | apply H.seq | apply H.Ab | apply H.nil | apply H.Aa))
 refine H.callE rfl rfl rfl (lnew_fn f F (n := 3) (by decide)) fun lb => ?_
 repeat (first | (refine H.By (t := 45) (out := bodC.vals none 0) rfl rfl rfl (by kernel_rfl) rfl ?_) | (refine H.By (t := 47) (out := m1u.vals none 0) rfl rfl rfl (by kernel_rfl) rfl ?_) | ((first | apply H.Ac | apply H.Ad); (iterate 3 exact rfl)) | (first | apply H.seq | apply H.Ab | apply H.nil | apply H.Aa) | ((apply H.cmp); (iterate 5 exact rfl)) | ((first | apply H.Ay | apply H.Cc); (iterate 4 exact rfl)) | ((apply H.Ce); (iterate 5 exact rfl)) | (apply H.Av; exact rfl) | (apply H.Ak))
 refine H.Am rfl rfl rfl (t1 f _) ?_
 refine H.Bg (ls := msgZ.vals none 0) rfl rfl rfl fun ob => ?_
 refine H.Bb (ls := msgZ.vals none 0) (vs := m1.vals none 0) (ls' := m1.vals none 0) rfl rfl rfl (zad rfl) rfl rfl (Nat.le_refl 121) (.here _ _ _) ?_
 repeat (first | (refine H.buildA (t := 37) (out := v11 vec1) rfl rfl rfl (by kernel_rfl) rfl ?_) | (refine H.By (t := 45) (out := bodD.vals none 0) rfl rfl rfl (by kernel_rfl) rfl ?_) | (refine H.By (t := 47) (out := m3u.vals none 0) rfl rfl rfl (by kernel_rfl) rfl ?_) | (first | apply H.seq | apply H.Ab | apply H.nil | apply H.Aa))
 refine H.Am rfl rfl rfl (t2 f _) ?_
 refine H.Bg (ls := msgZ.vals none 0) rfl rfl rfl fun o2b => ?_
 refine H.Bb (ls := msgZ.vals none 0) (vs := m2.vals none 0) (ls' := m2.vals none 0) rfl rfl rfl (zad rfl) rfl rfl (Nat.le_refl 121) (.here _ _ _) ?_
 repeat ((first | apply H.seq | apply H.Ab | apply H.nil | apply H.Aa))
 refine H.callE rfl rfl rfl (wnew_fn f _) fun wb => ?_
 repeat (first | ((first | apply H.Ac | apply H.Ad); (iterate 3 exact rfl)) | (first | apply H.seq | apply H.Ab | apply H.nil | apply H.Aa))
 refine H.Al (ls := m2.vals none 0) rfl rfl rfl (Rd.ofRow (.there _ (.here _ _ _))) rfl rfl ?_
 refine H.Ae (x := loreH _ _ _ _) (by repeat constructor) ?_
 refine H.Ae (x := waitH _ _ _) (by repeat constructor) ?_
 refine H.call rfl rfl rfl (wput_fn f _ htab (Le.refl f) (n := 3) (ws := []) (l := []) (x := ⟨m2, none, 0⟩) (g2 f) (by decide)) fun v f' A' hr => ?_
 obtain ⟨q1, z1, w1, hp1, _, hd1, rfl, rfl, rfl⟩ := hr
 rw [show chk 3 (strm (([] : List MV).map MV.m)) (⟨m2, none, 0⟩ : MV).m = 12 from ha] at hp1
 obtain ⟨hz1, hq1⟩ := put_room hp1 rfl (fun x hx => by cases hx) (by show 0 < 11; decide)
 subst hz1
 obtain ⟨y2, rfl, hy2⟩ := perm_one hq1
 have hy2 : y2.m = m2 := hy2
 clear hp1 hq1
 have le1 := Le.un f q1
 generalize un f q1 = f1 at le1 ⊢
 repeat (first | ((first | apply H.Ac | apply H.Ad); (iterate 3 exact rfl)) | (first | apply H.seq | apply H.Ab | apply H.nil | apply H.Aa))
 refine H.call rfl rfl rfl (wnext_fn f1 _ (tab_mono htab le1) (Le.refl f1)) fun v f' A' hr => ?_
 obtain ⟨r1, w1, hn1, _, _, rfl, hff, rfl⟩ := hr
 rw [hff]
 obtain ⟨hr1, hp2⟩ := next_no hn1 (fun x hx => by
  rw [List.mem_singleton.1 (show x ∈ [y2.m] from hx), hy2]; exact ha)
 obtain rfl : r1 = none := by cases r1 with | none => rfl | some y => cases hr1
 obtain ⟨y3, rfl, hy3⟩ := perm_one (show (w1.map MV.m).Perm [m2] by rw [← hy2]; exact hp2)
 repeat (first | ((apply H.Ac); (iterate 3 exact rfl)) | ((apply H.Cc); (iterate 4 exact rfl)))
 refine H.Bg (ls := msgZ.vals none 0) rfl rfl rfl fun nb => ?_
 refine H.Bb (ls := msgZ.vals none 0) (vs := msgZ.vals none 0) (ls' := msgZ.vals none 0) rfl rfl rfl (zad rfl) rfl rfl (Nat.le_refl 121) (.here _ _ _) ?_
 repeat (first | ((first | apply H.Ac | apply H.Ad); (iterate 3 exact rfl)) | (first | apply H.seq | apply H.Ab | apply H.nil | apply H.Aa))
 refine H.Al (ls := m1.vals none 0) rfl rfl rfl (Rd.ofRow (.there _ (.there _ (.there _ (.there _ (.here _ _ _)))))) rfl rfl ?_
 refine H.Ae (x := loreH _ _ _ _) (by repeat constructor) ?_
 refine H.Ae (x := waitH _ _ _) (by repeat constructor) ?_
 refine H.call rfl rfl rfl (wput_fn f1 _ (tab_mono htab le1) (Le.refl f1) (n := 3) (ws := [y3]) (l := []) (x := ⟨m1, none, 0⟩) (gb f1) (by show 1 < 100000; decide)) fun v f' A' hr => ?_
 obtain ⟨q2, z2, w2, hp3, _, hd2, rfl, rfl, rfl⟩ := hr
 rw [show chk 3 (strm (([] : List MV).map MV.m)) (⟨m1, none, 0⟩ : MV).m = 0 from hb] at hp3
 obtain ⟨hz2, hq2⟩ := put_room hp3 rfl (fun x hx => by
  rw [List.mem_singleton.1 (show x ∈ [y3.m] from hx), hy3]; exact hne) (Nat.lt_of_le_of_lt (cntO_le _ _) (by show 1 < 11; decide))
 subst hz2
 have hq2 : (w2.map MV.m).Perm [m2, m1] := by rw [← hy3]; exact hq2
 clear hp3
 have le2 := le1.trans (Le.un f1 q2)
 generalize un f1 q2 = f2 at le2 ⊢
 repeat (first | ((first | apply H.Ac | apply H.Ad); (iterate 3 exact rfl)) | (first | apply H.seq | apply H.Ab | apply H.nil | apply H.Aa))
 refine H.call rfl rfl rfl (wnext_fn f2 _ (tab_mono htab le2) (Le.refl f2)) fun v f' A' hr => ?_
 obtain ⟨r2, w3, hn2, hg2', _, rfl, hff, rfl⟩ := hr
 rw [hff]
 obtain ⟨hr2, hp4⟩ := next_yes hn2 (m := m1) (hq2.mem_iff.2 (by simp)) hb (fun x hx => by
  rcases List.mem_cons.1 (hq2.mem_iff.1 hx) with h | h
  ·right; rw [h]; exact ha
  ·left; simpa using h)
 obtain ⟨y4, rfl, hy4⟩ : ∃ y4, r2 = some y4 ∧ y4.m = m1 := by
  cases r2 with
  | none => cases hr2
  | some y => exact ⟨y, rfl, by simpa using hr2⟩
 have hg4 := (hg2' y4 rfl).2
 obtain ⟨y5, rfl, hy5⟩ := perm_one (show (w3.map MV.m).Perm [m2] from ((hp4.trans hq2).trans (List.Perm.swap m1 m2 [])).cons_inv)
 clear hg2' hr2 hp4 hn2
 repeat (first | ((apply H.Ac); (iterate 3 exact rfl)) | ((apply H.Cc); (iterate 4 exact rfl)))
 refine H.Bg (ls := msgZ.vals none 0) rfl rfl rfl fun xb => ?_
 refine H.Bb (ls := msgZ.vals none 0) (vs := y4.vals) (ls' := y4.vals) rfl rfl rfl (zad rfl) rfl rfl (Nat.le_refl 121) (.here _ _ _) ?_
 repeat (first | ((first | apply H.Ac | apply H.Ad); (iterate 3 exact rfl)) | (first | apply H.seq | apply H.Ab | apply H.nil | apply H.Aa))
 refine H.Al (ls := y4.vals) rfl rfl rfl (Rd.ofRow (.here _ _ _)) rfl rfl ?_
 refine H.Ae (x := loreH _ _ _ _) (by repeat constructor) ?_
 refine H.call (R := AddP f2 _ lb 3 [] y4.m) rfl rfl rfl (ladd_fn f2 _ (tab_mono htab le2) le2 hg4 (by decide)) fun v f' A' hr => ?_
 obtain ⟨g3, q3, c3, rfl, hd3, rfl, rfl⟩ := hr
 rw [show chk 3 (strm (([] : List MV).map MV.m)) y4.m = 0 by rw [hy4]; exact hb, if_pos rfl]
 have le3 := le2.trans (Le.un f2 g3)
 have up3 := Le.un f2 g3
 generalize un f2 g3 = f3 at le3 up3 ⊢
 repeat (first | ((apply H.Ac); (iterate 3 exact rfl)) | (first | apply H.seq | apply H.Ab | apply H.nil | apply H.Aa))
 refine H.Ae (x := loreH _ _ _ _) (by repeat constructor) ?_
 refine H.Ae (x := waitH _ _ _) (by repeat constructor) ?_
 refine H.call rfl rfl rfl (wnext_fn f3 _ (tab_mono htab le3) up3) fun v f' A' hr => ?_
 obtain ⟨r3, w4, hn3, _, _, rfl, hff, rfl⟩ := hr
 rw [hff]
 obtain ⟨hr3, hp5⟩ := next_yes hn3 (m := m2) (by rw [← hy5]; simp) (by show chk 3 (strm [y4.m]) m2 = 0; rw [hy4]; exact hc) (fun x hx => by
  left; rw [List.mem_singleton.1 (show x ∈ [y5.m] from hx), hy5])
 obtain ⟨y6, rfl, hy6⟩ : ∃ y6, r3 = some y6 ∧ y6.m = m2 := by
  cases r3 with
  | none => cases hr3
  | some y => exact ⟨y, rfl, by simpa using hr3⟩
 have hw4 : w4.length = 0 := by
  have h1 := hp5.length_eq
  simp at h1
  rw [h1]; rfl
 clear hr3 hp5 hn3
 have hn4 : y4.m.number = 1 := by rw [hy4]; exact n1
 have hn6 : y6.m.number = 2 := by rw [hy6]; exact n2
 repeat (first | ((apply H.Ac); (iterate 3 exact rfl)) | ((apply H.Cc); (iterate 4 exact rfl)))
 refine H.Bg (ls := msgZ.vals none 0) rfl rfl rfl fun yb => ?_
 refine H.Bb (ls := msgZ.vals none 0) (vs := y6.vals) (ls' := y6.vals) rfl rfl rfl (zad rfl) rfl rfl (Nat.le_refl 121) (.here _ _ _) ?_
 repeat (first | ((first | apply H.Ac | apply H.Ad); (iterate 3 exact rfl)) | (apply H.Ag; (iterate 3 exact rfl); exact inferInstance; exact rfl) | (apply H.Af; (iterate 3 exact rfl); apply Rd1.ofRow; (repeat (first | exact .here _ _ _ | apply At.there)); (iterate 2 exact rfl)) | (first | apply H.seq | apply H.Ab | apply H.nil | apply H.Aa) | ((apply H.cmp); (iterate 5 exact rfl)) | (apply H.Ax; (iterate 4 exact rfl)) | ((apply H.not); (iterate 4 exact rfl)) | (apply H.Bi; (iterate 3 exact rfl); (assumption)))
 refine H.Ae (x := waitH _ _ _) (by repeat constructor) ?_
 refine H.Am rfl rfl rfl (wlen_fn f3 _) ?_
 rw [hw4]
 repeat (first | ((apply H.Ad); (iterate 3 exact rfl)) | (first | apply H.nil | apply H.Aa) | ((apply H.cmp); (iterate 5 exact rfl)) | (apply H.Ax; (iterate 4 exact rfl)) | (apply H.ret))
 refine H.weakL le3 ?_
 iterate 7 refine H.Ah (.here _ _) ?_
 exact H.Aj rfl rfl (fun _ h => h) ⟨rfl, rfl, rfl⟩
end
theorem orgI_of {x y : Msg} (h : x.origin = y.origin) : orgI x = orgI y := by unfold orgI; rw [h]
/-! ### How much is known -/
theorem good_few {f : Frag} {x : MV} (h : x.Has f) (hl : x.m.body.q.length ≤ 20) : x.Good f := ⟨h.1, by omega, h.2⟩
section
variable (f : Frag) (F : List HP)
end
def bodS (v : Int) (p : Option Addr) (m c : Nat) : List Value := [.int .u8 4, .int .u64 v, .int .u64 0] ++ Req.zero.vals ++ [.slice p m c] ++ b32 noTag
theorem bodS_eq (v : Int) (q : List (Int × Int)) (p : Option Addr) (c : Nat) : ({ Bod.zero 4 with view := v, q := q } : Bod).vals p c = bodS v p q.length c := rfl
theorem bodS_set (v : Int) (p p' : Option Addr) (m m' c c' : Nat) : SetV (bodS v p m c) 43 (.slice p' m' c') (bodS v p' m' c') := by
 have e : bodS v p' m' c' = (bodS v p m c).set 43 (.slice p' m' c') := rfl
 rw [e]
 exact SetV.mk _ (show 43 < 76 by decide)
def bodV (k : UInt8) (v : Int) : Bod := ⟨k, v, 0, Req.zero, [], noTag⟩
theorem zat {a b r : Nat} (h : a % b = r) : ((a : Nat) : Int).tmod ((b : Nat) : Int) = (r : Nat) := by rw [← h, Int.ofNat_tmod]
def BodP (f : Frag) (F : List HP) (b : Bod) : Value → Frag → List HP → Prop := fun v f' A' =>
 ∃ (g : Frag) (p : Option Addr) (c : Nat), v = .agg (b.vals p c).toArray ∧ QAt (un f g) p b.q ∧ Dj f g ∧ f' = un f g ∧ A' = F
theorem top_more {n r : Nat} {x : A12} (h1 : 1 ≤ r) (h : r < x.top n) : r + 1 ≤ n ∧ r + 1 ≤ x.q.length := by
 unfold A12.top at h
 split at h
 ·omega
 ·split at h <;> omega
theorem top_end {n r : Nat} {x : A12} (hn : 1 ≤ n) (h : r = x.top n) : ¬ (r + 1 ≤ n ∧ r + 1 ≤ x.q.length) := by
 unfold A12.top at h
 split at h
 ·omega
 ·split at h <;> omega
theorem qTo_next (x : A12) {r : Nat} (h1 : 1 ≤ r) : x.qTo (r + 1) = x.qTo r ++ [(((r + 1 : Nat) : Int), 1 + (((x.q.getD r 0).toNat % 8 : Nat) : Int))] := by
 obtain ⟨k, rfl⟩ : ∃ k, r = k + 1 := ⟨r - 1, by omega⟩
 rfl
section
variable (f : Frag) (F : List HP)
theorem few12_fn {p : Option Addr} {c : Nat} {l : List A12} (hat : ListAt f p 8 A12.vals l) (hl : l.length ≤ 9223372036854775807) : Fn Tryz.prog 15 [.slice p l.length c] f F (Ret (.bool (few12 l)) f F) := by
 by_cases h30 : l.length ≤ 100
 ·refine Fn.enter Tryz.func15 rfl Tryz.ntmps15 rfl (L := [(0, _)]) ⟨rfl, trivial⟩ fun base => ?_
  repeat (first | ((first | apply H.Ac | apply H.Ad | apply H.Az); (iterate 3 exact rfl)) | (first | apply H.seq | apply H.Ab | apply H.nil | apply H.Aa) | ((apply H.cmp); (iterate 5 exact rfl)) | (first | apply H.Ak | apply H.Ao) | (apply H.Aw; exact rfl; (omega)))
  refine H.Bo (ι := Nat) (fun i => [(3, .int .i64 (i : Int)), (0, .slice p l.length c)]) (fun _ => f) (fun _ => F) (fun i => i ≤ l.length ∧ ∀ j x, j < i → l[j]? = some x → x.q.length ≤ 20) (fun i => l.length - i) 0 ⟨Nat.zero_le _, fun j x hj => by omega⟩ ⟨rfl, rfl, trivial⟩ rfl rfl fun i hi => ?_
  obtain ⟨hi, hb⟩ : i ≤ l.length ∧ ∀ j x, j < i → l[j]? = some x → x.q.length ≤ 20 := hi
  by_cases hlt : i < l.length
  ·have hx : l[i]? = some l[i] := List.getElem?_eq_getElem hlt
   generalize l[i] = x at hx
   obtain ⟨b, off, cs, T, fr, rfl, hfb, hcs⟩ := hat i x hx
   have rd : ∀ A, Rd f A b (off + i * 8) x.vals := fun A => Rd.imm hfb hcs
   by_cases hq : x.q.length ≤ 20
   ·repeat (first | ((first | apply H.Ac | apply H.Az); (iterate 3 exact rfl)) | (first | apply H.seq | apply H.Ab | apply H.nil | apply H.Aa) | ((apply H.cmp); (iterate 5 exact rfl)) | (first | apply H.Ak | apply H.Ao) | (apply H.Au; exact rfl; (omega)))
    refine H.Bs rfl rfl rfl rfl hlt rfl ?_
    repeat ((apply H.Ag; (iterate 3 exact rfl); exact inferInstance; exact rfl))
    refine H.Af rfl rfl rfl (Rd1.of (i := 7) (rd _) rfl) rfl ?_
    repeat (first | ((first | apply H.Ac | apply H.Ad | apply H.Az); (iterate 3 exact rfl)) | (first | apply H.Ab | apply H.nil | apply H.Aa) | ((apply H.cmp); (iterate 5 exact rfl)) | ((apply H.ar; (iterate 4 exact rfl)); (with_reducible apply zag; omega); exact rfl) | (first | apply H.Ak | apply H.Ba) | (apply H.Aw; exact rfl; (omega)))
    refine H.Bc (i + 1) ⟨by show i + 1 ≤ l.length; omega, fun j y hj hy => ?_⟩ (by show l.length - (i + 1) < l.length - i; omega) ⟨rfl, rfl, trivial⟩ rfl rfl
    by_cases e : j = i
    ·subst e; rw [hx] at hy; cases hy; exact hq
    ·exact hb j y (by omega) hy
   ·repeat (first | ((first | apply H.Ac | apply H.Az); (iterate 3 exact rfl)) | (first | apply H.seq | apply H.Ab | apply H.nil | apply H.Aa) | ((apply H.cmp); (iterate 5 exact rfl)) | (first | apply H.Ak | apply H.Ao) | (apply H.Au; exact rfl; (omega)))
    refine H.Bs rfl rfl rfl rfl hlt rfl ?_
    repeat ((apply H.Ag; (iterate 3 exact rfl); exact inferInstance; exact rfl))
    refine H.Af rfl rfl rfl (Rd1.of (i := 7) (rd _) rfl) rfl ?_
    repeat (first | ((first | apply H.Ad | apply H.Az); (iterate 3 exact rfl)) | (first | apply H.seq | apply H.Ab | apply H.nil | apply H.Aa) | ((apply H.cmp); (iterate 5 exact rfl)) | (first | apply H.ret | apply H.Be | apply H.Bx | apply H.Cd) | (apply H.Au; exact rfl; (omega)))
    refine H.Aj rfl rfl (fun _ h => h) ⟨?_, rfl, rfl⟩
    have : few12 l = false := by
     unfold few12
     rw [Bool.and_eq_false_iff]
     refine .inr (List.all_eq_false.2 ⟨x, List.mem_of_getElem? hx, by rw [decide_eq_false hq]; decide⟩)
    rw [this]
  ·repeat (first | ((first | apply H.Ac | apply H.Ad | apply H.Az); (iterate 3 exact rfl)) | (first | apply H.seq | apply H.Ab | apply H.nil | apply H.Aa) | ((apply H.cmp); (iterate 5 exact rfl)) | (first | apply H.ret | apply H.Bl | apply H.Bj | apply H.Bk | apply H.Bm) | (apply H.Aw; exact rfl; (omega)))
   refine H.Aj rfl rfl (fun _ h => h) ⟨?_, rfl, rfl⟩
   have : few12 l = true := by
    unfold few12
    rw [decide_eq_true h30, Bool.true_and, List.all_eq_true]
    intro x hx
    obtain ⟨j, hj⟩ := List.getElem?_of_mem hx
    have hjl : j < l.length := by
     rcases Nat.lt_or_ge j l.length with h1 | h1
     ·exact h1
     ·rw [List.getElem?_eq_none h1] at hj; cases hj
    exact decide_eq_true (hb j x (by omega) hj)
   rw [this]
 ·refine Fn.enter Tryz.func15 rfl Tryz.ntmps15 rfl (L := [(0, _)]) ⟨rfl, trivial⟩ fun base => ?_
  repeat (first | ((first | apply H.Ac | apply H.Ad | apply H.Az); (iterate 3 exact rfl)) | (first | apply H.seq | apply H.Ab | apply H.nil | apply H.Aa) | ((apply H.cmp); (iterate 5 exact rfl)) | (first | apply H.ret | apply H.Be) | (apply H.Au; exact rfl; (omega)))
  refine H.Aj rfl rfl (fun _ h => h) ⟨?_, rfl, rfl⟩
  have : few12 l = false := by unfold few12; rw [decide_eq_false h30]; rfl
  rw [this]
set_option maxHeartbeats 1600000 in
theorem abody_fn {n : Nat} (hn : 1 ≤ n ∧ n ≤ 11) {x : A12} (hx : x.Has f) (hl : x.q.length ≤ 20) :
  Fn Tryz.prog 53 [.agg x.vals.toArray, .int .i64 (n : Int)] f F (BodP f F (x.bod n)) := by
 have hk := x.k.toNat_lt
 have hvm : ((x.view.toNat % 6 : Nat) : Int) ≤ 5 := by omega
 have hkm : ((x.k.toNat % 6 : Nat) : Int) ≤ 5 := by omega
 have hcm : ((x.client.toNat % 3 : Nat) : Int) ≤ 2 := by omega
 have hcases : x.kind.toNat % 6 = 0 ∨ x.kind.toNat % 6 = 1 ∨ x.kind.toNat % 6 = 2 ∨ x.kind.toNat % 6 = 3 ∨ x.kind.toNat % 6 = 4 ∨ x.kind.toNat % 6 = 5 := by omega
 unfold A12.bod
 rcases hcases with h | h | h | h | h | h
 ·have hk6 : ((x.kind.toNat : Nat) : Int).tmod 6 = 0 := zat (b := 6) h
  rw [h]
  show Fn _ _ _ f F (BodP f F (⟨1, 1 + ((x.view.toNat % 6 : Nat) : Int), 0, x.req.signed, [], noTag⟩ : Bod))
  refine Fn.enter Tryz.func53 rfl Tryz.ntmps53 rfl (L := [(0, _), (1, _)]) ⟨rfl, rfl, trivial⟩ fun base => ?_
  repeat ((first | apply H.seq | apply H.Ab))
  refine H.box (ls := x.vals) rfl rfl rfl rfl fun xb => ?_
  refine H.Bg (ls := (Bod.zero 0).vals none 0) rfl rfl rfl fun ob => ?_
  repeat (first | (apply H.Ag; (iterate 3 exact rfl); exact inferInstance; exact rfl) | (apply H.Af; (iterate 3 exact rfl); apply Rd1.ofRow; (repeat (first | exact .here _ _ _ | apply At.there)); (iterate 2 exact rfl)) | (first | apply H.seq | apply H.Ab | apply H.nil | apply H.Aa))
  refine H.rem rfl rfl rfl (by decide) hk6 rfl ?_
  repeat (first | (apply H.Ag; (iterate 3 exact rfl); exact inferInstance; exact rfl) | (apply H.Af; (iterate 3 exact rfl); apply Rd1.ofRow; (repeat (first | exact .here _ _ _ | apply At.there)); (iterate 2 exact rfl)) | ((apply H.ar; (iterate 4 exact rfl)); (with_reducible apply wr_u8; omega); exact rfl))
  refine H.rem (z := ((x.view.toNat % 6 : Nat) : Int)) rfl rfl rfl (by decide) (by rw [Int.ofNat_tmod]; rfl) rfl ?_
  repeat (first | (refine H.By (t := 45) (out := (bodV 1 (1 + ((x.view.toNat % 6 : Nat) : Int))).vals none 0) rfl rfl rfl (by kernel_rfl) rfl ?_) | ((first | (apply H.ar; (iterate 4 exact rfl)) | (apply H.Bp; (iterate 2 exact rfl))); (with_reducible apply wr_u64; omega); exact rfl))
  refine H.Bg (ls := (Bod.zero 0).vals none 0) rfl rfl rfl fun bb => ?_
  refine H.Bb (ls := (Bod.zero 0).vals none 0) (vs := (bodV 1 (1 + ((x.view.toNat % 6 : Nat) : Int))).vals none 0) (ls' := (bodV 1 (1 + ((x.view.toNat % 6 : Nat) : Int))).vals none 0) rfl rfl rfl (zad rfl) rfl rfl (Nat.le_refl 76) (.here _ _ _) ?_
  have hsg := fun G => rsigned_fn f G x.req
  generalize x.req.signed = r at hsg ⊢
  repeat (first | ((apply H.Ad); (iterate 3 exact rfl)) | (apply H.Ag; (iterate 3 exact rfl); exact inferInstance; exact rfl) | (apply H.Af; (iterate 3 exact rfl); apply Rd1.ofRow; (repeat (first | exact .here _ _ _ | apply At.there)); (iterate 2 exact rfl)) | (first | apply H.seq | apply H.Ab | apply H.nil | apply H.Aa) | ((apply H.cmp); (iterate 5 exact rfl)) | (apply H.Bh; exact rfl) | (apply H.Ao))
  refine H.rem (z := ((x.client.toNat % 3 : Nat) : Int)) rfl rfl rfl (by decide) (zat (b := 3) rfl) rfl ?_
  repeat (first | (refine H.By (t := 42) (out := x.req.vals) rfl rfl rfl (by kernel_rfl) rfl ?_) | (apply H.Ag; (iterate 3 exact rfl); exact inferInstance; exact rfl) | (apply H.Af; (iterate 3 exact rfl); apply Rd1.ofRow; (repeat (first | exact .here _ _ _ | apply At.there)); (iterate 2 exact rfl)) | ((first | apply H.cmp | apply H.By); (iterate 5 exact rfl)) | ((first | (apply H.ar; (iterate 4 exact rfl)) | (apply H.Bp; (iterate 2 exact rfl))); (first | (with_reducible apply wr_i64; omega) | (with_reducible apply wr_u64; omega)); exact rfl))
  refine H.Am rfl rfl rfl (hsg _) ?_
  repeat ((apply H.Ag; (iterate 3 exact rfl); exact inferInstance; exact rfl))
  refine H.Bb (ls := (bodV 1 (1 + ((x.view.toNat % 6 : Nat) : Int))).vals none 0) (vs := r.vals) (ls' := (⟨1, 1 + ((x.view.toNat % 6 : Nat) : Int), 0, r, [], noTag⟩ : Bod).vals none 0) rfl rfl rfl (zad rfl) rfl rfl (show 3 + 40 ≤ 76 by decide) (.here _ _ _) ?_
  repeat (first | (first | apply H.seq | apply H.Ab | apply H.nil | apply H.Aa) | (apply H.Ba))
  refine H.Al (ls := (⟨1, 1 + ((x.view.toNat % 6 : Nat) : Int), 0, r, [], noTag⟩ : Bod).vals none 0) rfl rfl rfl (Rd.ofRow (by repeat constructor)) rfl rfl ?_
  refine H.Bb (ls := (Bod.zero 0).vals none 0) (vs := (⟨1, 1 + ((x.view.toNat % 6 : Nat) : Int), 0, r, [], noTag⟩ : Bod).vals none 0) (ls' := (⟨1, 1 + ((x.view.toNat % 6 : Nat) : Int), 0, r, [], noTag⟩ : Bod).vals none 0) rfl rfl rfl (zad rfl) rfl rfl (Nat.le_refl 76) (by repeat constructor) ?_
  repeat (first | (first | apply H.nil | apply H.Aa) | (apply H.ret))
  refine H.Ah (x := row bb _ _) (by repeat constructor) ?_
  refine H.Ah (x := row xb _ _) (by repeat constructor) ?_
  refine H.Ae (x := row ob _ _) (by repeat constructor) ?_
  exact H.Ca (ls := (⟨1, 1 + ((x.view.toNat % 6 : Nat) : Int), 0, r, [], noTag⟩ : Bod).vals none 0) rfl rfl rfl (Rd.ofRow (.here _ _ _)) rfl (fun _ s => s.drop (.here _ _)) ⟨nil0, none, 0, rfl, QAt.nil _ _, Dj.nil _, (un_nil _).symm, rfl⟩
 ·have hk6 : ((x.kind.toNat : Nat) : Int).tmod 6 = 1 := zat (b := 6) h
  rw [h]
  show Fn _ _ _ f F (BodP f F (⟨2, 1 + ((x.view.toNat % 6 : Nat) : Int), 1 + ((x.k.toNat % 6 : Nat) : Int), Req.zero, [], noTag⟩ : Bod))
  refine Fn.enter Tryz.func53 rfl Tryz.ntmps53 rfl (L := [(0, _), (1, _)]) ⟨rfl, rfl, trivial⟩ fun base => ?_
  repeat ((first | apply H.seq | apply H.Ab))
  refine H.box (ls := x.vals) rfl rfl rfl rfl fun xb => ?_
  refine H.Bg (ls := (Bod.zero 0).vals none 0) rfl rfl rfl fun ob => ?_
  repeat (first | (apply H.Ag; (iterate 3 exact rfl); exact inferInstance; exact rfl) | (apply H.Af; (iterate 3 exact rfl); apply Rd1.ofRow; (repeat (first | exact .here _ _ _ | apply At.there)); (iterate 2 exact rfl)) | (first | apply H.seq | apply H.Ab | apply H.nil | apply H.Aa))
  refine H.rem rfl rfl rfl (by decide) hk6 rfl ?_
  repeat (first | (apply H.Ag; (iterate 3 exact rfl); exact inferInstance; exact rfl) | (apply H.Af; (iterate 3 exact rfl); apply Rd1.ofRow; (repeat (first | exact .here _ _ _ | apply At.there)); (iterate 2 exact rfl)) | ((apply H.ar; (iterate 4 exact rfl)); (with_reducible apply wr_u8; omega); exact rfl))
  refine H.rem (z := ((x.view.toNat % 6 : Nat) : Int)) rfl rfl rfl (by decide) (by rw [Int.ofNat_tmod]; rfl) rfl ?_
  repeat (first | (refine H.By (t := 45) (out := (bodV 2 (1 + ((x.view.toNat % 6 : Nat) : Int))).vals none 0) rfl rfl rfl (by kernel_rfl) rfl ?_) | ((first | (apply H.ar; (iterate 4 exact rfl)) | (apply H.Bp; (iterate 2 exact rfl))); (with_reducible apply wr_u64; omega); exact rfl))
  refine H.Bg (ls := (Bod.zero 0).vals none 0) rfl rfl rfl fun bb => ?_
  refine H.Bb (ls := (Bod.zero 0).vals none 0) (vs := (bodV 2 (1 + ((x.view.toNat % 6 : Nat) : Int))).vals none 0) (ls' := (bodV 2 (1 + ((x.view.toNat % 6 : Nat) : Int))).vals none 0) rfl rfl rfl (zad rfl) rfl rfl (Nat.le_refl 76) (.here _ _ _) ?_
  repeat (first | ((apply H.Ad); (iterate 3 exact rfl)) | (apply H.Ag; (iterate 3 exact rfl); exact inferInstance; exact rfl) | (apply H.Af; (iterate 3 exact rfl); apply Rd1.ofRow; (repeat (first | exact .here _ _ _ | apply At.there)); (iterate 2 exact rfl)) | (first | apply H.seq | apply H.Ab | apply H.nil | apply H.Aa) | ((apply H.cmp); (iterate 5 exact rfl)) | (apply H.Bh; exact rfl) | (apply H.Av; exact rfl) | (apply H.Ao))
  refine H.rem (z := ((x.k.toNat % 6 : Nat) : Int)) rfl rfl rfl (by decide) (zat (b := 6) rfl) rfl ?_
  repeat (first | (apply H.Ag; (iterate 3 exact rfl); exact inferInstance; exact rfl) | (first | apply H.seq | apply H.Ab | apply H.nil | apply H.Aa) | ((first | (apply H.ar; (iterate 4 exact rfl)) | (apply H.Bp; (iterate 2 exact rfl))); (with_reducible apply wr_u64; omega); exact rfl) | (apply H.Bq; (iterate 4 exact rfl); (repeat (exact .here _ _ _)); (repeat (first | exact .here _ _ _ | apply SetV.there))) | (apply H.Ba))
  refine H.Al (ls := (⟨2, 1 + ((x.view.toNat % 6 : Nat) : Int), 1 + ((x.k.toNat % 6 : Nat) : Int), Req.zero, [], noTag⟩ : Bod).vals none 0) rfl rfl rfl (Rd.ofRow (by repeat constructor)) rfl rfl ?_
  refine H.Bb (ls := (Bod.zero 0).vals none 0) (vs := (⟨2, 1 + ((x.view.toNat % 6 : Nat) : Int), 1 + ((x.k.toNat % 6 : Nat) : Int), Req.zero, [], noTag⟩ : Bod).vals none 0) (ls' := (⟨2, 1 + ((x.view.toNat % 6 : Nat) : Int), 1 + ((x.k.toNat % 6 : Nat) : Int), Req.zero, [], noTag⟩ : Bod).vals none 0) rfl rfl rfl (zad rfl) rfl rfl (Nat.le_refl 76) (by repeat constructor) ?_
  repeat (first | (first | apply H.nil | apply H.Aa) | (apply H.ret))
  refine H.Ah (x := row bb _ _) (by repeat constructor) ?_
  refine H.Ah (x := row xb _ _) (by repeat constructor) ?_
  refine H.Ae (x := row ob _ _) (by repeat constructor) ?_
  exact H.Ca (ls := (⟨2, 1 + ((x.view.toNat % 6 : Nat) : Int), 1 + ((x.k.toNat % 6 : Nat) : Int), Req.zero, [], noTag⟩ : Bod).vals none 0) rfl rfl rfl (Rd.ofRow (.here _ _ _)) rfl (fun _ s => s.drop (.here _ _)) ⟨nil0, none, 0, rfl, QAt.nil _ _, Dj.nil _, (un_nil _).symm, rfl⟩
 ·have hk6 : ((x.kind.toNat : Nat) : Int).tmod 6 = 2 := zat (b := 6) h
  rw [h]
  show Fn _ _ _ f F (BodP f F (bodV 3 (1 + ((x.view.toNat % 6 : Nat) : Int))))
  refine Fn.enter Tryz.func53 rfl Tryz.ntmps53 rfl (L := [(0, _), (1, _)]) ⟨rfl, rfl, trivial⟩ fun base => ?_
  repeat ((first | apply H.seq | apply H.Ab))
  refine H.box (ls := x.vals) rfl rfl rfl rfl fun xb => ?_
  refine H.Bg (ls := (Bod.zero 0).vals none 0) rfl rfl rfl fun ob => ?_
  repeat (first | (apply H.Ag; (iterate 3 exact rfl); exact inferInstance; exact rfl) | (apply H.Af; (iterate 3 exact rfl); apply Rd1.ofRow; (repeat (first | exact .here _ _ _ | apply At.there)); (iterate 2 exact rfl)) | (first | apply H.seq | apply H.Ab | apply H.nil | apply H.Aa))
  refine H.rem rfl rfl rfl (by decide) hk6 rfl ?_
  repeat (first | (apply H.Ag; (iterate 3 exact rfl); exact inferInstance; exact rfl) | (apply H.Af; (iterate 3 exact rfl); apply Rd1.ofRow; (repeat (first | exact .here _ _ _ | apply At.there)); (iterate 2 exact rfl)) | ((apply H.ar; (iterate 4 exact rfl)); (with_reducible apply wr_u8; omega); exact rfl))
  refine H.rem (z := ((x.view.toNat % 6 : Nat) : Int)) rfl rfl rfl (by decide) (by rw [Int.ofNat_tmod]; rfl) rfl ?_
  repeat (first | (refine H.By (t := 45) (out := (bodV 3 (1 + ((x.view.toNat % 6 : Nat) : Int))).vals none 0) rfl rfl rfl (by kernel_rfl) rfl ?_) | ((first | (apply H.ar; (iterate 4 exact rfl)) | (apply H.Bp; (iterate 2 exact rfl))); (with_reducible apply wr_u64; omega); exact rfl))
  refine H.Bg (ls := (Bod.zero 0).vals none 0) rfl rfl rfl fun bb => ?_
  refine H.Bb (ls := (Bod.zero 0).vals none 0) (vs := (bodV 3 (1 + ((x.view.toNat % 6 : Nat) : Int))).vals none 0) (ls' := (bodV 3 (1 + ((x.view.toNat % 6 : Nat) : Int))).vals none 0) rfl rfl rfl (zad rfl) rfl rfl (Nat.le_refl 76) (.here _ _ _) ?_
  repeat (first | ((apply H.Ad); (iterate 3 exact rfl)) | (apply H.Ag; (iterate 3 exact rfl); exact inferInstance; exact rfl) | (apply H.Af; (iterate 3 exact rfl); apply Rd1.ofRow; (repeat (exact .here _ _ _)); (iterate 2 exact rfl)) | (first | apply H.seq | apply H.Ab | apply H.nil | apply H.Aa) | ((apply H.cmp); (iterate 5 exact rfl)) | (apply H.Av; exact rfl) | (first | apply H.Ak | apply H.Ao | apply H.Ba))
  refine H.Al (ls := (bodV 3 (1 + ((x.view.toNat % 6 : Nat) : Int))).vals none 0) rfl rfl rfl (Rd.ofRow (by repeat constructor)) rfl rfl ?_
  refine H.Bb (ls := (Bod.zero 0).vals none 0) (vs := (bodV 3 (1 + ((x.view.toNat % 6 : Nat) : Int))).vals none 0) (ls' := (bodV 3 (1 + ((x.view.toNat % 6 : Nat) : Int))).vals none 0) rfl rfl rfl (zad rfl) rfl rfl (Nat.le_refl 76) (by repeat constructor) ?_
  repeat (first | (first | apply H.nil | apply H.Aa) | (apply H.ret))
  refine H.Ah (x := row bb _ _) (by repeat constructor) ?_
  refine H.Ah (x := row xb _ _) (by repeat constructor) ?_
  refine H.Ae (x := row ob _ _) (by repeat constructor) ?_
  exact H.Ca (ls := (bodV 3 (1 + ((x.view.toNat % 6 : Nat) : Int))).vals none 0) rfl rfl rfl (Rd.ofRow (.here _ _ _)) rfl (fun _ s => s.drop (.here _ _)) ⟨nil0, none, 0, rfl, QAt.nil _ _, Dj.nil _, (un_nil _).symm, rfl⟩
 ·have hk6 : ((x.kind.toNat : Nat) : Int).tmod 6 = 3 := zat (b := 6) h
  rw [h]
  show Fn _ _ _ f F (BodP f F (⟨4, 1 + ((x.view.toNat % 6 : Nat) : Int), 0, Req.zero, x.qTo (x.top n), noTag⟩ : Bod))
  refine Fn.enter Tryz.func53 rfl Tryz.ntmps53 rfl (L := [(0, _), (1, _)]) ⟨rfl, rfl, trivial⟩ fun base => ?_
  repeat ((first | apply H.seq | apply H.Ab))
  refine H.box (ls := x.vals) rfl rfl rfl rfl fun xb => ?_
  refine H.Bg (ls := (Bod.zero 0).vals none 0) rfl rfl rfl fun ob => ?_
  repeat (first | (apply H.Ag; (iterate 3 exact rfl); exact inferInstance; exact rfl) | (apply H.Af; (iterate 3 exact rfl); apply Rd1.ofRow; (repeat (first | exact .here _ _ _ | apply At.there)); (iterate 2 exact rfl)) | (first | apply H.seq | apply H.Ab | apply H.nil | apply H.Aa))
  refine H.rem rfl rfl rfl (by decide) hk6 rfl ?_
  repeat (first | (apply H.Ag; (iterate 3 exact rfl); exact inferInstance; exact rfl) | (apply H.Af; (iterate 3 exact rfl); apply Rd1.ofRow; (repeat (first | exact .here _ _ _ | apply At.there)); (iterate 2 exact rfl)) | ((apply H.ar; (iterate 4 exact rfl)); (with_reducible apply wr_u8; omega); exact rfl))
  refine H.rem (z := ((x.view.toNat % 6 : Nat) : Int)) rfl rfl rfl (by decide) (by rw [Int.ofNat_tmod]; rfl) rfl ?_
  repeat (first | (refine H.By (t := 45) (out := (bodV 4 (1 + ((x.view.toNat % 6 : Nat) : Int))).vals none 0) rfl rfl rfl (by kernel_rfl) rfl ?_) | ((first | (apply H.ar; (iterate 4 exact rfl)) | (apply H.Bp; (iterate 2 exact rfl))); (with_reducible apply wr_u64; omega); exact rfl))
  refine H.Bg (ls := (Bod.zero 0).vals none 0) rfl rfl rfl fun bb => ?_
  refine H.Bb (ls := (Bod.zero 0).vals none 0) (vs := (bodV 4 (1 + ((x.view.toNat % 6 : Nat) : Int))).vals none 0) (ls' := (bodV 4 (1 + ((x.view.toNat % 6 : Nat) : Int))).vals none 0) rfl rfl rfl (zad rfl) rfl rfl (Nat.le_refl 76) (.here _ _ _) ?_
  repeat (first | ((apply H.Ad); (iterate 3 exact rfl)) | (apply H.Ag; (iterate 3 exact rfl); exact inferInstance; exact rfl) | (apply H.Af; (iterate 3 exact rfl); apply Rd1.ofRow; (repeat (first | exact .here _ _ _ | apply At.there)); (iterate 2 exact rfl)) | (first | apply H.seq | apply H.Ab | apply H.nil | apply H.Aa) | ((apply H.cmp); (iterate 5 exact rfl)) | (apply H.Bh; exact rfl) | (apply H.Av; exact rfl) | (apply H.Ao))
  refine H.rem (z := ((x.k.toNat % 6 : Nat) : Int)) rfl rfl rfl (by decide) (zat (b := 6) rfl) rfl ?_
  repeat (first | (refine H.By (t := 61) (out := pairV (1, 1 + ((x.k.toNat % 6 : Nat) : Int))) rfl rfl rfl (by kernel_rfl) rfl ?_) | ((first | (apply H.ar; (iterate 4 exact rfl)) | (apply H.Bp; (iterate 2 exact rfl))); (with_reducible apply wr_u64; omega); exact rfl))
  refine H.Bw (out := pairV (1, 1 + ((x.k.toNat % 6 : Nat) : Int))) rfl rfl rfl rfl (by decide) (by decide) rfl rfl fun eb => ?_
  refine H.asSlc (k := 1) (sz := 2) rfl (by decide) ?_
  repeat (first | (refine H.Bq (ls := bodS (1 + ((x.view.toNat % 6 : Nat) : Int)) none 0 0) (ls' := bodS (1 + ((x.view.toNat % 6 : Nat) : Int)) (some ⟨eb, 0, none⟩) 1 1) rfl rfl rfl rfl (.there _ (.here _ _ _)) (bodS_set _ _ _ _ _ _ _) ?_) | ((apply H.Ad); (iterate 3 exact rfl)) | (apply H.Ag; (iterate 3 exact rfl); exact inferInstance; exact rfl) | (first | apply H.seq | apply H.Ab | apply H.nil | apply H.Aa) | (apply H.Ao))
  have htl := x.top_le (n := n) hn.1
  refine H.Bo (ι := Nat × Option Addr × Nat) (fun s => [(6, .int .i64 ((s.1 + 1 : Nat) : Int)), (1, .int .i64 (n : Int)), (2, .pointer (some ⟨xb, 0, none⟩)), (5, .pointer (some ⟨bb, 0, none⟩)), (4, .pointer (some ⟨ob, 0, none⟩))]) (fun _ => f)
   (fun s => slc s.2.1 s.1 s.2.2 61 2 ((x.qTo s.1).flatMap pairV) :: row bb 45 (bodS (1 + ((x.view.toNat % 6 : Nat) : Int)) s.2.1 s.1 s.2.2) :: row ob 45 ((Bod.zero 0).vals none 0) :: row xb 113 x.vals :: F)
   (fun s => 1 ≤ s.1 ∧ s.1 ≤ x.top n) (fun s => x.top n - s.1) (1, some ⟨eb, 0, none⟩, 1) ⟨Nat.le_refl 1, htl.1⟩ ⟨rfl, rfl, rfl, rfl, rfl, trivial⟩ rfl rfl fun s hs => ?_
  obtain ⟨r, p, c⟩ := s
  obtain ⟨hr1, hrt⟩ : 1 ≤ r ∧ r ≤ x.top n := hs
  show H _ _ _ [(6, .int .i64 ((r + 1 : Nat) : Int)), _, _, _, _] f (slc p r c _ 2 ((x.qTo r).flatMap pairV) :: row bb _ (bodS (1 + ((x.view.toNat % 6 : Nat) : Int)) p r c) :: _ :: _ :: F) _
  by_cases hlt : r < x.top n
  ·obtain ⟨hrn, hrl⟩ := top_more hr1 hlt
   rcases hx with hx | ⟨b, off, cs, T, fr, hqp, hfb, hcs⟩
   ·rw [hx] at hrl; exact absurd hrl (by simp)
   ·have hrd : ∀ A, Rd f A b off (bytesV x.q) := fun A => Rd.imm hfb fun i hi => by rw [zaf] at hi; exact hcs i hi
    have hby : (bytesV x.q)[r]? = some (.int .u8 ((x.q.getD r 0).toNat : Nat)) := by
     unfold bytesV
     rw [List.getElem?_map, List.getElem?_eq_getElem (by omega), List.getD_eq_getElem?_getD, List.getElem?_eq_getElem (by omega)]
     rfl
    have hnx := qTo_next x hr1
    have hpv : (x.qTo (r + 1)).flatMap pairV = (x.qTo r).flatMap pairV ++ pairV (((r + 1 : Nat) : Int), 1 + (((x.q.getD r 0).toNat % 8 : Nat) : Int)) := by
     rw [hnx, List.flatMap_append]
     rfl
    have hbm : (((x.q.getD r 0).toNat % 8 : Nat) : Int) ≤ 7 := by omega
    generalize x.q.getD r 0 = qr at *
    have hxv : x.vals = [.int .u8 (x.who.toNat : Nat), .int .u8 (x.other.toNat : Nat), .bool x.meet, .int .u8 (x.kind.toNat : Nat), .int .u8 (x.view.toNat : Nat), .int .u8 (x.k.toNat : Nat), .int .u8 (x.client.toNat : Nat), .slice (some ⟨b, off, none⟩) x.q.length x.qc] := by unfold A12.vals; rw [hqp]
    rw [hxv]
    repeat (first | ((first | apply H.Ac | apply H.Az); (iterate 3 exact rfl)) | (apply H.Ag; (iterate 3 exact rfl); exact inferInstance; exact rfl) | (apply H.Af; (iterate 3 exact rfl); apply Rd1.ofRow; (repeat (first | exact .here _ _ _ | apply At.there)); (iterate 2 exact rfl)) | (first | apply H.seq | apply H.Ab | apply H.nil | apply H.Aa) | ((apply H.cmp); (iterate 5 exact rfl)) | (apply H.Ax; (iterate 4 exact rfl)) | (first | apply H.Ak | apply H.Ao) | (apply H.Bi; (iterate 3 exact rfl); (omega)) | (apply H.Au; exact rfl; (omega)))
    refine H.Ae (x := row xb _ _) (by repeat constructor) ?_
    refine H.Ae (x := row bb _ _) (by repeat constructor) ?_
    refine H.Ch [0, 1, 2, 3, 4, 5, 6, 7, 8, 9, 10, 11, 12, 13, 14] (by kernel_rfl) (by decide +kernel) (by repeat (first | exact zab | refine zaa ?_ | refine zac ?_ | refine zae ?_)) (S := [_, _]) rfl ?_
    refine HB.Aq [(0, false), (1, false), (2, false), (3, false), (4, false), (5, false), (6, false), (7, false), (8, false), (9, false), (10, false), (11, false), (12, false)] 4 (by kernel_rfl) ?_
    repeat (first | ((apply HQ.Ac); (iterate 3 exact rfl)) | (apply HQ.Ag; (iterate 3 exact rfl); exact inferInstance; exact rfl) | (apply HQ.Af; (iterate 3 exact rfl); apply Rd1.ofRow; (repeat (first | exact .here _ _ _ | apply At.there)); (iterate 2 exact rfl)) | ((apply HQ.ar; (iterate 4 exact rfl)); (with_reducible apply wr_i64_s1; omega); exact rfl))
    refine HQ.Cj (i := r) rfl rfl rfl (by omega) (by omega) rfl ?_
    refine HQ.Af rfl rfl rfl (Rd1.of (hrd _) hby) rfl ?_
    refine HQ.rem (z := ((qr.toNat % 8 : Nat) : Int)) rfl rfl rfl (by decide) (zat (b := 8) rfl) rfl ?_
    repeat (first | (refine HQ.By (t := 61) (out := pairV (((r + 1 : Nat) : Int), 1 + ((qr.toNat % 8 : Nat) : Int))) rfl rfl rfl rfl rfl ?_) | ((first | (apply HQ.ar; (iterate 4 exact rfl)) | (apply HQ.Bp; (iterate 2 exact rfl))); (with_reducible apply wr_u64; omega); exact rfl))
    refine HQ.Ap rfl ?_
    refine HB.ev1 (i := 13) (by kernel_rfl) rfl ?_
    refine H.Bw (out := pairV (((r + 1 : Nat) : Int), 1 + ((qr.toNat % 8 : Nat) : Int))) rfl rfl rfl rfl (by decide) (by decide) rfl rfl fun e2 => ?_
    repeat ((apply H.nil))
    refine H.Ae (x := row xb _ _) (by repeat constructor) ?_
    refine H.Ae (x := row bb _ _) (by repeat constructor) ?_
    refine H.on0 rfl ?_
    refine HB.ev1 (i := 14) (by kernel_rfl) rfl ?_
    refine H.Bv (p := p) (n0 := r) (c := c) (xs := (x.qTo r).flatMap pairV) (m := 1) (news := pairV (((r + 1 : Nat) : Int), 1 + ((qr.toNat % 8 : Nat) : Int))) rfl rfl rfl rfl rfl (fun p' c' => (by repeat constructor)) (Src.slice (Rd.ofRow (by repeat constructor)) rfl) (zad rfl) rfl (by omega) (by omega) fun p2 c2 => ?_
    repeat ((apply H.nil))
    refine H.Ah (x := row e2 _ _) (by repeat constructor) ?_
    refine H.on0 rfl ?_
    refine HB.next [] (by kernel_rfl) (S' := []) rfl ?_
    refine HB.Aq [(15, false)] 1 (by kernel_rfl) ?_
    repeat ((apply HQ.Ag; (iterate 3 exact rfl); exact inferInstance; exact rfl))
    refine HQ.Ap rfl ?_
    refine HB.ev1 (i := 16) (by kernel_rfl) rfl ?_
    refine H.Bq (ls := bodS (1 + ((x.view.toNat % 6 : Nat) : Int)) p r c) (ls' := bodS (1 + ((x.view.toNat % 6 : Nat) : Int)) p2 (r + 1) c2) rfl rfl rfl rfl (.here _ _ _) (bodS_set _ _ _ _ _ _ _) ?_
    repeat ((apply H.nil))
    refine H.on0 rfl ?_
    refine HB.Bf (by kernel_rfl) ?_
    repeat (first | ((first | apply H.Ac | apply H.Ad); (iterate 3 exact rfl)) | (first | apply H.Ab | apply H.nil | apply H.Aa) | ((apply H.ar; (iterate 4 exact rfl)); (with_reducible apply zag; omega); exact rfl) | (apply H.Ba))
    rw [← hxv]
    refine H.Ae (x := row ob _ _) (by repeat constructor) ?_
    refine H.Ae (x := row bb _ _) (by repeat constructor) ?_
    refine H.Ae (x := slc p2 _ c2 _ _ _) (by repeat constructor) ?_
    refine H.Bc (r + 1, p2, c2) ⟨by show 1 ≤ r + 1; omega, hlt⟩ (by show x.top n - (r + 1) < x.top n - r; omega) ⟨rfl, rfl, rfl, rfl, rfl, trivial⟩ rfl ?_
    show slc p2 (r + 1) c2 _ 2 ((x.qTo r).flatMap pairV ++ pairV _) :: _ = slc p2 (r + 1) c2 _ 2 ((x.qTo (r + 1)).flatMap pairV) :: _
    rw [hpv]
  ·have hrt : r = x.top n := by omega
   have hte := top_end hn.1 hrt
   have hval : bodS (1 + ((x.view.toNat % 6 : Nat) : Int)) p r c = (⟨4, (1 + ((x.view.toNat % 6 : Nat) : Int)), 0, Req.zero, x.qTo (x.top n), noTag⟩ : Bod).vals p c := by
    rw [hrt]
    have := bodS_eq (1 + ((x.view.toNat % 6 : Nat) : Int)) (x.qTo (x.top n)) p c
    rw [x.qTo_len] at this
    exact this.symm
   rw [hval]
   by_cases hn2 : r + 1 ≤ n
   ·have hq2 : ¬ (r + 1 ≤ x.q.length) := fun e => hte ⟨hn2, e⟩
    repeat (first | ((first | apply H.Ac | apply H.Az); (iterate 3 exact rfl)) | (apply H.Ag; (iterate 3 exact rfl); exact inferInstance; exact rfl) | (apply H.Af; (iterate 3 exact rfl); apply Rd1.ofRow; (repeat (first | exact .here _ _ _ | apply At.there)); (iterate 2 exact rfl)) | (first | apply H.seq | apply H.Ab | apply H.nil | apply H.Aa) | ((apply H.cmp); (iterate 5 exact rfl)) | (apply H.Ax; (iterate 4 exact rfl)) | (first | apply H.Bl | apply H.Bj | apply H.Ba | apply H.Bk | apply H.Bm) | (apply H.Bi; (iterate 3 exact rfl); (omega)) | (apply H.Aw; exact rfl; (omega)))
    refine H.Al (ls := (⟨4, (1 + ((x.view.toNat % 6 : Nat) : Int)), 0, Req.zero, x.qTo (x.top n), noTag⟩ : Bod).vals p c) rfl rfl rfl (Rd.ofRow (by repeat constructor)) rfl rfl ?_
    refine H.Bb (ls := (Bod.zero 0).vals none 0) (vs := (⟨4, (1 + ((x.view.toNat % 6 : Nat) : Int)), 0, Req.zero, x.qTo (x.top n), noTag⟩ : Bod).vals p c) (ls' := (⟨4, (1 + ((x.view.toNat % 6 : Nat) : Int)), 0, Req.zero, x.qTo (x.top n), noTag⟩ : Bod).vals p c) rfl rfl rfl (zad rfl) rfl rfl (Nat.le_refl 76) (by repeat constructor) ?_
    repeat (first | (first | apply H.nil | apply H.Aa) | (apply H.ret))
    refine H.Ah (x := row bb _ _) (by repeat constructor) ?_
    refine H.Ah (x := row xb _ _) (by repeat constructor) ?_
    refine H.freeze (x := slc p _ c _ _ _) (by repeat constructor) fun g hg hd => ?_
    have hg' : qs p c (x.qTo (x.top n)) g := by unfold qs; rw [x.qTo_len, ← hrt]; exact hg
    refine H.Ca (ls := (⟨4, (1 + ((x.view.toNat % 6 : Nat) : Int)), 0, Req.zero, x.qTo (x.top n), noTag⟩ : Bod).vals p c) rfl rfl rfl (Rd.ofRow (.here _ _ _)) rfl (fun _ s => s.drop (.here _ _)) ⟨g, p, c, rfl, qs_qat hg' hd, hd, rfl, rfl⟩
   ·skip
    repeat (first | ((first | apply H.Ac | apply H.Az); (iterate 3 exact rfl)) | (first | apply H.seq | apply H.Ab | apply H.nil | apply H.Aa) | ((apply H.cmp); (iterate 5 exact rfl)) | (apply H.Bd; (iterate 2 exact rfl)) | ((apply H.Ay); (iterate 4 exact rfl)) | (apply H.Av; exact rfl) | (first | apply H.Bl | apply H.Bj | apply H.Ba | apply H.Bk | apply H.Bm) | (apply H.gno; (iterate 3 exact rfl); (omega)))
    refine H.Al (ls := (⟨4, (1 + ((x.view.toNat % 6 : Nat) : Int)), 0, Req.zero, x.qTo (x.top n), noTag⟩ : Bod).vals p c) rfl rfl rfl (Rd.ofRow (by repeat constructor)) rfl rfl ?_
    refine H.Bb (ls := (Bod.zero 0).vals none 0) (vs := (⟨4, (1 + ((x.view.toNat % 6 : Nat) : Int)), 0, Req.zero, x.qTo (x.top n), noTag⟩ : Bod).vals p c) (ls' := (⟨4, (1 + ((x.view.toNat % 6 : Nat) : Int)), 0, Req.zero, x.qTo (x.top n), noTag⟩ : Bod).vals p c) rfl rfl rfl (zad rfl) rfl rfl (Nat.le_refl 76) (by repeat constructor) ?_
    repeat (first | (first | apply H.nil | apply H.Aa) | (apply H.ret))
    refine H.Ah (x := row bb _ _) (by repeat constructor) ?_
    refine H.Ah (x := row xb _ _) (by repeat constructor) ?_
    refine H.freeze (x := slc p _ c _ _ _) (by repeat constructor) fun g hg hd => ?_
    have hg' : qs p c (x.qTo (x.top n)) g := by unfold qs; rw [x.qTo_len, ← hrt]; exact hg
    refine H.Ca (ls := (⟨4, (1 + ((x.view.toNat % 6 : Nat) : Int)), 0, Req.zero, x.qTo (x.top n), noTag⟩ : Bod).vals p c) rfl rfl rfl (Rd.ofRow (.here _ _ _)) rfl (fun _ s => s.drop (.here _ _)) ⟨g, p, c, rfl, qs_qat hg' hd, hd, rfl, rfl⟩
 ·have hk6 : ((x.kind.toNat : Nat) : Int).tmod 6 = 4 := zat (b := 6) h
  rw [h]
  show Fn _ _ _ f F (BodP f F (bodV 5 (1 + ((x.view.toNat % 6 : Nat) : Int))))
  refine Fn.enter Tryz.func53 rfl Tryz.ntmps53 rfl (L := [(0, _), (1, _)]) ⟨rfl, rfl, trivial⟩ fun base => ?_
  repeat ((first | apply H.seq | apply H.Ab))
  refine H.box (ls := x.vals) rfl rfl rfl rfl fun xb => ?_
  refine H.Bg (ls := (Bod.zero 0).vals none 0) rfl rfl rfl fun ob => ?_
  repeat (first | (apply H.Ag; (iterate 3 exact rfl); exact inferInstance; exact rfl) | (apply H.Af; (iterate 3 exact rfl); apply Rd1.ofRow; (repeat (first | exact .here _ _ _ | apply At.there)); (iterate 2 exact rfl)) | (first | apply H.seq | apply H.Ab | apply H.nil | apply H.Aa))
  refine H.rem rfl rfl rfl (by decide) hk6 rfl ?_
  repeat (first | (apply H.Ag; (iterate 3 exact rfl); exact inferInstance; exact rfl) | (apply H.Af; (iterate 3 exact rfl); apply Rd1.ofRow; (repeat (first | exact .here _ _ _ | apply At.there)); (iterate 2 exact rfl)) | ((apply H.ar; (iterate 4 exact rfl)); (with_reducible apply wr_u8; omega); exact rfl))
  refine H.rem (z := ((x.view.toNat % 6 : Nat) : Int)) rfl rfl rfl (by decide) (by rw [Int.ofNat_tmod]; rfl) rfl ?_
  repeat (first | (refine H.By (t := 45) (out := (bodV 5 (1 + ((x.view.toNat % 6 : Nat) : Int))).vals none 0) rfl rfl rfl (by kernel_rfl) rfl ?_) | ((first | (apply H.ar; (iterate 4 exact rfl)) | (apply H.Bp; (iterate 2 exact rfl))); (with_reducible apply wr_u64; omega); exact rfl))
  refine H.Bg (ls := (Bod.zero 0).vals none 0) rfl rfl rfl fun bb => ?_
  refine H.Bb (ls := (Bod.zero 0).vals none 0) (vs := (bodV 5 (1 + ((x.view.toNat % 6 : Nat) : Int))).vals none 0) (ls' := (bodV 5 (1 + ((x.view.toNat % 6 : Nat) : Int))).vals none 0) rfl rfl rfl (zad rfl) rfl rfl (Nat.le_refl 76) (.here _ _ _) ?_
  repeat (first | ((apply H.Ad); (iterate 3 exact rfl)) | (apply H.Ag; (iterate 3 exact rfl); exact inferInstance; exact rfl) | (apply H.Af; (iterate 3 exact rfl); apply Rd1.ofRow; (repeat (exact .here _ _ _)); (iterate 2 exact rfl)) | (first | apply H.seq | apply H.Ab | apply H.nil | apply H.Aa) | ((apply H.cmp); (iterate 5 exact rfl)) | (apply H.Av; exact rfl) | (first | apply H.Ak | apply H.Ao | apply H.Ba))
  refine H.Al (ls := (bodV 5 (1 + ((x.view.toNat % 6 : Nat) : Int))).vals none 0) rfl rfl rfl (Rd.ofRow (by repeat constructor)) rfl rfl ?_
  refine H.Bb (ls := (Bod.zero 0).vals none 0) (vs := (bodV 5 (1 + ((x.view.toNat % 6 : Nat) : Int))).vals none 0) (ls' := (bodV 5 (1 + ((x.view.toNat % 6 : Nat) : Int))).vals none 0) rfl rfl rfl (zad rfl) rfl rfl (Nat.le_refl 76) (by repeat constructor) ?_
  repeat (first | (first | apply H.nil | apply H.Aa) | (apply H.ret))
  refine H.Ah (x := row bb _ _) (by repeat constructor) ?_
  refine H.Ah (x := row xb _ _) (by repeat constructor) ?_
  refine H.Ae (x := row ob _ _) (by repeat constructor) ?_
  exact H.Ca (ls := (bodV 5 (1 + ((x.view.toNat % 6 : Nat) : Int))).vals none 0) rfl rfl rfl (Rd.ofRow (.here _ _ _)) rfl (fun _ s => s.drop (.here _ _)) ⟨nil0, none, 0, rfl, QAt.nil _ _, Dj.nil _, (un_nil _).symm, rfl⟩
 ·have hk6 : ((x.kind.toNat : Nat) : Int).tmod 6 = 5 := zat (b := 6) h
  rw [h]
  show Fn _ _ _ f F (BodP f F (⟨6, 0, 1 + ((x.k.toNat : Nat) : Int), Req.zero, [], dig0 x.client⟩ : Bod))
  refine Fn.enter Tryz.func53 rfl Tryz.ntmps53 rfl (L := [(0, _), (1, _)]) ⟨rfl, rfl, trivial⟩ fun base => ?_
  repeat ((first | apply H.seq | apply H.Ab))
  refine H.box (ls := x.vals) rfl rfl rfl rfl fun xb => ?_
  refine H.Bg (ls := (Bod.zero 0).vals none 0) rfl rfl rfl fun ob => ?_
  repeat (first | (apply H.Ag; (iterate 3 exact rfl); exact inferInstance; exact rfl) | (apply H.Af; (iterate 3 exact rfl); apply Rd1.ofRow; (repeat (first | exact .here _ _ _ | apply At.there)); (iterate 2 exact rfl)) | (first | apply H.seq | apply H.Ab | apply H.nil | apply H.Aa))
  refine H.rem rfl rfl rfl (by decide) hk6 rfl ?_
  repeat (first | (apply H.Ag; (iterate 3 exact rfl); exact inferInstance; exact rfl) | (apply H.Af; (iterate 3 exact rfl); apply Rd1.ofRow; (repeat (first | exact .here _ _ _ | apply At.there)); (iterate 2 exact rfl)) | ((apply H.ar; (iterate 4 exact rfl)); (with_reducible apply wr_u8; omega); exact rfl))
  refine H.rem (z := ((x.view.toNat % 6 : Nat) : Int)) rfl rfl rfl (by decide) (by rw [Int.ofNat_tmod]; rfl) rfl ?_
  repeat (first | (refine H.By (t := 45) (out := (bodV 6 (1 + ((x.view.toNat % 6 : Nat) : Int))).vals none 0) rfl rfl rfl (by kernel_rfl) rfl ?_) | ((first | (apply H.ar; (iterate 4 exact rfl)) | (apply H.Bp; (iterate 2 exact rfl))); (with_reducible apply wr_u64; omega); exact rfl))
  refine H.Bg (ls := (Bod.zero 0).vals none 0) rfl rfl rfl fun bb => ?_
  refine H.Bb (ls := (Bod.zero 0).vals none 0) (vs := (bodV 6 (1 + ((x.view.toNat % 6 : Nat) : Int))).vals none 0) (ls' := (bodV 6 (1 + ((x.view.toNat % 6 : Nat) : Int))).vals none 0) rfl rfl rfl (zad rfl) rfl rfl (Nat.le_refl 76) (.here _ _ _) ?_
  repeat (first | ((apply H.Ad); (iterate 3 exact rfl)) | (apply H.Ag; (iterate 3 exact rfl); exact inferInstance; exact rfl) | (apply H.Af; (iterate 3 exact rfl); apply Rd1.ofRow; (repeat (first | exact .here _ _ _ | apply At.there)); (iterate 2 exact rfl)) | (first | apply H.seq | apply H.Ab | apply H.nil | apply H.Aa) | ((apply H.cmp); (iterate 5 exact rfl)) | ((first | (apply H.ar; (iterate 4 exact rfl)) | (apply H.Bp; (iterate 2 exact rfl))); (with_reducible apply wr_u64; omega); exact rfl) | (apply H.Bq; (iterate 4 exact rfl); (repeat (exact .here _ _ _)); (repeat (first | exact .here _ _ _ | apply SetV.there))) | (apply H.Bh; exact rfl) | (apply H.Av; exact rfl) | (apply H.Ao))
  refine H.Br (i := 0) rfl rfl rfl rfl (by decide) rfl ?_
  repeat (first | (first | apply H.seq | apply H.Ab | apply H.nil | apply H.Aa) | (apply H.Bq; (iterate 4 exact rfl); (repeat (exact .here _ _ _)); (repeat (first | exact .here _ _ _ | apply SetV.there))) | (apply H.Ba))
  refine H.Al (ls := (⟨6, 0, 1 + ((x.k.toNat : Nat) : Int), Req.zero, [], dig0 x.client⟩ : Bod).vals none 0) rfl rfl rfl (Rd.ofRow (by repeat constructor)) rfl rfl ?_
  refine H.Bb (ls := (Bod.zero 0).vals none 0) (vs := (⟨6, 0, 1 + ((x.k.toNat : Nat) : Int), Req.zero, [], dig0 x.client⟩ : Bod).vals none 0) (ls' := (⟨6, 0, 1 + ((x.k.toNat : Nat) : Int), Req.zero, [], dig0 x.client⟩ : Bod).vals none 0) rfl rfl rfl (zad rfl) rfl rfl (Nat.le_refl 76) (by repeat constructor) ?_
  repeat (first | (first | apply H.nil | apply H.Aa) | (apply H.ret))
  refine H.Ah (x := row bb _ _) (by repeat constructor) ?_
  refine H.Ah (x := row xb _ _) (by repeat constructor) ?_
  refine H.Ae (x := row ob _ _) (by repeat constructor) ?_
  exact H.Ca (ls := (⟨6, 0, 1 + ((x.k.toNat : Nat) : Int), Req.zero, [], dig0 x.client⟩ : Bod).vals none 0) rfl rfl rfl (Rd.ofRow (.here _ _ _)) rfl (fun _ s => s.drop (.here _ _)) ⟨nil0, none, 0, rfl, QAt.nil _ _, Dj.nil _, (un_nil _).symm, rfl⟩
end
def worldC (kb n : Nat) (ap : Option Addr) (m ac : Nat) : List Value := [.slice (some ⟨kb, 0, none⟩) n n, .slice ap m ac]
structure WAt (f : Frag) (n : Nat) (W : W12) (kb : Nat) (ap : Option Addr) (l : List MV) : Prop where
 k : KAt f kb n W.kv
 a : ListAt f ap 121 MV.vals l
 g : ∀ x ∈ l, x.Good f
 m : l.map MV.m = W.all
def ActsP (f : Frag) (F : List HP) (n : Nat) (W : W12) : Value → Frag → List HP → Prop := fun v f' A' =>
 ∃ (g : Frag) (wb kb : Nat) (ap : Option Addr) (ac : Nat) (l : List MV), v = .pointer (some ⟨wb, 0, none⟩) ∧ Dj f g ∧ f' = un f g ∧ A' = row wb 34 (worldC kb n ap l.length ac) :: F ∧ WAt f' n W kb ap l
def raised (kv : Nat → Nat → Int) (o j i : Nat) : Nat → Nat → Int := updF kv o fun t => if t < i then maxV (kv o) (kv j) t else kv o t
theorem raised_zero (kv : Nat → Nat → Int) (o j : Nat) : raised kv o j 0 = kv := by
 unfold raised
 have : (fun t => if t < 0 then maxV (kv o) (kv j) t else kv o t) = kv o := by funext t; rw [if_neg (by omega)]
 rw [this, updF_self]
theorem raised_o (kv : Nat → Nat → Int) (o j i : Nat) : raised kv o j i o i = kv o i := by
 unfold raised
 rw [zaj]
 show (if i < i then _ else _) = _
 rw [if_neg (by omega)]
theorem raised_j (kv : Nat → Nat → Int) (o j i : Nat) : raised kv o j i j i = kv j i := by
 by_cases e : j = o
 ·subst e; exact raised_o kv j j i
 ·unfold raised; rw [zan _ _ e]
theorem raised_next (kv : Nat → Nat → Int) (o j i : Nat) : updF (raised kv o j i) o (updF (raised kv o j i o) i (maxV (kv o) (kv j) i)) = raised kv o j (i + 1) := by
 unfold raised
 rw [zaj, updF_updF]
 congr 1
 funext t
 show (if t = i then _ else if t < i then _ else _) = if t < i + 1 then _ else _
 by_cases e : t = i
 ·subst e; rw [if_pos rfl, if_pos (by omega)]
 ·rw [if_neg e]
  by_cases h : t < i
  ·rw [if_pos h, if_pos (by omega)]
  ·rw [if_neg h, if_neg (by omega)]
theorem raised_end {n o j : Nat} (W : W12) : kRow n (raised W.kv o j 11) = kRow n (W.meet o j).kv := kRow_congr fun r _ i hi => by
 show raised W.kv o j 11 r i = updF W.kv o (maxV (W.kv o) (W.kv j)) r i
 unfold raised
 by_cases e : r = o
 ·subst e; rw [zaj, zaj, if_pos hi]
 ·rw [zan _ _ e, zan _ _ e]
theorem A12.Has.mono {f g : Frag} (h : Le f g) {x : A12} (hx : x.Has f) : x.Has g := by
 rcases hx with e | ⟨b, off, cs, T, fr, h1, h2, h3⟩
 ·exact .inl e
 ·exact .inr ⟨b, off, cs, T, fr, h1, h _ _ h2, h3⟩
def A12.zero : A12 := ⟨0, 0, false, 0, 0, 0, 0, [], none, 0⟩
section
variable (f : Frag) (F : List HP)
set_option maxRecDepth 20000 in
set_option maxHeartbeats 3200000 in
theorem acts_fn {n8 : UInt8} {n : Nat} (hn8 : n = 3 + 2 * (n8.toNat % 5)) {p : Option Addr} {c : Nat} {xs : List A12} (hat : ListAt f p 8 A12.vals xs) (hh : ∀ x ∈ xs, x.Has f ∧ x.q.length ≤ 20) (hl : xs.length ≤ 100) :
  Fn Tryz.prog 17 [.int .u8 (n8.toNat : Nat), .slice p xs.length c] f F (ActsP f F n (worldOf n xs)) := by
 have hn3 : 3 ≤ n ∧ n ≤ 11 := by omega
 have hodd := fun G => rodd_fn f G n8
 rw [← hn8] at hodd
 have hn0 : ((n : Nat) : Int) ≠ 0 := by omega
 refine Fn.enter Tryz.func17 rfl Tryz.ntmps17 rfl (L := [(0, _), (1, _)]) ⟨rfl, rfl, trivial⟩ fun base => ?_
 repeat (first | ((first | apply H.Ac | apply H.Ad); (iterate 3 exact rfl)) | (first | apply H.seq | apply H.Ab | apply H.nil | apply H.Aa))
 refine H.Am rfl rfl rfl (hodd _) ?_
 refine H.makeS (m := n) (zs := v11 fun _ => 0) rfl rfl rfl rfl rfl rfl rfl (by decide) (by omega) (by omega) rfl fun kb => ?_
 rw [kRow_zero]
 repeat ((refine H.By (t := 34) (out := worldC kb n none 0 0) rfl rfl rfl (by kernel_rfl) rfl ?_))
 refine H.box (ls := worldC kb n none 0 0) rfl rfl rfl rfl fun wb => ?_
 repeat (first | ((apply H.Ad); (iterate 3 exact rfl)) | (first | apply H.seq | apply H.Ab | apply H.nil | apply H.Aa) | (apply H.Ao))
 refine H.slc0 47 121 ?_
 refine H.Ae (x := row kb _ _) (by repeat constructor) ?_
 refine H.Ae (x := row wb _ _) (by repeat constructor) ?_
 refine H.Bo (ι := Nat × Frag × List MV × Option Addr × Nat) (fun s => [(6, .int .i64 (s.1 : Int)), (1, .slice p xs.length c), (5, .pointer (some ⟨wb, 0, none⟩))]) (fun s => un f s.2.1)
  (fun s => row wb 34 (worldC kb n s.2.2.2.1 s.2.2.1.length s.2.2.2.2) :: row kb 37 (kRow n (worldOf n (xs.take s.1)).kv) :: slc s.2.2.2.1 s.2.2.1.length s.2.2.2.2 47 121 (s.2.2.1.flatMap MV.vals) :: F)
  (fun s => s.1 ≤ xs.length ∧ s.2.2.1.map MV.m = (worldOf n (xs.take s.1)).all ∧ (∀ y ∈ s.2.2.1, y.Good (un f s.2.1)) ∧ Dj f s.2.1) (fun s => xs.length - s.1)
  (0, nil0, [], none, 0) ⟨Nat.zero_le _, rfl, (fun y hy => by cases hy), Dj.nil f⟩ ⟨rfl, rfl, rfl, trivial⟩ (un_nil f).symm rfl fun s hs => ?_
 obtain ⟨k, G, l, ap, ac⟩ := s
 obtain ⟨hk, hm, hg, hdj⟩ : k ≤ xs.length ∧ l.map MV.m = (worldOf n (xs.take k)).all ∧ (∀ y ∈ l, y.Good (un f G)) ∧ Dj f G := hs
 show H _ _ _ [(6, .int .i64 (k : Int)), _, _] (un f G) (row wb _ (worldC kb n ap l.length ac) :: row kb _ (kRow n (worldOf n (xs.take k)).kv) :: slc ap l.length ac _ 121 (l.flatMap MV.vals) :: F) _
 have hinv := worldOf_inv (n := n) (by omega) hn3.2 xs k
 have hwl := worldOf_len n xs k
 have hll : l.length ≤ 100 := by
  have := congrArg List.length hm
  rw [List.length_map] at this
  omega
 by_cases hlt : k < xs.length
 ·obtain ⟨x, hx⟩ : ∃ x, xs[k]? = some x := ⟨_, List.getElem?_eq_getElem hlt⟩
  have hnext : worldOf n (xs.take (k + 1)) = (worldOf n (xs.take k)).act n x := by rw [take_snoc hx, worldOf_snoc]
  obtain ⟨hxa, hxq⟩ := hh x (List.mem_of_getElem? hx)
  obtain ⟨b, off, cs, T, fr, rfl, hfb, hcs⟩ := hat k x hx
  have rd : ∀ A, Rd (un f G) A b (off + k * 8) x.vals := fun A => Rd.imm (Le.un f G b _ hfb) hcs
  clear hcs hfb
  generalize hW : worldOf n (xs.take k) = W at *
  have ho : x.who.toNat % n < n := Nat.mod_lt _ (by omega)
  have hkv := hinv.kv_le ho
  have hrem := zat (a := x.who.toNat) (b := n) rfl
  have hwho := x.who.toNat_lt
  have hoth := x.other.toNat_lt
  have hj : x.other.toNat % n < n := Nat.mod_lt _ (by omega)
  repeat (first | ((first | apply H.Ac | apply H.Az); (iterate 3 exact rfl)) | (first | apply H.seq | apply H.Ab | apply H.nil | apply H.Aa) | ((apply H.cmp); (iterate 5 exact rfl)) | (first | apply H.Ak | apply H.Ao) | (apply H.Au; exact rfl; (omega)))
  refine H.Bs (i := k) rfl rfl rfl rfl hlt rfl ?_
  refine H.Al (ls := x.vals) rfl rfl rfl (rd _) rfl rfl ?_
  refine H.Bg (ls := A12.zero.vals) rfl rfl rfl fun xb => ?_
  refine H.Bb (ls := A12.zero.vals) (vs := x.vals) (ls' := x.vals) rfl rfl rfl (zad rfl) rfl rfl (Nat.le_refl 8) (.here _ _ _) ?_
  repeat ((first | apply H.seq | apply H.nil | apply H.Aa))
  refine H.Bz (by kernel_rfl) (by decide +kernel) (by repeat (first | exact zab | refine zaa ?_ | refine zac ?_ | refine zae ?_)) ?_
  repeat (first | (refine HQ.rem (z := ((x.who.toNat % n : Nat) : Int)) rfl rfl rfl hn0 hrem rfl ?_) | ((first | apply HQ.Ac | apply HQ.Ad | apply HQ.Ar | apply HQ.Az); (iterate 3 exact rfl)) | (apply HQ.Ag; (iterate 3 exact rfl); exact inferInstance; exact rfl) | (apply HQ.Af; (iterate 3 exact rfl); apply Rd1.ofRow; (repeat (first | exact .here _ _ _ | apply At.there)); (iterate 2 exact rfl)) | ((apply HQ.Bu); exact rfl) | ((apply HQ.Bp; (iterate 2 exact rfl)); (with_reducible apply wr_i64; omega); exact rfl))
  repeat (first | (apply H.Ag; (iterate 3 exact rfl); exact inferInstance; exact rfl) | (apply H.Af; (iterate 3 exact rfl); apply Rd1.ofRow; (repeat (exact .here _ _ _)); (iterate 2 exact rfl)) | (first | apply H.seq | apply H.Ab | apply H.nil | apply H.Aa))
  cases hmt : x.meet with
  | true =>
   unfold W12.act at hnext
   rw [if_pos hmt] at hnext
   repeat (first | (apply H.seq) | (apply H.Bh; exact rfl))
   generalize hoe : x.who.toNat % n = o at *
   refine H.Bz (by kernel_rfl) (by decide +kernel) (by repeat (first | exact zab | refine zaa ?_ | refine zac ?_ | refine zae ?_)) ?_
   repeat (first | (refine HQ.rem (z := ((x.other.toNat % n : Nat) : Int)) rfl rfl rfl hn0 (zat (a := x.other.toNat) (b := n) rfl) rfl ?_) | ((first | apply HQ.Ac | apply HQ.Ad | apply HQ.Ar | apply HQ.Az); (iterate 3 exact rfl)) | (apply HQ.Ag; (iterate 3 exact rfl); exact inferInstance; exact rfl) | (apply HQ.Af; (iterate 3 exact rfl); apply Rd1.ofRow; (repeat (first | exact .here _ _ _ | apply At.there)); (iterate 2 exact rfl)) | ((apply HQ.Bu); exact rfl) | ((apply HQ.Bp; (iterate 2 exact rfl)); (with_reducible apply wr_i64; omega); exact rfl))
   repeat (first | ((apply H.Ad); (iterate 3 exact rfl)) | (first | apply H.seq | apply H.Ab | apply H.nil | apply H.Aa) | (apply H.Ao))
   generalize hje : x.other.toNat % n = j at *
   refine H.Ae (x := row kb _ _) (by repeat constructor) ?_
   refine H.Ae (x := row wb _ _) (by repeat constructor) ?_
   refine H.Bo (ι := Nat) (fun i => [(10, .int .i64 (i : Int)), (8, .int .i64 (o : Int)), (9, .int .i64 (j : Int)), (5, .pointer (some ⟨wb, 0, none⟩)), (6, .int .i64 (k : Int)), (1, .slice (some ⟨b, off, none⟩) xs.length c)]) (fun _ => un f G)
    (fun i => row wb 34 (worldC kb n ap l.length ac) :: row kb 37 (kRow n (raised W.kv o j i)) :: row xb 113 x.vals :: slc ap l.length ac 47 121 (l.flatMap MV.vals) :: F)
    (fun i => i ≤ 11) (fun i => 11 - i) 0 (Nat.zero_le _) ⟨rfl, rfl, rfl, rfl, rfl, rfl, trivial⟩ rfl (by rw [raised_zero]) fun i hi => ?_
   have hi : i ≤ 11 := hi
   by_cases hi11 : i < 11
   ·have hro := raised_o W.kv o j i
    have hrj := raised_j W.kv o j i
    have hrn := raised_next W.kv o j i
    have hg1 := kRow_get (kv := raised W.kv o j i) ho hi11
    have hg2 := kRow_get (kv := raised W.kv o j i) hj hi11
    rw [hro] at hg1
    rw [hrj] at hg2
    have hset := kRow_set (kv := raised W.kv o j i) (maxV (W.kv o) (W.kv j) i) ho hi11
    rw [hrn] at hset
    repeat (first | ((apply H.Ac); (iterate 3 exact rfl)) | (first | apply H.seq | apply H.Ab | apply H.nil | apply H.Aa) | ((apply H.cmp); (iterate 5 exact rfl)) | (first | apply H.Ak | apply H.Ao) | (apply H.Au; exact rfl; (omega)))
    refine H.Ch [0, 1, 2, 3, 4, 5, 6, 7, 8, 9, 10, 11, 12, 13, 14, 15, 16, 17, 18, 19, 20, 21, 22, 23, 24, 25, 26] (by kernel_rfl) (by decide +kernel) (by repeat (first | exact zab | refine zaa ?_ | refine zac ?_ | refine zae ?_)) (S := [_, _]) rfl ?_
    refine HB.Aq [(0, false), (1, false), (2, false), (3, false), (4, false), (5, false), (6, false), (7, false), (8, false), (9, false), (10, false), (11, false), (12, false), (13, false), (14, false), (15, false), (16, false), (17, false), (18, false), (19, false), (20, false), (21, false), (22, false), (23, false), (24, false), (25, false), (26, false)] 1 (by kernel_rfl) ?_
    repeat (first | ((first | apply HQ.Ac | apply HQ.Ar); (iterate 3 exact rfl)) | (apply HQ.Ag; (iterate 3 exact rfl); exact inferInstance; exact rfl) | (apply HQ.Af; (iterate 3 exact rfl); apply Rd1.ofRow; (repeat (exact .here _ _ _)); (iterate 2 exact rfl)))
    refine HQ.Bs (i := o) rfl rfl rfl rfl ho rfl ?_
    refine HQ.Br (i := i) rfl rfl rfl rfl hi11 rfl ?_
    refine HQ.Af rfl rfl rfl (.at0 (Rd.ofRow (.there _ (.here _ _ _))) (by rw [Nat.zero_add, Nat.mul_one]; exact hg1)) rfl ?_
    repeat (first | ((first | apply HQ.Ac | apply HQ.Ar); (iterate 3 exact rfl)) | (apply HQ.Ag; (iterate 3 exact rfl); exact inferInstance; exact rfl) | (apply HQ.Af; (iterate 3 exact rfl); apply Rd1.ofRow; (repeat (exact .here _ _ _)); (iterate 2 exact rfl)))
    refine HQ.Bs (i := j) rfl rfl rfl rfl hj rfl ?_
    refine HQ.Br (i := i) rfl rfl rfl rfl hi11 rfl ?_
    refine HQ.Af rfl rfl rfl (.at0 (Rd.ofRow (.there _ (.here _ _ _))) (by rw [Nat.zero_add, Nat.mul_one]; exact hg2)) rfl ?_
    refine HQ.max2 (z := maxV (W.kv o) (W.kv j) i) rfl rfl rfl rfl rfl ?_
    refine HQ.Bs (i := o) rfl rfl rfl rfl ho rfl ?_
    refine HQ.Br (i := i) rfl rfl rfl rfl hi11 rfl ?_
    refine HQ.Ap rfl ?_
    refine HB.next [] (by kernel_rfl) (S' := []) rfl ?_
    refine HB.ev1 (i := 27) (by kernel_rfl) rfl ?_
    refine H.Bq (v := .int .u64 (maxV (W.kv o) (W.kv j) i)) (ls := kRow n (raised W.kv o j i)) (ls' := kRow n (raised W.kv o j (i + 1))) rfl rfl rfl rfl (.there _ (.here _ _ _)) (by rw [Nat.zero_add, Nat.mul_one]; exact hset) ?_
    repeat ((apply H.nil))
    refine H.on0 rfl ?_
    refine HB.Bf (by kernel_rfl) ?_
    repeat (first | ((first | apply H.Ac | apply H.Ad); (iterate 3 exact rfl)) | (first | apply H.Ab | apply H.nil | apply H.Aa) | ((apply H.ar; (iterate 4 exact rfl)); (with_reducible apply zag; omega); exact rfl) | (apply H.Ba))
    refine H.Bc (i + 1) (by show i + 1 ≤ 11; omega) (by show 11 - (i + 1) < 11 - i; omega) ⟨rfl, rfl, rfl, rfl, rfl, rfl, trivial⟩ rfl rfl
   ·have e : i = 11 := by omega
    subst e
    rw [raised_end]
    repeat (first | ((first | apply H.Ac | apply H.Ad); (iterate 3 exact rfl)) | (first | apply H.seq | apply H.Ab | apply H.nil | apply H.Aa) | ((apply H.cmp); (iterate 5 exact rfl)) | ((apply H.ar; (iterate 4 exact rfl)); (with_reducible apply zag; omega); exact rfl) | (apply H.Av; exact rfl) | (first | apply H.Bl | apply H.Bj | apply H.Bk | apply H.Bm))
    refine H.Ah (x := row xb _ _) (by repeat constructor) ?_
    refine H.Bc (k + 1, G, l, ap, ac) ⟨by show k + 1 ≤ xs.length; omega, by show l.map MV.m = _; rw [hnext]; exact hm, hg, hdj⟩ (by show xs.length - (k + 1) < xs.length - k; omega) ⟨rfl, rfl, rfl, trivial⟩ rfl ?_
    show _ :: _ :: _ = _ :: row kb _ (kRow n (worldOf n (xs.take (k + 1))).kv) :: _
    rw [hnext]
  | false =>
   unfold W12.act at hnext
   rw [if_neg (by rw [hmt]; decide)] at hnext
   repeat (first | (first | apply H.seq | apply H.Aa) | (apply H.Av; exact rfl) | (apply H.Ak))
   generalize hoe : x.who.toNat % n = o at *
   refine H.Ae (x := row kb _ _) (by repeat constructor) ?_
   refine H.Ae (x := row wb _ _) (by repeat constructor) ?_
   refine H.Ae (x := row xb _ _) (by repeat constructor) ?_
   have hxa2 : x.Has (un f G) := A12.Has.mono (Le.un f G) hxa
   have hgk0 := kRow_get (kv := W.kv) ho (show o < 11 by omega)
   refine H.Bt (by kernel_rfl) (by decide +kernel) (by repeat (first | exact zab | refine zaa ?_ | refine zac ?_ | refine zae ?_)) (S := [_, _, _]) rfl ?_
   refine HB.Aq [(0, false), (1, false), (2, false), (3, false), (4, false), (5, false), (6, false), (7, false), (8, false), (9, false), (10, false), (11, false), (12, false), (13, false), (14, false), (15, false), (16, false), (17, false), (18, false), (19, false), (20, false), (21, false), (22, false), (23, false), (24, false)] 4 (by kernel_rfl) ?_
   have hko := hkv o
   repeat (first | ((first | apply HQ.Ac | apply HQ.Ar); (iterate 3 exact rfl)) | (apply HQ.Ag; (iterate 3 exact rfl); exact inferInstance; exact rfl) | (apply HQ.Af; (iterate 3 exact rfl); apply Rd1.ofRow; (repeat (first | exact .here _ _ _ | apply At.there)); (iterate 2 exact rfl)) | ((apply HQ.ar; (iterate 4 exact rfl)); (with_reducible apply zag; omega); exact rfl))
   refine HQ.Bs (i := o) rfl rfl rfl rfl ho rfl ?_
   refine HQ.Br (i := o) rfl rfl rfl rfl (by omega) rfl ?_
   refine HQ.Af rfl rfl rfl (.at0 (Rd.ofRow (.there _ (.there _ (.here _ _ _)))) (by rw [Nat.zero_add, Nat.mul_one]; exact hgk0)) rfl ?_
   repeat (first | ((first | apply HQ.Ac | apply HQ.Ar); (iterate 3 exact rfl)) | (apply HQ.Ag; (iterate 3 exact rfl); exact inferInstance; exact rfl) | (apply HQ.Af; (iterate 3 exact rfl); apply Rd1.ofRow; (repeat (first | exact .here _ _ _ | apply At.there)); (iterate 2 exact rfl)) | ((apply HQ.ar; (iterate 4 exact rfl)); (with_reducible apply wr_u64; omega); exact rfl))
   refine HQ.Bs (i := o) rfl rfl rfl rfl ho rfl ?_
   refine HQ.Al (ls := v11 (W.kv o)) rfl rfl rfl (by rw [Nat.zero_add]; exact Rd.kRow (Rd.ofRow (.there _ (.there _ (.here _ _ _)))) ho) rfl rfl ?_
   refine HQ.Al (ls := x.vals) rfl rfl rfl (Rd.ofRow (.here _ _ _)) rfl rfl ?_
   repeat (first | ((first | apply HQ.Ac | apply HQ.Ar | apply HQ.Az); (iterate 3 exact rfl)) | (apply HQ.Ag; (iterate 3 exact rfl); exact inferInstance; exact rfl) | (apply HQ.Af; (iterate 3 exact rfl); apply Rd1.ofRow; (repeat (first | exact .here _ _ _ | apply At.there)); (iterate 2 exact rfl)))
   refine HQ.Ap rfl ?_
   refine HB.ev2 (i := 25) (j := 27) (by kernel_rfl) rfl rfl ?_ ?_
   ·refine H.call rfl rfl rfl (abody_fn (un f G) _ (n := n) ⟨by omega, by omega⟩ hxa2 hxq) fun v f' A' hr => ?_
    obtain ⟨g, qp, qc, rfl, hqat, hd, rfl, rfl⟩ := hr
    have hgood : (⟨W.next n o x, qp, qc⟩ : MV).Good (un (un f G) g) := ⟨hqat, by have := (x.bod_q (n := n) (by omega)).1; show (x.bod n).q.length ≤ _; omega, x.bod_ok n⟩
    have hmsg := good_signed hgood
    have hmay : ∀ H, Fn Tryz.prog 54 [.agg ((W.next n o x).vals qp qc).toArray] (un (un f G) g) H (Ret (.bool (W.next n o x).may) (un (un f G) g) H) := fun H => rmay_fn (un (un f G) g) H hgood.1 (by have := hgood.2.1; show (W.next n o x).body.q.length ≤ _; have h2 : (W.next n o x).body.q.length ≤ 1000000 := this; omega)
    have hsg := fun H => rtagged_fn (un (un f G) g) H (m := W.next n o x) (q := qp) (qc := qc) hgood.1 (by have h2 : (W.next n o x).body.q.length ≤ 1000000 := hgood.2.1; omega)
    repeat ((apply H.nil))
    refine H.on [] (Le.un _ g) rfl ?_
    refine HB.Aq [(26, false)] 2 (by kernel_rfl) ?_
    refine HQ.By (t := 47) (out := (W.next n o x).vals qp qc) rfl rfl rfl (by kernel_rfl) rfl ?_
    refine HQ.Ap rfl ?_
    refine HB.ev1 (i := 27) (by kernel_rfl) rfl ?_
    refine H.Bg (ls := msgZ.vals none 0) rfl rfl rfl fun mb => ?_
    repeat ((apply H.nil))
    refine H.Ae (x := row kb _ _) (by repeat constructor) ?_
    refine H.Ae (x := row wb _ _) (by repeat constructor) ?_
    refine H.Ae (x := row xb _ _) (by repeat constructor) ?_
    refine H.on0 rfl ?_
    refine HB.ev1 (i := 28) (by kernel_rfl) rfl ?_
    refine H.Bb (ls := msgZ.vals none 0) (vs := (W.next n o x).vals qp qc) (ls' := (W.next n o x).vals qp qc) rfl rfl rfl (zad rfl) rfl rfl (Nat.le_refl 121) (by repeat constructor) ?_
    repeat ((apply H.nil))
    refine H.on0 rfl ?_
    refine HB.Bf (by kernel_rfl) ?_
    repeat ((first | apply H.seq | apply H.Ab | apply H.Aa))
    refine H.Al (ls := (W.next n o x).vals qp qc) rfl rfl rfl (Rd.ofRow (by repeat constructor)) rfl rfl ?_
    cases hmy : (W.next n o x).may with
    | false =>
     rw [hmy] at hmay
     rw [if_neg (by rw [hmy]; decide)] at hnext
     refine H.Am rfl rfl rfl (hmay _) ?_
     repeat (first | ((first | apply H.Ac | apply H.Ad); (iterate 3 exact rfl)) | (first | apply H.Ab | apply H.nil | apply H.Aa) | ((apply H.ar; (iterate 4 exact rfl)); (with_reducible apply zag; omega); exact rfl) | (apply H.Av; exact rfl) | (first | apply H.Ak | apply H.Ba))
     refine H.Ah (x := row mb _ _) (by repeat constructor) ?_
     refine H.Ah (x := row xb _ _) (by repeat constructor) ?_
     refine H.Ae (x := slc ap _ ac _ _ _) (by repeat constructor) ?_
     refine H.Ae (x := row kb _ _) (by repeat constructor) ?_
     refine H.Ae (x := row wb _ _) (by repeat constructor) ?_
     refine H.Bc (k + 1, un G g, l, ap, ac) ⟨by show k + 1 ≤ xs.length; omega, by show l.map MV.m = _; rw [hnext]; exact hm, fun y hy => by show y.Good (un f (un G g)); rw [← zau]; exact (hg y hy).mono (Le.un _ g), Dj.un3' hdj hd⟩ (by show xs.length - (k + 1) < xs.length - k; omega) ⟨rfl, rfl, rfl, trivial⟩ (zau _ _ _) ?_
     show _ :: _ :: _ = _ :: row kb _ (kRow n (worldOf n (xs.take (k + 1))).kv) :: _
     rw [hnext]
    | true =>
     rw [hmy] at hmay
     rw [if_pos hmy] at hnext
     refine H.Am rfl rfl rfl (hmay _) ?_
     repeat (first | (first | apply H.seq | apply H.nil | apply H.Aa) | (apply H.Bh; exact rfl))
     refine H.Ae (x := row wb _ _) (by repeat constructor) ?_
     refine H.Ae (x := row mb _ _) (by repeat constructor) ?_
     refine H.Ch [0, 1, 2, 3, 4, 5, 6, 7, 8] (by kernel_rfl) (by decide +kernel) (by repeat (first | exact zab | refine zaa ?_ | refine zac ?_ | refine zae ?_)) (S := [_, _]) rfl ?_
     refine HB.Aq [(0, false), (1, false), (2, false), (3, false), (4, false), (5, false)] 6 (by kernel_rfl) ?_
     repeat (first | ((first | apply HQ.Ac | apply HQ.Ar); (iterate 3 exact rfl)) | (apply HQ.Ag; (iterate 3 exact rfl); exact inferInstance; exact rfl) | (apply HQ.Af; (iterate 3 exact rfl); apply Rd1.ofRow; (repeat (first | exact .here _ _ _ | apply At.there)); (iterate 2 exact rfl)))
     refine HQ.Al (ls := (W.next n o x).vals qp qc) rfl rfl rfl (Rd.ofRow (.here _ _ _)) rfl rfl ?_
     refine HQ.Ap rfl ?_
     refine HB.ev1 (i := 6) (by kernel_rfl) rfl ?_
     refine H.Am rfl rfl rfl (hsg _) ?_
     generalize hms : (W.next n o x).signed = ms at *
     repeat ((apply H.nil))
     refine H.on0 rfl ?_
     refine HB.ev1 (i := 7) (by kernel_rfl) rfl ?_
     refine H.Bw (out := ms.vals qp qc) rfl rfl rfl rfl (by decide) (by decide) rfl rfl fun eb => ?_
     repeat ((apply H.nil))
     refine H.Ae (x := row wb _ _) (by repeat constructor) ?_
     refine H.Ae (x := row mb _ _) (by repeat constructor) ?_
     refine H.on0 rfl ?_
     refine HB.ev1 (i := 8) (by kernel_rfl) rfl ?_
     refine H.Bv (p := ap) (n0 := l.length) (c := ac) (xs := l.flatMap MV.vals) (m := 1) (news := ms.vals qp qc) rfl rfl rfl rfl rfl (fun p' c' => (by repeat constructor)) (Src.slice (Rd.ofRow (by repeat constructor)) rfl) (zad rfl) rfl (by omega) (by omega) fun ap2 ac2 => ?_
     repeat ((apply H.nil))
     refine H.Ah (x := row eb _ _) (by repeat constructor) ?_
     refine H.on0 rfl ?_
     refine HB.next [] (by kernel_rfl) (S' := []) rfl ?_
     refine HB.Aq [(9, false), (10, false)] 1 (by kernel_rfl) ?_
     repeat (first | ((apply HQ.Ar); (iterate 3 exact rfl)) | (apply HQ.Ag; (iterate 3 exact rfl); exact inferInstance; exact rfl))
     refine HQ.Ap rfl ?_
     refine HB.ev1 (i := 11) (by kernel_rfl) rfl ?_
     refine H.Bq (ls := worldC kb n ap l.length ac) (ls' := worldC kb n ap2 (l.length + 1) ac2) rfl rfl rfl rfl (.there _ (.here _ _ _)) (.there _ (.here _ _ _)) ?_
     repeat ((apply H.nil))
     refine H.on0 rfl ?_
     refine HB.Bf (by kernel_rfl) ?_
     repeat ((apply H.Aa))
     have hgk := kRow_get (kv := W.kv) ho (show o < 11 by omega)
     have hset := kRow_set (kv := W.kv) (W.kv o o + 1) ho (show o < 11 by omega)
     refine H.Ae (x := row kb _ _) (by repeat constructor) ?_
     refine H.Ae (x := row wb _ _) (by repeat constructor) ?_
     refine H.Ch [0, 1, 2, 3, 4, 5, 6, 7, 8, 9, 10, 11] (by kernel_rfl) (by decide +kernel) (by repeat (first | exact zab | refine zaa ?_ | refine zac ?_ | refine zae ?_)) (S := [_, _]) rfl ?_
     refine HB.Aq [(0, false), (1, false), (2, false), (3, false), (4, false), (5, false), (6, false), (7, false), (8, false), (9, false), (10, false), (11, false)] 1 (by kernel_rfl) ?_
     repeat (first | ((first | apply HQ.Ac | apply HQ.Ar); (iterate 3 exact rfl)) | (apply HQ.Ag; (iterate 3 exact rfl); exact inferInstance; exact rfl) | (apply HQ.Af; (iterate 3 exact rfl); apply Rd1.ofRow; (repeat (exact .here _ _ _)); (iterate 2 exact rfl)))
     refine HQ.Bs (i := o) rfl rfl rfl rfl ho rfl ?_
     refine HQ.Br (i := o) rfl rfl rfl rfl (by omega) rfl ?_
     refine HQ.Af rfl rfl rfl (.at0 (Rd.ofRow (.there _ (.here _ _ _))) (by rw [Nat.zero_add, Nat.mul_one]; exact hgk)) rfl ?_
     repeat (((apply HQ.ar; (iterate 4 exact rfl)); (with_reducible apply wr_u64; omega); exact rfl))
     refine HQ.Bs (i := o) rfl rfl rfl rfl ho rfl ?_
     refine HQ.Br (i := o) rfl rfl rfl rfl (by omega) rfl ?_
     refine HQ.Ap rfl ?_
     refine HB.next [] (by kernel_rfl) (S' := []) rfl ?_
     refine HB.ev1 (i := 12) (by kernel_rfl) rfl ?_
     refine H.Bq (v := .int .u64 (W.kv o o + 1)) (ls := kRow n W.kv) (ls' := kRow n (W.say o ms).kv) rfl rfl rfl rfl (.there _ (.here _ _ _)) (by rw [Nat.zero_add, Nat.mul_one]; exact hset) ?_
     repeat ((apply H.nil))
     refine H.on0 rfl ?_
     refine HB.Bf (by kernel_rfl) ?_
     repeat (first | ((first | apply H.Ac | apply H.Ad); (iterate 3 exact rfl)) | (first | apply H.Ab | apply H.nil | apply H.Aa) | ((apply H.ar; (iterate 4 exact rfl)); (with_reducible apply zag; omega); exact rfl) | (apply H.Ba))
     refine H.Ah (x := row mb _ _) (by repeat constructor) ?_
     refine H.Ah (x := row xb _ _) (by repeat constructor) ?_
     refine H.Ae (x := slc ap2 _ ac2 _ _ _) (by repeat constructor) ?_
     refine H.Ae (x := row kb _ _) (by repeat constructor) ?_
     refine H.Ae (x := row wb _ _) (by repeat constructor) ?_
     refine H.Bc (k + 1, un G g, l ++ [⟨ms, qp, qc⟩], ap2, ac2) ⟨by show k + 1 ≤ xs.length; omega, by show (l ++ [(⟨ms, qp, qc⟩ : MV)]).map MV.m = _; rw [hnext, List.map_append, hm]; rfl, fun y hy => ?_, Dj.un3' hdj hd⟩ (by show xs.length - (k + 1) < xs.length - k; omega) ⟨rfl, rfl, rfl, trivial⟩ (zau _ _ _) ?_
     ·show y.Good (un f (un G g))
      rw [← zau]
      have hy : y ∈ l ++ [(⟨ms, qp, qc⟩ : MV)] := hy
      rcases List.mem_append.1 hy with hy | hy
      ·exact (hg y hy).mono (Le.un _ g)
      ·rw [List.mem_singleton] at hy; subst hy; exact hmsg
     ·show row wb _ (worldC kb n ap2 (l.length + 1) ac2) :: _ :: slc ap2 (l.length + 1) ac2 _ 121 (l.flatMap MV.vals ++ (⟨ms, qp, qc⟩ : MV).vals) :: F = row wb _ (worldC kb n ap2 (l ++ [(⟨ms, qp, qc⟩ : MV)]).length ac2) :: row kb _ (kRow n (worldOf n (xs.take (k + 1))).kv) :: slc ap2 (l ++ [(⟨ms, qp, qc⟩ : MV)]).length ac2 _ 121 ((l ++ [(⟨ms, qp, qc⟩ : MV)]).flatMap MV.vals) :: F
      rw [slc_snoc, hnext, List.length_append]
      rfl
   ·refine H.Bg (ls := msgZ.vals none 0) rfl rfl rfl fun mb => ?_
    repeat ((apply H.nil))
    refine H.Ae (x := row kb _ _) (by repeat constructor) ?_
    refine H.Ae (x := row wb _ _) (by repeat constructor) ?_
    refine H.Ae (x := row xb _ _) (by repeat constructor) ?_
    refine H.on0 rfl ?_
    refine HB.ev1 (i := 25) (by kernel_rfl) rfl ?_
    refine H.call rfl rfl rfl (abody_fn (un f G) _ (n := n) ⟨by omega, by omega⟩ hxa2 hxq) fun v f' A' hr => ?_
    obtain ⟨g, qp, qc, rfl, hqat, hd, rfl, rfl⟩ := hr
    have hgood : (⟨W.next n o x, qp, qc⟩ : MV).Good (un (un f G) g) := ⟨hqat, by have := (x.bod_q (n := n) (by omega)).1; show (x.bod n).q.length ≤ _; omega, x.bod_ok n⟩
    have hmsg := good_signed hgood
    have hmay : ∀ H, Fn Tryz.prog 54 [.agg ((W.next n o x).vals qp qc).toArray] (un (un f G) g) H (Ret (.bool (W.next n o x).may) (un (un f G) g) H) := fun H => rmay_fn (un (un f G) g) H hgood.1 (by have := hgood.2.1; show (W.next n o x).body.q.length ≤ _; have h2 : (W.next n o x).body.q.length ≤ 1000000 := this; omega)
    have hsg := fun H => rtagged_fn (un (un f G) g) H (m := W.next n o x) (q := qp) (qc := qc) hgood.1 (by have h2 : (W.next n o x).body.q.length ≤ 1000000 := hgood.2.1; omega)
    repeat ((apply H.nil))
    refine H.on [] (Le.un _ g) rfl ?_
    refine HB.Aq [(26, false)] 1 (by kernel_rfl) ?_
    refine HQ.By (t := 47) (out := (W.next n o x).vals qp qc) rfl rfl rfl (by kernel_rfl) rfl ?_
    refine HQ.Ap rfl ?_
    refine HB.ev1 (i := 28) (by kernel_rfl) rfl ?_
    refine H.Bb (ls := msgZ.vals none 0) (vs := (W.next n o x).vals qp qc) (ls' := (W.next n o x).vals qp qc) rfl rfl rfl (zad rfl) rfl rfl (Nat.le_refl 121) (by repeat constructor) ?_
    repeat ((apply H.nil))
    refine H.on0 rfl ?_
    refine HB.Bf (by kernel_rfl) ?_
    repeat ((first | apply H.seq | apply H.Ab | apply H.Aa))
    refine H.Al (ls := (W.next n o x).vals qp qc) rfl rfl rfl (Rd.ofRow (by repeat constructor)) rfl rfl ?_
    cases hmy : (W.next n o x).may with
    | false =>
     rw [hmy] at hmay
     rw [if_neg (by rw [hmy]; decide)] at hnext
     refine H.Am rfl rfl rfl (hmay _) ?_
     repeat (first | ((first | apply H.Ac | apply H.Ad); (iterate 3 exact rfl)) | (first | apply H.Ab | apply H.nil | apply H.Aa) | ((apply H.ar; (iterate 4 exact rfl)); (with_reducible apply zag; omega); exact rfl) | (apply H.Av; exact rfl) | (first | apply H.Ak | apply H.Ba))
     refine H.Ah (x := row mb _ _) (by repeat constructor) ?_
     refine H.Ah (x := row xb _ _) (by repeat constructor) ?_
     refine H.Ae (x := slc ap _ ac _ _ _) (by repeat constructor) ?_
     refine H.Ae (x := row kb _ _) (by repeat constructor) ?_
     refine H.Ae (x := row wb _ _) (by repeat constructor) ?_
     refine H.Bc (k + 1, un G g, l, ap, ac) ⟨by show k + 1 ≤ xs.length; omega, by show l.map MV.m = _; rw [hnext]; exact hm, fun y hy => by show y.Good (un f (un G g)); rw [← zau]; exact (hg y hy).mono (Le.un _ g), Dj.un3' hdj hd⟩ (by show xs.length - (k + 1) < xs.length - k; omega) ⟨rfl, rfl, rfl, trivial⟩ (zau _ _ _) ?_
     show _ :: _ :: _ = _ :: row kb _ (kRow n (worldOf n (xs.take (k + 1))).kv) :: _
     rw [hnext]
    | true =>
     rw [hmy] at hmay
     rw [if_pos hmy] at hnext
     refine H.Am rfl rfl rfl (hmay _) ?_
     repeat (first | (first | apply H.seq | apply H.nil | apply H.Aa) | (apply H.Bh; exact rfl))
     refine H.Ae (x := row wb _ _) (by repeat constructor) ?_
     refine H.Ae (x := row mb _ _) (by repeat constructor) ?_
     refine H.Ch [0, 1, 2, 3, 4, 5, 6, 7, 8] (by kernel_rfl) (by decide +kernel) (by repeat (first | exact zab | refine zaa ?_ | refine zac ?_ | refine zae ?_)) (S := [_, _]) rfl ?_
     refine HB.Aq [(0, false), (1, false), (2, false), (3, false), (4, false), (5, false)] 6 (by kernel_rfl) ?_
     repeat (first | ((first | apply HQ.Ac | apply HQ.Ar); (iterate 3 exact rfl)) | (apply HQ.Ag; (iterate 3 exact rfl); exact inferInstance; exact rfl) | (apply HQ.Af; (iterate 3 exact rfl); apply Rd1.ofRow; (repeat (first | exact .here _ _ _ | apply At.there)); (iterate 2 exact rfl)))
     refine HQ.Al (ls := (W.next n o x).vals qp qc) rfl rfl rfl (Rd.ofRow (.here _ _ _)) rfl rfl ?_
     refine HQ.Ap rfl ?_
     refine HB.ev1 (i := 6) (by kernel_rfl) rfl ?_
     refine H.Am rfl rfl rfl (hsg _) ?_
     generalize hms : (W.next n o x).signed = ms at *
     repeat ((apply H.nil))
     refine H.on0 rfl ?_
     refine HB.ev1 (i := 7) (by kernel_rfl) rfl ?_
     refine H.Bw (out := ms.vals qp qc) rfl rfl rfl rfl (by decide) (by decide) rfl rfl fun eb => ?_
     repeat ((apply H.nil))
     refine H.Ae (x := row wb _ _) (by repeat constructor) ?_
     refine H.Ae (x := row mb _ _) (by repeat constructor) ?_
     refine H.on0 rfl ?_
     refine HB.ev1 (i := 8) (by kernel_rfl) rfl ?_
     refine H.Bv (p := ap) (n0 := l.length) (c := ac) (xs := l.flatMap MV.vals) (m := 1) (news := ms.vals qp qc) rfl rfl rfl rfl rfl (fun p' c' => (by repeat constructor)) (Src.slice (Rd.ofRow (by repeat constructor)) rfl) (zad rfl) rfl (by omega) (by omega) fun ap2 ac2 => ?_
     repeat ((apply H.nil))
     refine H.Ah (x := row eb _ _) (by repeat constructor) ?_
     refine H.on0 rfl ?_
     refine HB.next [] (by kernel_rfl) (S' := []) rfl ?_
     refine HB.Aq [(9, false), (10, false)] 1 (by kernel_rfl) ?_
     repeat (first | ((apply HQ.Ar); (iterate 3 exact rfl)) | (apply HQ.Ag; (iterate 3 exact rfl); exact inferInstance; exact rfl))
     refine HQ.Ap rfl ?_
     refine HB.ev1 (i := 11) (by kernel_rfl) rfl ?_
     refine H.Bq (ls := worldC kb n ap l.length ac) (ls' := worldC kb n ap2 (l.length + 1) ac2) rfl rfl rfl rfl (.there _ (.here _ _ _)) (.there _ (.here _ _ _)) ?_
     repeat ((apply H.nil))
     refine H.on0 rfl ?_
     refine HB.Bf (by kernel_rfl) ?_
     repeat ((apply H.Aa))
     have hgk := kRow_get (kv := W.kv) ho (show o < 11 by omega)
     have hset := kRow_set (kv := W.kv) (W.kv o o + 1) ho (show o < 11 by omega)
     refine H.Ae (x := row kb _ _) (by repeat constructor) ?_
     refine H.Ae (x := row wb _ _) (by repeat constructor) ?_
     refine H.Ch [0, 1, 2, 3, 4, 5, 6, 7, 8, 9, 10, 11] (by kernel_rfl) (by decide +kernel) (by repeat (first | exact zab | refine zaa ?_ | refine zac ?_ | refine zae ?_)) (S := [_, _]) rfl ?_
     refine HB.Aq [(0, false), (1, false), (2, false), (3, false), (4, false), (5, false), (6, false), (7, false), (8, false), (9, false), (10, false), (11, false)] 1 (by kernel_rfl) ?_
     repeat (first | ((first | apply HQ.Ac | apply HQ.Ar); (iterate 3 exact rfl)) | (apply HQ.Ag; (iterate 3 exact rfl); exact inferInstance; exact rfl) | (apply HQ.Af; (iterate 3 exact rfl); apply Rd1.ofRow; (repeat (exact .here _ _ _)); (iterate 2 exact rfl)))
     refine HQ.Bs (i := o) rfl rfl rfl rfl ho rfl ?_
     refine HQ.Br (i := o) rfl rfl rfl rfl (by omega) rfl ?_
     refine HQ.Af rfl rfl rfl (.at0 (Rd.ofRow (.there _ (.here _ _ _))) (by rw [Nat.zero_add, Nat.mul_one]; exact hgk)) rfl ?_
     repeat (((apply HQ.ar; (iterate 4 exact rfl)); (with_reducible apply wr_u64; omega); exact rfl))
     refine HQ.Bs (i := o) rfl rfl rfl rfl ho rfl ?_
     refine HQ.Br (i := o) rfl rfl rfl rfl (by omega) rfl ?_
     refine HQ.Ap rfl ?_
     refine HB.next [] (by kernel_rfl) (S' := []) rfl ?_
     refine HB.ev1 (i := 12) (by kernel_rfl) rfl ?_
     refine H.Bq (v := .int .u64 (W.kv o o + 1)) (ls := kRow n W.kv) (ls' := kRow n (W.say o ms).kv) rfl rfl rfl rfl (.there _ (.here _ _ _)) (by rw [Nat.zero_add, Nat.mul_one]; exact hset) ?_
     repeat ((apply H.nil))
     refine H.on0 rfl ?_
     refine HB.Bf (by kernel_rfl) ?_
     repeat (first | ((first | apply H.Ac | apply H.Ad); (iterate 3 exact rfl)) | (first | apply H.Ab | apply H.nil | apply H.Aa) | ((apply H.ar; (iterate 4 exact rfl)); (with_reducible apply zag; omega); exact rfl) | (apply H.Ba))
     refine H.Ah (x := row mb _ _) (by repeat constructor) ?_
     refine H.Ah (x := row xb _ _) (by repeat constructor) ?_
     refine H.Ae (x := slc ap2 _ ac2 _ _ _) (by repeat constructor) ?_
     refine H.Ae (x := row kb _ _) (by repeat constructor) ?_
     refine H.Ae (x := row wb _ _) (by repeat constructor) ?_
     refine H.Bc (k + 1, un G g, l ++ [⟨ms, qp, qc⟩], ap2, ac2) ⟨by show k + 1 ≤ xs.length; omega, by show (l ++ [(⟨ms, qp, qc⟩ : MV)]).map MV.m = _; rw [hnext, List.map_append, hm]; rfl, fun y hy => ?_, Dj.un3' hdj hd⟩ (by show xs.length - (k + 1) < xs.length - k; omega) ⟨rfl, rfl, rfl, trivial⟩ (zau _ _ _) ?_
     ·show y.Good (un f (un G g))
      rw [← zau]
      have hy : y ∈ l ++ [(⟨ms, qp, qc⟩ : MV)] := hy
      rcases List.mem_append.1 hy with hy | hy
      ·exact (hg y hy).mono (Le.un _ g)
      ·rw [List.mem_singleton] at hy; subst hy; exact hmsg
     ·show row wb _ (worldC kb n ap2 (l.length + 1) ac2) :: _ :: slc ap2 (l.length + 1) ac2 _ 121 (l.flatMap MV.vals ++ (⟨ms, qp, qc⟩ : MV).vals) :: F = row wb _ (worldC kb n ap2 (l ++ [(⟨ms, qp, qc⟩ : MV)]).length ac2) :: row kb _ (kRow n (worldOf n (xs.take (k + 1))).kv) :: slc ap2 (l ++ [(⟨ms, qp, qc⟩ : MV)]).length ac2 _ 121 ((l ++ [(⟨ms, qp, qc⟩ : MV)]).flatMap MV.vals) :: F
      rw [slc_snoc, hnext, List.length_append]
      rfl
 ·have e : k = xs.length := by omega
  subst e
  repeat (first | ((first | apply H.Ac | apply H.Ad | apply H.Az); (iterate 3 exact rfl)) | (first | apply H.seq | apply H.Ab | apply H.nil | apply H.Aa) | ((apply H.cmp); (iterate 5 exact rfl)) | (first | apply H.ret | apply H.Bl | apply H.Bj | apply H.Bk | apply H.Bm) | (apply H.Aw; exact rfl; (omega)))
  rw [show xs.take xs.length = xs from List.take_length] at hm ⊢
  refine H.freeze (x := row kb _ _) (by repeat constructor) fun g1 hg1 hd1 => ?_
  refine H.freeze (x := slc ap _ ac _ _ _) (by repeat constructor) fun g2 hg2 hd2 => ?_
  have e3 : un (un (un f G) g1) g2 = un f (un (un G g1) g2) := by rw [zau, zau, zau]
  have hd3 : Dj f (un (un G g1) g2) := by
   have h1 := Dj.un3' hdj hd1
   rw [zau] at hd2
   exact Dj.un3' h1 hd2
  refine H.Aj rfl rfl (fun _ h => h) ⟨un (un G g1) g2, wb, kb, ap, ac, l, rfl, hd3, e3, rfl, ?_⟩
  have hle1 : Le (un f G) (un (un (un f G) g1) g2) := (Le.un _ g1).trans (Le.un _ g2)
  exact ⟨(KAt.of hg1 hd1).mono (Le.un _ g2), (slc_listAt MV.len hg2).mono (Le.right hd2), fun y hy => (hg y hy).mono hle1, hm⟩
end
theorem ListAt.all {α : Type} {f : Frag} {p : Option Addr} {sz : Nat} {vals : α → List Value} {l : List α} (hv : ∀ x, (vals x).length = sz) (h1 : 0 < sz) (h : ListAt f p sz vals l) (h0 : 0 < l.length) :
  ∃ b off, p = some ⟨b, off, none⟩ ∧ ∀ (g : Frag) A i x, Le f g → l[i]? = some x → Rd g A b (off + i * sz) (vals x) := by
 obtain ⟨x0, hx0⟩ : ∃ x0, l[0]? = some x0 := ⟨_, List.getElem?_eq_getElem h0⟩
 obtain ⟨b, off, cs, T, fr, rfl, hfb, _⟩ := h 0 x0 hx0
 refine ⟨b, off, rfl, fun g A i x hle hx => ?_⟩
 obtain ⟨b', off', cs', T', fr', e, hfb', hcs'⟩ := h i x hx
 cases e
 exact Rd.imm (hle _ _ hfb') hcs'
theorem fewz_odd {n8 : UInt8} {n : Nat} (h : n = 3 + 2 * (n8.toNat % 5)) : fewZ (n : Int) := by
 refine ⟨by omega, by omega, ?_⟩
 exact zat (a := n) (b := 2) (r := 1) (by omega)
theorem few12_all {l : List A12} (h : few12 l = true) : l.length ≤ 100 ∧ ∀ x ∈ l, x.q.length ≤ 20 := by
 unfold few12 at h
 simp only [Bool.and_eq_true, decide_eq_true_eq, List.all_eq_true] at h
 exact h
section
variable (f : Frag) (F : List HP)
end
theorem lore_upW {f g : Frag} (h : Le f g) {lb n : Nat} {l : List MV} {A : List HP} : ∀ x, stars (loreH f lb n l :: A) x → stars (loreH g lb n l :: A) x :=
 fun _ ⟨h1, h2, hd, he, ha, hr⟩ => ⟨h1, h2, hd, he, loreH_mono h _ ha, hr⟩
section
variable (f : Frag) (F : List HP)
end
def atZ : Option Nat → Int
 | none => -1
 | some j => (j : Nat)
theorem zbd {α : Type} {ws : List α} {i : Nat} {x y : α} (hx : ws[i]? = some x) (h : y ∈ ws.take (i + 1)) : y ∈ ws.take i ∨ y = x := by
 rw [List.take_add_one, hx] at h
 rcases List.mem_append.1 h with h | h
 ·exact .inl h
 ·exact .inr (by simpa using h)
theorem take_old {α : Type} {ws : List α} {i : Nat} {y : α} (h : y ∈ ws.take i) : y ∈ ws.take (i + 1) := by
 rw [List.take_add_one]
 exact List.mem_append_left _ h
theorem take_new {α : Type} {ws : List α} {i : Nat} {x : α} (hx : ws[i]? = some x) : x ∈ ws.take (i + 1) := by
 rw [List.take_add_one, hx]
 exact List.mem_append_right _ (by simp)
def TopAt (ws : List Msg) (o : Int) (i : Nat) : Option Nat → Prop
 | none => ∀ x ∈ ws.take i, x.origin ≠ o
 | some j => j < i ∧ ∃ t, ws[j]? = some t ∧ Top (ws.take i) o t
theorem TopAt.start (ws : List Msg) (o : Int) : TopAt ws o 0 none := fun x hx => by simp at hx
theorem TopAt.skip {ws : List Msg} {o : Int} {i : Nat} {a : Option Nat} (h : TopAt ws o i a) {x : Msg} (hx : ws[i]? = some x) (ho : x.origin ≠ o) : TopAt ws o (i + 1) a := by
 cases a with
 | none =>
  intro y hy
  rcases zbd hx hy with h1 | h1
  ·exact h y h1
  ·rw [h1]; exact ho
 | some j =>
  obtain ⟨hj, t, ht, h1, h2, h3⟩ := h
  refine ⟨by omega, t, ht, take_old h1, h2, fun y hy hyo => ?_⟩
  rcases zbd hx hy with h4 | h4
  ·exact h3 y h4 hyo
  ·exact absurd (h4 ▸ hyo) ho
theorem TopAt.first {ws : List Msg} {o : Int} {i : Nat} (h : TopAt ws o i none) {x : Msg} (hx : ws[i]? = some x) (ho : x.origin = o) : TopAt ws o (i + 1) (some i) := by
 refine ⟨by omega, x, hx, take_new hx, ho, fun y hy hyo => ?_⟩
 rcases zbd hx hy with h4 | h4
 ·exact absurd hyo (h y h4)
 ·rw [h4]; exact Int.le_refl _
theorem TopAt.more {ws : List Msg} {o : Int} {i j : Nat} (h : TopAt ws o i (some j)) {x t : Msg} (hx : ws[i]? = some x) (ho : x.origin = o) (ht : ws[j]? = some t) (hl : t.number < x.number) : TopAt ws o (i + 1) (some i) := by
 obtain ⟨hj, t', ht', h1, h2, h3⟩ := h
 rw [ht] at ht'
 cases ht'
 refine ⟨by omega, x, hx, take_new hx, ho, fun y hy hyo => ?_⟩
 rcases zbd hx hy with h4 | h4
 ·have := h3 y h4 hyo; omega
 ·rw [h4]; exact Int.le_refl _
theorem TopAt.keep {ws : List Msg} {o : Int} {i j : Nat} (h : TopAt ws o i (some j)) {x t : Msg} (hx : ws[i]? = some x) (ht : ws[j]? = some t) (hl : ¬ t.number < x.number) : TopAt ws o (i + 1) (some j) := by
 obtain ⟨hj, t', ht', h1, h2, h3⟩ := h
 rw [ht] at ht'
 cases ht'
 refine ⟨by omega, t, ht, take_old h1, h2, fun y hy hyo => ?_⟩
 rcases zbd hx hy with h4 | h4
 ·exact h3 y h4 hyo
 ·rw [h4]; omega
theorem TopAt.none_all {ws : List Msg} {o : Int} (h : TopAt ws o ws.length none) : cntO ws o = 0 := by
 unfold cntO
 rw [List.length_eq_zero_iff, List.filter_eq_nil_iff]
 intro x hx hd
 have h1 : ∀ x ∈ ws.take ws.length, x.origin ≠ o := h
 rw [List.take_length] at h1
 exact h1 x hx (by simpa using hd)
theorem TopAt.some_all {ws : List Msg} {o : Int} {j : Nat} (h : TopAt ws o ws.length (some j)) : ∃ t, ws[j]? = some t ∧ Top ws o t := by
 obtain ⟨_, t, ht, h1⟩ := h
 rw [List.take_length] at h1
 exact ⟨t, ht, h1⟩
def LeastAt (c : Msg → Int) (ws : List Msg) (i : Nat) : Option Nat → Prop
 | none => ∀ x ∈ ws.take i, c x ≠ 0
 | some j => j < i ∧ ∃ t, ws[j]? = some t ∧ c t = 0 ∧ ∀ y ∈ ws.take i, c y = 0 → t.origin ≤ y.origin
theorem LeastAt.start (c : Msg → Int) (ws : List Msg) : LeastAt c ws 0 none := fun x hx => by simp at hx
theorem LeastAt.skip {c : Msg → Int} {ws : List Msg} {i : Nat} {a : Option Nat} (h : LeastAt c ws i a) {x : Msg} (hx : ws[i]? = some x) (ho : c x ≠ 0) : LeastAt c ws (i + 1) a := by
 cases a with
 | none =>
  intro y hy
  rcases zbd hx hy with h1 | h1
  ·exact h y h1
  ·rw [h1]; exact ho
 | some j =>
  obtain ⟨hj, t, ht, h1, h2⟩ := h
  refine ⟨by omega, t, ht, h1, fun y hy hyo => ?_⟩
  rcases zbd hx hy with h4 | h4
  ·exact h2 y h4 hyo
  ·exact absurd (h4 ▸ hyo) ho
theorem LeastAt.first {c : Msg → Int} {ws : List Msg} {i : Nat} (h : LeastAt c ws i none) {x : Msg} (hx : ws[i]? = some x) (ho : c x = 0) : LeastAt c ws (i + 1) (some i) := by
 refine ⟨by omega, x, hx, ho, fun y hy hyo => ?_⟩
 rcases zbd hx hy with h4 | h4
 ·exact absurd hyo (h y h4)
 ·rw [h4]; exact Int.le_refl _
theorem LeastAt.less {c : Msg → Int} {ws : List Msg} {i j : Nat} (h : LeastAt c ws i (some j)) {x t : Msg} (hx : ws[i]? = some x) (ho : c x = 0) (ht : ws[j]? = some t) (hl : x.origin < t.origin) : LeastAt c ws (i + 1) (some i) := by
 obtain ⟨hj, t', ht', h1, h2⟩ := h
 rw [ht] at ht'
 cases ht'
 refine ⟨by omega, x, hx, ho, fun y hy hyo => ?_⟩
 rcases zbd hx hy with h4 | h4
 ·have := h2 y h4 hyo; omega
 ·rw [h4]; exact Int.le_refl _
theorem LeastAt.keep {c : Msg → Int} {ws : List Msg} {i j : Nat} (h : LeastAt c ws i (some j)) {x t : Msg} (hx : ws[i]? = some x) (ht : ws[j]? = some t) (hl : ¬ x.origin < t.origin) : LeastAt c ws (i + 1) (some j) := by
 obtain ⟨hj, t', ht', h1, h2⟩ := h
 rw [ht] at ht'
 cases ht'
 refine ⟨by omega, t, ht, h1, fun y hy hyo => ?_⟩
 rcases zbd hx hy with h4 | h4
 ·exact h2 y h4 hyo
 ·rw [h4]; omega
theorem LeastAt.none_all {c : Msg → Int} {ws : List Msg} (h : LeastAt c ws ws.length none) : ∀ x ∈ ws, c x ≠ 0 := by
 have h1 : ∀ x ∈ ws.take ws.length, c x ≠ 0 := h
 rwa [List.take_length] at h1
theorem LeastAt.some_all {c : Msg → Int} {ws : List Msg} {j : Nat} (h : LeastAt c ws ws.length (some j)) : ∃ t, ws[j]? = some t ∧ c t = 0 ∧ ∀ y ∈ ws, c y = 0 → t.origin ≤ y.origin := by
 obtain ⟨_, t, ht, h1, h2⟩ := h
 rw [List.take_length] at h2
 exact ⟨t, ht, h1, h2⟩
theorem without_perm {α : Type} {ws : List α} {j : Nat} {t : α} (h : ws[j]? = some t) : (t :: (ws.take j ++ ws.drop (j + 1))).Perm ws := by
 have e : ws = ws.take j ++ t :: ws.drop (j + 1) := by
  have hj := (List.getElem?_eq_some_iff.1 h).1
  have h2 := (List.getElem?_eq_some_iff.1 h).2
  conv => lhs; rw [← List.take_append_drop j ws, List.drop_eq_getElem_cons hj, h2]
 conv => rhs; rw [e]
 exact List.perm_middle.symm
theorem cntO_take {ws : List Msg} {o : Int} {i : Nat} {x : Msg} (hx : ws[i]? = some x) : cntO (ws.take (i + 1)) o = cntO (ws.take i) o + (if x.origin = o then 1 else 0) := by
 rw [List.take_add_one, hx]
 exact cntO_snoc _ _ _
theorem filter_take {α : Type} {p : α → Bool} {ws : List α} {i : Nat} {x : α} (hx : ws[i]? = some x) : (ws.take (i + 1)).filter p = (ws.take i).filter p ++ (if p x then [x] else []) := by
 rw [List.take_add_one, hx, List.filter_append]
 congr 1
 by_cases h : p x = true
 ·rw [if_pos h]; simp [h]
 ·rw [if_neg h]; simp [h]
theorem NextR.of_no {c : Msg → Int} {ws : List Msg} (h : LeastAt c (ws.filter fun x => openZ (c x)) (ws.filter fun x => openZ (c x)).length none) : NextR c ws none (ws.filter fun x => openZ (c x)) :=
 .no (fun x hx h0 => h.none_all x (List.mem_filter.2 ⟨hx, zbg.2 (.inl h0)⟩) h0) _ (List.Perm.refl _)
theorem NextR.of_yes {c : Msg → Int} {ws : List Msg} {j : Nat} {t : Msg} (h : LeastAt c (ws.filter fun x => openZ (c x)) (ws.filter fun x => openZ (c x)).length (some j)) (ht : (ws.filter fun x => openZ (c x))[j]? = some t) :
  NextR c ws (some t) ((ws.filter fun x => openZ (c x)).take j ++ (ws.filter fun x => openZ (c x)).drop (j + 1)) := by
 obtain ⟨t', ht', h0, hl⟩ := h.some_all
 rw [ht] at ht'
 cases ht'
 exact .yes t (List.mem_filter.1 (List.mem_of_getElem? ht)).1 h0 (fun y hy hy0 => hl y (List.mem_filter.2 ⟨hy, zbg.2 (.inl hy0)⟩) hy0) _ (without_perm ht)
section
variable (f : Frag) (F : List HP)
set_option maxHeartbeats 1600000 in
theorem rcheck_fn {i n : Int} {r : Option Addr} {d : Nat} {b : List UInt8} {t : Nat → UInt8} (h1 : 1 ≤ i) (h2 : i ≤ 11) (h3 : 1 ≤ n) (h4 : n ≤ 65536) (hs : ∀ G, Src Tryz.prog f (G ++ F) (.slice r b.length d) 1 b.length (bytesV b)) (hl : b.length ≤ 1024) :
  Fn Tryz.prog 60 [.int .i64 i, .int .u64 n, .slice r b.length d, .agg (b32 t).toArray] f F (Ret (.bool (eq32 t (Sha.numbered i n b))) f F) := by
 refine Fn.enter Tryz.func60 rfl Tryz.ntmps60 rfl (L := [(0, _), (1, _), (2, _), (3, _)]) ⟨rfl, rfl, rfl, rfl, trivial⟩ fun base => ?_
 repeat ((first | apply H.seq | apply H.Ab))
 refine H.box (ls := b32 t) rfl rfl rfl rfl fun tb => ?_
 repeat (first | ((apply H.Ad); (iterate 3 exact rfl)) | (first | apply H.seq | apply H.nil | apply H.Aa))
 refine H.Bt (by kernel_rfl) (by decide +kernel) (by repeat (first | exact zab | refine zaa ?_ | refine zac ?_ | refine zae ?_)) (S := [_]) rfl ?_
 refine HB.Aq [(0, false), (1, false), (2, false), (3, false), (4, false), (5, false), (6, false), (7, false), (8, false), (9, false), (10, false), (11, false), (12, false), (13, false), (14, false), (15, false), (16, false), (17, false), (18, false), (19, false), (20, false), (21, false), (22, false), (23, false)] 4 (by kernel_rfl) ?_
 repeat (first | (refine HQ.Al (ls := b32 t) rfl rfl rfl (Rd.ofRow (by repeat constructor)) rfl rfl ?_) | ((first | apply HQ.Ac | apply HQ.Az); (iterate 3 exact rfl)) | ((apply HQ.cmp); (iterate 5 exact rfl)) | (apply HQ.Ax; (iterate 4 exact rfl)) | (apply HQ.Bi; (iterate 3 exact rfl); (first | assumption | omega)))
 refine HQ.Ap rfl ?_
 refine HB.ev1 (i := 24) (by kernel_rfl) rfl ?_
 skip
 refine H.Am rfl rfl rfl (rnumbered_fn f _ h1 h2 (fun G => (hs (G ++ [_])).assoc) (by omega)) ?_
 generalize Sha.numbered i n b = u
 repeat ((apply H.nil))
 refine H.on0 rfl ?_
 refine HB.Aq [(25, false), (26, false), (27, false)] 0 (by kernel_rfl) ?_
 repeat (first | (refine HQ.aggEq (xs := b32 t) (ys := b32 u) (D := 4) rfl rfl rfl rfl (by kernel_rfl) (by kernel_rfl) (by kernel_rfl) (by kernel_rfl) (by decide) (show eqC (b32 t) (b32 u) = eq32 t u from rfl) rfl ?_) | ((apply HQ.Ad); (iterate 3 exact rfl)) | (apply HQ.Ax; (iterate 4 exact rfl)))
 refine HQ.Ap rfl ?_
 refine HB.Bf (by kernel_rfl) ?_
 repeat (first | (apply H.Aa) | (apply H.ret))
 refine H.Ah (x := row tb _ _) (by repeat constructor) ?_
 exact H.Aj rfl rfl (fun _ h => h) ⟨rfl, rfl, rfl⟩
set_option maxHeartbeats 1600000 in
theorem rmright_fn {x : MV} (hx : x.Good f) : Fn Tryz.prog 24 [.agg x.vals.toArray] f F (Ret (.bool x.m.right) f F) := by
 have hmay := fun G => rmmay_fn f G hx
 unfold Msg.right
 by_cases hm : x.m.may = true
 ·rw [hm] at hmay ⊢
  rw [Bool.true_and]
  have htg := fun G => rbytes_fn (m := x.m) (qc := x.qc) f G hx.1 (by have := hx.2.1; omega)
  unfold Msg.bytes at htg
  rw [if_pos hm] at htg
  have htl := Msg.tagged_max hm
  have hou := Msg.may_outer hm
  generalize x.m.tagged = tg at htg htl ⊢
  obtain ⟨o1, o2, o3, o4, _⟩ := hou
  refine Fn.enter Tryz.func24 rfl Tryz.ntmps24 rfl (L := [(0, _)]) ⟨rfl, trivial⟩ fun base => ?_
  repeat ((first | apply H.seq | apply H.Ab))
  refine H.box (ls := x.vals) rfl rfl rfl rfl fun mb => ?_
  repeat (first | ((apply H.Ad); (iterate 3 exact rfl)) | (first | apply H.seq | apply H.nil | apply H.Aa))
  refine H.Bt (by kernel_rfl) (by decide +kernel) (by repeat (first | exact zab | refine zaa ?_ | refine zac ?_ | refine zae ?_)) (S := [_]) rfl ?_
  refine HB.Aq [(0, false)] 13 (by kernel_rfl) ?_
  repeat ((refine HQ.Al (ls := x.vals) rfl rfl rfl (Rd.ofRow (by repeat constructor)) rfl rfl ?_))
  refine HQ.Ap rfl ?_
  refine HB.ev1 (i := 1) (by kernel_rfl) rfl ?_
  refine H.Am rfl rfl rfl (hmay _) ?_
  repeat ((apply H.nil))
  refine H.on0 rfl ?_
  refine HB.Aq [(2, false), (3, false), (4, false), (5, false), (6, false), (7, false), (9, false), (10, false)] 4 (by kernel_rfl) ?_
  repeat (first | (refine HQ.Al (ls := x.vals) rfl rfl rfl (Rd.ofRow (by repeat constructor)) rfl rfl ?_) | (refine HQ.Al (ls := b32 x.m.tag) rfl rfl rfl (msg_tag (m := x.m) (q := x.qp) (qc := x.qc) (by repeat constructor)) rfl rfl ?_) | ((apply HQ.Ac); (iterate 3 exact rfl)) | (apply HQ.Ag; (iterate 3 exact rfl); exact inferInstance; exact rfl) | (apply HQ.Af; (iterate 3 exact rfl); apply Rd1.ofRow; (repeat (exact .here _ _ _)); (iterate 2 exact rfl)))
  refine HQ.Ap rfl ?_
  refine HB.ev1 (i := 8) (by kernel_rfl) rfl ?_
  skip
  refine H.Bn rfl rfl rfl (htg _) fun p1 c1 => ?_
  repeat ((apply H.nil))
  refine H.Ae (x := row mb _ _) (by repeat constructor) ?_
  refine H.on0 rfl ?_
  refine HB.ev1 (i := 11) (by kernel_rfl) rfl ?_
  skip
  refine H.Am rfl rfl rfl (rcheck_fn f _ o1 o2 o3 o4 (fun G => Src.append (Src.slcS (by repeat constructor) (by rw [zaf]; exact (Nat.mul_one _).symm))) htl) ?_
  repeat ((apply H.nil))
  refine H.on0 rfl ?_
  refine HB.Aq [(12, false), (13, false)] 0 (by kernel_rfl) ?_
  repeat (first | ((apply HQ.Ad); (iterate 3 exact rfl)) | (apply HQ.Ax; (iterate 4 exact rfl)))
  refine HQ.Ap rfl ?_
  refine HB.Bf (by kernel_rfl) ?_
  repeat (first | (apply H.Aa) | (apply H.ret))
  refine H.Ah (x := row mb _ _) (by repeat constructor) ?_
  refine H.Ah (x := slc p1 _ _ _ _ _) (by repeat constructor) ?_
  exact H.Aj rfl rfl (fun _ h => h) ⟨rfl, rfl, rfl⟩
 ·rw [Bool.eq_false_iff.2 hm] at hmay ⊢
  rw [Bool.false_and]
  refine Fn.enter Tryz.func24 rfl Tryz.ntmps24 rfl (L := [(0, _)]) ⟨rfl, trivial⟩ fun base => ?_
  repeat ((first | apply H.seq | apply H.Ab))
  refine H.box (ls := x.vals) rfl rfl rfl rfl fun mb => ?_
  repeat (first | ((apply H.Ad); (iterate 3 exact rfl)) | (first | apply H.seq | apply H.nil | apply H.Aa))
  refine H.Bt (by kernel_rfl) (by decide +kernel) (by repeat (first | exact zab | refine zaa ?_ | refine zac ?_ | refine zae ?_)) (S := [_]) rfl ?_
  refine HB.Aq [(0, false)] 13 (by kernel_rfl) ?_
  repeat ((refine HQ.Al (ls := x.vals) rfl rfl rfl (Rd.ofRow (by repeat constructor)) rfl rfl ?_))
  refine HQ.Ap rfl ?_
  refine HB.ev1 (i := 1) (by kernel_rfl) rfl ?_
  refine H.Am rfl rfl rfl (hmay _) ?_
  repeat ((apply H.nil))
  refine H.on0 rfl ?_
  refine HB.Aq [(2, false), (3, false), (4, false), (5, false), (6, false), (7, false), (9, false), (10, false)] 4 (by kernel_rfl) ?_
  repeat (first | ((apply HQ.Ac); (iterate 3 exact rfl)) | (apply HQ.Bd; (iterate 2 exact rfl)))
  refine HQ.Ap rfl ?_
  refine HB.ev1 (i := 8) (by kernel_rfl) rfl ?_
  repeat (first | (apply H.nil) | (apply H.Bd; (iterate 2 exact rfl)))
  refine H.on0 rfl ?_
  refine HB.ev1 (i := 11) (by kernel_rfl) rfl ?_
  repeat (first | (apply H.nil) | (apply H.Bd; (iterate 2 exact rfl)))
  refine H.on0 rfl ?_
  refine HB.Aq [(12, false), (13, false)] 0 (by kernel_rfl) ?_
  repeat (first | ((apply HQ.Ad); (iterate 3 exact rfl)) | ((apply HQ.Ay); (iterate 4 exact rfl)))
  refine HQ.Ap rfl ?_
  refine HB.Bf (by kernel_rfl) ?_
  repeat (first | (apply H.Aa) | (apply H.ret))
  refine H.Ah (x := row mb _ _) (by repeat constructor) ?_
  exact H.Aj rfl rfl (fun _ h => h) ⟨rfl, rfl, rfl⟩
end
def refC (n : Nat) (p : Option Addr) (m c : Nat) (v : Nat → Int) : List Value := [.int .i64 (n : Int), .slice p m c] ++ v11 v
def refφ (f : Frag) (n : Nat) (l : List MV) : Prop := (∀ x ∈ l, x.Good f) ∧ l.length ≤ 100000 ∧ LOK n (l.map MV.m) ∧ n ≤ 11
def refL (f : Frag) (rb n : Nat) (l : List MV) : HP := pack (fun _ : Option Addr × Nat => refφ f n l) (fun i => [row rb 63 (refC n i.1 l.length i.2 (knownS (strm (l.map MV.m)))), slc i.1 l.length i.2 47 121 (l.flatMap MV.vals)])
theorem zaz {fl : Frag} {F : List HP} {rb n : Nat} {l : List MV} (i : Option Addr × Nat) (h : refφ fl n l) : ∀ x, stars (row rb 63 (refC n i.1 l.length i.2 (knownS (strm (l.map MV.m)))) :: slc i.1 l.length i.2 47 121 (l.flatMap MV.vals) :: F) x → stars (refL fl rb n l :: F) x := fun x hx =>
 pack_fold (ι := Option Addr × Nat) (φ := fun _ => refφ fl n l) (B := fun i => [row rb 63 (refC n i.1 l.length i.2 (knownS (strm (l.map MV.m)))), slc i.1 l.length i.2 47 121 (l.flatMap MV.vals)]) i h x hx
theorem refL_mono {f g : Frag} (h : Le f g) {rb n : Nat} {l : List MV} : ∀ x, refL f rb n l x → refL g rb n l x := fun _ ⟨i, hi, hx⟩ => ⟨i, ⟨fun x hx => (hi.1 x hx).mono h, hi.2⟩, hx⟩
theorem ref_up {f g : Frag} (h : Le f g) {rb n : Nat} {l : List MV} {A : List HP} : ∀ x, stars (refL f rb n l :: A) x → stars (refL g rb n l :: A) x :=
 fun _ ⟨h1, h2, hd, he, ha, hr⟩ => ⟨h1, h2, hd, he, refL_mono h _ ha, hr⟩
theorem refC_deps {f : Frag} {A A' : List HP} {rb n : Nat} {T : TypeId} {p : Option Addr} {m c : Nat} {v : Nat → Int} (h : At A (row rb T (refC n p m c v)) A' (row rb T (refC n p m c v))) : Rd f A rb (0 + 2) (v11 v) := by
 have h1 := Rd.ofRow (f := f) h
 have e : refC n p m c v = [.int .i64 (n : Int), .slice p m c] ++ v11 v ++ [] := by unfold refC; rw [List.append_nil]
 rw [e] at h1
 exact h1.sub rfl
theorem getM_at {l : List Msg} {i : Nat} {y : Msg} {o z : Int} (hy : l[i]? = some y) (h1 : y.origin = o) (h2 : y.number = z) (hb : ∀ j x, j < i → l[j]? = some x → ¬ (x.origin = o ∧ x.number = z)) : getM l o z = (y, true) := by
 have hf : findM l o z = some y := by
  unfold findM
  have e := take_cons_drop hy
  rw [e, List.find?_append]
  have h0 : (l.take i).find? (fun x => decide (x.origin = o) && decide (x.number = z)) = none := by
   rw [List.find?_eq_none]
   intro x hx hp
   obtain ⟨j, hj⟩ := List.getElem?_of_mem hx
   rw [List.getElem?_take] at hj
   split at hj
   ·rename_i hlt
    simp only [Bool.and_eq_true, decide_eq_true_eq] at hp
    exact hb j x hlt hj hp
   ·cases hj
  rw [h0, List.find?_cons, h1, h2]
  simp
 unfold getM
 rw [hf]
theorem getM_none {l : List Msg} {o z : Int} (hb : ∀ j x, j < l.length → l[j]? = some x → ¬ (x.origin = o ∧ x.number = z)) : getM l o z = (msgZ, false) := by
 have hf : findM l o z = none := by
  unfold findM
  rw [List.find?_eq_none]
  intro x hx hp
  obtain ⟨j, hj⟩ := List.getElem?_of_mem hx
  simp only [Bool.and_eq_true, decide_eq_true_eq] at hp
  have hjl : j < l.length := by
   rcases Nat.lt_or_ge j l.length with h | h
   ·exact h
   ·rw [List.getElem?_eq_none h] at hj; cases hj
  exact hb j x hjl hj hp
 unfold getM
 rw [hf]
def RGetP (f : Frag) (A : List HP) (r : Msg × Bool) : Value → Frag → List HP → Prop := fun v f' A' => ∃ y : MV, v = .tuple #[.agg y.vals.toArray, .bool r.2] ∧ y.m = r.1 ∧ y.Good f ∧ f' = f ∧ A' = A
section
variable (f : Frag) (F : List HP)
theorem rlnew_fn {n : Nat} (h : fewZ (n : Int)) : Fn Tryz.prog 26 [.int .i64 (n : Int)] f F (RetE (fun rb : Nat => .tuple #[.pointer (some ⟨rb, 0, none⟩), .int .i64 0]) f (fun rb => refL f rb n [] :: F)) := by
 obtain ⟨h1, h2, h3⟩ := h
 have hn : n ≤ 11 := by omega
 refine Fn.enter Tryz.func26 rfl Tryz.ntmps26 rfl (L := [(0, _)]) ⟨rfl, trivial⟩ fun base => ?_
 repeat (first | (refine H.rem (z := 1) rfl rfl rfl (by decide) h3 rfl ?_) | (refine H.By (t := 63) (out := refC n none 0 0 (fun _ => 0)) rfl rfl rfl (by kernel_rfl) rfl ?_) | ((first | apply H.Ac | apply H.Ad); (iterate 3 exact rfl)) | (first | apply H.seq | apply H.Ab | apply H.nil | apply H.Aa) | ((apply H.cmp); (iterate 5 exact rfl)) | ((apply H.Ay); (iterate 4 exact rfl)) | (apply H.Av; exact rfl) | (apply H.Ak) | (apply H.gno; (iterate 3 exact rfl); (omega)))
 refine H.box (ls := refC n none 0 0 (fun _ => 0)) rfl rfl rfl rfl fun rb => ?_
 repeat (first | ((apply H.Ad); (iterate 3 exact rfl)) | (first | apply H.nil | apply H.Aa) | (apply H.ret))
 refine H.slc0 47 121 ?_
 refine H.Ae (x := row rb _ _) (by repeat constructor) ?_
 refine H.imp (zaz (l := []) (fl := f) (none, 0) ⟨fun x hx => (by cases hx), Nat.zero_le _, LOK.nil n, hn⟩) ?_
 exact H.ret2 rfl rfl rfl (fun _ h => h) ⟨rb, rfl, rfl, rfl⟩
set_option maxRecDepth 20000 in
set_option maxHeartbeats 1600000 in
theorem rlget_fn {fl : Frag} (hfl : Le fl f) {rb n : Nat} {l : List MV} {og z : Int} :
  Fn Tryz.prog 29 [.pointer (some ⟨rb, 0, none⟩), .int .i64 og, .int .u64 z] f (refL fl rb n l :: F) (RGetP f (refL fl rb n l :: F) (getM (l.map MV.m) og z)) := by
 refine Fn.unpack fun i0 hi0 => ?_
 obtain ⟨p, c⟩ := i0
 have hll := hi0.2.1
 refine Fn.enter Tryz.func29 rfl Tryz.ntmps29 rfl (L := [(0, _), (1, _), (2, _)]) ⟨rfl, rfl, rfl, trivial⟩ fun base => ?_
 repeat ((first | apply H.seq | apply H.Ab))
 refine H.Bg (ls := msgZ.vals none 0) rfl rfl rfl fun ob => ?_
 repeat (first | ((apply H.Ad); (iterate 3 exact rfl)) | (first | apply H.seq | apply H.Ab | apply H.nil | apply H.Aa) | (apply H.Ao))
 refine H.Bo (ι := Nat) (fun i => [(8, .int .i64 (i : Int)), (0, .pointer (some ⟨rb, 0, none⟩)), (1, .int .i64 og), (2, .int .u64 z), (6, .pointer (some ⟨ob, 0, none⟩))]) (fun _ => f)
  (fun _ => row ob 47 (msgZ.vals none 0) :: row rb 63 (refC n p l.length c (knownS (strm (l.map MV.m)))) :: slc p l.length c 47 121 (l.flatMap MV.vals) :: F)
  (fun i => i ≤ l.length ∧ ∀ j x, j < i → l[j]? = some x → ¬ (x.m.origin = og ∧ x.m.number = z)) (fun i => l.length - i) 0 ⟨Nat.zero_le _, fun j x hj => by omega⟩ ⟨rfl, rfl, rfl, rfl, rfl, trivial⟩ rfl rfl fun i hi => ?_
 obtain ⟨hi, hb⟩ : i ≤ l.length ∧ ∀ j x, j < i → l[j]? = some x → ¬ (x.m.origin = og ∧ x.m.number = z) := hi
 have hbm : ∀ j x, j < i → (l.map MV.m)[j]? = some x → ¬ (x.origin = og ∧ x.number = z) := fun j x hj hx => by
  rw [List.getElem?_map] at hx
  cases hl : l[j]? with
  | none => rw [hl] at hx; cases hx
  | some y => rw [hl] at hx; cases hx; exact hb j y hj hl
 by_cases hlt : i < l.length
 ·obtain ⟨y, hy⟩ : ∃ y, l[i]? = some y := ⟨_, List.getElem?_eq_getElem hlt⟩
  have hyg := (hi0.1 y (List.mem_of_getElem? hy)).mono hfl
  refine H.Ae (x := slc p _ c _ _ _) (by repeat constructor) ?_
  refine H.Cf (p := p) (n0 := l.length) (c := c) (.here _ _ _) (by omega) fun sb hp => ?_
  subst hp
  have rd : ∀ {G}, Rd f (slc (some ⟨sb, 0, none⟩) l.length c 47 121 (l.flatMap MV.vals) :: G) sb (0 + i * 121) y.vals := fun {G} => by rw [Nat.zero_add]; exact Rd.slcElem MV.len (by decide) (.here _ _ _) hy
  repeat (first | ((first | apply H.Ac | apply H.Ar | apply H.Az); (iterate 3 exact rfl)) | (apply H.Ag; (iterate 3 exact rfl); exact inferInstance; exact rfl) | (apply H.Af; (iterate 3 exact rfl); apply Rd1.ofRow; (repeat (first | exact .here _ _ _ | apply At.there)); (iterate 2 exact rfl)) | (first | apply H.seq | apply H.Ab | apply H.nil | apply H.Aa) | ((apply H.cmp); (iterate 5 exact rfl)) | (first | apply H.Ak | apply H.Ao) | (apply H.Au; exact rfl; (omega)))
  refine H.Bs (i := i) rfl rfl rfl rfl hlt rfl ?_
  repeat ((apply H.Ag; (iterate 3 exact rfl); exact inferInstance; exact rfl))
  refine H.Af rfl rfl rfl (Rd1.of (i := 0) rd rfl) rfl ?_
  by_cases h1 : y.m.origin = og
  ·repeat (first | ((first | apply H.Ac | apply H.Ar); (iterate 3 exact rfl)) | (apply H.Ag; (iterate 3 exact rfl); exact inferInstance; exact rfl) | (apply H.Af; (iterate 3 exact rfl); apply Rd1.ofRow; (repeat (first | exact .here _ _ _ | apply At.there)); (iterate 2 exact rfl)) | ((apply H.cmp); (iterate 5 exact rfl)) | (apply H.Bi; (iterate 3 exact rfl); (assumption)))
   refine H.Bs (i := i) rfl rfl rfl rfl hlt rfl ?_
   repeat ((apply H.Ag; (iterate 3 exact rfl); exact inferInstance; exact rfl))
   refine H.Af rfl rfl rfl (Rd1.of (i := 1) rd rfl) rfl ?_
   by_cases h2 : y.m.number = z
   ·repeat (first | ((first | apply H.Ac | apply H.Ar); (iterate 3 exact rfl)) | (apply H.Ag; (iterate 3 exact rfl); exact inferInstance; exact rfl) | (apply H.Af; (iterate 3 exact rfl); apply Rd1.ofRow; (repeat (first | exact .here _ _ _ | apply At.there)); (iterate 2 exact rfl)) | (first | apply H.seq | apply H.Ab | apply H.nil | apply H.Aa) | ((apply H.cmp); (iterate 5 exact rfl)) | (apply H.Ax; (iterate 4 exact rfl)) | (apply H.Au; exact rfl; (assumption)))
    refine H.Bs (i := i) rfl rfl rfl rfl hlt rfl ?_
    refine H.Al (ls := y.vals) rfl rfl rfl rd rfl rfl ?_
    refine H.Bb (ls := msgZ.vals none 0) (vs := y.vals) (ls' := y.vals) rfl rfl rfl (zad rfl) rfl rfl (Nat.le_refl 121) (.there _ (.here _ _ _)) ?_
    repeat (first | ((apply H.Ad); (iterate 3 exact rfl)) | (first | apply H.nil | apply H.Aa) | (first | apply H.ret | apply H.Be | apply H.Bx | apply H.Cd))
    refine H.Ae (x := row rb _ _) (by repeat constructor) ?_
    refine H.Ae (x := row ob _ _) (by repeat constructor) ?_
    have hget : getM (l.map MV.m) og z = (y.m, true) := getM_at (i := i) (by rw [List.getElem?_map, hy]; rfl) h1 h2 hbm
    rw [hget]
    exact H.retCT (ls := y.vals) rfl rfl rfl rfl (Rd.ofRow (.here _ _ _)) rfl (fun _ s => (s.drop (.here _ _)).imp (zaz (some ⟨sb, 0, none⟩, c) hi0)) ⟨y, rfl, rfl, hyg, rfl, rfl⟩
   ·repeat (first | ((first | apply H.Ac | apply H.Ad); (iterate 3 exact rfl)) | (first | apply H.Ab | apply H.nil | apply H.Aa) | ((apply H.cmp); (iterate 5 exact rfl)) | ((apply H.ar; (iterate 4 exact rfl)); (with_reducible apply zag; omega); exact rfl) | (apply H.Ax; (iterate 4 exact rfl)) | (first | apply H.Ak | apply H.Ba) | (apply H.Aw; exact rfl; (assumption)))
    refine H.Ae (x := row rb _ _) (by repeat constructor) ?_
    refine H.Ae (x := row ob _ _) (by repeat constructor) ?_
    refine H.Bc (i + 1) ⟨by show i + 1 ≤ l.length; omega, fun j x hj hx => ?_⟩ (by show l.length - (i + 1) < l.length - i; omega) ⟨rfl, rfl, rfl, rfl, rfl, trivial⟩ rfl rfl
    by_cases e : j = i
    ·subst e; rw [hy] at hx; cases hx; exact fun h => h2 h.2
    ·exact hb j x (by omega) hx
  ·repeat (first | ((first | apply H.Ac | apply H.Ad | apply H.Ar); (iterate 3 exact rfl)) | (first | apply H.Ab | apply H.nil | apply H.Aa) | ((apply H.cmp); (iterate 5 exact rfl)) | ((apply H.ar; (iterate 4 exact rfl)); (with_reducible apply zag; omega); exact rfl) | (apply H.Bd; (iterate 2 exact rfl)) | ((apply H.Ay); (iterate 4 exact rfl)) | (apply H.Av; exact rfl) | (first | apply H.Ak | apply H.Ba) | (apply H.gno; (iterate 3 exact rfl); (assumption)))
   refine H.Ae (x := row rb _ _) (by repeat constructor) ?_
   refine H.Ae (x := row ob _ _) (by repeat constructor) ?_
   refine H.Bc (i + 1) ⟨by show i + 1 ≤ l.length; omega, fun j x hj hx => ?_⟩ (by show l.length - (i + 1) < l.length - i; omega) ⟨rfl, rfl, rfl, rfl, rfl, trivial⟩ rfl rfl
   by_cases e : j = i
   ·subst e; rw [hy] at hx; cases hx; exact fun h => h1 h.1
   ·exact hb j x (by omega) hx
 ·have e : i = l.length := by omega
  subst e
  have hget : getM (l.map MV.m) og z = (msgZ, false) := getM_none fun j x hj hx => hbm j x (by rw [List.length_map] at hj; exact hj) hx
  rw [hget]
  repeat (first | (refine H.By (t := 47) (out := msgZ.vals none 0) rfl rfl rfl (by kernel_rfl) rfl ?_) | ((first | apply H.Ac | apply H.Ar | apply H.Az); (iterate 3 exact rfl)) | (apply H.Ag; (iterate 3 exact rfl); exact inferInstance; exact rfl) | (apply H.Af; (iterate 3 exact rfl); apply Rd1.ofRow; (repeat (first | exact .here _ _ _ | apply At.there)); (iterate 2 exact rfl)) | (first | apply H.seq | apply H.Ab | apply H.nil | apply H.Aa) | ((apply H.cmp); (iterate 5 exact rfl)) | (first | apply H.Bl | apply H.Bj | apply H.Bk | apply H.Bm) | (apply H.Aw; exact rfl; (omega)))
  refine H.Bb (ls := msgZ.vals none 0) (vs := msgZ.vals none 0) (ls' := msgZ.vals none 0) rfl rfl rfl (zad rfl) rfl rfl (Nat.le_refl 121) (.here _ _ _) ?_
  repeat (first | ((apply H.Ad); (iterate 3 exact rfl)) | (first | apply H.nil | apply H.Aa) | (apply H.ret))
  exact H.retCT (ls := msgZ.vals none 0) rfl rfl rfl rfl (Rd.ofRow (.here _ _ _)) rfl (fun _ s => (s.drop (.here _ _)).imp (zaz (p, c) hi0)) ⟨⟨msgZ, none, 0⟩, rfl, rfl, msgZ_good _, rfl, rfl⟩
end
def Pos (m : Msg) : Prop := ∀ i, i < 11 → 0 ≤ m.deps i
theorem fitsB_no1 {n : Nat} {m : Msg} {i : Nat} {p : Int × Int} (hp : m.body.q[i]? = some p) (h : (n : Int) < p.1) : fitsB n m = false := by
 unfold fitsB
 have : m.body.q.all (fun p => decide (p.1 ≤ (n : Int))) = false := List.all_eq_false.2 ⟨p, List.mem_of_getElem? hp, by rw [decide_eq_false (by omega)]; decide⟩
 rw [this]; simp
theorem fitsB_no2 {n : Nat} {m : Msg} {i : Nat} (hi : i < 11) (hn : n ≤ i) (h : ¬ m.deps i = 0) (hp : Pos m) : fitsB n m = false := by
 unfold fitsB
 have h0 := hp i hi
 have : (List.range 11).all (fun i => decide (i < n) || decide (m.deps i ≤ 0)) = false := List.all_eq_false.2 ⟨i, List.mem_range.2 hi, by rw [decide_eq_false (by omega), decide_eq_false (by omega)]; decide⟩
 rw [this]; simp
theorem fitsB_yes {n : Nat} {m : Msg} (h1 : m.may = true) (h2 : m.origin ≤ (n : Int)) (h3 : ∀ (j : Nat) x, j < m.body.q.length → m.body.q[j]? = some x → x.1 ≤ (n : Int)) (h4 : ∀ j : Nat, n ≤ j → j < 11 → m.deps j = 0) : fitsB n m = true := by
 unfold fitsB
 rw [h1, decide_eq_true h2]
 simp only [Bool.true_and, Bool.and_eq_true]
 constructor
 ·rw [List.all_eq_true]
  intro x hx
  obtain ⟨j, hj⟩ := List.getElem?_of_mem hx
  have hjl : j < m.body.q.length := by
   rcases Nat.lt_or_ge j m.body.q.length with h | h
   ·exact h
   ·rw [List.getElem?_eq_none h] at hj; cases hj
  exact decide_eq_true (h3 j x hjl hj)
 ·rw [List.all_eq_true]
  intro j hj
  have hj := List.mem_range.1 hj
  rw [Bool.or_eq_true, decide_eq_true_eq, decide_eq_true_eq]
  by_cases h : j < n
  ·exact .inl h
  ·exact .inr (by rw [h4 j (by omega) hj]; exact Int.le_refl _)
section
variable (f : Frag) (F : List HP)
set_option maxHeartbeats 1600000 in
theorem rform_fn {rb n : Nat} {p : Option Addr} {m c : Nat} {v : Nat → Int} (hn : n ≤ 11) {x : MV} (hx : x.Good f) (hpos : Pos x.m) : Fn Tryz.prog 87 [.pointer (some ⟨rb, 0, none⟩), .agg x.vals.toArray] f (row rb 63 (refC n p m c v) :: F)
  (Ret (.bool (fitsB n x.m)) f (row rb 63 (refC n p m c v) :: F)) := by
 have hq : x.m.body.q.length ≤ 1000000000 := by have := hx.2.1; omega
 have hmay : ∀ G, Fn Tryz.prog 54 [.agg x.vals.toArray] f G (Ret (.bool x.m.may) f G) := fun G => rmay_fn f G hx.1 hq
 by_cases hm : x.m.may = true
 ·rw [hm] at hmay
  by_cases ho : x.m.origin ≤ (n : Int)
  ·skip
   refine Fn.enter Tryz.func87 rfl Tryz.ntmps87 rfl (L := [(0, _), (1, _)]) ⟨rfl, rfl, trivial⟩ fun base => ?_
   repeat ((first | apply H.seq | apply H.Ab))
   refine H.box (ls := x.vals) rfl rfl rfl rfl fun mb => ?_
   repeat (first | ((apply H.Ad); (iterate 3 exact rfl)) | (first | apply H.seq | apply H.nil | apply H.Aa))
   refine H.Bt (by kernel_rfl) (by decide +kernel) (by repeat (first | exact zab | refine zaa ?_ | refine zac ?_ | refine zae ?_)) (S := [_, _]) rfl ?_
   refine HB.Aq [(0, false)] 11 (by kernel_rfl) ?_
   refine HQ.Al (ls := x.vals) rfl rfl rfl (Rd.ofRow (.here _ _ _)) rfl rfl ?_
   refine HQ.Ap rfl ?_
   refine HB.ev1 (i := 1) (by kernel_rfl) rfl ?_
   refine H.Am rfl rfl rfl (hmay _) ?_
   repeat ((apply H.nil))
   refine H.on0 rfl ?_
   refine HB.Aq [(2, false), (3, false), (4, false), (5, false), (6, false), (7, false), (8, false), (9, false), (10, false), (11, false)] 0 (by kernel_rfl) ?_
   repeat (first | ((first | apply HQ.Ac | apply HQ.Ar); (iterate 3 exact rfl)) | (apply HQ.Ag; (iterate 3 exact rfl); exact inferInstance; exact rfl) | (apply HQ.Af; (iterate 3 exact rfl); apply Rd1.ofRow; (repeat (first | exact .here _ _ _ | apply At.there)); (iterate 2 exact rfl)) | ((apply HQ.cmp); (iterate 5 exact rfl)) | ((first | apply HQ.Ay | apply HQ.not); (iterate 4 exact rfl)))
   refine HQ.Ap rfl ?_
   refine HB.Bf (by kernel_rfl) ?_
   repeat (first | ((apply H.Ad); (iterate 3 exact rfl)) | (first | apply H.seq | apply H.Ab | apply H.nil | apply H.Aa) | (first | apply H.Ak | apply H.Ao) | (apply H.Aw; exact rfl; (omega)))
   refine H.Bo (ι := Nat) (fun i => [(5, .int .i64 (i : Int)), (0, .pointer (some ⟨rb, 0, none⟩)), (3, .pointer (some ⟨mb, 0, none⟩))]) (fun _ => f) (fun _ => row mb 47 x.vals :: row rb 63 (refC n p m c v) :: F)
    (fun i => i ≤ x.m.body.q.length ∧ ∀ (j : Nat) y, j < i → x.m.body.q[j]? = some y → y.1 ≤ (n : Int)) (fun i => x.m.body.q.length - i) 0 ⟨Nat.zero_le _, fun j y hj => by omega⟩ ⟨rfl, rfl, rfl, trivial⟩ rfl rfl fun i hi => ?_
   obtain ⟨hi, hb⟩ : i ≤ x.m.body.q.length ∧ ∀ (j : Nat) y, j < i → x.m.body.q[j]? = some y → y.1 ≤ (n : Int) := hi
   by_cases hlt : i < x.m.body.q.length
   ·obtain ⟨y, hy⟩ : ∃ y, x.m.body.q[i]? = some y := ⟨_, List.getElem?_eq_getElem hlt⟩
    obtain ⟨b, off, cs, T, fr, hqp, hfb, hcs⟩ := hx.1 i y hy
    have rd : ∀ A, Rd f A b (off + i * 2) (pairV y) := fun A => Rd.imm hfb hcs
    have hxv : x.vals = x.m.vals (some ⟨b, off, none⟩) x.qc := by unfold MV.vals; rw [hqp]
    rw [hxv]
    by_cases hyn : y.1 ≤ (n : Int)
    ·repeat (first | ((first | apply H.Ac | apply H.Az); (iterate 3 exact rfl)) | (apply H.Ag; (iterate 3 exact rfl); exact inferInstance; exact rfl) | (apply H.Af; (iterate 3 exact rfl); apply Rd1.ofRow; (repeat (exact .here _ _ _)); (iterate 2 exact rfl)) | (first | apply H.seq | apply H.Ab | apply H.nil | apply H.Aa) | ((apply H.cmp); (iterate 5 exact rfl)) | (first | apply H.Ak | apply H.Ao) | (apply H.Au; exact rfl; (omega)))
     refine H.Bz (by kernel_rfl) (by decide +kernel) (by repeat (first | exact zab | refine zaa ?_ | refine zac ?_ | refine zae ?_)) ?_
     repeat (first | ((apply HQ.Ac); (iterate 3 exact rfl)) | (apply HQ.Ag; (iterate 3 exact rfl); exact inferInstance; exact rfl) | (apply HQ.Af; (iterate 3 exact rfl); apply Rd1.ofRow; (repeat (exact .here _ _ _)); (iterate 2 exact rfl)))
     refine HQ.Bs (i := i) rfl rfl rfl rfl hlt rfl ?_
     repeat ((apply HQ.Ag; (iterate 3 exact rfl); exact inferInstance; exact rfl))
     refine HQ.Af rfl rfl rfl (Rd1.of (i := 0) (rd _) rfl) rfl ?_
     repeat (first | ((first | apply HQ.Ac | apply HQ.Ar); (iterate 3 exact rfl)) | (apply HQ.Ag; (iterate 3 exact rfl); exact inferInstance; exact rfl) | (apply HQ.Af; (iterate 3 exact rfl); apply Rd1.ofRow; (repeat (first | exact .here _ _ _ | apply At.there)); (iterate 2 exact rfl)) | ((apply HQ.Bu); exact rfl) | ((apply HQ.cmp); (iterate 5 exact rfl)))
     repeat (first | ((first | apply H.Ac | apply H.Ad); (iterate 3 exact rfl)) | (first | apply H.Ab | apply H.nil | apply H.Aa) | ((apply H.ar; (iterate 4 exact rfl)); (with_reducible apply zag; omega); exact rfl) | (first | apply H.Ak | apply H.Ba) | (apply H.Aw; exact rfl; (omega)))
     refine H.Bc (i + 1) ⟨by show i + 1 ≤ x.m.body.q.length; omega, fun j z hj hz => ?_⟩ (by show x.m.body.q.length - (i + 1) < x.m.body.q.length - i; omega) ⟨rfl, rfl, rfl, trivial⟩ rfl rfl
     by_cases e : j = i
     ·subst e; rw [hy] at hz; cases hz; exact hyn
     ·exact hb j z (by omega) hz
    ·rw [fitsB_no1 hy (by omega)]
     repeat (first | ((first | apply H.Ac | apply H.Az); (iterate 3 exact rfl)) | (apply H.Ag; (iterate 3 exact rfl); exact inferInstance; exact rfl) | (apply H.Af; (iterate 3 exact rfl); apply Rd1.ofRow; (repeat (exact .here _ _ _)); (iterate 2 exact rfl)) | (first | apply H.seq | apply H.Ab | apply H.nil | apply H.Aa) | ((apply H.cmp); (iterate 5 exact rfl)) | (first | apply H.Ak | apply H.Ao) | (apply H.Au; exact rfl; (omega)))
     refine H.Bz (by kernel_rfl) (by decide +kernel) (by repeat (first | exact zab | refine zaa ?_ | refine zac ?_ | refine zae ?_)) ?_
     repeat (first | ((apply HQ.Ac); (iterate 3 exact rfl)) | (apply HQ.Ag; (iterate 3 exact rfl); exact inferInstance; exact rfl) | (apply HQ.Af; (iterate 3 exact rfl); apply Rd1.ofRow; (repeat (exact .here _ _ _)); (iterate 2 exact rfl)))
     refine HQ.Bs (i := i) rfl rfl rfl rfl hlt rfl ?_
     repeat ((apply HQ.Ag; (iterate 3 exact rfl); exact inferInstance; exact rfl))
     refine HQ.Af rfl rfl rfl (Rd1.of (i := 0) (rd _) rfl) rfl ?_
     repeat (first | ((first | apply HQ.Ac | apply HQ.Ar); (iterate 3 exact rfl)) | (apply HQ.Ag; (iterate 3 exact rfl); exact inferInstance; exact rfl) | (apply HQ.Af; (iterate 3 exact rfl); apply Rd1.ofRow; (repeat (first | exact .here _ _ _ | apply At.there)); (iterate 2 exact rfl)) | ((apply HQ.Bu); exact rfl) | ((apply HQ.cmp); (iterate 5 exact rfl)))
     repeat (first | ((apply H.Ad); (iterate 3 exact rfl)) | (first | apply H.seq | apply H.Ab | apply H.nil | apply H.Aa) | (first | apply H.ret | apply H.Be | apply H.Bx | apply H.Cd) | (apply H.Au; exact rfl; (omega)))
     refine H.Ah (.here _ _) ?_
     exact H.Aj rfl rfl (fun _ h => h) ⟨rfl, rfl, rfl⟩
   ·have e : i = x.m.body.q.length := by omega
    subst e
    repeat (first | ((first | apply H.Ac | apply H.Ad | apply H.Ar | apply H.Az); (iterate 3 exact rfl)) | (apply H.Ag; (iterate 3 exact rfl); exact inferInstance; exact rfl) | (apply H.Af; (iterate 3 exact rfl); apply Rd1.ofRow; (repeat (first | exact .here _ _ _ | apply At.there)); (iterate 2 exact rfl)) | (first | apply H.seq | apply H.Ab | apply H.nil | apply H.Aa) | ((apply H.cmp); (iterate 5 exact rfl)) | (first | apply H.Bl | apply H.Bj | apply H.Ao | apply H.Bk | apply H.Bm) | (apply H.Aw; exact rfl; (omega)))
    refine H.Bo (ι := Nat) (fun i => [(6, .int .i64 (i : Int)), (0, .pointer (some ⟨rb, 0, none⟩)), (3, .pointer (some ⟨mb, 0, none⟩))]) (fun _ => f) (fun _ => row mb 47 x.vals :: row rb 63 (refC n p m c v) :: F)
     (fun i => n ≤ i ∧ i ≤ 11 ∧ ∀ j : Nat, n ≤ j → j < i → x.m.deps j = 0) (fun i => 11 - i) n ⟨Nat.le_refl _, hn, fun j h1 h2 => by omega⟩ ⟨rfl, rfl, rfl, trivial⟩ rfl rfl fun i hi => ?_
    obtain ⟨hni, hi, hd⟩ : n ≤ i ∧ i ≤ 11 ∧ ∀ j : Nat, n ≤ j → j < i → x.m.deps j = 0 := hi
    by_cases hi11 : i < 11
    ·by_cases hz : x.m.deps i = 0
     ·repeat (first | ((apply H.Ac); (iterate 3 exact rfl)) | (apply H.Ag; (iterate 3 exact rfl); exact inferInstance; exact rfl) | (first | apply H.seq | apply H.Ab | apply H.nil | apply H.Aa) | ((apply H.cmp); (iterate 5 exact rfl)) | (first | apply H.Ak | apply H.Ao) | (apply H.Au; exact rfl; (omega)))
      refine H.Br (i := i) rfl rfl rfl rfl hi11 rfl ?_
      refine H.Af rfl rfl rfl (by rw [Nat.mul_one]; exact Rd1.of (zak (m := x.m) (q := x.qp) (qc := x.qc) (.here _ _ _)) (zam x.m.deps hi11)) rfl ?_
      repeat (first | ((first | apply H.Ac | apply H.Ad); (iterate 3 exact rfl)) | (first | apply H.Ab | apply H.nil | apply H.Aa) | ((apply H.cmp); (iterate 5 exact rfl)) | ((apply H.ar; (iterate 4 exact rfl)); (with_reducible apply zag; omega); exact rfl) | (first | apply H.Ak | apply H.Ba) | (apply H.Aw; exact rfl; (omega)))
      refine H.Bc (i + 1) ⟨by show n ≤ i + 1; omega, by show i + 1 ≤ 11; omega, fun j h1 h2 => ?_⟩ (by show 11 - (i + 1) < 11 - i; omega) ⟨rfl, rfl, rfl, trivial⟩ rfl rfl
      by_cases e : j = i
      ·rw [e]; exact hz
      ·exact hd j h1 (by omega)
     ·rw [fitsB_no2 hi11 hni hz hpos]
      repeat (first | ((apply H.Ac); (iterate 3 exact rfl)) | (apply H.Ag; (iterate 3 exact rfl); exact inferInstance; exact rfl) | (first | apply H.seq | apply H.Ab | apply H.nil | apply H.Aa) | ((apply H.cmp); (iterate 5 exact rfl)) | (first | apply H.Ak | apply H.Ao) | (apply H.Au; exact rfl; (omega)))
      refine H.Br (i := i) rfl rfl rfl rfl hi11 rfl ?_
      refine H.Af rfl rfl rfl (by rw [Nat.mul_one]; exact Rd1.of (zak (m := x.m) (q := x.qp) (qc := x.qc) (.here _ _ _)) (zam x.m.deps hi11)) rfl ?_
      repeat (first | ((apply H.Ad); (iterate 3 exact rfl)) | (first | apply H.seq | apply H.Ab | apply H.nil | apply H.Aa) | ((apply H.cmp); (iterate 5 exact rfl)) | (first | apply H.ret | apply H.Be | apply H.Bx | apply H.Cd) | (apply H.Au; exact rfl; (assumption)))
      refine H.Ah (.here _ _) ?_
      exact H.Aj rfl rfl (fun _ h => h) ⟨rfl, rfl, rfl⟩
    ·have e : i = 11 := by omega
     subst e
     rw [fitsB_yes hm ho hb hd]
     repeat (first | ((first | apply H.Ac | apply H.Ad); (iterate 3 exact rfl)) | (first | apply H.seq | apply H.Ab | apply H.nil | apply H.Aa) | ((apply H.cmp); (iterate 5 exact rfl)) | (apply H.Av; exact rfl) | (first | apply H.ret | apply H.Bl | apply H.Bj | apply H.Bk | apply H.Bm))
     refine H.Ah (.here _ _) ?_
     exact H.Aj rfl rfl (fun _ h => h) ⟨rfl, rfl, rfl⟩
  ·have e : fitsB n x.m = false := by unfold fitsB; rw [decide_eq_false ho]; simp
   rw [e]
   refine Fn.enter Tryz.func87 rfl Tryz.ntmps87 rfl (L := [(0, _), (1, _)]) ⟨rfl, rfl, trivial⟩ fun base => ?_
   repeat ((first | apply H.seq | apply H.Ab))
   refine H.box (ls := x.vals) rfl rfl rfl rfl fun mb => ?_
   repeat (first | ((apply H.Ad); (iterate 3 exact rfl)) | (first | apply H.seq | apply H.nil | apply H.Aa))
   refine H.Bt (by kernel_rfl) (by decide +kernel) (by repeat (first | exact zab | refine zaa ?_ | refine zac ?_ | refine zae ?_)) (S := [_, _]) rfl ?_
   refine HB.Aq [(0, false)] 11 (by kernel_rfl) ?_
   refine HQ.Al (ls := x.vals) rfl rfl rfl (Rd.ofRow (.here _ _ _)) rfl rfl ?_
   refine HQ.Ap rfl ?_
   refine HB.ev1 (i := 1) (by kernel_rfl) rfl ?_
   refine H.Am rfl rfl rfl (hmay _) ?_
   repeat ((apply H.nil))
   refine H.on0 rfl ?_
   refine HB.Aq [(2, false), (3, false), (4, false), (5, false), (6, false), (7, false), (8, false), (9, false), (10, false), (11, false)] 0 (by kernel_rfl) ?_
   repeat (first | ((first | apply HQ.Ac | apply HQ.Ar); (iterate 3 exact rfl)) | (apply HQ.Ag; (iterate 3 exact rfl); exact inferInstance; exact rfl) | (apply HQ.Af; (iterate 3 exact rfl); apply Rd1.ofRow; (repeat (first | exact .here _ _ _ | apply At.there)); (iterate 2 exact rfl)) | ((apply HQ.cmp); (iterate 5 exact rfl)) | ((first | apply HQ.Ay | apply HQ.not); (iterate 4 exact rfl)))
   refine HQ.Ap rfl ?_
   refine HB.Bf (by kernel_rfl) ?_
   repeat (first | ((apply H.Ad); (iterate 3 exact rfl)) | (first | apply H.seq | apply H.Ab | apply H.nil | apply H.Aa) | (first | apply H.ret | apply H.Be) | (apply H.Au; exact rfl; (omega)))
   refine H.Ah (.here _ _) ?_
   exact H.Aj rfl rfl (fun _ h => h) ⟨rfl, rfl, rfl⟩
 ·have hm : x.m.may = false := Bool.eq_false_iff.2 hm
  have e : fitsB n x.m = false := by unfold fitsB; rw [hm]; rfl
  rw [hm] at hmay
  rw [e]
  refine Fn.enter Tryz.func87 rfl Tryz.ntmps87 rfl (L := [(0, _), (1, _)]) ⟨rfl, rfl, trivial⟩ fun base => ?_
  repeat ((first | apply H.seq | apply H.Ab))
  refine H.box (ls := x.vals) rfl rfl rfl rfl fun mb => ?_
  repeat (first | ((apply H.Ad); (iterate 3 exact rfl)) | (first | apply H.seq | apply H.nil | apply H.Aa))
  refine H.Bt (by kernel_rfl) (by decide +kernel) (by repeat (first | exact zab | refine zaa ?_ | refine zac ?_ | refine zae ?_)) (S := [_, _]) rfl ?_
  refine HB.Aq [(0, false)] 11 (by kernel_rfl) ?_
  refine HQ.Al (ls := x.vals) rfl rfl rfl (Rd.ofRow (.here _ _ _)) rfl rfl ?_
  refine HQ.Ap rfl ?_
  refine HB.ev1 (i := 1) (by kernel_rfl) rfl ?_
  refine H.Am rfl rfl rfl (hmay _) ?_
  repeat ((apply H.nil))
  refine H.on0 rfl ?_
  refine HB.Aq [(2, false), (3, false), (4, false), (5, false), (6, false), (7, false), (8, false), (9, false), (10, false), (11, false)] 0 (by kernel_rfl) ?_
  repeat (first | ((first | apply HQ.Ac | apply HQ.Ar); (iterate 3 exact rfl)) | (apply HQ.Bd; (iterate 2 exact rfl)) | (apply HQ.Ax; (iterate 4 exact rfl)) | ((apply HQ.not); (iterate 4 exact rfl)))
  refine HQ.Ap rfl ?_
  refine HB.Bf (by kernel_rfl) ?_
  repeat (first | ((apply H.Ad); (iterate 3 exact rfl)) | (first | apply H.seq | apply H.Ab | apply H.nil | apply H.Aa) | (apply H.Bh; exact rfl) | (first | apply H.ret | apply H.Be))
  refine H.Ah (.here _ _) ?_
  exact H.Aj rfl rfl (fun _ h => h) ⟨rfl, rfl, rfl⟩
end
theorem aboveB_true {a b : Nat → Int} {i : Nat} (hi : i < 11) (h : b i < a i) : aboveB a b = true := by
 unfold aboveB
 rw [List.any_eq_true]
 exact ⟨i, List.mem_range.2 hi, decide_eq_true h⟩
section
variable (f : Frag) (F : List HP)
set_option maxRecDepth 20000 in
set_option maxHeartbeats 3200000 in
theorem rlcheck_fn {fl : Frag} (hfl : Le fl f) {rb n : Nat} {l : List MV} {x : MV} (hx : x.Good f) (hpos : Pos x.m) : Fn Tryz.prog 62 [.pointer (some ⟨rb, 0, none⟩), .agg x.vals.toArray] f (refL fl rb n l :: F)
  (Ret (.int .i64 (chk n (strm (l.map MV.m)) x.m)) f (refL fl rb n l :: F)) := by
 refine Fn.unpack fun i0 hi => ?_
 obtain ⟨p, c⟩ := i0
 have hn := hi.2.2.2
 have hform : ∀ {G}, Fn Tryz.prog 87 [.pointer (some ⟨rb, 0, none⟩), .agg x.vals.toArray] f (row rb 63 (refC n p l.length c (knownS (strm (l.map MV.m)))) :: G) (Ret (.bool (fitsB n x.m)) f (row rb 63 (refC n p l.length c (knownS (strm (l.map MV.m)))) :: G)) := fun {G} => rform_fn f G hn hx hpos
 have hright : ∀ {G}, Fn Tryz.prog 24 [.agg x.vals.toArray] f G (Ret (.bool x.m.right) f G) := fun {G} => rmright_fn f G hx
 refine Fn.enter Tryz.func62 rfl Tryz.ntmps62 rfl (L := [(0, _), (1, _)]) ⟨rfl, rfl, trivial⟩ fun base => ?_
 repeat ((first | apply H.seq | apply H.Ab))
 refine H.box (ls := x.vals) rfl rfl rfl rfl fun mb => ?_
 repeat (first | ((first | apply H.Ac | apply H.Ad); (iterate 3 exact rfl)) | (first | apply H.seq | apply H.Ab | apply H.nil | apply H.Aa))
 refine H.Al (ls := x.vals) rfl rfl rfl (Rd.ofRow (.here _ _ _)) rfl rfl ?_
 refine H.Ae (x := row rb _ _) (by repeat constructor) ?_
 refine H.Am rfl rfl rfl hform ?_
 refine H.not (b := _) (c := _) rfl rfl rfl rfl ?_
 cases h1 : fitsB n x.m with
 | false =>
  repeat (first | ((apply H.Ad); (iterate 3 exact rfl)) | (first | apply H.seq | apply H.Ab | apply H.nil | apply H.Aa) | (apply H.Bh; exact rfl) | (first | apply H.ret | apply H.Be))
  refine H.Ae (x := slc _ _ _ _ _ _) (by repeat constructor) ?_
  refine H.Ae (x := row rb _ _) (by repeat constructor) ?_
  refine H.imp (zaz (p, c) hi) ?_
  refine H.Ah (x := row mb _ _) (by repeat constructor) ?_
  refine H.Aj rfl rfl (fun _ h => h) ⟨?_, rfl, rfl⟩
  unfold chk
  rw [if_pos h1]
 | true =>
  obtain ⟨o, hoo, hoz, hon, ho11, ho1, ho2⟩ := fits_at h1 hn
  have hoe : x.m.origin = ((o + 1 : Nat) : Int) := by omega
  clear hform
  repeat (first | (first | apply H.seq | apply H.Ab | apply H.nil | apply H.Aa) | (apply H.Av; exact rfl) | (apply H.Ak))
  refine H.Al (ls := x.vals) rfl rfl rfl (Rd.ofRow (.there _ (.here _ _ _))) rfl rfl ?_
  refine H.Am rfl rfl rfl hright ?_
  refine H.not (b := _) (c := _) rfl rfl rfl rfl ?_
  clear hright
  cases h2 : x.m.right with
  | false =>
   repeat (first | ((apply H.Ad); (iterate 3 exact rfl)) | (first | apply H.seq | apply H.Ab | apply H.nil | apply H.Aa) | (apply H.Bh; exact rfl) | (first | apply H.ret | apply H.Be))
   refine H.Ae (x := slc _ _ _ _ _ _) (by repeat constructor) ?_
   refine H.Ae (x := row rb _ _) (by repeat constructor) ?_
   refine H.imp (zaz (p, c) hi) ?_
   refine H.Ah (x := row mb _ _) (by repeat constructor) ?_
   refine H.Aj rfl rfl (fun _ h => h) ⟨?_, rfl, rfl⟩
   unfold chk
   rw [if_neg (by rw [h1]; decide), if_pos h2]
  | true =>
   have hsl := strmV_le l o
   have hll := hi.2.1
   have hlen := strm_lenV l o
   have hv : (v11 (knownS (strm (l.map MV.m))))[o]? = some (.int .u64 (((strmV l o).length : Nat) : Int)) := by rw [zam _ ho11, knownS_len]
   have hchk : chk n (strm (l.map MV.m)) x.m = if x.m.number ≤ ((strmV l o).length : Nat) then 13 else
     if x.m.number = (((strmV l o).length + 1 : Nat) : Int) ∧ 0 < (strmV l o).length ∧ aboveB (lastD (strm (l.map MV.m) o)) x.m.deps = true then 1 else
     if (((strmV l o).length + 1 : Nat) : Int) < x.m.number ∨ aboveB x.m.deps (knownS (strm (l.map MV.m))) = true then 12 else 0 := by
    unfold chk
    rw [if_neg (by rw [h1]; decide), if_neg (by rw [h2]; decide), hoo, hlen]
   have hlast : 0 < (strmV l o).length → ∃ y : MV, lastD (strm (l.map MV.m) o) = y.m.deps ∧ getM (l.map MV.m) x.m.origin (((strmV l o).length : Nat) : Int) = (y.m, true) := fun h0 => by
    obtain ⟨y, hy⟩ : ∃ y, (strmV l o)[(strmV l o).length - 1]? = some y := ⟨_, List.getElem?_eq_getElem (by omega)⟩
    refine ⟨y, ?_, ?_⟩
    ·rw [← strmV_map]
     exact lastD_get (by rw [List.length_map, List.getElem?_map, hy]; rfl)
    ·have h5 := hi.2.2.1.find hon ((strmV l o).length - 1)
     rw [show (strmV l o).length - 1 + 1 = (strmV l o).length by omega, ← strmV_map, List.getElem?_map, hy] at h5
     unfold getM
     rw [hoe, h5]
     rfl
   have hget := fun G => rlget_fn f G hfl (rb := rb) (n := n) (l := l) (og := x.m.origin) (z := (((strmV l o).length : Nat) : Int))
   generalize (strmV l o).length = s at *
   repeat (first | (first | apply H.seq | apply H.nil | apply H.Aa) | (apply H.Av; exact rfl) | (apply H.Ak))
   refine H.Bz (by kernel_rfl) (by decide +kernel) (by repeat (first | exact zab | refine zaa ?_ | refine zac ?_ | refine zae ?_)) ?_
   repeat (first | ((first | apply HQ.Ac | apply HQ.Ar); (iterate 3 exact rfl)) | (apply HQ.Ag; (iterate 3 exact rfl); exact inferInstance; exact rfl) | (apply HQ.Af; (iterate 3 exact rfl); apply Rd1.ofRow; (repeat (first | exact .here _ _ _ | apply At.there)); (iterate 2 exact rfl)) | ((apply HQ.ar; (iterate 4 exact rfl)); (with_reducible apply wr_i64; omega); exact rfl))
   refine HQ.Br (i := o) rfl rfl rfl hoz ho11 rfl ?_
   refine HQ.Af rfl rfl rfl (by rw [Nat.mul_one]; exact Rd1.of (refC_deps (.here _ _ _)) hv) rfl ?_
   repeat (first | ((apply HQ.Ad); (iterate 3 exact rfl)) | ((apply HQ.Bu); exact rfl))
   repeat (first | ((apply H.Ac); (iterate 3 exact rfl)) | (apply H.Ag; (iterate 3 exact rfl); exact inferInstance; exact rfl) | (apply H.Af; (iterate 3 exact rfl); apply Rd1.ofRow; (repeat (first | exact .here _ _ _ | apply At.there)); (iterate 2 exact rfl)) | (first | apply H.seq | apply H.Ab | apply H.nil | apply H.Aa) | ((apply H.cmp); (iterate 5 exact rfl)))
   by_cases h3 : x.m.number ≤ s
   ·skip
    repeat (first | ((apply H.Ad); (iterate 3 exact rfl)) | (first | apply H.seq | apply H.Ab | apply H.nil | apply H.Aa) | (first | apply H.ret | apply H.Be) | (apply H.Au; exact rfl; (assumption)))
    refine H.Ae (x := slc _ _ _ _ _ _) (by repeat constructor) ?_
    refine H.Ae (x := row rb _ _) (by repeat constructor) ?_
    refine H.imp (zaz (p, c) hi) ?_
    refine H.Ah (x := row mb _ _) (by repeat constructor) ?_
    refine H.Aj rfl rfl (fun _ h => h) ⟨?_, rfl, rfl⟩
    rw [hchk, if_pos h3]
   ·refine H.Aw rfl h3 ?_
    refine H.Ak ?_
    refine H.Aa ?_
    refine H.seq ?_
    refine H.Ae (x := slc _ _ _ _ _ _) (by repeat constructor) ?_
    refine H.Ae (x := row rb _ _) (by repeat constructor) ?_
    refine H.imp (zaz (p, c) hi) ?_
    refine H.cut (ι := Unit) (fun _ => [(0, .pointer (some ⟨rb, 0, none⟩)), (3, .pointer (some ⟨mb, 0, none⟩)), (5, .int .u64 (s : Nat))]) (fun _ => f) (fun _ => refL fl rb n l :: row mb 47 x.vals :: F)
     (fun _ => ¬ (x.m.number = ((s + 1 : Nat) : Int) ∧ 0 < s ∧ aboveB (lastD (strm (l.map MV.m) o)) x.m.deps = true)) _ (fun _ hc4 => ?_) ?_
    ·clear hget hlast hi
     refine H.unpack fun i1 hi => ?_
     obtain ⟨p, c⟩ := i1
     repeat (first | ((apply H.Ad); (iterate 3 exact rfl)) | (first | apply H.seq | apply H.Ab | apply H.nil | apply H.Aa) | (apply H.Ao))
     refine H.Ae (x := slc _ _ _ _ _ _) (by repeat constructor) ?_
     refine H.Ae (x := row mb _ _) (by repeat constructor) ?_
     refine H.Ae (x := row rb _ _) (by repeat constructor) ?_
     refine H.Bo (ι := Nat) (fun t => [(9, .int .i64 (t : Int)), (0, .pointer (some ⟨rb, 0, none⟩)), (3, .pointer (some ⟨mb, 0, none⟩)), (5, .int .u64 (s : Nat))]) (fun _ => f)
      (fun _ => row rb 63 (refC n p l.length c (knownS (strm (l.map MV.m)))) :: row mb 47 x.vals :: slc p l.length c 47 121 (l.flatMap MV.vals) :: F)
      (fun t => t ≤ 11 ∧ ∀ j, j < t → x.m.deps j ≤ knownS (strm (l.map MV.m)) j) (fun t => 11 - t) 0 ⟨Nat.zero_le _, fun j hj => by omega⟩ ⟨rfl, rfl, rfl, rfl, trivial⟩ rfl rfl fun t ht => ?_
     obtain ⟨ht, hdn⟩ : t ≤ 11 ∧ ∀ j, j < t → x.m.deps j ≤ knownS (strm (l.map MV.m)) j := ht
     by_cases ht11 : t < 11
     ·skip
      repeat (first | ((apply H.Ac); (iterate 3 exact rfl)) | (first | apply H.seq | apply H.Ab | apply H.nil | apply H.Aa) | ((apply H.cmp); (iterate 5 exact rfl)) | (first | apply H.Ak | apply H.Ao) | (apply H.Au; exact rfl; (omega)))
      refine H.Bz (by kernel_rfl) (by decide +kernel) (by repeat (first | exact zab | refine zaa ?_ | refine zac ?_ | refine zae ?_)) ?_
      repeat (first | ((apply HQ.Ac); (iterate 3 exact rfl)) | (apply HQ.Ag; (iterate 3 exact rfl); exact inferInstance; exact rfl))
      refine HQ.Br (i := t) rfl rfl rfl rfl ht11 rfl ?_
      refine HQ.Af rfl rfl rfl (by rw [Nat.mul_one]; exact Rd1.of (zak (m := x.m) (q := x.qp) (qc := x.qc) (.there _ (.here _ _ _))) (zam x.m.deps ht11)) rfl ?_
      repeat (first | ((first | apply HQ.Ac | apply HQ.Ar); (iterate 3 exact rfl)) | (apply HQ.Ag; (iterate 3 exact rfl); exact inferInstance; exact rfl))
      refine HQ.Br (i := t) rfl rfl rfl rfl ht11 rfl ?_
      refine HQ.Af rfl rfl rfl (by rw [Nat.mul_one]; exact Rd1.of (refC_deps (.here _ _ _)) (zam _ ht11)) rfl ?_
      repeat (first | ((apply HQ.Bu); exact rfl) | ((apply HQ.cmp); (iterate 5 exact rfl)))
      repeat ((apply H.Aa))
      by_cases hdt : x.m.deps t ≤ knownS (strm (l.map MV.m)) t
      ·skip
       repeat (first | ((first | apply H.Ac | apply H.Ad); (iterate 3 exact rfl)) | (first | apply H.Ab | apply H.nil | apply H.Aa) | ((apply H.ar; (iterate 4 exact rfl)); (with_reducible apply zag; omega); exact rfl) | (first | apply H.Ak | apply H.Ba) | (apply H.Aw; exact rfl; (omega)))
       refine H.Bc (t + 1) ⟨by show t + 1 ≤ 11; omega, fun j hj => ?_⟩ (by show 11 - (t + 1) < 11 - t; omega) ⟨rfl, rfl, rfl, rfl, trivial⟩ rfl rfl
       by_cases e : j = t
       ·rw [e]; exact hdt
       ·exact hdn j (by omega)
      ·skip
       repeat (first | ((apply H.Ad); (iterate 3 exact rfl)) | (first | apply H.seq | apply H.Ab | apply H.nil | apply H.Aa) | (first | apply H.ret | apply H.Be | apply H.Bx | apply H.Cd) | (apply H.Au; exact rfl; (omega)))
       refine H.Ae (x := slc _ _ _ _ _ _) (by repeat constructor) ?_
       refine H.Ae (x := row rb _ _) (by repeat constructor) ?_
       refine H.imp (zaz (p, c) hi) ?_
       refine H.Ah (x := row mb _ _) (by repeat constructor) ?_
       refine H.Aj rfl rfl (fun _ h => h) ⟨?_, rfl, rfl⟩
       rw [hchk, if_neg (by omega), if_neg hc4, if_pos (.inr (aboveB_true ht11 (by omega)))]
     ·have hab : aboveB x.m.deps (knownS (strm (l.map MV.m))) = false := zaw.2 fun j hj => hdn j (by omega)
      repeat (first | ((apply H.Ac); (iterate 3 exact rfl)) | (apply H.Ag; (iterate 3 exact rfl); exact inferInstance; exact rfl) | (apply H.Af; (iterate 3 exact rfl); apply Rd1.ofRow; (repeat (first | exact .here _ _ _ | apply At.there)); (iterate 2 exact rfl)) | (first | apply H.seq | apply H.Ab | apply H.nil | apply H.Aa) | ((apply H.cmp); (iterate 5 exact rfl)) | ((apply H.ar; (iterate 4 exact rfl)); (with_reducible apply wr_u64; omega); exact rfl) | (first | apply H.Bl | apply H.Bj | apply H.Bk | apply H.Bm) | (apply H.Aw; exact rfl; (omega)))
      by_cases h4 : x.m.number = ((s + 1 : Nat) : Int)
      ·skip
       repeat (first | ((apply H.Ad); (iterate 3 exact rfl)) | (first | apply H.seq | apply H.Ab | apply H.nil | apply H.Aa) | (first | apply H.Ak | apply H.ret) | (apply H.Aw; exact rfl; (omega)))
       refine H.Ae (x := slc _ _ _ _ _ _) (by repeat constructor) ?_
       refine H.Ae (x := row rb _ _) (by repeat constructor) ?_
       refine H.imp (zaz (p, c) hi) ?_
       refine H.Ah (x := row mb _ _) (by repeat constructor) ?_
       refine H.Aj rfl rfl (fun _ h => h) ⟨?_, rfl, rfl⟩
       rw [hchk, if_neg (by omega), if_neg hc4, if_neg (by rintro (h | h); omega; rw [hab] at h; cases h)]
      ·skip
       repeat (first | ((apply H.Ad); (iterate 3 exact rfl)) | (first | apply H.seq | apply H.Ab | apply H.nil | apply H.Aa) | (first | apply H.ret | apply H.Be) | (apply H.Au; exact rfl; (assumption)))
       refine H.Ae (x := slc _ _ _ _ _ _) (by repeat constructor) ?_
       refine H.Ae (x := row rb _ _) (by repeat constructor) ?_
       refine H.imp (zaz (p, c) hi) ?_
       refine H.Ah (x := row mb _ _) (by repeat constructor) ?_
       refine H.Aj rfl rfl (fun _ h => h) ⟨?_, rfl, rfl⟩
       rw [hchk, if_neg (by omega), if_neg hc4, if_pos (.inl (by omega))]
    ·by_cases h4 : x.m.number = ((s + 1 : Nat) : Int)
     ·by_cases h0 : 0 < s
      ·obtain ⟨y, hly, hgt⟩ := hlast h0
       rw [hgt] at hget
       rw [hly] at hchk
       refine H.Ae (x := row mb _ _) (by repeat constructor) ?_
       repeat (first | ((apply H.Ac); (iterate 3 exact rfl)) | (apply H.Ag; (iterate 3 exact rfl); exact inferInstance; exact rfl) | (apply H.Af; (iterate 3 exact rfl); apply Rd1.ofRow; (repeat (exact .here _ _ _)); (iterate 2 exact rfl)) | (first | apply H.seq | apply H.Ab | apply H.nil | apply H.Aa) | ((apply H.cmp); (iterate 5 exact rfl)) | ((apply H.ar; (iterate 4 exact rfl)); (with_reducible apply wr_u64; omega); exact rfl) | (apply H.Ax; (iterate 4 exact rfl)) | (apply H.Bi; (iterate 3 exact rfl); (assumption)) | (apply H.Au; exact rfl; (omega)))
       refine H.Ae (x := refL _ _ _ _) (by repeat constructor) ?_
       refine H.call rfl rfl rfl (hget _) fun v f' A' hr => ?_
       obtain ⟨z, rfl, hzm, hzg, hff, rfl⟩ := hr
       rw [hff]
       have hzm : z.m = y.m := hzm
       rw [← hzm] at hchk hly
       clear hget hgt hi hlast
       repeat (first | ((apply H.Ac); (iterate 3 exact rfl)) | ((apply H.Cc); (iterate 4 exact rfl)))
       refine H.Bg (ls := msgZ.vals none 0) rfl rfl rfl fun zb => ?_
       refine H.Bb (ls := msgZ.vals none 0) (vs := z.vals) (ls' := z.vals) rfl rfl rfl (zad rfl) rfl rfl (Nat.le_refl 121) (.here _ _ _) ?_
       refine H.Ae (x := row mb _ _) (by repeat constructor) ?_
       refine H.Ae (x := row zb _ _) (by repeat constructor) ?_
       repeat (first | ((apply H.Ad); (iterate 3 exact rfl)) | (first | apply H.seq | apply H.Ab | apply H.nil | apply H.Aa) | (apply H.Ao))
       refine H.Bo (ι := Nat) (fun t => [(8, .int .i64 (t : Int)), (0, .pointer (some ⟨rb, 0, none⟩)), (3, .pointer (some ⟨mb, 0, none⟩)), (6, .pointer (some ⟨zb, 0, none⟩)), (5, .int .u64 (s : Nat))]) (fun _ => f)
        (fun _ => row zb 47 z.vals :: row mb 47 x.vals :: refL fl rb n l :: F)
        (fun t => t ≤ 11 ∧ ∀ j, j < t → z.m.deps j ≤ x.m.deps j) (fun t => 11 - t) 0 ⟨Nat.zero_le _, fun j hj => by omega⟩ ⟨rfl, rfl, rfl, rfl, rfl, trivial⟩ rfl rfl fun t ht => ?_
       obtain ⟨ht, hdn⟩ : t ≤ 11 ∧ ∀ j, j < t → z.m.deps j ≤ x.m.deps j := ht
       by_cases ht11 : t < 11
       ·skip
        repeat (first | ((apply H.Ac); (iterate 3 exact rfl)) | (first | apply H.seq | apply H.Ab | apply H.nil | apply H.Aa) | ((apply H.cmp); (iterate 5 exact rfl)) | (first | apply H.Ak | apply H.Ao) | (apply H.Au; exact rfl; (omega)))
        refine H.Bz (by kernel_rfl) (by decide +kernel) (by repeat (first | exact zab | refine zaa ?_ | refine zac ?_ | refine zae ?_)) ?_
        repeat (first | ((apply HQ.Ac); (iterate 3 exact rfl)) | (apply HQ.Ag; (iterate 3 exact rfl); exact inferInstance; exact rfl))
        refine HQ.Br (i := t) rfl rfl rfl rfl ht11 rfl ?_
        refine HQ.Af rfl rfl rfl (by rw [Nat.mul_one]; exact Rd1.of (zak (m := x.m) (q := x.qp) (qc := x.qc) (.there _ (.here _ _ _))) (zam x.m.deps ht11)) rfl ?_
        repeat (first | ((apply HQ.Ac); (iterate 3 exact rfl)) | (apply HQ.Ag; (iterate 3 exact rfl); exact inferInstance; exact rfl))
        refine HQ.Br (i := t) rfl rfl rfl rfl ht11 rfl ?_
        refine HQ.Af rfl rfl rfl (by rw [Nat.mul_one]; exact Rd1.of (zak (m := z.m) (q := z.qp) (qc := z.qc) (.here _ _ _)) (zam z.m.deps ht11)) rfl ?_
        repeat (first | ((apply HQ.Bu); exact rfl) | ((apply HQ.cmp); (iterate 5 exact rfl)))
        repeat ((apply H.Aa))
        by_cases hdt : z.m.deps t ≤ x.m.deps t
        ·skip
         repeat (first | ((first | apply H.Ac | apply H.Ad); (iterate 3 exact rfl)) | (first | apply H.Ab | apply H.nil | apply H.Aa) | ((apply H.ar; (iterate 4 exact rfl)); (with_reducible apply zag; omega); exact rfl) | (first | apply H.Ak | apply H.Ba) | (apply H.Aw; exact rfl; (omega)))
         refine H.Bc (t + 1) ⟨by show t + 1 ≤ 11; omega, fun j hj => ?_⟩ (by show 11 - (t + 1) < 11 - t; omega) ⟨rfl, rfl, rfl, rfl, rfl, trivial⟩ rfl rfl
         by_cases e : j = t
         ·rw [e]; exact hdt
         ·exact hdn j (by omega)
        ·skip
         repeat (first | ((apply H.Ad); (iterate 3 exact rfl)) | (first | apply H.seq | apply H.Ab | apply H.nil | apply H.Aa) | (first | apply H.ret | apply H.Be | apply H.Bx | apply H.Cd) | (apply H.Au; exact rfl; (omega)))
         refine H.Ah (x := row zb _ _) (by repeat constructor) ?_
         refine H.Ah (x := row mb _ _) (by repeat constructor) ?_
         refine H.Aj rfl rfl (fun _ h => h) ⟨?_, rfl, rfl⟩
         rw [hchk, if_neg (by omega), if_pos ⟨h4, h0, aboveB_true ht11 (by omega)⟩]
       ·have hab0 : aboveB z.m.deps x.m.deps = false := zaw.2 fun j hj => hdn j (by omega)
        have hc4 : ¬ (x.m.number = ((s + 1 : Nat) : Int) ∧ 0 < s ∧ aboveB (lastD (strm (l.map MV.m) o)) x.m.deps = true) := by rintro ⟨_, _, h⟩; rw [hly, hab0] at h; cases h
        clear hdn ht hab0
        repeat (first | ((apply H.Ac); (iterate 3 exact rfl)) | (first | apply H.seq | apply H.Ab | apply H.nil | apply H.Aa) | ((apply H.cmp); (iterate 5 exact rfl)) | (first | apply H.Bl | apply H.Bj | apply H.Bk | apply H.Bm) | (apply H.Aw; exact rfl; (omega)))
        refine H.Ah (x := row zb _ _) (by repeat constructor) ?_
        refine H.Ae (x := refL _ _ _ _) (by repeat constructor) ?_
        exact H.meet () hc4 ⟨rfl, rfl, rfl, trivial⟩ rfl rfl
      ·refine H.Ae (x := row mb _ _) (by repeat constructor) ?_
       repeat (first | ((apply H.Ac); (iterate 3 exact rfl)) | (apply H.Ag; (iterate 3 exact rfl); exact inferInstance; exact rfl) | (apply H.Af; (iterate 3 exact rfl); apply Rd1.ofRow; (repeat (exact .here _ _ _)); (iterate 2 exact rfl)) | (first | apply H.seq | apply H.Ab | apply H.nil | apply H.Aa) | ((apply H.cmp); (iterate 5 exact rfl)) | ((apply H.ar; (iterate 4 exact rfl)); (with_reducible apply wr_u64; omega); exact rfl) | (apply H.Ax; (iterate 4 exact rfl)) | (apply H.Ak) | (apply H.Bi; (iterate 3 exact rfl); (assumption)) | (apply H.Aw; exact rfl; (omega)))
       refine H.Ae (x := refL _ _ _ _) (by repeat constructor) ?_
       exact H.meet () (fun h => h0 h.2.1) ⟨rfl, rfl, rfl, trivial⟩ rfl rfl
     ·refine H.Ae (x := row mb _ _) (by repeat constructor) ?_
      repeat (first | ((apply H.Ac); (iterate 3 exact rfl)) | (apply H.Ag; (iterate 3 exact rfl); exact inferInstance; exact rfl) | (apply H.Af; (iterate 3 exact rfl); apply Rd1.ofRow; (repeat (exact .here _ _ _)); (iterate 2 exact rfl)) | (first | apply H.seq | apply H.Ab | apply H.nil | apply H.Aa) | ((apply H.cmp); (iterate 5 exact rfl)) | ((apply H.ar; (iterate 4 exact rfl)); (with_reducible apply wr_u64; omega); exact rfl) | (apply H.Bd; (iterate 2 exact rfl)) | ((apply H.Ay); (iterate 4 exact rfl)) | (apply H.Av; exact rfl) | (apply H.Ak) | (apply H.gno; (iterate 3 exact rfl); (assumption)))
      refine H.Ae (x := refL _ _ _ _) (by repeat constructor) ?_
      exact H.meet () (fun h => h4 h.1) ⟨rfl, rfl, rfl, trivial⟩ rfl rfl
end
theorem refC_set (n : Nat) (p : Option Addr) (m c : Nat) (v : Nat → Int) (z : Int) {o : Nat} (h : o < 11) : SetV (refC n p m c v) (0 + 2 + o * 1) (.int .u64 z) (refC n p m c (updF v o z)) := by
 have h1 := (v11_upd v z h).mid [.int .i64 (n : Int), .slice p m c] []
 rw [List.append_nil, List.append_nil] at h1
 rw [Nat.mul_one]
 exact h1
theorem knownS_add (S : Strm) (m : Msg) : knownS (addS S m) = updF (knownS S) (orgI m) (knownS S (orgI m) + 1) := by
 funext i
 unfold knownS addS
 by_cases h : i = orgI m
 ·subst h
  rw [zaj, zaj, List.length_append]
  show ((((S (orgI m)).length + 1 : Nat)) : Int) = _
  omega
 ·rw [zan _ _ h, zan _ _ h]
section
variable (f : Frag) (F : List HP)
set_option maxRecDepth 20000 in
set_option maxHeartbeats 3200000 in
theorem rladd_fn {fl : Frag} (hfl : Le fl f) {rb n : Nat} {l : List MV} {x : MV} (hx : x.Good fl) (hpos : Pos x.m) (hlen : l.length < 100000) :
  Fn Tryz.prog 27 [.pointer (some ⟨rb, 0, none⟩), .agg x.vals.toArray] f (refL fl rb n l :: F)
   (Ret (.int .i64 (chk n (strm (l.map MV.m)) x.m)) f (refL fl rb n (if chk n (strm (l.map MV.m)) x.m = 0 then l ++ [x] else l) :: F)) := by
 have hck : ∀ G, Fn Tryz.prog 62 [.pointer (some ⟨rb, 0, none⟩), .agg x.vals.toArray] f (refL fl rb n l :: G) (Ret (.int .i64 (chk n (strm (l.map MV.m)) x.m)) f (refL fl rb n l :: G)) := fun G => rlcheck_fn f G hfl (hx.mono hfl) hpos
 by_cases hc : chk n (strm (l.map MV.m)) x.m = 0
 ·obtain ⟨z1, z2, z3, _, _⟩ := chk_zero hc
  rw [hc] at hck ⊢
  rw [if_pos rfl]
  refine Fn.enter Tryz.func27 rfl Tryz.ntmps27 rfl (L := [(0, _), (1, _)]) ⟨rfl, rfl, trivial⟩ fun base => ?_
  repeat ((first | apply H.seq | apply H.Ab))
  refine H.box (ls := x.vals) rfl rfl rfl rfl fun mb => ?_
  repeat (first | ((first | apply H.Ac | apply H.Ad); (iterate 3 exact rfl)) | (first | apply H.seq | apply H.Ab | apply H.nil | apply H.Aa))
  refine H.Al (ls := x.vals) rfl rfl rfl (Rd.ofRow (.here _ _ _)) rfl rfl ?_
  refine H.Ae (x := refL _ _ _ _) (by repeat constructor) ?_
  refine H.Am rfl rfl rfl (hck _) ?_
  repeat (first | ((first | apply H.Ac | apply H.Ad); (iterate 3 exact rfl)) | (first | apply H.seq | apply H.Ab | apply H.nil | apply H.Aa) | ((apply H.cmp); (iterate 5 exact rfl)) | (apply H.Bh; exact rfl))
  refine H.unpack fun i hi => ?_
  obtain ⟨p, c⟩ := i
  have hn := hi.2.2.2
  obtain ⟨o, hoo, hoz, hon, ho11, ho1, ho2⟩ := fits_at z1 hn
  have hkl := knownS_len l o
  have hsl := strmV_le l o
  refine H.Ae (x := row rb _ _) (by repeat constructor) ?_
  refine H.Ae (x := row mb _ _) (by repeat constructor) ?_
  refine H.Ch [0, 1, 2, 3, 4, 5, 6, 7] (by kernel_rfl) (by decide +kernel) (by repeat (first | exact zab | refine zaa ?_ | refine zac ?_ | refine zae ?_)) (S := [_, _]) rfl ?_
  refine HB.Aq [(0, false), (1, false), (2, false), (3, false), (4, false), (5, false)] 5 (by kernel_rfl) ?_
  repeat (first | ((first | apply HQ.Ac | apply HQ.Ar); (iterate 3 exact rfl)) | (apply HQ.Ag; (iterate 3 exact rfl); exact inferInstance; exact rfl) | (apply HQ.Af; (iterate 3 exact rfl); apply Rd1.ofRow; (repeat (first | exact .here _ _ _ | apply At.there)); (iterate 2 exact rfl)))
  refine HQ.Al (ls := x.vals) rfl rfl rfl (Rd.ofRow (.here _ _ _)) rfl rfl ?_
  refine HQ.Ap rfl ?_
  refine HB.ev1 (i := 6) (by kernel_rfl) rfl ?_
  refine H.Bw (out := x.vals) rfl rfl rfl rfl (by decide) (by decide) rfl rfl fun eb => ?_
  repeat ((apply H.nil))
  refine H.Ae (x := row rb _ _) (by repeat constructor) ?_
  refine H.Ae (x := row mb _ _) (by repeat constructor) ?_
  refine H.on0 rfl ?_
  refine HB.ev1 (i := 7) (by kernel_rfl) rfl ?_
  refine H.Bv (p := p) (n0 := l.length) (c := c) (xs := l.flatMap MV.vals) (m := 1) (news := x.vals) rfl rfl rfl rfl rfl (fun p' c' => (by repeat constructor)) (Src.slice (Rd.ofRow (by repeat constructor)) rfl) (zad rfl) rfl (by omega) (by omega) fun p2 c2 => ?_
  repeat ((apply H.nil))
  refine H.Ah (x := row eb _ _) (by repeat constructor) ?_
  refine H.on0 rfl ?_
  refine HB.next [] (by kernel_rfl) (S' := []) rfl ?_
  refine HB.Aq [(8, false), (9, false)] 1 (by kernel_rfl) ?_
  repeat (first | ((apply HQ.Ar); (iterate 3 exact rfl)) | (apply HQ.Ag; (iterate 3 exact rfl); exact inferInstance; exact rfl))
  refine HQ.Ap rfl ?_
  refine HB.ev1 (i := 10) (by kernel_rfl) rfl ?_
  refine H.Bq (ls := refC n p l.length c (knownS (strm (l.map MV.m)))) (ls' := refC n p2 (l.length + 1) c2 (knownS (strm (l.map MV.m)))) rfl rfl rfl rfl (.there _ (.here _ _ _)) (.there _ (.here _ _ _)) ?_
  repeat ((apply H.nil))
  refine H.on0 rfl ?_
  refine HB.Bf (by kernel_rfl) ?_
  repeat ((apply H.Aa))
  refine H.Ch [0, 1, 2, 3, 4, 5, 6, 7, 8, 9, 10, 11] (by kernel_rfl) (by decide +kernel) (by repeat (first | exact zab | refine zaa ?_ | refine zac ?_ | refine zae ?_)) (S := [_, _]) rfl ?_
  refine HB.Aq [(0, false), (1, false), (2, false), (3, false), (4, false), (5, false), (6, false), (7, false), (8, false), (9, false), (10, false), (11, false)] 1 (by kernel_rfl) ?_
  have hv : (v11 (knownS (strm (l.map MV.m))))[o]? = some (.int .u64 (knownS (strm (l.map MV.m)) o)) := zam _ ho11
  repeat (first | ((first | apply HQ.Ac | apply HQ.Ar); (iterate 3 exact rfl)) | (apply HQ.Ag; (iterate 3 exact rfl); exact inferInstance; exact rfl) | (apply HQ.Af; (iterate 3 exact rfl); apply Rd1.ofRow; (repeat (exact .here _ _ _)); (iterate 2 exact rfl)) | ((apply HQ.ar; (iterate 4 exact rfl)); (with_reducible apply wr_i64; omega); exact rfl))
  refine HQ.Br (i := o) rfl rfl rfl hoz ho11 rfl ?_
  refine HQ.Af rfl rfl rfl (by rw [Nat.mul_one]; exact Rd1.of (refC_deps (.there _ (.here _ _ _))) hv) rfl ?_
  repeat (first | ((apply HQ.Ar); (iterate 3 exact rfl)) | (apply HQ.Ag; (iterate 3 exact rfl); exact inferInstance; exact rfl) | ((apply HQ.ar; (iterate 4 exact rfl)); (with_reducible apply wr_u64; omega); exact rfl))
  refine HQ.Br (i := o) rfl rfl rfl hoz ho11 rfl ?_
  refine HQ.Ap rfl ?_
  refine HB.next [] (by kernel_rfl) (S' := []) rfl ?_
  refine HB.ev1 (i := 12) (by kernel_rfl) rfl ?_
  refine H.Bq (ls := refC n p2 (l.length + 1) c2 (knownS (strm (l.map MV.m)))) (ls' := refC n p2 (l.length + 1) c2 (updF (knownS (strm (l.map MV.m))) o (knownS (strm (l.map MV.m)) o + 1))) rfl rfl rfl rfl (.there _ (.here _ _ _)) (refC_set _ _ _ _ _ _ ho11) ?_
  repeat ((apply H.nil))
  refine H.on0 rfl ?_
  refine HB.Bf (by kernel_rfl) ?_
  repeat (first | ((first | apply H.Ac | apply H.Ad); (iterate 3 exact rfl)) | (first | apply H.seq | apply H.Ab | apply H.nil | apply H.Aa) | (apply H.ret))
  refine H.Ah (x := row mb _ _) (by repeat constructor) ?_
  have hφ : refφ fl n (l ++ [x]) := loreφ_snoc (Le.refl fl) hi hlen hc hx
  have e1 : refC n p2 (l.length + 1) c2 (updF (knownS (strm (l.map MV.m))) o (knownS (strm (l.map MV.m)) o + 1)) = refC n p2 (l ++ [x]).length c2 (knownS (strm ((l ++ [x]).map MV.m))) := by
   rw [List.map_append, show [x].map MV.m = [x.m] from rfl, strm_snoc, knownS_add, hoo, List.length_append]
   rfl
  rw [e1]
  have e2 : slc p2 (l.length + 1) c2 47 121 (l.flatMap MV.vals ++ x.vals) = slc p2 (l ++ [x]).length c2 47 121 ((l ++ [x]).flatMap MV.vals) := slc_snoc
  refine H.conv (A' := row rb 63 (refC n p2 (l ++ [x]).length c2 (knownS (strm ((l ++ [x]).map MV.m)))) :: slc p2 (l ++ [x]).length c2 47 121 ((l ++ [x]).flatMap MV.vals) :: F) (by rw [← e2]; rfl) ?_
  refine H.imp (zaz (p2, c2) hφ) ?_
  exact H.Aj rfl rfl (fun _ h => h) ⟨rfl, rfl, rfl⟩
 ·rw [if_neg hc]
  refine Fn.enter Tryz.func27 rfl Tryz.ntmps27 rfl (L := [(0, _), (1, _)]) ⟨rfl, rfl, trivial⟩ fun base => ?_
  repeat ((first | apply H.seq | apply H.Ab))
  refine H.box (ls := x.vals) rfl rfl rfl rfl fun mb => ?_
  repeat (first | ((first | apply H.Ac | apply H.Ad); (iterate 3 exact rfl)) | (first | apply H.seq | apply H.Ab | apply H.nil | apply H.Aa))
  refine H.Al (ls := x.vals) rfl rfl rfl (Rd.ofRow (.here _ _ _)) rfl rfl ?_
  refine H.Ae (x := refL _ _ _ _) (by repeat constructor) ?_
  refine H.Am rfl rfl rfl (hck _) ?_
  repeat (first | ((first | apply H.Ac | apply H.Ad); (iterate 3 exact rfl)) | (first | apply H.seq | apply H.Ab | apply H.nil | apply H.Aa) | ((apply H.cmp); (iterate 5 exact rfl)) | (first | apply H.Ak | apply H.ret) | (apply H.Aw; exact rfl; (assumption)))
  refine H.Ah (x := row mb _ _) (by repeat constructor) ?_
  exact H.Aj rfl rfl (fun _ h => h) ⟨rfl, rfl, rfl⟩
end
end Go.Proofs.YtoigpgdmignaoaaGreatDoor
