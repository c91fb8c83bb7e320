/- Parts of the proof, one behind the other, each under its own heading. No conditions. -/
import Derived.Test.YtdcjlgigcbinjaaGreatDoorZ05
import Derived.Test.YtdcjlgigcbinjaaGreatDoorRows
import Derived.Test.YtdcjlgigcbinjaaGreatDoorCards
import Derived.Test.YtdcjlgigcbinjaaGreatDoorTie
set_option linter.unusedSectionVars false
set_option linter.unusedSimpArgs false
set_option linter.unusedVariables false
/- Layer 15: the program's logs: prepare, commit. Condition: the table of the standard stands in the fragment. -/
namespace Go.Proofs.YtdcjlgigcbinjaaGreatDoor
open Go
theorem past_updF (pb : Nat → Nat) (past : Nat → PM) (r : Nat) (s : PM) : updF (fun j => pastH (pb j) (past j)) r (pastH (pb r) s) = fun j => pastH (pb j) (updF past r s j) := by
 funext j
 unfold updF
 by_cases h : j = r
 ·subst h; rw [if_pos rfl, if_pos rfl]
 ·rw [if_neg h, if_neg h]
theorem ent_set {V : List PV} {j : Nat} {X Y : PV} (hX : V[j]? = some X) (h1 : Y.w.v = X.w.v) (h2 : Y.b = X.b) : (V.set j Y).map PV.ent = V.map PV.ent := by
 rw [List.map_set]
 refine set_self ?_
 rw [List.getElem?_map, hX]
 show some X.ent = some Y.ent
 unfold PV.ent
 rw [h1, h2]
theorem msg_req {f : Frag} {A A' : List HP} {mb : Nat} {T : TypeId} {m : Msg} {q : Option Addr} {qc : Nat} (h : At A (row mb T (m.vals q qc)) A' (row mb T (m.vals q qc))) : Rd f A mb (0 + 13 + 3) m.body.req.vals := by
 have h1 := msg_body (f := f) h
 have e : m.body.vals q qc = [.int .u8 (m.body.kind.toNat : Nat), .int .u64 m.body.view, .int .u64 m.body.k] ++ m.body.req.vals ++ ([.slice q m.body.q.length qc] ++ b32 m.body.dig) := by unfold Bod.vals; simp only [List.append_assoc]
 rw [e] at h1
 exact h1.sub rfl
theorem Vw.put_all (w : Vw) (y : Int × Req) : ({ w with p := w.p ++ [y] } : Vw).all = w.all ++ [y.2] := by
 unfold Vw.all
 show w.s ++ (w.p ++ [y]).map Prod.snd = w.s ++ w.p.map Prod.snd ++ [y.2]
 rw [List.map_append, List.append_assoc]; rfl
section
variable (f : Frag) (F : List HP)
set_option maxRecDepth 20000 in
set_option maxHeartbeats 3200000 in
theorem plprep_fn (htab : TabAt f) {fl : Frag} (hfl : Le fl f) {lb : Nat} {l : Lgs} {T : Nat} (hL : LI l T) (hT : T ≤ 50000) {x : MV} (hm : MIn l.n x.m) (hk : x.m.body.kind = 1) {i : PPt} (hi : plφ fl l i) {r : Nat} (hre : r = orgI x.m) :
  Fn Tryz.prog 83 [.pointer (some ⟨lb, 0, none⟩), .agg x.vals.toArray, .pointer (some ⟨i.pb r, 0, none⟩)] f (plB lb l i ++ F) (Ret (.bool (l.counts x.m).1) f (plogH f lb (l.counts x.m).2 :: F)) := by
 have hiF := hi.mono hfl
 have hn := hL.n3
 have hor := hm.o
 have hr : r < l.n := by rw [hre]; unfold orgI; omega
 have hwf := hL.wf r hr
 have hil := hL.il r hr
 have hvl := hL.vl
 have hv0 := hm.v
 have hvs := hi.vs
 obtain ⟨V, vb, pp, pc, cp, cc, pb, cs⟩ := i
 have hvs : (V.map PV.w).Perm l.vs := hvs
 have hprim := fun G => plprim_fn f G (lb := lb) (n := l.n) (kn := l.known) (vb := vb) (pp := pp) (pc := pc) (cp := cp) (cc := cc) (by omega) hv0
 show Fn _ _ _ f (row lb 127 (plC l.n l.known vb pp pc cp cc) :: mp vb keyU (V.map PV.ent) :: lst (V.map PV.own) :: fam (fun r => pastH (pb r) (l.past r)) l.n :: slc cp l.n cc 158 1 (chRow l cs) :: fam (pcFam l cs) l.n :: F) _
 cases hat : vwAt l.vs x.m.body.view with
 | none =>
  rw [Lgs.counts_1n hk hat]
  have hget : (getKV (V.map PV.ent) x.m.body.view).getD (.pointer none) = .pointer none := by rw [view_none hvs hat]; rfl
  by_cases hp : primZ l.n x.m.body.view = x.m.origin
  ·skip
   refine Fn.enter Tryz.func83 rfl Tryz.ntmps83 rfl (L := [(0, _), (1, _), (2, _)]) ⟨rfl, rfl, rfl, trivial⟩ fun base => ?_
   refine gA ?_
   refine H.box (ls := x.vals) rfl rfl rfl rfl fun mb => ?_
   refine gU ?_
   refine H.Ay (by kernel_rfl) (by decide +kernel) (by repeat (first | exact zab | refine zaa ?_ | refine zac ?_ | refine zad ?_)) (S := [_]) rfl ?_
   refine HB.Af [(0, false), (1, false), (2, false), (3, false), (4, false), (5, false)] 3 (by kernel_rfl) ?_
   refine gJ ?_
   refine HQ.Aj (ls := x.m.body.req.vals) rfl rfl rfl (msg_req (.here _ _ _)) rfl rfl ?_
   refine HQ.Ae rfl ?_
   refine HB.ev1 (i := 6) (by kernel_rfl) rfl ?_
   refine H.Av (ls := Req.zero.vals) rfl rfl rfl fun qb => ?_
   refine gA ?_
   refine H.Aa (x := row mb _ _) (by repeat constructor) ?_
   refine H.on0 rfl ?_
   refine HB.Af [(7, false)] 1 (by kernel_rfl) ?_
   refine gB ?_
   refine HQ.Ae rfl ?_
   refine HB.ev1 (i := 8) (by kernel_rfl) rfl ?_
   refine H.Ap (ls := Req.zero.vals) (vs := x.m.body.req.vals) (ls' := x.m.body.req.vals) rfl rfl rfl (zae rfl) rfl rfl (Nat.le_refl 40) (.there _ (.here _ _ _)) ?_
   refine gA ?_
   refine H.on0 rfl ?_
   refine HB.Aq (by kernel_rfl) ?_
   refine gM ?_
   refine H.Bs (enc := keyU) (k := x.m.body.view) rfl rfl rfl (by repeat constructor) rfl hget rfl ?_
   refine gU ?_
   refine H.Aa (x := row lb _ _) (by repeat constructor) ?_
   refine H.Aa (x := row mb _ _) (by repeat constructor) ?_
   refine H.Aa (x := row qb _ _) (by repeat constructor) ?_
   refine H.Ay (by kernel_rfl) (by decide +kernel) (by repeat (first | exact zab | refine zaa ?_ | refine zac ?_ | refine zad ?_)) (S := [_, _, _]) rfl ?_
   refine HB.Af [(0, false), (1, false), (3, false), (4, false)] 29 (by kernel_rfl) ?_
   refine gJ ?_
   refine HQ.Ae rfl ?_
   refine HB.ev1 (i := 2) (by kernel_rfl) rfl ?_
   refine H.Aa (x := row lb _ _) (by repeat constructor) ?_
   refine H.Ad rfl rfl rfl (hprim _) ?_
   refine gA ?_
   refine H.Aa (x := row lb _ _) (by repeat constructor) ?_
   refine H.Aa (x := row mb _ _) (by repeat constructor) ?_
   refine H.Aa (x := row qb _ _) (by repeat constructor) ?_
   refine H.on0 rfl ?_
   refine HB.Af [(5, false), (6, false), (7, false), (8, false), (9, false), (10, false), (11, false)] 21 (by kernel_rfl) ?_
   refine gc ?_
   refine HQ.Ae rfl ?_
   refine HB.ev1 (i := 12) (by kernel_rfl) rfl ?_
   refine gC ?_
   refine H.on0 rfl ?_
   refine HB.Af [(13, false), (14, false), (15, false), (16, false), (17, false), (18, false), (19, false), (20, false), (21, false), (22, false), (23, false), (24, false), (25, false), (26, false), (27, false), (28, false), (29, false)] 3 (by kernel_rfl) ?_
   refine gO ?_
   refine HQ.Ae rfl ?_
   refine HB.ev1 (i := 30) (by kernel_rfl) rfl ?_
   refine gC ?_
   refine H.on0 rfl ?_
   refine HB.Af [(31, false), (32, false)] 0 (by kernel_rfl) ?_
   refine gO ?_
   refine HQ.Ae rfl ?_
   refine HB.Aq (by kernel_rfl) ?_
   refine gD ?_
   refine H.Ab (x := row mb _ _) (by repeat constructor) ?_
   refine H.Ab (x := row qb _ _) (by repeat constructor) ?_
   refine H.Aa (x := fam (pcFam l cs) _) (by repeat constructor) ?_
   refine H.Aa (x := slc cp _ cc _ _ _) (by repeat constructor) ?_
   refine H.Aa (x := fam (fun r => pastH _ _) _) (by repeat constructor) ?_
   refine H.Aa (x := lst (V.map PV.own)) (by repeat constructor) ?_
   refine H.Aa (x := mp vb _ _) (by repeat constructor) ?_
   refine H.Aa (x := row lb _ _) (by repeat constructor) ?_
   refine H.imp (zai ⟨V, vb, pp, pc, cp, cc, pb, cs⟩ hiF) ?_
   exact H.Ac rfl rfl (fun _ h => h) ⟨rfl, rfl, rfl⟩
  ·skip
   refine Fn.enter Tryz.func83 rfl Tryz.ntmps83 rfl (L := [(0, _), (1, _), (2, _)]) ⟨rfl, rfl, rfl, trivial⟩ fun base => ?_
   refine gA ?_
   refine H.box (ls := x.vals) rfl rfl rfl rfl fun mb => ?_
   refine gU ?_
   refine H.Ay (by kernel_rfl) (by decide +kernel) (by repeat (first | exact zab | refine zaa ?_ | refine zac ?_ | refine zad ?_)) (S := [_]) rfl ?_
   refine HB.Af [(0, false), (1, false), (2, false), (3, false), (4, false), (5, false)] 3 (by kernel_rfl) ?_
   refine gJ ?_
   refine HQ.Aj (ls := x.m.body.req.vals) rfl rfl rfl (msg_req (.here _ _ _)) rfl rfl ?_
   refine HQ.Ae rfl ?_
   refine HB.ev1 (i := 6) (by kernel_rfl) rfl ?_
   refine H.Av (ls := Req.zero.vals) rfl rfl rfl fun qb => ?_
   refine gA ?_
   refine H.Aa (x := row mb _ _) (by repeat constructor) ?_
   refine H.on0 rfl ?_
   refine HB.Af [(7, false)] 1 (by kernel_rfl) ?_
   refine gB ?_
   refine HQ.Ae rfl ?_
   refine HB.ev1 (i := 8) (by kernel_rfl) rfl ?_
   refine H.Ap (ls := Req.zero.vals) (vs := x.m.body.req.vals) (ls' := x.m.body.req.vals) rfl rfl rfl (zae rfl) rfl rfl (Nat.le_refl 40) (.there _ (.here _ _ _)) ?_
   refine gA ?_
   refine H.on0 rfl ?_
   refine HB.Aq (by kernel_rfl) ?_
   refine gM ?_
   refine H.Bs (enc := keyU) (k := x.m.body.view) rfl rfl rfl (by repeat constructor) rfl hget rfl ?_
   refine gU ?_
   refine H.Aa (x := row lb _ _) (by repeat constructor) ?_
   refine H.Aa (x := row mb _ _) (by repeat constructor) ?_
   refine H.Aa (x := row qb _ _) (by repeat constructor) ?_
   refine H.Ay (by kernel_rfl) (by decide +kernel) (by repeat (first | exact zab | refine zaa ?_ | refine zac ?_ | refine zad ?_)) (S := [_, _, _]) rfl ?_
   refine HB.Af [(0, false), (1, false), (3, false), (4, false)] 29 (by kernel_rfl) ?_
   refine gJ ?_
   refine HQ.Ae rfl ?_
   refine HB.ev1 (i := 2) (by kernel_rfl) rfl ?_
   refine H.Aa (x := row lb _ _) (by repeat constructor) ?_
   refine H.Ad rfl rfl rfl (hprim _) ?_
   refine gA ?_
   refine H.Aa (x := row lb _ _) (by repeat constructor) ?_
   refine H.Aa (x := row mb _ _) (by repeat constructor) ?_
   refine H.Aa (x := row qb _ _) (by repeat constructor) ?_
   refine H.on0 rfl ?_
   refine HB.Af [(5, false), (6, false), (7, false), (8, false), (9, false), (10, false), (11, false)] 21 (by kernel_rfl) ?_
   refine gc ?_
   refine HQ.Ae rfl ?_
   refine HB.ev1 (i := 12) (by kernel_rfl) rfl ?_
   refine gC ?_
   refine H.on0 rfl ?_
   refine HB.Af [(13, false), (14, false), (15, false), (16, false), (17, false), (18, false), (19, false), (20, false), (21, false), (22, false), (23, false), (24, false), (25, false), (26, false), (27, false), (28, false), (29, false)] 3 (by kernel_rfl) ?_
   refine gO ?_
   refine HQ.Ae rfl ?_
   refine HB.ev1 (i := 30) (by kernel_rfl) rfl ?_
   refine gC ?_
   refine H.on0 rfl ?_
   refine HB.Af [(31, false), (32, false)] 0 (by kernel_rfl) ?_
   refine gO ?_
   refine HQ.Ae rfl ?_
   refine HB.Aq (by kernel_rfl) ?_
   refine gD ?_
   refine H.Ab (x := row mb _ _) (by repeat constructor) ?_
   refine H.Ab (x := row qb _ _) (by repeat constructor) ?_
   refine H.Aa (x := fam (pcFam l cs) _) (by repeat constructor) ?_
   refine H.Aa (x := slc cp _ cc _ _ _) (by repeat constructor) ?_
   refine H.Aa (x := fam (fun r => pastH _ _) _) (by repeat constructor) ?_
   refine H.Aa (x := lst (V.map PV.own)) (by repeat constructor) ?_
   refine H.Aa (x := mp vb _ _) (by repeat constructor) ?_
   refine H.Aa (x := row lb _ _) (by repeat constructor) ?_
   refine H.imp (zai ⟨V, vb, pp, pc, cp, cc, pb, cs⟩ hiF) ?_
   exact H.Ac rfl rfl (fun _ h => h) ⟨rfl, rfl, rfl⟩
 | some iv =>
  obtain ⟨⟨w, hw, hwv⟩, _⟩ := zak.1 hat
  obtain ⟨j, X, hX, hXw, hgetX⟩ := view_some hvs hL.rise hat hw
  have hget : (getKV (V.map PV.ent) x.m.body.view).getD (.pointer none) = .pointer (some ⟨X.b, 0, none⟩) := by rw [hgetX]; rfl
  rw [Lgs.counts_1 hk hat hw, ← hre]
  subst hXw
  have hXl := hL.al X.w (List.mem_of_getElem? hw)
  have hXa := X.w.all_len
  by_cases hp : primZ l.n x.m.body.view = x.m.origin
  ·have hau := fun G => auth_fn f G htab x.m.body.req
   cases ha : x.m.body.req.auth with
   | false =>
    rw [if_pos (.inr (.inl rfl))]
    rw [ha] at hau
    refine Fn.enter Tryz.func83 rfl Tryz.ntmps83 rfl (L := [(0, _), (1, _), (2, _)]) ⟨rfl, rfl, rfl, trivial⟩ fun base => ?_
    refine gA ?_
    refine H.box (ls := x.vals) rfl rfl rfl rfl fun mb => ?_
    refine gU ?_
    refine H.Ay (by kernel_rfl) (by decide +kernel) (by repeat (first | exact zab | refine zaa ?_ | refine zac ?_ | refine zad ?_)) (S := [_]) rfl ?_
    refine HB.Af [(0, false), (1, false), (2, false), (3, false), (4, false), (5, false)] 3 (by kernel_rfl) ?_
    refine gJ ?_
    refine HQ.Aj (ls := x.m.body.req.vals) rfl rfl rfl (msg_req (.here _ _ _)) rfl rfl ?_
    refine HQ.Ae rfl ?_
    refine HB.ev1 (i := 6) (by kernel_rfl) rfl ?_
    refine H.Av (ls := Req.zero.vals) rfl rfl rfl fun qb => ?_
    refine gA ?_
    refine H.Aa (x := row mb _ _) (by repeat constructor) ?_
    refine H.on0 rfl ?_
    refine HB.Af [(7, false)] 1 (by kernel_rfl) ?_
    refine gB ?_
    refine HQ.Ae rfl ?_
    refine HB.ev1 (i := 8) (by kernel_rfl) rfl ?_
    refine H.Ap (ls := Req.zero.vals) (vs := x.m.body.req.vals) (ls' := x.m.body.req.vals) rfl rfl rfl (zae rfl) rfl rfl (Nat.le_refl 40) (.there _ (.here _ _ _)) ?_
    refine gA ?_
    refine H.on0 rfl ?_
    refine HB.Aq (by kernel_rfl) ?_
    refine gM ?_
    refine H.Bs (enc := keyU) (k := x.m.body.view) rfl rfl rfl (by repeat constructor) rfl hget rfl ?_
    refine gU ?_
    refine H.Aa (x := lst (V.map PV.own)) (by repeat constructor) ?_
    refine H.lstPull (x := X.own) (i := j) (by rw [List.getElem?_map, hX]; rfl) ?_
    refine H.ownOpen ?_
    show H _ _ _ _ _ (row X.b _ (vwC X.w.num X.w.s.length X.lp X.w.all.length X.lc X.np X.w.p.length X.nc X.hb) :: slc X.lp X.w.all.length X.lc _ 40 (X.w.all.flatMap Req.vals) :: slc X.np X.w.p.length X.nc _ 1 (X.w.p.flatMap numV) :: mp X.hb encA (heldKV X.w.all) :: lst ((V.map PV.own).set j emp) :: _) _
    refine H.Aa (x := mp X.hb _ _) (by repeat constructor) ?_
    refine H.Aa (x := row X.b _ _) (by repeat constructor) ?_
    refine H.Aa (x := row lb _ _) (by repeat constructor) ?_
    refine H.Aa (x := row mb _ _) (by repeat constructor) ?_
    refine H.Aa (x := row qb _ _) (by repeat constructor) ?_
    refine H.Ay (by kernel_rfl) (by decide +kernel) (by repeat (first | exact zab | refine zaa ?_ | refine zac ?_ | refine zad ?_)) (S := [_, _, _, _, _]) rfl ?_
    refine HB.Af [(0, false), (1, false), (3, false), (4, false)] 29 (by kernel_rfl) ?_
    refine gJ ?_
    refine HQ.Ae rfl ?_
    refine HB.ev1 (i := 2) (by kernel_rfl) rfl ?_
    refine H.Aa (x := row lb _ _) (by repeat constructor) ?_
    refine H.Ad rfl rfl rfl (hprim _) ?_
    refine gA ?_
    refine H.Aa (x := mp X.hb _ _) (by repeat constructor) ?_
    refine H.Aa (x := row X.b _ _) (by repeat constructor) ?_
    refine H.Aa (x := row lb _ _) (by repeat constructor) ?_
    refine H.Aa (x := row mb _ _) (by repeat constructor) ?_
    refine H.Aa (x := row qb _ _) (by repeat constructor) ?_
    refine H.on0 rfl ?_
    refine HB.Af [(5, false), (6, false), (7, false), (8, false), (9, false), (10, false), (11, false)] 21 (by kernel_rfl) ?_
    refine gc ?_
    refine HQ.Aj (ls := x.m.body.req.vals) rfl rfl rfl (Rd.ofRow (.here _ _ _)) rfl rfl ?_
    refine HQ.Ae rfl ?_
    refine HB.ev1 (i := 12) (by kernel_rfl) rfl ?_
    refine H.Ad rfl rfl rfl (hau _) ?_
    refine gA ?_
    refine H.on0 rfl ?_
    refine HB.Af [(13, false), (14, false), (15, false), (16, false), (17, false), (18, false), (19, false), (20, false), (21, false), (22, false), (23, false), (24, false), (25, false), (26, false), (27, false), (28, false), (29, false)] 3 (by kernel_rfl) ?_
    refine gO ?_
    refine HQ.Ae rfl ?_
    refine HB.ev1 (i := 30) (by kernel_rfl) rfl ?_
    refine gC ?_
    refine H.on0 rfl ?_
    refine HB.Af [(31, false), (32, false)] 0 (by kernel_rfl) ?_
    refine gO ?_
    refine HQ.Ae rfl ?_
    refine HB.Aq (by kernel_rfl) ?_
    refine gD ?_
    refine H.Aa (x := mp X.hb _ _) (by repeat constructor) ?_
    refine H.Aa (x := slc X.np _ X.nc _ _ _) (by repeat constructor) ?_
    refine H.Aa (x := slc X.lp _ X.lc _ _ _) (by repeat constructor) ?_
    refine H.Aa (x := row X.b _ _) (by repeat constructor) ?_
    refine H.imp (own_fold (x := X)) ?_
    refine H.Aa (x := lst ((V.map PV.own).set j emp)) (by repeat constructor) ?_
    refine H.Aa (x := X.own) (by repeat constructor) ?_
    refine H.lstBack (by rw [List.getElem?_map, hX]; rfl) ?_
    refine H.Ab (x := row mb _ _) (by repeat constructor) ?_
    refine H.Ab (x := row qb _ _) (by repeat constructor) ?_
    refine H.Aa (x := fam (pcFam l cs) _) (by repeat constructor) ?_
    refine H.Aa (x := slc cp _ cc _ _ _) (by repeat constructor) ?_
    refine H.Aa (x := fam (fun r => pastH _ _) _) (by repeat constructor) ?_
    refine H.Aa (x := lst (V.map PV.own)) (by repeat constructor) ?_
    refine H.Aa (x := mp vb _ _) (by repeat constructor) ?_
    refine H.Aa (x := row lb _ _) (by repeat constructor) ?_
    refine H.imp (zai ⟨V, vb, pp, pc, cp, cc, pb, cs⟩ hiF) ?_
    exact H.Ac rfl rfl (fun _ h => h) ⟨rfl, rfl, rfl⟩
   | true =>
    rw [ha] at hau
    have hheld : (getKV (heldKV X.w.all) (x.m.body.req.client, x.m.body.req.time)).getD (.bool false) = .bool (holdsB X.w.all x.m.body.req.client x.m.body.req.time) := by
     rw [held_get]; cases holdsB X.w.all x.m.body.req.client x.m.body.req.time <;> rfl
    cases hh : holdsB X.w.all x.m.body.req.client x.m.body.req.time with
    | true =>
     rw [hh] at hheld
     rw [if_pos (.inr (.inr (.inl rfl)))]
     refine Fn.enter Tryz.func83 rfl Tryz.ntmps83 rfl (L := [(0, _), (1, _), (2, _)]) ⟨rfl, rfl, rfl, trivial⟩ fun base => ?_
     refine gA ?_
     refine H.box (ls := x.vals) rfl rfl rfl rfl fun mb => ?_
     refine gU ?_
     refine H.Ay (by kernel_rfl) (by decide +kernel) (by repeat (first | exact zab | refine zaa ?_ | refine zac ?_ | refine zad ?_)) (S := [_]) rfl ?_
     refine HB.Af [(0, false), (1, false), (2, false), (3, false), (4, false), (5, false)] 3 (by kernel_rfl) ?_
     refine gJ ?_
     refine HQ.Aj (ls := x.m.body.req.vals) rfl rfl rfl (msg_req (.here _ _ _)) rfl rfl ?_
     refine HQ.Ae rfl ?_
     refine HB.ev1 (i := 6) (by kernel_rfl) rfl ?_
     refine H.Av (ls := Req.zero.vals) rfl rfl rfl fun qb => ?_
     refine gA ?_
     refine H.Aa (x := row mb _ _) (by repeat constructor) ?_
     refine H.on0 rfl ?_
     refine HB.Af [(7, false)] 1 (by kernel_rfl) ?_
     refine gB ?_
     refine HQ.Ae rfl ?_
     refine HB.ev1 (i := 8) (by kernel_rfl) rfl ?_
     refine H.Ap (ls := Req.zero.vals) (vs := x.m.body.req.vals) (ls' := x.m.body.req.vals) rfl rfl rfl (zae rfl) rfl rfl (Nat.le_refl 40) (.there _ (.here _ _ _)) ?_
     refine gA ?_
     refine H.on0 rfl ?_
     refine HB.Aq (by kernel_rfl) ?_
     refine gM ?_
     refine H.Bs (enc := keyU) (k := x.m.body.view) rfl rfl rfl (by repeat constructor) rfl hget rfl ?_
     refine gU ?_
     refine H.Aa (x := lst (V.map PV.own)) (by repeat constructor) ?_
     refine H.lstPull (x := X.own) (i := j) (by rw [List.getElem?_map, hX]; rfl) ?_
     refine H.ownOpen ?_
     show H _ _ _ _ _ (row X.b _ (vwC X.w.num X.w.s.length X.lp X.w.all.length X.lc X.np X.w.p.length X.nc X.hb) :: slc X.lp X.w.all.length X.lc _ 40 (X.w.all.flatMap Req.vals) :: slc X.np X.w.p.length X.nc _ 1 (X.w.p.flatMap numV) :: mp X.hb encA (heldKV X.w.all) :: lst ((V.map PV.own).set j emp) :: _) _
     refine H.Aa (x := mp X.hb _ _) (by repeat constructor) ?_
     refine H.Aa (x := row X.b _ _) (by repeat constructor) ?_
     refine H.Aa (x := row lb _ _) (by repeat constructor) ?_
     refine H.Aa (x := row mb _ _) (by repeat constructor) ?_
     refine H.Aa (x := row qb _ _) (by repeat constructor) ?_
     refine H.Ay (by kernel_rfl) (by decide +kernel) (by repeat (first | exact zab | refine zaa ?_ | refine zac ?_ | refine zad ?_)) (S := [_, _, _, _, _]) rfl ?_
     refine HB.Af [(0, false), (1, false), (3, false), (4, false)] 29 (by kernel_rfl) ?_
     refine gJ ?_
     refine HQ.Ae rfl ?_
     refine HB.ev1 (i := 2) (by kernel_rfl) rfl ?_
     refine H.Aa (x := row lb _ _) (by repeat constructor) ?_
     refine H.Ad rfl rfl rfl (hprim _) ?_
     refine gA ?_
     refine H.Aa (x := mp X.hb _ _) (by repeat constructor) ?_
     refine H.Aa (x := row X.b _ _) (by repeat constructor) ?_
     refine H.Aa (x := row lb _ _) (by repeat constructor) ?_
     refine H.Aa (x := row mb _ _) (by repeat constructor) ?_
     refine H.Aa (x := row qb _ _) (by repeat constructor) ?_
     refine H.on0 rfl ?_
     refine HB.Af [(5, false), (6, false), (7, false), (8, false), (9, false), (10, false), (11, false)] 21 (by kernel_rfl) ?_
     refine gc ?_
     refine HQ.Aj (ls := x.m.body.req.vals) rfl rfl rfl (Rd.ofRow (.here _ _ _)) rfl rfl ?_
     refine HQ.Ae rfl ?_
     refine HB.ev1 (i := 12) (by kernel_rfl) rfl ?_
     refine H.Ad rfl rfl rfl (hau _) ?_
     refine gA ?_
     refine H.on0 rfl ?_
     refine HB.Af [(13, false), (14, false), (15, false), (16, false), (17, false), (18, false), (19, false), (20, false), (21, false), (22, false), (23, false), (24, false), (25, false), (26, false), (27, false), (28, false), (29, false)] 3 (by kernel_rfl) ?_
     refine gT ?_
     refine HQ.Bs (enc := encA) (k := (x.m.body.req.client, x.m.body.req.time)) rfl rfl rfl (by repeat constructor) rfl hheld rfl ?_
     refine gO ?_
     refine HQ.Ae rfl ?_
     refine HB.ev1 (i := 30) (by kernel_rfl) rfl ?_
     refine gC ?_
     refine H.on0 rfl ?_
     refine HB.Af [(31, false), (32, false)] 0 (by kernel_rfl) ?_
     refine gO ?_
     refine HQ.Ae rfl ?_
     refine HB.Aq (by kernel_rfl) ?_
     refine gD ?_
     refine H.Aa (x := mp X.hb _ _) (by repeat constructor) ?_
     refine H.Aa (x := slc X.np _ X.nc _ _ _) (by repeat constructor) ?_
     refine H.Aa (x := slc X.lp _ X.lc _ _ _) (by repeat constructor) ?_
     refine H.Aa (x := row X.b _ _) (by repeat constructor) ?_
     refine H.imp (own_fold (x := X)) ?_
     refine H.Aa (x := lst ((V.map PV.own).set j emp)) (by repeat constructor) ?_
     refine H.Aa (x := X.own) (by repeat constructor) ?_
     refine H.lstBack (by rw [List.getElem?_map, hX]; rfl) ?_
     refine H.Ab (x := row mb _ _) (by repeat constructor) ?_
     refine H.Ab (x := row qb _ _) (by repeat constructor) ?_
     refine H.Aa (x := fam (pcFam l cs) _) (by repeat constructor) ?_
     refine H.Aa (x := slc cp _ cc _ _ _) (by repeat constructor) ?_
     refine H.Aa (x := fam (fun r => pastH _ _) _) (by repeat constructor) ?_
     refine H.Aa (x := lst (V.map PV.own)) (by repeat constructor) ?_
     refine H.Aa (x := mp vb _ _) (by repeat constructor) ?_
     refine H.Aa (x := row lb _ _) (by repeat constructor) ?_
     refine H.imp (zai ⟨V, vb, pp, pc, cp, cc, pb, cs⟩ hiF) ?_
     exact H.Ac rfl rfl (fun _ h => h) ⟨rfl, rfl, rfl⟩
    | false =>
     rw [hh] at hheld
     have hpr := fun G => prepare_fn f G (pb r) (l.past r) (hwf.mono (B' := 60000) (by omega)) (by decide) (by omega) x.m.body.view
     refine Fn.enter Tryz.func83 rfl Tryz.ntmps83 rfl (L := [(0, _), (1, _), (2, _)]) ⟨rfl, rfl, rfl, trivial⟩ fun base => ?_
     refine gA ?_
     refine H.box (ls := x.vals) rfl rfl rfl rfl fun mb => ?_
     refine gU ?_
     refine H.Ay (by kernel_rfl) (by decide +kernel) (by repeat (first | exact zab | refine zaa ?_ | refine zac ?_ | refine zad ?_)) (S := [_]) rfl ?_
     refine HB.Af [(0, false), (1, false), (2, false), (3, false), (4, false), (5, false)] 3 (by kernel_rfl) ?_
     refine gJ ?_
     refine HQ.Aj (ls := x.m.body.req.vals) rfl rfl rfl (msg_req (.here _ _ _)) rfl rfl ?_
     refine HQ.Ae rfl ?_
     refine HB.ev1 (i := 6) (by kernel_rfl) rfl ?_
     refine H.Av (ls := Req.zero.vals) rfl rfl rfl fun qb => ?_
     refine gA ?_
     refine H.Aa (x := row mb _ _) (by repeat constructor) ?_
     refine H.on0 rfl ?_
     refine HB.Af [(7, false)] 1 (by kernel_rfl) ?_
     refine gB ?_
     refine HQ.Ae rfl ?_
     refine HB.ev1 (i := 8) (by kernel_rfl) rfl ?_
     refine H.Ap (ls := Req.zero.vals) (vs := x.m.body.req.vals) (ls' := x.m.body.req.vals) rfl rfl rfl (zae rfl) rfl rfl (Nat.le_refl 40) (.there _ (.here _ _ _)) ?_
     refine gA ?_
     refine H.on0 rfl ?_
     refine HB.Aq (by kernel_rfl) ?_
     refine gM ?_
     refine H.Bs (enc := keyU) (k := x.m.body.view) rfl rfl rfl (by repeat constructor) rfl hget rfl ?_
     refine gU ?_
     refine H.Aa (x := lst (V.map PV.own)) (by repeat constructor) ?_
     refine H.lstPull (x := X.own) (i := j) (by rw [List.getElem?_map, hX]; rfl) ?_
     refine H.ownOpen ?_
     show H _ _ _ _ _ (row X.b _ (vwC X.w.num X.w.s.length X.lp X.w.all.length X.lc X.np X.w.p.length X.nc X.hb) :: slc X.lp X.w.all.length X.lc _ 40 (X.w.all.flatMap Req.vals) :: slc X.np X.w.p.length X.nc _ 1 (X.w.p.flatMap numV) :: mp X.hb encA (heldKV X.w.all) :: lst ((V.map PV.own).set j emp) :: _) _
     refine H.Aa (x := mp X.hb _ _) (by repeat constructor) ?_
     refine H.Aa (x := row X.b _ _) (by repeat constructor) ?_
     refine H.Aa (x := row lb _ _) (by repeat constructor) ?_
     refine H.Aa (x := row mb _ _) (by repeat constructor) ?_
     refine H.Aa (x := row qb _ _) (by repeat constructor) ?_
     refine H.Ay (by kernel_rfl) (by decide +kernel) (by repeat (first | exact zab | refine zaa ?_ | refine zac ?_ | refine zad ?_)) (S := [_, _, _, _, _]) rfl ?_
     refine HB.Af [(0, false), (1, false), (3, false), (4, false)] 29 (by kernel_rfl) ?_
     refine gJ ?_
     refine HQ.Ae rfl ?_
     refine HB.ev1 (i := 2) (by kernel_rfl) rfl ?_
     refine H.Aa (x := row lb _ _) (by repeat constructor) ?_
     refine H.Ad rfl rfl rfl (hprim _) ?_
     refine gA ?_
     refine H.Aa (x := mp X.hb _ _) (by repeat constructor) ?_
     refine H.Aa (x := row X.b _ _) (by repeat constructor) ?_
     refine H.Aa (x := row lb _ _) (by repeat constructor) ?_
     refine H.Aa (x := row mb _ _) (by repeat constructor) ?_
     refine H.Aa (x := row qb _ _) (by repeat constructor) ?_
     refine H.on0 rfl ?_
     refine HB.Af [(5, false), (6, false), (7, false), (8, false), (9, false), (10, false), (11, false)] 21 (by kernel_rfl) ?_
     refine gc ?_
     refine HQ.Aj (ls := x.m.body.req.vals) rfl rfl rfl (Rd.ofRow (.here _ _ _)) rfl rfl ?_
     refine HQ.Ae rfl ?_
     refine HB.ev1 (i := 12) (by kernel_rfl) rfl ?_
     refine H.Ad rfl rfl rfl (hau _) ?_
     refine gA ?_
     refine H.on0 rfl ?_
     refine HB.Af [(13, false), (14, false), (15, false), (16, false), (17, false), (18, false), (19, false), (20, false), (21, false), (22, false), (23, false), (24, false), (25, false), (26, false), (27, false), (28, false), (29, false)] 3 (by kernel_rfl) ?_
     refine gT ?_
     refine HQ.Bs (enc := encA) (k := (x.m.body.req.client, x.m.body.req.time)) rfl rfl rfl (by repeat constructor) rfl hheld rfl ?_
     refine gO ?_
     refine HQ.Ae rfl ?_
     refine HB.ev1 (i := 30) (by kernel_rfl) rfl ?_
     refine H.Aa (x := fam (fun r => pastH _ _) _) (by repeat constructor) ?_
     refine H.famPull hr ?_
     refine H.Ad rfl rfl rfl (hpr _) ?_
     cases hop : (l.past r).isOpen x.m.body.view with
     | false =>
      rw [if_pos (.inr (.inr (.inr rfl)))]
      rw [show (l.past r).prepare x.m.body.view = l.past r by unfold PM.prepare; rw [hop]; rfl]
      refine H.famBack (g := fun r => pastH (pb r) (l.past r)) hr ?_
      refine gA ?_
      refine H.Aa (x := mp X.hb _ _) (by repeat constructor) ?_
      refine H.Aa (x := row X.b _ _) (by repeat constructor) ?_
      refine H.Aa (x := row lb _ _) (by repeat constructor) ?_
      refine H.Aa (x := row mb _ _) (by repeat constructor) ?_
      refine H.Aa (x := row qb _ _) (by repeat constructor) ?_
      refine H.on0 rfl ?_
      refine HB.Af [(31, false), (32, false)] 0 (by kernel_rfl) ?_
      refine gO ?_
      refine HQ.Ae rfl ?_
      refine HB.Aq (by kernel_rfl) ?_
      refine gD ?_
      refine H.Aa (x := mp X.hb _ _) (by repeat constructor) ?_
      refine H.Aa (x := slc X.np _ X.nc _ _ _) (by repeat constructor) ?_
      refine H.Aa (x := slc X.lp _ X.lc _ _ _) (by repeat constructor) ?_
      refine H.Aa (x := row X.b _ _) (by repeat constructor) ?_
      refine H.imp (own_fold (x := X)) ?_
      refine H.Aa (x := lst ((V.map PV.own).set j emp)) (by repeat constructor) ?_
      refine H.Aa (x := X.own) (by repeat constructor) ?_
      refine H.lstBack (by rw [List.getElem?_map, hX]; rfl) ?_
      refine H.Ab (x := row mb _ _) (by repeat constructor) ?_
      refine H.Ab (x := row qb _ _) (by repeat constructor) ?_
      refine H.Aa (x := fam (pcFam l cs) _) (by repeat constructor) ?_
      refine H.Aa (x := slc cp _ cc _ _ _) (by repeat constructor) ?_
      refine H.Aa (x := fam (fun r => pastH _ _) _) (by repeat constructor) ?_
      refine H.Aa (x := lst (V.map PV.own)) (by repeat constructor) ?_
      refine H.Aa (x := mp vb _ _) (by repeat constructor) ?_
      refine H.Aa (x := row lb _ _) (by repeat constructor) ?_
      refine H.imp (zai ⟨V, vb, pp, pc, cp, cc, pb, cs⟩ hiF) ?_
      exact H.Ac rfl rfl (fun _ h => h) ⟨rfl, rfl, rfl⟩
     | true =>
      rw [if_neg (by rintro (h | h | h | h) <;> first | exact of_decide_eq_false h hp | cases h)]
      refine H.famPut (g := fun r => pastH (pb r) (l.past r)) hr ?_
      rw [past_updF]
      refine gA ?_
      refine H.Aa (x := mp X.hb _ _) (by repeat constructor) ?_
      refine H.Aa (x := row X.b _ _) (by repeat constructor) ?_
      refine H.Aa (x := row lb _ _) (by repeat constructor) ?_
      refine H.Aa (x := row mb _ _) (by repeat constructor) ?_
      refine H.Aa (x := row qb _ _) (by repeat constructor) ?_
      refine H.on0 rfl ?_
      refine HB.Af [(31, false), (32, false)] 0 (by kernel_rfl) ?_
      refine gO ?_
      refine HQ.Ae rfl ?_
      refine HB.Aq (by kernel_rfl) ?_
      refine gR ?_
      refine H.Aj (ls := x.m.body.req.vals) rfl rfl rfl (Rd.ofRow (.here _ _ _)) rfl rfl ?_
      refine H.Aa (x := mp X.hb _ _) (by repeat constructor) ?_
      refine H.Aa (x := slc X.lp _ X.lc _ _ _) (by repeat constructor) ?_
      refine H.Aa (x := row X.b _ _) (by repeat constructor) ?_
      refine H.call rfl rfl rfl (vput_fn f _ (by omega) x.m.body.req) fun v f' A' hR => ?_
      obtain ⟨lp2, lc2, hff, rfl⟩ := hR
      rw [hff]
      have hput := X.w.put_all (x.m.number, x.m.body.req)
      show H _ _ _ _ _ (row X.b _ (vwC X.w.num X.w.s.length lp2 (X.w.all ++ [x.m.body.req]).length lc2 X.np X.w.p.length X.nc X.hb) :: slc lp2 (X.w.all ++ [x.m.body.req]).length lc2 _ 40 ((X.w.all ++ [x.m.body.req]).flatMap Req.vals) :: mp X.hb encA (heldKV (X.w.all ++ [x.m.body.req])) :: _) _
      rw [← hput]
      clear hput
      refine gA ?_
      refine H.Aa (x := row X.b _ _) (by repeat constructor) ?_
      refine H.Aa (x := row mb _ _) (by repeat constructor) ?_
      refine H.drawC [0, 1, 2, 3, 4, 5, 6, 7, 8] (by kernel_rfl) (by decide +kernel) (by repeat (first | exact zab | refine zaa ?_ | refine zac ?_ | refine zad ?_)) (S := [_, _]) rfl ?_
      refine HB.Af [(0, false), (1, false), (2, false), (3, false), (4, false), (5, false), (6, false)] 5 (by kernel_rfl) ?_
      refine gJ ?_
      refine HQ.Ae rfl ?_
      refine HB.ev1 (i := 7) (by kernel_rfl) rfl ?_
      refine H.Bd (out := numV (x.m.number, x.m.body.req)) rfl rfl rfl rfl (by decide) (by decide) rfl rfl fun eb => ?_
      refine gA ?_
      refine H.Aa (x := row X.b _ _) (by repeat constructor) ?_
      refine H.Aa (x := row mb _ _) (by repeat constructor) ?_
      refine H.on0 rfl ?_
      refine HB.ev1 (i := 8) (by kernel_rfl) rfl ?_
      refine H.Bf (sz := 1) (p := X.np) (n0 := X.w.p.length) (c := X.nc) (xs := X.w.p.flatMap numV) (m := 1) (news := numV (x.m.number, x.m.body.req)) rfl rfl rfl rfl rfl (fun p' c' => (by repeat constructor)) (Src.slice (Rd.ofRow (by repeat constructor)) rfl) (zae rfl) rfl (by omega) (by omega) fun np2 nc2 => ?_
      refine gA ?_
      refine H.Ab (x := row eb _ _) (by repeat constructor) ?_
      refine H.on0 rfl ?_
      refine HB.next [] (by kernel_rfl) (S' := []) rfl ?_
      refine HB.Af [(9, false), (10, false)] 1 (by kernel_rfl) ?_
      refine gJ ?_
      refine HQ.Ae rfl ?_
      refine HB.ev1 (i := 11) (by kernel_rfl) rfl ?_
      refine H.Bi (ls := vwC X.w.num X.w.s.length lp2 ({ X.w with p := X.w.p ++ [(x.m.number, x.m.body.req)] } : Vw).all.length lc2 X.np X.w.p.length X.nc X.hb) (ls' := vwC X.w.num X.w.s.length lp2 ({ X.w with p := X.w.p ++ [(x.m.number, x.m.body.req)] } : Vw).all.length lc2 np2 (X.w.p.length + 1) nc2 X.hb) rfl rfl rfl rfl (.there _ (.here _ _ _)) (by repeat (first | exact .here _ _ _ | apply SetV.there)) ?_
      refine gA ?_
      refine H.on0 rfl ?_
      refine HB.Aq (by kernel_rfl) ?_
      refine ga ?_
      have e1 : X.w.p.length + 1 = (X.w.p ++ [(x.m.number, x.m.body.req)]).length := by rw [List.length_append]; rfl
      have e2 : X.w.p.flatMap numV ++ numV (x.m.number, x.m.body.req) = (X.w.p ++ [(x.m.number, x.m.body.req)]).flatMap numV := by rw [List.flatMap_append]; rfl
      rw [e1, e2]
      refine H.Aa (x := mp X.hb _ _) (by repeat constructor) ?_
      refine H.Aa (x := slc np2 _ nc2 _ _ _) (by repeat constructor) ?_
      refine H.Aa (x := slc lp2 _ lc2 _ _ _) (by repeat constructor) ?_
      refine H.Aa (x := row X.b _ _) (by repeat constructor) ?_
      refine H.imp (own_fold (x := ⟨{ X.w with p := X.w.p ++ [(x.m.number, x.m.body.req)] }, X.b, lp2, lc2, np2, nc2, X.hb⟩)) ?_
      obtain ⟨Y, hY⟩ : ∃ Y : PV, Y = ⟨{ X.w with p := X.w.p ++ [(x.m.number, x.m.body.req)] }, X.b, lp2, lc2, np2, nc2, X.hb⟩ := ⟨_, rfl⟩
      rw [← hY]
      refine H.Aa (x := lst ((V.map PV.own).set j emp)) (by repeat constructor) ?_
      refine H.Aa (x := Y.own) (by repeat constructor) ?_
      refine H.lstPut (x0 := X.own) (by rw [List.getElem?_map, hX]; rfl) ?_
      rw [← List.map_set, ← ent_set (Y := Y) hX (by rw [hY]) (by rw [hY])]
      have hVw : (V.map PV.w)[j]? = some X.w := by rw [List.getElem?_map, hX]; rfl
      have hperm : ((V.set j Y).map PV.w).Perm (l.vs.set iv { X.w with p := X.w.p ++ [(x.m.number, x.m.body.req)] }) := by
       rw [List.map_set, show Y.w = { X.w with p := X.w.p ++ [(x.m.number, x.m.body.req)] } by rw [hY]]
       exact perm_set hvs hVw hw
      refine H.Ab (x := row mb _ _) (by repeat constructor) ?_
      refine H.Ab (x := row qb _ _) (by repeat constructor) ?_
      refine H.Aa (x := fam (pcFam l cs) _) (by repeat constructor) ?_
      refine H.Aa (x := slc cp _ cc _ _ _) (by repeat constructor) ?_
      refine H.Aa (x := fam (fun r => pastH _ _) _) (by repeat constructor) ?_
      refine H.Aa (x := lst ((V.set j Y).map PV.own)) (by repeat constructor) ?_
      refine H.Aa (x := mp vb _ _) (by repeat constructor) ?_
      refine H.Aa (x := row lb _ _) (by repeat constructor) ?_
      refine H.imp (zai (l := { l with past := updF l.past r ((l.past r).prepare x.m.body.view), vs := l.vs.set iv { X.w with p := X.w.p ++ [(x.m.number, x.m.body.req)] } }) ⟨V.set j Y, vb, pp, pc, cp, cc, pb, cs⟩ ⟨hperm, hiF.p⟩) ?_
      exact H.Ac rfl rfl (fun _ h => h) ⟨rfl, rfl, rfl⟩
  ·rw [if_pos (.inl (decide_eq_false hp))]
   refine Fn.enter Tryz.func83 rfl Tryz.ntmps83 rfl (L := [(0, _), (1, _), (2, _)]) ⟨rfl, rfl, rfl, trivial⟩ fun base => ?_
   refine gA ?_
   refine H.box (ls := x.vals) rfl rfl rfl rfl fun mb => ?_
   refine gU ?_
   refine H.Ay (by kernel_rfl) (by decide +kernel) (by repeat (first | exact zab | refine zaa ?_ | refine zac ?_ | refine zad ?_)) (S := [_]) rfl ?_
   refine HB.Af [(0, false), (1, false), (2, false), (3, false), (4, false), (5, false)] 3 (by kernel_rfl) ?_
   refine gJ ?_
   refine HQ.Aj (ls := x.m.body.req.vals) rfl rfl rfl (msg_req (.here _ _ _)) rfl rfl ?_
   refine HQ.Ae rfl ?_
   refine HB.ev1 (i := 6) (by kernel_rfl) rfl ?_
   refine H.Av (ls := Req.zero.vals) rfl rfl rfl fun qb => ?_
   refine gA ?_
   refine H.Aa (x := row mb _ _) (by repeat constructor) ?_
   refine H.on0 rfl ?_
   refine HB.Af [(7, false)] 1 (by kernel_rfl) ?_
   refine gB ?_
   refine HQ.Ae rfl ?_
   refine HB.ev1 (i := 8) (by kernel_rfl) rfl ?_
   refine H.Ap (ls := Req.zero.vals) (vs := x.m.body.req.vals) (ls' := x.m.body.req.vals) rfl rfl rfl (zae rfl) rfl rfl (Nat.le_refl 40) (.there _ (.here _ _ _)) ?_
   refine gA ?_
   refine H.on0 rfl ?_
   refine HB.Aq (by kernel_rfl) ?_
   refine gM ?_
   refine H.Bs (enc := keyU) (k := x.m.body.view) rfl rfl rfl (by repeat constructor) rfl hget rfl ?_
   refine gU ?_
   refine H.Aa (x := lst (V.map PV.own)) (by repeat constructor) ?_
   refine H.lstPull (x := X.own) (i := j) (by rw [List.getElem?_map, hX]; rfl) ?_
   refine H.ownOpen ?_
   show H _ _ _ _ _ (row X.b _ (vwC X.w.num X.w.s.length X.lp X.w.all.length X.lc X.np X.w.p.length X.nc X.hb) :: slc X.lp X.w.all.length X.lc _ 40 (X.w.all.flatMap Req.vals) :: slc X.np X.w.p.length X.nc _ 1 (X.w.p.flatMap numV) :: mp X.hb encA (heldKV X.w.all) :: lst ((V.map PV.own).set j emp) :: _) _
   refine H.Aa (x := mp X.hb _ _) (by repeat constructor) ?_
   refine H.Aa (x := row X.b _ _) (by repeat constructor) ?_
   refine H.Aa (x := row lb _ _) (by repeat constructor) ?_
   refine H.Aa (x := row mb _ _) (by repeat constructor) ?_
   refine H.Aa (x := row qb _ _) (by repeat constructor) ?_
   refine H.Ay (by kernel_rfl) (by decide +kernel) (by repeat (first | exact zab | refine zaa ?_ | refine zac ?_ | refine zad ?_)) (S := [_, _, _, _, _]) rfl ?_
   refine HB.Af [(0, false), (1, false), (3, false), (4, false)] 29 (by kernel_rfl) ?_
   refine gJ ?_
   refine HQ.Ae rfl ?_
   refine HB.ev1 (i := 2) (by kernel_rfl) rfl ?_
   refine H.Aa (x := row lb _ _) (by repeat constructor) ?_
   refine H.Ad rfl rfl rfl (hprim _) ?_
   refine gA ?_
   refine H.Aa (x := mp X.hb _ _) (by repeat constructor) ?_
   refine H.Aa (x := row X.b _ _) (by repeat constructor) ?_
   refine H.Aa (x := row lb _ _) (by repeat constructor) ?_
   refine H.Aa (x := row mb _ _) (by repeat constructor) ?_
   refine H.Aa (x := row qb _ _) (by repeat constructor) ?_
   refine H.on0 rfl ?_
   refine HB.Af [(5, false), (6, false), (7, false), (8, false), (9, false), (10, false), (11, false)] 21 (by kernel_rfl) ?_
   refine gc ?_
   refine HQ.Ae rfl ?_
   refine HB.ev1 (i := 12) (by kernel_rfl) rfl ?_
   refine gC ?_
   refine H.on0 rfl ?_
   refine HB.Af [(13, false), (14, false), (15, false), (16, false), (17, false), (18, false), (19, false), (20, false), (21, false), (22, false), (23, false), (24, false), (25, false), (26, false), (27, false), (28, false), (29, false)] 3 (by kernel_rfl) ?_
   refine gO ?_
   refine HQ.Ae rfl ?_
   refine HB.ev1 (i := 30) (by kernel_rfl) rfl ?_
   refine gC ?_
   refine H.on0 rfl ?_
   refine HB.Af [(31, false), (32, false)] 0 (by kernel_rfl) ?_
   refine gO ?_
   refine HQ.Ae rfl ?_
   refine HB.Aq (by kernel_rfl) ?_
   refine gD ?_
   refine H.Aa (x := mp X.hb _ _) (by repeat constructor) ?_
   refine H.Aa (x := slc X.np _ X.nc _ _ _) (by repeat constructor) ?_
   refine H.Aa (x := slc X.lp _ X.lc _ _ _) (by repeat constructor) ?_
   refine H.Aa (x := row X.b _ _) (by repeat constructor) ?_
   refine H.imp (own_fold (x := X)) ?_
   refine H.Aa (x := lst ((V.map PV.own).set j emp)) (by repeat constructor) ?_
   refine H.Aa (x := X.own) (by repeat constructor) ?_
   refine H.lstBack (by rw [List.getElem?_map, hX]; rfl) ?_
   refine H.Ab (x := row mb _ _) (by repeat constructor) ?_
   refine H.Ab (x := row qb _ _) (by repeat constructor) ?_
   refine H.Aa (x := fam (pcFam l cs) _) (by repeat constructor) ?_
   refine H.Aa (x := slc cp _ cc _ _ _) (by repeat constructor) ?_
   refine H.Aa (x := fam (fun r => pastH _ _) _) (by repeat constructor) ?_
   refine H.Aa (x := lst (V.map PV.own)) (by repeat constructor) ?_
   refine H.Aa (x := mp vb _ _) (by repeat constructor) ?_
   refine H.Aa (x := row lb _ _) (by repeat constructor) ?_
   refine H.imp (zai ⟨V, vb, pp, pc, cp, cc, pb, cs⟩ hiF) ?_
   exact H.Ac rfl rfl (fun _ h => h) ⟨rfl, rfl, rfl⟩
end
section
variable (f : Frag) (F : List HP)
set_option maxRecDepth 20000 in
set_option maxHeartbeats 3200000 in
theorem plcommit_fn {fl : Frag} (hfl : Le fl f) {lb : Nat} {l : Lgs} {T : Nat} (hL : LI l T) (hT : T ≤ 50000) {x : MV} (hok : x.m.body.Ok) (hm : MIn l.n x.m) (hk : x.m.body.kind = 2) (hR : ∀ w ∈ l.vs, RiseN w.p) {i : PPt} (hi : plφ fl l i) {r : Nat} (hre : r = orgI x.m) :
  Fn Tryz.prog 84 [.pointer (some ⟨lb, 0, none⟩), .agg x.vals.toArray, .pointer (some ⟨i.pb r, 0, none⟩)] f (plB lb l i ++ F) (Ret (.bool (l.counts x.m).1) f (plogH f lb (l.counts x.m).2 :: F)) := by
 have hiF := hi.mono hfl
 have hn := hL.n3
 have hor := hm.o
 have hr : r < l.n := by rw [hre]; unfold orgI; omega
 have hwf := hL.wf r hr
 have hil := hL.il r hr
 have hvl := hL.vl
 have hv0 := hm.v
 have hvs := hi.vs
 obtain ⟨V, vb, pp, pc, cp, cc, pb, cs⟩ := i
 have hvs : (V.map PV.w).Perm l.vs := hvs
 have hprim := fun G => plprim_fn f G (lb := lb) (n := l.n) (kn := l.known) (vb := vb) (pp := pp) (pc := pc) (cp := cp) (cc := cc) (by omega) hv0
 have hpl : primI l.n x.m.body.view < 11 := by
  have h1 : x.m.body.view % (l.n : Int) < l.n := Int.emod_lt_of_pos _ (by omega)
  unfold primI; omega
 have hpz : primZ l.n x.m.body.view - 1 = (primI l.n x.m.body.view : Nat) := by unfold primZ; omega
 show Fn _ _ _ f (row lb 127 (plC l.n l.known vb pp pc cp cc) :: mp vb keyU (V.map PV.ent) :: lst (V.map PV.own) :: fam (fun r => pastH (pb r) (l.past r)) l.n :: slc cp l.n cc 158 1 (chRow l cs) :: fam (pcFam l cs) l.n :: F) _
 cases hat : vwAt l.vs x.m.body.view with
 | none =>
  rw [Lgs.counts_2n hk hat]
  have hget : (getKV (V.map PV.ent) x.m.body.view).getD (.pointer none) = .pointer none := by rw [view_none hvs hat]; rfl
  by_cases hp : primZ l.n x.m.body.view = x.m.origin
  ·skip
   refine Fn.enter Tryz.func84 rfl Tryz.ntmps84 rfl (L := [(0, _), (1, _), (2, _)]) ⟨rfl, rfl, rfl, trivial⟩ fun base => ?_
   refine gA ?_
   refine H.box (ls := x.vals) rfl rfl rfl rfl fun mb => ?_
   refine gM ?_
   refine H.Bs (enc := keyU) (k := x.m.body.view) rfl rfl rfl (by repeat constructor) rfl hget rfl ?_
   refine gU ?_
   refine H.Aa (x := row lb _ _) (by repeat constructor) ?_
   refine H.Ad rfl rfl rfl (hprim _) ?_
   refine gU ?_
   refine H.Aa (x := row mb _ _) (by repeat constructor) ?_
   refine H.Ay (by kernel_rfl) (by decide +kernel) (by repeat (first | exact zab | refine zaa ?_ | refine zac ?_ | refine zad ?_)) (S := [_]) rfl ?_
   refine HB.Af [(0, false), (1, false), (2, false), (3, false), (4, false), (5, false), (6, false), (7, false), (8, false), (9, false), (10, false), (11, false), (12, false), (13, false), (14, false), (15, false), (16, false), (17, false), (18, false), (19, false)] 4 (by kernel_rfl) ?_
   refine gc ?_
   refine HQ.Ae rfl ?_
   refine HB.ev1 (i := 20) (by kernel_rfl) rfl ?_
   refine gC ?_
   refine H.on0 rfl ?_
   refine HB.ev1 (i := 21) (by kernel_rfl) rfl ?_
   refine gC ?_
   refine H.on0 rfl ?_
   refine HB.Af [(22, false), (23, false)] 0 (by kernel_rfl) ?_
   refine gO ?_
   refine HQ.Ae rfl ?_
   refine HB.Aq (by kernel_rfl) ?_
   refine ga ?_
   refine H.Ab (x := row mb _ _) (by repeat constructor) ?_
   refine H.Aa (x := fam (pcFam l cs) _) (by repeat constructor) ?_
   refine H.Aa (x := slc cp _ cc _ _ _) (by repeat constructor) ?_
   refine H.Aa (x := fam (fun r => pastH _ _) _) (by repeat constructor) ?_
   refine H.Aa (x := lst (V.map PV.own)) (by repeat constructor) ?_
   refine H.Aa (x := mp vb _ _) (by repeat constructor) ?_
   refine H.Aa (x := row lb _ _) (by repeat constructor) ?_
   refine H.imp (zai ⟨V, vb, pp, pc, cp, cc, pb, cs⟩ hiF) ?_
   exact H.Ac rfl rfl (fun _ h => h) ⟨rfl, rfl, rfl⟩
  ·skip
   refine Fn.enter Tryz.func84 rfl Tryz.ntmps84 rfl (L := [(0, _), (1, _), (2, _)]) ⟨rfl, rfl, rfl, trivial⟩ fun base => ?_
   refine gA ?_
   refine H.box (ls := x.vals) rfl rfl rfl rfl fun mb => ?_
   refine gM ?_
   refine H.Bs (enc := keyU) (k := x.m.body.view) rfl rfl rfl (by repeat constructor) rfl hget rfl ?_
   refine gU ?_
   refine H.Aa (x := row lb _ _) (by repeat constructor) ?_
   refine H.Ad rfl rfl rfl (hprim _) ?_
   refine gU ?_
   refine H.Aa (x := row mb _ _) (by repeat constructor) ?_
   refine H.Ay (by kernel_rfl) (by decide +kernel) (by repeat (first | exact zab | refine zaa ?_ | refine zac ?_ | refine zad ?_)) (S := [_]) rfl ?_
   refine HB.Af [(0, false), (1, false), (2, false), (3, false), (4, false), (5, false), (6, false), (7, false), (8, false), (9, false), (10, false), (11, false), (12, false), (13, false), (14, false), (15, false), (16, false), (17, false), (18, false), (19, false)] 4 (by kernel_rfl) ?_
   refine gc ?_
   refine HQ.Ae rfl ?_
   refine HB.ev1 (i := 20) (by kernel_rfl) rfl ?_
   refine gC ?_
   refine H.on0 rfl ?_
   refine HB.ev1 (i := 21) (by kernel_rfl) rfl ?_
   refine gC ?_
   refine H.on0 rfl ?_
   refine HB.Af [(22, false), (23, false)] 0 (by kernel_rfl) ?_
   refine gO ?_
   refine HQ.Ae rfl ?_
   refine HB.Aq (by kernel_rfl) ?_
   refine ga ?_
   refine H.Ab (x := row mb _ _) (by repeat constructor) ?_
   refine H.Aa (x := fam (pcFam l cs) _) (by repeat constructor) ?_
   refine H.Aa (x := slc cp _ cc _ _ _) (by repeat constructor) ?_
   refine H.Aa (x := fam (fun r => pastH _ _) _) (by repeat constructor) ?_
   refine H.Aa (x := lst (V.map PV.own)) (by repeat constructor) ?_
   refine H.Aa (x := mp vb _ _) (by repeat constructor) ?_
   refine H.Aa (x := row lb _ _) (by repeat constructor) ?_
   refine H.imp (zai ⟨V, vb, pp, pc, cp, cc, pb, cs⟩ hiF) ?_
   exact H.Ac rfl rfl (fun _ h => h) ⟨rfl, rfl, rfl⟩
 | some iv =>
  obtain ⟨⟨w, hw, hwv⟩, _⟩ := zak.1 hat
  obtain ⟨j, X, hX, hXw, hgetX⟩ := view_some hvs hL.rise hat hw
  have hget : (getKV (V.map PV.ent) x.m.body.view).getD (.pointer none) = .pointer (some ⟨X.b, 0, none⟩) := by rw [hgetX]; rfl
  rw [Lgs.counts_2 hk hat hw, ← hre]
  subst hXw
  have hXl := hL.al X.w (List.mem_of_getElem? hw)
  have hXa := X.w.all_len
  have hXr := hR X.w (List.mem_of_getElem? hw)
  by_cases hp : primZ l.n x.m.body.view = x.m.origin
  ·rw [decide_eq_true hp, if_pos rfl]
   refine Fn.enter Tryz.func84 rfl Tryz.ntmps84 rfl (L := [(0, _), (1, _), (2, _)]) ⟨rfl, rfl, rfl, trivial⟩ fun base => ?_
   refine gA ?_
   refine H.box (ls := x.vals) rfl rfl rfl rfl fun mb => ?_
   refine gM ?_
   refine H.Bs (enc := keyU) (k := x.m.body.view) rfl rfl rfl (by repeat constructor) rfl hget rfl ?_
   refine gU ?_
   refine H.Aa (x := row lb _ _) (by repeat constructor) ?_
   refine H.Ad rfl rfl rfl (hprim _) ?_
   refine gU ?_
   refine H.Aa (x := row mb _ _) (by repeat constructor) ?_
   refine H.Ay (by kernel_rfl) (by decide +kernel) (by repeat (first | exact zab | refine zaa ?_ | refine zac ?_ | refine zad ?_)) (S := [_]) rfl ?_
   refine HB.Af [(0, false), (1, false), (2, false), (3, false), (4, false), (5, false), (6, false), (7, false), (8, false), (9, false), (10, false), (11, false), (12, false), (13, false), (14, false), (15, false), (16, false), (17, false), (18, false), (19, false)] 4 (by kernel_rfl) ?_
   refine gc ?_
   refine HQ.Ae rfl ?_
   refine HB.ev1 (i := 20) (by kernel_rfl) rfl ?_
   refine gC ?_
   refine H.on0 rfl ?_
   refine HB.ev1 (i := 21) (by kernel_rfl) rfl ?_
   refine gC ?_
   refine H.on0 rfl ?_
   refine HB.Af [(22, false), (23, false)] 0 (by kernel_rfl) ?_
   refine gO ?_
   refine HQ.Ae rfl ?_
   refine HB.Aq (by kernel_rfl) ?_
   refine ga ?_
   refine H.Ab (x := row mb _ _) (by repeat constructor) ?_
   refine H.Aa (x := fam (pcFam l cs) _) (by repeat constructor) ?_
   refine H.Aa (x := slc cp _ cc _ _ _) (by repeat constructor) ?_
   refine H.Aa (x := fam (fun r => pastH _ _) _) (by repeat constructor) ?_
   refine H.Aa (x := lst (V.map PV.own)) (by repeat constructor) ?_
   refine H.Aa (x := mp vb _ _) (by repeat constructor) ?_
   refine H.Aa (x := row lb _ _) (by repeat constructor) ?_
   refine H.imp (zai ⟨V, vb, pp, pc, cp, cc, pb, cs⟩ hiF) ?_
   exact H.Ac rfl rfl (fun _ h => h) ⟨rfl, rfl, rfl⟩
  ·rw [decide_eq_false hp, if_neg (by decide)]
   have hkn := knowsV_le X.w (x.m.deps (primI l.n x.m.body.view))
   have hun := fun G => until_fn f G (b := X.b) (hb := X.hb) (w := X.w) (lp := X.lp) (lc := X.lc) (np := X.np) (nc := X.nc) hXr (by omega) (x.m.deps (primI l.n x.m.body.view))
   have hvd : (v11 x.m.deps)[primI l.n x.m.body.view]? = some (.int .u64 (x.m.deps (primI l.n x.m.body.view))) := v11_get _ hpl
   generalize hmo : (knowsV X.w (x.m.deps (primI l.n x.m.body.view)) : Nat) = most at *
   have hcm := fun G => commit_fn f G (pb r) (l.past r) (hwf.mono (B' := 60000) (by omega)) (by decide) (by omega) x.m.body.view x.m.body.k (most : Int) hok.2.1 (by omega)
   refine Fn.enter Tryz.func84 rfl Tryz.ntmps84 rfl (L := [(0, _), (1, _), (2, _)]) ⟨rfl, rfl, rfl, trivial⟩ fun base => ?_
   refine gA ?_
   refine H.box (ls := x.vals) rfl rfl rfl rfl fun mb => ?_
   refine gM ?_
   refine H.Bs (enc := keyU) (k := x.m.body.view) rfl rfl rfl (by repeat constructor) rfl hget rfl ?_
   refine gU ?_
   refine H.Aa (x := row lb _ _) (by repeat constructor) ?_
   refine H.Ad rfl rfl rfl (hprim _) ?_
   refine gU ?_
   refine H.Aa (x := row mb _ _) (by repeat constructor) ?_
   refine H.Ay (by kernel_rfl) (by decide +kernel) (by repeat (first | exact zab | refine zaa ?_ | refine zac ?_ | refine zad ?_)) (S := [_]) rfl ?_
   refine HB.Af [(0, false), (1, false), (2, false), (3, false), (4, false), (5, false), (6, false), (7, false), (8, false), (9, false), (10, false), (11, false), (12, false), (13, false), (14, false), (15, false), (16, false), (17, false), (18, false), (19, false)] 4 (by kernel_rfl) ?_
   refine gc ?_
   refine HQ.Ba (i := primI l.n x.m.body.view) rfl rfl rfl hpz hpl rfl ?_
   refine HQ.Ag rfl rfl rfl (by rw [Nat.mul_one]; exact Rd1.of (zbc (m := x.m) (q := x.qp) (qc := x.qc) (.here _ _ _)) hvd) rfl ?_
   skip
   refine HQ.Ae rfl ?_
   refine HB.ev1 (i := 20) (by kernel_rfl) rfl ?_
   refine H.Aa (x := lst (V.map PV.own)) (by repeat constructor) ?_
   refine H.lstPull (x := X.own) (i := j) (by rw [List.getElem?_map, hX]; rfl) ?_
   refine H.ownOpen ?_
   show H _ _ _ _ _ (row X.b _ (vwC X.w.num X.w.s.length X.lp X.w.all.length X.lc X.np X.w.p.length X.nc X.hb) :: slc X.lp X.w.all.length X.lc _ 40 (X.w.all.flatMap Req.vals) :: slc X.np X.w.p.length X.nc _ 1 (X.w.p.flatMap numV) :: mp X.hb encA (heldKV X.w.all) :: lst ((V.map PV.own).set j emp) :: _) _
   refine H.Aa (x := slc X.np _ X.nc _ _ _) (by repeat constructor) ?_
   refine H.Ad rfl rfl rfl (hun _) ?_
   refine H.Aa (x := mp X.hb _ _) (by repeat constructor) ?_
   refine H.Aa (x := slc X.np _ X.nc _ _ _) (by repeat constructor) ?_
   refine H.Aa (x := slc X.lp _ X.lc _ _ _) (by repeat constructor) ?_
   refine H.Aa (x := row X.b _ _) (by repeat constructor) ?_
   refine H.imp (own_fold (x := X)) ?_
   refine H.Aa (x := lst ((V.map PV.own).set j emp)) (by repeat constructor) ?_
   refine H.Aa (x := X.own) (by repeat constructor) ?_
   refine H.lstBack (by rw [List.getElem?_map, hX]; rfl) ?_
   refine gA ?_
   refine H.Aa (x := row mb _ _) (by repeat constructor) ?_
   refine H.on0 rfl ?_
   refine HB.ev1 (i := 21) (by kernel_rfl) rfl ?_
   refine H.Aa (x := fam (fun r => pastH _ _) _) (by repeat constructor) ?_
   refine H.famPull hr ?_
   refine H.Ad rfl rfl rfl (hcm _) ?_
   refine H.famPut (g := fun r => pastH (pb r) (l.past r)) hr ?_
   rw [past_updF]
   refine gA ?_
   refine H.Aa (x := row mb _ _) (by repeat constructor) ?_
   refine H.on0 rfl ?_
   refine HB.Af [(22, false), (23, false)] 0 (by kernel_rfl) ?_
   refine gO ?_
   refine HQ.Ae rfl ?_
   refine HB.Aq (by kernel_rfl) ?_
   refine ga ?_
   refine H.Ab (x := row mb _ _) (by repeat constructor) ?_
   refine H.Aa (x := fam (pcFam l cs) _) (by repeat constructor) ?_
   refine H.Aa (x := slc cp _ cc _ _ _) (by repeat constructor) ?_
   refine H.Aa (x := fam (fun r => pastH _ _) _) (by repeat constructor) ?_
   refine H.Aa (x := lst (V.map PV.own)) (by repeat constructor) ?_
   refine H.Aa (x := mp vb _ _) (by repeat constructor) ?_
   refine H.Aa (x := row lb _ _) (by repeat constructor) ?_
   refine H.imp (zai (l := l.doPast r _) ⟨V, vb, pp, pc, cp, cc, pb, cs⟩ ⟨hiF.vs, hiF.p⟩) ?_
   exact H.Ac rfl rfl (fun _ h => h) ⟨rfl, rfl, rfl⟩
end
theorem Lgs.begins_kn (l : Lgs) (k : Nat → Int) (m : Msg) : ({ l with known := k } : Lgs).begins m = ((l.begins m).1, { (l.begins m).2 with known := k }) := by
 unfold Lgs.begins
 by_cases h1 : m.body.q.length ≠ (l.n - 1) / 2 + 1
 ·rw [if_pos h1, if_pos h1]
 ·rw [if_neg h1, if_neg h1]
  by_cases h2 : (m.body.q.all fun q => decide (q.2 ≤ m.deps (q.1 - 1).toNat) && chB l q m.body.view) = false
  ·rw [if_pos h2]
   rw [if_pos (show (m.body.q.all fun q => decide (q.2 ≤ m.deps (q.1 - 1).toNat) && chB { l with known := k } q m.body.view) = false from h2)]
  ·rw [if_neg h2]
   rw [if_neg (show ¬ (m.body.q.all fun q => decide (q.2 ≤ m.deps (q.1 - 1).toNat) && chB { l with known := k } q m.body.view) = false from h2)]
   show (if (l.past (orgI m)).enterOk m.body.view (bestQ l.past m.body.view m.body.q (0, 0)).2 = false then _ else _) = _
   split <;> rfl
theorem Lgs.counts_kn (l : Lgs) (k : Nat → Int) (m : Msg) : ({ l with known := k } : Lgs).counts m = ((l.counts m).1, { (l.counts m).2 with known := k }) := by
 by_cases h3 : m.body.kind = 3
 ·rw [Lgs.counts_3 h3, Lgs.counts_3 h3]
  show (if (l.past (orgI m)).changeOk m.body.view = true then _ else _) = _
  split <;> rfl
 ·by_cases h4 : m.body.kind = 4
  ·rw [Lgs.counts_4 h4, Lgs.counts_4 h4, Lgs.begins_kn]
   show (if decide (primZ l.n m.body.view = m.origin) = true then _ else _) = _
   split <;> rfl
  ·by_cases h5 : m.body.kind = 5
   ·cases hat : vwAt l.vs m.body.view with
    | none => rw [Lgs.counts_5n (l := { l with known := k }) h5 hat, Lgs.counts_5n h5 hat]
    | some i =>
     obtain ⟨⟨w, hw, _⟩, _⟩ := zak.1 hat
     rw [Lgs.counts_5 (l := { l with known := k }) h5 hat hw, Lgs.counts_5 h5 hat hw]
     show (if m.deps (primI l.n m.body.view) < w.num then _ else _) = _
     split <;> rfl
   ·by_cases h1 : m.body.kind = 1
    ·cases hat : vwAt l.vs m.body.view with
     | none => rw [Lgs.counts_1n (l := { l with known := k }) h1 hat, Lgs.counts_1n h1 hat]
     | some i =>
      obtain ⟨⟨w, hw, _⟩, _⟩ := zak.1 hat
      rw [Lgs.counts_1 (l := { l with known := k }) h1 hat hw, Lgs.counts_1 h1 hat hw]
      show (if decide (primZ l.n m.body.view = m.origin) = false ∨ m.body.req.auth = false ∨ holdsB w.all m.body.req.client m.body.req.time = true ∨ (l.past (orgI m)).isOpen m.body.view = false then _ else _) = _
      split <;> rfl
    ·by_cases h2 : m.body.kind = 2
     ·cases hat : vwAt l.vs m.body.view with
      | none => rw [Lgs.counts_2n (l := { l with known := k }) h2 hat, Lgs.counts_2n h2 hat]
      | some i =>
       obtain ⟨⟨w, hw, _⟩, _⟩ := zak.1 hat
       rw [Lgs.counts_2 (l := { l with known := k }) h2 hat hw, Lgs.counts_2 h2 hat hw]
       show (if decide (primZ l.n m.body.view = m.origin) = true then _ else _) = _
       split <;> rfl
     ·rw [Lgs.counts_x h3 h4 h5 h1 h2, Lgs.counts_x h3 h4 h5 h1 h2]
theorem plC_set (n : Nat) (kn : Nat → Int) (vb : Nat) (pp : Option Addr) (pc : Nat) (cp : Option Addr) (cc : Nat) (z : Int) {o : Nat} (h : o < 11) : SetV (plC n kn vb pp pc cp cc) (0 + 1 + o * 1) (.int .u64 z) (plC n (updF kn o z) vb pp pc cp cc) := by
 have h1 := (v11_upd kn z h).mid [.int .i64 (n : Int)] [.map (some vb), .slice pp n pc, .slice cp n cc]
 rw [Nat.mul_one]
 exact h1
def Lgs.more (l : Lgs) (m : Msg) : Lgs := { l with known := updF l.known (orgI m) (l.known (orgI m) + 1) }
section
variable (f : Frag) (F : List HP)
theorem pltk1_fn {lv lb n : Nat} {kn : Nat → Int} {vb : Nat} {pp : Option Addr} {pc : Nat} {cp : Option Addr} {cc : Nat} (x : Int × Int) : Fn Tryz.prog 55 ([] ++ [.agg (pairV x).toArray] ++ [.pointer (some ⟨lv, 0, none⟩)]) f (row lv 66 [.pointer (some ⟨lb, 0, none⟩)] :: row lb 127 (plC n kn vb pp pc cp cc) :: F)
  (Ret (.bool (decide ((n : Int) < x.1))) f (row lv 66 [.pointer (some ⟨lb, 0, none⟩)] :: row lb 127 (plC n kn vb pp pc cp cc) :: F)) := by
 refine Fn.enter Tryz.func55 rfl Tryz.ntmps55 rfl (L := [(0, _), (1, _)]) ⟨rfl, rfl, trivial⟩ fun base => ?_
 refine gA ?_
 refine H.box (ls := pairV x) rfl rfl rfl rfl fun qb => ?_
 refine gU ?_
 refine H.Bp (by kernel_rfl) (by decide +kernel) (by repeat (first | exact zab | refine zaa ?_ | refine zac ?_ | refine zad ?_)) ?_
 refine gT ?_
 refine ga ?_
 refine H.Ab (.here _ _) ?_
 exact H.Ac rfl rfl (fun _ h => h) ⟨rfl, rfl, rfl⟩
theorem pltake_nil {x : MV} : Fn Tryz.prog 29 [.pointer none, .agg x.vals.toArray] f F (Ret (.tuple #[.bool false, .int .i64 2]) f F) := by
 refine Fn.enter Tryz.func29 rfl Tryz.ntmps29 rfl (L := [(0, _), (1, _)]) ⟨rfl, rfl, trivial⟩ fun base => ?_
 refine gA ?_
 refine H.box (ls := [.pointer none]) rfl rfl rfl rfl fun lv => ?_
 refine H.box (ls := x.vals) rfl rfl rfl rfl fun mb => ?_
 refine gN ?_
 refine H.Ab (.here _ _) ?_
 refine H.Ab (.here _ _) ?_
 exact H.ret2 rfl rfl rfl (fun _ h => h) ⟨rfl, rfl, rfl⟩
set_option maxRecDepth 20000 in
set_option maxHeartbeats 3200000 in
theorem pltake_fn {fl : Frag} (hfl : Le fl f) {lb : Nat} {l : Lgs} {T : Nat} (hL : LI l T) (hT : T ≤ 40000) {x : MV} (hx : x.Good f) {fid : FuncId} [Fun Tryz.prog fid]
  (hB : ∀ G, Fn Tryz.prog 56 [.int .u8 (x.m.body.kind.toNat : Nat)] f G (Ret (.func (.func fid) #[] #[]) f G))
  (hC : x.m.may = true → MIn l.n x.m → ∀ (i : PPt) (G : List HP), plφ fl (l.more x.m) i → Fn Tryz.prog fid [.pointer (some ⟨lb, 0, none⟩), .agg x.vals.toArray, .pointer (some ⟨i.pb (orgI x.m), 0, none⟩)] f (plB lb (l.more x.m) i ++ G) (Ret (.bool ((l.more x.m).counts x.m).1) f (plogH f lb ((l.more x.m).counts x.m).2 :: G))) :
  Fn Tryz.prog 29 [.pointer (some ⟨lb, 0, none⟩), .agg x.vals.toArray] f (plogH fl lb l :: F) (Ret (.tuple #[.bool (l.take x.m).1.1, .int .i64 (l.take x.m).1.2]) f (plogH f lb (l.take x.m).2 :: F)) := by
 refine Fn.unpack fun i0 hi => ?_
 obtain ⟨V, vb, pp, pc, cp, cc, pb, cs⟩ := i0
 have hiF := hi.mono hfl
 have hn := hL.n3
 have hmay := fun G => mmay_fn f G hx
 show Fn _ _ _ f (row lb 127 (plC l.n l.known vb pp pc cp cc) :: mp vb keyU (V.map PV.ent) :: lst (V.map PV.own) :: fam (fun r => pastH (pb r) (l.past r)) l.n :: slc cp l.n cc 158 1 (chRow l cs) :: fam (pcFam l cs) l.n :: F) _
 refine Fn.enter Tryz.func29 rfl Tryz.ntmps29 rfl (L := [(0, _), (1, _)]) ⟨rfl, rfl, trivial⟩ fun base => ?_
 refine gA ?_
 refine H.box (ls := [.pointer (some ⟨lb, 0, none⟩)]) rfl rfl rfl rfl fun lv => ?_
 refine H.box (ls := x.vals) rfl rfl rfl rfl fun mb => ?_
 refine gS ?_
 refine H.Aj (ls := x.vals) rfl rfl rfl (Rd.ofRow (.here _ _ _)) rfl rfl ?_
 refine H.Ad rfl rfl rfl (hmay _) ?_
 cases hm : x.m.may with
 | false =>
  refine H.not (b := false) (c := true) rfl rfl rfl rfl ?_
  refine gD ?_
  refine H.Ab (x := row mb _ _) (by repeat constructor) ?_
  refine H.Ab (x := row lv _ _) (by repeat constructor) ?_
  refine H.imp (zai ⟨V, vb, pp, pc, cp, cc, pb, cs⟩ hiF) ?_
  refine H.ret2 rfl rfl rfl (fun _ h => h) ⟨?_, rfl, ?_⟩
  ·unfold Lgs.take; rw [if_pos (.inl hm)]
  ·unfold Lgs.take; rw [if_pos (.inl hm)]
 | true =>
  have hou := Msg.may_outer hm
  unfold Msg.outer at hou
  refine H.not (b := true) (c := false) rfl rfl rfl rfl ?_
  by_cases ho : (l.n : Int) < x.m.origin
  ·skip
   refine gR ?_
   refine H.Bp (by kernel_rfl) (by decide +kernel) (by repeat (first | exact zab | refine zaa ?_ | refine zac ?_ | refine zad ?_)) ?_
   refine gT ?_
   refine gG ?_
   refine H.Ab (x := row mb _ _) (by repeat constructor) ?_
   refine H.Ab (x := row lv _ _) (by repeat constructor) ?_
   refine H.imp (zai ⟨V, vb, pp, pc, cp, cc, pb, cs⟩ hiF) ?_
   refine H.ret2 rfl rfl rfl (fun _ h => h) ⟨?_, rfl, ?_⟩
   ·unfold Lgs.take; rw [if_pos (.inr (.inl ho))]
   ·unfold Lgs.take; rw [if_pos (.inr (.inl ho))]
  ·skip
   refine gR ?_
   refine H.Bp (by kernel_rfl) (by decide +kernel) (by repeat (first | exact zab | refine zaa ?_ | refine zac ?_ | refine zad ?_)) ?_
   refine gT ?_
   refine gY ?_
   have hql : x.m.body.q.length ≤ 1000000000 := by have := hx.2.1; omega
   have hcl := fun G => hasQ_fn f (row lv 66 [.pointer (some ⟨lb, 0, none⟩)] :: row lb 127 (plC l.n l.known vb pp pc cp cc) :: G) (c := x.qc) hx.1 hql (fun p => decide ((l.n : Int) < p.1)) fun p _ => pltk1_fn f G p
   refine H.Aa (x := row lb _ _) (by repeat constructor) ?_
   refine H.Aa (x := row lv _ _) (by repeat constructor) ?_
   refine H.Ad rfl rfl rfl (hcl _) ?_
   clear hcl
   refine H.Aa (x := row mb _ _) (by repeat constructor) ?_
   cases hany : x.m.body.q.any fun p => decide ((l.n : Int) < p.1) with
   | true =>
    have hqin : qIn l.n x.m = false := by
     obtain ⟨y, hy, h1⟩ := List.any_eq_true.1 hany
     have h1 := of_decide_eq_true h1
     exact List.all_eq_false.2 ⟨y, hy, by rw [decide_eq_false (by omega)]; decide⟩
    refine gD ?_
    refine H.Ab (x := row mb _ _) (by repeat constructor) ?_
    refine H.Ab (x := row lv _ _) (by repeat constructor) ?_
    refine H.imp (zai ⟨V, vb, pp, pc, cp, cc, pb, cs⟩ hiF) ?_
    refine H.ret2 rfl rfl rfl (fun _ h => h) ⟨?_, rfl, ?_⟩
    ·unfold Lgs.take; rw [if_pos (.inr (.inr hqin))]
    ·unfold Lgs.take; rw [if_pos (.inr (.inr hqin))]
   | false =>
    have hqin : qIn l.n x.m = true := List.all_eq_true.2 fun y hy => by
     have h1 := List.any_eq_false.1 hany y hy
     rw [decide_eq_true_eq] at h1
     exact decide_eq_true (by omega)
    have hmi : MIn l.n x.m := may_MIn hm (by omega) hqin hx.2.2.1.1
    have hno : ¬ (x.m.may = false ∨ (l.n : Int) < x.m.origin ∨ qIn l.n x.m = false) := by
     rintro (h | h | h)
     ·rw [hm] at h; cases h
     ·exact ho h
     ·rw [hqin] at h; cases h
    obtain ⟨o, hoe⟩ : ∃ o, o = orgI x.m := ⟨_, rfl⟩
    have hoz : x.m.origin - 1 = (o : Nat) := by rw [hoe]; unfold orgI; omega
    have ho11 : o < 11 := by omega
    have hon : o < l.n := by omega
    have hkn := hL.kn o
    have hCl := hC hm hmi
    clear hany hmay hC
    refine gR ?_
    refine H.Bp (by kernel_rfl) (by decide +kernel) (by repeat (first | exact zab | refine zaa ?_ | refine zac ?_ | refine zad ?_)) ?_
    refine gT ?_
    refine HQ.Ba (i := o) rfl rfl rfl hoz ho11 rfl ?_
    refine HQ.Ag rfl rfl rfl (by rw [Nat.mul_one]; exact Rd1.of (plC_kn (.there _ (.there _ (.here _ _ _)))) (v11_get l.known ho11)) rfl ?_
    refine gT ?_
    by_cases hnum : x.m.number = l.known o + 1
    ·skip
     refine gY ?_
     refine H.Aj (ls := v11 x.m.deps) rfl rfl rfl (zbc (m := x.m) (q := x.qp) (qc := x.qc) (.here _ _ _)) rfl rfl ?_
     refine ga ?_
     refine H.Ax (ι := Nat) (fun i => [(42, .int .i64 (i : Int)), (41, .agg (v11 x.m.deps).toArray), (2, .pointer (some ⟨lv, 0, none⟩)), (3, .pointer (some ⟨mb, 0, none⟩))]) (fun _ => f) (fun _ => row mb 54 x.vals :: row lv 66 [.pointer (some ⟨lb, 0, none⟩)] :: row lb 127 (plC l.n l.known vb pp pc cp cc) :: mp vb keyU (V.map PV.ent) :: lst (V.map PV.own) :: fam (fun r => pastH (pb r) (l.past r)) l.n :: slc cp l.n cc 158 1 (chRow l cs) :: fam (pcFam l cs) l.n :: F)
      (fun i => i ≤ 11 ∧ ∀ j, j < i → x.m.deps j ≤ l.known j) (fun i => 11 - i) 0 ⟨Nat.zero_le _, fun j hj => by omega⟩ ⟨rfl, rfl, rfl, rfl, trivial⟩ rfl rfl fun i hi3 => ?_
     obtain ⟨hi3, hdn⟩ : i ≤ 11 ∧ ∀ j, j < i → x.m.deps j ≤ l.known j := hi3
     by_cases hi11 : i < 11
     ·skip
      refine gG ?_
      refine H.indexV (xs := v11 x.m.deps) (i := i) rfl rfl rfl rfl hi11 rfl (v11_get x.m.deps hi11) rfl ?_
      refine gM ?_
      refine H.Ba (i := i) rfl rfl rfl rfl hi11 rfl ?_
      refine H.Ag rfl rfl rfl (by rw [Nat.mul_one]; exact Rd1.of (plC_kn (.there _ (.there _ (.here _ _ _)))) (v11_get l.known hi11)) rfl ?_
      by_cases hdt : x.m.deps i ≤ l.known i
      ·skip
       refine gQ ?_
       refine H.Au (i + 1) ⟨by show i + 1 ≤ 11; omega, fun j hj => ?_⟩ (by show 11 - (i + 1) < 11 - i; omega) ⟨rfl, rfl, rfl, rfl, trivial⟩ rfl rfl
       by_cases e : j = i
       ·rw [e]; exact hdt
       ·exact hdn j (by omega)
      ·have hdf : depsIn x.m l.known = false := List.all_eq_false.2 ⟨i, List.mem_range.2 hi11, by rw [decide_eq_false hdt]; decide⟩
       refine gG ?_
       refine H.Ab (x := row mb _ _) (by repeat constructor) ?_
       refine H.Ab (x := row lv _ _) (by repeat constructor) ?_
       refine H.imp (zai ⟨V, vb, pp, pc, cp, cc, pb, cs⟩ hiF) ?_
       refine H.ret2 rfl rfl rfl (fun _ h => h) ⟨?_, rfl, ?_⟩
       ·unfold Lgs.take; rw [if_neg hno, if_pos (.inr hdf)]
       ·unfold Lgs.take; rw [if_neg hno, if_pos (.inr hdf)]
     ·have hdin : depsIn x.m l.known = true := List.all_eq_true.2 fun j hj => decide_eq_true (hdn j (by have := List.mem_range.1 hj; omega))
      have hnk := l.counts_nk x.m
      have htk : l.take x.m = ((((l.more x.m).counts x.m).1, 0), ((l.more x.m).counts x.m).2) := by
       have e1 := l.counts_kn (updF l.known (orgI x.m) (l.known (orgI x.m) + 1)) x.m
       have e2 : l.take x.m = (((l.counts x.m).1, 0), { (l.counts x.m).2 with known := updF (l.counts x.m).2.known (orgI x.m) ((l.counts x.m).2.known (orgI x.m) + 1) }) := by
        unfold Lgs.take
        rw [if_neg hno, if_neg (by rintro (h | h); exact h (by rw [← hoe]; exact hnum); rw [hdin] at h; cases h)]
       unfold Lgs.more
       rw [e1, e2, hnk.2]
      rw [htk]
      clear htk hnk
      have hiM : plφ fl (l.more x.m) ⟨V, vb, pp, pc, cp, cc, pb, cs⟩ := ⟨hi.vs, hi.p⟩
      have hpa := fun G => plpast_fn f G hfl (lb := lb) hiM (by show l.n ≤ 11; omega) (o := o) (by show o < l.n; exact hon) (r := x.m.origin) (by omega)
      have hpl : plB lb (l.more x.m) ⟨V, vb, pp, pc, cp, cc, pb, cs⟩ = [row lb 127 (plC l.n (updF l.known o (l.known o + 1)) vb pp pc cp cc), mp vb keyU (V.map PV.ent), lst (V.map PV.own), fam (fun r => pastH (pb r) (l.past r)) l.n, slc cp l.n cc 158 1 (chRow l cs), fam (pcFam l cs) l.n] := by
       rw [hoe]; rfl
      have hrow : row lb 127 (plC (l.more x.m).n (l.more x.m).known vb pp pc cp cc) = row lb 127 (plC l.n (updF l.known o (l.known o + 1)) vb pp pc cp cc) := by rw [hoe]; rfl
      have hCi := fun G => hCl ⟨V, vb, pp, pc, cp, cc, pb, cs⟩ G hiM
      rw [hpl, ← hoe] at hCi
      have hpa : ∀ G, Fn Tryz.prog 52 [.pointer (some ⟨lb, 0, none⟩), .int .i64 x.m.origin] f (row lb 127 (plC l.n (updF l.known o (l.known o + 1)) vb pp pc cp cc) :: G) (Ret (.pointer (some ⟨pb o, 0, none⟩)) f (row lb 127 (plC l.n (updF l.known o (l.known o + 1)) vb pp pc cp cc) :: G)) := fun G => by
       have h := hpa G
       rw [show row lb 127 (plC (l.more x.m).n (l.more x.m).known (⟨V, vb, pp, pc, cp, cc, pb, cs⟩ : PPt).vb (⟨V, vb, pp, pc, cp, cc, pb, cs⟩ : PPt).pp (⟨V, vb, pp, pc, cp, cc, pb, cs⟩ : PPt).pc (⟨V, vb, pp, pc, cp, cc, pb, cs⟩ : PPt).cp (⟨V, vb, pp, pc, cp, cc, pb, cs⟩ : PPt).cc) = _ from hrow] at h
       exact h
      generalize (l.more x.m).counts x.m = res at hCi ⊢
      clear hpl hrow hCl hiM
      refine gV ?_
      refine H.drawC [0, 1, 2, 3, 4, 5, 6, 7, 8, 9, 10] (by kernel_rfl) (by decide +kernel) (by repeat (first | exact zab | refine zaa ?_ | refine zac ?_ | refine zad ?_)) (S := [_, _, _]) rfl ?_
      refine HB.Af [(0, false), (1, false), (2, false), (3, false), (4, false), (5, false), (6, false), (7, false), (8, false), (9, false), (10, false)] 2 (by kernel_rfl) ?_
      refine gT ?_
      refine HQ.Ba (i := o) rfl rfl rfl hoz ho11 rfl ?_
      refine HQ.Ag rfl rfl rfl (by rw [Nat.mul_one]; exact Rd1.of (plC_kn (.there _ (.there _ (.here _ _ _)))) (v11_get l.known ho11)) rfl ?_
      refine gT ?_
      refine HQ.Ae rfl ?_
      refine HB.next [] (by kernel_rfl) (S' := []) rfl ?_
      refine HB.Af [(11, false)] 1 (by kernel_rfl) ?_
      refine HQ.Ba (i := o) rfl rfl rfl hoz ho11 rfl ?_
      refine HQ.Ae rfl ?_
      refine HB.ev1 (i := 12) (by kernel_rfl) rfl ?_
      refine H.Bi (ls := plC l.n l.known vb pp pc cp cc) (ls' := plC l.n (updF l.known o (l.known o + 1)) vb pp pc cp cc) rfl rfl rfl rfl (.there _ (.there _ (.here _ _ _))) (plC_set _ _ _ _ _ _ _ _ ho11) ?_
      refine gA ?_
      refine H.on0 rfl ?_
      refine HB.Aq (by kernel_rfl) ?_
      refine gA ?_
      refine H.Ay (by kernel_rfl) (by decide +kernel) (by repeat (first | exact zab | refine zaa ?_ | refine zac ?_ | refine zad ?_)) (S := [_, _]) rfl ?_
      refine HB.Af [(0, false), (1, false), (2, false), (4, false), (5, false), (6, false), (7, false), (8, false)] 5 (by kernel_rfl) ?_
      refine gJ ?_
      refine HQ.Aj (ls := x.vals) rfl rfl rfl (Rd.ofRow (.here _ _ _)) rfl rfl ?_
      refine gJ ?_
      refine HQ.Ae rfl ?_
      refine HB.ev1 (i := 3) (by kernel_rfl) rfl ?_
      refine H.Ad rfl rfl rfl (hB _) ?_
      refine gA ?_
      refine H.on0 rfl ?_
      refine HB.ev1 (i := 9) (by kernel_rfl) rfl ?_
      refine H.Aa (x := row lb _ _) (by repeat constructor) ?_
      refine H.Ad rfl rfl rfl (hpa _) ?_
      refine gA ?_
      refine H.Aa (x := row lb _ _) (by repeat constructor) ?_
      refine H.Aa (x := row lv _ _) (by repeat constructor) ?_
      refine H.Aa (x := row mb _ _) (by repeat constructor) ?_
      refine H.on0 rfl ?_
      refine HB.ev1 (i := 10) (by kernel_rfl) rfl ?_
      refine H.Aa (x := fam (pcFam l cs) _) (by repeat constructor) ?_
      refine H.Aa (x := slc cp _ cc _ _ _) (by repeat constructor) ?_
      refine H.Aa (x := fam (fun r => pastH _ _) _) (by repeat constructor) ?_
      refine H.Aa (x := lst (V.map PV.own)) (by repeat constructor) ?_
      refine H.Aa (x := mp vb _ _) (by repeat constructor) ?_
      refine H.Aa (x := row lb _ _) (by repeat constructor) ?_
      refine H.callVR (fs := []) (cs := []) rfl rfl rfl rfl (hCi _) ?_
      refine gA ?_
      refine H.Aa (x := row lv _ _) (by repeat constructor) ?_
      refine H.Aa (x := row mb _ _) (by repeat constructor) ?_
      refine H.on0 rfl ?_
      refine HB.Af [(11, false), (12, false)] 0 (by kernel_rfl) ?_
      refine gB ?_
      refine HQ.Ae rfl ?_
      refine HB.Aq (by kernel_rfl) ?_
      refine ga ?_
      refine H.Ab (x := row mb _ _) (by repeat constructor) ?_
      refine H.Ab (x := row lv _ _) (by repeat constructor) ?_
      exact H.ret2 rfl rfl rfl (fun _ h => h) ⟨rfl, rfl, rfl⟩
    ·skip
     refine gG ?_
     refine H.Ab (x := row mb _ _) (by repeat constructor) ?_
     refine H.Ab (x := row lv _ _) (by repeat constructor) ?_
     refine H.imp (zai ⟨V, vb, pp, pc, cp, cc, pb, cs⟩ hiF) ?_
     refine H.ret2 rfl rfl rfl (fun _ h => h) ⟨?_, rfl, ?_⟩
     ·unfold Lgs.take; rw [if_neg hno, if_pos (.inl (by rw [← hoe]; exact hnum))]
     ·unfold Lgs.take; rw [if_neg hno, if_pos (.inl (by rw [← hoe]; exact hnum))]
end
theorem LI.more {l : Lgs} {T : Nat} (h : LI l T) (m : Msg) : LI (l.more m) (T + 1) := by
 have hc := h.step
 refine ⟨hc.n3, fun i => ?_, hc.wf, hc.il, hc.vl, hc.cl, hc.al, hc.log, hc.zero, hc.rise, hc.begun, hc.gb⟩
 show 0 ≤ updF l.known (orgI m) _ i ∧ updF l.known (orgI m) _ i ≤ _
 have := h.kn i
 by_cases e : i = orgI m
 ·rw [e, zam]; rw [e] at this; omega
 ·rw [updF_ne _ _ e]; omega
section
variable (f : Frag) (F : List HP)
theorem by1_fn : Fn Tryz.prog 56 [.int .u8 1] f F (Ret (.func (.func 83) #[] #[]) f F) := by
 refine Fn.enter Tryz.func56 rfl Tryz.ntmps56 rfl (L := [(0, _)]) ⟨rfl, trivial⟩ fun base => ?_
 refine gS ?_
 exact H.Ac rfl rfl (fun _ h => h) ⟨rfl, rfl, rfl⟩
theorem by2_fn : Fn Tryz.prog 56 [.int .u8 2] f F (Ret (.func (.func 84) #[] #[]) f F) := by
 refine Fn.enter Tryz.func56 rfl Tryz.ntmps56 rfl (L := [(0, _)]) ⟨rfl, trivial⟩ fun base => ?_
 refine gS ?_
 exact H.Ac rfl rfl (fun _ h => h) ⟨rfl, rfl, rfl⟩
theorem pltake1_fn (htab : TabAt f) {fl : Frag} (hfl : Le fl f) {lb : Nat} {l : Lgs} {T : Nat} (hL : LI l T) (hT : T ≤ 40000) {x : MV} (hx : x.Good f) (hk : x.m.body.kind = 1) :
  Fn Tryz.prog 29 [.pointer (some ⟨lb, 0, none⟩), .agg x.vals.toArray] f (plogH fl lb l :: F) (Ret (.tuple #[.bool (l.take x.m).1.1, .int .i64 (l.take x.m).1.2]) f (plogH f lb (l.take x.m).2 :: F)) :=
 pltake_fn f F hfl hL hT hx (fid := 83) (fun G => by rw [hk]; exact by1_fn f G) fun _ hm i G hi => plprep_fn f G htab hfl (hL.more x.m) (by omega) hm hk hi rfl
theorem pltake2_fn {fl : Frag} (hfl : Le fl f) {lb : Nat} {l : Lgs} {T : Nat} (hL : LI l T) (hT : T ≤ 40000) (hR : ∀ w ∈ l.vs, RiseN w.p) {x : MV} (hx : x.Good f) (hk : x.m.body.kind = 2) :
  Fn Tryz.prog 29 [.pointer (some ⟨lb, 0, none⟩), .agg x.vals.toArray] f (plogH fl lb l :: F) (Ret (.tuple #[.bool (l.take x.m).1.1, .int .i64 (l.take x.m).1.2]) f (plogH f lb (l.take x.m).2 :: F)) :=
 pltake_fn f F hfl hL hT hx (fid := 84) (fun G => by rw [hk]; exact by2_fn f G) fun _ hm i G hi => plcommit_fn f G hfl (hL.more x.m) (by omega) hx.2.2 hm hk hR hi rfl
def LogR (f : Frag) (A : List HP) (R : List Req) : Value → Frag → List HP → Prop := fun v f' A' => ∃ (p : Option Addr) (c : Nat), v = .tuple #[.slice p R.length c, .bool true] ∧ f' = f ∧ A' = slc p R.length c 49 40 (R.flatMap Req.vals) :: A
theorem qclone_fn {p : Option Addr} {c : Nat} {R : List Req} (h0 : 0 < R.length) (hl : R.length ≤ 100000) :
  Fn Tryz.prog 57 [.slice p R.length c] f (slc p R.length c 49 40 (R.flatMap Req.vals) :: F)
   (fun v f' A' => ∃ (p' : Option Addr) (c' : Nat), v = .slice p' R.length c' ∧ f' = f ∧ A' = slc p' R.length c' 49 40 (R.flatMap Req.vals) :: slc p R.length c 49 40 (R.flatMap Req.vals) :: F) := by
 refine Fn.enter Tryz.func57 rfl Tryz.ntmps57 rfl (L := [(0, _)]) ⟨rfl, trivial⟩ fun base => ?_
 refine H.Ce (p := p) (n0 := R.length) (c := c) (.here _ _ _) h0 fun sb hp => ?_
 subst hp
 refine gW ?_
 refine H.Bd (out := []) rfl rfl rfl rfl (by decide) (by decide) rfl rfl fun eb => ?_
 refine H.asSlc (k := 0) (sz := 40) rfl (by decide) ?_
 refine gU ?_
 refine H.Bf (xs := []) (m := R.length) (news := R.flatMap Req.vals) rfl rfl rfl rfl rfl (fun p' c' => .here _ _ _) (Src.slcS (.there _ (.here _ _ _)) (flat_len Req.len R)) (Reqs_one R) rfl (by omega) (by omega) fun p2 c2 => ?_
 rw [Nat.zero_add, List.nil_append]
 refine ga ?_
 exact H.Ac rfl rfl (fun _ h => h) ⟨p2, c2, rfl, rfl, rfl⟩
theorem plvoted_fn {fl : Frag} (hfl : Le fl f) {lb : Nat} {l : Lgs} (hn : l.n ≤ 11) {o : Nat} (ho : o < l.n) {r v : Int} (hr : r = ((o + 1 : Nat) : Int)) :
  Fn Tryz.prog 28 [.pointer (some ⟨lb, 0, none⟩), .int .i64 r, .int .u64 v] f (plogH fl lb l :: F) (Ret (.tuple #[.int .i64 ((PM.voted (l.past o).all v).getD 0), .bool (PM.voted (l.past o).all v).isSome]) f (plogH fl lb l :: F)) := by
 refine Fn.unpack fun i hi => ?_
 have hpa := fun G => plpast_fn f G hfl (lb := lb) hi hn ho hr
 obtain ⟨V, vb, pp, pc, cp, cc, pb, cs⟩ := i
 have hvo := fun G => voted_fn f G (pb o) (l.past o) v
 show Fn _ _ _ f (row lb 127 (plC l.n l.known vb pp pc cp cc) :: mp vb keyU (V.map PV.ent) :: lst (V.map PV.own) :: fam (fun r => pastH (pb r) (l.past r)) l.n :: slc cp l.n cc 158 1 (chRow l cs) :: fam (pcFam l cs) l.n :: F) _
 refine Fn.enter Tryz.func28 rfl Tryz.ntmps28 rfl (L := [(0, _), (1, _), (2, _)]) ⟨rfl, rfl, rfl, trivial⟩ fun base => ?_
 refine gU ?_
 refine H.Ad rfl rfl rfl (hpa _) ?_
 refine gU ?_
 refine H.Aa (x := fam (fun r => pastH _ _) _) (by repeat constructor) ?_
 refine H.famPull ho ?_
 refine H.Ad rfl rfl rfl (hvo _) ?_
 refine H.famBack (g := fun r => pastH (pb r) (l.past r)) ho ?_
 refine gR ?_
 refine H.Aa (x := lst (V.map PV.own)) (by repeat constructor) ?_
 refine H.Aa (x := mp vb _ _) (by repeat constructor) ?_
 refine H.Aa (x := row lb _ _) (by repeat constructor) ?_
 refine H.imp (zai ⟨V, vb, pp, pc, cp, cc, pb, cs⟩ hi) ?_
 exact H.ret2 rfl rfl rfl (fun _ h => h) ⟨rfl, rfl, rfl⟩
theorem plholds_fn {fl : Frag} {lb : Nat} {l : Lgs} {T : Nat} (hL : LI l T) {iv : Nat} {w : Vw} {v c t : Int} (hat : vwAt l.vs v = some iv) (hw : l.vs[iv]? = some w) :
  Fn Tryz.prog 36 [.pointer (some ⟨lb, 0, none⟩), .int .u64 v, .int .i64 c, .int .u64 t] f (plogH fl lb l :: F) (Ret (.bool (holdsB w.all c t)) f (plogH fl lb l :: F)) := by
 refine Fn.unpack fun i hi => ?_
 have hvs := hi.vs
 obtain ⟨V, vb, pp, pc, cp, cc, pb, cs⟩ := i
 have hvs : (V.map PV.w).Perm l.vs := hvs
 obtain ⟨j, X, hX, hXw, hgetX⟩ := view_some hvs hL.rise hat hw
 have hget : (getKV (V.map PV.ent) v).getD (.pointer none) = .pointer (some ⟨X.b, 0, none⟩) := by rw [hgetX]; rfl
 subst hXw
 have hheld : (getKV (heldKV X.w.all) (c, t)).getD (.bool false) = .bool (holdsB X.w.all c t) := by
  rw [held_get]; cases holdsB X.w.all c t <;> rfl
 show Fn _ _ _ f (row lb 127 (plC l.n l.known vb pp pc cp cc) :: mp vb keyU (V.map PV.ent) :: lst (V.map PV.own) :: fam (fun r => pastH (pb r) (l.past r)) l.n :: slc cp l.n cc 158 1 (chRow l cs) :: fam (pcFam l cs) l.n :: F) _
 refine Fn.enter Tryz.func36 rfl Tryz.ntmps36 rfl (L := [(0, _), (1, _), (2, _), (3, _)]) ⟨rfl, rfl, rfl, rfl, trivial⟩ fun base => ?_
 refine H.Aa (x := lst (V.map PV.own)) (by repeat constructor) ?_
 refine H.lstPull (x := X.own) (i := j) (by rw [List.getElem?_map, hX]; rfl) ?_
 refine H.ownOpen ?_
 show H _ _ _ _ _ (row X.b _ (vwC X.w.num X.w.s.length X.lp X.w.all.length X.lc X.np X.w.p.length X.nc X.hb) :: slc X.lp X.w.all.length X.lc _ 40 (X.w.all.flatMap Req.vals) :: slc X.np X.w.p.length X.nc _ 1 (X.w.p.flatMap numV) :: mp X.hb encA (heldKV X.w.all) :: lst ((V.map PV.own).set j emp) :: _) _
 refine gS ?_
 refine H.Bs (enc := keyU) (k := v) rfl rfl rfl (by repeat constructor) rfl hget rfl ?_
 refine gE ?_
 refine H.Bs (enc := keyU) (k := v) rfl rfl rfl (by repeat constructor) rfl hget rfl ?_
 refine gE ?_
 refine H.Bs (enc := encA) (k := (c, t)) rfl rfl rfl (by repeat constructor) rfl hheld rfl ?_
 refine gV ?_
 refine H.Aa (x := mp X.hb _ _) (by repeat constructor) ?_
 refine H.Aa (x := slc X.np _ X.nc _ _ _) (by repeat constructor) ?_
 refine H.Aa (x := slc X.lp _ X.lc _ _ _) (by repeat constructor) ?_
 refine H.Aa (x := row X.b _ _) (by repeat constructor) ?_
 refine H.imp (own_fold (x := X)) ?_
 refine H.Aa (x := lst ((V.map PV.own).set j emp)) (by repeat constructor) ?_
 refine H.Aa (x := X.own) (by repeat constructor) ?_
 refine H.lstBack (by rw [List.getElem?_map, hX]; rfl) ?_
 refine H.Aa (x := mp vb _ _) (by repeat constructor) ?_
 refine H.Aa (x := row lb _ _) (by repeat constructor) ?_
 refine H.imp (zai ⟨V, vb, pp, pc, cp, cc, pb, cs⟩ hi) ?_
 exact H.Ac rfl rfl (fun _ h => h) ⟨rfl, rfl, rfl⟩
theorem pllog_fn {fl : Frag} {lb : Nat} {l : Lgs} {T : Nat} (hL : LI l T) (hT : T ≤ 50000) {iv : Nat} {w : Vw} {v : Int} (hat : vwAt l.vs v = some iv) (hw : l.vs[iv]? = some w) (h0 : 0 < w.all.length) :
  Fn Tryz.prog 30 [.pointer (some ⟨lb, 0, none⟩), .int .u64 v] f (plogH fl lb l :: F) (LogR f (plogH fl lb l :: F) w.all) := by
 refine Fn.unpack fun i hi => ?_
 have hvs := hi.vs
 obtain ⟨V, vb, pp, pc, cp, cc, pb, cs⟩ := i
 have hvs : (V.map PV.w).Perm l.vs := hvs
 have hal := hL.al w (List.mem_of_getElem? hw)
 obtain ⟨j, X, hX, hXw, hgetX⟩ := view_some hvs hL.rise hat hw
 have hget : (getKV (V.map PV.ent) v).getD (.pointer none) = .pointer (some ⟨X.b, 0, none⟩) := by rw [hgetX]; rfl
 subst hXw
 show Fn _ _ _ f (row lb 127 (plC l.n l.known vb pp pc cp cc) :: mp vb keyU (V.map PV.ent) :: lst (V.map PV.own) :: fam (fun r => pastH (pb r) (l.past r)) l.n :: slc cp l.n cc 158 1 (chRow l cs) :: fam (pcFam l cs) l.n :: F) _
 refine Fn.enter Tryz.func30 rfl Tryz.ntmps30 rfl (L := [(0, _), (1, _)]) ⟨rfl, rfl, trivial⟩ fun base => ?_
 refine H.Aa (x := lst (V.map PV.own)) (by repeat constructor) ?_
 refine H.lstPull (x := X.own) (i := j) (by rw [List.getElem?_map, hX]; rfl) ?_
 refine H.ownOpen ?_
 show H _ _ _ _ _ (row X.b _ (vwC X.w.num X.w.s.length X.lp X.w.all.length X.lc X.np X.w.p.length X.nc X.hb) :: slc X.lp X.w.all.length X.lc _ 40 (X.w.all.flatMap Req.vals) :: slc X.np X.w.p.length X.nc _ 1 (X.w.p.flatMap numV) :: mp X.hb encA (heldKV X.w.all) :: lst ((V.map PV.own).set j emp) :: _) _
 refine gS ?_
 refine H.Bs (enc := keyU) (k := v) rfl rfl rfl (by repeat constructor) rfl hget rfl ?_
 refine gN ?_
 refine H.Bs (enc := keyU) (k := v) rfl rfl rfl (by repeat constructor) rfl hget rfl ?_
 refine gM ?_
 refine H.Aa (x := slc X.lp _ X.lc _ _ _) (by repeat constructor) ?_
 refine H.call rfl rfl rfl (qclone_fn f _ h0 (by omega)) fun v' f' A' hR => ?_
 obtain ⟨p2, c2, rfl, hff, rfl⟩ := hR
 rw [hff]
 refine ga ?_
 refine H.Aa (x := mp X.hb _ _) (by repeat constructor) ?_
 refine H.Aa (x := slc X.np _ X.nc _ _ _) (by repeat constructor) ?_
 refine H.Aa (x := slc X.lp _ X.lc _ _ _) (by repeat constructor) ?_
 refine H.Aa (x := row X.b _ _) (by repeat constructor) ?_
 refine H.imp (own_fold (x := X)) ?_
 refine H.Aa (x := lst ((V.map PV.own).set j emp)) (by repeat constructor) ?_
 refine H.Aa (x := X.own) (by repeat constructor) ?_
 refine H.lstBack (by rw [List.getElem?_map, hX]; rfl) ?_
 refine H.Aa (x := fam (pcFam l cs) _) (by repeat constructor) ?_
 refine H.Aa (x := slc cp _ cc _ _ _) (by repeat constructor) ?_
 refine H.Aa (x := fam (fun r => pastH _ _) _) (by repeat constructor) ?_
 refine H.Aa (x := lst (V.map PV.own)) (by repeat constructor) ?_
 refine H.Aa (x := mp vb _ _) (by repeat constructor) ?_
 refine H.Aa (x := row lb _ _) (by repeat constructor) ?_
 refine H.imp (zai ⟨V, vb, pp, pc, cp, cc, pb, cs⟩ hi) ?_
 refine H.Aa (x := slc p2 _ c2 _ _ _) (by repeat constructor) ?_
 exact H.ret2 rfl rfl rfl (fun _ h => h) ⟨p2, c2, rfl, rfl, rfl⟩
-- where there are no logs
theorem pllog_nil {v : Int} : Fn Tryz.prog 30 [.pointer none, .int .u64 v] f F (Ret (.tuple #[.slice none 0 0, .bool false]) f F) := by
 refine Fn.enter Tryz.func30 rfl Tryz.ntmps30 rfl (L := [(0, _), (1, _)]) ⟨rfl, rfl, trivial⟩ fun base => ?_
 refine gW ?_
 exact H.ret2 rfl rfl rfl (fun _ h => h) ⟨rfl, rfl, rfl⟩
theorem plvoted_nil {r v : Int} : Fn Tryz.prog 28 [.pointer none, .int .i64 r, .int .u64 v] f F (Ret (.tuple #[.int .i64 0, .bool false]) f F) := by
 refine Fn.enter Tryz.func28 rfl Tryz.ntmps28 rfl (L := [(0, _), (1, _), (2, _)]) ⟨rfl, rfl, rfl, trivial⟩ fun base => ?_
 refine gU ?_
 refine H.Ad rfl rfl rfl (plpast_nil f _) ?_
 refine gU ?_
 refine H.call rfl rfl rfl (voted_nil f F v) fun _ _ _ hR => ?_
 obtain ⟨rfl, rfl, rfl⟩ := hR
 refine gR ?_
 exact H.ret2 rfl rfl rfl (fun _ h => h) ⟨rfl, rfl, rfl⟩
theorem plgreat_nil {r : Int} : Fn Tryz.prog 39 [.pointer none, .int .i64 r] f F (Ret (.int .u64 0) f F) := by
 refine Fn.enter Tryz.func39 rfl Tryz.ntmps39 rfl (L := [(0, _), (1, _)]) ⟨rfl, rfl, trivial⟩ fun base => ?_
 refine gU ?_
 refine H.Ad rfl rfl rfl (plpast_nil f _) ?_
 refine H.call rfl rfl rfl (greatest_nil f F) fun _ _ _ hR => ?_
 obtain ⟨rfl, rfl, rfl⟩ := hR
 refine ga ?_
 exact H.Ac rfl rfl (fun _ h => h) ⟨rfl, rfl, rfl⟩
theorem plviews_nil : Fn Tryz.prog 31 [.pointer none] f F (Ret (.slice none 0 0) f F) := by
 refine Fn.enter Tryz.func31 rfl Tryz.ntmps31 rfl (L := [(0, _)]) ⟨rfl, trivial⟩ fun base => ?_
 refine gW ?_
 exact H.Ac rfl rfl (fun _ h => h) ⟨rfl, rfl, rfl⟩
theorem plchange_nil {r : Int} : Fn Tryz.prog 38 [.pointer none, .int .i64 r] f F (Ret (.tuple #[.int .u64 0, .int .u64 0]) f F) := by
 refine Fn.enter Tryz.func38 rfl Tryz.ntmps38 rfl (L := [(0, _), (1, _)]) ⟨rfl, rfl, trivial⟩ fun base => ?_
 refine gU ?_
 refine H.Ad rfl rfl rfl (plpast_nil f _) ?_
 refine gW ?_
 exact H.ret2 rfl rfl rfl (fun _ h => h) ⟨rfl, rfl, rfl⟩
theorem plholds_nil {v c t : Int} : Fn Tryz.prog 36 [.pointer none, .int .u64 v, .int .i64 c, .int .u64 t] f F (Ret (.bool false) f F) := by
 refine Fn.enter Tryz.func36 rfl Tryz.ntmps36 rfl (L := [(0, _), (1, _), (2, _), (3, _)]) ⟨rfl, rfl, rfl, rfl, trivial⟩ fun base => ?_
 refine gW ?_
 exact H.Ac rfl rfl (fun _ h => h) ⟨rfl, rfl, rfl⟩
end
abbrev D32 := { l : List UInt8 // l.length = 32 }
abbrev CM := List ((Int × Int) × D32)
def tld : CM → Int × Int → Option D32
 | [], _ => none
 | (k', d) :: r, k => if k = k' then some d else tld r k
section
variable (f : Frag) (F : List HP)
end
def tells (M : CM) (k : Int) : Nat → Option D32 := fun r => tld M ((r : Int), k)
section
variable (f : Frag) (F : List HP)
end
section
variable (f : Frag) (F : List HP)
end
section
variable (f : Frag) (F : List HP)
end
def r15u : Req := { Req.zero with client := 1, time := 1, kind := 2, key := byteS 97, val := byteS 49 }
def r15 : Req := r15u.signed
theorem r15_asked : r15u.asked := by decide +kernel
theorem signed_auth {r : Req} (h : r.asked) : r.signed.auth = true ∧ r.signed.client = r.client ∧ r.signed.time = r.time := by
 unfold Req.signed
 rw [if_pos h]
 refine ⟨?_, rfl, rfl⟩
 show (decide r.asked && eq32 r.sig r.sig) = true
 rw [decide_eq_true h, Bool.true_and]
 unfold eq32
 exact eqC_refl rfl
def p15 (r : Req) (t : Nat → UInt8) : Msg := ⟨1, 1, fun _ => 0, { Bod.zero 1 with req := r }, t⟩
def c15 (t : Nat → UInt8) : Msg := ⟨3, 1, fun _ => 0, { Bod.zero 2 with k := 1 }, t⟩
def d15 (t : Nat → UInt8) : Msg := ⟨2, 1, fun i => if i = 0 then 1 else 0, { Bod.zero 2 with k := 1 }, t⟩
theorem p15_may : (p15 r15 noTag).may = true := by decide +kernel
theorem c15_may : (c15 noTag).may = true := by decide +kernel
theorem d15_may : (d15 noTag).may = true := by decide +kernel
theorem signed_is {m : Msg} (h : m.may = true) : ∃ t, m.signed = { m with tag := t } := by
 unfold Msg.signed; rw [if_pos h]; exact ⟨_, rfl⟩
theorem tk_ok {l : Lgs} {m : Msg} (h1 : m.may = true) (h2 : m.origin ≤ (l.n : Int)) (h3 : qIn l.n m = true) (h4 : m.number = l.known (orgI m) + 1) (h5 : depsIn m l.known = true) : l.take m = ((((l.more m).counts m).1, 0), ((l.more m).counts m).2) := by
 have e1 := l.counts_kn (updF l.known (orgI m) (l.known (orgI m) + 1)) m
 have hnk := l.counts_nk m
 have e2 : l.take m = (((l.counts m).1, 0), { (l.counts m).2 with known := updF (l.counts m).2.known (orgI m) ((l.counts m).2.known (orgI m) + 1) }) := by
  unfold Lgs.take
  rw [if_neg (by rintro (h | h | h); rw [h1] at h; cases h; omega; rw [h3] at h; cases h), if_neg (by rintro (h | h); exact h h4; rw [h5] at h; cases h)]
 unfold Lgs.more
 rw [e1, e2, hnk.2]
def L1 (r : Req) : Lgs := ⟨3, updF (fun _ => 0) 0 1, [⟨0, 0, [], [(1, r)]⟩], updF (fun _ => PM.new) 0 (PM.new.prepare 0), fun _ => []⟩
theorem t15a {r : Req} {t : Nat → UInt8} (hm : (p15 r t).may = true) (ha : r.auth = true) : (Lgs.new 3).take (p15 r t) = ((true, 0), L1 r) := by
 rw [tk_ok hm (by show (1 : Int) ≤ 3; decide) rfl rfl rfl, Lgs.counts_1 (i := 0) (w := ⟨0, 0, [], []⟩) rfl rfl rfl, if_neg]
 ·rfl
 ·rintro (h | h | h | h)
  ·exact Bool.noConfusion (show true = false from h)
  ·have h : r.auth = false := h
   rw [ha] at h; cases h
  ·exact Bool.noConfusion (show false = true from h)
  ·exact Bool.noConfusion (show true = false from h)
def L2 (r : Req) : Lgs := ⟨3, updF (updF (fun _ => 0) 0 1) 2 1, [⟨0, 0, [], [(1, r)]⟩], updF (updF (fun _ => PM.new) 0 (PM.new.prepare 0)) 2 PM.new, fun _ => []⟩
theorem t15b {r : Req} {t : Nat → UInt8} (hm : (c15 t).may = true) : (L1 r).take (c15 t) = ((false, 0), L2 r) := by
 rw [tk_ok hm (by show (3 : Int) ≤ 3; decide) rfl rfl rfl, Lgs.counts_2 (i := 0) (w := ⟨0, 0, [], [(1, r)]⟩) rfl rfl rfl, if_neg]
 ·rfl
 ·exact fun h => Bool.noConfusion (show false = true from h)
def L3 (r : Req) : Lgs := ⟨3, updF (updF (updF (fun _ => 0) 0 1) 2 1) 1 1, [⟨0, 0, [], [(1, r)]⟩], updF (updF (updF (fun _ => PM.new) 0 (PM.new.prepare 0)) 2 PM.new) 1 (PM.new.commit 0 1 1), fun _ => []⟩
theorem t15c {r : Req} {t : Nat → UInt8} (hm : (d15 t).may = true) : (L2 r).take (d15 t) = ((true, 0), L3 r) := by
 rw [tk_ok hm (by show (2 : Int) ≤ 3; decide) rfl rfl rfl, Lgs.counts_2 (i := 0) (w := ⟨0, 0, [], [(1, r)]⟩) rfl rfl rfl, if_neg]
 ·rfl
 ·exact fun h => Bool.noConfusion (show false = true from h)
theorem rise1 {r : Req} : ∀ w ∈ ([⟨0, 0, [], [(1, r)]⟩] : List Vw), RiseN w.p := by
 intro w hw
 rw [List.mem_singleton.1 hw]
 intro i j y z hij hy hz
 have := (List.getElem?_eq_some_iff.1 hz).1
 have h1 : j < 1 := this
 omega
section
variable (f : Frag) (F : List HP)
theorem req15_fn : Fn Tryz.prog 49 [] f F (Ret (.agg r15.vals.toArray) f F) := by
 have hsg := fun G => rsigned_fn f G r15u
 refine Fn.enter Tryz.func49 rfl Tryz.ntmps49 rfl (L := []) trivial fun base => ?_
 refine gA ?_
 refine H.Av (ls := Req.zero.vals) rfl rfl rfl fun ob => ?_
 repeat (first | (refine H.Bc (t := 49) (out := r15u.vals) rfl rfl rfl (by kernel_rfl) rfl ?_) | (first | apply H.seq | apply H.Al | apply H.nil | apply H.Am) | ((apply H.Bc); (iterate 5 exact rfl)))
 refine H.Ad rfl rfl rfl (hsg _) ?_
 refine H.Ap (ls := Req.zero.vals) (vs := r15u.signed.vals) (ls' := r15u.signed.vals) rfl rfl rfl (zae rfl) rfl rfl (Nat.le_refl 40) (.here _ _ _) ?_
 refine ga ?_
 exact H.retD (ls := r15u.signed.vals) rfl rfl rfl (Rd.ofRow (.here _ _ _)) rfl (fun _ s => s.drop (.here _ _)) ⟨rfl, rfl, rfl⟩
set_option maxRecDepth 20000 in
set_option maxHeartbeats 3200000 in
theorem works15_fn (htab : TabAt f) : Fn Tryz.prog 24 [] f F (Ret (.bool true) f F) := by
 obtain ⟨hau, hcl, hti⟩ := signed_auth r15_asked
 have hp0 := p15_may
 have hokr : r15.Ok := by
  unfold r15; unfold Req.signed; rw [if_pos r15_asked]
  exact ⟨⟨by show (0 : Int) ≤ 1; decide, by show (1 : Int) ≤ 18446744073709551615; decide⟩, ⟨by show (0 : Int) ≤ 0; decide, by show (0 : Int) ≤ 18446744073709551615; decide⟩⟩
 have hreq := fun f G => req15_fn f G
 have hcl : r15.client = 1 := hcl
 have hti : r15.time = 1 := hti
 have hau : r15.auth = true := hau
 generalize r15 = r at *
 obtain ⟨t1, e1⟩ := signed_is hp0
 obtain ⟨t2, e2⟩ := signed_is c15_may
 obtain ⟨t3, e3⟩ := signed_is d15_may
 have h1 := fun f G => rtagged_fn f G (m := p15 r noTag) (q := none) (qc := 0) (QAt.nil _ none) (Nat.zero_le _)
 have h2 := fun f G => rtagged_fn f G (m := c15 noTag) (q := none) (qc := 0) (QAt.nil _ none) (Nat.zero_le _)
 have h3 := fun f G => rtagged_fn f G (m := d15 noTag) (q := none) (qc := 0) (QAt.nil _ none) (Nat.zero_le _)
 rw [e1] at h1
 rw [e2] at h2
 rw [e3] at h3
 have m1 : (p15 r t1).may = true := hp0
 have m2 : (c15 t2).may = true := c15_may
 have m3 : (d15 t3).may = true := d15_may
 have g1 : ∀ f, (⟨p15 r t1, none, 0⟩ : MV).Good f := fun f => ⟨QAt.nil f none, Nat.zero_le _, ⟨Int.le_refl _, by show (0 : Int) ≤ _; decide⟩, ⟨Int.le_refl _, by show (0 : Int) ≤ _; decide⟩, hokr⟩
 have g2 : ∀ f, (⟨c15 t2, none, 0⟩ : MV).Good f := fun f => ⟨QAt.nil f none, Nat.zero_le _, ⟨Int.le_refl _, by show (0 : Int) ≤ _; decide⟩, ⟨by show (0 : Int) ≤ 1; decide, by show (1 : Int) ≤ _; decide⟩, ⟨Int.le_refl _, by show (0 : Int) ≤ _; decide⟩, ⟨Int.le_refl _, by show (0 : Int) ≤ _; decide⟩⟩
 have g3 : ∀ f, (⟨d15 t3, none, 0⟩ : MV).Good f := fun f => ⟨QAt.nil f none, Nat.zero_le _, ⟨Int.le_refl _, by show (0 : Int) ≤ _; decide⟩, ⟨by show (0 : Int) ≤ 1; decide, by show (1 : Int) ≤ _; decide⟩, ⟨Int.le_refl _, by show (0 : Int) ≤ _; decide⟩, ⟨Int.le_refl _, by show (0 : Int) ≤ _; decide⟩⟩
 have k1 := t15a (r := r) (t := t1) m1 hau
 have k2 := t15b (r := r) (t := t2) m2
 have k3 := t15c (r := r) (t := t3) m3
 have i0 : LI (Lgs.new 3) 0 := LI.new (by decide) (by decide)
 have i1 : LI (L1 r) 1 := by have h := i0.take (m := p15 r t1) (Int.le_refl 0); rw [k1] at h; exact h
 have i2 : LI (L2 r) 2 := by have h := i1.take (m := c15 t2) (Int.le_refl 0); rw [k2] at h; exact h
 have i3 : LI (L3 r) 3 := by have h := i2.take (m := d15 t3) (Int.le_refl 0); rw [k3] at h; exact h
 clear e1 e2 e3 hau hp0 hokr
 refine Fn.enter Tryz.func24 rfl Tryz.ntmps24 rfl (L := []) trivial fun base => ?_
 refine gU ?_
 refine H.call rfl rfl rfl (plnew_fn f _ (n := 3) (by decide)) fun v f' A' hr => ?_
 obtain ⟨g, lb, hd, rfl, rfl, rfl⟩ := hr
 have hle := Le.un f g
 generalize un f g = f1 at *
 have hta := tab_mono htab hle
 have T1 := fun G => pltake1_fn f1 G hta (Le.refl f1) (lb := lb) i0 (by decide) (g1 f1) rfl
 have T2 := fun G => pltake2_fn f1 G (Le.refl f1) (lb := lb) i1 (by decide) rise1 (g2 f1) rfl
 have T3 := fun G => pltake2_fn f1 G (Le.refl f1) (lb := lb) i2 (by decide) rise1 (g3 f1) rfl
 have T1 : ∀ G, Fn Tryz.prog 29 [.pointer (some ⟨lb, 0, none⟩), .agg ((p15 r t1).vals none 0).toArray] f1 (plogH f1 lb (Lgs.new 3) :: G) (Ret (.tuple #[.bool true, .int .i64 0]) f1 (plogH f1 lb (L1 r) :: G)) := fun G => by have h := T1 G; rw [k1] at h; exact h
 have T2 : ∀ G, Fn Tryz.prog 29 [.pointer (some ⟨lb, 0, none⟩), .agg ((c15 t2).vals none 0).toArray] f1 (plogH f1 lb (L1 r) :: G) (Ret (.tuple #[.bool false, .int .i64 0]) f1 (plogH f1 lb (L2 r) :: G)) := fun G => by have h := T2 G; rw [k2] at h; exact h
 have T3 : ∀ G, Fn Tryz.prog 29 [.pointer (some ⟨lb, 0, none⟩), .agg ((d15 t3).vals none 0).toArray] f1 (plogH f1 lb (L2 r) :: G) (Ret (.tuple #[.bool true, .int .i64 0]) f1 (plogH f1 lb (L3 r) :: G)) := fun G => by have h := T3 G; rw [k3] at h; exact h
 have hlog : ∀ G, Fn Tryz.prog 30 [.pointer (some ⟨lb, 0, none⟩), .int .u64 0] f1 (plogH f1 lb (L3 r) :: G) (LogR f1 (plogH f1 lb (L3 r) :: G) [r]) := fun G => pllog_fn f1 G (fl := f1) (lb := lb) i3 (by decide) (iv := 0) (w := ⟨0, 0, [], [(1, r)]⟩) (v := 0) rfl rfl (show 0 < 1 by decide)
 have hvot : ∀ G, Fn Tryz.prog 28 [.pointer (some ⟨lb, 0, none⟩), .int .i64 2, .int .u64 0] f1 (plogH f1 lb (L3 r) :: G) (Ret (.tuple #[.int .i64 1, .bool true]) f1 (plogH f1 lb (L3 r) :: G)) := fun G => plvoted_fn f1 G (Le.refl f1) (lb := lb) (l := L3 r) (show 3 ≤ 11 by decide) (o := 1) (show 1 < 3 by decide) (r := 2) (v := 0) rfl
 have hhol : ∀ G, Fn Tryz.prog 36 [.pointer (some ⟨lb, 0, none⟩), .int .u64 0, .int .i64 1, .int .u64 1] f1 (plogH f1 lb (L3 r) :: G) (Ret (.bool true) f1 (plogH f1 lb (L3 r) :: G)) := fun G => by
  have h := plholds_fn f1 G (fl := f1) (lb := lb) i3 (iv := 0) (w := ⟨0, 0, [], [(1, r)]⟩) (v := 0) (c := 1) (t := 1) rfl rfl
  have e : holdsB (⟨0, 0, [], [(1, r)]⟩ : Vw).all 1 1 = true := by
   show ((decide (r.client = 1) && decide (r.time = 1)) || false) = true
   rw [hcl, hti]; rfl
  rw [e] at h
  exact h
 clear i0 i1 i2 i3 k1 k2 k3 m1 m2 m3 g1 g2 g3 hcl hti
 refine gX ?_
 refine H.Ad rfl rfl rfl (plnew_no f1 _ (z := 4) (by decide)) ?_
 refine gW ?_
 refine H.Ad rfl rfl rfl (hreq f1 _) ?_
 repeat (first | (refine H.Bc (t := 52) (out := ({ Bod.zero 1 with req := r } : Bod).vals none 0) rfl rfl rfl (by kernel_rfl) rfl ?_) | (refine H.Bc (t := 54) (out := (p15 r noTag).vals none 0) rfl rfl rfl (by kernel_rfl) rfl ?_))
 refine H.Ad rfl rfl rfl (h1 f1 _) ?_
 refine H.Aa (x := plogH _ _ _) (by repeat constructor) ?_
 refine H.Ad rfl rfl rfl (T1 _) ?_
 repeat (first | (refine H.Bc (t := 52) (out := ({ Bod.zero 2 with k := 1 } : Bod).vals none 0) rfl rfl rfl (by kernel_rfl) rfl ?_) | (refine H.Bc (t := 54) (out := (c15 noTag).vals none 0) rfl rfl rfl (by kernel_rfl) rfl ?_) | ((first | apply H.Ah | apply H.Ak); (iterate 3 exact rfl)) | (first | apply H.seq | apply H.Al | apply H.nil | apply H.Am) | ((apply H.Cc); (iterate 4 exact rfl)))
 refine H.Ad rfl rfl rfl (h2 f1 _) ?_
 refine H.Ad rfl rfl rfl (T2 _) ?_
 repeat (first | (refine H.buildA (t := 44) (out := v11 fun i => if i = 0 then 1 else 0) rfl rfl rfl (by kernel_rfl) rfl ?_) | (refine H.Bc (t := 52) (out := ({ Bod.zero 2 with k := 1 } : Bod).vals none 0) rfl rfl rfl (by kernel_rfl) rfl ?_) | (refine H.Bc (t := 54) (out := (d15 noTag).vals none 0) rfl rfl rfl (by kernel_rfl) rfl ?_) | ((first | apply H.Ah | apply H.Ak); (iterate 3 exact rfl)) | (first | apply H.seq | apply H.Al | apply H.nil | apply H.Am) | ((apply H.Cc); (iterate 4 exact rfl)))
 refine H.Ad rfl rfl rfl (h3 f1 _) ?_
 refine H.Ad rfl rfl rfl (T3 _) ?_
 refine gX ?_
 refine H.call rfl rfl rfl (hlog _) fun v' f' A' hr => ?_
 obtain ⟨p2, c2, rfl, hff, rfl⟩ := hr
 rw [hff]
 have hl1 : ([r] : List Req).length = 1 := rfl
 refine gX ?_
 refine H.Aa (x := plogH _ _ _) (by repeat constructor) ?_
 refine H.Ad rfl rfl rfl (hvot _) ?_
 iterate 47 (
  first
   | ((first | apply H.Ah | apply H.Ak | apply H.Az | apply H.Bg | apply H.Bm | apply H.Bq); (iterate 3 exact rfl))
   | (apply H.Ao; (iterate 3 exact rfl); exact inferInstance; exact rfl)
   | (apply H.Ag; (iterate 3 exact rfl); apply Rd1.ofRow; (repeat (first | exact .here _ _ _ | apply At.there)); (iterate 2 exact rfl))
   | (first | apply H.seq | apply H.Al | apply H.nil | apply H.Am)
   | ((first | apply H.cmp | apply H.Bc); (iterate 5 exact rfl))
   | ((first | (apply H.ar; (iterate 4 exact rfl)) | (apply H.Bn; (iterate 2 exact rfl))); (first | (with_reducible apply zaw; omega) | (with_reducible apply zax; omega) | (with_reducible apply zav; omega) | (with_reducible apply wr_i64; omega) | (with_reducible apply wr_u64; omega) | (with_reducible apply wr_u8; omega) | (with_reducible apply wr_u16; omega) | rfl); exact rfl)
   | (apply H.Bl; (iterate 2 exact rfl))
   | (apply H.pass0; exact rfl)
   | (apply H.Be; (iterate 4 exact rfl))
   | ((first | apply H.Aw | apply H.Cc | apply H.not | apply H.Cf); (iterate 4 exact rfl))
   | ((first | apply H.ptrNil | apply H.sliceNil); (iterate 5 exact rfl))
   | (apply H.Bi; (iterate 4 exact rfl); (repeat (first | exact .here _ _ _ | apply At.there)); (repeat (first | exact .here _ _ _ | apply SetV.there)))
   | (apply H.Ch; exact rfl)
   | (apply H.Cg; exact rfl)
   | (first | apply H.Bh | apply H.ret | apply H.Bu | apply H.By | apply H.exit | apply H.Bb | apply H.Bo | apply H.Bv | apply H.Bz | apply H.Cb | apply H.Bw)
   | (apply H.in_miss; exact rfl)
   | (apply H.Bk; (iterate 3 exact rfl); (first | assumption | omega))
   | (apply H.gno; (iterate 3 exact rfl); (first | assumption | omega))
   | (apply H.Br; exact rfl; (first | assumption | omega))
   | (apply H.Ca; exact rfl; (first | assumption | omega))
   | ((first | apply H.gtrue); (iterate 3 exact rfl); assumption)
   | (apply H.gfalse; (iterate 3 exact rfl); assumption)
   | (apply H.cond_t; exact rfl; assumption)
   | (apply H.cond_f; exact rfl; assumption))
 refine H.Ad rfl rfl rfl (hhol _) ?_
 refine gV ?_
 refine H.Ab (.here _ _) ?_
 refine H.Ab (.here _ _) ?_
 refine H.weakL hle ?_
 exact H.Ac rfl rfl (fun _ h => h) ⟨rfl, rfl, rfl⟩
theorem logNil_fn (htab : TabAt f) {x : MV} : Fn Tryz.prog 10 [.agg x.vals.toArray] f F (Ret (.bool true) f F) := by
 by_cases h20 : x.m.body.q.length ≤ 20
 ·skip
  refine Fn.enter Tryz.func10 rfl Tryz.ntmps10 rfl (L := [(0, _)]) ⟨rfl, trivial⟩ fun base => ?_
  refine gA ?_
  refine H.box (ls := x.vals) rfl rfl rfl rfl fun mb => ?_
  refine gF ?_
  refine H.Aj (ls := x.vals) rfl rfl rfl (Rd.ofRow (.here _ _ _)) rfl rfl ?_
  refine H.Ad rfl rfl rfl (pltake_nil f _) ?_
  refine gX ?_
  refine H.Ad rfl rfl rfl (pllog_nil f _) ?_
  refine gX ?_
  refine H.Ad rfl rfl rfl (plvoted_nil f _) ?_
  refine gX ?_
  refine H.Ad rfl rfl rfl (plchange_nil f _) ?_
  refine gY ?_
  refine H.Ad rfl rfl rfl (plgreat_nil f _) ?_
  refine gZ ?_
  refine H.Ad rfl rfl rfl (plviews_nil f _) ?_
  refine gZ ?_
  refine H.Ad rfl rfl rfl (plholds_nil f _) ?_
  refine gY ?_
  refine H.Ad rfl rfl rfl (works15_fn f _ htab) ?_
  refine gV ?_
  refine H.Ab (.here _ _) ?_
  exact H.Ac rfl rfl (fun _ h => h) ⟨rfl, rfl, rfl⟩
 ·skip
  refine Fn.enter Tryz.func10 rfl Tryz.ntmps10 rfl (L := [(0, _)]) ⟨rfl, trivial⟩ fun base => ?_
  refine gA ?_
  refine H.box (ls := x.vals) rfl rfl rfl rfl fun mb => ?_
  refine gF ?_
  refine H.Ad rfl rfl rfl (works15_fn f _ htab) ?_
  refine ga ?_
  refine H.Ab (.here _ _) ?_
  exact H.Ac rfl rfl (fun _ h => h) ⟨rfl, rfl, rfl⟩
end
end Go.Proofs.YtdcjlgigcbinjaaGreatDoor

namespace Go.Proofs.YtdcjlgigcbinjaaGreatDoor
open Go Go.ChangeShapes Go.WideShapes Go.RowKit Go.Deep
theorem Tryz.own : ownKnob Tryz.prog.godebug = none := by kernel_rfl
theorem Tryz.laidOut : laidOutB Tryz.prog = true := by kernel_rfl
abbrev laidL : List (String × DataW Unit) := [("ratchet/sha.table", Rows.laid_ratchet_sha_table)]
theorem door_met (os : Os) (args : Array Value) : laidMetH Tryz.prog laidL ((World.doorLaid Tryz.prog 400 os).forCall (fun _ _ => 0) ⟨#[], args, []⟩).memory :=
 laidMetH_of_parts3 (fuel := 8) (laidMet_of_run' 8 (by kernel_rfl) (by kernel_rfl)) (by kernel_rfl) (by kernel_rfl)
theorem tab_eq : (Rows.laid_ratchet_sha_table : DataW Unit) = .agg ((Sha.k.map fun x => ((x.toNat : Nat) : Int)).map fun z => .lit (.int .u32 z)) := by kernel_rfl
theorem tab_of {W : World} (h : laidMetH Tryz.prog laidL W) : TabAt (memOf W) := by
 have h2 : laidMetH Tryz.prog [("ratchet/sha.table", .agg ((Sha.k.map fun x => ((x.toNat : Nat) : Int)).map fun z => .lit (.int .u32 z)))] W := by rw [← tab_eq]; exact h
 exact laid_ints h2 (by kernel_rfl) (by kernel_rfl) (t := 165) (e := 107) Tryz.underlying165 Tryz.underlying107 (by kernel_rfl)
end Go.Proofs.YtdcjlgigcbinjaaGreatDoor
