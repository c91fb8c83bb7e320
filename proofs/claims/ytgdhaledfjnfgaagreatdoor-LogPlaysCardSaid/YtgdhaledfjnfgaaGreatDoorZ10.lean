/- Parts of the proof, one behind the other, each under its own heading. No conditions. -/
import Derived.Test.YtgdhaledfjnfgaaGreatDoorZ09
import Derived.Test.YtgdhaledfjnfgaaGreatDoorRows
import Derived.Test.YtgdhaledfjnfgaaGreatDoorCards
import Derived.Test.YtgdhaledfjnfgaaGreatDoorTie
set_option linter.unusedSectionVars false
set_option linter.unusedSimpArgs false
set_option linter.unusedVariables false
/- Layer 15: LogPlays: who stands in the logs (plain); what the program tells of a replica. No condition. -/
set_option maxHeartbeats 6400000
set_option maxRecDepth 20000
namespace Go.Proofs.YtgdhaledfjnfgaaGreatDoor
open Go
def CLI (l : Lgs) : Prop := ∀ w ∈ l.vs, ∀ r ∈ w.all, r.client ≤ 8
theorem CLI.new (n : Nat) : CLI (Lgs.new n) := fun w hw r hr => by
 rw [List.mem_singleton.1 hw] at hr; cases hr
variable {l : Lgs} {v : Int}
theorem eff_client {m : Msg} {p : PM} {y : Int × Req} (h : l.eff m = some (.prep p v y)) : y.2.client ≤ 8 := by
 unfold Lgs.eff at h;split at h
 ·split at h <;> cases h
 ·split at h
  ·split at h <;> cases h
  ·split at h
   ·split at h
    ·cases h
    ·split at h <;> cases h
   ·split at h
    ·split at h
     ·cases h
     ·split at h
      ·rename_i hc
       cases h
       have ha := hc.2.1;unfold Req.auth at ha
       rw [Bool.and_eq_true] at ha;exact (of_decide_eq_true ha.1).2.1
      ·cases h
    ·split at h
     ·split at h
      ·cases h
      ·split at h <;> cases h
     ·split at h <;> cases h
variable {T : Nat}
theorem CLI.counts (hL : LI l T) (h : CLI l) (m : Msg) : CLI (l.counts m).2 := by
 rw [counts_eff hL.rise]
 cases he : l.eff m with
 | none => exact h
 | some e =>
  show CLI (l.app (orgI m) e)
  cases e with
  | no => exact h
  | past p => exact h
  | chg p c => exact h
  | prep p v y =>
   have hy := eff_client he;intro x hx r hr
   obtain ⟨z, hz, rfl⟩ := List.mem_map.1 (show x ∈ l.vs.map (putV v y) from hx);unfold putV at hr;split at hr
   ·have hr : r ∈ z.s ++ (z.p ++ [y]).map Prod.snd := hr;rw [List.map_append, ← List.append_assoc, List.mem_append] at hr
    rcases hr with hr | hr
    ·exact h z hz r hr
    ·have hr : r ∈ [y.2] := hr;rw [List.mem_singleton.1 hr]; exact hy
   ·exact h z hz r hr
  | beg p w =>
   intro x hx r hr;have hx : x ∈ insV w l.vs := hx;rcases List.mem_cons.1 ((insV_perm _ _).mem_iff.2 hx) with e | e
   ·rw [e] at hr;obtain ⟨_, _, _, e2⟩ | ⟨_, e2, _⟩ | ⟨_, _, _, e2⟩ | ⟨_, _, e2⟩ | ⟨_, _, _, e2⟩ | ⟨_, _, _, e2⟩ := eff_cases he; all_goals try cases e2
    have hr : r ∈ l.pref (l.best m) ++ [] := hr;rw [List.append_nil] at hr
    unfold Lgs.pref at hr
    cases hv : l.vw (l.best m).1 with
    | none => rw [hv] at hr; cases hr
    | some w => rw [hv] at hr; exact h w (vw_v hv).2 r (List.mem_of_mem_take hr)
   ·exact h x e r hr
theorem CLI.take {l : Lgs} {T : Nat} (hL : LI l T) (h : CLI l) (m : Msg) : CLI (l.take m).2 := by
 unfold Lgs.take;split
 ·exact h
 ·split
  ·exact h
  ·exact CLI.counts hL h m
theorem CLI.no99 (h : CLI l) {w : Vw} (hw : w ∈ l.vs) (t : Int) : holdsB w.all 99 t = false := by
 unfold holdsB;refine List.any_eq_false.2 fun r hr e => ?_;have h1 := h w hw r hr;simp only [Bool.and_eq_true, decide_eq_true_eq] at e
 omega
theorem holdsB_mem {l : List Req} {r : Req} (h : r ∈ l) : holdsB l r.client r.time = true := List.any_eq_true.2 ⟨r, h, by rw [decide_eq_true rfl, decide_eq_true rfl]; rfl⟩
def lastCh (l : Lgs) (o : Nat) : Int × Int := (l.ch o).getLast?.getD (0, 0)
variable {fl : Frag} {lb o pc cc : Nat} {r : Int} {kn : Nat → Int} {pp cp : Option Addr}
section
variable (f : Frag) (F : List HP)
theorem plgreat_fn (hfl : Le fl f) (hn : l.n ≤ 11) (ho : o < l.n) (hr : r = ((o + 1 : Nat) : Int)) :
  Fn Tryz.prog 40 [.pointer (some ⟨lb, 0, none⟩), .int .i64 r] f (plogH fl lb l :: F) (Ret (.int .u64 (l.past o).g) f (plogH fl lb l :: F)) := by
 refine Fn.unpack fun i hi => ?_;have hpa := fun G => plpast_fn f G hfl (lb := lb) hi hn ho hr;obtain ⟨V, vb, pp, pc, cp, cc, pb, cs⟩ := i
 have hvo := fun G => greatest_fn f G (pb o) (l.past o);refine qcO ?_
 refine Fn.e2 Tryz.func40 Tryz.ntmps40 fun base => ?_;refine gI ?_;refine H.cr (hpa _) ?_;skip;refine qel ?_;refine H.Ch ho ?_;refine H.cr (hvo _) ?_;refine H.Cj (g := fun r => pastH (pb r) (l.past r)) ho ?_;refine gV ?_;refine qec ?_;exact qbl
theorem plholdsO_fn (hL : LI l T) {c t : Int} :
  Fn Tryz.prog 27 [.pointer (some ⟨lb, 0, none⟩), .int .u64 v, .int .i64 c, .int .u64 t] f (plogH fl lb l :: F) (Ret (.bool (holdsB (allO (l.vw v)) c t)) f (plogH fl lb l :: F)) := by
 cases hv : l.vw v with
 | some w =>
  cases hat : vwAt l.vs v with
  | none => rw [vw_none.2 hat] at hv; cases hv
  | some i =>
   have hw : l.vs[i]? = some w := by unfold Lgs.vw at hv; rw [hat] at hv; exact hv
   exact plholds_fn f F hL hat hw
 | none =>
  have hat := vw_none.1 hv;refine Fn.unpack fun i hi => ?_
  have hvs := hi.vs;obtain ⟨V, vb, pp, pc, cp, cc, pb, cs⟩ := i
  have hvs : (V.map PV.w).Perm l.vs := hvs; have hget : (getKV (V.map PV.ent) v).getD (.pointer none) = .pointer none := by rw [view_none hvs hat]; rfl
  refine qcO ?_;refine Fn.e4 Tryz.func27 Tryz.ntmps27 fun base => ?_;refine gS ?_;refine qef ?_;refine gQ ?_;exact qbl
theorem plchg_fn (hfl : Le fl f) (hL : LI l T) (hT : T ≤ 50000) (ho : o < l.n) (hr : r = ((o + 1 : Nat) : Int)) :
  Fn Tryz.prog 62 [.pointer (some ⟨lb, 0, none⟩), .int .i64 r] f (plogH fl lb l :: F) (Ret (.tuple #[.int .u64 (lastCh l o).1, .int .u64 (lastCh l o).2]) f (plogH fl lb l :: F)) := by
 refine Fn.unpack fun i hi => ?_;have hn := hL.n3;have hcl := hL.cl o
 have hpa := fun G => plpast_fn f G hfl (lb := lb) hi (by omega) ho hr;obtain ⟨V, vb, pp, pc, cp, cc, pb, cs⟩ := i
 have hrz : r - 1 = (o : Nat) := by omega
 refine qcO ?_;refine Fn.e2 Tryz.func62 Tryz.ntmps62 fun base => ?_;refine gI ?_;refine H.cr (hpa _) ?_;refine qfn fun cb hcb => ?_;subst hcb;by_cases h0 : (l.ch o).length = 0
 ·have hlast : lastCh l o = (0, 0) := by unfold lastCh; rw [List.eq_nil_of_length_eq_zero h0]; rfl
  have hrow : (chRow l cs)[o]? = some (.slice (cs o).1 (l.ch o).length (cs o).2) := zbx _ ho;rw [hlast]
  refine gS ?_;refine qdL ?_;refine gL ?_;refine qgY ?_;exact qbc
 ·obtain ⟨y, hy⟩ : ∃ y, (l.ch o)[(l.ch o).length - 1]? = some y := ⟨_, List.getElem?_eq_getElem (by omega)⟩; have hlast : lastCh l o = y := by unfold lastCh; rw [List.getLast?_eq_getElem?, hy]; rfl
  rw [hlast];refine qgY ?_;refine H.Ch ho ?_;refine H.Bc (p := (cs o).1) (n0 := (l.ch o).length) (c := (cs o).2) (T := 181) (sz := 2) (xs := (l.ch o).flatMap chV) (.here _ _ _) (by omega) fun sb hp => ?_; have hrow : (chRow l cs)[o]? = some (.slice (some ⟨sb, 0, none⟩) (l.ch o).length (cs o).2) := by rw [← hp]; exact zbx _ ho
  have hfam : pcFam l cs o = slc (some ⟨sb, 0, none⟩) (l.ch o).length (cs o).2 181 2 ((l.ch o).flatMap chV) := by rw [← hp]; rfl
  rw [hfam];refine gS ?_;refine qgU fun xb => ?_;refine qhg ?_;rw [← hfam];refine H.pf (x := fam (updF (pcFam l cs) o emp) _) ?_;refine H.pf (x := pcFam l cs o) ?_;refine H.Cj ho ?_;exact qbc
def chL (lb : Nat) (l : Lgs) (kn : Nat → Int) (vp : Option Addr) (vl vc : Nat) (pp : Option Addr) (pc : Nat) (cp : Option Addr) (cc : Nat) (cs : Nat → Option Addr × Nat) (F : List HP) : List HP :=
 row lb 86 (lgC l.n kn vp vl vc pp pc cp cc) :: slc cp l.n cc 171 1 (chRow l cs) :: fam (chFam l cs) l.n :: F
theorem lgchg_fn (hL : LI l T) (hT : T ≤ 50000) {vp : Option Addr} {vl vc : Nat} {cs : Nat → Option Addr × Nat} (ho : o < l.n) (hr : r = ((o + 1 : Nat) : Int)) :
  Fn Tryz.prog 63 [.pointer (some ⟨lb, 0, none⟩), .int .i64 r] f (chL lb l kn vp vl vc pp pc cp cc cs F) (Ret (.tuple #[.int .u64 (lastCh l o).1, .int .u64 (lastCh l o).2]) f (chL lb l kn vp vl vc pp pc cp cc cs F)) := by
 have hn := hL.n3;have hcl := hL.cl o
 have hrz : r - 1 = (o : Nat) := by omega
 show Fn _ _ _ f (row lb 86 (lgC l.n kn vp vl vc pp pc cp cc) :: slc cp l.n cc 171 1 (chRow l cs) :: fam (chFam l cs) l.n :: F) (Ret _ f (row lb 86 (lgC l.n kn vp vl vc pp pc cp cc) :: slc cp l.n cc 171 1 (chRow l cs) :: fam (chFam l cs) l.n :: F));refine Fn.e2 Tryz.func63 Tryz.ntmps63 fun base => ?_;refine qfo fun cb hcb => ?_;subst hcb;by_cases h0 : (l.ch o).length = 0
 ·have hlast : lastCh l o = (0, 0) := by unfold lastCh; rw [List.eq_nil_of_length_eq_zero h0]; rfl
  have hrow : (chRow l cs)[o]? = some (.slice (cs o).1 (l.ch o).length (cs o).2) := zbx _ ho;rw [hlast]
  refine gH ?_;refine qdL ?_;refine gL ?_;exact qaL
 ·obtain ⟨y, hy⟩ : ∃ y, (l.ch o)[(l.ch o).length - 1]? = some y := ⟨_, List.getElem?_eq_getElem (by omega)⟩; have hlast : lastCh l o = y := by unfold lastCh; rw [List.getLast?_eq_getElem?, hy]; rfl
  rw [hlast];refine qfL ?_;refine H.Ch ho ?_;refine H.Bc (p := (cs o).1) (n0 := (l.ch o).length) (c := (cs o).2) (T := 173) (sz := 2) (xs := (l.ch o).flatMap chV) (.here _ _ _) (by omega) fun sb hp => ?_; have hrow : (chRow l cs)[o]? = some (.slice (some ⟨sb, 0, none⟩) (l.ch o).length (cs o).2) := by rw [← hp]; exact zbx _ ho
  have hfam : chFam l cs o = slc (some ⟨sb, 0, none⟩) (l.ch o).length (cs o).2 173 2 ((l.ch o).flatMap chV) := by rw [← hp]; rfl
  rw [hfam];refine gH ?_;refine qgU fun xb => ?_;refine qhg ?_;rw [← hfam];refine H.pf (x := fam (updF (chFam l cs) o emp) _) ?_;refine H.pf (x := chFam l cs o) ?_;refine H.Cj ho ?_;refine qdY ?_;refine qdc ?_;exact qaL
def lgL (lb n : Nat) (kn : Nat → Int) (V : List VV) (vp : Option Addr) (vc : Nat) (pp : Option Addr) (pc : Nat) (cp : Option Addr) (cc : Nat) (F : List HP) : List HP :=
 row lb 86 (lgC n kn vp V.length vc pp pc cp cc) :: slc vp V.length vc 129 4 (V.flatMap VV.vals) :: lst (V.map VV.own) :: F
theorem lglog_fn (hfl : Le fl f) (hL : LI l T) (hT : T ≤ 50000) {i : LPt} (hi : lgφ fl l i) (v : Int) :
  Fn Tryz.prog 26 [.pointer (some ⟨lb, 0, none⟩), .int .u64 v] f (lgL lb l.n kn i.V i.vp i.vc pp pc cp cc F) (LogOR f (lgL lb l.n kn i.V i.vp i.vc pp pc cp cc F) (l.vw v)) := by
 have hvs := hi.vs;have hlen := hi.len
 have hsat := hi.s;have hvl := hL.vl
 obtain ⟨V, vp, vc, pp0, pc0, cp0, cc0, pb, cs⟩ := i;have hvs : V.map VV.w = l.vs := hvs;have hlen : V.length = l.vs.length := hlen
 have hview := fun G => lgview_fn f G (lb := lb) (n := l.n) (kn := kn) (V := V) (vp := vp) (vc := vc) (pp := pp) (pc := pc) (cp := cp) (cc := cc) (by omega) v;rw [hvs] at hview
 show Fn _ _ _ f (row lb 86 (lgC l.n kn vp V.length vc pp pc cp cc) :: slc vp V.length vc 129 4 (V.flatMap VV.vals) :: lst (V.map VV.own) :: F) (LogOR f (row lb 86 (lgC l.n kn vp V.length vc pp pc cp cc) :: slc vp V.length vc 129 4 (V.flatMap VV.vals) :: lst (V.map VV.own) :: F) (l.vw v))
 cases hat : vwAt l.vs v with
 | none =>
  rw [vw_none.2 hat]; have hz : vwZ l.vs v = -1 := by unfold vwZ; rw [hat]
  rw [hz] at hview;refine Fn.e2 Tryz.func26 Tryz.ntmps26 fun base => ?_;refine gI ?_;refine H.cr (hview _) ?_;refine gQ ?_;refine H.slc0 44 40 ?_;exact H.Bn rfl rfl rfl (fun _ h => h) ⟨none, 0, rfl, rfl, rfl⟩
 | some j =>
  obtain ⟨⟨w, hw, hwv⟩, _⟩ := zap.1 hat; have hz : vwZ l.vs v = (j : Nat) := by unfold vwZ; rw [hat]
  rw [hz] at hview
  obtain ⟨X, hX, hXw⟩ : ∃ X, V[j]? = some X ∧ X.w = w := by
   rw [← hvs, List.getElem?_map] at hw
   cases e : V[j]? with
   | none => rw [e] at hw; cases hw
   | some x => rw [e] at hw; cases hw; exact ⟨x, rfl, rfl⟩
  subst hXw;have hj := (List.getElem?_eq_some_iff.1 hX).1;have hXs := hsat X (List.mem_of_getElem? hX)
  have hal := hL.al _ (List.mem_of_getElem? hw);rw [X.w.all_len] at hal
  have hvw : l.vw v = some X.w := by unfold Lgs.vw; rw [hat]; exact hw
  rw [hvw];refine Fn.e2 Tryz.func26 Tryz.ntmps26 fun base => ?_;refine gI ?_;refine H.cr (hview _) ?_;refine H.Bc (p := vp) (n0 := V.length) (c := vc) (T := 129) (sz := 4) (xs := V.flatMap VV.vals) (.there _ (.here _ _ _)) (by omega) fun vb hvb => ?_;subst hvb;refine gY ?_;refine H.Ao (i := j) rfl rfl rfl rfl hj rfl ?_;refine H.Ae (ls := X.vals) rfl rfl rfl (by rw [Nat.zero_add]; exact Rd.slcElem VV.len (by decide) (.there _ (.here _ _ _)) hX) rfl rfl ?_;refine qeZ ?_;refine H.Cq (x := X.own) (i := j) (by rw [List.getElem?_map, hX]; rfl) ?_;refine H.callE rfl rfl rfl (all_fn f _ hfl hXs (by omega)) fun ap => ?_;obtain ⟨qp, qc⟩ := ap;refine gV ?_;refine H.pf (x := lst ((V.map VV.own).set j emp)) ?_;refine H.pf (x := X.own) ?_;refine H.Cr (xs := V.map VV.own) (i := j) (by rw [List.getElem?_map, hX]; rfl) ?_;refine qfc ?_;refine qdc ?_;refine H.pf (x := slc qp _ qc _ 40 _) ?_;exact H.Bn rfl rfl rfl (fun _ h => h) ⟨qp, qc, rfl, rfl, rfl⟩
end
section
variable (f : Frag) (F : List HP)
theorem views_fn {pa pb : Nat} {L : Lgs} (hL : LI L T) (hT : T ≤ 254) :
  Fn Tryz.prog 28 [.pointer (some ⟨pa, 0, none⟩), .pointer (some ⟨pb, 0, none⟩)] f (logsH f pb L :: plogH f pa L :: F) (Ret (.bool true) f (logsH f pb L :: plogH f pa L :: F)) := by
 refine Fn.unpack fun i0 hi => ?_;have hlen := hi.len;have hn := hL.n3
 have hvl := hL.vl;have hvs := hi.vs
 obtain ⟨pbb, poff, hpp, rdp⟩ := hi.past (by omega); have hz : 0 < L.vs.length := by obtain ⟨w, hw, _⟩ := hL.zero; exact List.length_pos_of_mem hw
 have hlog1 := fun G v => pllogO_fn f G (fl := f) (lb := pa) hL (by omega) v;have hlog2 := fun G v => lglog_fn f G (Le.refl f) (lb := pb) hL (by omega) hi (kn := L.known) (pp := i0.pp) (pc := i0.pc) (cp := i0.cp) (cc := i0.cc) v
 have hvo1 := fun G o (ho : o < L.n) v => plvoted_fn f G (Le.refl f) (lb := pa) (l := L) (by omega) (o := o) ho (r := ((o + 1 : Nat) : Int)) (v := v) rfl;have hvo2 := fun G o (ho : o < L.n) v => pst_voted f G (i0.pb o) (L.past o) (by have := hL.il o ho; omega) v
 have hch1 := fun G o (ho : o < L.n) => plchg_fn f G (Le.refl f) (lb := pa) hL (by omega) (o := o) ho (r := ((o + 1 : Nat) : Int)) rfl;have hch2 := fun G o (ho : o < L.n) => lgchg_fn f G (lb := pb) hL (by omega) (kn := L.known) (vp := i0.vp) (vl := i0.V.length) (vc := i0.vc) (pp := i0.pp) (pc := i0.pc) (cp := i0.cp) (cc := i0.cc) (cs := i0.cs) (o := o) ho (r := ((o + 1 : Nat) : Int)) rfl
 have hgr := fun G o (ho : o < L.n) => plgreat_fn f G (Le.refl f) (lb := pa) (l := L) (by omega) (o := o) ho (r := ((o + 1 : Nat) : Int)) rfl;obtain ⟨V, vp, vc, pp, pc, cp, cc, qb, cs⟩ := i0
 have hlen : V.length = L.vs.length := hlen;have hvs : V.map VV.w = L.vs := hvs
 have hpp : pp = some ⟨pbb, poff, none⟩ := hpp;subst hpp
 show Fn _ _ _ f (row pb 86 (lgC L.n L.known vp V.length vc (some ⟨pbb, poff, none⟩) pc cp cc) :: slc vp V.length vc 129 4 (V.flatMap VV.vals) :: lst (V.map VV.own) :: fam (fun r => pstH (qb r) (L.past r)) L.n :: slc cp L.n cc 171 1 (chRow L cs) :: fam (chFam L cs) L.n :: plogH f pa L :: F) _;refine Fn.e2 Tryz.func28 Tryz.ntmps28 fun base => ?_;refine gI ?_;refine qeW ?_;refine H.Au rfl rfl rfl (plviews_fn f _ (fl := f) (lb := pa) hL hT) fun v f' A' hR => ?_;obtain ⟨np, nc, rfl, hff, rfl⟩ := hR;rw [hff];clear hff;obtain ⟨U, hU⟩ : ∃ U, U = viewsU L := ⟨_, rfl⟩;rw [← hU]; have hUl : U.length = V.length := by rw [hU, hlen]; exact List.length_map _
 have hUv : ∀ (k : Nat) (v : Int), U[k]? = some v → ∃ X, V[k]? = some X ∧ X.w.v = v ∧ L.vw v = some X.w := fun k v h => by
  rw [hU] at h;unfold viewsU at h;rw [← hvs, List.map_map, List.getElem?_map] at h
  cases e : V[k]? with
  | none => rw [e] at h; cases h
  | some X =>
   rw [e] at h; cases h
   exact ⟨X, rfl, rfl, vw_mem hL.rise (by rw [← hvs]; exact List.mem_map_of_mem (List.mem_of_getElem? e))⟩
 clear hU;refine H.Bc (p := np) (n0 := U.length) (c := nc) (T := 31) (sz := 1) (xs := U.flatMap uV) (.here _ _ _) (by omega) fun nb hnb => ?_;subst hnb;refine qdO fun vb hvb => ?_;subst hvb;refine gN ?_;refine qdI ?_;refine qeW ?_;refine qfJ ?_
 refine H.lo (ι := Nat) (fun k => [(6, .int .i64 (k : Int)), (5, .slice (some ⟨nb, 0, none⟩) U.length nc), (1, .pointer (some ⟨pb, 0, none⟩)), (0, .pointer (some ⟨pa, 0, none⟩))]) (fun _ => f)
  (fun _ => slc (some ⟨nb, 0, none⟩) U.length nc 31 1 (U.flatMap uV) :: plogH f pa L :: row pb 86 (lgC L.n L.known (some ⟨vb, 0, none⟩) V.length vc (some ⟨pbb, poff, none⟩) pc cp cc) :: slc (some ⟨vb, 0, none⟩) V.length vc 129 4 (V.flatMap VV.vals) :: lst (V.map VV.own) :: fam (fun r => pstH (qb r) (L.past r)) L.n :: slc cp L.n cc 171 1 (chRow L cs) :: fam (chFam L cs) L.n :: F)
  (fun k => k ≤ U.length) (fun k => U.length - k) 0 (Nat.zero_le _) fun k hk => ?_
 have hk : k ≤ U.length := hk;by_cases hku : k < U.length
 ·obtain ⟨v, hv⟩ : ∃ v, U[k]? = some v := ⟨_, List.getElem?_eq_getElem hku⟩;obtain ⟨X, hX, hXv, hw⟩ := hUv k v hv;have hal := hL.al _ (vw_v hw).2;have hl1 := fun G => hlog1 G v
  have hl2 := fun G => hlog2 G v;rw [hw] at hl1 hl2
  have hao : allO (some X.w) = X.w.all := rfl;refine gF ?_
  refine qfy ?_;refine qeW ?_;refine H.cl (hl1 _) fun v f' A' hR => ?_;obtain ⟨p3, c3, rfl, hff, rfl⟩ := hR;rw [hff, hao];clear hff hl1;refine ge ?_;refine qfy ?_;refine qeZ ?_;refine qfc ?_;refine qgw ?_;refine H.cl (hl2 _) fun v f' A' hR => ?_;obtain ⟨p4, c4, rfl, hff, rfl⟩ := hR;rw [hff, hao];clear hff hl2;show H _ _ _ _ _ (slc p4 _ c4 _ _ _ :: row pb 86 (lgC L.n L.known (some ⟨vb, 0, none⟩) V.length vc (some ⟨pbb, poff, none⟩) pc cp cc) :: slc (some ⟨vb, 0, none⟩) V.length vc 129 4 (V.flatMap VV.vals) :: lst (V.map VV.own) :: _) _;refine ge ?_;refine H.pf (x := slc p3 _ c3 _ _ _) ?_;refine H.freeze (.here _ _) fun g5 hg5 hd5 => ?_;refine H.freeze (.here _ _) fun g6 hg6 hd6 => ?_;have hat4 : ListAt (un (un f g5) g6) p4 40 Req.vals X.w.all := (zbi Req.len hg6).mono (Le.right hd6);have hat3 : ListAt (un (un f g5) g6) p3 40 Req.vals X.w.all := ((zbi Req.len hg5).mono (Le.right hd5)).mono (Le.un _ g6)
  have hle : Le f (un (un f g5) g6) := (Le.un f g5).trans (Le.un _ g6);clear hg5 hd5 hg6 hd6
  generalize un (un f g5) g6 = e2 at *;have hsame := fun G => sameR_fn e2 G (ca := c3) (cb := c4) hat3 hat4 (by omega);clear hat3 hat4
  generalize X.w.all = R at hsame ⊢;refine qfc ?_;refine qgw ?_;refine qfJ ?_;refine qgs ?_;refine HB.qu [0,1,2,3,4,5,6,7,8,9,10,11,12,13,14,15,16,17,18,19,20] 3 ?_;refine gB ?_;refine HQ.Ao (i := k) rfl rfl rfl rfl hku rfl ?_;refine HQ.Ab rfl rfl rfl (rd_uV (.here _ _ _) hv) rfl ?_;refine gc ?_;refine HQ.Ao (i := k) rfl rfl rfl rfl (by omega) rfl ?_;refine gc ?_;refine HQ.Ab rfl rfl rfl (Rd1.of (i := 0) (by rw [Nat.zero_add]; exact Rd.slcElem VV.len (by decide) (.there _ (.there _ (.here _ _ _))) hX) rfl) rfl ?_;refine gW ?_;refine HQ.bne (b := false) rfl rfl rfl rfl (bne_self_eq_false _) rfl ?_;refine qgJ ?_;refine HB.ev 21 ?_;refine H.cr (hsame _) ?_;refine qcN ?_;refine HB.qu [22,23] 0 ?_;refine qde ?_;refine H.weakL hle ?_;refine gX ?_;refine qdI ?_;refine qeW ?_;refine qfJ ?_
  refine H.lo (ι := Nat) (fun r => [(11, .int .i64 ((r + 1 : Nat) : Int)), (6, .int .i64 (k : Int)), (5, .slice (some ⟨nb, 0, none⟩) U.length nc), (1, .pointer (some ⟨pb, 0, none⟩)), (0, .pointer (some ⟨pa, 0, none⟩))]) (fun _ => f)
   (fun _ => slc (some ⟨nb, 0, none⟩) U.length nc 31 1 (U.flatMap uV) :: plogH f pa L :: row pb 86 (lgC L.n L.known (some ⟨vb, 0, none⟩) V.length vc (some ⟨pbb, poff, none⟩) pc cp cc) :: slc (some ⟨vb, 0, none⟩) V.length vc 129 4 (V.flatMap VV.vals) :: lst (V.map VV.own) :: fam (fun r => pstH (qb r) (L.past r)) L.n :: slc cp L.n cc 171 1 (chRow L cs) :: fam (chFam L cs) L.n :: F)
   (fun r => r ≤ L.n) (fun r => L.n - r) 0 (Nat.zero_le _) fun r hr => ?_
  have hr : r ≤ L.n := hr;by_cases hrn : r < L.n
  ·have hv1 := fun G => hvo1 G r hrn v;have hv2 := fun G => hvo2 G r hrn v
   have hr0z : ((r + 1 : Nat) : Int) - 1 = (r : Nat) := by omega
   generalize PM.voted (L.past r).all v = vo at hv1 hv2;refine gN ?_;refine qfy ?_;refine qeW ?_;refine H.cr (hv1 _) ?_;refine ge ?_;refine qgw ?_;refine qfJ ?_;refine qgv ?_;refine HB.qu [0,1,2,3,4,5,6,7,8,9,10,11] 6 ?_;refine gc ?_;refine qgH ?_;refine gB ?_;refine HQ.Ao (i := k) rfl rfl rfl rfl hku rfl ?_;refine HQ.Ab rfl rfl rfl (rd_uV (.here _ _ _) hv) rfl ?_;skip;refine qeN ?_;refine qgL ?_;refine H.Ch hrn ?_;refine H.cr (hv2 _) ?_;refine H.Cj (g := fun r => pstH (qb r) (L.past r)) hrn ?_;refine gA ?_;refine qgw ?_;refine qfJ ?_;refine qdE ?_;refine HB.qu [13,14,15,16,17] 0 ?_;refine qde ?_;refine gZ ?_;refine H.bne (b := false) rfl rfl rfl rfl (bne_self_eq_false _) rfl ?_;refine gH ?_;exact qaJ
  ·skip;refine gL ?_;exact H.ag (k + 1) (by show k + 1 ≤ U.length; omega) (by show U.length - (k + 1) < U.length - k; omega)
 ·skip;refine gP ?_
  refine H.lo (ι := Nat) (fun r => [(16, .int .i64 ((r + 1 : Nat) : Int)), (1, .pointer (some ⟨pb, 0, none⟩)), (0, .pointer (some ⟨pa, 0, none⟩))]) (fun _ => f)
   (fun _ => slc (some ⟨nb, 0, none⟩) U.length nc 31 1 (U.flatMap uV) :: plogH f pa L :: row pb 86 (lgC L.n L.known (some ⟨vb, 0, none⟩) V.length vc (some ⟨pbb, poff, none⟩) pc cp cc) :: slc (some ⟨vb, 0, none⟩) V.length vc 129 4 (V.flatMap VV.vals) :: lst (V.map VV.own) :: fam (fun r => pstH (qb r) (L.past r)) L.n :: slc cp L.n cc 171 1 (chRow L cs) :: fam (chFam L cs) L.n :: F)
   (fun r => r ≤ L.n) (fun r => L.n - r) 0 (Nat.zero_le _) fun r hr => ?_
  have hr : r ≤ L.n := hr;by_cases hrn : r < L.n
  ·have h1 := fun G => hch1 G r hrn;have h2 := fun G => hch2 G r hrn
   have h3 := fun G => hgr G r hrn; have hr0z : ((r + 1 : Nat) : Int) - 1 = (r : Nat) := by omega
   generalize lastCh L r = lc at h1 h2;refine gN ?_;refine qeW ?_;refine H.cr (h1 _) ?_;refine ge ?_;refine H.pf (x := fam (chFam L cs) _) ?_;refine qfP ?_;refine qgw ?_;refine H.cr (h2 _) ?_;show H _ _ _ _ _ (row pb 86 (lgC L.n L.known (some ⟨vb, 0, none⟩) V.length vc (some ⟨pbb, poff, none⟩) pc cp cc) :: slc cp L.n cc 171 1 (chRow L cs) :: fam (chFam L cs) L.n :: _) _;refine ge ?_;refine qgL ?_;refine H.Ch hrn ?_;refine pstH_openH fun eb ec => ?_;refine qgw ?_;refine H.pf (x := row (qb r) _ _) ?_;refine qgv ?_;refine HB.qu [0,1,2,3,4,5,6,7,8,9,10,12,13,14,15,16,17,18,19,20,21,22] 3 ?_;refine gU ?_;refine qgH ?_;refine qek ?_;refine HB.ev 11 ?_;refine qeW ?_;refine H.cr (h3 _) ?_;refine gA ?_;refine qgw ?_;refine H.pf (x := row (qb r) _ _) ?_;refine qdE ?_;refine HB.qu [23,24] 0 ?_;refine gW ?_;refine qdT ?_;refine gP ?_;refine H.pf (x := fam (updF _ r emp) _) ?_;refine H.pf (x := slc (some ⟨eb, 0, none⟩) _ ec _ _ _) ?_;refine H.pf (x := row (qb r) _ _) ?_;refine H.imp zaz ?_;refine H.Cj (g := fun r => pstH (qb r) (L.past r)) hrn ?_;exact qaJ
  ·skip;refine gN ?_;refine H.pd (x := slc (some ⟨nb, 0, none⟩) _ nc _ _ _) ?_;refine qdI ?_;refine H.imp (zaf ⟨V, some ⟨vb, 0, none⟩, vc, some ⟨pbb, poff, none⟩, pc, cp, cc, qb, cs⟩ hi) ?_;exact qao
end
theorem good_few15 {f : Frag} {x : MV} (h : x.Has f) (hl : x.m.body.q.length ≤ 20) : x.Good f := ⟨h.1, by omega, h.2⟩
theorem MVs_one15 (l : List MV) : ∀ v ∈ l.flatMap MV.vals, one v = true := by
 intro v hv;obtain ⟨x, _, hx⟩ := List.mem_flatMap.1 hv;exact zaa (l := x.vals) rfl v hx
section
variable (f : Frag) (F : List HP)
theorem logPlays_fn (htab : TabAt f) {n8 : UInt8} {p : Option Addr} {c : Nat} {xs : List A15} (hat : ListAt f p 12 A15.vals xs) (hh : ∀ x ∈ xs, x.Has f) (hxl : xs.length ≤ 9223372036854775807)
  {op : Option Addr} {oc : Nat} {os : List UInt8} (hos : BAt f op os) (hol : os.length ≤ 9223372036854775807) {wp : Option Addr} {wc : Nat} {raw : List MV} (hraw : ListAt f wp 121 MV.vals raw) (hrh : ∀ x ∈ raw, x.Has f) (hrl : raw.length ≤ 9223372036854775807) :
  Fn Tryz.prog 8 [.int .u8 (n8.toNat : Nat), .slice p xs.length c, .slice op os.length oc, .slice wp raw.length wc, .int .u64 v] f F (Ret (.bool true) f F) := by
 have hfew := few15_fn f F (c := c) hat hxl
 cases hf : few15 xs with
 | false =>
  rw [hf] at hfew;refine Fn.e5 Tryz.func8 Tryz.ntmps8 fun base => ?_;refine qeU ?_;refine gQ ?_;exact qbt
 | true =>
  rw [hf] at hfew;obtain ⟨hl100, hq20⟩ := few15_all hf;by_cases h150 : os.length ≤ 150
  ·by_cases h20 : raw.length ≤ 20
   ·obtain ⟨n, hn8⟩ : ∃ n, n = 3 + 2 * (n8.toNat % 5) := ⟨_, rfl⟩; have hn3 : 3 ≤ n ∧ n ≤ 11 := by omega
    have hodd : n % 2 = 1 := by omega
    have hacts := fun G => acts15_fn f G hn8 (c := c) hat (fun x hx => ⟨hh x hx, hq20 x hx⟩) hl100; have hwl : (world15 n xs).w.all.length ≤ 100 := by have := world15_len n xs xs.length; rw [List.take_length] at this; omega
    generalize world15 n xs = W15' at *;refine Fn.e5 Tryz.func8 Tryz.ntmps8 fun base => ?_;refine qeU ?_;refine gZ ?_;refine H.lo (ι := Nat) (fun i => [(11, .int .i64 (i : Int)), (4, .int .u64 v), (3, .slice wp raw.length wc), (2, .slice op os.length oc), (1, .slice p xs.length c), (0, .int .u8 (n8.toNat : Nat))]) (fun _ => f) (fun _ => F) (fun i => i ≤ raw.length ∧ ∀ j x, j < i → raw[j]? = some x → x.m.body.q.length ≤ 20) (fun i => raw.length - i) 0 ⟨Nat.zero_le _, fun j x hj => by omega⟩ fun i hi => ?_;obtain ⟨hi, hb⟩ : i ≤ raw.length ∧ ∀ j x, j < i → raw[j]? = some x → x.m.body.q.length ≤ 20 := hi;by_cases hlt : i < raw.length
    ·have hx : raw[i]? = some raw[i] := List.getElem?_eq_getElem hlt;generalize raw[i] = x at hx
     obtain ⟨b, off, cs, T, fr, rfl, hfb, hcs⟩ := hraw i x hx;have rd : ∀ A, Rd f A b (off + i * 121) x.vals := fun A => Rd.imm hfb hcs;by_cases hq : x.m.body.q.length ≤ 20
     ·refine qfq ?_;refine gJ ?_;refine H.Ab rfl rfl rfl (Rd1.of (i := 56) (rd _) rfl) rfl ?_;refine gP ?_;refine H.ag (i + 1) ⟨by show i + 1 ≤ raw.length; omega, fun j y hj hy => ?_⟩ (by show raw.length - (i + 1) < raw.length - i; omega);exact qcI
     ·refine qfq ?_;refine gJ ?_;refine H.Ab rfl rfl rfl (Rd1.of (i := 56) (rd _) rfl) rfl ?_;refine gF ?_;exact qbt
    ·have hrg : ∀ x ∈ raw, x.Good f := fun x hx => by
      obtain ⟨j, hj⟩ := List.getElem?_of_mem hx;have hjl := (List.getElem?_eq_some_iff.1 hj).1;exact good_few15 (hrh x hx) (hb j x (by omega) hj)
     clear hb hfew;refine gP ?_;refine H.cl (hacts _) fun v' f' A' hr => ?_;obtain ⟨g, wb, rfl, hd, rfl, rfl⟩ := hr;have le0 := Le.un f g;generalize un f g = f0 at *
     refine H.world15 fun g1 kb ap ac lb l hd1 hwat => ?_;have le1 := le0.trans (Le.un f0 g1);generalize un f0 g1 = f1 at *
     clear hacts;obtain ⟨W, hW⟩ : ∃ W, W = W15'.w := ⟨_, rfl⟩;rw [← hW] at hwat hwl;have hlm := hwat.m; have hll : l.length = W.all.length := by rw [← hlm, List.length_map]
     refine gI ?_;refine H.Ba (out := []) rfl rfl rfl rfl (by decide) (by decide) rfl rfl fun eb => ?_;refine H.asSlc (k := 0) (sz := 121) rfl (by decide) ?_;refine gE ?_;refine H.Bf (xs := []) (m := l.length) (news := l.flatMap MV.vals) rfl rfl rfl rfl rfl (fun p' c' => .here _ _ _) (hwat.a.src MV.len (by decide)) (MVs_one15 l) rfl (by omega) (by omega) fun bp bc => ?_;rw [Nat.zero_add, List.nil_append];refine gI ?_;refine H.Bf (xs := l.flatMap MV.vals) (m := raw.length) (news := raw.flatMap MV.vals) rfl rfl rfl rfl rfl (fun p' c' => .here _ _ _) ((hraw.mono le1).src MV.len (by decide)) (MVs_one15 raw) rfl (by omega) (by omega) fun dp dc => ?_;rw [show l.length + raw.length = (l ++ raw).length from List.length_append.symm, show l.flatMap MV.vals ++ raw.flatMap MV.vals = (l ++ raw).flatMap MV.vals from List.flatMap_append.symm];refine H.freeze (.here _ _) fun ga hga hda => ?_;have hall : ListAt (un f1 ga) dp 121 MV.vals (l ++ raw) := (zbi MV.len hga).mono (Le.right hda);have lea := Le.un f1 ga
     have le2 := le1.trans lea
     have hgood : ∀ x ∈ l ++ raw, x.Good (un f1 ga) := fun x hx => by
      rcases List.mem_append.1 hx with hx | hx
      ·exact (hwat.g x hx).mono lea
      ·exact (hrg x hx).mono le2
     have hgl : ∀ x ∈ l, x.Good (un f1 ga) := fun x hx => hgood x (List.mem_append_left _ hx);have hla : ListAt (un f1 ga) ap 121 MV.vals l := hwat.a.mono lea
     generalize un f1 ga = f2 at *;generalize l ++ raw = all at *;clear hwat hda hga hd hd1 hrg hraw hrh hat hh hlm;refine gE ?_;refine H.Au rfl rfl rfl (plnew_fn f2 _ (n := n) (fewz_odd hn8)) fun v' f' A' hr => ?_;obtain ⟨g3, pa, hd3, rfl, rfl, rfl⟩ := hr;have le3 := Le.un f2 g3;generalize un f2 g3 = f3 at *
     refine gY ?_;refine H.Au rfl rfl rfl (lgnew_fn f3 _ (n := n) (fewz_odd hn8)) fun v' f' A' hr => ?_;obtain ⟨g4, pb, hd4, rfl, rfl, rfl⟩ := hr;have le4 := Le.un f3 g4;have le24 := le3.trans le4
     refine qeW ?_;refine H.imp (plog_up le4) ?_;generalize un f3 g4 = f4 at *;have lef4 := le2.trans le24;have hta4 := tab_mono htab lef4
     clear hd3 hd4;obtain ⟨N, hN⟩ : ∃ N, N = l.length := ⟨_, rfl⟩; have hN100 : N ≤ 100 := by omega
     rw [← hN];refine gQ ?_;refine qeo ?_;refine H.pf (x := logsH _ pb _) ?_;refine qeW ?_
     refine H.lo (ι := Nat × Frag × Lgs) (fun s => [(18, .int .i64 (s.1 : Int)), (16, .pointer (some ⟨pb, 0, none⟩)), (14, .pointer (some ⟨pa, 0, none⟩)), (13, .slice dp all.length dc), (12, .pointer (some ⟨wb, 0, none⟩)), (4, .int .u64 v), (2, .slice op os.length oc)]) (fun s => s.2.1)
      (fun s => plogH s.2.1 pa s.2.2 :: logsH s.2.1 pb s.2.2 :: row wb 37 (w15C kb n ap N ac lb) :: F)
      (fun s => s.1 ≤ os.length + N ∧ Le f4 s.2.1 ∧ LI s.2.2 s.1 ∧ NI s.2.2 ∧ CLI s.2.2 ∧ s.2.2.n = n) (fun s => os.length + N + 1 - s.1)
      (0, f4, Lgs.new n) ⟨Nat.zero_le _, Le.refl f4, LI.new hn3.1 hn3.2, NI.new n, CLI.new n, rfl⟩ fun s hs => ?_
     obtain ⟨i, e, L⟩ := s;obtain ⟨hi, hle, hLI, hNI, hCI, hLn⟩ : i ≤ os.length + N ∧ Le f4 e ∧ LI L i ∧ NI L ∧ CLI L ∧ L.n = n := hs;show H _ _ _ [(18, .int .i64 (i : Int)), _, _, _, _, _, _] e (plogH e pa L :: logsH e pb L :: _ :: F) _;have hte := tab_mono hta4 hle;by_cases hgo : i < os.length + N ∧ 0 < all.length
     ·obtain ⟨hlt, hal⟩ := hgo;obtain ⟨x8, hx8e⟩ : ∃ x8, x8 = os.getD i 0 := ⟨_, rfl⟩;obtain ⟨k, hke⟩ : ∃ k, k = x8.toNat % all.length := ⟨_, rfl⟩; have hk : k < all.length := by rw [hke]; exact Nat.mod_lt _ hal
      obtain ⟨y, hyg, hy1, hy2⟩ : ∃ y : MV, y.Good f2 ∧ (i < os.length → all[k]? = some y) ∧ (¬ i < os.length → l[i - os.length]? = some y) := by
       by_cases hio : i < os.length
       ·exact ⟨all[k], hgood _ (List.getElem_mem hk), fun _ => List.getElem?_eq_getElem hk, fun h => absurd hio h⟩
       ·have hj : i - os.length < l.length := by omega
        exact ⟨l[i - os.length], hgl _ (List.getElem_mem hj), fun h => absurd h hio, fun _ => List.getElem?_eq_getElem hj⟩
      have hyg : y.Good e := (hyg.mono le24).mono hle;have le2e := le24.trans hle
      refine gR ?_;refine H.Ap (ls := msgZ.vals none 0) rfl rfl rfl fun mb => ?_;refine H.Ah (ls := msgZ.vals none 0) (vs := msgZ.vals none 0) (ls' := msgZ.vals none 0) rfl rfl rfl (zaa rfl) rfl rfl (Nat.le_refl 121) (.here _ _ _) ?_;refine (fun (tail : True → ?T) => ?main) ?pf
      case main =>
       by_cases hio : i < os.length
       ·have hy := hy1 hio;rcases hos with h | ⟨ob, ooff, ocs, oT, ofr, hop, hofb, hocs⟩
        ·rw [h] at hio; exact absurd hio (Nat.not_lt_zero _)
        ·have hocs := hocs i hio;rw [zbq hio, ← hx8e] at hocs
         have hofb := hle _ _ (lef4 _ _ hofb);have hx8 := x8.toNat_lt
         obtain ⟨ab, aoff, hdp, rdA⟩ := hall.all MV.len (by decide) hal;refine gF ?_;refine H.Ao (b := ob) (off := ooff) (i := i) rfl (by rw [← hop]; rfl) rfl rfl hio rfl ?_;refine H.Ab rfl rfl rfl (by rw [Nat.mul_one]; exact Rd1.imm hofb hocs) rfl ?_;refine gX ?_;refine H.rem (z := ((k : Nat) : Int)) rfl rfl rfl (by omega) (by first | exact zal (a := x8.toNat) (b := all.length) hke.symm | (rw [wr_i64 (by omega)]; exact zal (a := x8.toNat) (b := all.length) hke.symm)) rfl ?_;refine H.Ao (b := ab) (off := aoff) (i := k) rfl (by rw [← hdp]; rfl) rfl rfl hk rfl ?_;exact qax
       ·have hy := hy2 hio;obtain ⟨ab, aoff, hap, rdA⟩ := hla.all MV.len (by decide) (by omega)
        refine gL ?_;refine H.Ao (b := ab) (off := aoff) (i := i - os.length) rfl (by rw [← hap]; rfl) rfl (by omega) (by omega) rfl ?_;exact qax
      case pf =>
       intro _;clear hos hy1 hy2 hgood hgl hall hla hke hx8e;have htk := fun G => pltakeA_fn e G hte (Le.refl e) (lb := pa) hLI (by omega) hNI (by rw [hLn]; exact hodd) hyg;have hrt := fun G => take_fn e G (Le.refl e) (lb := pb) hLI (by omega) hyg
       have hL2 := hLI.take (m := y.m) hyg.2.2.1.1;have hN2 := hNI.take y.m
       have hC2 := hCI.take hLI y.m;have hn2 : (L.take y.m).2.n = n := (L.take_n y.m).trans hLn
       obtain ⟨R, hR⟩ : ∃ R, R = L.take y.m := ⟨_, rfl⟩;rw [← hR] at htk hrt hL2 hN2 hC2 hn2;clear hR;obtain ⟨⟨rb, rz⟩, L2⟩ := R;skip;refine H.Ae (ls := y.vals) rfl rfl rfl (Rd.ofRow (by repeat constructor)) rfl rfl ?_;refine qeW ?_;refine H.cr (htk _) ?_;refine ge ?_;refine H.Ae (ls := y.vals) rfl rfl rfl (Rd.ofRow (by repeat constructor)) rfl rfl ?_;refine H.pf (x := logsH _ pb _) ?_;refine H.cl (hrt _) fun v' f' A' hr => ?_;obtain ⟨g5, hd5, rfl, rfl, rfl⟩ := hr;have hup := Le.un e g5;have hle2 := hle.trans hup
       refine qeW ?_;refine H.imp (plog_up hup) ?_;clear hd5 htk hrt hyg;generalize un e g5 = e2 at *;refine qdq ?_;show H _ _ _ _ _ (plogH e2 pa L2 :: logsH e2 pb L2 :: _ :: F) _;refine ge ?_;refine H.bne (b := false) rfl rfl rfl rfl (bne_self_eq_false _) rfl ?_;refine gL ?_;exact H.ag (i + 1, e2, L2) ⟨by show i + 1 ≤ os.length + N; omega, hle2, hL2, hN2, hC2, hn2⟩ (by show os.length + N + 1 - (i + 1) < os.length + N + 1 - i; omega)
     ·refine (fun (tail : True → ?T) => ?main) ?pf
      case main =>
       by_cases hlt : i < os.length + N
       ·have hal : ¬ 0 < all.length := fun h => hgo ⟨hlt, h⟩;refine gR ?_
        exact qaU
       ·skip;refine gH ?_;exact qaU
      case pf =>
       intro _;clear hos hgood hgl hall hla hgo;have hlf := lef4.trans hle;obtain ⟨R, hR⟩ : ∃ R, R = allO (L.vw v) := ⟨_, rfl⟩
       have hRl : R.length ≤ 100000 := by
        rw [hR]
        cases hv : L.vw v with
        | none => exact Nat.zero_le _
        | some w => have := hLI.al w (vw_v hv).2; show w.all.length ≤ _; omega
       have h99 : holdsB R 99 1 = false := by
        rw [hR]
        cases hv : L.vw v with
        | none => rfl
        | some w => exact hCI.no99 (vw_v hv).2 1
       have hlog1 := fun G => pllogO_fn e G (fl := e) (lb := pa) hLI (by omega) v;have hho := fun e' G c t => plholdsO_fn e' G (fl := e) (lb := pa) hLI (v := v) (c := c) (t := t)
       rw [← hR] at hho;have hviews := fun G => views_fn e G (pa := pa) (pb := pb) hLI (by omega);skip
       refine H.cl (hlog1 _) fun v' f' A' hr => ?_;obtain ⟨p3, c3, rfl, hff, rfl⟩ := hr;rw [hff, ← hR];clear hff hlog1;refine ge ?_;refine H.pf (x := logsH _ pb _) ?_;refine H.unpack fun ri hri => ?_;have hlog2 := fun G => lglog_fn e G (Le.refl e) (lb := pb) hLI (by omega) hri (kn := L.known) (pp := ri.pp) (pc := ri.pc) (cp := ri.cp) (cc := ri.cc) v;obtain ⟨V, vp, vc, pp, pc, cp, cc, qb, cs⟩ := ri
       show H _ _ _ _ _ (row pb 86 (lgC L.n L.known vp V.length vc pp pc cp cc) :: slc vp V.length vc 129 4 (V.flatMap VV.vals) :: lst (V.map VV.own) :: fam (fun r => pstH (qb r) (L.past r)) L.n :: slc cp L.n cc 171 1 (chRow L cs) :: fam (chFam L cs) L.n :: _) _;refine H.cl (hlog2 _) fun v' f' A' hr => ?_;obtain ⟨p4, c4, rfl, hff, rfl⟩ := hr;rw [hff, ← hR];clear hff hlog2;show H _ _ _ _ _ (slc p4 _ c4 _ _ _ :: row pb _ _ :: slc vp _ vc _ _ _ :: lst _ :: _) _;refine H.pf (x := fam (chFam L cs) _) ?_;refine qfP ?_;refine qgL ?_;refine qeZ ?_;refine H.pf (x := slc vp _ vc _ _ _) ?_;refine qgw ?_;refine H.imp (zaf ⟨V, vp, vc, pp, pc, cp, cc, qb, cs⟩ hri) ?_;clear hri;refine ge ?_;refine H.pf (x := slc p4 _ c4 _ _ _) ?_;refine H.pf (x := slc p3 _ c3 _ _ _) ?_;refine H.freeze (.here _ _) fun g5 hg5 hd5 => ?_;refine H.freeze (.here _ _) fun g6 hg6 hd6 => ?_;have hat4 : ListAt (un (un e g5) g6) p4 40 Req.vals R := (zbi Req.len hg6).mono (Le.right hd6);have hat3 : ListAt (un (un e g5) g6) p3 40 Req.vals R := ((zbi Req.len hg5).mono (Le.right hd5)).mono (Le.un _ g6)
       have hup : Le e (un (un e g5) g6) := (Le.un e g5).trans (Le.un _ g6);clear hg5 hd5 hg6 hd6
       generalize un (un e g5) g6 = e2 at *;have hsame := fun G => sameR_fn e2 G (ca := c3) (cb := c4) hat3 hat4 (by omega);refine H.bne (b := false) rfl rfl rfl rfl (bne_self_eq_false _) rfl ?_
       refine gI ?_;refine H.cr (hsame _) ?_;clear hsame;refine gH ?_;refine qeo ?_;refine H.pf (x := logsH _ pb _) ?_;refine qeW ?_
       refine H.lo (ι := Nat) (fun j => [(28, .int .i64 (j : Int)), (26, .slice p4 R.length c4), (16, .pointer (some ⟨pb, 0, none⟩)), (14, .pointer (some ⟨pa, 0, none⟩)), (4, .int .u64 v)]) (fun _ => e2)
        (fun _ => plogH e pa L :: logsH e pb L :: row wb 37 (w15C kb n ap N ac lb) :: F) (fun j => j ≤ R.length) (fun j => R.length - j) 0 (Nat.zero_le _) fun j hj => ?_
       have hj : j ≤ R.length := hj;by_cases hjl : j < R.length
       ·obtain ⟨x, hx⟩ : ∃ x, R[j]? = some x := ⟨_, List.getElem?_eq_getElem hjl⟩;obtain ⟨b4, off4, cs4, T4, fr4, rfl, hfb4, hcs4⟩ := hat4 j x hx
        have hhx : ∀ G, Fn Tryz.prog 27 [.pointer (some ⟨pa, 0, none⟩), .int .u64 v, .int .i64 x.client, .int .u64 x.time] e2 (plogH e pa L :: G) (Ret (.bool true) e2 (plogH e pa L :: G)) := fun G => by
         have h := hho e2 G x.client x.time;rw [holdsB_mem (List.mem_of_getElem? hx)] at h
         exact h
        refine gF ?_;refine H.db (S := []) rfl ?_;refine qgl ?_;refine gB ?_;refine HQ.Ao (i := j) rfl rfl rfl rfl hjl rfl ?_;refine gc ?_;refine HQ.Ab rfl rfl rfl (Rd1.of (i := 0) (Rd.imm hfb4 hcs4) rfl) rfl ?_;refine gB ?_;refine HQ.Ao (i := j) rfl rfl rfl rfl hjl rfl ?_;refine gc ?_;refine HQ.Ab rfl rfl rfl (Rd1.of (i := 1) (Rd.imm hfb4 hcs4) rfl) rfl ?_;skip;refine qeN ?_;refine H.cr (hhx _) ?_;refine qcN ?_;refine HB.qu [13] 0 ?_;refine qde ?_;refine gX ?_;exact H.ag (j + 1) (by show j + 1 ≤ R.length; omega) (by show R.length - (j + 1) < R.length - j; omega)
       ·have hh99 : ∀ G, Fn Tryz.prog 27 [.pointer (some ⟨pa, 0, none⟩), .int .u64 v, .int .i64 99, .int .u64 1] e2 (plogH e pa L :: G) (Ret (.bool false) e2 (plogH e pa L :: G)) := fun G => by
         have h := hho e2 G 99 1;rw [h99] at h
         exact h
        refine gP ?_;refine H.cr (hh99 _) ?_;refine H.weakL hup ?_;refine ge ?_;refine qeW ?_;refine H.pf (x := logsH _ pb _) ?_;refine H.cr (hviews _) ?_;refine gM ?_;refine H.Ag rfl rfl rfl (works15_fn e _ hte) ?_;refine gM ?_;refine H.pd (x := plogH _ pa _) ?_;refine H.pd (x := logsH _ pb _) ?_;refine H.pd (x := row wb _ _) ?_;refine H.weakL hlf ?_;exact qao
   ·skip;refine Fn.e5 Tryz.func8 Tryz.ntmps8 fun base => ?_;refine qeU ?_;refine gR ?_;exact qbt
  ·skip;refine Fn.e5 Tryz.func8 Tryz.ntmps8 fun base => ?_;refine qeU ?_;refine gZ ?_;exact qbt
end
end Go.Proofs.YtgdhaledfjnfgaaGreatDoor

namespace Go.Proofs.YtgdhaledfjnfgaaGreatDoor
open Go Go.ChangeShapes Go.WideShapes Go.RowKit Go.Deep
theorem Tryz.own : ownKnob Tryz.prog.godebug = none := by kernel_rfl
theorem Tryz.laidOut : laidOutB Tryz.prog = true := by kernel_rfl
abbrev laidL : List (String × DataW Unit) := [("ratchet/sha.table", Rows.laid_ratchet_sha_table)]
theorem door_met (os : Os) (args : Array Value) : laidMetH Tryz.prog laidL ((World.doorLaid Tryz.prog 400 os).forCall (fun _ _ => 0) ⟨#[], args, []⟩).memory :=
 laidMetH_of_parts3 (fuel := 8) (laidMet_of_run' 8 (by kernel_rfl) (by kernel_rfl)) (by kernel_rfl) (by kernel_rfl)
theorem tab_eq : (Rows.laid_ratchet_sha_table : DataW Unit) = .agg ((Sha.k.map fun x => ((x.toNat : Nat) : Int)).map fun z => .lit (.int .u32 z)) := by kernel_rfl
theorem tab_of {W : World} (h : laidMetH Tryz.prog laidL W) : TabAt (memOf W) := by
 have h2 : laidMetH Tryz.prog [("ratchet/sha.table", .agg ((Sha.k.map fun x => ((x.toNat : Nat) : Int)).map fun z => .lit (.int .u32 z)))] W := by rw [← tab_eq]; exact h
 exact laid_ints h2 (by kernel_rfl) (by kernel_rfl) (t := 250) (e := 223) Tryz.underlying250 Tryz.underlying223 (by kernel_rfl)
end Go.Proofs.YtgdhaledfjnfgaaGreatDoor
