/- Parts of the proof, one behind the other, each under its own heading. No conditions. -/
import Derived.Test.YtgdhaledfjnfgaaGreatDoorZ08
import Derived.Test.YtgdhaledfjnfgaaGreatDoorRows
import Derived.Test.YtgdhaledfjnfgaaGreatDoorCards
import Derived.Test.YtgdhaledfjnfgaaGreatDoorTie
set_option linter.unusedSectionVars false
set_option linter.unusedSimpArgs false
set_option linter.unusedVariables false
/- Layer 15: the log of a view that may be none; LogVotes. Condition: the table of the standard stands in the fragment. -/
namespace Go.Proofs.YtgdhaledfjnfgaaGreatDoor
open Go
def allO (o : Option Vw) : List Req := (o.map Vw.all).getD []
def LogOR (f : Frag) (A : List HP) (o : Option Vw) : Value → Frag → List HP → Prop := fun v f' A' => ∃ (p : Option Addr) (c : Nat), v = .tuple #[.slice p (allO o).length c, .bool o.isSome] ∧ f' = f ∧ A' = slc p (allO o).length c 44 40 ((allO o).flatMap Req.vals) :: A
theorem lgsOf_vote {n : Nat} {all : List Msg} (hW : WOK n all) (hv : ∀ m ∈ all, 0 ≤ m.body.view) (h3 : 3 ≤ n) (h11 : n ≤ 11) {i : Nat} {m : Msg} (hm : all[i]? = some m) :
  VoteR m (cBit n all i) (PM.voted ((lgsOf n (all.take i)).past (orgI m)).all m.body.view) (PM.voted ((lgsOf n (all.take (i + 1))).past (orgI m)).all m.body.view) := by
 have hi := (List.getElem?_eq_some_iff.1 hm).1
 have hmm := List.mem_of_getElem? hm
 have hL := lgsOf_LI h3 h11 (all.take i) (fun x hx => hv x (List.mem_of_mem_take hx))
 have hn := lgsOf_n n (all.take i)
 have hmi : MIn (lgsOf n (all.take i)).n m := by rw [hn]; exact (hW i m hm).min (hv m hmm)
 have hmo := moved_vote hL hmi (moved hL hmi)
 obtain ⟨h1, h2, _⟩ := world_take hW hm
 rw [h2, cBit_at hm]
 exact hmo
section
variable (f : Frag) (F : List HP)
theorem pllog_no {fl : Frag} {lb : Nat} {l : Lgs} {v : Int} (hat : vwAt l.vs v = none) :
  Fn Tryz.prog 21 [.pointer (some ⟨lb, 0, none⟩), .int .u64 v] f (plogH fl lb l :: F) (Ret (.tuple #[.slice none 0 0, .bool false]) f (plogH fl lb l :: F)) := by
 refine Fn.unpack fun i hi => ?_
 have hvs := hi.vs
 obtain ⟨V, vb, pp, pc, cp, cc, pb, cs⟩ := i
 have hvs : (V.map PV.w).Perm l.vs := hvs
 have hget : (getKV (V.map PV.ent) v).getD (.pointer none) = .pointer none := by rw [view_none hvs hat]; rfl
 show Fn _ _ _ f (row lb 113 (plC l.n l.known vb pp pc cp cc) :: mp vb keyU (V.map PV.ent) :: lst (V.map PV.own) :: fam (fun r => pastH (pb r) (l.past r)) l.n :: slc cp l.n cc 179 1 (chRow l cs) :: fam (pcFam l cs) l.n :: F) _
 refine Fn.e2 Tryz.func21 Tryz.ntmps21 fun base => ?_
 refine gM ?_
 refine H.Bv (enc := keyU) (k := v) rfl rfl rfl (by repeat constructor) rfl hget rfl ?_
 refine gQ ?_
 refine H.pf (x := fam (pcFam l cs) _) ?_
 refine H.pf (x := slc cp _ cc _ _ _) ?_
 refine H.pf (x := fam (fun r => pastH _ _) _) ?_
 refine H.pf (x := lst (V.map PV.own)) ?_
 refine H.pf (x := mp vb _ _) ?_
 refine H.pf (x := row lb _ _) ?_
 refine H.imp (zai ⟨V, vb, pp, pc, cp, cc, pb, cs⟩ hi) ?_
 exact H.ret2 rfl rfl rfl (fun _ h => h) ⟨rfl, rfl, rfl⟩
theorem pllogO_fn {fl : Frag} {lb : Nat} {l : Lgs} {T : Nat} (hL : LI l T) (hT : T ≤ 50000) (v : Int) :
  Fn Tryz.prog 21 [.pointer (some ⟨lb, 0, none⟩), .int .u64 v] f (plogH fl lb l :: F) (LogOR f (plogH fl lb l :: F) (l.vw v)) := by
 cases hv : l.vw v with
 | none =>
  intro base w s
  have h := pllog_no f F (fl := fl) (lb := lb) (vw_none.1 hv) base w s
  refine h.mono ?_
  rintro e w' ⟨x, f', A', rfl, ⟨rfl, rfl, rfl⟩, s'⟩
  refine ⟨_, _, slc none 0 0 44 40 [] :: plogH fl lb l :: F, rfl, ⟨none, 0, rfl, rfl, rfl⟩, s'.imp fun h hh => ⟨nil0, h, (Dj.nil h).symm, (nil_un h).symm, slc_nil none 44 40, hh⟩⟩
 | some w =>
  obtain ⟨i, h1, h2⟩ := vw_at hv
  exact (pllog_fn f F hL hT h1 h2).mono fun _ _ _ h => h
set_option maxRecDepth 20000 in
set_option maxHeartbeats 3200000 in
theorem logVotes_fn (htab : TabAt f) {n8 : UInt8} {p : Option Addr} {c : Nat} {xs : List A15} (hat : ListAt f p 12 A15.vals xs) (hh : ∀ x ∈ xs, x.Has f) (hxl : xs.length ≤ 9223372036854775807) :
  Fn Tryz.prog 4 [.int .u8 (n8.toNat : Nat), .slice p xs.length c] f F (Ret (.bool true) f F) := by
 have hfew := few15_fn f F (c := c) hat hxl
 cases hf : few15 xs with
 | false =>
  rw [hf] at hfew
  refine Fn.e2 Tryz.func4 Tryz.ntmps4 fun base => ?_
  refine gN ?_
  refine H.Ad rfl rfl rfl hfew ?_
  refine H.not (b := _) (c := _) rfl rfl rfl rfl ?_
  refine gC ?_
  refine H.Ad rfl rfl rfl (works15_fn f _ htab) ?_
  refine gY ?_
  exact H.rt ⟨rfl, rfl, rfl⟩
 | true =>
  rw [hf] at hfew
  obtain ⟨hl100, hq20⟩ := few15_all hf
  obtain ⟨n, hn8⟩ : ∃ n, n = 3 + 2 * (n8.toNat % 5) := ⟨_, rfl⟩
  have hn3 : 3 ≤ n ∧ n ≤ 11 := by omega
  have hodd : n % 2 = 1 := by omega
  have hacts := fun G => acts15_fn f G hn8 (c := c) hat (fun x hx => ⟨hh x hx, hq20 x hx⟩) hl100
  have hinv : WOK n (world15 n xs).w.all := by have := (world15_inv hn3.1 hn3.2 xs xs.length (by omega)).w.ok; rwa [List.take_length] at this
  have hwl : (world15 n xs).w.all.length ≤ 100 := by have := world15_len n xs xs.length; rw [List.take_length] at this; omega
  generalize world15 n xs = W15' at *
  refine Fn.e2 Tryz.func4 Tryz.ntmps4 fun base => ?_
  refine gN ?_
  refine H.Ad rfl rfl rfl hfew ?_
  refine H.not (b := _) (c := _) rfl rfl rfl rfl ?_
  refine gS ?_
  refine H.Ay rfl rfl rfl (hacts _) fun v f' A' hr => ?_
  obtain ⟨g, wb, rfl, hd, rfl, rfl⟩ := hr
  have le0 := Le.un f g
  generalize un f g = f0 at *
  refine H.world15 fun g1 kb ap ac lb l hd1 hwat => ?_
  have le1 := le0.trans (Le.un f0 g1)
  generalize un f0 g1 = f1 at *
  have hta := tab_mono htab le1
  clear hacts hfew
  obtain ⟨W, hW⟩ : ∃ W, W = W15'.w := ⟨_, rfl⟩
  rw [← hW] at hwat hinv hwl
  refine gG ?_
  refine H.Ay rfl rfl rfl (plnew_fn f1 _ (n := n) (fewz_odd hn8)) fun v f' A' hr => ?_
  obtain ⟨g2, pb, hd2, rfl, rfl, rfl⟩ := hr
  have le2 := Le.un f1 g2
  have le12 := le1.trans le2
  have hwa2 := hwat.mono le2
  have hgv := hwat.good_v
  have hlm := hwat.m
  have hll : l.length = W.all.length := by rw [← hlm, List.length_map]
  have hta2 := tab_mono hta le2
  generalize un f1 g2 = f2 at *
  refine ga ?_
  refine H.Ar (ι := Nat) (fun i => [(8, .int .i64 (i : Int)), (6, .pointer (some ⟨pb, 0, none⟩)), (5, .pointer (some ⟨wb, 0, none⟩))]) (fun _ => f2)
   (fun i => plogH f2 pb (lgsOf n (W.all.take i)) :: row wb 37 (w15C kb n ap l.length ac lb) :: F) (fun i => i ≤ W.all.length) (fun i => W.all.length - i)
   0 (Nat.zero_le _) ⟨rfl, rfl, rfl, trivial⟩ rfl rfl fun i hi => ?_
  have hi : i ≤ W.all.length := hi
  by_cases hlt : i < W.all.length
  ·obtain ⟨b, off, rfl, rdA⟩ := hwa2.a.all MV.len (by decide) (by omega)
   obtain ⟨y, hy⟩ : ∃ y, l[i]? = some y := ⟨_, List.getElem?_eq_getElem (by omega)⟩
   have hym : W.all[i]? = some y.m := by rw [← hlm, List.getElem?_map, hy]; rfl
   have hyg := hwa2.g y (List.mem_of_getElem? hy)
   have ho := (hinv i y.m hym).org
   have hvr := lgsOf_vote hinv hgv hn3.1 hn3.2 hym
   obtain ⟨o, hoe⟩ : ∃ o, o = orgI y.m := ⟨_, rfl⟩
   have hoz : y.m.origin = ((o + 1 : Nat) : Int) := by rw [hoe]; unfold orgI; omega
   have hon : o < n := by omega
   have hlen : (W.all.take i).length = i := by rw [List.length_take]; omega
   have hlen2 : (W.all.take (i + 1)).length = i + 1 := by rw [List.length_take]; omega
   have hLI := lgsOf_LI hn3.1 hn3.2 (W.all.take i) (fun x hx => hgv x (List.mem_of_mem_take hx))
   have hLI2 := lgsOf_LI hn3.1 hn3.2 (W.all.take (i + 1)) (fun x hx => hgv x (List.mem_of_mem_take hx))
   rw [hlen] at hLI
   rw [hlen2] at hLI2
   have htk := fun G => pltakeA_fn f2 G hta2 (Le.refl f2) (lb := pb) hLI (by omega) (lgsOf_NI _ _) (by rw [lgsOf_n]; exact hodd) hyg
   obtain ⟨w1, w2, w3⟩ := world_take hinv hym
   rw [w1, ← cBit_at (n := n) hym] at htk
   have hv1 := fun G => plvoted_fn f2 G (Le.refl f2) (lb := pb) (l := lgsOf n (W.all.take i)) (by rw [lgsOf_n]; omega) (o := o) (by rw [lgsOf_n]; exact hon) (r := y.m.origin) (v := y.m.body.view) hoz
   have hv2 := fun G => plvoted_fn f2 G (Le.refl f2) (lb := pb) (l := lgsOf n (W.all.take (i + 1))) (by rw [lgsOf_n]; omega) (o := o) (by rw [lgsOf_n]; exact hon) (r := y.m.origin) (v := y.m.body.view) hoz
   have hlog := fun G => pllogO_fn f2 G (fl := f2) (lb := pb) hLI2 (by omega) y.m.body.view
   have hlv : ∀ k, PM.voted ((lgsOf n (W.all.take (i + 1))).past o).all y.m.body.view = some k → ((lgsOf n (W.all.take (i + 1))).vw y.m.body.view).isSome = true ∧ 0 ≤ k ∧ k ≤ ((allO ((lgsOf n (W.all.take (i + 1))).vw y.m.body.view)).length : Int) ∧ k ≤ 1000 := fun k hk => by
    obtain ⟨j, w, a1, a2, a3, a4, a5⟩ := hLI2.voted (r := o) (by rw [lgsOf_n]; exact hon) hk
    have e : (lgsOf n (W.all.take (i + 1))).vw y.m.body.view = some w := by unfold Lgs.vw; rw [a1]; exact a2
    have := hLI2.al w (List.mem_of_getElem? a2)
    rw [e]
    exact ⟨rfl, a4, a5, by omega⟩
   rw [← hoe] at hvr
   clear w1 w2 w3
   generalize PM.voted ((lgsOf n (W.all.take i)).past o).all y.m.body.view = va at *
   generalize PM.voted ((lgsOf n (W.all.take (i + 1))).past o).all y.m.body.view = vb at *
   generalize (lgsOf n (W.all.take (i + 1))).vw y.m.body.view = vo at *
   obtain ⟨cb, hcb⟩ : ∃ cb, cb = cBit n W.all i := ⟨_, rfl⟩
   rw [← hcb] at hvr htk
   refine gP ?_
   refine H.Aq (i := i) rfl rfl rfl rfl (by omega) rfl ?_
   refine H.Af (ls := y.vals) rfl rfl rfl (rdA _ _ _ _ (Le.refl f2) hy) rfl rfl ?_
   refine H.Ao (ls := msgZ.vals none 0) rfl rfl rfl fun ob => ?_
   refine H.Ah (ls := msgZ.vals none 0) (vs := y.vals) (ls' := y.vals) rfl rfl rfl (zaa rfl) rfl rfl (Nat.le_refl 121) (.here _ _ _) ?_
   refine gG ?_
   refine H.pf (x := plogH _ pb _) ?_
   refine H.Ad rfl rfl rfl (hv1 _) ?_
   refine gQ ?_
   refine H.Af (ls := y.vals) rfl rfl rfl (Rd.ofRow (by repeat constructor)) rfl rfl ?_
   refine H.Ad rfl rfl rfl (htk _) ?_
   refine ga ?_
   refine H.Ad rfl rfl rfl (hv2 _) ?_
   iterate 9 (
    first
     | ((first | apply H.Ag | apply H.Ak | apply H.Bc | apply H.Bk | apply H.Bn | apply H.Bs); (iterate 3 exact rfl))
     | (apply H.Ap; (iterate 3 exact rfl); exact inferInstance; exact rfl)
     | (apply H.Ae; (iterate 3 exact rfl); apply Rd1.ofRow; (repeat (first | exact .here _ _ _ | apply At.there)); (iterate 2 exact rfl))
     | (first | apply H.seq | apply H.Al | apply H.nil | apply H.Am)
     | ((first | apply H.cmp | apply H.Av); (iterate 5 exact rfl))
     | ((first | (apply H.ar; (iterate 4 exact rfl)) | (apply H.Bh; (iterate 2 exact rfl))); (first | (with_reducible apply zas; omega) | (with_reducible apply zau; omega) | (with_reducible apply zav; omega) | (with_reducible apply wr_i64; omega) | (with_reducible apply wr_u64; omega) | (with_reducible apply wr_u8; omega) | (with_reducible apply wr_u16; omega) | rfl); exact rfl)
     | (apply H.Bi; (iterate 2 exact rfl))
     | (apply H.pass0; exact rfl)
     | (apply H.Bg; (iterate 4 exact rfl))
     | ((first | apply H.Az | apply H.Cb | apply H.not | apply H.Ch); (iterate 4 exact rfl))
     | ((first | apply H.Ck | apply H.Cl); (iterate 5 exact rfl))
     | (apply H.Be; (iterate 4 exact rfl); (repeat (first | exact .here _ _ _ | apply At.there)); (repeat (first | exact .here _ _ _ | apply SetV.there)))
     | (apply H.Ce; exact rfl)
     | (apply H.Cc; exact rfl)
     | (first | apply H.Bf | apply H.ret | apply H.Bt | apply H.By | apply H.exit | apply H.Bj | apply H.Bq | apply H.Bz | apply H.Bw | apply H.Ca | apply H.Bu)
     | (apply H.in_miss; exact rfl)
     | (apply H.Bl; (iterate 3 exact rfl); (first | assumption | omega))
     | (apply H.gno; (iterate 3 exact rfl); (first | assumption | omega))
     | (apply H.Bp; exact rfl; (first | assumption | omega))
     | (apply H.Br; exact rfl; (first | assumption | omega))
     | ((first | apply H.gtrue); (iterate 3 exact rfl); assumption)
     | (apply H.gfalse; (iterate 3 exact rfl); assumption)
     | (apply H.cond_t; exact rfl; assumption)
     | (apply H.cond_f; exact rfl; assumption))
   refine H.pf (x := row ob _ _) ?_
   refine H.sub (L' := [(15, .bool vb.isSome), (14, .int .i64 (vb.getD 0)), (12, .bool cb), (11, .bool va.isSome), (10, .int .i64 (va.getD 0)), (9, .pointer (some ⟨ob, 0, none⟩)), (8, .int .i64 (i : Int)), (6, .pointer (some ⟨pb, 0, none⟩)), (5, .pointer (some ⟨wb, 0, none⟩))]) ⟨rfl, rfl, rfl, rfl, rfl, rfl, rfl, rfl, rfl, trivial⟩ ?_
   clear hv1 hv2 htk
   cases cb with
   | false =>
    have hno := hvr.2 (fun h => by cases h.1)
    clear hvr
    cases va with
    | some k =>
     obtain rfl := hno _ rfl
     obtain ⟨hvs, hk0, hkl, hkm⟩ := hlv _ rfl
     obtain ⟨w, rfl⟩ : ∃ w, vo = some w := Option.isSome_iff_exists.1 hvs
     show H _ _ _ [(15, .bool true), (14, .int .i64 (k)), (12, .bool false), (11, .bool true), (10, .int .i64 (k)), (9, _), (8, _), (6, _), (5, _)] f2 _ _
     clear hlv hvs
     refine gZ ?_
     refine H.pf (x := plogH _ pb _) ?_
     refine H.Ay rfl rfl rfl (hlog _) fun v f' A' hR => ?_
     obtain ⟨p2, c2, rfl, hff, rfl⟩ := hR
     rw [hff]
     clear hff
     refine gK ?_
     refine H.pd (x := slc p2 _ c2 _ _ _) ?_
     refine H.pd (x := row ob _ _) ?_
     refine H.pf (x := plogH _ pb _) ?_
     exact H.Aj (i + 1) (by show i + 1 ≤ W.all.length; omega) (by show W.all.length - (i + 1) < W.all.length - i; omega) ⟨rfl, rfl, rfl, trivial⟩ rfl rfl
    | none =>
     clear hno
     cases vb with
     | none =>
      show H _ _ _ [(15, .bool false), (14, .int .i64 (0)), (12, .bool false), (11, .bool false), (10, .int .i64 (0)), (9, _), (8, _), (6, _), (5, _)] f2 _ _
      clear hlv
      refine ga ?_
      refine H.pf (x := plogH _ pb _) ?_
      refine H.Ay rfl rfl rfl (hlog _) fun v f' A' hR => ?_
      obtain ⟨p2, c2, rfl, hff, rfl⟩ := hR
      rw [hff]
      clear hff
      refine gV ?_
      refine H.pd (x := slc p2 _ c2 _ _ _) ?_
      refine H.pd (x := row ob _ _) ?_
      refine H.pf (x := plogH _ pb _) ?_
      exact H.Aj (i + 1) (by show i + 1 ≤ W.all.length; omega) (by show W.all.length - (i + 1) < W.all.length - i; omega) ⟨rfl, rfl, rfl, trivial⟩ rfl rfl
     | some k =>
      obtain ⟨hvs, hk0, hkl, hkm⟩ := hlv _ rfl
      obtain ⟨w, rfl⟩ : ∃ w, vo = some w := Option.isSome_iff_exists.1 hvs
      show H _ _ _ [(15, .bool true), (14, .int .i64 (k)), (12, .bool false), (11, .bool false), (10, .int .i64 (0)), (9, _), (8, _), (6, _), (5, _)] f2 _ _
      clear hlv hvs
      refine ga ?_
      refine H.pf (x := plogH _ pb _) ?_
      refine H.Ay rfl rfl rfl (hlog _) fun v f' A' hR => ?_
      obtain ⟨p2, c2, rfl, hff, rfl⟩ := hR
      rw [hff]
      clear hff
      refine gK ?_
      refine H.pd (x := slc p2 _ c2 _ _ _) ?_
      refine H.pd (x := row ob _ _) ?_
      refine H.pf (x := plogH _ pb _) ?_
      exact H.Aj (i + 1) (by show i + 1 ≤ W.all.length; omega) (by show W.all.length - (i + 1) < W.all.length - i; omega) ⟨rfl, rfl, rfl, trivial⟩ rfl rfl
   | true =>
    by_cases k2 : y.m.body.kind = 2
    ·have hkn : y.m.body.kind.toNat = 2 := by rw [k2]; rfl
     obtain ⟨k, rfl, rfl, hk⟩ := hvr.1 ⟨rfl, .inr k2⟩
     have hk := hk k2
     clear hvr
     obtain ⟨hvs, hk0, hkl, hkm⟩ := hlv _ rfl
     obtain ⟨w, rfl⟩ : ∃ w, vo = some w := Option.isSome_iff_exists.1 hvs
     show H _ _ _ [(15, .bool true), (14, .int .i64 (k + 1)), (12, .bool true), (11, .bool true), (10, .int .i64 (k)), (9, _), (8, _), (6, _), (5, _)] f2 _ _
     clear hlv hvs
     refine gZ ?_
     refine H.pf (x := plogH _ pb _) ?_
     refine H.Ay rfl rfl rfl (hlog _) fun v f' A' hR => ?_
     obtain ⟨p2, c2, rfl, hff, rfl⟩ := hR
     rw [hff]
     clear hff
     refine gK ?_
     refine H.pd (x := slc p2 _ c2 _ _ _) ?_
     refine H.pd (x := row ob _ _) ?_
     refine H.pf (x := plogH _ pb _) ?_
     exact H.Aj (i + 1) (by show i + 1 ≤ W.all.length; omega) (by show W.all.length - (i + 1) < W.all.length - i; omega) ⟨rfl, rfl, rfl, trivial⟩ rfl rfl
    ·by_cases k1 : y.m.body.kind = 1
     ·have hkn : y.m.body.kind.toNat = 1 := by rw [k1]; rfl
      obtain ⟨k, rfl, rfl, hk⟩ := hvr.1 ⟨rfl, .inl k1⟩
      clear hvr hk
      obtain ⟨hvs, hk0, hkl, hkm⟩ := hlv _ rfl
      obtain ⟨w, rfl⟩ : ∃ w, vo = some w := Option.isSome_iff_exists.1 hvs
      show H _ _ _ [(15, .bool true), (14, .int .i64 (k + 1)), (12, .bool true), (11, .bool true), (10, .int .i64 (k)), (9, _), (8, _), (6, _), (5, _)] f2 _ _
      clear hlv hvs
      repeat (first | (refine H.not (b := decide (((y.m.body.kind.toNat : Nat) : Int) = 1)) (c := false) rfl rfl (by rw [decide_eq_true (show ((y.m.body.kind.toNat : Nat) : Int) = 1 by omega)]; rfl) rfl ?_) | ((first | apply H.Ag | apply H.Ak); (iterate 3 exact rfl)) | (apply H.Ap; (iterate 3 exact rfl); exact inferInstance; exact rfl) | (apply H.Ae; (iterate 3 exact rfl); apply Rd1.ofRow; (repeat (exact .here _ _ _)); (iterate 2 exact rfl)) | (first | apply H.seq | apply H.Al | apply H.nil | apply H.Am) | ((apply H.cmp); (iterate 5 exact rfl)) | ((apply H.ar; (iterate 4 exact rfl)); (with_reducible apply wr_i64; omega); exact rfl) | (apply H.Bi; (iterate 2 exact rfl)) | (apply H.Bg; (iterate 4 exact rfl)) | ((first | apply H.Az | apply H.not); (iterate 4 exact rfl)) | (apply H.Cc; exact rfl) | (apply H.Bf) | (apply H.Bl; (iterate 3 exact rfl); (omega)) | (apply H.gno; (iterate 3 exact rfl); (omega)))
      refine H.pf (x := plogH _ pb _) ?_
      refine H.Ay rfl rfl rfl (hlog _) fun v f' A' hR => ?_
      obtain ⟨p2, c2, rfl, hff, rfl⟩ := hR
      rw [hff]
      clear hff
      refine gK ?_
      refine H.pd (x := slc p2 _ c2 _ _ _) ?_
      refine H.pd (x := row ob _ _) ?_
      refine H.pf (x := plogH _ pb _) ?_
      exact H.Aj (i + 1) (by show i + 1 ≤ W.all.length; omega) (by show W.all.length - (i + 1) < W.all.length - i; omega) ⟨rfl, rfl, rfl, trivial⟩ rfl rfl
     ·have n1 := u8_ne (n := 1) (by decide) k1
      have n2 := u8_ne (n := 2) (by decide) k2
      have hno := hvr.2 (fun h => by rcases h.2 with h | h; exact k1 h; exact k2 h)
      clear hvr k1 k2
      cases va with
      | some k =>
       obtain rfl := hno _ rfl
       obtain ⟨hvs, hk0, hkl, hkm⟩ := hlv _ rfl
       obtain ⟨w, rfl⟩ : ∃ w, vo = some w := Option.isSome_iff_exists.1 hvs
       show H _ _ _ [(15, .bool true), (14, .int .i64 (k)), (12, .bool true), (11, .bool true), (10, .int .i64 (k)), (9, _), (8, _), (6, _), (5, _)] f2 _ _
       clear hlv hvs
       repeat (first | (refine H.not (b := decide (((y.m.body.kind.toNat : Nat) : Int) = 1)) (c := true) rfl rfl (by rw [decide_eq_false (show ¬ ((y.m.body.kind.toNat : Nat) : Int) = 1 by omega)]; rfl) rfl ?_) | ((first | apply H.Ag | apply H.Ak); (iterate 3 exact rfl)) | (apply H.Ap; (iterate 3 exact rfl); exact inferInstance; exact rfl) | (apply H.Ae; (iterate 3 exact rfl); apply Rd1.ofRow; (repeat (exact .here _ _ _)); (iterate 2 exact rfl)) | (first | apply H.seq | apply H.Al | apply H.nil | apply H.Am) | ((apply H.cmp); (iterate 5 exact rfl)) | (apply H.Bi; (iterate 2 exact rfl)) | (apply H.Bg; (iterate 4 exact rfl)) | ((first | apply H.Az | apply H.not); (iterate 4 exact rfl)) | (apply H.Cc; exact rfl) | (apply H.Bf) | (apply H.gno; (iterate 3 exact rfl); (omega)) | (apply H.Br; exact rfl; (omega)))
       refine H.pf (x := plogH _ pb _) ?_
       refine H.Ay rfl rfl rfl (hlog _) fun v f' A' hR => ?_
       obtain ⟨p2, c2, rfl, hff, rfl⟩ := hR
       rw [hff]
       clear hff
       refine gK ?_
       refine H.pd (x := slc p2 _ c2 _ _ _) ?_
       refine H.pd (x := row ob _ _) ?_
       refine H.pf (x := plogH _ pb _) ?_
       exact H.Aj (i + 1) (by show i + 1 ≤ W.all.length; omega) (by show W.all.length - (i + 1) < W.all.length - i; omega) ⟨rfl, rfl, rfl, trivial⟩ rfl rfl
      | none =>
       clear hno
       cases vb with
       | none =>
        show H _ _ _ [(15, .bool false), (14, .int .i64 (0)), (12, .bool true), (11, .bool false), (10, .int .i64 (0)), (9, _), (8, _), (6, _), (5, _)] f2 _ _
        clear hlv
        repeat (first | (refine H.not (b := decide (((y.m.body.kind.toNat : Nat) : Int) = 1)) (c := true) rfl rfl (by rw [decide_eq_false (show ¬ ((y.m.body.kind.toNat : Nat) : Int) = 1 by omega)]; rfl) rfl ?_) | ((first | apply H.Ag | apply H.Ak); (iterate 3 exact rfl)) | (apply H.Ap; (iterate 3 exact rfl); exact inferInstance; exact rfl) | (apply H.Ae; (iterate 3 exact rfl); apply Rd1.ofRow; (repeat (exact .here _ _ _)); (iterate 2 exact rfl)) | (first | apply H.seq | apply H.Al | apply H.nil | apply H.Am) | ((apply H.cmp); (iterate 5 exact rfl)) | (apply H.Bi; (iterate 2 exact rfl)) | (apply H.Bg; (iterate 4 exact rfl)) | ((apply H.Az); (iterate 4 exact rfl)) | (apply H.Cc; exact rfl) | (apply H.Bf) | (apply H.gno; (iterate 3 exact rfl); (omega)))
        refine H.pf (x := plogH _ pb _) ?_
        refine H.Ay rfl rfl rfl (hlog _) fun v f' A' hR => ?_
        obtain ⟨p2, c2, rfl, hff, rfl⟩ := hR
        rw [hff]
        clear hff
        refine gV ?_
        refine H.pd (x := slc p2 _ c2 _ _ _) ?_
        refine H.pd (x := row ob _ _) ?_
        refine H.pf (x := plogH _ pb _) ?_
        exact H.Aj (i + 1) (by show i + 1 ≤ W.all.length; omega) (by show W.all.length - (i + 1) < W.all.length - i; omega) ⟨rfl, rfl, rfl, trivial⟩ rfl rfl
       | some k =>
        obtain ⟨hvs, hk0, hkl, hkm⟩ := hlv _ rfl
        obtain ⟨w, rfl⟩ : ∃ w, vo = some w := Option.isSome_iff_exists.1 hvs
        show H _ _ _ [(15, .bool true), (14, .int .i64 (k)), (12, .bool true), (11, .bool false), (10, .int .i64 (0)), (9, _), (8, _), (6, _), (5, _)] f2 _ _
        clear hlv hvs
        repeat (first | (refine H.not (b := decide (((y.m.body.kind.toNat : Nat) : Int) = 1)) (c := true) rfl rfl (by rw [decide_eq_false (show ¬ ((y.m.body.kind.toNat : Nat) : Int) = 1 by omega)]; rfl) rfl ?_) | ((first | apply H.Ag | apply H.Ak); (iterate 3 exact rfl)) | (apply H.Ap; (iterate 3 exact rfl); exact inferInstance; exact rfl) | (apply H.Ae; (iterate 3 exact rfl); apply Rd1.ofRow; (repeat (exact .here _ _ _)); (iterate 2 exact rfl)) | (first | apply H.seq | apply H.Al | apply H.nil | apply H.Am) | ((apply H.cmp); (iterate 5 exact rfl)) | (apply H.Bi; (iterate 2 exact rfl)) | (apply H.Bg; (iterate 4 exact rfl)) | ((apply H.Az); (iterate 4 exact rfl)) | (apply H.Cc; exact rfl) | (apply H.Bf) | (apply H.gno; (iterate 3 exact rfl); (omega)))
        refine H.pf (x := plogH _ pb _) ?_
        refine H.Ay rfl rfl rfl (hlog _) fun v f' A' hR => ?_
        obtain ⟨p2, c2, rfl, hff, rfl⟩ := hR
        rw [hff]
        clear hff
        refine gK ?_
        refine H.pd (x := slc p2 _ c2 _ _ _) ?_
        refine H.pd (x := row ob _ _) ?_
        refine H.pf (x := plogH _ pb _) ?_
        exact H.Aj (i + 1) (by show i + 1 ≤ W.all.length; omega) (by show W.all.length - (i + 1) < W.all.length - i; omega) ⟨rfl, rfl, rfl, trivial⟩ rfl rfl
  ·have e : i = W.all.length := by omega
   refine gP ?_
   refine H.Ad rfl rfl rfl (works15_fn f2 _ (tab_mono hta le2)) ?_
   refine gY ?_
   refine H.pd (x := plogH _ pb _) ?_
   refine H.pd (x := row wb _ _) ?_
   refine H.weakL le12 ?_
   exact H.rt ⟨rfl, rfl, rfl⟩
end
end Go.Proofs.YtgdhaledfjnfgaaGreatDoor

namespace Go.Proofs.YtgdhaledfjnfgaaGreatDoor
open Go Go.ChangeShapes Go.WideShapes Go.RowKit Go.Deep
theorem Tryz.own : ownKnob Tryz.prog.godebug = none := by kernel_rfl
theorem Tryz.laidOut : laidOutB Tryz.prog = true := by kernel_rfl
abbrev laidL : List (String × DataW Unit) := [("ratchet/sha.table", Rows.laid_ratchet_sha_table)]
theorem door_met (os : Os) (args : Array Value) : laidMetH Tryz.prog laidL ((World.doorLaid Tryz.prog 400 os).forCall (fun _ _ => 0) ⟨#[], args, []⟩).memory :=
 laidMetH_of_parts3 (fuel := 8) (laidMet_of_run' 8 (by kernel_rfl) (by kernel_rfl)) (by kernel_rfl) (by kernel_rfl)
theorem tab_eq : (Rows.laid_ratchet_sha_table : DataW Unit) = .agg ((Sha.k.map fun x => ((x.toNat : Nat) : Int)).map fun z => .lit (.int .u32 z)) := by kernel_rfl
theorem tab_of {W : World} (h : laidMetH Tryz.prog laidL W) : TabAt (memOf W) := by
 have h2 : laidMetH Tryz.prog [("ratchet/sha.table", .agg ((Sha.k.map fun x => ((x.toNat : Nat) : Int)).map fun z => .lit (.int .u32 z)))] W := by rw [← tab_eq]; exact h
 exact laid_ints h2 (by kernel_rfl) (by kernel_rfl) (t := 250) (e := 223) Tryz.underlying250 Tryz.underlying223 (by kernel_rfl)
end Go.Proofs.YtgdhaledfjnfgaaGreatDoor
