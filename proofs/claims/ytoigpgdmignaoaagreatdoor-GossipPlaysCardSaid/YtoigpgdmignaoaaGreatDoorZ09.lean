/- Parts of the proof, one behind the other, each under its own heading. No conditions. -/
import Derived.Test.YtoigpgdmignaoaaGreatDoorZ08
import Derived.Test.YtoigpgdmignaoaaGreatDoorRows
import Derived.Test.YtoigpgdmignaoaaGreatDoorCards
import Derived.Test.YtoigpgdmignaoaaGreatDoorTie
set_option linter.unusedSectionVars false
set_option linter.unusedSimpArgs false
set_option linter.unusedVariables false
/- Layer 18: GossipPlays. Condition: the table of the standard stands in the fragment. -/
namespace Go.Proofs.YtoigpgdmignaoaaGreatDoor
open Go Go.ChangeShapes Go.WideShapes Go.RowKit Go.Deep
structure S18 where
 j : Int
 v : Nat → Int
def S18.vals (s : S18) : List Value := .int .i64 s.j :: v11 s.v
theorem reads_s18 {W : World} {cs : List Value} (h : Reads Tryz.prog W 104 cs) : ∃ x : S18, cs = x.vals := by
 obtain ⟨ps, rfl, hh⟩ := h.parts Tryz.underlying104 (by kernel_rfl)
 have h : AllReads Tryz.prog W [3, 37] ps := hh
 obtain ⟨p0, q0, rfl, r0, h⟩ := h.cons
 obtain ⟨p1, q1, rfl, r1, h⟩ := h.cons
 obtain rfl := h.nil
 obtain ⟨z, rfl, _⟩ := r0.int Tryz.underlying3
 obtain ⟨d, rfl⟩ := reads_vec r1
 exact ⟨⟨z, d⟩, rfl⟩
theorem ArgOk.steps18 {W : World} {v : Value} (h : ArgOk Tryz.prog W 87 v) : ∃ (p : Option Addr) (c : Nat) (xs : List S18), v = .slice p xs.length c ∧ xs.length ≤ 9223372036854775807 ∧ ListAt (memOf W) p 12 S18.vals xs := by
  obtain ⟨p, c, xs, rfl, h1, h2, _, hat⟩ := h.list (sz := 12) (Q := fun _ => True) Tryz.underlying87 (by kernel_rfl) (by decide) fun cs h => by
    obtain ⟨x, e⟩ := reads_s18 h
    exact ⟨x, trivial, e⟩
  exact ⟨p, c, xs, rfl, by have : maxLen ≤ 9223372036854775807 := by decide
                           omega, hat⟩
theorem kRow_splice (m : Nat) (vv : Nat → Nat → Int) (v : Nat → Int) {i : Nat} (hi : i < m) : splice (kRow m vv) (0 + i * 11) (v11 v) = kRow m (updF vv i v) := by
 have hl := zbe m vv
 have hl2 := zbe m (updF vv i v)
 have hv : (v11 v).length = 11 := rfl
 have him : i * 11 + 11 ≤ m * 11 := by omega
 have ht : ((kRow m vv).take (0 + i * 11)).length = i * 11 := by rw [List.length_take]; omega
 apply List.ext_getElem?
 intro j
 unfold splice
 by_cases h1 : j < i * 11
 ·rw [List.append_assoc, List.getElem?_append_left (by omega), List.getElem?_take_of_lt (by omega)]
  rw [zbg (by omega), zbg (by omega), zal _ _ (by omega)]
 ·by_cases h2 : j < i * 11 + 11
  ·rw [List.append_assoc, List.getElem?_append_right (by omega), ht, List.getElem?_append_left (by omega), zam v (show j - i * 11 < 11 by omega)]
   rw [zbg (by omega), show j / 11 = i by omega, zah, show j % 11 = j - i * 11 by omega]
  ·rw [List.getElem?_append_right (by rw [List.length_append]; omega), List.length_append, ht, hv, List.getElem?_drop]
   rw [show 0 + i * 11 + 11 + (j - (i * 11 + 11)) = j by omega]
   by_cases h3 : j < m * 11
   ·rw [zbg (by omega), zbg (by omega), zal _ _ (by omega)]
   ·rw [List.getElem?_eq_none (by omega), List.getElem?_eq_none (by omega)]
section
variable (f : Frag) (F : List HP)
set_option maxRecDepth 20000 in
set_option maxHeartbeats 3200000 in
theorem plays18_fn (htab : TabAt f) {n8 : UInt8} {p : Option Addr} {c : Nat} {xs : List A15} (hat : ListAt f p 12 A15.vals xs) (hh : ∀ x ∈ xs, x.Has f) (hxl : xs.length ≤ 9223372036854775807)
  {tp : Option Addr} {tc : Nat} {ss : List S18} (hst : ListAt f tp 12 S18.vals ss) (hsl : ss.length ≤ 9223372036854775807) (j most : Int) :
  Fn Tryz.prog 12 [.int .u8 (n8.toNat : Nat), .slice p xs.length c, .slice tp ss.length tc, .int .i64 j, .int .i64 most] f F (Ret (.bool true) f F) := by
 have hfew := few15_fn f F (c := c) hat hxl
 cases hf : few15 xs with
 | false =>
  rw [hf] at hfew
  refine Fn.enter Tryz.func12 rfl Tryz.ntmps12 rfl (L := [(0, _), (1, _), (2, _), (3, _), (4, _)]) ⟨rfl, rfl, rfl, rfl, rfl, trivial⟩ fun base => ?_
  refine gO ?_
  refine H.Ad rfl rfl rfl hfew ?_
  refine H.not (b := _) (c := _) rfl rfl rfl rfl ?_
  refine ga ?_
  refine H.Ad rfl rfl rfl (works18_fn f _) ?_
  refine gf ?_
  exact H.Ac rfl rfl (fun _ h => h) ⟨rfl, rfl, rfl⟩
 | true =>
  rw [hf] at hfew
  obtain ⟨hl100, hq20⟩ := few15_all hf
  by_cases h60 : xs.length ≤ 80
  ·by_cases hs100 : ss.length ≤ 100
   ·obtain ⟨n, hn8⟩ : ∃ n, n = 3 + 2 * (n8.toNat % 5) := ⟨_, rfl⟩
    have hn3 : 3 ≤ n ∧ n ≤ 11 := by omega
    have hacts := fun G => acts15_fn f G hn8 (c := c) hat (fun x hx => ⟨hh x hx, hq20 x hx⟩) hl100
    have hinv : WOK n (world15 n xs).w.all := by have := (world15_inv hn3.1 hn3.2 xs xs.length (by omega)).w.ok; rwa [List.take_length] at this
    have hwl : (world15 n xs).w.all.length ≤ 80 := by have := world15_len n xs xs.length; rw [List.take_length] at this; omega
    generalize world15 n xs = W at *
    refine Fn.enter Tryz.func12 rfl Tryz.ntmps12 rfl (L := [(0, _), (1, _), (2, _), (3, _), (4, _)]) ⟨rfl, rfl, rfl, rfl, rfl, trivial⟩ fun base => ?_
    refine gO ?_
    refine H.Ad rfl rfl rfl hfew ?_
    refine H.not (b := _) (c := _) rfl rfl rfl rfl ?_
    refine gZ ?_
    refine H.Bo rfl rfl rfl (hacts _) fun v f' A' hr => ?_
    obtain ⟨g, wb, rfl, hd, rfl, rfl⟩ := hr
    have le0 := Le.un f g
    generalize un f g = f0 at *
    refine H.world15 fun g1 kb ap ac lb l hd1 hwat => ?_
    have le1 := le0.trans (Le.un f0 g1)
    generalize un f0 g1 = f1 at *
    have hlm := hwat.m
    have hll : l.length = W.w.all.length := by rw [← hlm, List.length_map]
    clear hacts hfew
    refine gY ?_
    refine H.callE rfl rfl rfl (gnew_fn f1 _ (fewz_odd hn8)) fun pb => ?_
    refine gc ?_
    refine H.callE rfl rfl rfl (lnew_fn f1 _ (fewz_odd hn8)) fun la => ?_
    repeat (first | (refine H.Bc (t := 100) (out := peC n fun _ _ => 0) rfl rfl rfl (by kernel_rfl) rfl ?_) | ((first | apply H.Aj | apply H.Ap | apply H.Be | apply H.Bm); (iterate 3 exact rfl)) | (apply H.Av; (iterate 3 exact rfl); exact inferInstance; exact rfl) | (apply H.Af; (iterate 3 exact rfl); apply Rd1.ofRow; (repeat (first | exact .here _ _ _ | apply At.there)); (iterate 2 exact rfl)) | (first | apply H.seq | apply H.Aq | apply H.nil | apply H.Ao) | ((apply H.extract); (iterate 4 exact rfl)))
    refine H.box (ls := peC n fun _ _ => 0) rfl rfl rfl rfl fun qb => ?_
    refine gY ?_
    refine H.callE rfl rfl rfl (rlnew_fn f1 _ (fewz_odd hn8)) fun rb => ?_
    refine ga ?_
    refine H.Aa (x := row wb _ _) (by repeat constructor) ?_
    refine H.Aa (x := row qb _ _) (by repeat constructor) ?_
    refine H.Aa (x := row pb _ _) (by repeat constructor) ?_
    refine H.Aa (x := refL _ rb _ _) (by repeat constructor) ?_
    refine H.Aa (x := loreH _ la _ _) (by repeat constructor) ?_
    refine H.Ax (ι := Nat × Frag × List MV × List MV) (fun s => [(19, .int .i64 (s.1 : Int)), (11, .pointer (some ⟨wb, 0, none⟩)), (12, .pointer (some ⟨pb, 0, none⟩)), (14, .pointer (some ⟨la, 0, none⟩)), (16, .pointer (some ⟨qb, 0, none⟩)), (17, .pointer (some ⟨rb, 0, none⟩)), (2, .slice tp ss.length tc), (3, .int .i64 j), (4, .int .i64 most)]) (fun s => s.2.1)
     (fun s => loreH s.2.1 la n s.2.2.1 :: refL s.2.1 rb n s.2.2.2 :: row pb 148 (peC n fun _ _ => 0) :: row qb 100 (peC n fun _ _ => 0) :: row wb 96 (w15C kb n ap l.length ac lb) :: F)
     (fun s => s.1 ≤ l.length ∧ Le f1 s.2.1 ∧ s.2.2.1.map MV.m = W.w.all.take s.1 ∧ s.2.2.2.map MV.m = W.w.all.take s.1) (fun s => l.length - s.1)
     (0, f1, [], []) ⟨Nat.zero_le _, Le.refl f1, rfl, rfl⟩ ⟨rfl, rfl, rfl, rfl, rfl, rfl, rfl, rfl, rfl, trivial⟩ rfl rfl fun s hs => ?_
    obtain ⟨i, e, LA, LB⟩ := s
    obtain ⟨hi, hle, hA, hB⟩ : i ≤ l.length ∧ Le f1 e ∧ LA.map MV.m = W.w.all.take i ∧ LB.map MV.m = W.w.all.take i := hs
    show H _ _ _ [(19, .int .i64 (i : Int)), _, _, _, _, _, _, _, _] e (loreH e la n LA :: refL e rb n LB :: row pb _ _ :: row qb _ _ :: row wb _ _ :: F) _
    have hAl : LA.length ≤ i := by
     have := congrArg List.length hA
     rw [List.length_map, List.length_take] at this
     omega
    have hBl : LB.length ≤ i := by
     have := congrArg List.length hB
     rw [List.length_map, List.length_take] at this
     omega
    by_cases hlt : i < l.length
    ·obtain ⟨b, off, rfl, rdA⟩ := hwat.a.all MV.len (by decide) (by omega)
     obtain ⟨y, hy⟩ : ∃ y, l[i]? = some y := ⟨_, List.getElem?_eq_getElem hlt⟩
     have hym : W.w.all[i]? = some y.m := by rw [← hlm, List.getElem?_map, hy]; rfl
     have hyg := hwat.g y (List.mem_of_getElem? hy)
     have hca : chk n (strm (LA.map MV.m)) y.m = 0 := by rw [hA]; exact hinv.next hym
     have hcb : chk n (strm (LB.map MV.m)) y.m = 0 := by rw [hB]; exact hinv.next hym
     have hpos : Pos y.m := fun i hi => ((hinv _ y.m hym).dep i hi).1
     have hnx : W.w.all.take (i + 1) = W.w.all.take i ++ [y.m] := zbm hym
     refine gR ?_
     refine H.Ar (i := i) rfl rfl rfl rfl hlt rfl ?_
     refine H.Ah (ls := y.vals) rfl rfl rfl (rdA _ _ _ _ hle hy) rfl rfl ?_
     refine H.Bo (R := AddP e _ la n LA y.m) rfl rfl rfl (ladd_fn e _ (tab_mono htab (le1.trans hle)) (Le.refl e) (hyg.mono hle) (by omega)) fun v f' A' hr => ?_
     obtain ⟨g2, q2, c2, rfl, hd2, rfl, rfl⟩ := hr
     rw [hca, if_pos rfl]
     have hle2 := hle.trans (Le.un e g2)
     have hup := Le.un e g2
     generalize un e g2 = e2 at hle2 hup ⊢
     have hA2 : (LA ++ [(⟨y.m, q2, c2⟩ : MV)]).map MV.m = W.w.all.take (i + 1) := by rw [List.map_append, hA, hnx]; rfl
     generalize LA ++ [(⟨y.m, q2, c2⟩ : MV)] = LA2 at hA2 ⊢
     refine H.Aa (x := refL _ rb _ _) (by repeat constructor) ?_
     refine H.imp (ref_up hup) ?_
     have hradd : ∀ G, Fn Tryz.prog 27 [.pointer (some ⟨rb, 0, none⟩), .agg y.vals.toArray] e2 (refL e2 rb n LB :: G) (Ret (.int .i64 0) e2 (refL e2 rb n (LB ++ [y]) :: G)) := fun G => by
      have h := rladd_fn e2 G (Le.refl e2) (rb := rb) (n := n) (l := LB) (hyg.mono hle2) hpos (by omega)
      rw [hcb, if_pos rfl] at h
      exact h
     have hB2 : (LB ++ [y]).map MV.m = W.w.all.take (i + 1) := by rw [List.map_append, hB, hnx]; rfl
     refine gc ?_
     refine H.Ar (i := i) rfl rfl rfl rfl hlt rfl ?_
     refine H.Ah (ls := y.vals) rfl rfl rfl (rdA _ _ _ _ hle2 hy) rfl rfl ?_
     refine H.Ad rfl rfl rfl (hradd _) ?_
     refine gI ?_
     refine H.Aa (x := loreH _ la _ _) (by repeat constructor) ?_
     exact H.Am (i + 1, e2, LA2, LB ++ [y]) ⟨by show i + 1 ≤ l.length; omega, hle2, hA2, hB2⟩ (by show l.length - (i + 1) < l.length - i; omega) ⟨rfl, rfl, rfl, rfl, rfl, rfl, rfl, rfl, rfl, trivial⟩ rfl rfl
    ·have hil : i = W.w.all.length := by omega
     rw [hil, List.take_length] at hA hB
     rw [hil] at hAl hBl
     have hfe := le1.trans hle
     refine gR ?_
     refine H.Au (ls := kRow 12 fun _ _ => 0) rfl rfl (by kernel_rfl) fun ob => ?_
     refine gf ?_
     refine H.Aa (x := row qb _ _) (by repeat constructor) ?_
     refine H.Aa (x := row pb _ _) (by repeat constructor) ?_
     refine H.Ax (ι := Nat × (Nat → Nat → Int) × (Nat → Nat → Int)) (fun s => [(21, .int .i64 (s.1 : Int)), (20, .pointer (some ⟨ob, 0, none⟩)), (11, .pointer (some ⟨wb, 0, none⟩)), (12, .pointer (some ⟨pb, 0, none⟩)), (14, .pointer (some ⟨la, 0, none⟩)), (16, .pointer (some ⟨qb, 0, none⟩)), (17, .pointer (some ⟨rb, 0, none⟩)), (2, .slice tp ss.length tc), (3, .int .i64 j), (4, .int .i64 most)]) (fun _ => e)
      (fun s => row pb 148 (peC n s.2.1) :: row qb 100 (peC n s.2.1) :: row ob 101 (kRow 12 s.2.2) :: loreH e la n LA :: refL e rb n LB :: row wb 96 (w15C kb n ap l.length ac lb) :: F)
      (fun s => s.1 ≤ ss.length ∧ ∀ t, t < n → s.2.2 (t + 1) = s.2.1 t) (fun s => ss.length - s.1)
      (0, (fun _ _ => 0), fun _ _ => 0) ⟨Nat.zero_le _, fun _ _ => rfl⟩ ⟨rfl, rfl, rfl, rfl, rfl, rfl, rfl, rfl, rfl, rfl, trivial⟩ rfl rfl fun s hs => ?_
     clear hi hlt hil i
     obtain ⟨i, vv, lv⟩ := s
     obtain ⟨hi, hlv⟩ : i ≤ ss.length ∧ ∀ t, t < n → lv (t + 1) = vv t := hs
     show H _ _ _ [(21, .int .i64 (i : Int)), _, _, _, _, _, _, _, _, _] e (row pb _ (peC n vv) :: row qb _ (peC n vv) :: row ob _ (kRow 12 lv) :: _ :: _ :: _ :: F) _
     by_cases hlt : i < ss.length
     ·obtain ⟨x, hx⟩ : ∃ x, ss[i]? = some x := ⟨_, List.getElem?_eq_getElem hlt⟩
      obtain ⟨b, off, cs, T, fr, rfl, hfb, hcs⟩ := hst i x hx
      have rd : ∀ A, Rd e A b (off + i * 12) x.vals := fun A => Rd.imm (hfe b _ hfb) hcs
      have rdv : ∀ A, Rd e A b (off + i * 12 + 1) (v11 x.v) := fun A => Rd.sub (pre := [.int .i64 x.j]) (post := []) (by rw [List.append_nil]; exact rd A) rfl
      clear hfb hcs
      refine gL ?_
      refine H.Az (by kernel_rfl) (by decide +kernel) (by repeat (first | exact zab | refine zaa ?_ | refine zac ?_ | refine zae ?_)) (S := []) rfl ?_
      refine HB.Ag [(0, false), (1, false), (2, false), (3, false), (4, false), (5, false), (6, false), (7, false), (8, false), (9, false), (10, false)] 2 (by kernel_rfl) ?_
      refine gD ?_
      refine HQ.Ar (i := i) rfl rfl rfl rfl hlt rfl ?_
      refine gE ?_
      refine HQ.Af rfl rfl rfl (Rd1.of (i := 0) (rd _) rfl) rfl ?_
      refine gD ?_
      refine HQ.Ar (i := i) rfl rfl rfl rfl hlt rfl ?_
      refine gE ?_
      refine HQ.Ah (ls := v11 x.v) rfl rfl rfl (rdv _) rfl rfl ?_
      refine HQ.Ae rfl ?_
      refine HB.ev1 (i := 11) (by kernel_rfl) rfl ?_
      refine H.Ad rfl rfl rfl (toldJ_fn e _ hn3.2 x.j x.v) ?_
      refine gC ?_
      refine H.on0 rfl ?_
      refine HB.Ag [(12, false)] 0 (by kernel_rfl) ?_
      refine gD ?_
      refine HQ.Ae rfl ?_
      refine HB.Al (by kernel_rfl) ?_
      refine gC ?_
      refine H.Az (by kernel_rfl) (by decide +kernel) (by repeat (first | exact zab | refine zaa ?_ | refine zac ?_ | refine zae ?_)) (S := []) rfl ?_
      refine HB.Ag [(0, false), (1, false), (2, false), (3, false), (4, false), (5, false), (6, false), (7, false), (8, false), (9, false), (10, false), (11, false)] 19 (by kernel_rfl) ?_
      refine gD ?_
      refine HQ.Ar (i := i) rfl rfl rfl rfl hlt rfl ?_
      refine gE ?_
      refine HQ.Af rfl rfl rfl (Rd1.of (i := 0) (rd _) rfl) rfl ?_
      refine gD ?_
      refine HQ.Ar (i := i) rfl rfl rfl rfl hlt rfl ?_
      refine gE ?_
      refine HQ.Ah (ls := v11 x.v) rfl rfl rfl (rdv _) rfl rfl ?_
      refine HQ.Ae rfl ?_
      refine HB.ev1 (i := 12) (by kernel_rfl) rfl ?_
      refine H.Aa (x := row qb _ _) (by repeat constructor) ?_
      refine H.Ad rfl rfl rfl (rtold_fn e _ hn3.2 x.j x.v) ?_
      generalize hz : tellE n x.j = z
      generalize hvv : tellV n vv x.j x.v = vv2
      generalize ho : ofV n vv2 x.j = o2
      refine gC ?_
      refine H.on0 rfl ?_
      refine HB.Ag [(13, false), (14, false), (15, false), (16, false), (17, false), (18, false), (19, false), (20, false), (22, false), (23, false), (24, false), (25, false), (26, false), (27, false)] 4 (by kernel_rfl) ?_
      refine ge ?_
      refine HQ.Ar (i := i) rfl rfl rfl rfl hlt rfl ?_
      refine gE ?_
      refine HQ.Af rfl rfl rfl (Rd1.of (i := 0) (rd _) rfl) rfl ?_
      refine gD ?_
      refine HQ.Ar (i := i) rfl rfl rfl rfl hlt rfl ?_
      refine gE ?_
      refine HQ.Af rfl rfl rfl (Rd1.of (i := 0) (rd _) rfl) rfl ?_
      refine HQ.Ae rfl ?_
      refine HB.ev1 (i := 21) (by kernel_rfl) rfl ?_
      refine H.Aa (x := row pb _ _) (by repeat constructor) ?_
      refine H.Ad rfl rfl rfl (by have h := fun G => ofJ_fn e G (pb := pb) (vv := vv2) hn3.2 x.j; rw [ho] at h; exact h _) ?_
      refine gC ?_
      refine H.on0 rfl ?_
      refine HB.ev1 (i := 28) (by kernel_rfl) rfl ?_
      refine H.Aa (x := row qb _ _) (by repeat constructor) ?_
      refine H.Ad rfl rfl rfl (by have h := fun G => rof18_fn e G (pb := qb) (vv := vv2) hn3.2 x.j; rw [ho] at h; exact h _) ?_
      refine gC ?_
      refine H.on0 rfl ?_
      refine HB.Ag [(29, false), (30, false)] 0 (by kernel_rfl) ?_
      refine HQ.aggNe (xs := v11 o2) (ys := v11 o2) (D := 4) (b := false) rfl rfl rfl rfl (by kernel_rfl) (by kernel_rfl) (by kernel_rfl) (by kernel_rfl) (by decide) (by rw [zbi (l := v11 o2) rfl]; rfl) rfl ?_
      refine gN ?_
      refine HQ.Ae rfl ?_
      refine HB.Al (by kernel_rfl) ?_
      refine gV ?_
      by_cases hj : 1 ≤ x.j ∧ x.j ≤ (n : Int)
      ·have hz0 : z = 0 := by rw [← hz]; exact if_pos hj
       obtain ⟨t, ht, e1, e2⟩ := idx18 hj
       have ht12 : t + 1 < 12 := by omega
       have hv2 : vv2 = updF vv t x.v := by rw [← hvv]; unfold tellV; rw [if_pos hj, e2]
       refine gJ ?_
       refine H.Az (by kernel_rfl) (by decide +kernel) (by repeat (first | exact zab | refine zaa ?_ | refine zac ?_ | refine zae ?_)) (S := []) rfl ?_
       refine HB.Ag [(0, false), (1, false), (2, false), (3, false), (4, false), (5, false), (6, false), (7, false), (8, false), (9, false), (10, false)] 1 (by kernel_rfl) ?_
       refine gD ?_
       refine HQ.Ar (i := i) rfl rfl rfl rfl hlt rfl ?_
       refine gE ?_
       refine HQ.Af rfl rfl rfl (Rd1.of (i := 0) (rd _) rfl) rfl ?_
       refine gD ?_
       refine HQ.Ar (i := i) rfl rfl rfl rfl hlt rfl ?_
       refine gE ?_
       refine HQ.Ah (ls := v11 x.v) rfl rfl rfl (rdv _) rfl rfl ?_
       refine HQ.Aw (i := t + 1) rfl rfl rfl e1 ht12 rfl ?_
       refine HQ.Ae rfl ?_
       refine HB.ev1 (i := 11) (by kernel_rfl) rfl ?_
       refine H.Aa (x := row ob _ _) (by repeat constructor) ?_
       refine H.Ak (ls := kRow 12 lv) (vs := v11 x.v) (ls' := kRow 12 (updF lv (t + 1) x.v)) rfl rfl rfl (zad rfl) rfl (kRow_splice 12 lv x.v ht12) (by rw [zbe]; show 0 + (t + 1) * 11 + 11 ≤ 132; omega) (.here _ _ _) ?_
       refine gC ?_
       refine H.on0 rfl ?_
       refine HB.Al (by kernel_rfl) ?_
       refine gI ?_
       refine H.Aa (x := row qb _ _) (by repeat constructor) ?_
       refine H.Aa (x := row pb _ _) (by repeat constructor) ?_
       exact H.Am (i + 1, vv2, updF lv (t + 1) x.v) ⟨by show i + 1 ≤ ss.length; omega, fun s hs => by
        show updF lv (t + 1) x.v (s + 1) = vv2 s
        rw [hv2]
        by_cases e : s = t
        ·subst e; rw [zah, zah]
        ·rw [zal _ _ (by omega), zal _ _ e]; exact hlv s hs⟩ (by show ss.length - (i + 1) < ss.length - i; omega) ⟨rfl, rfl, rfl, rfl, rfl, rfl, rfl, rfl, rfl, rfl, trivial⟩ rfl rfl
      ·have hz1 : z = 1 := by rw [← hz]; exact if_neg hj
       have hv2 : vv2 = vv := by rw [← hvv]; exact if_neg hj
       refine gT ?_
       refine H.Aa (x := row qb _ _) (by repeat constructor) ?_
       refine H.Aa (x := row pb _ _) (by repeat constructor) ?_
       exact H.Am (i + 1, vv2, lv) ⟨by show i + 1 ≤ ss.length; omega, by rw [hv2]; exact hlv⟩ (by show ss.length - (i + 1) < ss.length - i; omega) ⟨rfl, rfl, rfl, rfl, rfl, rfl, rfl, rfl, rfl, rfl, trivial⟩ rfl rfl
     ·refine gH ?_
      refine H.Aa (x := row ob _ _) (by repeat constructor) ?_
      refine H.Ax (ι := Nat) (fun t => [(23, .int .i64 (t : Int)), (20, .pointer (some ⟨ob, 0, none⟩)), (11, .pointer (some ⟨wb, 0, none⟩)), (12, .pointer (some ⟨pb, 0, none⟩)), (14, .pointer (some ⟨la, 0, none⟩)), (16, .pointer (some ⟨qb, 0, none⟩)), (17, .pointer (some ⟨rb, 0, none⟩)), (3, .int .i64 j), (4, .int .i64 most)]) (fun _ => e)
       (fun _ => row ob 101 (kRow 12 lv) :: row pb 148 (peC n vv) :: row qb 100 (peC n vv) :: loreH e la n LA :: refL e rb n LB :: row wb 96 (w15C kb n ap l.length ac lb) :: F)
       (fun t => 1 ≤ t ∧ t ≤ n + 1) (fun t => n + 1 - t) 1 ⟨Nat.le_refl 1, by omega⟩ ⟨rfl, rfl, rfl, rfl, rfl, rfl, rfl, rfl, rfl, trivial⟩ rfl rfl fun t ht => ?_
      obtain ⟨ht1, ht2⟩ : 1 ≤ t ∧ t ≤ n + 1 := ht
      by_cases htn : t ≤ n
      ·have ht12 : t < 12 := by omega
       have hof : ofV n vv (t : Int) = lv t := by
        unfold ofV
        rw [if_pos ⟨by omega, by omega⟩, show ((t : Int) - 1).toNat = t - 1 by omega, ← hlv (t - 1) (by omega), show t - 1 + 1 = t by omega]
       have hofn : ∀ G, Fn Tryz.prog 48 [.pointer (some ⟨pb, 0, none⟩), .int .i64 (t : Int)] e (row pb 148 (peC n vv) :: G) (Ret (.agg (v11 (lv t)).toArray) e (row pb 148 (peC n vv) :: G)) := fun G => by
        have h := ofJ_fn e G (pb := pb) (vv := vv) hn3.2 (t : Int)
        rw [hof] at h
        exact h
       clear hof
       refine gR ?_
       refine H.Az (by kernel_rfl) (by decide +kernel) (by repeat (first | exact zab | refine zaa ?_ | refine zac ?_ | refine zae ?_)) (S := [_]) rfl ?_
       refine HB.Ag [(0, false), (1, false), (3, false), (4, false), (5, false)] 2 (by kernel_rfl) ?_
       refine gD ?_
       refine HQ.Aw (i := t) rfl rfl rfl rfl ht12 rfl ?_
       refine HQ.Ah (ls := v11 (lv t)) rfl rfl rfl (by rw [Nat.zero_add]; exact Rd.kRow (Rd.ofRow (.here _ _ _)) ht12) rfl rfl ?_
       refine HQ.Ae rfl ?_
       refine HB.ev1 (i := 2) (by kernel_rfl) rfl ?_
       refine H.Aa (x := row pb _ _) (by repeat constructor) ?_
       refine H.Ad rfl rfl rfl (hofn _) ?_
       refine gC ?_
       refine H.Aa (x := row ob _ _) (by repeat constructor) ?_
       refine H.on0 rfl ?_
       refine HB.Ag [(6, false)] 0 (by kernel_rfl) ?_
       refine HQ.aggNe (xs := v11 (lv t)) (ys := v11 (lv t)) (D := 4) (b := false) rfl rfl rfl rfl (by kernel_rfl) (by kernel_rfl) (by kernel_rfl) (by kernel_rfl) (by decide) (by rw [zbi (l := v11 (lv t)) rfl]; rfl) rfl ?_
       refine HQ.Ae rfl ?_
       refine HB.Al (by kernel_rfl) ?_
       refine gV ?_
       exact H.Am (t + 1) ⟨by show 1 ≤ t + 1; omega, by show t + 1 ≤ n + 1; omega⟩ (by show n + 1 - (t + 1) < n + 1 - t; omega) ⟨rfl, rfl, rfl, rfl, rfl, rfl, rfl, rfl, rfl, trivial⟩ rfl rfl
      ·refine gR ?_
       refine H.Aa (x := refL _ _ _ _) (by repeat constructor) ?_
       refine H.unpack fun ri hri => ?_
       obtain ⟨rp2, rc2⟩ := ri
       have hlacks : ∀ G, Fn Tryz.prog 50 [.pointer (some ⟨pb, 0, none⟩), .int .i64 j, .pointer (some ⟨la, 0, none⟩), .int .i64 most] e (loreH e la n LA :: row pb 148 (peC n vv) :: G) (SinceP e (loreH e la n LA :: row pb 148 (peC n vv) :: G) (lacksV n vv j most W.w.all)) := fun G => by
        have h := lacksJ_fn e G (Le.refl e) (pb := pb) (lb := la) (m := n) (vv := vv) hn3.2 (l := LA) j most
        rw [hA] at h
        exact h
       have hrl := fun (f : Frag) (G : List HP) (h : Le e f) => rlacks_fn f G h hri (rb := rb) (p := rp2) (c := rc2) (pb := qb) (vv := vv) hn3.2 j most
       rw [hB] at hrl ⊢
       have hlv : (lacksV n vv j most W.w.all).length ≤ 80 := by
        unfold lacksV
        split
        ·unfold sinceM unk
         rw [List.length_take]
         exact Nat.le_trans (Nat.min_le_right _ _) (Nat.le_trans (List.length_filter_le _ _) hwl)
        ·exact Nat.zero_le _
       generalize lacksV n vv j most W.w.all = lk at hlacks hrl hlv
       refine H.Aa (x := row pb _ _) (by repeat constructor) ?_
       refine H.Aa (x := loreH _ _ _ _) (by repeat constructor) ?_
       refine H.Bo rfl rfl rfl (hlacks _) fun v f' A' hr => ?_
       obtain ⟨g1, p1, c1, R1, rfl, hR1, hR1g, hd1, rfl, rfl⟩ := hr
       refine H.freeze (.here _ _) fun h1 hh1 hj1 => ?_
       have hat1 : ListAt (un (un e g1) h1) p1 121 MV.vals R1 := (zbl MV.len hh1).mono (Le.right hj1)
       have hup1 := (Le.un e g1).trans (Le.un (un e g1) h1)
       have hg1 : ∀ y ∈ R1, y.Good (un (un e g1) h1) := fun y hy => (hR1g y hy).mono (Le.un (un e g1) h1)
       have hl1 : R1.length ≤ 1000000 := by
        have h1 := congrArg List.length hR1
        rw [List.length_map] at h1
        omega
       generalize un (un e g1) h1 = e1 at hat1 hup1 hg1 ⊢
       clear hR1g hj1 hd1
       refine gO ?_
       refine H.Aa (x := row qb _ _) (by repeat constructor) ?_
       refine H.Aa (x := slc rp2 _ rc2 _ _ _) (by repeat constructor) ?_
       refine H.Aa (x := row rb _ _) (by repeat constructor) ?_
       refine H.Bo rfl rfl rfl (hrl e1 _ hup1) fun v f' A' hr => ?_
       obtain ⟨p2, c2, R2, rfl, hR2, hR2g, hff, rfl⟩ := hr
       rw [hff]
       refine H.freeze (.here _ _) fun h2 hh2 hj2 => ?_
       refine H.Ad rfl rfl rfl (rsameL_fn (un e1 h2) _ (hat1.mono (Le.un e1 h2)) ((zbl MV.len hh2).mono (Le.right hj2)) (fun y hy => (hg1 y hy).mono (Le.un e1 h2)) (fun y hy => (hR2g y hy).mono (Le.un e1 h2)) (hR1.trans hR2.symm) hl1) ?_
       refine H.weakL ((hfe.trans hup1).trans (Le.un e1 h2)) ?_
       repeat (first | (refine H.buildA (t := 37) (out := v11 fun _ => 0) rfl rfl rfl (by kernel_rfl) rfl ?_) | ((apply H.Aj); (iterate 3 exact rfl)))
       refine H.Ad rfl rfl rfl (told_nil f _ 1 fun _ => 0) ?_
       refine gM ?_
       refine H.Ad rfl rfl rfl (of_nil f _ 1) ?_
       refine H.buildA (t := 37) (out := v11 fun _ => 0) rfl rfl rfl (by kernel_rfl) rfl ?_
       refine H.aggEq (xs := v11 fun _ => 0) (ys := v11 fun _ => 0) (D := 4) rfl rfl rfl rfl (by kernel_rfl) (by kernel_rfl) (by kernel_rfl) (by kernel_rfl) (by decide) (zbi rfl) rfl ?_
       refine gT ?_
       refine H.Ad rfl rfl rfl (lacks_nil f _ 1 5 _) ?_
       refine gM ?_
       refine H.Ad rfl rfl rfl (works18_fn f _) ?_
       refine gT ?_
       refine H.Ab (.here _ _) ?_
       refine H.Ab (.here _ _) ?_
       refine H.Ab (.here _ _) ?_
       refine H.Ab (.here _ _) ?_
       refine H.Ab (.here _ _) ?_
       refine H.Ab (.here _ _) ?_
       refine H.Ab (.here _ _) ?_
       exact H.Ac rfl rfl (fun _ h => h) ⟨rfl, rfl, rfl⟩
   ·have hs' : 100 < ss.length := by omega
    refine Fn.enter Tryz.func12 rfl Tryz.ntmps12 rfl (L := [(0, _), (1, _), (2, _), (3, _), (4, _)]) ⟨rfl, rfl, rfl, rfl, rfl, trivial⟩ fun base => ?_
    refine gO ?_
    refine H.Ad rfl rfl rfl hfew ?_
    refine H.not (b := _) (c := _) rfl rfl rfl rfl ?_
    refine gK ?_
    refine H.Ad rfl rfl rfl (works18_fn f _) ?_
    refine gf ?_
    exact H.Ac rfl rfl (fun _ h => h) ⟨rfl, rfl, rfl⟩
  ·have h60' : 80 < xs.length := by omega
   refine Fn.enter Tryz.func12 rfl Tryz.ntmps12 rfl (L := [(0, _), (1, _), (2, _), (3, _), (4, _)]) ⟨rfl, rfl, rfl, rfl, rfl, trivial⟩ fun base => ?_
   refine gO ?_
   refine H.Ad rfl rfl rfl hfew ?_
   refine H.not (b := _) (c := _) rfl rfl rfl rfl ?_
   refine ga ?_
   refine H.Ad rfl rfl rfl (works18_fn f _) ?_
   refine gf ?_
   exact H.Ac rfl rfl (fun _ h => h) ⟨rfl, rfl, rfl⟩
end
theorem Tryz.own : ownKnob Tryz.prog.godebug = none := by kernel_rfl
theorem Tryz.laidOut : laidOutB Tryz.prog = true := by kernel_rfl
abbrev laidL : List (String × DataW Unit) := [("ratchet/sha.table", Rows.laid_ratchet_sha_table)]
theorem door_met (os : Os) (args : Array Value) : laidMetH Tryz.prog laidL ((World.doorLaid Tryz.prog 400 os).forCall (fun _ _ => 0) ⟨#[], args, []⟩).memory :=
 laidMetH_of_parts3 (fuel := 8) (laidMet_of_run' 8 (by kernel_rfl) (by kernel_rfl)) (by kernel_rfl) (by kernel_rfl)
theorem tab_eq : (Rows.laid_ratchet_sha_table : DataW Unit) = .agg ((Sha.k.map fun x => ((x.toNat : Nat) : Int)).map fun z => .lit (.int .u32 z)) := by kernel_rfl
theorem tab_of {W : World} (h : laidMetH Tryz.prog laidL W) : TabAt (memOf W) := by
 have h2 : laidMetH Tryz.prog [("ratchet/sha.table", .agg ((Sha.k.map fun x => ((x.toNat : Nat) : Int)).map fun z => .lit (.int .u32 z)))] W := by rw [← tab_eq]; exact h
 exact laid_ints h2 (by kernel_rfl) (by kernel_rfl) (t := 252) (e := 222) Tryz.underlying252 Tryz.underlying222 (by kernel_rfl)
end Go.Proofs.YtoigpgdmignaoaaGreatDoor
