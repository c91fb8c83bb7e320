/- Parts of the proof, one behind the other, each under its own heading. No conditions. -/
import Derived.Test.YtgdhaledfjnfgaaGreatDoorZ09
import Derived.Test.YtgdhaledfjnfgaaGreatDoorRows
import Derived.Test.YtgdhaledfjnfgaaGreatDoorCards
import Derived.Test.YtgdhaledfjnfgaaGreatDoorTie
set_option linter.unusedSectionVars false
set_option linter.unusedSimpArgs false
set_option linter.unusedVariables false
/- Layer 15: the document's worlds: Do. No condition. -/
namespace Go.Proofs.YtgdhaledfjnfgaaGreatDoor
open Go
structure W15P where
 kb : Nat
 lb : Nat
 ap : Option Addr
 ac : Nat
 l : List MV
def w15φ (e : Frag) (W : W15) (i : W15P) : Prop := i.l.map MV.m = W.w.all ∧ ∀ y ∈ i.l, y.Good e
def w15B (e : Frag) (wb n : Nat) (W : W15) (i : W15P) : List HP := [row wb 37 (w15C i.kb n i.ap i.l.length i.ac i.lb), row i.kb 39 (kRow n W.w.kv), slc i.ap i.l.length i.ac 49 121 (i.l.flatMap MV.vals), logsH e i.lb W.l]
def wH15 (e : Frag) (wb n : Nat) (W : W15) : HP := pack (w15φ e W) (w15B e wb n W)
theorem w15_fold {e : Frag} {F : List HP} {wb n : Nat} {W : W15} (i : W15P) (h : w15φ e W i) : ∀ x, stars (w15B e wb n W i ++ F) x → stars (wH15 e wb n W :: F) x := fun x hx => pack_fold (φ := w15φ e W) (B := w15B e wb n W) i h x hx
theorem w15_mono {f g : Frag} (h : Le f g) {wb n : Nat} {W : W15} : ∀ x, wH15 f wb n W x → wH15 g wb n W x := fun _ ⟨i, hi, hx⟩ => ⟨i, ⟨hi.1, fun y hy => (hi.2 y hy).mono h⟩, by
 obtain ⟨m1, m2, d1, e1, a1, m3, m4, d2, e2, a2, m5, m6, d3, e3, a3, m7, m8, d4, e4, a4, r4⟩ := hx
 exact ⟨m1, m2, d1, e1, a1, m3, m4, d2, e2, a2, m5, m6, d3, e3, a3, m7, m8, d4, e4, logsH_mono h _ a4, r4⟩⟩
theorem w15_up {f g : Frag} (h : Le f g) {wb n : Nat} {W : W15} {A : List HP} : ∀ x, stars (wH15 f wb n W :: A) x → stars (wH15 g wb n W :: A) x := fun _ ⟨h1, h2, hd, he, ha, hr⟩ => ⟨h1, h2, hd, he, w15_mono h _ ha, hr⟩
def DoP (f : Frag) (F : List HP) (wb n : Nat) (W : W15) : Value → Frag → List HP → Prop := fun v f' A' => ∃ (g : Frag) (u : Value), Dj f g ∧ v = u ∧ f' = un f g ∧ A' = wH15 f' wb n W :: F
section
variable (f : Frag) (F : List HP)
set_option maxRecDepth 20000 in
set_option maxHeartbeats 3200000 in
theorem do_fn {fl : Frag} (hfl : Le fl f) {wb n : Nat} {W : W15} {T : Nat} (hn3 : 3 ≤ n ∧ n ≤ 11) (hW : WI n W T) (hT : T ≤ 900) (hal : W.w.all.length ≤ 900) {x : A15} (hx : x.Has f) (hq20 : x.q.length ≤ 20) :
  Fn Tryz.prog 45 [.pointer (some ⟨wb, 0, none⟩), .agg x.vals.toArray] f (wH15 fl wb n W :: F) (DoP f F wb n (W.act n x)) := by
 refine Fn.unpack fun i0 hi => ?_;obtain ⟨kb, lb, ap, ac, l⟩ := i0;have hlm : l.map MV.m = W.w.all := hi.1;have hlg : ∀ y ∈ l, y.Good fl := hi.2
 have hll : l.length ≤ 900 := by
  have := congrArg List.length hlm;rw [List.length_map] at this
  omega
 have hn0 : ((n : Nat) : Int) ≠ 0 := by omega
 have ho : x.who.toNat % n < n := Nat.mod_lt _ (by omega);have hkv := hW.w.kv_le ho
 have hwho := x.who.toNat_lt;have hoth := x.other.toNat_lt
 have hj : x.other.toNat % n < n := Nat.mod_lt _ (by omega);show Fn _ _ _ f (row wb 37 (w15C kb n ap l.length ac lb) :: row kb 39 (kRow n W.w.kv) :: slc ap l.length ac 49 121 (l.flatMap MV.vals) :: logsH fl lb W.l :: F) _
 refine Fn.e2 Tryz.func45 Tryz.ntmps45 fun base => ?_;refine qcZ fun xb => ?_;refine H.Au (ls := msgZ.vals none 0) rfl rfl rfl fun ob => ?_;refine gG ?_;refine H.rem (z := ((x.who.toNat % n : Nat) : Int)) rfl rfl rfl hn0 (zal (a := x.who.toNat) (b := n) rfl) rfl ?_;refine gG ?_
 cases hmt : x.meet with
 | true =>
  have hact : W.act n x = { W with w := W.w.meet (x.who.toNat % n) (x.other.toNat % n) } := by unfold W15.act; rw [if_pos hmt]
  rw [hact];refine gc ?_;refine H.rem (z := ((x.other.toNat % n : Nat) : Int)) rfl rfl rfl hn0 (zal (a := x.other.toNat) (b := n) rfl) rfl ?_;refine gT ?_;generalize hoe : x.who.toNat % n = o at *;generalize hje : x.other.toNat % n = j at *; have ho11 : o < 11 := by omega
  refine qdp ?_
  refine H.Ar (ι := Nat) (fun i => [(8, .int .i64 (i : Int)), (6, .int .i64 (1 + (o : Int))), (7, .int .i64 (j : Int)), (0, .pointer (some ⟨wb, 0, none⟩)), (4, .pointer (some ⟨ob, 0, none⟩))]) (fun _ => f)
   (fun i => row wb 37 (w15C kb n ap l.length ac lb) :: row kb 39 (kRow n (raised W.w.kv o j i)) :: row ob 49 (msgZ.vals none 0) :: row xb 99 x.vals :: slc ap l.length ac 49 121 (l.flatMap MV.vals) :: logsH fl lb W.l :: F)
   (fun i => i ≤ 11) (fun i => 11 - i) 0 (Nat.zero_le _) ⟨rfl, rfl, rfl, rfl, rfl, trivial⟩ rfl (by rw [raised_zero]) fun i hi2 => ?_
  have hi2 : i ≤ 11 := hi2;by_cases hi11 : i < 11
  ·have hro := raised_o W.w.kv o j i;have hrj := raised_j W.w.kv o j i
   have hrn := raised_next W.w.kv o j i;have hg1 := kRow_get (kv := raised W.w.kv o j i) ho hi11
   have hg2 := kRow_get (kv := raised W.w.kv o j i) hj hi11;rw [hro] at hg1
   rw [hrj] at hg2;have hset := kRow_set (kv := raised W.w.kv o j i) (maxV (W.w.kv o) (W.w.kv j) i) ho hi11;rw [hrn] at hset
   have hoo : (1 : Int) + (o : Int) - 1 = (o : Nat) := by omega
   refine gF ?_;refine H.dc [0, 1, 2, 3, 4, 5, 6, 7, 8, 9, 10, 11, 12, 13, 14, 15, 16, 17, 18, 19, 20, 21, 22, 23, 24, 25, 26, 27, 28] (S := [_, _]) rfl ?_;refine HB.qu [0,1,2,3,4,5,6,7,8,9,10,11,12,13,14,15,16,17,18,19,20,21,22,23,24,25,26,27,28] 1 ?_;refine gO ?_;refine HQ.Aq (i := o) rfl rfl rfl hoo ho rfl ?_;refine qgx ?_;refine HQ.Ab rfl rfl rfl (.at0 (Rd.ofRow (.there _ (.here _ _ _))) (by rw [Nat.zero_add, Nat.mul_one]; exact hg1)) rfl ?_;refine gQ ?_;refine HQ.Aq (i := j) rfl rfl rfl rfl hj rfl ?_;refine qgx ?_;refine HQ.Ab rfl rfl rfl (.at0 (Rd.ofRow (.there _ (.here _ _ _))) (by rw [Nat.zero_add, Nat.mul_one]; exact hg2)) rfl ?_;refine HQ.max2 (z := maxV (W.w.kv o) (W.w.kv j) i) rfl rfl rfl rfl rfl ?_;refine HQ.Aq (i := o) rfl rfl rfl hoo ho rfl ?_;refine qgx ?_;refine qdi ?_;refine HB.ev 29 ?_;refine H.Bc (v := .int .u64 (maxV (W.w.kv o) (W.w.kv j) i)) (ls := kRow n (raised W.w.kv o j i)) (ls' := kRow n (raised W.w.kv o j (i + 1))) rfl rfl rfl rfl (.there _ (.here _ _ _)) (by rw [Nat.zero_add, Nat.mul_one]; exact hset) ?_;refine qdG ?_;refine gV ?_;exact H.Ah (i + 1) (by show i + 1 ≤ 11; omega) (by show 11 - (i + 1) < 11 - i; omega) ⟨rfl, rfl, rfl, rfl, rfl, trivial⟩ rfl rfl
  ·have e : i = 11 := by omega
   subst e;rw [raised_end]; repeat (first | (refine H.Ax (t := 49) (out := msgZ.vals none 0) rfl rfl rfl (by kernel_rfl) rfl ?_) | ((apply H.Ag); (iterate 3 exact rfl)) | (first | apply H.seq | apply H.Am | apply H.nil | apply H.Ao) | ((apply H.cmp); (iterate 5 exact rfl)) | (apply H.Cj; exact rfl) | (first | apply H.Cc | apply H.exit | apply H.Cb | apply H.Cf))
   refine qfp ?_;refine qfT ?_;exact H.Bh (ls := msgZ.vals none 0) rfl rfl rfl (Rd.ofRow (.here _ _ _)) rfl (fun _ s => (s.drop (.here _ _)).imp (fun z hz => w15_up hfl z (w15_fold (W := { W with w := W.w.meet o j }) ⟨kb, lb, ap, ac, l⟩ ⟨hlm, hlg⟩ z hz))) ⟨nil0, _, Dj.nil _, rfl, (un_nil f).symm, rfl⟩
 | false =>
  refine gV ?_;generalize hoe : x.who.toNat % n = o at *; have ho11 : o < 11 := by omega
  have hoo : (1 : Int) + (o : Int) - 1 = (o : Nat) := by omega
  have ho1 : (1 : Int) + (o : Int) = ((o + 1 : Nat) : Int) := by omega
  have hact : W.act n x = if (W.next n o x).may = true then ⟨W.w.say o (W.next n o x).signed, (W.l.take (W.next n o x).signed).2⟩ else W := by
   unfold W15.act;rw [if_neg (by rw [hmt]; decide), hoe]
  have hgk0 := kRow_get (kv := W.w.kv) ho ho11;have hko := hkv o
  have hbody := fun G => body15_fn f G hfl (wb := wb) (kb := kb) (lb := lb) hW (by omega) (ap := ap) (m := l.length) (ac := ac) ho hx hq20;refine qft ?_
  refine qdp ?_;refine qeT ?_
  refine H.cut (ι := Frag × Option Addr × Nat × Nat) (fun s => [(9, .pointer (some ⟨s.2.2.2, 0, none⟩)), (6, .int .i64 (1 + (o : Int))), (0, .pointer (some ⟨wb, 0, none⟩)), (4, .pointer (some ⟨ob, 0, none⟩))]) (fun s => un f s.1)
   (fun s => row xb 99 x.vals :: row s.2.2.2 49 ((W.next n o x).vals s.2.1 s.2.2.1) :: row ob 49 (msgZ.vals none 0) :: row wb 37 (w15C kb n ap l.length ac lb) :: row kb 39 (kRow n W.w.kv) :: logsH fl lb W.l :: slc ap l.length ac 49 121 (l.flatMap MV.vals) :: F)
   (fun s => QAt (un f s.1) s.2.1 (W.next n o x).body.q ∧ Dj f s.1) _ (fun s hs => ?_) ?_
  ·obtain ⟨g, qp, qc, mb⟩ := s;obtain ⟨hqat, hd⟩ : QAt (un f g) qp (W.next n o x).body.q ∧ Dj f g := hs;have hle2 := Le.un f g;have hql := (x.bod_q hW (by omega) (o := o)).1
   have hgood : (⟨W.next n o x, qp, qc⟩ : MV).Good (un f g) := ⟨hqat, by show (x.bod W n o).q.length ≤ _; omega, A15.bod_ok hW (by omega) ho x⟩;have hmsg := good_signed hgood
   have hmay := fun H => rmmay_fn (un f g) H hgood;have hsg := fun H => rtagged_fn (un f g) H (m := W.next n o x) (q := qp) (qc := qc) hgood.1 (by show (x.bod W n o).q.length ≤ _; omega)
   show H _ _ _ [_, _, _, _] (un f g) (_ :: row mb _ ((W.next n o x).vals qp qc) :: _ :: _ :: _ :: _ :: _ :: F) _;refine gA ?_;refine H.Af (ls := (W.next n o x).vals qp qc) rfl rfl rfl (Rd.ofRow (.there _ (.here _ _ _))) rfl rfl ?_;refine H.Ad rfl rfl rfl (hmay _) ?_;refine H.not (b := _) (c := _) rfl rfl rfl rfl ?_
   cases hmy : (W.next n o x).may with
   | false =>
    rw [hact, if_neg (by rw [hmy]; decide)]; repeat (first | (refine H.Ax (t := 49) (out := msgZ.vals none 0) rfl rfl rfl (by kernel_rfl) rfl ?_) | (first | apply H.seq | apply H.Am | apply H.nil | apply H.Ao) | (apply H.Co; exact rfl))
    refine qfp ?_;refine qdx ?_;refine H.pf (x := slc ap _ ac _ _ _) ?_;refine qdp ?_;refine qfT ?_;exact H.Bh (ls := msgZ.vals none 0) rfl rfl rfl (Rd.ofRow (.here _ _ _)) rfl (fun _ s => (s.drop (.here _ _)).imp (fun z hz => w15_up (hfl.trans hle2) z (w15_fold ⟨kb, lb, ap, ac, l⟩ ⟨hlm, hlg⟩ z hz))) ⟨g, _, hd, rfl, rfl, rfl⟩
   | true =>
    rw [hact, if_pos hmy];generalize hms : (W.next n o x).signed = ms at *;have htake := fun H => take_fn (un f g) H (hfl.trans hle2) (lb := lb) hW.l (by omega) (x := ⟨ms, qp, qc⟩) hmsg;refine gV ?_
    refine H.Af (ls := (W.next n o x).vals qp qc) rfl rfl rfl (Rd.ofRow (.there _ (.here _ _ _))) rfl rfl ?_;refine H.Ad rfl rfl rfl (hsg _) ?_;refine H.Aj (ls := (W.next n o x).vals qp qc) (vs := ms.vals qp qc) (ls' := ms.vals qp qc) rfl rfl rfl (zaa rfl) rfl rfl (Nat.le_refl 121) (.there _ (.here _ _ _)) ?_;refine gA ?_;refine qew ?_;refine qdw ?_;refine H.db (S := [_, _]) rfl ?_;refine HB.qu [0,1,2,3,4] 1 ?_;refine gQ ?_;refine HQ.Af (ls := ms.vals qp qc) rfl rfl rfl (Rd.ofRow (.here _ _ _)) rfl rfl ?_;refine qda ?_;refine HB.ev 5 ?_;refine qft ?_;refine H.Aw rfl rfl rfl (htake _) fun v f' A' hr => ?_;obtain ⟨g2, hd2, rfl, rfl, rfl⟩ := hr;refine gA ?_;refine qew ?_;refine qdw ?_;refine H.on [] (Le.un _ g2) rfl ?_;refine HB.dn ?_;refine gA ?_;refine qfx ?_;refine HQ.Af (ls := ms.vals qp qc) rfl rfl rfl (Rd.ofRow (.here _ _ _)) rfl rfl ?_;refine qda ?_;refine HB.ev 6 ?_;refine H.Be (out := ms.vals qp qc) rfl rfl rfl rfl (by decide) (by decide) rfl rfl fun eb => ?_;refine gA ?_;refine qew ?_;refine qfM ?_;refine HB.ev 7 ?_;refine H.Bi (sz := 121) (p := ap) (n0 := l.length) (c := ac) (xs := l.flatMap MV.vals) (m := 1) (news := ms.vals qp qc) rfl rfl rfl rfl rfl (fun p' c' => (by repeat constructor)) (Src.slice (Rd.ofRow (by repeat constructor)) rfl) (zaa rfl) rfl (by omega) (by omega) fun ap2 ac2 => ?_;refine qdF ?_;refine H.Bc (ls := w15C kb n ap l.length ac lb) (ls' := w15C kb n ap2 (l.length + 1) ac2 lb) rfl rfl rfl rfl (.there _ (.here _ _ _)) (.there _ (.here _ _ _)) ?_;refine qdG ?_;refine gA ?_;have hset := kRow_set (kv := W.w.kv) (W.w.kv o o + 1) ho ho11;refine qdp ?_
    refine qgn ?_;refine qfG ?_;refine HQ.Ab rfl rfl rfl (.at0 (Rd.ofRow (.there _ (.here _ _ _))) (by rw [Nat.zero_add, Nat.mul_one]; exact hgk0)) rfl ?_;refine gJ ?_;refine qfG ?_;refine qdi ?_;refine HB.ev 14 ?_;refine H.Bc (v := .int .u64 (W.w.kv o o + 1)) (ls := kRow n W.w.kv) (ls' := kRow n (W.w.say o ms).kv) rfl rfl rfl rfl (.there _ (.here _ _ _)) (by rw [Nat.zero_add, Nat.mul_one]; exact hset) ?_;refine qdG ?_;refine gA ?_;refine qdw ?_;refine H.Af (ls := ms.vals qp qc) rfl rfl rfl (Rd.ofRow (.here _ _ _)) rfl rfl ?_;refine H.Aj (ls := msgZ.vals none 0) (vs := ms.vals qp qc) (ls' := ms.vals qp qc) rfl rfl rfl (zaa rfl) rfl rfl (Nat.le_refl 121) (by repeat constructor) ?_;refine gT ?_;refine H.pd (x := row xb _ _) ?_;refine qdx ?_;refine qft ?_;refine H.pf (x := slc ap2 _ ac2 _ _ _) ?_;refine qdp ?_;refine qfT ?_;have hle3 := Le.un (un f g) g2
    have hφ : w15φ (un (un f g) g2) ⟨W.w.say o ms, (W.l.take ms).2⟩ ⟨kb, lb, ap2, ac2, l ++ [⟨ms, qp, qc⟩]⟩ := by
     refine ⟨?_, fun y hy => ?_⟩
     ·show (l ++ [(⟨ms, qp, qc⟩ : MV)]).map MV.m = W.w.all ++ [ms];rw [List.map_append, hlm];rfl
     ·rcases List.mem_append.1 hy with h | h
      ·exact (hlg y h).mono ((hfl.trans hle2).trans hle3)
      ·rw [List.mem_singleton.1 h]; exact hmsg.mono hle3
    have hsl : slc ap2 (l.length + 1) ac2 49 121 (l.flatMap MV.vals ++ ms.vals qp qc) = slc ap2 (l ++ [(⟨ms, qp, qc⟩ : MV)]).length ac2 49 121 ((l ++ [(⟨ms, qp, qc⟩ : MV)]).flatMap MV.vals) := slc_snoc (y := (⟨ms, qp, qc⟩ : MV));have hfold := w15_fold (F := F) (wb := wb) (n := n) _ hφ
    exact H.Bh (ls := ms.vals qp qc) rfl rfl rfl (Rd.ofRow (.here _ _ _)) rfl (fun _ s => (s.drop (.here _ _)).imp (fun z hz => hfold z (by
     rw [hsl] at hz;show stars (row wb _ (w15C kb n ap2 (l ++ [(⟨ms, qp, qc⟩ : MV)]).length ac2 lb) :: _) z;rw [List.length_append];rw [List.length_append] at hz
     exact hz))) ⟨un g g2, _, Dj.un3' hd hd2, rfl, un_assoc _ _ _, rfl⟩
  ·refine H.db (S := [_, _, _]) rfl ?_;refine HB.qu [0,1,2,3,4,5,6,7,8,9,10,11,12,13,14,15,16,17,18,19,20,21,22,23] 4 ?_;refine gO ?_;refine qfG ?_;refine HQ.Ab rfl rfl rfl (.at0 (Rd.ofRow (.there _ (.there _ (.here _ _ _)))) (by rw [Nat.zero_add, Nat.mul_one]; exact hgk0)) rfl ?_;refine gO ?_;refine HQ.Aq (i := o) rfl rfl rfl hoo ho rfl ?_;refine HQ.Af (ls := v11 (W.w.kv o)) rfl rfl rfl (by rw [Nat.zero_add]; exact Rd.kRow (Rd.ofRow (.there _ (.there _ (.here _ _ _)))) ho) rfl rfl ?_;refine gB ?_;refine qfC ?_;refine qda ?_;refine HB.ev2 (i := 24) (j := 26) (by kernel_rfl) rfl rfl ?_ ?_
   ·refine qdp ?_;refine qft ?_;rw [ho1];refine H.Aw rfl rfl rfl (hbody _) fun v f' A' hr => ?_;obtain ⟨g, qp, qc, rfl, hqat, hd, rfl, rfl⟩ := hr;refine gA ?_;refine qdp ?_;refine qeT ?_;refine H.on [] (Le.un _ g) rfl ?_;refine HB.qu [25] 2 ?_;refine HQ.Ax (t := 49) (out := (W.next n o x).vals qp qc) rfl rfl rfl (by kernel_rfl) rfl ?_;refine qda ?_;refine HB.ev 26 ?_;refine H.Au (ls := msgZ.vals none 0) rfl rfl rfl fun mb => ?_;refine gA ?_;refine qdp ?_;refine qeT ?_;refine qdU ?_;exact qaz
   ·refine H.Au (ls := msgZ.vals none 0) rfl rfl rfl fun mb => ?_;refine gA ?_;refine qdp ?_;refine qeT ?_;refine qdU ?_;refine HB.ev 24 ?_;refine qdp ?_;refine qft ?_;rw [ho1];refine H.Aw rfl rfl rfl (hbody _) fun v f' A' hr => ?_;obtain ⟨g, qp, qc, rfl, hqat, hd, rfl, rfl⟩ := hr;refine gA ?_;refine qdp ?_;refine qeT ?_;refine H.on [] (Le.un _ g) rfl ?_;refine HB.qu [25] 1 ?_;refine HQ.Ax (t := 49) (out := (W.next n o x).vals qp qc) rfl rfl rfl (by kernel_rfl) rfl ?_;refine qda ?_;exact qaz
end
def few15 (l : List A15) : Bool := decide (l.length ≤ 100) && l.all fun x => decide (x.q.length ≤ 20)
theorem few15_all {l : List A15} (h : few15 l = true) : l.length ≤ 100 ∧ ∀ x ∈ l, x.q.length ≤ 20 := by
 unfold few15 at h;simp only [Bool.and_eq_true, decide_eq_true_eq, List.all_eq_true] at h;exact h
theorem A15.Has.mono {f g : Frag} (h : Le f g) {x : A15} (hx : x.Has f) : x.Has g := by
 rcases hx with e | ⟨b, off, cs, T, fr, h1, h2, h3⟩
 ·exact .inl e
 ·exact .inr ⟨b, off, cs, T, fr, h1, h _ _ h2, h3⟩
def Acts15P (f : Frag) (F : List HP) (n : Nat) (W : W15) : Value → Frag → List HP → Prop := fun v f' A' => ∃ (g : Frag) (wb : Nat), v = .pointer (some ⟨wb, 0, none⟩) ∧ Dj f g ∧ f' = un f g ∧ A' = wH15 f' wb n W :: F
section
variable (f : Frag) (F : List HP)
theorem odd15_fn (n8 : UInt8) : Fn Tryz.prog 44 [.int .u8 (n8.toNat : Nat)] f F (Ret (.int .i64 ((3 + 2 * (n8.toNat % 5) : Nat) : Int)) f F) := by
 have h := n8.toNat_lt; have hm : ((n8.toNat % 5 : Nat) : Int) ≤ 4 := by omega
 refine Fn.e1 Tryz.func44 Tryz.ntmps44 fun base => ?_;refine gH ?_;refine H.rem (z := ((n8.toNat % 5 : Nat) : Int)) rfl rfl rfl (by decide) (zal (b := 5) rfl) rfl ?_;refine gV ?_;exact qcj
theorem few15_fn {p : Option Addr} {c : Nat} {l : List A15} (hat : ListAt f p 12 A15.vals l) (hl : l.length ≤ 9223372036854775807) : Fn Tryz.prog 13 [.slice p l.length c] f F (Ret (.bool (few15 l)) f F) := by
 by_cases h30 : l.length ≤ 100
 ·refine Fn.e1 Tryz.func13 Tryz.ntmps13 fun base => ?_;refine gZ ?_;refine H.Ar (ι := Nat) (fun i => [(3, .int .i64 (i : Int)), (0, .slice p l.length c)]) (fun _ => f) (fun _ => F) (fun i => i ≤ l.length ∧ ∀ j x, j < i → l[j]? = some x → x.q.length ≤ 20) (fun i => l.length - i) 0 ⟨Nat.zero_le _, fun j x hj => by omega⟩ ⟨rfl, rfl, trivial⟩ rfl rfl fun i hi => ?_;obtain ⟨hi, hb⟩ : i ≤ l.length ∧ ∀ j x, j < i → l[j]? = some x → x.q.length ≤ 20 := hi;by_cases hlt : i < l.length
  ·have hx : l[i]? = some l[i] := List.getElem?_eq_getElem hlt;generalize l[i] = x at hx
   obtain ⟨b, off, cs, T, fr, rfl, hfb, hcs⟩ := hat i x hx;have rd : ∀ A, Rd f A b (off + i * 12) x.vals := fun A => Rd.imm hfb hcs;refine gF ?_
   refine H.Aq rfl rfl rfl rfl hlt rfl ?_;refine gI ?_;refine H.Ab rfl rfl rfl (Rd1.of (i := 10) (rd _) rfl) rfl ?_;refine gF ?_;by_cases hq : x.q.length ≤ 20
   ·skip;refine gZ ?_;refine H.Ah (i + 1) ⟨by show i + 1 ≤ l.length; omega, fun j y hj hy => ?_⟩ (by show l.length - (i + 1) < l.length - i; omega) ⟨rfl, rfl, trivial⟩ rfl rfl;by_cases e : j = i
    ·subst e; rw [hx] at hy; cases hy; exact hq
    ·exact qbJ
   ·skip;refine gF ?_;refine H.Ac rfl rfl (fun _ h => h) ⟨?_, rfl, rfl⟩
    have : few15 l = false := by
     unfold few15;rw [Bool.and_eq_false_iff];exact .inr (List.all_eq_false.2 ⟨x, List.mem_of_getElem? hx, by rw [decide_eq_false hq]; decide⟩)
    rw [this]
  ·refine gZ ?_;refine H.Ac rfl rfl (fun _ h => h) ⟨?_, rfl, rfl⟩
   have : few15 l = true := by
    unfold few15;rw [decide_eq_true h30, Bool.true_and, List.all_eq_true];intro x hx;obtain ⟨j, hj⟩ := List.getElem?_of_mem hx;have hjl := (List.getElem?_eq_some_iff.1 hj).1;exact decide_eq_true (hb j x (by omega) hj)
   rw [this]
 ·refine Fn.e1 Tryz.func13 Tryz.ntmps13 fun base => ?_;refine gF ?_;refine H.Ac rfl rfl (fun _ h => h) ⟨?_, rfl, rfl⟩; have : few15 l = false := by unfold few15; rw [decide_eq_false h30]; rfl
  rw [this]
theorem nworld_fn {n : Nat} (h : fewZ (n : Int)) : Fn Tryz.prog 43 [.int .i64 (n : Int)] f F (Acts15P f F n (W15.zero n)) := by
 have hn : n ≤ 11 := by have := h.2.1; omega
 refine Fn.e1 Tryz.func43 Tryz.ntmps43 fun base => ?_;refine gH ?_;refine H.Aw rfl rfl rfl (lgnew_fn f _ h) fun v f' A' hr => ?_;obtain ⟨g, lb, hd, rfl, rfl, rfl⟩ := hr;refine gR ?_;refine H.makeS (m := n) (zs := v11 fun _ => 0) rfl rfl rfl rfl rfl rfl rfl (by decide) (by omega) (by omega) rfl fun kb => ?_;rw [kRow_zero]; repeat (first | (refine H.Ax (t := 37) (out := w15C kb n none 0 0 lb) rfl rfl rfl (by kernel_rfl) rfl ?_) | ((apply H.Ag); (iterate 3 exact rfl)))
 refine H.box (ls := w15C kb n none 0 0 lb) rfl rfl rfl rfl fun wb => ?_;refine gT ?_;refine qft ?_;refine H.slc0 49 121 ?_;refine qdp ?_;refine H.imp (w15_fold (e := un f g) (n := n) (W := W15.zero n) ⟨kb, lb, none, 0, []⟩ ⟨rfl, fun y hy => by cases hy⟩) ?_;exact H.Ac rfl rfl (fun _ h => h) ⟨g, wb, rfl, hd, rfl, rfl⟩
set_option maxHeartbeats 1600000 in
theorem acts15_fn {n8 : UInt8} {n : Nat} (hn8 : n = 3 + 2 * (n8.toNat % 5)) {p : Option Addr} {c : Nat} {xs : List A15} (hat : ListAt f p 12 A15.vals xs) (hh : ∀ x ∈ xs, x.Has f ∧ x.q.length ≤ 20) (hl : xs.length ≤ 100) :
  Fn Tryz.prog 15 [.int .u8 (n8.toNat : Nat), .slice p xs.length c] f F (Acts15P f F n (world15 n xs)) := by
 have hn3 : 3 ≤ n ∧ n ≤ 11 := by omega
 have hodd := fun G => odd15_fn f G n8;rw [← hn8] at hodd
 have hfz : fewZ (n : Int) := ⟨by omega, by omega, by
  rw [show (2 : Int) = ((2 : Nat) : Int) from rfl, zal (a := n) (b := 2) (r := 1) (by omega)]; rfl⟩
 refine Fn.e2 Tryz.func15 Tryz.ntmps15 fun base => ?_;refine gH ?_;refine H.Ad rfl rfl rfl (hodd _) ?_;refine H.Aw rfl rfl rfl (nworld_fn f _ hfz) fun v f' A' hr => ?_;obtain ⟨g0, wb, rfl, hd0, rfl, rfl⟩ := hr;refine gT ?_
 refine H.Ar (ι := Nat × Frag) (fun s => [(6, .int .i64 (s.1 : Int)), (1, .slice p xs.length c), (5, .pointer (some ⟨wb, 0, none⟩))]) (fun s => un f s.2)
  (fun s => wH15 (un f s.2) wb n (world15 n (xs.take s.1)) :: F)
  (fun s => s.1 ≤ xs.length ∧ Dj f s.2) (fun s => xs.length - s.1) (0, g0) ⟨Nat.zero_le _, hd0⟩ ⟨rfl, rfl, rfl, trivial⟩ rfl rfl fun s hs => ?_
 obtain ⟨k, G⟩ := s;obtain ⟨hk, hdj⟩ : k ≤ xs.length ∧ Dj f G := hs;show H _ _ _ [(6, .int .i64 (k : Int)), _, _] (un f G) (wH15 (un f G) wb n (world15 n (xs.take k)) :: F) _;by_cases hlt : k < xs.length
 ·obtain ⟨x, hx⟩ : ∃ x, xs[k]? = some x := ⟨_, List.getElem?_eq_getElem hlt⟩; have hnext : world15 n (xs.take (k + 1)) = (world15 n (xs.take k)).act n x := by rw [take_snoc hx, world15_snoc]
  obtain ⟨hxa, hxq⟩ := hh x (List.mem_of_getElem? hx);obtain ⟨b, off, cs, T, fr, rfl, hfb, hcs⟩ := hat k x hx;have rd : ∀ A, Rd (un f G) A b (off + k * 12) x.vals := fun A => Rd.imm (Le.un f G b _ hfb) hcs;have hinv := world15_inv hn3.1 hn3.2 xs k (by omega)
  have hwl := world15_len n xs k;refine gF ?_
  refine H.Aq (i := k) rfl rfl rfl rfl hlt rfl ?_;refine H.Af (ls := x.vals) rfl rfl rfl (rd _) rfl rfl ?_;refine H.Aw rfl rfl rfl (do_fn (un f G) _ (Le.refl _) hn3 hinv (by omega) (by omega) (hxa.mono (Le.un f G)) hxq) fun v f' A' hr => ?_;obtain ⟨g, u, hd, rfl, rfl, rfl⟩ := hr;refine gV ?_;refine H.Ah (k + 1, un G g) ⟨by show k + 1 ≤ xs.length; omega, Dj.un3' hdj hd⟩ (by show xs.length - (k + 1) < xs.length - k; omega) ⟨rfl, rfl, rfl, trivial⟩ (un_assoc _ _ _) ?_;show wH15 (un (un f G) g) wb n _ :: F = wH15 (un f (un G g)) wb n (world15 n (xs.take (k + 1))) :: F;rw [hnext, un_assoc]
 ·have e : k = xs.length := by omega
  subst e;rw [List.take_length];refine gZ ?_;exact H.Ac rfl rfl (fun _ h => h) ⟨G, wb, rfl, hdj, rfl, rfl⟩
end
theorem H.world15 {P : Program} {base : World} {m : Nat} {L : Env} {f : Frag} {A : List HP} {K : Kont} {wb n : Nat} {W : W15}
  (h : ∀ g kb ap ac lb (l : List MV), Dj f g → WAt (un f g) n W.w kb ap l → H P base m L (un f g) (row wb 37 (w15C kb n ap l.length ac lb) :: A) K) : H P base m L f (wH15 f wb n W :: A) K := by
 refine H.unpack fun i hi => ?_;obtain ⟨kb, lb, ap, ac, l⟩ := i;show H P base m L f (row wb 37 (w15C kb n ap l.length ac lb) :: row kb 39 (kRow n W.w.kv) :: slc ap l.length ac 49 121 (l.flatMap MV.vals) :: logsH f lb W.l :: A) K;refine H.freeze (.there _ (.here _ _)) fun g1 hg1 hd1 => ?_;refine H.freeze (.there _ (.here _ _)) fun g2 hg2 hd2 => ?_;refine H.Ae (.there _ (.here _ _)) ?_;have hd3 : Dj f (un g1 g2) := Dj.un3' hd1 hd2;rw [un_assoc]
 have hle : Le f (un f (un g1 g2)) := Le.un _ _; have h1 : KAt (un f (un g1 g2)) kb n W.w.kv := by rw [← un_assoc]; exact (KAt.of hg1 hd1).mono (Le.un _ g2)
 have h2 : ListAt (un f (un g1 g2)) ap 121 MV.vals l := by rw [← un_assoc]; exact (zbv MV.len hg2).mono (Le.right hd2)
 exact h (un g1 g2) kb ap ac lb l hd3 ⟨h1, h2, fun y hy => (hi.2 y hy).mono hle, hi.1⟩
theorem lgsOf_NI (n : Nat) (l : List Msg) : NI (lgsOf n l) := by
 refine snocInd (p := fun l => NI (lgsOf n l)) (NI.new n) (fun l m ih => ?_) l;show NI (lgsOf n (l ++ [m]));rw [lgsOf_snoc];exact ih.take m
theorem WAt.good_v {f : Frag} {n : Nat} {W : W12} {kb : Nat} {ap : Option Addr} {l : List MV} (h : WAt f n W kb ap l) : ∀ m ∈ W.all, 0 ≤ m.body.view := fun m hm => by
 rw [← h.m] at hm
 obtain ⟨y, hy, rfl⟩ := List.mem_map.1 hm
 exact (h.g y hy).2.2.1.1
section
variable (f : Frag) (F : List HP)
end
end Go.Proofs.YtgdhaledfjnfgaaGreatDoor

namespace Go.Proofs.YtgdhaledfjnfgaaGreatDoor
open Go Go.ChangeShapes Go.WideShapes Go.RowKit Go.Deep
theorem Reads.bool {P : Program} {W : World} {t : TypeId} {cs : List Value} (ht : P.underlying t = some .bool) (h : Reads P W t cs) : ∃ b, cs = [.bool b] := by
 obtain ⟨H', enc, b, sp, hd, n, x, h⟩ := h;obtain ⟨z, h1, _⟩ := DataW.trod_bool ht h;exact ⟨z, h1⟩
theorem Reads.u8 {W : World} {cs : List Value} (h : Reads Tryz.prog W 5 cs) : ∃ x : UInt8, cs = [.int .u8 (x.toNat : Nat)] := by
 obtain ⟨x, _, e⟩ := reads_byte h;exact ⟨x, e⟩
theorem ArgOk.u8 {W : World} {v : Value} (h : ArgOk Tryz.prog W 5 v) : ∃ x : UInt8, v = .int .u8 (x.toNat : Nat) := by
 obtain ⟨z, rfl, hz⟩ := h.int Tryz.underlying5;exact ⟨UInt8.ofNat z.toNat, by rw [u8_back hz]⟩
theorem AllReads.cons {P : Program} {W : World} {t : TypeId} {ts : List TypeId} {ps : List (List Value)} (h : AllReads P W (t :: ts) ps) : ∃ p q, ps = p :: q ∧ Reads P W t p ∧ AllReads P W ts q := by
 cases ps with
 | nil => exact h.elim
 | cons p q => exact ⟨p, q, rfl, h.1, h.2⟩
theorem AllReads.nil {P : Program} {W : World} {ps : List (List Value)} (h : AllReads P W [] ps) : ps = [] := by
 cases ps with
 | nil => rfl
 | cons p q => exact h.elim
theorem reads_a15 {W : World} {cs : List Value} (h : Reads Tryz.prog W 99 cs) : ∃ x : A15, x.Has (memOf W) ∧ cs = x.vals := by
 obtain ⟨ps, rfl, hh⟩ := h.parts Tryz.underlying99 (by kernel_rfl);have h : AllReads Tryz.prog W [5, 5, 4, 4, 5, 5, 5, 5, 5, 5, 62, 4] ps := hh;obtain ⟨p0, q0, rfl, r0, h⟩ := h.cons
 obtain ⟨p1, q1, rfl, r1, h⟩ := h.cons;obtain ⟨p2, q2, rfl, r2, h⟩ := h.cons;obtain ⟨p3, q3, rfl, r3, h⟩ := h.cons;obtain ⟨p4, q4, rfl, r4, h⟩ := h.cons;obtain ⟨p5, q5, rfl, r5, h⟩ := h.cons;obtain ⟨p6, q6, rfl, r6, h⟩ := h.cons;obtain ⟨p7, q7, rfl, r7, h⟩ := h.cons;obtain ⟨p8, q8, rfl, r8, h⟩ := h.cons;obtain ⟨p9, q9, rfl, r9, h⟩ := h.cons;obtain ⟨p10, q10, rfl, r10, h⟩ := h.cons;obtain ⟨p11, q11, rfl, r11, h⟩ := h.cons;obtain rfl := h.nil;obtain ⟨z0, rfl⟩ := r0.u8;obtain ⟨z1, rfl⟩ := r1.u8;obtain ⟨z2, rfl⟩ := r2.bool Tryz.underlying4;obtain ⟨z3, rfl⟩ := r3.bool Tryz.underlying4;obtain ⟨z4, rfl⟩ := r4.u8;obtain ⟨z5, rfl⟩ := r5.u8;obtain ⟨z6, rfl⟩ := r6.u8;obtain ⟨z7, rfl⟩ := r7.u8;obtain ⟨z8, rfl⟩ := r8.u8;obtain ⟨z9, rfl⟩ := r9.u8;obtain ⟨p, c, xs, rfl, _, _, _, hat⟩ := r10.list (sz := 1) Tryz.underlying62 (by kernel_rfl) (by decide) fun cs => reads_byte;obtain ⟨z11, rfl⟩ := r11.bool Tryz.underlying4;exact ⟨⟨z0, z1, z2, z3, z4, z5, z6, z7, z8, z9, xs, z11, p, c⟩, listAt_bat hat, rfl⟩
theorem ArgOk.acts15 {W : World} {v : Value} (h : ArgOk Tryz.prog W 22 v) : ∃ (p : Option Addr) (c : Nat) (xs : List A15), v = .slice p xs.length c ∧ xs.length ≤ 9223372036854775807 ∧ (∀ x ∈ xs, x.Has (memOf W)) ∧ ListAt (memOf W) p 12 A15.vals xs := by
  obtain ⟨p, c, xs, rfl, h1, h2, hq, hat⟩ := h.list (sz := 12) Tryz.underlying22 (by kernel_rfl) (by decide) fun cs => reads_a15
  exact ⟨p, c, xs, rfl, by have : maxLen ≤ 9223372036854775807 := by decide
                           omega, hq, hat⟩
end Go.Proofs.YtgdhaledfjnfgaaGreatDoor

namespace Go.Proofs.YtgdhaledfjnfgaaGreatDoor
open Go
def allO (o : Option Vw) : List Req := (o.map Vw.all).getD []
def LogOR (f : Frag) (A : List HP) (o : Option Vw) : Value → Frag → List HP → Prop := fun v f' A' => ∃ (p : Option Addr) (c : Nat), v = .tuple #[.slice p (allO o).length c, .bool o.isSome] ∧ f' = f ∧ A' = slc p (allO o).length c 44 40 ((allO o).flatMap Req.vals) :: A
section
variable (f : Frag) (F : List HP)
theorem pllog_no {fl : Frag} {lb : Nat} {l : Lgs} {v : Int} (hat : vwAt l.vs v = none) :
  Fn Tryz.prog 21 [.pointer (some ⟨lb, 0, none⟩), .int .u64 v] f (plogH fl lb l :: F) (Ret (.tuple #[.slice none 0 0, .bool false]) f (plogH fl lb l :: F)) := by
 refine Fn.unpack fun i hi => ?_;have hvs := hi.vs;obtain ⟨V, vb, pp, pc, cp, cc, pb, cs⟩ := i
 have hvs : (V.map PV.w).Perm l.vs := hvs; have hget : (getKV (V.map PV.ent) v).getD (.pointer none) = .pointer none := by rw [view_none hvs hat]; rfl
 refine qcV ?_;refine Fn.e2 Tryz.func21 Tryz.ntmps21 fun base => ?_;refine gG ?_;refine qeM ?_;refine gR ?_;refine qdv ?_;exact qbz
theorem pllogO_fn {fl : Frag} {lb : Nat} {l : Lgs} {T : Nat} (hL : LI l T) (hT : T ≤ 50000) (v : Int) :
  Fn Tryz.prog 21 [.pointer (some ⟨lb, 0, none⟩), .int .u64 v] f (plogH fl lb l :: F) (LogOR f (plogH fl lb l :: F) (l.vw v)) := by
 cases hv : l.vw v with
 | none =>
  intro base w s;have h := pllog_no f F (fl := fl) (lb := lb) (vw_none.1 hv) base w s;refine h.mono ?_
  rintro e w' ⟨x, f', A', rfl, ⟨rfl, rfl, rfl⟩, s'⟩;refine ⟨_, _, slc none 0 0 44 40 [] :: plogH fl lb l :: F, rfl, ⟨none, 0, rfl, rfl, rfl⟩, s'.imp fun h hh => ⟨nil0, h, (Dj.nil h).symm, (nil_un h).symm, slc_nil none 44 40, hh⟩⟩
 | some w =>
  obtain ⟨i, h1, h2⟩ := vw_at hv;exact (pllog_fn f F hL hT h1 h2).mono fun _ _ _ h => h
end
open Go.Sort (bitsLen PermIn SortedIn Below ltInt swo_ltInt sorted_unique_holds)
theorem list_arr (xs : List Int) : xs.flatMap uV = arr xs.toArray := rfl
theorem sorted_eq : ∀ {ys zs : List Int}, ys.Perm zs → zs.Pairwise (· < ·) → ys.Pairwise (· ≤ ·) → ys = zs
 | [], zs, h, _, _ => h.nil_eq
 | y :: ys, [], h, _, _ => absurd h.length_eq (by simp)
 | y :: ys, z :: zs, h, hz, hy => by
  rw [List.pairwise_cons] at hz hy
  have e : y = z := by
   have h1 : z ∈ y :: ys := h.mem_iff.2 (by simp);have h2 : y ∈ z :: zs := h.mem_iff.1 (by simp)
   rcases List.mem_cons.1 h1 with h1 | h1
   ·exact h1.symm
   ·rcases List.mem_cons.1 h2 with h2 | h2
    ·exact h2
    ·have := hy.1 z h1; have := hz.1 y h2; omega
  subst e
  rw [sorted_eq ((List.perm_cons y).1 h) hz.2 hy.2]
def unseenU (es : List (Int × Value × Nat)) (seen : List Int) : Nat := (es.filter fun e => !seen.contains e.1).length
theorem unseenU_lt : ∀ {es : List (Int × Value × Nat)} {seen : List Int} {e : Int × Value × Nat}, e ∈ es → e.1 ∉ seen → unseenU es (e.1 :: seen) < unseenU es seen := fun {es seen e} he hn => by
 have hle : ∀ l : List (Int × Value × Nat), (l.filter fun x => !(e.1 :: seen).contains x.1).length ≤ (l.filter fun x => !seen.contains x.1).length := fun l => by
  induction l with
  | nil => exact Nat.le_refl _
  | cons x r ih =>
   by_cases h1 : x.1 ∈ seen
   ·rw [List.filter_cons_of_neg (by simp [h1]), List.filter_cons_of_neg (by simp [h1])]; exact ih
   ·by_cases h2 : x.1 = e.1
    ·rw [List.filter_cons_of_neg (by simp [h2]), List.filter_cons_of_pos (by simp [h1])]; simp only [List.length_cons]; omega
    ·rw [List.filter_cons_of_pos (by simp [h1, h2]), List.filter_cons_of_pos (by simp [h1])]; simp only [List.length_cons]; omega
 obtain ⟨a, b, rfl⟩ := List.append_of_mem he
 unfold unseenU
 rw [List.filter_append, List.filter_append, List.filter_cons_of_neg (p := fun x : Int × Value × Nat => !(e.1 :: seen).contains x.1) (by simp), List.filter_cons_of_pos (p := fun x : Int × Value × Nat => !seen.contains x.1) (by simp [hn]), List.length_append, List.length_append, List.length_cons]
 have := hle a
 have := hle b
 omega
theorem nodup_len : ∀ {s l : List Int}, s.Nodup → (∀ k ∈ s, k ∈ l) → s.length ≤ l.length
 | [], _, _, _ => Nat.zero_le _
 | k :: s, l, hn, hs => by
  rw [List.nodup_cons] at hn
  obtain ⟨a, b, rfl⟩ := List.append_of_mem (hs k (by simp))
  have := nodup_len (l := a ++ b) hn.2 fun j hj => by
   have h1 := hs j (List.mem_cons_of_mem _ hj)
   rw [List.mem_append, List.mem_cons] at h1
   rw [List.mem_append]
   rcases h1 with h1 | h1 | h1
   ·exact .inl h1
   ·exact absurd (h1 ▸ hj) hn.1
   ·exact .inr h1
  rw [List.length_append] at this
  rw [List.length_append, List.length_cons, List.length_cons]
  omega
theorem YieldFn.exI {P : Program} {lp : Nat} {args : List Value} {f : Frag} {α : Type} {g : α → HP} {A : List HP} {R : Value → Frag → List HP → Prop} (h : ∀ x, YieldFn P lp args f (g x :: A) R) : YieldFn P lp args f (ex g :: A) R := fun base w s => by
 obtain ⟨m, ⟨m1, m2, d, e, ⟨x, hx⟩, h2⟩, hd, hw⟩ := s.mem
 exact h x base w ⟨s.os, s.tape, s.output, s.size, s.imm, m, ⟨m1, m2, d, e, hx, h2⟩, hd, hw⟩
section
variable (f : Frag) (F : List HP)
def SrtL (f : Frag) (F : List HP) (p : Option Addr) (n c : Nat) (xs : List Int) : Value → Frag → List HP → Prop := fun v f' A' => ∃ ys : List Int, ys.Perm xs ∧ ys.Pairwise (· ≤ ·) ∧ v = .tuple #[] ∧ f' = f ∧ A' = slc p n c 31 1 (ys.flatMap uV) :: F
theorem sortU_fn {p : Option Addr} {n c : Nat} {xs : List Int} (hx : xs.length = n) (hn : n ≤ 255) :
  Fn Tryz.prog 69 [.slice p n c] f (slc p n c 31 1 (xs.flatMap uV) :: F) (SrtL f F p n c xs) := by
 have hl := fun G => len_fn f G (x := n) (by omega);have hb8 : bitsLen n ≤ 8 := (tab8 ⟨n, by omega⟩).2.2.2
 have hs := pdq_fn f F n (p := p) (n := n) (c := c) (a0 := 0) (b0 := n) (lim0 := (bitsLen n : Nat)) (d0 := xs.toArray) (by simpa using hx) hn (Nat.zero_le _) (Nat.le_refl _) (by omega) (.inl rfl) (by omega)
 have hun : ∀ d : Array Int, PermIn 0 n xs.toArray d → SortedIn ltInt 0 n d → d.toList.Perm xs ∧ d.toList.Pairwise (· ≤ ·) := fun d h1 h2 => by
  have hdn : d.size = n := h1.1.trans (by simpa using hx); have e : xs.toArray.size = n := by simpa using hx
  refine ⟨?_, ?_⟩
  ·have := sorted_unique_holds swo_ltInt (fun x y h1 h2 => by simp only [ltInt, decide_eq_false_iff_not] at h1 h2; omega) xs.toArray d (by rw [e]; exact h1) (by rw [e]; exact h2);rw [this]
   exact List.mergeSort_perm _ _
  ·rw [List.pairwise_iff_getElem];intro i j hi hj hij;have h3 := h2 i j (Nat.zero_le _) hij (by rw [← hdn]; simpa using hj); have hi' : i < d.size := by simpa using hi
   have hj' : j < d.size := by simpa using hj
   rw [getElem!_pos d i hi', getElem!_pos d j hj'] at h3;simp only [ltInt, decide_eq_false_iff_not] at h3;simp only [Array.getElem_toList];omega
 rw [list_arr];refine Fn.e1 Tryz.func69 Tryz.ntmps69 fun base => ?_;refine gV ?_;refine H.Ad rfl rfl rfl (hl _) ?_;skip;refine H.Aw rfl rfl rfl hs fun v f' A' hR => ?_;obtain ⟨d, h1, h2, rfl, hff, rfl⟩ := hR;rw [hff];obtain ⟨h3, h4⟩ := hun d h1 h2;refine gA ?_;exact H.end0 rfl (fun _ h => h) ⟨d.toList, h3, h4, rfl, rfl, rfl⟩
theorem keys_fn {vb : Nat} : Fn Tryz.prog 56 [.map (some vb)] f F
  (RetE (α := Nat) (fun b => .func (.func 89) #[] #[.pointer (some ⟨b, 0, none⟩)]) f (fun b => row b 109 [.map (some vb)] :: F)) := by
 refine Fn.e1 Tryz.func56 Tryz.ntmps56 fun base => ?_;refine gA ?_;refine H.box (ls := [.map (some vb)]) rfl rfl rfl rfl fun b => ?_;refine gR ?_;exact H.Ac rfl rfl (fun _ h => h) ⟨b, rfl, rfl, rfl⟩
set_option maxHeartbeats 1600000 in
theorem keys1_fn {lp mb vb : Nat} {m : List (Int × Value)} {X : List Int → HP} (hnd : (m.map (·.1)).Nodup)
  (hY : ∀ (acc : List Int) (k : Int) (G : List HP), acc.length ≤ m.length → YieldFn Tryz.prog lp [.int .u64 k] f (X acc :: G) (fun v g B => v = .bool true ∧ g = f ∧ B = X (acc ++ [k]) :: G)) :
  Fn Tryz.prog 89 ([] ++ [.func (.yield lp) #[] #[]] ++ [.pointer (some ⟨mb, 0, none⟩)]) f (mp vb keyU m :: X [] :: row mb 109 [.map (some vb)] :: F)
   (RetE (α := { ks : List Int // ks.Perm (m.map (·.1)) }) (fun _ => .tuple #[]) f (fun ks => X ks.1 :: row mb 109 [.map (some vb)] :: mp vb keyU m :: F)) := by
 refine Fn.openMap fun es clock hes => ?_
 have hkeys : m.map (·.1) = es.map (·.1) := by
  rw [← hes, List.map_map];rfl
 refine Fn.e2 Tryz.func89 Tryz.ntmps89 fun base => ?_;refine gE ?_;refine H.range rfl rfl (by repeat constructor) rfl fun rb => ?_;refine gT ?_;refine H.pf (x := X _) ?_
 refine H.Ar (ι := List Int) (fun _ => [(5, .pointer (some ⟨rb, 0, none⟩)), (0, .func (.yield lp) #[] #[])]) (fun _ => f)
  (fun s => X s.reverse :: itr rb vb es clock s :: mpS vb keyU es clock :: row mb 109 [.map (some vb)] :: F) (fun s => s.Nodup ∧ ∀ k ∈ s, k ∈ es.map (·.1)) (fun s => unseenU es s) [] ⟨List.nodup_nil, fun k h => by cases h⟩ ⟨rfl, rfl, trivial⟩ rfl rfl fun s hs => ?_
 obtain ⟨hsn, hsk⟩ : s.Nodup ∧ ∀ k ∈ s, k ∈ es.map (·.1) := hs;show H _ _ _ [(5, _), _] f (X s.reverse :: itr rb vb es clock s :: _ :: _ :: F) _;refine gA ?_;refine H.next rfl rfl (by repeat constructor) (by repeat constructor) (fun _ => (by repeat constructor)) rfl (fun hend => ?_) (fun e he hns => ?_)
 ·have hp : s.reverse.Perm (m.map (·.1)) := by
   refine (List.reverse_perm s).trans ((List.perm_ext_iff_of_nodup hsn hnd).2 fun k => ?_);rw [hkeys];refine ⟨hsk k, fun hk => ?_⟩;obtain ⟨e, he, rfl⟩ := List.mem_map.1 hk;exact hend e he
  refine gW ?_;refine H.pd (x := itr _ _ _ _ _) ?_;refine H.pf (x := mpS _ _ _ _) ?_;refine H.imp mpS_fold ?_;rw [hes];refine qdw ?_;refine H.pf (x := X _) ?_;exact H.end0 rfl (fun _ h => h) ⟨⟨s.reverse, hp⟩, rfl, rfl, rfl⟩
 ·skip;refine gR ?_;refine H.entry rfl rfl (by repeat constructor) (by repeat constructor) he rfl ?_
  iterate 5 ( first
   | ((first | apply H.Ag | apply H.Al | apply H.Bf | apply H.Bn | apply H.Bw | apply H.Ce); (iterate 3 exact rfl))
   | (apply H.Av; (iterate 3 exact rfl); exact inferInstance; exact rfl)
   | (apply H.Ab; (iterate 3 exact rfl); apply Rd1.ofRow; (repeat (first | exact .here _ _ _ | apply At.there)); (iterate 2 exact rfl))
   | (first | apply H.seq | apply H.Am | apply H.nil | apply H.Ao)
   | ((first | apply H.cmp | apply H.Ax); (iterate 5 exact rfl))
   | ((first | (apply H.ar; (iterate 4 exact rfl)) | (apply H.Bg; (iterate 2 exact rfl))); (first | (with_reducible apply zau; omega) | (with_reducible apply zaq; omega) | (with_reducible apply zaw; omega) | (with_reducible apply wr_i64; omega) | (with_reducible apply wr_u64; omega) | (with_reducible apply wr_u8; omega) | (with_reducible apply wr_u16; omega) | rfl); exact rfl)
   | (apply H.Bq; (iterate 2 exact rfl))
   | (apply H.pass0; exact rfl)
   | (apply H.Bp; (iterate 4 exact rfl))
   | ((first | apply H.Bd | apply H.Ca | apply H.not | apply H.Cp); (iterate 4 exact rfl))
   | ((first | apply H.Cl | apply H.Cn); (iterate 5 exact rfl))
   | (apply H.Bc; (iterate 4 exact rfl); (repeat (first | exact .here _ _ _ | apply At.there)); (repeat (first | exact .here _ _ _ | apply SetV.there)))
   | (apply H.Co; exact rfl)
   | (apply H.Cj; exact rfl)
   | (first | apply H.Bk | apply H.ret | apply H.Cd | apply H.Cc | apply H.exit | apply H.Bb | apply H.Bz | apply H.Ch | apply H.Cb | apply H.Ci | apply H.Cf)
   | (apply H.Cw; exact rfl)
   | (apply H.Br; (iterate 3 exact rfl); (first | assumption | omega))
   | (apply H.gno; (iterate 3 exact rfl); (first | assumption | omega))
   | (apply H.Bo; exact rfl; (first | assumption | omega))
   | (apply H.Bu; exact rfl; (first | assumption | omega))
   | ((first | apply H.gtrue); (iterate 3 exact rfl); assumption)
   | (apply H.gfalse; (iterate 3 exact rfl); assumption)
   | (apply H.cond_t; exact rfl; assumption)
   | (apply H.cond_f; exact rfl; assumption) )
  refine H.regionY ?_
  have hlen : s.reverse.length ≤ m.length := by
   have h1 := nodup_len hsn hsk;rw [List.length_map] at h1
   rw [List.length_reverse, ← hes, List.length_map];exact h1
  refine H.inOp (by with_reducible (repeat (first | exact zbd | exact zay | exact zam | exact zao | refine zax ?_ | refine zan ?_ | refine zat ?_ | refine zas ?_ | refine zbe ?_))) ?_;refine gH ?_;refine H.Cq ?_;refine H.inOp (by with_reducible (repeat (first | exact zbd | exact zay | exact zam | exact zao | refine zax ?_ | refine zan ?_ | refine zat ?_ | refine zas ?_ | refine zbe ?_))) ?_;refine gH ?_;refine H.Cq ?_;refine H.pf (x := X _) ?_;refine H.yield rfl rfl rfl rfl (hY s.reverse e.1 _ hlen) fun v f' A' hR => ?_;obtain ⟨rfl, hff, rfl⟩ := hR;rw [hff];clear hff;refine H.inOp (by with_reducible (repeat (first | exact zbd | exact zay | exact zam | exact zao | refine zax ?_ | refine zan ?_ | refine zat ?_ | refine zas ?_ | refine zbe ?_))) ?_;refine gR ?_;refine H.Cq ?_;refine H.inNil ?_;refine gV ?_;refine H.pf (x := mpS _ _ _ _) ?_;refine H.pf (x := itr _ _ _ _ _) ?_;refine H.pf (x := X _) ?_;refine H.Ah (e.1 :: s) ⟨List.nodup_cons.2 ⟨hns, hsn⟩, fun k hk => ?_⟩ (unseenU_lt he hns) ⟨rfl, rfl, trivial⟩ rfl ?_
  ·rcases List.mem_cons.1 hk with h | h
   ·rw [h]; exact List.mem_map.2 ⟨e, he, rfl⟩
   ·exact hsk k h
  ·show _ = X (e.1 :: s).reverse :: _;rw [List.reverse_cons]
def ColP (f : Frag) (F : List HP) (mb vb : Nat) (m : List (Int × Value)) : Value → Frag → List HP → Prop := fun v f' A' => ∃ (ks : List Int) (p : Option Addr) (c : Nat), ks.Perm (m.map (·.1)) ∧ v = .slice p ks.length c ∧ f' = f ∧ A' = slc p ks.length c 31 1 (ks.flatMap uV) :: row mb 109 [.map (some vb)] :: mp vb keyU m :: F
def accH (LH D : HP) (sb : Nat) (acc : List Int) : HP := ex fun pc : Option Addr × Nat => stars [LH, D, row sb 63 [.slice pc.1 acc.length pc.2], slc pc.1 acc.length pc.2 31 1 (acc.flatMap uV)]
theorem acc_in {LH D : HP} {sb : Nat} {acc : List Int} (p : Option Addr) (c : Nat) {A : List HP} : ∀ h, stars (LH :: D :: row sb 63 [.slice p acc.length c] :: slc p acc.length c 31 1 (acc.flatMap uV) :: A) h → stars (accH LH D sb acc :: A) h := fun h hh => by
 have := pack_all [LH, D, row sb 63 [.slice p acc.length c], slc p acc.length c 31 1 (acc.flatMap uV)] A h hh
 obtain ⟨m1, m2, d, e, a, r⟩ := this
 exact ⟨m1, m2, d, e, ⟨(p, c), a⟩, r⟩
def acc2 (D : HP) (sb : Nat) (acc : List Int) : HP := ex fun pc : Option Addr × Nat => stars [D, row sb 63 [.slice pc.1 acc.length pc.2], slc pc.1 acc.length pc.2 31 1 (acc.flatMap uV)]
theorem acc_out {LH D : HP} {sb : Nat} {acc : List Int} {A : List HP} : ∀ h, stars (accH LH D sb acc :: A) h → stars (LH :: acc2 D sb acc :: A) h := fun h ⟨m1, m2, d, e, ⟨pc, a⟩, r⟩ => by
 obtain ⟨m3, m4, d2, e2, a2, r2⟩ := a
 rw [e2] at d e
 have d3 := Dj.un_left.1 d
 exact ⟨m3, un m4 m2, Dj.un_right.2 ⟨d2, d3.1⟩, by rw [e, un_assoc], a2, m4, m2, d3.2, rfl, ⟨pc, r2⟩, r⟩
set_option maxHeartbeats 1600000 in
theorem appendSeq_fn {mb vb : Nat} {m : List (Int × Value)} (hnd : (m.map (·.1)).Nodup) (hm : m.length ≤ 1000000) :
  Fn Tryz.prog 127 [.slice none 0 0, .func (.func 89) #[] #[.pointer (some ⟨mb, 0, none⟩)]] f (row mb 109 [.map (some vb)] :: mp vb keyU m :: F) (ColP f F mb vb m) := by
 refine Fn.enterM Tryz.func127 rfl Tryz.ntmps127 rfl (L := [(0, _), (1, _)]) ⟨rfl, rfl, trivial⟩ fun base => ?_;refine gA ?_;refine H.box (ls := [.slice none 0 0]) rfl rfl rfl rfl fun sb => ?_;refine gT ?_;refine H.slc0 31 1 ?_;refine H.pf (x := row sb _ _) ?_;refine H.sub (L' := [(6, .func (.func 89) #[] #[.pointer (some ⟨mb, 0, none⟩)]), (2, .pointer (some ⟨sb, 0, none⟩))]) ⟨rfl, rfl, trivial⟩ ?_;refine H.rangeFuncE (f' := f) (fs := []) (cs := [.pointer (some ⟨mb, 0, none⟩)]) rfl rfl fun LH hLH => ⟨{ ks : List Int // ks.Perm (m.map (·.1)) }, fun i D => acc2 (pts D (.deferred (some []))) sb i.1 :: row mb 109 [.map (some vb)] :: mp vb keyU m :: F, fun D lp => ?_, fun i D => ?_⟩
 ·refine Fn.wrap (A1 := mp vb keyU m :: accH (LH D lp .ready) (pts D (.deferred (some []))) sb [] :: row mb 109 [.map (some vb)] :: F) (fun h hh => ?_) (keys1_fn f F (X := accH (LH D lp .ready) (pts D (.deferred (some []))) sb) hnd fun acc k G hacc => ?_) fun v g B hR => ?_
  ·have h1 := acc_in (acc := []) none 0 h hh;rw [Pull.eq (x := mp vb keyU m) (.there _ (.there _ (.here _ _)))] at h1
   exact h1
  ·refine YieldFn.exI fun pc => ?_;obtain ⟨p, c⟩ := pc;refine YieldFn.wrap (R1 := fun v g B => ∃ (p2 : Option Addr) (c2 : Nat), v = .bool true ∧ g = f ∧ B = LH D lp .ready :: pts D (.deferred (some [])) :: row sb 63 [.slice p2 (acc ++ [k]).length c2] :: slc p2 (acc ++ [k]).length c2 31 1 ((acc ++ [k]).flatMap uV) :: G) (open_all _ _) ?_ ?_
   ·subst hLH;refine YieldFn.of rfl rfl rfl rfl fun base => ?_
    repeat (
     first | (
      first
     | (first | apply H.seqR | apply H.thenR | apply H.skipR | apply H.blockR)
     | (apply H.regionR; exact rfl; exact (by with_reducible (repeat (first | exact zbd | exact zay | exact zam | exact zao | refine zax ?_ | refine zan ?_ | refine zat ?_ | refine zas ?_ | refine zbe ?_))))
     | (apply H.Cy; exact rfl)
     | (apply H.Cx; exact rfl)
     | (apply H.Cz; exact rfl; (first | assumption | omega))
     | (apply H.condR_no; exact rfl; (first | assumption | omega))) | (
      first
     | ((first | apply H.Ag | apply H.Al | apply H.Bf | apply H.Bn | apply H.Bw | apply H.Ce); (iterate 3 exact rfl))
     | (apply H.Av; (iterate 3 exact rfl); exact inferInstance; exact rfl)
     | (apply H.Ab; (iterate 3 exact rfl); apply Rd1.ofRow; (repeat (first | exact .here _ _ _ | apply At.there)); (iterate 2 exact rfl))
     | (first | apply H.seq | apply H.Am | apply H.nil | apply H.Ao)
     | ((first | apply H.cmp | apply H.Ax); (iterate 5 exact rfl))
     | ((first | (apply H.ar; (iterate 4 exact rfl)) | (apply H.Bg; (iterate 2 exact rfl))); (first | (with_reducible apply zau; omega) | (with_reducible apply zaq; omega) | (with_reducible apply zaw; omega) | (with_reducible apply wr_i64; omega) | (with_reducible apply wr_u64; omega) | (with_reducible apply wr_u8; omega) | (with_reducible apply wr_u16; omega) | rfl); exact rfl)
     | (apply H.Bq; (iterate 2 exact rfl))
     | (apply H.pass0; exact rfl)
     | (apply H.Bp; (iterate 4 exact rfl))
     | ((first | apply H.Bd | apply H.Ca | apply H.not | apply H.Cp); (iterate 4 exact rfl))
     | ((first | apply H.Cl | apply H.Cn); (iterate 5 exact rfl))
     | (apply H.Bc; (iterate 4 exact rfl); (repeat (first | exact .here _ _ _ | apply At.there)); (repeat (first | exact .here _ _ _ | apply SetV.there)))
     | (apply H.Co; exact rfl)
     | (apply H.Cj; exact rfl)
     | (first | apply H.Bk | apply H.ret | apply H.Cd | apply H.Cc | apply H.exit | apply H.Bb | apply H.Bz | apply H.Ch | apply H.Cb | apply H.Ci | apply H.Cf)
     | (apply H.Cw; exact rfl)
     | (apply H.Br; (iterate 3 exact rfl); (first | assumption | omega))
     | (apply H.gno; (iterate 3 exact rfl); (first | assumption | omega))
     | (apply H.Bo; exact rfl; (first | assumption | omega))
     | (apply H.Bu; exact rfl; (first | assumption | omega))
     | ((first | apply H.gtrue); (iterate 3 exact rfl); assumption)
     | (apply H.gfalse; (iterate 3 exact rfl); assumption)
     | (apply H.cond_t; exact rfl; assumption)
     | (apply H.cond_f; exact rfl; assumption)))
    refine H.begin ?_
    repeat (
     first | (
      first
     | (first | apply H.seqR | apply H.thenR | apply H.skipR | apply H.blockR)
     | (apply H.regionR; exact rfl; exact (by with_reducible (repeat (first | exact zbd | exact zay | exact zam | exact zao | refine zax ?_ | refine zan ?_ | refine zat ?_ | refine zas ?_ | refine zbe ?_))))
     | (apply H.Cy; exact rfl)
     | (apply H.Cx; exact rfl)
     | (apply H.Cz; exact rfl; (first | assumption | omega))
     | (apply H.condR_no; exact rfl; (first | assumption | omega))) | (
      first
     | ((first | apply H.Ag | apply H.Al | apply H.Bf | apply H.Bn | apply H.Bw | apply H.Ce); (iterate 3 exact rfl))
     | (apply H.Av; (iterate 3 exact rfl); exact inferInstance; exact rfl)
     | (apply H.Ab; (iterate 3 exact rfl); apply Rd1.ofRow; (repeat (first | exact .here _ _ _ | apply At.there)); (iterate 2 exact rfl))
     | (first | apply H.seq | apply H.Am | apply H.nil | apply H.Ao)
     | ((first | apply H.cmp | apply H.Ax); (iterate 5 exact rfl))
     | ((first | (apply H.ar; (iterate 4 exact rfl)) | (apply H.Bg; (iterate 2 exact rfl))); (first | (with_reducible apply zau; omega) | (with_reducible apply zaq; omega) | (with_reducible apply zaw; omega) | (with_reducible apply wr_i64; omega) | (with_reducible apply wr_u64; omega) | (with_reducible apply wr_u8; omega) | (with_reducible apply wr_u16; omega) | rfl); exact rfl)
     | (apply H.Bq; (iterate 2 exact rfl))
     | (apply H.pass0; exact rfl)
     | (apply H.Bp; (iterate 4 exact rfl))
     | ((first | apply H.Bd | apply H.Ca | apply H.not | apply H.Cp); (iterate 4 exact rfl))
     | ((first | apply H.Cl | apply H.Cn); (iterate 5 exact rfl))
     | (apply H.Bc; (iterate 4 exact rfl); (repeat (first | exact .here _ _ _ | apply At.there)); (repeat (first | exact .here _ _ _ | apply SetV.there)))
     | (apply H.Co; exact rfl)
     | (apply H.Cj; exact rfl)
     | (first | apply H.Bk | apply H.ret | apply H.Cd | apply H.Cc | apply H.exit | apply H.Bb | apply H.Bz | apply H.Ch | apply H.Cb | apply H.Ci | apply H.Cf)
     | (apply H.Cw; exact rfl)
     | (apply H.Br; (iterate 3 exact rfl); (first | assumption | omega))
     | (apply H.gno; (iterate 3 exact rfl); (first | assumption | omega))
     | (apply H.Bo; exact rfl; (first | assumption | omega))
     | (apply H.Bu; exact rfl; (first | assumption | omega))
     | ((first | apply H.gtrue); (iterate 3 exact rfl); assumption)
     | (apply H.gfalse; (iterate 3 exact rfl); assumption)
     | (apply H.cond_t; exact rfl; assumption)
     | (apply H.cond_f; exact rfl; assumption)))
    show H _ _ _ _ f (_ :: pts D _ :: row sb _ [.slice p acc.length c] :: slc p acc.length c _ 1 (acc.flatMap uV) :: G) _;refine H.Be (out := uV k) rfl rfl rfl rfl (by decide) (by decide) rfl rfl fun eb => ?_;refine H.Bi (sz := 1) (p := p) (n0 := acc.length) (c := c) (xs := acc.flatMap uV) (m := 1) (news := uV k) rfl rfl rfl rfl rfl (fun p' c' => .there _ (.there _ (.there _ (.there _ (.here _ _ _))))) (Src.slice (Rd.ofRow (.here _ _ _)) rfl) (zaa rfl) rfl (by omega) (by omega) fun p2 c2 => ?_;refine H.Bc rfl rfl rfl rfl (.there _ (.there _ (.there _ (.here _ _ _)))) (.here _ _ _) ?_;refine qdt ?_
    repeat (
     first | (
      first
     | (first | apply H.seqR | apply H.thenR | apply H.skipR | apply H.blockR)
     | (apply H.regionR; exact rfl; exact (by with_reducible (repeat (first | exact zbd | exact zay | exact zam | exact zao | refine zax ?_ | refine zan ?_ | refine zat ?_ | refine zas ?_ | refine zbe ?_))))
     | (apply H.Cy; exact rfl)
     | (apply H.Cx; exact rfl)
     | (apply H.Cz; exact rfl; (first | assumption | omega))
     | (apply H.condR_no; exact rfl; (first | assumption | omega))) | (
      first
     | ((first | apply H.Ag | apply H.Al | apply H.Bf | apply H.Bn | apply H.Bw | apply H.Ce); (iterate 3 exact rfl))
     | (apply H.Av; (iterate 3 exact rfl); exact inferInstance; exact rfl)
     | (apply H.Ab; (iterate 3 exact rfl); apply Rd1.ofRow; (repeat (first | exact .here _ _ _ | apply At.there)); (iterate 2 exact rfl))
     | (first | apply H.seq | apply H.Am | apply H.nil | apply H.Ao)
     | ((first | apply H.cmp | apply H.Ax); (iterate 5 exact rfl))
     | ((first | (apply H.ar; (iterate 4 exact rfl)) | (apply H.Bg; (iterate 2 exact rfl))); (first | (with_reducible apply zau; omega) | (with_reducible apply zaq; omega) | (with_reducible apply zaw; omega) | (with_reducible apply wr_i64; omega) | (with_reducible apply wr_u64; omega) | (with_reducible apply wr_u8; omega) | (with_reducible apply wr_u16; omega) | rfl); exact rfl)
     | (apply H.Bq; (iterate 2 exact rfl))
     | (apply H.pass0; exact rfl)
     | (apply H.Bp; (iterate 4 exact rfl))
     | ((first | apply H.Bd | apply H.Ca | apply H.not | apply H.Cp); (iterate 4 exact rfl))
     | ((first | apply H.Cl | apply H.Cn); (iterate 5 exact rfl))
     | (apply H.Bc; (iterate 4 exact rfl); (repeat (first | exact .here _ _ _ | apply At.there)); (repeat (first | exact .here _ _ _ | apply SetV.there)))
     | (apply H.Co; exact rfl)
     | (apply H.Cj; exact rfl)
     | (first | apply H.Bk | apply H.ret | apply H.Cd | apply H.Cc | apply H.exit | apply H.Bb | apply H.Bz | apply H.Ch | apply H.Cb | apply H.Ci | apply H.Cf)
     | (apply H.Cw; exact rfl)
     | (apply H.Br; (iterate 3 exact rfl); (first | assumption | omega))
     | (apply H.gno; (iterate 3 exact rfl); (first | assumption | omega))
     | (apply H.Bo; exact rfl; (first | assumption | omega))
     | (apply H.Bu; exact rfl; (first | assumption | omega))
     | ((first | apply H.gtrue); (iterate 3 exact rfl); assumption)
     | (apply H.gfalse; (iterate 3 exact rfl); assumption)
     | (apply H.cond_t; exact rfl; assumption)
     | (apply H.cond_f; exact rfl; assumption)))
    refine H.endRound ⟨p2, c2, rfl, rfl, ?_⟩;rw [List.length_append, List.flatMap_append];rfl
   ·rintro v g B ⟨p2, c2, rfl, rfl, rfl⟩;exact ⟨_, ⟨rfl, rfl, rfl⟩, acc_in p2 c2⟩
  ·obtain ⟨ks, rfl, rfl, rfl⟩ := hR;exact ⟨_, ⟨ks, rfl, rfl⟩, acc_out⟩
 ·show H _ _ _ _ f (acc2 (pts D (.deferred (some []))) sb i.1 :: row mb 109 [.map (some vb)] :: mp vb keyU m :: F) _;refine H.ex fun pc => ?_;obtain ⟨p, c⟩ := pc;refine H.imp (open_all [_, _, _] _) ?_;show H _ _ _ _ f (pts D (.deferred (some [])) :: row sb 63 [.slice p i.1.length c] :: slc p i.1.length c 31 1 (i.1.flatMap uV) :: _ :: _ :: F) _;refine gS ?_;refine H.pd (x := row sb _ _) ?_;exact H.retMk rfl rfl rfl (.here _ _) (fun _ h => h) ⟨i.1, p, c, i.2, rfl, rfl, rfl⟩
theorem collect_fn {mb vb : Nat} {m : List (Int × Value)} (hnd : (m.map (·.1)).Nodup) (hm : m.length ≤ 1000000) :
  Fn Tryz.prog 88 [.func (.func 89) #[] #[.pointer (some ⟨mb, 0, none⟩)]] f (row mb 109 [.map (some vb)] :: mp vb keyU m :: F) (ColP f F mb vb m) := by
 refine Fn.e1 Tryz.func88 Tryz.ntmps88 fun base => ?_;refine gH ?_;refine H.Aw rfl rfl rfl (appendSeq_fn f F hnd hm) fun v f' A' hR => ?_;obtain ⟨ks, p, c, hp, rfl, hff, rfl⟩ := hR;rw [hff];refine gT ?_;exact H.Ac rfl rfl (fun _ h => h) ⟨ks, p, c, hp, rfl, rfl, rfl⟩
def SdP (f : Frag) (F : List HP) (mb vb : Nat) (m : List (Int × Value)) (zs : List Int) : Value → Frag → List HP → Prop := fun v f' A' => ∃ (p : Option Addr) (c : Nat), v = .slice p zs.length c ∧ f' = f ∧ A' = slc p zs.length c 31 1 (zs.flatMap uV) :: row mb 109 [.map (some vb)] :: mp vb keyU m :: F
theorem sorted_fn {mb vb : Nat} {m : List (Int × Value)} {zs : List Int} (hz : (m.map (·.1)).Perm zs) (hr : zs.Pairwise (· < ·)) (hm : m.length ≤ 255) :
  Fn Tryz.prog 55 [.func (.func 89) #[] #[.pointer (some ⟨mb, 0, none⟩)]] f (row mb 109 [.map (some vb)] :: mp vb keyU m :: F) (SdP f F mb vb m zs) := by
 have hnd : (m.map (·.1)).Nodup := hz.nodup_iff.2 (hr.imp fun h => by omega);refine Fn.e1 Tryz.func55 Tryz.ntmps55 fun base => ?_
 refine gH ?_;refine H.Aw rfl rfl rfl (collect_fn f F hnd (by omega)) fun v f' A' hR => ?_;obtain ⟨ks, p, c, hp, rfl, hff, rfl⟩ := hR;rw [hff]; have hkl : ks.length ≤ 255 := by rw [hp.length_eq, List.length_map]; exact hm
 refine gH ?_;refine H.Aw rfl rfl rfl (sortU_fn f _ (p := p) (c := c) (xs := ks) rfl hkl) fun v f' A' hR => ?_;obtain ⟨ys, h1, h2, rfl, hff, rfl⟩ := hR;rw [hff];have e : ys = zs := sorted_eq (h1.trans (hp.trans hz)) hr h2; have hl : ks.length = zs.length := by rw [hp.length_eq, hz.length_eq]
 subst e;rw [hl];refine gT ?_;exact qct
def viewsU (l : Lgs) : List Int := l.vs.map Vw.v
def ViewsP (f : Frag) (A : List HP) (l : Lgs) : Value → Frag → List HP → Prop := fun v f' A' => ∃ (p : Option Addr) (c : Nat), v = .slice p (viewsU l).length c ∧ f' = f ∧ A' = slc p (viewsU l).length c 31 1 ((viewsU l).flatMap uV) :: A
theorem plviews_fn {fl : Frag} {lb : Nat} {l : Lgs} {T : Nat} (hL : LI l T) (hT : T ≤ 254) :
  Fn Tryz.prog 22 [.pointer (some ⟨lb, 0, none⟩)] f (plogH fl lb l :: F) (ViewsP f (plogH fl lb l :: F) l) := by
 refine Fn.unpack fun i hi => ?_;have hvs := hi.vs;have hvl := hL.vl
 obtain ⟨V, vb, pp, pc, cp, cc, pb, cs⟩ := i;have hvs : (V.map PV.w).Perm l.vs := hvs;have hVl := perm_len hvs
 have hz : ((V.map PV.ent).map (·.1)).Perm (viewsU l) := by
  have := hvs.map Vw.v;rw [List.map_map] at this ⊢
  exact this
 refine qcV ?_;refine Fn.e1 Tryz.func22 Tryz.ntmps22 fun base => ?_;refine gS ?_;refine H.callE rfl rfl rfl (keys_fn f _) fun mb => ?_;skip;refine H.pf (x := mp vb _ _) ?_;refine qdw ?_;refine H.Aw rfl rfl rfl (sorted_fn f _ hz hL.rise (by rw [List.length_map]; omega)) fun v f' A' hR => ?_;obtain ⟨p2, c2, rfl, hff, rfl⟩ := hR;rw [hff];refine qgr ?_;refine qgM ?_;exact H.Ac rfl rfl (fun _ h => h) ⟨p2, c2, rfl, rfl, rfl⟩
end
section
variable (f : Frag) (F : List HP)
theorem sameR_fn {pa pb : Option Addr} {ca cb : Nat} {xs : List Req} (hA : ListAt f pa 40 Req.vals xs) (hB : ListAt f pb 40 Req.vals xs) (hl : xs.length ≤ 1000000) :
  Fn Tryz.prog 23 [.slice pa xs.length ca, .slice pb xs.length cb] f F (Ret (.bool true) f F) := by
 refine Fn.e2 Tryz.func23 Tryz.ntmps23 fun base => ?_;refine gZ ?_;refine H.Ar (ι := Nat) (fun i => [(5, .int .i64 (i : Int)), (0, .slice pa xs.length ca), (1, .slice pb xs.length cb)]) (fun _ => f) (fun _ => F) (fun i => i ≤ xs.length) (fun i => xs.length - i) 0 (Nat.zero_le _) ⟨rfl, rfl, rfl, trivial⟩ rfl rfl fun i hi => ?_;have hi : i ≤ xs.length := hi;by_cases hlt : i < xs.length
 ·obtain ⟨y, hy⟩ : ∃ y, xs[i]? = some y := ⟨_, List.getElem?_eq_getElem hlt⟩;obtain ⟨b, off, cs, T, fr, rfl, hfb, hcs⟩ := hA i y hy;obtain ⟨b2, off2, cs2, T2, fr2, rfl, hfb2, hcs2⟩ := hB i y hy;have he : eqC y.vals y.vals = true := eqC_refl rfl;refine gF ?_
  refine H.dq ?_;refine qgm ?_;refine HQ.Af (ls := y.vals) rfl rfl rfl (Rd.imm hfb hcs) rfl rfl ?_;refine qgm ?_;refine HQ.Af (ls := y.vals) rfl rfl rfl (Rd.imm hfb2 hcs2) rfl rfl ?_;refine HQ.aggNe (xs := y.vals) (ys := y.vals) (D := 4) (b := false) rfl rfl rfl rfl (by kernel_rfl) (by kernel_rfl) (by kernel_rfl) (by kernel_rfl) (by decide) (by rw [he]; rfl) rfl ?_;refine gJ ?_;refine gV ?_;exact H.Ah (i + 1) (by show i + 1 ≤ xs.length; omega) (by show xs.length - (i + 1) < xs.length - i; omega) ⟨rfl, rfl, rfl, trivial⟩ rfl rfl
 ·have e : i = xs.length := by omega
  subst e;refine gZ ?_;exact qam
end
structure Grow (l l2 : Lgs) : Prop where
 vw : ∀ v w, l.vw v = some w → ∃ w2, l2.vw v = some w2 ∧ w.all <+: w2.all
 lo : l.vs.length ≤ l2.vs.length
 hi : l2.vs.length ≤ l.vs.length + 1
theorem Grow.same {l l2 : Lgs} (h : l2.vs = l.vs) : Grow l l2 := ⟨fun v w hv => ⟨w, by rw [vw_congr h]; exact hv, List.prefix_refl _⟩, by rw [h]; exact Nat.le_refl _, by rw [h]; exact Nat.le_succ _⟩
theorem Grow.counts {l : Lgs} {T : Nat} (h : LI l T) {m : Msg} (hm : MIn l.n m) : Grow l (l.counts m).2 := by
 have hr2 := (h.counts hm).rise;rw [counts_eff h.rise] at hr2 ⊢
 cases he : l.eff m with
 | none => exact Grow.same rfl
 | some e =>
  rw [he] at hr2;show Grow l (l.app (orgI m) e);have hr2 : ((l.app (orgI m) e).vs.map Vw.v).Pairwise (· < ·) := hr2
  cases e with
  | no => exact Grow.same rfl
  | past p => exact Grow.same rfl
  | chg p c => exact Grow.same rfl
  | prep p v y =>
   refine ⟨fun u w hu => ?_, ?_, ?_⟩
   ·refine ⟨putV v y w, by rw [vw_put h.rise (v := v) (y := y) rfl u, hu]; rfl, ?_⟩;unfold putV;split
    ·show w.s ++ w.p.map Prod.snd <+: w.s ++ (w.p ++ [y]).map Prod.snd;rw [List.map_append, ← List.append_assoc];exact List.prefix_append _ _
    ·exact List.prefix_refl _
   ·show _ ≤ (l.vs.map (putV v y)).length; rw [List.length_map]; exact Nat.le_refl _
   ·show (l.vs.map (putV v y)).length ≤ _; rw [List.length_map]; exact Nat.le_succ _
  | beg p w =>
   have hlen := (zbz w l.vs).length_eq;refine ⟨fun u x hu => ?_, ?_, ?_⟩
   ·have e := vw_ins (l := l) (l2 := l.app (orgI m) (.beg p w)) (w := w) rfl hr2 u;obtain ⟨hxv, hxm⟩ := vw_v hu
    by_cases euw : u = w.v
    ·have hx2 : x ∈ insV w l.vs := (zbz w l.vs).mem_iff.1 (List.mem_cons_of_mem _ hxm);have hw2 : w ∈ insV w l.vs := (zbz w l.vs).mem_iff.1 List.mem_cons_self
     have := Vw.uniq hr2 hx2 hw2 (hxv.trans euw);subst this
     exact ⟨x, by rw [e, if_pos euw], List.prefix_refl _⟩
    ·exact ⟨x, by rw [e, if_neg euw]; exact hu, List.prefix_refl _⟩
   ·show _ ≤ (insV w l.vs).length; rw [← hlen]; exact Nat.le_succ _
   ·show (insV w l.vs).length ≤ _; rw [← hlen]; exact Nat.le_refl _
theorem rd_uV {e : Frag} {A A' : List HP} {b n c : Nat} {K : List Int} (h : At A (slc (some ⟨b, 0, none⟩) n c 31 1 (K.flatMap uV)) A' (slc (some ⟨b, 0, none⟩) n c 31 1 (K.flatMap uV))) {k : Nat} {x : Int} (hg : K[k]? = some x) : Rd1 e A b (0 + k * 1) (.int .u64 x) := by
 rw [Nat.zero_add]; exact Rd1.of (i := 0) (Rd.slcElem uV_len (by decide) h hg) rfl
section
variable (f : Frag) (F : List HP)
end
def stepV (bv : Int) (x : Option Int) (v : Int) (a : Int × Int) : Int × Int := match x with
 | none => a
 | some k => if v < bv ∧ (a.1 < v ∨ (v = a.1 ∧ a.2 < k)) then (v, k) else a
def bestV (bv : Int) (vo : Int → Option Int) : List Int → Int × Int → Int × Int
 | [], a => a
 | v :: r, a => bestV bv vo r (stepV bv (vo v) v a)
def bestW (past : Nat → PM) (bv : Int) (vs : List Int) : List (Int × Int) → Int × Int → Int × Int
 | [], a => a
 | q :: r, a => bestW past bv vs r (bestV bv (PM.voted (past (q.1 - 1).toNat).all) vs a)
theorem bestV_snoc (bv : Int) (vo : Int → Option Int) (v : Int) : ∀ (l : List Int) (a : Int × Int), bestV bv vo (l ++ [v]) a = stepV bv (vo v) v (bestV bv vo l a)
 | [], a => rfl
 | u :: l, a => bestV_snoc bv vo v l _
theorem bestW_snoc (past : Nat → PM) (bv : Int) (vs : List Int) (q : Int × Int) : ∀ (l : List (Int × Int)) (a : Int × Int), bestW past bv vs (l ++ [q]) a = bestV bv (PM.voted (past (q.1 - 1).toNat).all) vs (bestW past bv vs l a)
 | [], a => rfl
 | u :: l, a => bestW_snoc past bv vs q l _
theorem bestV_congr {bv : Int} {vo vo' : Int → Option Int} : ∀ {vs : List Int}, (∀ u ∈ vs, vo u = vo' u) → ∀ a, bestV bv vo vs a = bestV bv vo' vs a
 | [], _, _ => rfl
 | v :: r, h, a => by
  unfold bestV
  rw [h v (by simp)]
  exact bestV_congr (fun u hu => h u (List.mem_cons_of_mem _ hu)) _
theorem voted_absent : ∀ {ps : List (Int × Int)} {v : Int}, (∀ p ∈ ps, p.1 ≠ v) → PM.voted ps v = none
 | [], _, _ => rfl
 | (w, k) :: r, v, h => by
  unfold PM.voted
  rw [if_neg (fun e => h (w, k) (by simp) e.symm)]
  exact voted_absent fun p hp => h p (List.mem_cons_of_mem _ hp)
theorem bestV_eq {bv : Int} : ∀ (vs : List Int) (ps : List (Int × Int)), vs.Pairwise (· < ·) → (ps.map (·.1)).Pairwise (· < ·) → (∀ p ∈ ps, p.1 ∈ vs) → ∀ a, bestV bv (PM.voted ps) vs a = bestOf bv ps a
 | [], [], _, _, _, a => rfl
 | [], p :: ps, _, _, h, a => by have := h p (by simp); cases this
 | v :: r, [], hv, _, _, a => by
  show bestV bv (PM.voted []) r a = a
  exact bestV_eq r [] (List.pairwise_cons.1 hv).2 List.Pairwise.nil (fun p hp => by cases hp) a
 | v :: r, (w, n) :: t, hv, hp, h, a => by
  rw [List.pairwise_cons] at hv
  rw [List.map_cons, List.pairwise_cons] at hp
  have ht : ∀ p ∈ t, w < p.1 := fun p hpt => hp.1 p.1 (List.mem_map.2 ⟨p, hpt, rfl⟩)
  by_cases e : w = v
  ·subst e
   show bestV bv (PM.voted ((w, n) :: t)) r (stepV bv (PM.voted ((w, n) :: t) w) w a) = bestOf bv t (if w < bv ∧ (a.1 < w ∨ (w = a.1 ∧ a.2 < n)) then (w, n) else a)
   have e1 : PM.voted ((w, n) :: t) w = some n := by unfold PM.voted; rw [if_pos rfl]
   rw [e1, bestV_congr (vo' := PM.voted t)]
   ·exact bestV_eq r t hv.2 hp.2 (fun p hpt => by
     rcases List.mem_cons.1 (h p (List.mem_cons_of_mem _ hpt)) with h1 | h1
     ·have := ht p hpt; omega
     ·exact h1) _
   ·intro u hu
    have := hv.1 u hu
    show (if u = w then _ else _) = _
    rw [if_neg (by omega)]
  ·have hw : w ∈ r := by
    rcases List.mem_cons.1 (h (w, n) (by simp)) with h1 | h1
    ·exact absurd h1 e
    ·exact h1
   have hvw := hv.1 w hw
   have hno : ∀ p ∈ (w, n) :: t, v < p.1 := fun p hpt => by
    rcases List.mem_cons.1 hpt with h1 | h1
    ·rw [h1]; exact hvw
    ·have := ht p h1; omega
   show bestV bv (PM.voted ((w, n) :: t)) r (stepV bv (PM.voted ((w, n) :: t) v) v a) = _
   rw [voted_absent fun p hpt e2 => by have := hno p hpt; omega]
   exact bestV_eq r ((w, n) :: t) hv.2 (by rw [List.map_cons, List.pairwise_cons]; exact hp) (fun p hpt => by
    rcases List.mem_cons.1 (h p hpt) with h1 | h1
    ·have := hno p hpt; omega
    ·exact h1) _
structure BegF (n : Nat) (l : Lgs) (m : Msg) (b : Int × Int) : Prop where
 ql : m.body.q.length = (n - 1) / 2 + 1
 qd : ∀ q ∈ m.body.q, q.2 ≤ m.deps (q.1 - 1).toNat
 best : bestW l.past m.body.view (viewsU l) m.body.q (0, 0) = b
 lo : 0 ≤ b.2
 s : ∃ w w2, l.vw m.body.view = some w ∧ l.vw b.1 = some w2 ∧ w.all.length = b.2.toNat ∧ w.all = w2.all.take b.2.toNat ∧ b.2.toNat ≤ w2.all.length
 vote : PM.voted (l.past (orgI m)).all m.body.view = some b.2
theorem begins_facts {l l2 : Lgs} {T : Nat} (hL : LI l T) {m : Msg} (hm : MIn l.n m) (hk : m.body.kind = 4) (hc : (l.counts m).1 = true) (h1 : l2.past = (l.counts m).2.past) (h2 : l2.vs = (l.counts m).2.vs) : BegF l.n l2 m (l.best m) := by
 have hL2 := hL.counts hm;have hG := Grow.counts hL hm
 have hn2 := (l.counts_nk m).1;obtain ⟨i, w, hv1, hv2, hlo, hhi⟩ := hL.best hm
 have hw : l.vw (l.best m).1 = some w := by
  unfold Lgs.vw Lgs.best;rw [hv1]; exact hv2
 obtain ⟨w2, hw2, hpre⟩ := hG.vw _ _ hw;have hor := hm.o; have hr : orgI m < l.n := by unfold orgI; omega
 generalize hl' : (l.counts m).2 = l' at *
 have he : ∃ e, l.eff m = some e ∧ l' = l.app (orgI m) e := by
  rw [counts_eff hL.rise] at hc hl'
  cases he : l.eff m with
  | none => rw [he] at hc; cases hc
  | some e => rw [he] at hl'; exact ⟨e, rfl, hl'.symm⟩
 obtain ⟨e, he, hle⟩ := he;unfold Lgs.eff at he;rw [if_neg (by rw [hk]; decide), if_pos hk] at he;split at he
 ·rename_i hcond
  obtain ⟨hp, hql, hqa, hok⟩ := hcond; cases he
  have hpst : l'.past = updF l.past (orgI m) ((l.past (orgI m)).enter m.body.view (l.best m).2) := by rw [hle]; rfl
  have hvs : l'.vs = insV ⟨m.body.view, m.number, l.pref (l.best m), []⟩ l.vs := by rw [hle]; rfl
  obtain ⟨e1, e2⟩ := PM.enter_all hok; have hpr : l.pref (l.best m) = w.all.take (l.best m).2.toNat := by unfold Lgs.pref; rw [hw]; rfl
  have hbl : (l.best m).2.toNat ≤ w.all.length := by
   have : (l.best m).2 ≤ (w.all.length : Int) := hhi;omega
  have hnew : l'.vw m.body.view = some ⟨m.body.view, m.number, l.pref (l.best m), []⟩ :=
   vw_mem hL2.rise (w := ⟨m.body.view, m.number, l.pref (l.best m), []⟩) (by rw [hvs]; exact (zbz _ _).mem_iff.1 List.mem_cons_self)
  have hall : (⟨m.body.view, m.number, l.pref (l.best m), []⟩ : Vw).all = l.pref (l.best m) := by
   unfold Vw.all;exact List.append_nil _
  refine ⟨hql, fun q hq => ?_, ?_, hlo, ⟨⟨m.body.view, m.number, l.pref (l.best m), []⟩, w2, by rw [vw_congr h2]; exact hnew, by rw [vw_congr h2]; exact hw2, ?_, ?_, ?_⟩, ?_⟩
  ·unfold Lgs.qAll at hqa
   have := List.all_eq_true.1 hqa q hq;rw [Bool.and_eq_true] at this
   exact of_decide_eq_true this.1
  ·have hvu : viewsU l2 = viewsU l' := by unfold viewsU; rw [h2]
   rw [hvu, h1]
   have key : ∀ (Q : List (Int × Int)), (∀ p ∈ Q, 1 ≤ p.1 ∧ p.1 ≤ (l.n : Int)) → ∀ a, bestW l'.past m.body.view (viewsU l') Q a = bestQ l.past m.body.view Q a := fun Q => by
    induction Q with
    | nil => intro _ a; rfl
    | cons q Q ih =>
     intro hQ a;have hqr := hQ q (by simp);obtain ⟨r, hre⟩ : ∃ r, r = (q.1 - 1).toNat := ⟨_, rfl⟩
     have hrn : r < l.n := by omega
     have hwf := hL2.wf r (by rw [hn2]; exact hrn);show bestW l'.past m.body.view (viewsU l') Q (bestV m.body.view (PM.voted (l'.past (q.1 - 1).toNat).all) (viewsU l') a) = bestQ l.past m.body.view Q (bestOf m.body.view (l.past (q.1 - 1).toNat).all a)
     rw [← hre, bestV_eq (viewsU l') _ hL2.rise hwf.rise (fun p hpm => by
      obtain ⟨x, hx, e3, _⟩ := hL2.log r (by rw [hn2]; exact hrn) p hpm
      exact List.mem_map.2 ⟨x, hx, e3⟩), ih fun p hpm => hQ p (List.mem_cons_of_mem _ hpm)]
     congr 1;rw [hpst];by_cases e3 : r = orgI m
     ·rw [e3, zaf, e1, bestOf_app, bestOf_above (x := (m.body.view, (l.best m).2)) (Int.le_refl _)]
     ·rw [zav _ _ e3]
   exact key m.body.q hm.q (0, 0)
  ·rw [hall, hpr, List.length_take]; omega
  ·rw [hall, hpr];obtain ⟨t, ht⟩ := hpre;rw [← ht, List.take_append_of_le_length hbl]
  ·have := hpre.length_le; omega
  ·rw [h1];have hwf := hL2.wf (orgI m) (by rw [hn2]; exact hr)
   have e3 : l'.past (orgI m) = ⟨m.body.view, (l.past (orgI m)).all, m.body.view, (l.best m).2⟩ := by
    rw [hpst, zaf];unfold PM.enter;rw [if_pos hok]
   rw [e3] at hwf ⊢;exact PM.voted_last hwf
 ·cases he
section
variable (f : Frag) (F : List HP)
set_option maxRecDepth 20000 in
set_option maxHeartbeats 3200000 in
theorem logBegins_fn (htab : TabAt f) {n8 : UInt8} {p : Option Addr} {c : Nat} {xs : List A15} (hat : ListAt f p 12 A15.vals xs) (hh : ∀ x ∈ xs, x.Has f) (hxl : xs.length ≤ 9223372036854775807) :
  Fn Tryz.prog 7 [.int .u8 (n8.toNat : Nat), .slice p xs.length c] f F (Ret (.bool true) f F) := by
 have hfew := few15_fn f F (c := c) hat hxl
 cases hf : few15 xs with
 | false =>
  rw [hf] at hfew;refine Fn.e2 Tryz.func7 Tryz.ntmps7 fun base => ?_;refine gH ?_;refine H.Ad rfl rfl rfl hfew ?_;refine H.not (b := _) (c := _) rfl rfl rfl rfl ?_;refine ga ?_;refine H.Ad rfl rfl rfl (works15_fn f _ htab) ?_;refine gT ?_;exact qam
 | true =>
  rw [hf] at hfew;obtain ⟨hl100, hq20⟩ := few15_all hf;obtain ⟨n, hn8⟩ : ∃ n, n = 3 + 2 * (n8.toNat % 5) := ⟨_, rfl⟩; have hn3 : 3 ≤ n ∧ n ≤ 11 := by omega
  have hodd : n % 2 = 1 := by omega
  have hacts := fun G => acts15_fn f G hn8 (c := c) hat (fun x hx => ⟨hh x hx, hq20 x hx⟩) hl100; have hinv : WOK n (world15 n xs).w.all := by have := (world15_inv hn3.1 hn3.2 xs xs.length (by omega)).w.ok; rwa [List.take_length] at this
  have hwl : (world15 n xs).w.all.length ≤ 100 := by have := world15_len n xs xs.length; rw [List.take_length] at this; omega
  generalize world15 n xs = W15' at *;refine Fn.e2 Tryz.func7 Tryz.ntmps7 fun base => ?_;refine gH ?_;refine H.Ad rfl rfl rfl hfew ?_;refine H.not (b := _) (c := _) rfl rfl rfl rfl ?_;refine gV ?_;refine H.Aw rfl rfl rfl (hacts _) fun v f' A' hr => ?_;obtain ⟨g, wb, rfl, hd, rfl, rfl⟩ := hr;have le0 := Le.un f g;generalize un f g = f0 at *
  refine H.world15 fun g1 kb ap ac lb l hd1 hwat => ?_;have le1 := le0.trans (Le.un f0 g1);generalize un f0 g1 = f1 at *
  have hta := tab_mono htab le1;clear hacts hfew
  obtain ⟨W, hW⟩ : ∃ W, W = W15'.w := ⟨_, rfl⟩;rw [← hW] at hwat hinv hwl;refine gE ?_;refine H.Aw rfl rfl rfl (plnew_fn f1 _ (n := n) (fewz_odd hn8)) fun v f' A' hr => ?_;obtain ⟨g2, pb, hd2, rfl, rfl, rfl⟩ := hr;have le2 := Le.un f1 g2;have le12 := le1.trans le2
  have hwa2 := hwat.mono le2;have hgv := hwat.good_v
  have hlm := hwat.m; have hll : l.length = W.all.length := by rw [← hlm, List.length_map]
  have hta2 := tab_mono hta le2;generalize un f1 g2 = f2 at *
  refine gW ?_
  refine H.Ar (ι := Nat × Frag) (fun s => [(8, .int .i64 (s.1 : Int)), (6, .pointer (some ⟨pb, 0, none⟩)), (5, .pointer (some ⟨wb, 0, none⟩))]) (fun s => s.2)
   (fun s => plogH s.2 pb (lgsOf n (W.all.take s.1)) :: row wb 37 (w15C kb n ap l.length ac lb) :: F)
   (fun s => s.1 ≤ W.all.length ∧ Le f2 s.2) (fun s => W.all.length - s.1)
   (0, f2) ⟨Nat.zero_le _, Le.refl f2⟩ ⟨rfl, rfl, rfl, trivial⟩ rfl rfl fun s hs => ?_
  obtain ⟨i, e⟩ := s;obtain ⟨hi, hle⟩ : i ≤ W.all.length ∧ Le f2 e := hs;show H _ _ _ [(8, .int .i64 (i : Int)), _, _] e (plogH e pb (lgsOf n (W.all.take i)) :: _ :: F) _;by_cases hlt : i < W.all.length
  ·obtain ⟨b, off, rfl, rdA⟩ := hwa2.a.all MV.len (by decide) (by omega);obtain ⟨y, hy⟩ : ∃ y, l[i]? = some y := ⟨_, List.getElem?_eq_getElem (by omega)⟩; have hym : W.all[i]? = some y.m := by rw [← hlm, List.getElem?_map, hy]; rfl
   have hyg := (hwa2.g y (List.mem_of_getElem? hy)).mono hle;have hmi : MIn n y.m := (hinv i y.m hym).min (hgv _ (List.mem_of_getElem? hym))
   have hlen : (W.all.take i).length = i := by rw [List.length_take]; omega
   have hlen2 : (W.all.take (i + 1)).length = i + 1 := by rw [List.length_take]; omega
   have hLI := lgsOf_LI hn3.1 hn3.2 (W.all.take i) (fun x hx => hgv x (List.mem_of_mem_take hx));have hLI2 := lgsOf_LI hn3.1 hn3.2 (W.all.take (i + 1)) (fun x hx => hgv x (List.mem_of_mem_take hx))
   rw [hlen] at hLI;rw [hlen2] at hLI2;have hta3 := tab_mono hta2 hle;have htk := fun G => pltakeA_fn e G hta3 (Le.refl e) (lb := pb) hLI (by omega) (lgsOf_NI _ _) (by rw [lgsOf_n]; exact hodd) hyg
   obtain ⟨w1, w2, w3⟩ := world_take hinv hym;rw [w1] at htk;have hbeg := fun hk hc => begins_facts hLI (by rw [lgsOf_n]; exact hmi) hk hc w2 w3;rw [lgsOf_n] at hbeg
   have hvw := fun G => plviews_fn e G (fl := e) (lb := pb) hLI2 (by omega);have hal := hLI2.al
   have hvl : (viewsU (lgsOf n (W.all.take (i + 1)))).length ≤ 200 := by unfold viewsU; rw [List.length_map]; have := hLI2.vl; omega
   have hlog := fun e' G v => pllogO_fn e' G (fl := e') (lb := pb) hLI2 (by omega) v;have hvo := fun e' G o (ho : o < n) r (hr : r = ((o + 1 : Nat) : Int)) v => plvoted_fn e' G (Le.refl e') (lb := pb) (l := lgsOf n (W.all.take (i + 1))) (by rw [lgsOf_n]; omega) (o := o) (by rw [lgsOf_n]; exact ho) (r := r) (v := v) hr
   have hvwm : ∀ v w, (lgsOf n (W.all.take (i + 1))).vw v = some w → w ∈ (lgsOf n (W.all.take (i + 1))).vs := fun v w h => (vw_v h).2;clear w1 w2 w3 hLI hLI2
   generalize ((lgsOf n (W.all.take i)).counts y.m).1 = cb at htk hbeg;generalize (lgsOf n (W.all.take i)).best y.m = bb at hbeg;obtain ⟨L0, hL0⟩ : ∃ L0, L0 = lgsOf n (W.all.take i) := ⟨_, rfl⟩;obtain ⟨L, hL⟩ : ∃ L, L = lgsOf n (W.all.take (i + 1)) := ⟨_, rfl⟩;obtain ⟨N, hN⟩ : ∃ N, N = viewsU L := ⟨_, rfl⟩;rw [← hL] at htk hvw hvl hal hlog hvo hbeg hvwm;rw [← hL0] at htk ⊢;rw [← hN] at hvl;obtain ⟨o, hoe⟩ : ∃ o, o = orgI y.m := ⟨_, rfl⟩;have horg := hmi.o; have hoz : y.m.origin = ((o + 1 : Nat) : Int) := by rw [hoe]; unfold orgI; omega
   have hon : o < n := by omega
   refine gN ?_;refine H.Aq (i := i) rfl rfl rfl rfl (by omega) rfl ?_;refine H.Af (ls := y.vals) rfl rfl rfl (rdA _ _ _ _ hle hy) rfl rfl ?_;refine H.Au (ls := msgZ.vals none 0) rfl rfl rfl fun ob => ?_;refine H.Aj (ls := msgZ.vals none 0) (vs := y.vals) (ls' := y.vals) rfl rfl rfl (zaa rfl) rfl rfl (Nat.le_refl 121) (.here _ _ _) ?_;refine gH ?_;refine H.Af (ls := y.vals) rfl rfl rfl (Rd.ofRow (by repeat constructor)) rfl rfl ?_;refine qfU ?_;refine H.Ad rfl rfl rfl (htk _) ?_;clear htk
   cases cb with
   | false =>
    refine gc ?_;exact qbi
   | true =>
    by_cases k4 : y.m.body.kind = 4
    ·have hkn : y.m.body.kind.toNat = 4 := by rw [k4]; rfl
     obtain ⟨hql, hqd, hbest, hlo, ⟨w, w2, hw, hw2, hwl1, hwt, hwl2⟩, hvote⟩ := hbeg k4 rfl;clear hbeg;rw [← hN] at hbest;obtain ⟨bv, hbv⟩ : ∃ bv, bv = y.m.body.view := ⟨_, rfl⟩;rw [← hbv] at hbest hw hvote;obtain ⟨Ak, hAk⟩ : ∃ Ak : Nat → Int × Int, Ak = fun k => bestW L.past bv N (y.m.body.q.take k) (0, 0) := ⟨_, rfl⟩; have hA0 : Ak 0 = (0, 0) := by rw [hAk]; rfl
     have hAs : ∀ k p, y.m.body.q[k]? = some p → Ak (k + 1) = bestV bv (PM.voted (L.past (p.1 - 1).toNat).all) N (Ak k) := fun k p hp => by
      rw [hAk];show bestW L.past bv N (y.m.body.q.take (k + 1)) (0, 0) = _;rw [take_snoc hp, bestW_snoc]
     have hAe : Ak y.m.body.q.length = bb := by
      rw [hAk];show bestW L.past bv N (y.m.body.q.take y.m.body.q.length) (0, 0) = _;rw [List.take_length, hbest]
     clear hbest hAk;have hqat : ListAt e y.qp 2 pairV y.m.body.q := hyg.1; have hql2 : y.m.body.q.length ≤ 100 := by omega
     refine gY ?_;refine qew ?_;refine qfT ?_;refine H.dq ?_;refine gO ?_;refine HQ.quo (z := (((n - 1) / 2 : Nat) : Int)) rfl rfl rfl (by decide) (by rw [show (2 : Int) = ((2 : Nat) : Int) from rfl, show ((n : Int) - 1) = (((n - 1 : Nat)) : Int) by omega, tdiv64, wr_i64 (by omega)]) rfl ?_;refine gL ?_;refine gZ ?_;refine qfU ?_;refine H.Aw rfl rfl rfl (hvw _) fun v f' A' hR => ?_;obtain ⟨np, nc, rfl, hff, rfl⟩ := hR;rw [hff, ← hN];clear hff hvw;refine gT ?_;refine qfT ?_;refine qfU ?_;refine H.pf (x := slc np _ _ _ _ _) ?_
     refine H.Ar (ι := Nat) (fun k => [(15, .int .i64 (k : Int)), (14, .slice np N.length nc), (13, .int .i64 (Ak k).2), (12, .int .u64 (Ak k).1), (9, .pointer (some ⟨ob, 0, none⟩)), (8, .int .i64 (i : Int)), (6, .pointer (some ⟨pb, 0, none⟩)), (5, .pointer (some ⟨wb, 0, none⟩))]) (fun _ => e)
      (fun _ => slc np N.length nc 31 1 (N.flatMap uV) :: plogH e pb L :: row ob 49 y.vals :: row wb 37 (w15C kb n (some ⟨b, off, none⟩) l.length ac lb) :: F)
      (fun k => k ≤ y.m.body.q.length) (fun k => y.m.body.q.length - k) 0 (Nat.zero_le _) ⟨rfl, rfl, by rw [hA0]; rfl, by rw [hA0]; rfl, rfl, rfl, rfl, rfl, trivial⟩ rfl rfl fun k hk => ?_
     have hk : k ≤ y.m.body.q.length := hk;by_cases hkl : k < y.m.body.q.length
     ·obtain ⟨p, hp⟩ : ∃ p, y.m.body.q[k]? = some p := ⟨_, List.getElem?_eq_getElem hkl⟩;have hpm := List.mem_of_getElem? hp;have hpq := hmi.q p hpm
      have hpd := hqd p hpm;have hAk1 := hAs k p hp
      obtain ⟨r, hre⟩ : ∃ r, r = (p.1 - 1).toNat := ⟨_, rfl⟩;rw [← hre] at hpd hAk1; have hrn : r < n := by omega
      have hr11 : r < 11 := by omega
      have hrz : p.1 - 1 = (r : Nat) := by omega
      have hrz1 : p.1 = ((r + 1 : Nat) : Int) := by omega
      obtain ⟨qb, qoff, hqp, rdQ⟩ := ListAt.all (vals := pairV) (sz := 2) (fun _ => rfl) (by decide) hqat (by omega);have rd : ∀ A, Rd e A qb (qoff + k * 2) (pairV p) := fun A => rdQ _ _ _ _ (Le.refl e) hp;refine gN ?_
      refine H.Aq (b := qb) (off := qoff) (i := k) rfl (by rw [← hqp]; rfl) rfl rfl hkl rfl ?_;refine gI ?_;refine H.Ab rfl rfl rfl (Rd1.of (i := 0) (rd _) rfl) rfl ?_;refine gH ?_;refine qfT ?_;refine H.dq ?_;refine gQ ?_;refine HQ.Aq (b := qb) (off := qoff) (i := k) rfl (by rw [← hqp]; rfl) rfl rfl hkl rfl ?_;refine gQ ?_;refine HQ.Ab rfl rfl rfl (Rd1.of (i := 1) (rd _) rfl) rfl ?_;refine gO ?_;refine HQ.Az (i := r) rfl rfl rfl hrz hr11 rfl ?_;refine HQ.Ab rfl rfl rfl (by rw [Nat.mul_one]; exact Rd1.of (zbf (m := y.m) (q := y.qp) (qc := y.qc) (.here _ _ _)) (zbc y.m.deps hr11)) rfl ?_;refine gL ?_;refine gZ ?_;refine qfT ?_;refine qfU ?_;refine H.pf (x := slc np _ _ _ _ _) ?_;obtain ⟨vo, hvo0⟩ : ∃ vo, vo = PM.voted (L.past r).all := ⟨_, rfl⟩;have hvr := fun G v => hvo e G r hrn p.1 hrz1 v;rw [← hvo0] at hvr hAk1
      obtain ⟨Bj, hBj⟩ : ∃ Bj : Nat → Int × Int, Bj = fun j => bestV bv vo (N.take j) (Ak k) := ⟨_, rfl⟩; have hB0 : Bj 0 = Ak k := by rw [hBj]; rfl
      have hBs : ∀ j v, N[j]? = some v → Bj (j + 1) = stepV bv (vo v) v (Bj j) := fun j v hv => by
       rw [hBj];show bestV bv vo (N.take (j + 1)) (Ak k) = _;rw [take_snoc hv, bestV_snoc]
      have hBe : Bj N.length = Ak (k + 1) := by
       rw [hBj];show bestV bv vo (N.take N.length) (Ak k) = _;rw [List.take_length, hAk1]
      clear hBj hvo0 rd rdQ
      refine H.Ar (ι := Nat) (fun j => [(17, .int .i64 (j : Int)), (16, .int .i64 p.1), (15, .int .i64 (k : Int)), (14, .slice np N.length nc), (13, .int .i64 (Bj j).2), (12, .int .u64 (Bj j).1), (9, .pointer (some ⟨ob, 0, none⟩)), (8, .int .i64 (i : Int)), (6, .pointer (some ⟨pb, 0, none⟩)), (5, .pointer (some ⟨wb, 0, none⟩))]) (fun _ => e)
       (fun _ => slc np N.length nc 31 1 (N.flatMap uV) :: plogH e pb L :: row ob 49 y.vals :: row wb 37 (w15C kb n (some ⟨b, off, none⟩) l.length ac lb) :: F)
       (fun j => j ≤ N.length) (fun j => N.length - j) 0 (Nat.zero_le _) ⟨rfl, rfl, rfl, rfl, by rw [hB0]; rfl, by rw [hB0]; rfl, rfl, rfl, rfl, rfl, trivial⟩ rfl rfl fun j hj => ?_
      have hj : j ≤ N.length := hj;by_cases hjl : j < N.length
      ·obtain ⟨v, hv⟩ : ∃ v, N[j]? = some v := ⟨_, List.getElem?_eq_getElem hjl⟩;have hb1 := hBs j v hv;have hvr := fun G => hvr G v
       refine H.Bl (p := np) (n0 := N.length) (c := nc) (T := 31) (sz := 1) (xs := N.flatMap uV) (.here _ _ _) (by omega) fun sn hp => ?_;subst hp;refine gF ?_;refine H.Aq (i := j) rfl rfl rfl rfl hjl rfl ?_;refine H.Ab rfl rfl rfl (rd_uV (by repeat constructor) hv) rfl ?_;refine qfU ?_;refine H.Ad rfl rfl rfl (hvr _) ?_
       cases hx : vo v with
       | none =>
        rw [hx] at hb1;have hb1 : Bj (j + 1) = Bj j := hb1;refine qfi ?_
        refine gX ?_;refine gV ?_;exact qah
       | some x =>
        rw [hx] at hb1; have hb1 : Bj (j + 1) = if v < bv ∧ ((Bj j).1 < v ∨ (v = (Bj j).1 ∧ (Bj j).2 < x)) then (v, x) else Bj j := hb1
        show H _ _ _ ((_, .tuple #[.int .i64 x, .bool true]) :: _) _ _ _;by_cases h1 : v < bv
        ·by_cases h2 : (Bj j).1 < v
         ·rw [if_pos ⟨h1, .inl h2⟩] at hb1;refine qdd ?_;refine gU ?_;refine ga ?_;exact qbv
         ·by_cases h3 : v = (Bj j).1
          ·by_cases h4 : (Bj j).2 < x
           ·rw [if_pos ⟨h1, .inr ⟨h3, h4⟩⟩] at hb1;refine qdd ?_;refine gL ?_;refine qeJ ?_;refine gK ?_;refine gF ?_;exact qbv
           ·rw [if_neg (by rintro ⟨_, h | ⟨_, h⟩⟩; exact h2 h; exact h4 h)] at hb1;refine qdd ?_;refine gL ?_;refine qeJ ?_;refine gK ?_;refine gZ ?_;exact qah
          ·rw [if_neg (by rintro ⟨_, h | ⟨h, _⟩⟩; exact h2 h; exact h3 h)] at hb1;refine qdd ?_;refine gL ?_;exact qbq
        ·rw [if_neg (fun h => h1 h.1)] at hb1;refine qfi ?_;refine gB ?_;exact qbq
      ·have hjN : j = N.length := by omega
       subst hjN;rw [hBe];refine gZ ?_;exact H.Ah (k + 1) (by show k + 1 ≤ y.m.body.q.length; omega) (by show y.m.body.q.length - (k + 1) < y.m.body.q.length - k; omega) ⟨rfl, rfl, rfl, rfl, rfl, rfl, rfl, rfl, trivial⟩ rfl rfl
     ·have hkq : k = y.m.body.q.length := by omega
      subst hkq;rw [hAe];subst hbv;have hl1 := fun G => hlog e G y.m.body.view;rw [hw] at hl1
      have hwa := hal w (hvwm _ _ hw);have hwa2 := hal w2 (hvwm _ _ hw2)
      refine gN ?_;refine qfU ?_;refine H.Aw rfl rfl rfl (hl1 _) fun v f' A' hR => ?_;obtain ⟨p3, c3, rfl, hff, rfl⟩ := hR;rw [hff];clear hff hl1;have hao : allO (some w) = w.all := rfl;rw [hao]
      clear hao;refine H.freeze (.here _ _) fun g3 hg3 hd3 => ?_;have hat3 : ListAt (un e g3) p3 40 Req.vals w.all := (zbv Req.len hg3).mono (Le.right hd3);have hup := Le.un e g3
      have hle2 := hle.trans hup;clear hg3 hd3
      generalize un e g3 = e2 at *;refine H.imp (plog_up hup) ?_;have hl2 := fun G => hlog e2 G bb.1;rw [hw2] at hl2
      refine gR ?_;refine qfU ?_;refine H.Aw rfl rfl rfl (hl2 _) fun v f' A' hR => ?_;obtain ⟨p4, c4, rfl, hff, rfl⟩ := hR;rw [hff];clear hff hl2;have hao : allO (some w2) = w2.all := rfl;rw [hao]
      clear hao;refine H.slc_cap (p := p4) (m := w2.all.length) (c := c4) (T := 44) (sz := 40) (xs := w2.all.flatMap Req.vals) (.here _ _ _) fun hcap _ _ => ?_;refine H.freeze (.here _ _) fun g4 hg4 hd4 => ?_;have hat4 : ListAt (un e2 g4) p4 40 Req.vals w2.all := (zbv Req.len hg4).mono (Le.right hd4);have hup4 := Le.un e2 g4
      have hle3 := hle2.trans hup4;have hat34 := hat3.mono hup4
      clear hg4 hd4;generalize un e2 g4 = e3 at *;refine H.imp (plog_up hup4) ?_; have hat5 : ListAt e3 p4 40 Req.vals w.all := by rw [hwt]; exact hat4.takeL _
      have hsame := fun G => sameR_fn e3 G (ca := c3) (cb := c4) hat34 hat5 (by omega);have hvq := fun G => hvo e3 G o hon y.m.origin hoz y.m.body.view
      rw [hoe, hvote] at hvq;generalize w.all = R at *;generalize w2.all = R2 at *;refine gM ?_;refine H.slice (lo := none) (hi := some (.tmp 211)) (mx := none) (lv := 0) (hv := R.length) (mv := c4) rfl rfl rfl ⟨_, _, rfl, by omega⟩ rfl (fun h => by cases h) (Nat.zero_le _) (by omega) (Nat.le_refl _) rfl ?_;rw [slP0, Nat.sub_zero, Nat.sub_zero];refine H.Ad rfl rfl rfl (hsame _) ?_;refine gY ?_;refine qfU ?_;refine H.Ad rfl rfl rfl (hvq _) ?_;show H _ _ _ ((_, .tuple #[.int .i64 bb.2, .bool true]) :: _) _ _ _;refine gP ?_;refine H.pd (x := slc np _ _ _ _ _) ?_;refine H.pd (x := row ob _ _) ?_;refine qfU ?_;rw [hL];exact H.Ah (i + 1, e3) ⟨by show i + 1 ≤ W.all.length; omega, hle3⟩ (by show W.all.length - (i + 1) < W.all.length - i; omega) ⟨rfl, rfl, rfl, trivial⟩ rfl rfl
    ·have n4 := u8_ne (n := 4) (by decide) k4;refine gM ?_
     exact qbi
  ·have ei : i = W.all.length := by omega
   subst ei;refine gN ?_;refine H.Ad rfl rfl rfl (works15_fn e _ (tab_mono hta2 hle)) ?_;refine gT ?_;refine H.pd (x := plogH _ pb _) ?_;refine H.pd (x := row wb _ _) ?_;refine H.weakL (le12.trans hle) ?_;exact qam
end
end Go.Proofs.YtgdhaledfjnfgaaGreatDoor

namespace Go.Proofs.YtgdhaledfjnfgaaGreatDoor
open Go Go.ChangeShapes Go.WideShapes Go.RowKit Go.Deep
theorem Tryz.own : ownKnob Tryz.prog.godebug = none := by kernel_rfl
theorem Tryz.laidOut : laidOutB Tryz.prog = true := by kernel_rfl
abbrev laidL : List (String × DataW Unit) := [("ratchet/sha.table", Rows.laid_ratchet_sha_table)]
theorem door_met (os : Os) (args : Array Value) : laidMetH Tryz.prog laidL ((World.doorLaid Tryz.prog 400 os).forCall (fun _ _ => 0) ⟨#[], args, []⟩).memory :=
 laidMetH_of_parts3 (fuel := 8) (laidMet_of_run' 8 (by kernel_rfl) (by kernel_rfl)) (by kernel_rfl) (by kernel_rfl)
theorem tab_eq : (Rows.laid_ratchet_sha_table : DataW Unit) = .agg ((Sha.k.map fun x => ((x.toNat : Nat) : Int)).map fun z => .lit (.int .u32 z)) := by kernel_rfl
theorem tab_of {W : World} (h : laidMetH Tryz.prog laidL W) : TabAt (memOf W) := by
 have h2 : laidMetH Tryz.prog [("ratchet/sha.table", .agg ((Sha.k.map fun x => ((x.toNat : Nat) : Int)).map fun z => .lit (.int .u32 z)))] W := by rw [← tab_eq]; exact h
 exact laid_ints h2 (by kernel_rfl) (by kernel_rfl) (t := 250) (e := 223) Tryz.underlying250 Tryz.underlying223 (by kernel_rfl)
end Go.Proofs.YtgdhaledfjnfgaaGreatDoor
