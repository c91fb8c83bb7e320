/- Parts of the proof, one behind the other, each under its own heading. No conditions. -/
import Derived.Test.YtoigpgdmignaoaaGreatDoorZ07
set_option linter.unusedSectionVars false
set_option linter.unusedSimpArgs false
set_option linter.unusedVariables false
/- Layer 15: the document's logs: Take, New. No condition. -/
namespace Go.Proofs.YtoigpgdmignaoaaGreatDoor
open Go
theorem quo_low : ∀ (q : List (Int × Int)) (w : Int), 0 ≤ w → quo w q = true → ∀ p ∈ q, 1 ≤ p.1
 | [], _, _, _, p, hp => by cases hp
 | y :: r, w, hw, h, p, hp => by
  unfold quo at h
  split at h
  ·cases h
  ·rename_i hno
   rcases List.mem_cons.1 hp with e | e
   ·rw [e]; omega
   ·exact quo_low r y.1 (by omega) h p e
theorem may_q1 {m : Msg} (h : m.may = true) : ∀ p ∈ m.body.q, 1 ≤ p.1 := by
 obtain ⟨h1, h2, h3⟩ := Bod.may_spec (Msg.may_body h)
 have hq := Bod.eqB_q h1
 by_cases h4 : m.body.kind.toNat = 4
 ·rw [h4] at h3
  have h3 : (decide (1 ≤ m.body.view) && (quo 0 m.body.q && decide (0 < m.body.q.length))) = true := h3
  simp only [Bool.and_eq_true] at h3
  exact quo_low _ 0 (Int.le_refl 0) h3.2.1
 ·rw [own_q h4] at hq
  rw [← hq]
  intro p hp
  cases hp
theorem may_MIn {n : Nat} {m : Msg} (h : m.may = true) (ho : m.origin ≤ (n : Int)) (hq : qIn n m = true) (hv : 0 ≤ m.body.view) : MIn n m :=
 ⟨⟨(Msg.may_outer h).1, ho⟩, fun p hp => ⟨may_q1 h p hp, by have := List.all_eq_true.1 hq p hp; exact of_decide_eq_true this⟩, hv⟩
theorem Lgs.begins_nk (l : Lgs) (m : Msg) : (l.begins m).2.n = l.n ∧ (l.begins m).2.known = l.known := by
 unfold Lgs.begins
 split
 ·exact ⟨rfl, rfl⟩
 ·split
  ·exact ⟨rfl, rfl⟩
  ·split
   ·exact ⟨rfl, rfl⟩
   ·exact ⟨rfl, rfl⟩
theorem Lgs.counts_nk (l : Lgs) (m : Msg) : (l.counts m).2.n = l.n ∧ (l.counts m).2.known = l.known := by
 by_cases h3 : m.body.kind = 3
 ·rw [Lgs.counts_3 h3]
  split <;> exact ⟨rfl, rfl⟩
 ·by_cases h4 : m.body.kind = 4
  ·rw [Lgs.counts_4 h4]
   split
   ·exact l.begins_nk m
   ·exact ⟨rfl, rfl⟩
  ·by_cases h5 : m.body.kind = 5
   ·cases hat : vwAt l.vs m.body.view with
    | none => rw [Lgs.counts_5n h5 hat]; exact ⟨rfl, rfl⟩
    | some i =>
     obtain ⟨⟨w, hw, _⟩, _⟩ := zav.1 hat
     rw [Lgs.counts_5 h5 hat hw]
     split <;> exact ⟨rfl, rfl⟩
   ·by_cases h1 : m.body.kind = 1
    ·cases hat : vwAt l.vs m.body.view with
     | none => rw [Lgs.counts_1n h1 hat]; exact ⟨rfl, rfl⟩
     | some i =>
      obtain ⟨⟨w, hw, _⟩, _⟩ := zav.1 hat
      rw [Lgs.counts_1 h1 hat hw]
      split <;> exact ⟨rfl, rfl⟩
    ·by_cases h2 : m.body.kind = 2
     ·cases hat : vwAt l.vs m.body.view with
      | none => rw [Lgs.counts_2n h2 hat]; exact ⟨rfl, rfl⟩
      | some i =>
       obtain ⟨⟨w, hw, _⟩, _⟩ := zav.1 hat
       rw [Lgs.counts_2 h2 hat hw]
       split <;> exact ⟨rfl, rfl⟩
     ·rw [Lgs.counts_x h3 h4 h5 h1 h2]; exact ⟨rfl, rfl⟩
def TkP (f : Frag) (F : List HP) (lb : Nat) (r : (Bool × Int) × Lgs) : Value → Frag → List HP → Prop := fun v f' A' => ∃ g, Dj f g ∧ v = .tuple #[.bool r.1.1, .int .i64 r.1.2] ∧ f' = un f g ∧ A' = logsH f' lb r.2 :: F
theorem TkP.no {f : Frag} {F : List HP} {lb : Nat} {l : Lgs} {r : (Bool × Int) × Lgs} {e : Int} (h : r = ((false, e), l)) : TkP f F lb r (.tuple #[.bool false, .int .i64 e]) f (logsH f lb l :: F) := by
 rw [h]
 exact ⟨nil0, Dj.nil _, rfl, (un_nil f).symm, rfl⟩
theorem lgC_set (n : Nat) (kn : Nat → Int) (vp : Option Addr) (vl vc : Nat) (pp : Option Addr) (pc : Nat) (cp : Option Addr) (cc : Nat) (z : Int) {o : Nat} (h : o < 11) : SetV (lgC n kn vp vl vc pp pc cp cc) (0 + 1 + o * 1) (.int .u64 z) (lgC n (updF kn o z) vp vl vc pp pc cp cc) := by
 have h1 := (v11_upd kn z h).mid [.int .i64 (n : Int)] [.slice vp vl vc, .slice pp n pc, .slice cp n cc]
 rw [Nat.mul_one]
 exact h1
section
variable (f : Frag) (F : List HP)
set_option maxRecDepth 20000 in
set_option maxHeartbeats 3200000 in
theorem take_fn {fl : Frag} (hfl : Le fl f) {lb : Nat} {l : Lgs} {T : Nat} (hL : LI l T) (hT : T ≤ 40000) {x : MV} (hx : x.Good f) :
  Fn Tryz.prog 95 [.pointer (some ⟨lb, 0, none⟩), .agg x.vals.toArray] f (logsH fl lb l :: F) (TkP f F lb (l.take x.m)) := by
 refine Fn.unpack fun i0 hi => ?_
 obtain ⟨V, vp, vc, pp, pc, cp, cc, pb, cs⟩ := i0
 have hiF := hi.mono hfl
 have hn := hL.n3
 have hmay := fun G => rmmay_fn f G hx
 have hqat : ListAt f x.qp 2 pairV x.m.body.q := hx.1
 have hql : x.m.body.q.length ≤ 1000000 := hx.2.1
 show Fn _ _ _ f (row lb 200 (lgC l.n l.known vp V.length vc pp pc cp cc) :: slc vp V.length vc 195 4 (V.flatMap VV.vals) :: lst (V.map VV.own) :: fam (fun r => pstH (pb r) (l.past r)) l.n :: slc cp l.n cc 232 1 (chRow l cs) :: fam (chFam l cs) l.n :: F) _
 refine Fn.enter Tryz.func95 rfl Tryz.ntmps95 rfl (L := [(0, _), (1, _)]) ⟨rfl, rfl, trivial⟩ fun base => ?_
 refine gC ?_
 refine H.box (ls := x.vals) rfl rfl rfl rfl fun mb => ?_
 refine gO ?_
 refine H.Az (by kernel_rfl) (by decide +kernel) (by repeat (first | exact zab | refine zaa ?_ | refine zac ?_ | refine zae ?_)) (S := [_, _]) rfl ?_
 refine HB.Ag [(0, false)] 11 (by kernel_rfl) ?_
 refine HQ.Ah (ls := x.vals) rfl rfl rfl (Rd.ofRow (.here _ _ _)) rfl rfl ?_
 refine HQ.Ae rfl ?_
 refine HB.ev1 (i := 1) (by kernel_rfl) rfl ?_
 refine H.Ad rfl rfl rfl (hmay _) ?_
 cases hm : x.m.may with
 | false =>
  refine gC ?_
  refine H.on0 rfl ?_
  refine HB.Ag [(2, false), (3, false), (4, false), (5, false), (6, false), (7, false), (8, false), (9, false), (10, false), (11, false)] 0 (by kernel_rfl) ?_
  refine gN ?_
  refine HQ.Ae rfl ?_
  refine HB.Al (by kernel_rfl) ?_
  refine gG ?_
  refine H.Ab (x := row mb _ _) (by repeat constructor) ?_
  refine H.imp (zai ⟨V, vp, vc, pp, pc, cp, cc, pb, cs⟩ hiF) ?_
  refine H.ret2 rfl rfl rfl (fun _ h => h) (TkP.no ?_)
  unfold Lgs.take
  rw [if_pos (.inl hm)]
 | true =>
  have hou := Msg.may_outer hm
  unfold Msg.outer at hou
  refine gC ?_
  refine H.on0 rfl ?_
  refine HB.Ag [(2, false), (3, false), (4, false), (5, false), (6, false), (7, false), (8, false), (9, false), (10, false), (11, false)] 0 (by kernel_rfl) ?_
  refine ge ?_
  refine HQ.Ae rfl ?_
  refine HB.Al (by kernel_rfl) ?_
  by_cases ho : (l.n : Int) < x.m.origin
  ·skip
   refine gL ?_
   refine H.Ab (x := row mb _ _) (by repeat constructor) ?_
   refine H.imp (zai ⟨V, vp, vc, pp, pc, cp, cc, pb, cs⟩ hiF) ?_
   refine H.ret2 rfl rfl rfl (fun _ h => h) (TkP.no ?_)
   unfold Lgs.take
   rw [if_pos (.inr (.inl ho))]
  ·skip
   refine gT ?_
   refine H.Ax (ι := Nat) (fun i => [(6, .int .i64 (i : Int)), (0, .pointer (some ⟨lb, 0, none⟩)), (3, .pointer (some ⟨mb, 0, none⟩))]) (fun _ => f) (fun _ => row mb 47 x.vals :: row lb 200 (lgC l.n l.known vp V.length vc pp pc cp cc) :: slc vp V.length vc 195 4 (V.flatMap VV.vals) :: lst (V.map VV.own) :: fam (fun r => pstH (pb r) (l.past r)) l.n :: slc cp l.n cc 232 1 (chRow l cs) :: fam (chFam l cs) l.n :: F)
    (fun i => i ≤ x.m.body.q.length ∧ ∀ (j : Nat) y, j < i → x.m.body.q[j]? = some y → y.1 ≤ (l.n : Int)) (fun i => x.m.body.q.length - i) 0 ⟨Nat.zero_le _, fun j y hj => by omega⟩ ⟨rfl, rfl, rfl, trivial⟩ rfl rfl fun i hi2 => ?_
   obtain ⟨hi2, hb⟩ : i ≤ x.m.body.q.length ∧ ∀ (j : Nat) y, j < i → x.m.body.q[j]? = some y → y.1 ≤ (l.n : Int) := hi2
   by_cases hlt : i < x.m.body.q.length
   ·obtain ⟨y, hy⟩ : ∃ y, x.m.body.q[i]? = some y := ⟨_, List.getElem?_eq_getElem hlt⟩
    obtain ⟨qb, qoff, qcs, qT, qfr, hqp, hqfb, hqcs⟩ := hqat i y hy
    have rd : ∀ A, Rd f A qb (qoff + i * 2) (pairV y) := fun A => Rd.imm hqfb hqcs
    refine gR ?_
    refine H.Bg (by kernel_rfl) (by decide +kernel) (by repeat (first | exact zab | refine zaa ?_ | refine zac ?_ | refine zae ?_)) ?_
    refine gW ?_
    refine HQ.Ar (b := qb) (off := qoff) (i := i) rfl (by rw [← hqp]; rfl) rfl rfl hlt rfl ?_
    refine gE ?_
    refine HQ.Af rfl rfl rfl (Rd1.of (i := 0) (rd _) rfl) rfl ?_
    refine ge ?_
    by_cases hyn : y.1 ≤ (l.n : Int)
    ·skip
     refine gT ?_
     refine H.Am (i + 1) ⟨by show i + 1 ≤ x.m.body.q.length; omega, fun j z hj hz => ?_⟩ (by show x.m.body.q.length - (i + 1) < x.m.body.q.length - i; omega) ⟨rfl, rfl, rfl, trivial⟩ rfl rfl
     by_cases e : j = i
     ·subst e; rw [hy] at hz; cases hz; exact hyn
     ·exact hb j z (by omega) hz
    ·skip
     refine gL ?_
     refine H.Ab (x := row mb _ _) (by repeat constructor) ?_
     refine H.imp (zai ⟨V, vp, vc, pp, pc, cp, cc, pb, cs⟩ hiF) ?_
     refine H.ret2 rfl rfl rfl (fun _ h => h) (TkP.no ?_)
     unfold Lgs.take
     rw [if_pos (.inr (.inr (List.all_eq_false.2 ⟨y, List.mem_of_getElem? hy, by rw [decide_eq_false hyn]; decide⟩)))]
   ·have hqin : qIn l.n x.m = true := List.all_eq_true.2 fun y hy => by
     obtain ⟨j, hj⟩ := List.getElem?_of_mem hy
     have hjl := (List.getElem?_eq_some_iff.1 hj).1
     exact decide_eq_true (hb j y (by omega) hj)
    have hmi : MIn l.n x.m := may_MIn hm (by omega) hqin hx.2.2.1.1
    have hno : ¬ (x.m.may = false ∨ (l.n : Int) < x.m.origin ∨ qIn l.n x.m = false) := by
     rintro (h | h | h)
     ·rw [hm] at h; cases h
     ·exact ho h
     ·rw [hqin] at h; cases h
    clear hb
    obtain ⟨o, hoe⟩ : ∃ o, o = orgI x.m := ⟨_, rfl⟩
    have hoz : x.m.origin - 1 = (o : Nat) := by rw [hoe]; unfold orgI; omega
    have ho11 : o < 11 := by omega
    have hkn := hL.kn o
    refine gR ?_
    refine H.Bg (by kernel_rfl) (by decide +kernel) (by repeat (first | exact zab | refine zaa ?_ | refine zac ?_ | refine zae ?_)) ?_
    refine gW ?_
    refine HQ.Aw (i := o) rfl rfl rfl hoz ho11 rfl ?_
    refine HQ.Af rfl rfl rfl (by rw [Nat.mul_one]; exact Rd1.of (lgC_kn (.there _ (.here _ _ _))) (zam l.known ho11)) rfl ?_
    refine gS ?_
    refine gC ?_
    by_cases hnum : x.m.number = l.known o + 1
    ·refine H.Bv rfl (fun h => h hnum) ?_
     refine gf ?_
     refine H.Ax (ι := Nat) (fun i => [(7, .int .i64 (i : Int)), (0, .pointer (some ⟨lb, 0, none⟩)), (3, .pointer (some ⟨mb, 0, none⟩))]) (fun _ => f) (fun _ => row mb 47 x.vals :: row lb 200 (lgC l.n l.known vp V.length vc pp pc cp cc) :: slc vp V.length vc 195 4 (V.flatMap VV.vals) :: lst (V.map VV.own) :: fam (fun r => pstH (pb r) (l.past r)) l.n :: slc cp l.n cc 232 1 (chRow l cs) :: fam (chFam l cs) l.n :: F)
      (fun i => i ≤ 11 ∧ ∀ j, j < i → x.m.deps j ≤ l.known j) (fun i => 11 - i) 0 ⟨Nat.zero_le _, fun j hj => by omega⟩ ⟨rfl, rfl, rfl, trivial⟩ rfl rfl fun i hi3 => ?_
     obtain ⟨hi3, hdn⟩ : i ≤ 11 ∧ ∀ j, j < i → x.m.deps j ≤ l.known j := hi3
     by_cases hi11 : i < 11
     ·skip
      refine gL ?_
      refine H.Bg (by kernel_rfl) (by decide +kernel) (by repeat (first | exact zab | refine zaa ?_ | refine zac ?_ | refine zae ?_)) ?_
      refine gW ?_
      refine HQ.Aw (i := i) rfl rfl rfl rfl hi11 rfl ?_
      refine HQ.Af rfl rfl rfl (by rw [Nat.mul_one]; exact Rd1.of (zan (m := x.m) (q := x.qp) (qc := x.qc) (.here _ _ _)) (zam x.m.deps hi11)) rfl ?_
      refine gW ?_
      refine HQ.Aw (i := i) rfl rfl rfl rfl hi11 rfl ?_
      refine HQ.Af rfl rfl rfl (by rw [Nat.mul_one]; exact Rd1.of (lgC_kn (.there _ (.here _ _ _))) (zam l.known hi11)) rfl ?_
      refine gS ?_
      by_cases hdt : x.m.deps i ≤ l.known i
      ·skip
       refine gT ?_
       refine H.Am (i + 1) ⟨by show i + 1 ≤ 11; omega, fun j hj => ?_⟩ (by show 11 - (i + 1) < 11 - i; omega) ⟨rfl, rfl, rfl, trivial⟩ rfl rfl
       by_cases e : j = i
       ·rw [e]; exact hdt
       ·exact hdn j (by omega)
      ·skip
       refine gL ?_
       refine H.Ab (x := row mb _ _) (by repeat constructor) ?_
       refine H.imp (zai ⟨V, vp, vc, pp, pc, cp, cc, pb, cs⟩ hiF) ?_
       refine H.ret2 rfl rfl rfl (fun _ h => h) (TkP.no ?_)
       unfold Lgs.take
       rw [if_neg hno, if_pos (.inr (List.all_eq_false.2 ⟨i, List.mem_range.2 hi11, by rw [decide_eq_false hdt]; decide⟩))]
     ·have hdin : depsIn x.m l.known = true := List.all_eq_true.2 fun j hj => decide_eq_true (hdn j (by have := List.mem_range.1 hj; omega))
      have htk : l.take x.m = (((l.counts x.m).1, 0), { (l.counts x.m).2 with known := updF (l.counts x.m).2.known (orgI x.m) ((l.counts x.m).2.known (orgI x.m) + 1) }) := by
       unfold Lgs.take
       rw [if_neg hno, if_neg (by rintro (h | h); exact h (by rw [← hoe]; exact hnum); rw [hdin] at h; cases h)]
      have hnk := l.counts_nk x.m
      refine gH ?_
      refine H.Ah (ls := x.vals) rfl rfl rfl (Rd.ofRow (.here _ _ _)) rfl rfl ?_
      refine H.Aa (x := fam (chFam l cs) _) (by repeat constructor) ?_
      refine H.Aa (x := slc cp _ cc _ _ _) (by repeat constructor) ?_
      refine H.Aa (x := fam (fun r => pstH _ _) _) (by repeat constructor) ?_
      refine H.Aa (x := lst (V.map VV.own)) (by repeat constructor) ?_
      refine H.Aa (x := slc vp _ vc _ _ _) (by repeat constructor) ?_
      refine H.Aa (x := row lb _ _) (by repeat constructor) ?_
      refine H.imp (zai ⟨V, vp, vc, pp, pc, cp, cc, pb, cs⟩ hiF) ?_
      refine H.Bo rfl rfl rfl (counts_fn f _ (Le.refl f) hL (by omega) hx hmi) fun v f' A' hr => ?_
      obtain ⟨g, hd, rfl, rfl, rfl⟩ := hr
      generalize hl2 : (l.counts x.m).2 = l2 at htk hnk ⊢
      obtain ⟨hn2, hk2⟩ := hnk
      refine H.unpack fun i4 hi4 => ?_
      obtain ⟨V4, vp4, vc4, pp4, pc4, cp4, cc4, pb4, cs4⟩ := i4
      refine H.Aa (x := row mb _ _) (by repeat constructor) ?_
      refine H.Aa (x := row lb _ _) (by repeat constructor) ?_
      refine gO ?_
      refine H.Bu [0, 1, 2, 3, 4, 5, 6, 7, 8, 9, 10, 11] (by kernel_rfl) (by decide +kernel) (by repeat (first | exact zab | refine zaa ?_ | refine zac ?_ | refine zae ?_)) (S := [_, _]) rfl ?_
      refine HB.Ag [(0, false), (1, false), (2, false), (3, false), (4, false), (5, false), (6, false), (7, false), (8, false), (9, false), (10, false), (11, false)] 1 (by kernel_rfl) ?_
      refine gW ?_
      refine HQ.Aw (i := o) rfl rfl rfl hoz ho11 rfl ?_
      refine HQ.Af rfl rfl rfl (by rw [Nat.mul_one]; exact Rd1.of (lgC_kn (.here _ _ _)) (zam l2.known ho11)) rfl ?_
      rw [hk2]
      refine gW ?_
      refine HQ.Aw (i := o) rfl rfl rfl hoz ho11 rfl ?_
      refine HQ.Ae rfl ?_
      refine HB.next [] (by kernel_rfl) (S' := []) rfl ?_
      refine HB.ev1 (i := 12) (by kernel_rfl) rfl ?_
      refine H.Bj (ls := lgC l2.n l.known vp4 V4.length vc4 pp4 pc4 cp4 cc4) (ls' := lgC l2.n (updF l.known o (l.known o + 1)) vp4 V4.length vc4 pp4 pc4 cp4 cc4) rfl rfl rfl rfl (.here _ _ _) (lgC_set _ _ _ _ _ _ _ _ _ _ ho11) ?_
      refine gC ?_
      refine H.on0 rfl ?_
      refine HB.Al (by kernel_rfl) ?_
      refine gf ?_
      refine H.Ab (x := row mb _ _) (by repeat constructor) ?_
      rw [hk2, ← hoe] at htk
      refine H.imp (zai (f := un f g) (l := { l2 with known := updF l.known o (l.known o + 1) }) ⟨V4, vp4, vc4, pp4, pc4, cp4, cc4, pb4, cs4⟩ ⟨hi4.vs, hi4.s, hi4.p⟩) ?_
      exact H.ret2 rfl rfl rfl (fun _ h => h) ⟨g, hd, by rw [htk], rfl, by rw [htk]⟩
    ·refine H.Bt rfl hnum ?_
     refine gf ?_
     refine H.Ab (x := row mb _ _) (by repeat constructor) ?_
     refine H.imp (zai ⟨V, vp, vc, pp, pc, cp, cc, pb, cs⟩ hiF) ?_
     refine H.ret2 rfl rfl rfl (fun _ h => h) (TkP.no ?_)
     unfold Lgs.take
     rw [if_neg hno, if_pos (.inl (by rw [← hoe]; exact hnum))]
end
theorem LI.mono {l : Lgs} {T T' : Nat} (h : LI l T) (hT : T ≤ T') : LI l T' :=
 ⟨h.n3, fun i => by have := h.kn i; omega, fun r hr => (h.wf r hr).mono (by omega), fun r hr => Nat.le_trans (h.il r hr) hT, by have := h.vl; omega, fun r => Nat.le_trans (h.cl r) hT, fun w hw => Nat.le_trans (h.al w hw) hT, h.log, h.zero, h.rise, h.begun, h.gb⟩
theorem LI.new {n : Nat} (h3 : 3 ≤ n) (h11 : n ≤ 11) : LI (Lgs.new n) 0 :=
 ⟨⟨h3, h11⟩, fun _ => ⟨Int.le_refl 0, Int.le_refl 0⟩, fun _ _ => PM.new_wf, fun _ _ => Nat.le_refl 0, Nat.le_refl 1, fun _ => Nat.le_refl 0,
  fun w hw => by rw [List.mem_singleton.1 hw]; exact Nat.le_refl 0,
  fun _ _ p hp => by
   rw [List.mem_singleton.1 hp]
   exact ⟨_, List.mem_singleton.2 rfl, rfl, Int.le_refl 0⟩,
  ⟨_, List.mem_singleton.2 rfl, rfl⟩, List.pairwise_singleton _ _, fun w hw h0 => by rw [List.mem_singleton.1 hw] at h0; exact absurd rfl h0, fun _ _ => by show (0 : Int) < _; decide⟩
theorem LI.upd {l : Lgs} {T : Nat} (h : LI l T) {r : Nat} {p' : PM} {vs' : List Vw} {ch' : Nat → List (Int × Int)} (hwf : PM.WF p' ((T : Int) + 1)) (hil : p'.init.length ≤ T + 1) (hvl : vs'.length ≤ T + 2) (hal : ∀ w ∈ vs', w.all.length ≤ T + 1)
  (hup : ∀ w ∈ l.vs, ∃ w' ∈ vs', w'.v = w.v ∧ w.all.length ≤ w'.all.length) (hlog : ∀ p ∈ p'.all, ∃ w ∈ vs', w.v = p.1 ∧ p.2 ≤ (w.all.length : Int)) (hrise : (vs'.map Vw.v).Pairwise (· < ·))
  (hbeg : ∀ w' ∈ vs', w'.v ≠ 0 → (∃ w ∈ l.vs, w.v = w'.v) ∨ (primI l.n w'.v = r ∧ ∃ p ∈ p'.all, p.1 = w'.v)) (hgr : ∀ p ∈ (l.past r).all, ∃ p2 ∈ p'.all, p2.1 = p.1) (hg : p'.g < 1073741824) (hcl : ∀ r, (ch' r).length ≤ T + 1) :
  LI { l with past := updF l.past r p', vs := vs', ch := ch' } (T + 1) := by
 have hm := h.mono (Nat.le_succ T)
 refine ⟨h.n3, hm.kn, fun s hs => ?_, fun s hs => ?_, hvl, hcl, hal, fun s hs p hp => ?_, ?_, hrise, fun w hw h0 => ?_, fun s hs => ?_⟩
 ·show PM.WF (updF l.past r p' s) _
  by_cases e : s = r
  ·rw [e, zah]; exact hwf
  ·rw [zal _ _ e]; exact hm.wf s hs
 ·show (updF l.past r p' s).init.length ≤ _
  by_cases e : s = r
  ·rw [e, zah]; exact hil
  ·rw [zal _ _ e]; exact hm.il s hs
 ·have hp : p ∈ (updF l.past r p' s).all := hp
  by_cases e : s = r
  ·rw [e, zah] at hp; exact hlog p hp
  ·rw [zal _ _ e] at hp
   obtain ⟨w, hw, h1, h2⟩ := h.log s hs p hp
   obtain ⟨w', hw', h3, h4⟩ := hup w hw
   exact ⟨w', hw', h3.trans h1, by omega⟩
 ·obtain ⟨w, hw, h1⟩ := h.zero
  obtain ⟨w', hw', h3, _⟩ := hup w hw
  exact ⟨w', hw', h3.trans h1⟩
 ·show ∃ p ∈ (updF l.past r p' (primI l.n w.v)).all, p.1 = w.v
  rcases hbeg w hw h0 with ⟨w0, hw0, e0⟩ | ⟨e0, p, hp, e1⟩
  ·obtain ⟨p, hp, e1⟩ := h.begun w0 hw0 (by rw [e0]; exact h0)
   rw [e0] at hp e1
   by_cases e : primI l.n w.v = r
   ·rw [e] at hp
    obtain ⟨p2, hp2, e2⟩ := hgr p hp
    rw [e, zah]
    exact ⟨p2, hp2, e2.trans e1⟩
   ·rw [zal _ _ e]
    exact ⟨p, hp, e1⟩
  ·rw [e0, zah]
   exact ⟨p, hp, e1⟩
 ·show (updF l.past r p' s).g < _
  by_cases e : s = r
  ·rw [e, zah]; exact hg
  ·rw [zal _ _ e]; exact h.gb s hs
theorem Vw.uniq {vs : List Vw} (h : (vs.map Vw.v).Pairwise (· < ·)) {a b : Vw} (ha : a ∈ vs) (hb : b ∈ vs) (e : a.v = b.v) : a = b := by
 obtain ⟨i, h1, h2⟩ := vwAt_mem h ha
 obtain ⟨j, h3, h4⟩ := vwAt_mem h hb
 rw [e, h3] at h1
 cases h1
 rw [h4] at h2
 cases h2
 rfl
theorem PM.WF.mem_le {s : PM} {B : Int} (h : PM.WF s B) {p : Int × Int} (hp : p ∈ s.all) : p.1 ≤ s.lv := by
 unfold PM.all at hp
 rcases List.mem_append.1 hp with h1 | h1
 ·exact Int.le_of_lt (h.below p h1)
 ·rw [List.mem_singleton.1 h1]
  exact Int.le_refl _
theorem PM.change_all (s : PM) (v : Int) : (s.change v).all = s.all ∧ (s.change v).init = s.init := by
 unfold PM.change
 split <;> exact ⟨rfl, rfl⟩
theorem PM.enter_all {s : PM} {v k : Int} (h : s.enterOk v k = true) : (s.enter v k).all = s.all ++ [(v, k)] ∧ (s.enter v k).init = s.all := by
 unfold PM.enter
 rw [if_pos h]
 exact ⟨rfl, rfl⟩
theorem PM.enter_g {s : PM} {v k : Int} (h : s.enterOk v k = true) : (s.enter v k).g < 1073741824 := by
 unfold PM.enter
 rw [if_pos h]
 unfold PM.enterOk at h
 exact (of_decide_eq_true h).2.2.1
theorem PM.change_gb {s : PM} {v : Int} (h : s.g < 1073741824) : (s.change v).g < 1073741824 := by
 unfold PM.change
 split
 ·rename_i hc
  unfold PM.changeOk at hc
  exact (of_decide_eq_true hc).2
 ·exact h
theorem PM.init_len (s : PM) : s.all.length = s.init.length + 1 := by unfold PM.all; rw [List.length_append]; rfl
theorem LI.step {l : Lgs} {T : Nat} (h : LI l T) : LI l (T + 1) := h.mono (Nat.le_succ T)
theorem LI.enter {l : Lgs} {T : Nat} (h : LI l T) {r : Nat} (hr : r < l.n) {w : Vw} (hw : w ∈ l.vs) {k : Int} (hk : k ≤ (w.all.length : Int)) : LI (l.doPast r ((l.past r).enter w.v k)) (T + 1) := by
 cases hok : (l.past r).enterOk w.v k with
 | false =>
  have e : (l.past r).enter w.v k = l.past r := by unfold PM.enter; rw [hok]; rfl
  unfold Lgs.doPast
  rw [e, updF_self]
  exact h.step
 | true =>
  obtain ⟨e1, e2⟩ := PM.enter_all hok
  have hwf := h.wf r hr
  have hal := h.al w hw
  have hil := h.il r hr
  have hlen := (l.past r).init_len
  refine h.upd (hwf.mono (B' := (T : Int) + 1) (by omega) |>.enter w.v k (by omega)) (by rw [e2]; omega) (by have := h.vl; omega) h.step.al (fun w hw => ⟨w, hw, rfl, Nat.le_refl _⟩) (fun p hp => ?_) h.rise (fun w' hw' _ => .inl ⟨w', hw', rfl⟩) (fun p hp => ⟨p, by rw [e1]; exact List.mem_append_left _ hp, rfl⟩) (PM.enter_g hok) (h.step.cl)
  rw [e1] at hp
  rcases List.mem_append.1 hp with h1 | h1
  ·exact h.log r hr p h1
  ·rw [List.mem_singleton.1 h1]
   exact ⟨w, hw, rfl, hk⟩
theorem LI.begins {l : Lgs} {T : Nat} (h : LI l T) {m : Msg} (hm : MIn l.n m) (hp : primZ l.n m.body.view = m.origin) : LI (l.begins m).2 (T + 1) := by
 unfold Lgs.begins
 split
 ·exact h.step
 ·split
  ·exact h.step
  ·split
   ·exact h.step
   ·rename_i _ _ hok
    obtain ⟨i, w, hv1, hv2, hlo, hhi⟩ := h.best hm
    have hok : (l.past (orgI m)).enterOk m.body.view (bestQ l.past m.body.view m.body.q (0, 0)).2 = true := by
     cases e : (l.past (orgI m)).enterOk m.body.view (bestQ l.past m.body.view m.body.q (0, 0)).2 with
     | true => rfl
     | false => exact absurd e hok
    generalize bestQ l.past m.body.view m.body.q (0, 0) = b at hv1 hlo hhi hok ⊢
    have hwm := List.mem_of_getElem? hv2
    rw [hv1]
    show LI { l with past := _, vs := insV ⟨m.body.view, m.number, ((l.vs[i]?.map Vw.all).getD []).take b.2.toNat, []⟩ l.vs } (T + 1)
    rw [hv2]
    show LI { l with past := _, vs := insV ⟨m.body.view, m.number, w.all.take b.2.toNat, []⟩ l.vs } (T + 1)
    obtain ⟨N, hN⟩ : ∃ N : Vw, N = ⟨m.body.view, m.number, w.all.take b.2.toNat, []⟩ := ⟨_, rfl⟩
    rw [← hN]
    have hNv : N.v = m.body.view := by rw [hN]
    have hNl : N.all.length = b.2.toNat := by
     rw [Vw.all_len, hN]
     show (w.all.take b.2.toNat).length + 0 = _
     rw [List.length_take]
     omega
    have hor := hm.o
    have hr : orgI m < l.n := by unfold orgI; omega
    have hpr : primI l.n m.body.view = orgI m := by unfold primZ at hp; unfold orgI; omega
    have hwf := h.wf _ hr
    have hal := h.al w hwm
    obtain ⟨e1, e2⟩ := PM.enter_all hok
    have hlast := hwf.last
    have hlv : (l.past (orgI m)).lv < m.body.view := by
     unfold PM.enterOk at hok
     have := of_decide_eq_true hok
     omega
    have hperm := insV_perm N l.vs
    have hnew : ∀ x ∈ l.vs, x.v ≠ N.v := fun x hx e => by
     rw [hNv] at e
     obtain ⟨p, hpm, e3⟩ := h.begun x hx (by omega)
     rw [e, hpr] at hpm
     have := hwf.mem_le hpm
     omega
    refine h.upd (hwf.mono (B' := (T : Int) + 1) (by omega) |>.enter m.body.view b.2 (by omega)) (by rw [e2, PM.init_len]; have := h.il _ hr; omega) (by rw [← hperm.length_eq]; have := h.vl; show l.vs.length + 1 ≤ _; omega)
     (fun x hx => ?_) (fun x hx => ⟨x, hperm.mem_iff.1 (List.mem_cons_of_mem _ hx), rfl, Nat.le_refl _⟩) (fun p hpm => ?_) ?_ (fun x hx h0 => ?_) (fun p hpm => ⟨p, by rw [e1]; exact List.mem_append_left _ hpm, rfl⟩) (PM.enter_g hok) h.step.cl
    ·rcases List.mem_cons.1 (hperm.mem_iff.2 hx) with e | e
     ·rw [e, hNl]; omega
     ·have := h.al x e; omega
    ·rw [e1] at hpm
     rcases List.mem_append.1 hpm with h1 | h1
     ·obtain ⟨x, hx, h2⟩ := h.log _ hr p h1
      exact ⟨x, hperm.mem_iff.1 (List.mem_cons_of_mem _ hx), h2⟩
     ·rw [List.mem_singleton.1 h1]
      exact ⟨N, hperm.mem_iff.1 (List.mem_cons_self), hNv, by rw [hNl]; show b.2 ≤ _; omega⟩
    ·have hrise := h.rise
     have hab := insKF_above N.v l.vs l.vs.length
     have hbe := insKF_below N.v l.vs l.vs.length
     have hle := insKF_le N.v l.vs l.vs.length
     unfold insV insK
     generalize insKF N.v l.vs l.vs.length = k at hab hbe hle
     rw [← List.take_append_drop k l.vs, List.map_append, List.pairwise_append] at hrise
     obtain ⟨hr1, hr2, hr3⟩ := hrise
     rw [List.map_append, List.map_cons, List.pairwise_append]
     refine ⟨hr1, List.pairwise_cons.2 ⟨fun a ha => ?_, hr2⟩, fun a ha c hc => ?_⟩
     ·obtain ⟨x, hx, rfl⟩ := List.mem_map.1 ha
      obtain ⟨j, hj⟩ := List.getElem?_of_mem hx
      rw [List.getElem?_drop] at hj
      exact hab (k + j) x (by omega) (List.getElem?_eq_some_iff.1 hj).1 hj
     ·obtain ⟨x, hx, rfl⟩ := List.mem_map.1 ha
      have hxN : x.v < N.v := by
       have hk0 : 0 < k := by
        rcases Nat.eq_zero_or_pos k with e | e
        ·rw [e] at hx; simp at hx
        ·exact e
       obtain ⟨y, hy⟩ : ∃ y, l.vs[k - 1]? = some y := ⟨_, List.getElem?_eq_getElem (by omega)⟩
       have h1 := hbe y hk0 hy
       have h2 := hnew y (List.mem_of_getElem? hy)
       obtain ⟨j, hj⟩ := List.getElem?_of_mem hx
       have hjk : j < k := by
        have := (List.getElem?_eq_some_iff.1 hj).1
        rw [List.length_take] at this
        omega
       rw [List.getElem?_take_of_lt hjk] at hj
       by_cases e : j = k - 1
       ·rw [e, hy] at hj; cases hj; omega
       ·have h3 := List.pairwise_iff_getElem.1 h.rise j (k - 1) (by rw [List.length_map]; omega) (by rw [List.length_map]; omega) (by omega)
        rw [List.getElem_map, List.getElem_map, (List.getElem?_eq_some_iff.1 hj).2, (List.getElem?_eq_some_iff.1 hy).2] at h3
        omega
      rcases List.mem_cons.1 hc with e | e
      ·rw [e]; exact hxN
      ·exact hr3 _ ha _ e
    ·rcases List.mem_cons.1 (hperm.mem_iff.2 hx) with e | e
     ·refine .inr ⟨by rw [e, hNv]; exact hpr, (m.body.view, b.2), by rw [e1]; simp, by rw [e, hNv]⟩
     ·exact .inl ⟨x, e, rfl⟩
theorem PM.bump_all (s : PM) : ({ s with ln := s.ln + 1 } : PM).all = s.init ++ [(s.lv, s.ln + 1)] := rfl
theorem LI.bump {l : Lgs} {T : Nat} (h : LI l T) {r : Nat} (hr : r < l.n) {vs' : List Vw} (hvl : vs'.length = l.vs.length) (hal : ∀ w ∈ vs', w.all.length ≤ T + 1)
  (hup : ∀ w ∈ l.vs, ∃ w' ∈ vs', w'.v = w.v ∧ w.all.length ≤ w'.all.length) (hlast : ∃ w ∈ vs', w.v = (l.past r).lv ∧ (l.past r).ln + 1 ≤ (w.all.length : Int)) (hv : vs'.map Vw.v = l.vs.map Vw.v) :
  LI { l with past := updF l.past r { l.past r with ln := (l.past r).ln + 1 }, vs := vs' } (T + 1) := by
 have hwf := h.wf r hr
 have hil := h.il r hr
 refine h.upd hwf.bump (by show (l.past r).init.length ≤ _; omega) (by rw [hvl]; have := h.vl; omega) hal hup (fun p hp => ?_) (by rw [hv]; exact h.rise) (fun w' hw' _ => .inl ?_) (fun p hp => ?_) (h.gb r hr) h.step.cl
 ·rw [PM.bump_all] at hp
  rcases List.mem_append.1 hp with h1 | h1
  ·obtain ⟨w, hw, h2, h3⟩ := h.log r hr p (List.mem_append_left _ h1)
   obtain ⟨w', hw', h4, h5⟩ := hup w hw
   exact ⟨w', hw', h4.trans h2, by omega⟩
  ·rw [List.mem_singleton.1 h1]
   exact hlast
 ·have : w'.v ∈ l.vs.map Vw.v := by rw [← hv]; exact List.mem_map_of_mem hw'
  obtain ⟨w, hw, e⟩ := List.mem_map.1 this
  exact ⟨w, hw, e⟩
 ·rw [PM.bump_all]
  rcases List.mem_append.1 (show p ∈ (l.past r).init ++ [((l.past r).lv, (l.past r).ln)] from hp) with h1 | h1
  ·exact ⟨p, List.mem_append_left _ h1, rfl⟩
  ·rw [List.mem_singleton.1 h1]
   exact ⟨((l.past r).lv, (l.past r).ln + 1), by simp, rfl⟩
theorem knowsV_le (w : Vw) (d : Int) : knowsV w d ≤ w.all.length := by
 rw [w.all_len]
 unfold knowsV
 have := List.length_filter_le (fun x : Int × Req => decide (x.1 ≤ d)) w.p
 omega
theorem LI.counts {l : Lgs} {T : Nat} (h : LI l T) {m : Msg} (hm : MIn l.n m) : LI (l.counts m).2 (T + 1) := by
 have hor := hm.o
 have hr : orgI m < l.n := by unfold orgI; omega
 have hwf := h.wf _ hr
 by_cases h3 : m.body.kind = 3
 ·rw [Lgs.counts_3 h3]
  split
  ·obtain ⟨e1, e2⟩ := (l.past (orgI m)).change_all m.body.view
   refine h.upd ((hwf.mono (B' := (T : Int) + 1) (by omega)).change m.body.view) (by rw [e2]; have := h.il _ hr; omega) (by have := h.vl; omega) h.step.al (fun w hw => ⟨w, hw, rfl, Nat.le_refl _⟩) (fun p hp => h.log _ hr p (by rw [e1] at hp; exact hp)) h.rise (fun w' hw' _ => .inl ⟨w', hw', rfl⟩) (fun p hp => ⟨p, by rw [e1]; exact hp, rfl⟩) (PM.change_gb (h.gb _ hr)) fun r => ?_
   have := h.cl r
   by_cases e : r = orgI m
   ·rw [e, zah, List.length_append]
    rw [e] at this
    show _ + 1 ≤ _
    omega
   ·rw [zal _ _ e]; omega
  ·exact h.step
 ·by_cases h4 : m.body.kind = 4
  ·rw [Lgs.counts_4 h4]
   split
   ·rename_i hp
    exact h.begins hm (of_decide_eq_true hp)
   ·exact h.step
  ·by_cases h5 : m.body.kind = 5
   ·cases hat : vwAt l.vs m.body.view with
    | none => rw [Lgs.counts_5n h5 hat]; exact h.step
    | some i =>
     obtain ⟨⟨w, hw, hwv⟩, _⟩ := zav.1 hat
     rw [Lgs.counts_5 h5 hat hw]
     split
     ·exact h.step
     ·have := h.enter hr (List.mem_of_getElem? hw) (k := (w.s.length : Nat)) (by rw [w.all_len]; omega)
      rw [hwv] at this
      exact this
   ·by_cases h1 : m.body.kind = 1
    ·cases hat : vwAt l.vs m.body.view with
     | none => rw [Lgs.counts_1n h1 hat]; exact h.step
     | some i =>
      obtain ⟨⟨w, hw, hwv⟩, _⟩ := zav.1 hat
      have hwm := List.mem_of_getElem? hw
      have hi := (List.getElem?_eq_some_iff.1 hw).1
      rw [Lgs.counts_1 h1 hat hw]
      split
      ·exact h.step
      ·rename_i hno
       have hop : (l.past (orgI m)).isOpen m.body.view = true := by
        cases e : (l.past (orgI m)).isOpen m.body.view with
        | true => rfl
        | false => exact absurd (.inr (.inr (.inr e))) hno
       have hlv : m.body.view = (l.past (orgI m)).lv := by
        unfold PM.isOpen at hop
        exact (of_decide_eq_true hop).2
       have hpr : (l.past (orgI m)).prepare m.body.view = { l.past (orgI m) with ln := (l.past (orgI m)).ln + 1 } := by unfold PM.prepare; rw [if_pos hop]
       obtain ⟨w2, hw2⟩ : ∃ w2 : Vw, w2 = { w with p := w.p ++ [(m.number, m.body.req)] } := ⟨_, rfl⟩
       have h2v : w2.v = w.v := by rw [hw2]
       have h2l : w2.all.length = w.all.length + 1 := by
        rw [w2.all_len, w.all_len, hw2]
        show _ + (w.p ++ _).length = _
        rw [List.length_append]
        show w.s.length + (w.p.length + 1) = _
        omega
       rw [← hw2, hpr]
       have hset : (l.vs.set i w2)[i]? = some w2 := by rw [List.getElem?_set_self hi]
       refine h.bump hr List.length_set (fun x hx => ?_) (fun x hx => ?_) ⟨w2, List.mem_of_getElem? hset, by rw [h2v, hwv, hlv], ?_⟩ ?_
       ·rcases List.mem_or_eq_of_mem_set hx with e | e
        ·have := h.al x e; omega
        ·have := h.al w hwm; rw [e, h2l]; omega
       ·by_cases e : x = w
        ·exact ⟨w2, List.mem_of_getElem? hset, by rw [h2v, e], by rw [e, h2l]; omega⟩
        ·obtain ⟨j, hj⟩ := List.getElem?_of_mem hx
         refine ⟨x, ?_, rfl, Nat.le_refl _⟩
         refine List.mem_of_getElem? (i := j) ?_
         rw [List.getElem?_set_ne (fun e2 => e (by rw [← e2, hw] at hj; cases hj; rfl))]
         exact hj
       ·obtain ⟨x, hx, e1, e2⟩ := h.log _ hr ((l.past (orgI m)).lv, (l.past (orgI m)).ln) (by unfold PM.all; simp)
        have e1 : x.v = (l.past (orgI m)).lv := e1
        have e3 : x = w := Vw.uniq h.rise hx hwm (by rw [e1, hwv, hlv])
        rw [e3] at e2
        have e2 : (l.past (orgI m)).ln ≤ _ := e2
        rw [h2l]
        omega
       ·rw [List.map_set, h2v]
        have e : (l.vs.map Vw.v)[i]? = some w.v := by rw [List.getElem?_map, hw]; rfl
        exact set_self e
    ·by_cases h2 : m.body.kind = 2
     ·cases hat : vwAt l.vs m.body.view with
      | none => rw [Lgs.counts_2n h2 hat]; exact h.step
      | some i =>
       obtain ⟨⟨w, hw, hwv⟩, _⟩ := zav.1 hat
       have hwm := List.mem_of_getElem? hw
       rw [Lgs.counts_2 h2 hat hw]
       split
       ·exact h.step
       ·show LI (l.doPast _ _) _
        have hkn := knowsV_le w (m.deps (primI l.n m.body.view))
        generalize knowsV w (m.deps (primI l.n m.body.view)) = most at hkn ⊢
        unfold PM.commit Lgs.doPast
        split
        ·rename_i hok
         unfold PM.commitOk at hok
         have hok := of_decide_eq_true hok
         exact h.bump hr rfl h.step.al (fun w hw => ⟨w, hw, rfl, Nat.le_refl _⟩) ⟨w, hwm, by rw [hwv]; exact hok.1.2, by omega⟩ rfl
        ·rw [updF_self]
         exact h.step
     ·rw [Lgs.counts_x h3 h4 h5 h1 h2]; exact h.step
theorem LI.take {l : Lgs} {T : Nat} (h : LI l T) {m : Msg} (hv : 0 ≤ m.body.view) : LI (l.take m).2 (T + 1) := by
 unfold Lgs.take
 split
 ·exact h.step
 ·rename_i hno
  split
  ·exact h.step
  ·have hm : MIn l.n m := may_MIn (by
    cases e : m.may with
    | true => rfl
    | false => exact absurd (.inl e) hno) (by
    by_cases e : (l.n : Int) < m.origin
    ·exact absurd (.inr (.inl e)) hno
    ·omega) (by
    cases e : qIn l.n m with
    | true => rfl
    | false => exact absurd (.inr (.inr e)) hno) hv
   have hc := h.counts hm
   have hk := (l.counts_nk m).2
   refine ⟨hc.n3, fun i => ?_, hc.wf, hc.il, hc.vl, hc.cl, hc.al, hc.log, hc.zero, hc.rise, hc.begun, hc.gb⟩
   show 0 ≤ updF (l.counts m).2.known (orgI m) _ i ∧ updF (l.counts m).2.known (orgI m) _ i ≤ _
   rw [hk]
   have := h.kn i
   by_cases e : i = orgI m
   ·rw [e, zah]; rw [e] at this; omega
   ·rw [zal _ _ e]; omega
structure A15 where
 who : UInt8
 other : UInt8
 meet : Bool
 raw : Bool
 kind : UInt8
 view : UInt8
 k : UInt8
 client : UInt8
 time : UInt8
 key : UInt8
 q : List UInt8
 no : Bool
 qp : Option Addr
 qc : Nat
def A15.vals (x : A15) : List Value := [.int .u8 (x.who.toNat : Nat), .int .u8 (x.other.toNat : Nat), .bool x.meet, .bool x.raw, .int .u8 (x.kind.toNat : Nat), .int .u8 (x.view.toNat : Nat), .int .u8 (x.k.toNat : Nat), .int .u8 (x.client.toNat : Nat), .int .u8 (x.time.toNat : Nat), .int .u8 (x.key.toNat : Nat), .slice x.qp x.q.length x.qc, .bool x.no]
def byteS (b : UInt8) : ByteArray := ⟨#[b]⟩
def A15.req0 (x : A15) : Req := { Req.zero with client := 1 + ((x.client.toNat % 3 : Nat) : Int), time := 1 + ((x.time.toNat : Nat) : Int), kind := 2, key := byteS (UInt8.ofNat (97 + x.key.toNat % 4)), val := byteS (UInt8.ofNat (48 + x.time.toNat % 10)) }
def A15.req (x : A15) : Req := if x.no then x.req0 else x.req0.signed
def qRow (ch : Nat → List (Int × Int)) (kv : Nat → Int) (v : Int) (raw : Bool) (r : Nat) : List (Int × Int) := ((ch r).filter fun c => decide (c.1 = v) && decide (c.2 ≤ kv r) && !raw).map fun c => (((r + 1 : Nat) : Int), c.2)
def qAcc (row : Nat → List (Int × Int)) (half : Nat) : Nat → List (Int × Int)
 | 0 => []
 | k + 1 => if (qAcc row half k).length ≤ half then qAcc row half k ++ row k else qAcc row half k
def qNum (q : List UInt8) : Nat → List (Int × Int)
 | 0 => []
 | r + 1 => qNum q r ++ [(((r + 1 : Nat) : Int), 1 + (((q.getD r 0).toNat % 8 : Nat) : Int))]
def A15.qs (x : A15) (n : Nat) (ch : Nat → List (Int × Int)) (kv : Nat → Int) (v : Int) : List (Int × Int) :=
 if 0 < (qAcc (qRow ch kv v x.raw) ((n - 1) / 2) n).length ∨ x.q.length = 0 then qAcc (qRow ch kv v x.raw) ((n - 1) / 2) n else qNum x.q (if n ≤ x.q.length then n else x.q.length)
def fix1 (v : Int) : Int := if v = 0 then 1 else v
structure W15 where
 w : W12
 l : Lgs
def lastV (vs : List Vw) : Int := match vs[vs.length - 1]? with
 | none => 0
 | some w => w.v
def votedZ (s : PM) (v : Int) : Int := (PM.voted s.all v).getD 0
def A15.bodK (W : W15) (n o : Nat) (x : A15) : Nat → Bod
 | 0 => { Bod.zero 1 with view := if x.raw then ((x.view.toNat % 6 : Nat) : Int) else (W.l.past o).g, req := x.req }
 | 1 => { Bod.zero 2 with view := if x.raw then ((x.view.toNat % 6 : Nat) : Int) else (W.l.past o).g, k := if x.raw then 1 + ((x.k.toNat % 6 : Nat) : Int) else votedZ (W.l.past o) (W.l.past o).g + 1 }
 | 2 => { Bod.zero 3 with view := fix1 (if x.raw then ((x.view.toNat % 6 : Nat) : Int) else (W.l.past o).g + 1 + ((x.view.toNat % 2 : Nat) : Int)) }
 | 3 => { Bod.zero 4 with view := fix1 (if x.raw then ((x.view.toNat % 6 : Nat) : Int) else (W.l.past o).g), q := x.qs n W.l.ch (W.w.kv o) (W.l.past o).g }
 | 4 => { Bod.zero 5 with view := fix1 (if x.raw then ((x.view.toNat % 6 : Nat) : Int) else lastV W.l.vs) }
 | _ => { Bod.zero 6 with k := 1 + ((x.k.toNat % 6 : Nat) : Int), dig := dig0 x.key }
def A15.bod (W : W15) (n o : Nat) (x : A15) : Bod := x.bodK W n o (x.kind.toNat % 6)
def W15.next (W : W15) (n o : Nat) (x : A15) : Msg := ⟨((o + 1 : Nat) : Int), W.w.kv o o + 1, W.w.kv o, x.bod W n o, noTag⟩
def W15.act (n : Nat) (W : W15) (x : A15) : W15 :=
 if x.meet = true then { W with w := W.w.meet (x.who.toNat % n) (x.other.toNat % n) } else
 if (W.next n (x.who.toNat % n) x).may = true then ⟨W.w.say (x.who.toNat % n) (W.next n (x.who.toNat % n) x).signed, (W.l.take (W.next n (x.who.toNat % n) x).signed).2⟩ else W
def W15.zero (n : Nat) : W15 := ⟨W12.zero, Lgs.new n⟩
def world15 (n : Nat) (xs : List A15) : W15 := xs.foldl (W15.act n) (W15.zero n)
theorem qRow_all {ch : Nat → List (Int × Int)} {kv : Nat → Int} {v : Int} {raw : Bool} {r : Nat} {p : Int × Int} (h : p ∈ qRow ch kv v raw r) : p.1 = ((r + 1 : Nat) : Int) := by
 unfold qRow at h
 obtain ⟨c, _, rfl⟩ := List.mem_map.1 h
 rfl
theorem qRow_len (ch : Nat → List (Int × Int)) (kv : Nat → Int) (v : Int) (raw : Bool) (r : Nat) : (qRow ch kv v raw r).length ≤ (ch r).length := by
 unfold qRow
 rw [List.length_map]
 exact List.length_filter_le _ _
theorem qAcc_all {row : Nat → List (Int × Int)} {half : Nat} (h : ∀ r p, p ∈ row r → p.1 = ((r + 1 : Nat) : Int)) : ∀ k p, p ∈ qAcc row half k → p.1 ≤ (k : Int)
 | 0, p, hp => by cases hp
 | k + 1, p, hp => by
  unfold qAcc at hp
  split at hp
  ·rcases List.mem_append.1 hp with h1 | h1
   ·have := qAcc_all h k p h1; omega
   ·have := h k p h1; omega
  ·have := qAcc_all h k p hp; omega
theorem qAcc_len {row : Nat → List (Int × Int)} {half T : Nat} (h : ∀ r, (row r).length ≤ T) : ∀ k, (qAcc row half k).length ≤ half + T
 | 0 => Nat.zero_le _
 | k + 1 => by
  unfold qAcc
  have := h k
  split
  ·rw [List.length_append]; omega
  ·exact qAcc_len h k
theorem qNum_len (q : List UInt8) : ∀ r, (qNum q r).length = r
 | 0 => rfl
 | r + 1 => by unfold qNum; rw [List.length_append, qNum_len q r]; rfl
theorem qNum_all (q : List UInt8) : ∀ r p, p ∈ qNum q r → p.1 ≤ (r : Int)
 | 0, p, h => by cases h
 | r + 1, p, h => by
  unfold qNum at h
  rcases List.mem_append.1 h with h | h
  ·have := qNum_all q r p h; omega
  ·rw [List.mem_singleton.1 h]; exact Int.le_refl _
theorem A15.qs_all {n : Nat} (x : A15) (ch : Nat → List (Int × Int)) (kv : Nat → Int) (v : Int) : ∀ p ∈ x.qs n ch kv v, p.1 ≤ (n : Int) := by
 intro p hp
 unfold A15.qs at hp
 split at hp
 ·exact qAcc_all (fun r p h => qRow_all h) n p hp
 ·have := qNum_all _ _ p hp
  split at this <;> omega
theorem A15.qs_len {n T : Nat} (hn : n ≤ 11) (x : A15) {ch : Nat → List (Int × Int)} (hc : ∀ r, (ch r).length ≤ T) (kv : Nat → Int) (v : Int) : (x.qs n ch kv v).length ≤ 11 + T := by
 unfold A15.qs
 split
 ·have := qAcc_len (row := qRow ch kv v x.raw) (half := (n - 1) / 2) (fun r => Nat.le_trans (qRow_len ch kv v x.raw r) (hc r)) n
  omega
 ·rw [qNum_len]
  split <;> omega
theorem A15.req_ok (x : A15) : x.req.Ok := by
 have h := x.time.toNat_lt
 have h0 : x.req0.Ok := by
  refine ⟨⟨?_, ?_⟩, by show (0 : Int) ≤ 0; decide, by show (0 : Int) ≤ _; decide⟩
  ·show (0 : Int) ≤ 1 + ((x.time.toNat : Nat) : Int); omega
  ·show 1 + ((x.time.toNat : Nat) : Int) ≤ _; omega
 unfold A15.req
 split
 ·exact h0
 ·exact signed_ok h0
theorem voted_mem : ∀ (l : List (Int × Int)) (v k : Int), PM.voted l v = some k → (v, k) ∈ l
 | [], v, k, h => by cases h
 | (w, n) :: r, v, k, h => by
  unfold PM.voted at h
  split at h
  ·rename_i e; cases h; rw [e]; simp
  ·exact List.mem_cons_of_mem _ (voted_mem r v k h)
theorem votedZ_le {s : PM} {B : Int} (h : PM.WF s B) (hB : 0 ≤ B) (v : Int) : 0 ≤ votedZ s v ∧ votedZ s v ≤ B := by
 unfold votedZ
 cases e : PM.voted s.all v with
 | none => exact ⟨Int.le_refl 0, hB⟩
 | some k =>
  have := h.low _ (voted_mem _ _ _ e)
  exact ⟨this.2.2.1, this.2.2.2⟩
structure WI (n : Nat) (W : W15) (T : Nat) : Prop where
 w : WInv n W.w
 l : LI W.l T
 n : W.l.n = n
theorem fix1_rng {v : Int} (h : 0 ≤ v ∧ v ≤ 18446744073709551615) : 0 ≤ fix1 v ∧ fix1 v ≤ 18446744073709551615 := by
 unfold fix1
 split <;> omega
theorem lastV_rng {l : Lgs} {T : Nat} (h : LI l T) : 0 ≤ lastV l.vs ∧ lastV l.vs < 1073741824 := by
 unfold lastV
 cases e : l.vs[l.vs.length - 1]? with
 | none => exact ⟨Int.le_refl 0, by decide⟩
 | some w =>
  have hw := List.mem_of_getElem? e
  show 0 ≤ w.v ∧ w.v < _
  by_cases h0 : w.v = 0
  ·rw [h0]; decide
  ·obtain ⟨p, hp, e1⟩ := h.begun w hw h0
   have hr : primI l.n w.v < l.n := by
    have h1 : w.v % (l.n : Int) < l.n := Int.emod_lt_of_pos _ (by have := h.n3; omega)
    unfold primI
    have := h.n3
    omega
   have := (h.wf _ hr).low p hp
   omega
theorem A15.bod_ok {n T : Nat} {W : W15} (h : WI n W T) (hT : T ≤ 1000) {o : Nat} (ho : o < n) (x : A15) : (x.bod W n o).Ok := by
 have hk := x.k.toNat_lt
 have hor : o < W.l.n := by rw [h.n]; exact ho
 have hwf := h.l.wf o hor
 have hg0 := hwf.g0
 have hg1 := h.l.gb o hor
 have hvt := votedZ_le hwf (by omega) (W.l.past o).g
 have hlv := lastV_rng h.l
 have h0 : (0 : Int) ≤ 0 ∧ (0 : Int) ≤ 18446744073709551615 := by omega
 unfold A15.bod
 generalize x.kind.toNat % 6 = j
 match j with
 | 0 => exact ⟨by show 0 ≤ (if x.raw then _ else _) ∧ (if x.raw then _ else _) ≤ _; split <;> omega, h0, x.req_ok⟩
 | 1 => exact ⟨by show 0 ≤ (if x.raw then _ else _) ∧ (if x.raw then _ else _) ≤ _; split <;> omega, by show 0 ≤ (if x.raw then _ else _) ∧ (if x.raw then _ else _) ≤ _; split <;> omega, reqz_ok⟩
 | 2 => exact ⟨fix1_rng (by split <;> omega), h0, reqz_ok⟩
 | 3 => exact ⟨fix1_rng (by split <;> omega), h0, reqz_ok⟩
 | 4 => exact ⟨fix1_rng (by split <;> omega), h0, reqz_ok⟩
 | j + 5 => exact ⟨h0, by show 0 ≤ 1 + ((x.k.toNat % 6 : Nat) : Int) ∧ 1 + ((x.k.toNat % 6 : Nat) : Int) ≤ _; omega, reqz_ok⟩
theorem A15.bod_q {n T : Nat} {W : W15} (h : WI n W T) (hn : n ≤ 11) {o : Nat} (x : A15) : (x.bod W n o).q.length ≤ 11 + T ∧ (x.bod W n o).q.all (fun p => decide (p.1 ≤ (n : Int))) = true := by
 unfold A15.bod
 generalize x.kind.toNat % 6 = j
 have h0 : ([] : List (Int × Int)).length ≤ 11 + T ∧ ([] : List (Int × Int)).all (fun p => decide (p.1 ≤ (n : Int))) = true := ⟨Nat.zero_le _, rfl⟩
 match j with
 | 0 => exact h0
 | 1 => exact h0
 | 2 => exact h0
 | 3 => exact ⟨x.qs_len hn h.l.cl _ _, List.all_eq_true.2 fun p hp => decide_eq_true (x.qs_all _ _ _ p hp)⟩
 | 4 => exact h0
 | j + 5 => exact h0
theorem WI.zero {n : Nat} (h3 : 3 ≤ n) (h11 : n ≤ 11) : WI n (W15.zero n) 0 := ⟨WInv.zero n, LI.new h3 h11, rfl⟩
theorem Lgs.take_n (l : Lgs) (m : Msg) : (l.take m).2.n = l.n := by
 unfold Lgs.take
 split
 ·rfl
 ·split
  ·rfl
  ·exact (l.counts_nk m).1
theorem WI.act {n T : Nat} {W : W15} (h : WI n W T) (h3 : 3 ≤ n) (h11 : n ≤ 11) (hT : T ≤ 1000) (x : A15) : WI n (W.act n x) (T + 1) := by
 have ho : x.who.toNat % n < n := Nat.mod_lt _ (by omega)
 have hj : x.other.toNat % n < n := Nat.mod_lt _ (by omega)
 unfold W15.act
 split
 ·exact ⟨h.w.meet ho hj, h.l.step, h.n⟩
 ·split
  ·rename_i hm
   obtain ⟨e1, e2, e3, e4⟩ := (W.next n (x.who.toNat % n) x).signed_parts
   refine ⟨(h.w.say h11 ho (m := W.next n (x.who.toNat % n) x) rfl rfl (fun i _ => rfl) (x.bod_q h h11).2 hm).2, h.l.take ?_, by show (W.l.take _).2.n = n; rw [Lgs.take_n, h.n]⟩
   have hb := (A15.bod_ok h hT ho x).1.1
   first | (rw [e4]; exact hb) | (rw [e3]; exact hb) | (rw [e2]; exact hb) | (rw [e1]; exact hb)
  ·exact ⟨h.w, h.l.step, h.n⟩
theorem world15_snoc (n : Nat) (l : List A15) (x : A15) : world15 n (l ++ [x]) = (world15 n l).act n x := by
 unfold world15; rw [List.foldl_append]; rfl
theorem world15_inv {n : Nat} (h3 : 3 ≤ n) (h11 : n ≤ 11) (l : List A15) : ∀ k, k ≤ 1000 → WI n (world15 n (l.take k)) k
 | 0, _ => WI.zero h3 h11
 | k + 1, hk => by
  have ih := world15_inv h3 h11 l k (by omega)
  cases h : l[k]? with
  | none =>
   have e : l.take (k + 1) = l.take k := by rw [List.take_add_one, h]; simp
   rw [e]
   exact ⟨ih.w, ih.l.step, ih.n⟩
  | some x =>
   rw [zbm h, world15_snoc]
   exact ih.act h3 h11 (by omega) x
theorem world15_len (n : Nat) (l : List A15) : ∀ k, (world15 n (l.take k)).w.all.length ≤ k
 | 0 => Nat.le_refl 0
 | k + 1 => by
  have ih := world15_len n l k
  cases h : l[k]? with
  | none =>
   have e : l.take (k + 1) = l.take k := by rw [List.take_add_one, h]; simp
   rw [e]
   omega
  | some x =>
   rw [zbm h, world15_snoc]
   unfold W15.act
   split
   ·exact Nat.le_succ_of_le ih
   ·split
    ·show (_ ++ [_]).length ≤ _
     rw [List.length_append]
     show _ + 1 ≤ _
     omega
    ·exact Nat.le_succ_of_le ih
def lgN (n : Nat) (vp : Option Addr) (pp : Option Addr) (pl pc : Nat) (cp : Option Addr) : List Value := [.int .i64 (n : Int)] ++ (v11 fun _ => 0) ++ [.slice vp 1 1, .slice pp pl pc, .slice cp n n]
theorem fam_more (g : Nat → HP) (k : Nat) (A : List HP) : stars (g k :: fam g k :: A) = stars (fam g (k + 1) :: A) := by
 show star (g k) (star (stars (rngH g k)) (stars A)) = star (star (g k) (stars (rngH g k))) (stars A)
 rw [zbj]
theorem fam_congr {g g' : Nat → HP} {k : Nat} (h : ∀ j, j < k → g j = g' j) : fam g k = fam g' k := by
 unfold fam
 rw [rngH_congr k h]
theorem fam_zero (g : Nat → HP) (A : List HP) : stars (fam g 0 :: A) = stars A := emp_star _
theorem fam_emp {g : Nat → HP} (A : List HP) : ∀ {k : Nat}, (∀ j, j < k → g j = emp) → stars (fam g k :: A) = stars A
 | 0, _ => emp_star _
 | k + 1, h => by
  rw [← fam_more, h k (by omega)]
  show star emp (stars (fam g k :: A)) = _
  rw [emp_star]
  exact fam_emp A fun j hj => h j (by omega)
theorem lst_emp1 (A : List HP) : stars (lst [emp] :: A) = stars A := by
 show star (star emp emp) (stars A) = stars A
 rw [emp_star, emp_star]
def vz : VV := ⟨⟨0, 0, [], []⟩, none, 0, none, 0⟩
theorem zeros_rng (n : Nat) : zeros [Value.slice none 0 0] n = chRow (Lgs.new n) fun _ => (none, 0) := by
 rw [zeros_one]
 unfold chRow rngV
 apply List.ext_getElem?
 intro i
 rw [List.getElem?_map]
 show _ = (List.range n)[i]?.map _
 by_cases h : i < n
 ·rw [List.getElem?_replicate, if_pos h, List.getElem?_range h]
  rfl
 ·rw [List.getElem?_eq_none (by rw [List.length_replicate]; omega), List.getElem?_eq_none (by rw [List.length_range]; omega)]
  rfl
theorem pbs_snoc (pb : Nat → Nat) (i b : Nat) : ((List.range (i + 1)).map (updF pb i b)).flatMap addrV = ((List.range i).map pb).flatMap addrV ++ addrV b := by
 rw [List.range_succ, List.map_append, List.flatMap_append]
 congr 1
 ·congr 1
  exact List.map_congr_left fun j hj => zal _ _ (by have := List.mem_range.1 hj; omega)
 ·simp [zah]
def LgNewP (f : Frag) (F : List HP) (n : Nat) : Value → Frag → List HP → Prop := fun v f' A' => ∃ (g : Frag) (lb : Nat), Dj f g ∧ v = .tuple #[.pointer (some ⟨lb, 0, none⟩), .int .i64 0] ∧ f' = un f g ∧ A' = logsH f' lb (Lgs.new n) :: F
section
variable (f : Frag) (F : List HP)
set_option maxHeartbeats 1600000 in
theorem lgnew_fn {n : Nat} (h : fewZ (n : Int)) : Fn Tryz.prog 93 [.int .i64 (n : Int)] f F (LgNewP f F n) := by
 obtain ⟨h1, h2, h3⟩ := h
 have hn : n ≤ 11 := by omega
 refine Fn.enter Tryz.func93 rfl Tryz.ntmps93 rfl (L := [(0, _)]) ⟨rfl, trivial⟩ fun base => ?_
 repeat (first | (refine H.rem (z := 1) rfl rfl rfl (by decide) h3 rfl ?_) | ((first | apply H.Aj | apply H.Ap); (iterate 3 exact rfl)) | (first | apply H.seq | apply H.Aq | apply H.nil | apply H.Ao) | ((first | apply H.cmp | apply H.Bc); (iterate 5 exact rfl)) | ((apply H.Bf); (iterate 4 exact rfl)) | (apply H.Ci; exact rfl) | (apply H.Bk) | (apply H.gno; (iterate 3 exact rfl); (omega)))
 refine H.Bb (out := vz.vals) rfl rfl rfl rfl (by decide) (by decide) rfl rfl fun vb => ?_
 refine gO ?_
 refine H.makeS (m := n) (zs := [.slice none 0 0]) rfl rfl rfl rfl rfl rfl rfl (by decide) (by omega) (by omega) rfl fun cb => ?_
 refine H.Bc (t := 200) (out := lgN n (some ⟨vb, 0, none⟩) none 0 0 (some ⟨cb, 0, none⟩)) rfl rfl rfl (by kernel_rfl) rfl ?_
 refine H.box (ls := lgN n (some ⟨vb, 0, none⟩) none 0 0 (some ⟨cb, 0, none⟩)) rfl rfl rfl rfl fun lb => ?_
 refine gf ?_
 refine H.slc0 201 1 ?_
 refine H.conv (fam_zero (fun r => pstH (0 * r) PM.new) _).symm ?_
 refine H.Aa (x := slc none 0 0 _ _ _) (by repeat constructor) ?_
 refine H.Aa (x := row lb _ _) (by repeat constructor) ?_
 refine H.Ax (ι := Nat × Option Addr × Nat × (Nat → Nat)) (fun s => [(5, .int .i64 (s.1 : Int)), (4, .pointer (some ⟨lb, 0, none⟩)), (0, .int .i64 (n : Int))]) (fun _ => f)
  (fun s => row lb 200 (lgN n (some ⟨vb, 0, none⟩) s.2.1 s.1 s.2.2.1 (some ⟨cb, 0, none⟩)) :: slc s.2.1 s.1 s.2.2.1 201 1 (((List.range s.1).map s.2.2.2).flatMap addrV) :: fam (fun r => pstH (s.2.2.2 r) PM.new) s.1 :: row cb 232 (zeros [.slice none 0 0] n) :: row vb 195 vz.vals :: F)
  (fun s => s.1 ≤ n) (fun s => n - s.1) (0, none, 0, fun r => 0 * r) (Nat.zero_le _) ⟨rfl, rfl, rfl, trivial⟩ rfl rfl fun s hs => ?_
 obtain ⟨i, pp, pc, pb⟩ := s
 have hi : i ≤ n := hs
 show H _ _ _ [(5, .int .i64 (i : Int)), _, _] f (row lb _ (lgN n _ pp i pc _) :: slc pp i pc _ 1 (((List.range i).map pb).flatMap addrV) :: fam (fun r => pstH (pb r) PM.new) i :: _ :: _ :: F) _
 by_cases hlt : i < n
 ·skip
  refine gL ?_
  refine H.Bu [0, 1, 2, 3, 4, 5, 6, 7] (by kernel_rfl) (by decide +kernel) (by repeat (first | exact zab | refine zaa ?_ | refine zac ?_ | refine zae ?_)) (S := [_]) rfl ?_
  refine HB.Ag [(0, false), (1, false), (2, false), (3, false), (4, false)] 6 (by kernel_rfl) ?_
  refine gW ?_
  refine HQ.Ae rfl ?_
  refine HB.ev1 (i := 5) (by kernel_rfl) rfl ?_
  refine H.Bo rfl rfl rfl (pst_new f _) fun v f' A' hr => ?_
  obtain ⟨b, rfl, hff, rfl⟩ := hr
  rw [hff]
  refine gC ?_
  refine H.Aa (x := row lb _ _) (by repeat constructor) ?_
  refine H.on0 rfl ?_
  refine HB.ev1 (i := 6) (by kernel_rfl) rfl ?_
  refine H.Bb (out := addrV b) rfl rfl rfl rfl (by decide) (by decide) rfl rfl fun eb => ?_
  refine gC ?_
  refine H.Aa (x := row lb _ _) (by repeat constructor) ?_
  refine H.on0 rfl ?_
  refine HB.ev1 (i := 7) (by kernel_rfl) rfl ?_
  refine H.Bd (sz := 1) (p := pp) (n0 := i) (c := pc) (xs := ((List.range i).map pb).flatMap addrV) (m := 1) (news := addrV b) rfl rfl rfl rfl rfl (fun p' c' => (by repeat constructor)) (Src.slice (Rd.ofRow (by repeat constructor)) rfl) (zad rfl) rfl (by omega) (by omega) fun p2 c2 => ?_
  refine gC ?_
  refine H.Ab (x := row eb _ _) (by repeat constructor) ?_
  refine H.on0 rfl ?_
  refine HB.next [] (by kernel_rfl) (S' := []) rfl ?_
  refine HB.Ag [(8, false), (9, false)] 1 (by kernel_rfl) ?_
  refine gW ?_
  refine HQ.Ae rfl ?_
  refine HB.ev1 (i := 10) (by kernel_rfl) rfl ?_
  refine H.Bj (ls := lgN n (some ⟨vb, 0, none⟩) pp i pc (some ⟨cb, 0, none⟩)) (ls' := lgN n (some ⟨vb, 0, none⟩) p2 (i + 1) c2 (some ⟨cb, 0, none⟩)) rfl rfl rfl rfl (.here _ _ _) (by repeat (first | exact .here _ _ _ | apply SetV.there)) ?_
  refine gC ?_
  refine H.on0 rfl ?_
  refine HB.Al (by kernel_rfl) ?_
  refine gI ?_
  refine H.Aa (x := fam _ _) (by repeat constructor) ?_
  refine H.Aa (x := pstH b PM.new) (by repeat constructor) ?_
  have e1 : fam (fun r => pstH (pb r) PM.new) i = fam (fun r => pstH (updF pb i b r) PM.new) i := fam_congr fun j hj => by
   show _ = pstH (updF pb i b j) PM.new
   rw [zal _ _ (by omega)]
  have e2 : pstH b PM.new = pstH (updF pb i b i) PM.new := by rw [zah]
  rw [e1, e2]
  refine H.conv (fam_more (fun r => pstH (updF pb i b r) PM.new) i _) ?_
  refine H.Aa (x := slc p2 _ c2 _ _ _) (by repeat constructor) ?_
  refine H.Aa (x := row lb _ _) (by repeat constructor) ?_
  refine H.Am (i + 1, p2, c2, updF pb i b) (by show i + 1 ≤ n; omega) (by show n - (i + 1) < n - i; omega) ⟨rfl, rfl, rfl, trivial⟩ rfl ?_
  show _ :: slc p2 (i + 1) c2 _ 1 _ :: _ = _ :: slc p2 (i + 1) c2 _ 1 (((List.range (i + 1)).map (updF pb i b)).flatMap addrV) :: _
  rw [pbs_snoc]
 ·have e : i = n := by omega
  subst e
  refine gH ?_
  refine H.freeze (x := slc pp _ pc _ _ _) (by repeat constructor) fun g hg hd => ?_
  have hl : ((List.range i).map pb).length = i := by rw [List.length_map, List.length_range]
  have hpa : ListAt (un f g) pp 1 addrV ((List.range i).map pb) := (zbl (xs := (List.range i).map pb) (vals := addrV) (c := pc) (T := 201) (fun _ => rfl) (by rw [hl]; exact hg)).mono (Le.right hd)
  refine H.Aa (x := row cb _ _) (by repeat constructor) ?_
  refine H.asSlc (k := i) (sz := 1) (by rw [zeros_length]; rfl) (by omega) ?_
  refine H.Aa (x := row vb _ _) (by repeat constructor) ?_
  refine H.asSlc (k := 1) (sz := 4) rfl (by decide) ?_
  refine H.Aa (x := slc (some ⟨cb, 0, none⟩) _ _ _ _ _) (by repeat constructor) ?_
  refine H.Aa (x := fam _ _) (by repeat constructor) ?_
  refine H.Aa (x := slc (some ⟨vb, 0, none⟩) _ _ _ _ _) (by repeat constructor) ?_
  refine H.Aa (x := row lb _ _) (by repeat constructor) ?_
  refine H.imp (A' := logsH (un f g) lb (Lgs.new i) :: F) (fun z hz => zai (l := Lgs.new i) ⟨[vz], some ⟨vb, 0, none⟩, 1, pp, pc, some ⟨cb, 0, none⟩, i, pb, fun _ => (none, 0)⟩ ⟨rfl, fun x hx => ?_, hpa⟩ z ?_) ?_
  ·rw [List.mem_singleton.1 hx]
   exact ListAt.nil _ _
  ·have e : [vz].map VV.own = [emp] := by
    show [slc none 0 0 _ 41 []] = [emp]
    rw [slc_emp]
   show star _ (star _ (stars (lst ([vz].map VV.own) :: fam (fun r => pstH (pb r) PM.new) i :: slc (some ⟨cb, 0, none⟩) i i _ 1 (chRow (Lgs.new i) fun _ => (none, 0)) :: fam (chFam (Lgs.new i) fun _ => (none, 0)) i :: F))) z
   rw [e, lst_emp1]
   show star _ (star _ (star _ (star _ (stars (fam (chFam (Lgs.new i) fun _ => (none, 0)) i :: F))))) z
   rw [fam_emp (g := chFam (Lgs.new i) fun _ => (none, 0)) F fun j _ => slc_emp 234 2, ← zeros_rng]
   exact hz
  ·exact H.ret2 rfl rfl rfl (fun _ h => h) ⟨g, lb, hd, rfl, rfl, rfl⟩
end
def w15C (kb n : Nat) (ap : Option Addr) (m ac lb : Nat) : List Value := [.slice (some ⟨kb, 0, none⟩) n n, .slice ap m ac, .pointer (some ⟨lb, 0, none⟩)]
section
variable (f : Frag) (F : List HP)
theorem great_fn {fl : Frag} (hfl : Le fl f) {wb kb lb : Nat} {l : Lgs} {T : Nat} (hL : LI l T) {ap : Option Addr} {m ac n o : Nat} (ho : o < l.n) :
  Fn Tryz.prog 115 [.pointer (some ⟨wb, 0, none⟩), .int .i64 ((o + 1 : Nat) : Int)] f (logsH fl lb l :: row wb 96 (w15C kb n ap m ac lb) :: F)
   (Ret (.int .u64 (l.past o).g) f (logsH fl lb l :: row wb 96 (w15C kb n ap m ac lb) :: F)) := by
 refine Fn.unpack fun i0 hi => ?_
 obtain ⟨V, vp, vc, pp, pc, cp, cc, pb, cs⟩ := i0
 have hiF := hi.mono hfl
 have hn := hL.n3
 obtain ⟨pbb, poff, hpp0, rdp0⟩ := hiF.past (by show 0 < l.n; omega)
 have hpp : pp = some ⟨pbb, poff, none⟩ := hpp0
 have rdp : ∀ {A : List HP} {r : Nat}, r < l.n → Rd1 f A pbb (poff + r) (.pointer (some ⟨pb r, 0, none⟩)) := fun {A r} hr => rdp0 (Le.refl f) hr
 clear hpp0 rdp0
 show Fn _ _ _ f (row lb 200 (lgC l.n l.known vp V.length vc pp pc cp cc) :: slc vp V.length vc 195 4 (V.flatMap VV.vals) :: lst (V.map VV.own) :: fam (fun r => pstH (pb r) (l.past r)) l.n :: slc cp l.n cc 232 1 (chRow l cs) :: fam (chFam l cs) l.n :: _ :: F) _
 refine Fn.enter Tryz.func115 rfl Tryz.ntmps115 rfl (L := [(0, _), (1, _)]) ⟨rfl, rfl, trivial⟩ fun base => ?_
 refine gY ?_
 refine H.Ar (b := pbb) (off := poff) (i := o) rfl (by rw [← hpp]; rfl) rfl (by omega) ho rfl ?_
 refine H.Af rfl rfl rfl (by rw [Nat.mul_one]; exact rdp ho) rfl ?_
 refine H.Aa (x := fam (fun r => pstH _ _) _) (by repeat constructor) ?_
 refine H.Cj ho ?_
 refine pstH_openH fun eb ec => ?_
 refine gR ?_
 refine H.imp (zao (b := pb o) (eb := eb) (ec := ec) (s := l.past o)) ?_
 refine H.Ck (g := fun r => pstH (pb r) (l.past r)) ho ?_
 refine H.Aa (x := fam (chFam l cs) _) (by repeat constructor) ?_
 refine H.Aa (x := slc cp _ cc _ _ _) (by repeat constructor) ?_
 refine H.Aa (x := fam (fun r => pstH _ _) _) (by repeat constructor) ?_
 refine H.Aa (x := lst (V.map VV.own)) (by repeat constructor) ?_
 refine H.Aa (x := slc vp _ vc _ _ _) (by repeat constructor) ?_
 refine H.Aa (x := row lb _ _) (by repeat constructor) ?_
 refine H.imp (zai ⟨V, vp, vc, pp, pc, cp, cc, pb, cs⟩ hi) ?_
 exact H.Ac rfl rfl (fun _ h => h) ⟨rfl, rfl, rfl⟩
theorem byte_toNat {k : Nat} (h : k < 256) : ((UInt8.ofNat k).toNat : Int) = (k : Int) := by
 rw [UInt8.toNat_ofNat']
 omega
set_option maxHeartbeats 1600000 in
theorem ask_fn (x : A15) : Fn Tryz.prog 116 [.agg x.vals.toArray] f F (Ret (.agg x.req.vals.toArray) f F) := by
 have hcm : ((x.client.toNat % 3 : Nat) : Int) ≤ 2 := by omega
 have hkm : ((x.key.toNat % 4 : Nat) : Int) ≤ 3 := by omega
 have htm : ((x.time.toNat % 10 : Nat) : Int) ≤ 9 := by omega
 have ht := x.time.toNat_lt
 have hsg := fun G => rsigned_fn f G x.req0
 refine Fn.enter Tryz.func116 rfl Tryz.ntmps116 rfl (L := [(0, _)]) ⟨rfl, trivial⟩ fun base => ?_
 refine gC ?_
 refine H.box (ls := x.vals) rfl rfl rfl rfl fun xb => ?_
 refine H.Au (ls := Req.zero.vals) rfl rfl rfl fun ob => ?_
 refine gY ?_
 refine H.rem (z := ((x.client.toNat % 3 : Nat) : Int)) rfl rfl rfl (by decide) (zak (b := 3) rfl) rfl ?_
 refine gP ?_
 refine H.rem (z := ((x.key.toNat % 4 : Nat) : Int)) rfl rfl rfl (by decide) (zak (b := 4) rfl) rfl ?_
 refine gI ?_
 refine H.know (d := 16) (u := .int .u8 ((UInt8.ofNat (97 + x.key.toNat % 4)).toNat : Nat)) rfl (by rw [byte_toNat (by omega)]; rfl) ?_
 refine H.Bb (out := bytesV [UInt8.ofNat (97 + x.key.toNat % 4)]) rfl rfl rfl rfl (by decide) (by decide) rfl rfl fun eb => ?_
 refine H.convBS (bs := [UInt8.ofNat (97 + x.key.toNat % 4)]) rfl rfl (Src.slice (Rd.ofRow (.here _ _ _)) rfl) (fun h => by cases h) rfl ?_
 refine gP ?_
 refine H.rem (z := ((x.time.toNat % 10 : Nat) : Int)) rfl rfl rfl (by decide) (zak (b := 10) rfl) rfl ?_
 refine gI ?_
 refine H.know (d := 22) (u := .int .u8 ((UInt8.ofNat (48 + x.time.toNat % 10)).toNat : Nat)) rfl (by rw [byte_toNat (by omega)]; rfl) ?_
 refine H.Bb (out := bytesV [UInt8.ofNat (48 + x.time.toNat % 10)]) rfl rfl rfl rfl (by decide) (by decide) rfl rfl fun eb2 => ?_
 refine H.convBS (bs := [UInt8.ofNat (48 + x.time.toNat % 10)]) rfl rfl (Src.slice (Rd.ofRow (.here _ _ _)) rfl) (fun h => by cases h) rfl ?_
 refine H.Ab (.here _ _) ?_
 refine H.Ab (.here _ _) ?_
 repeat (first | (refine H.Bc (t := 42) (out := x.req0.vals) rfl rfl rfl (by kernel_rfl) rfl ?_) | ((apply H.Bc); (iterate 5 exact rfl)))
 refine H.Au (ls := Req.zero.vals) rfl rfl rfl fun rb => ?_
 refine H.Ak (ls := Req.zero.vals) (vs := x.req0.vals) (ls' := x.req0.vals) rfl rfl rfl (zad rfl) rfl rfl (Nat.le_refl 40) (.here _ _ _) ?_
 refine gY ?_
 unfold A15.req
 cases hno : x.no with
 | true =>
  refine gG ?_
  refine H.Ah (ls := x.req0.vals) rfl rfl rfl (Rd.ofRow (.here _ _ _)) rfl rfl ?_
  refine H.Ak (ls := Req.zero.vals) (vs := x.req0.vals) (ls' := x.req0.vals) rfl rfl rfl (zad rfl) rfl rfl (Nat.le_refl 40) (.there _ (.here _ _ _)) ?_
  refine gf ?_
  refine H.Ab (.here _ _) ?_
  refine H.Ab (x := row xb _ _) (by repeat constructor) ?_
  exact H.Ba (ls := x.req0.vals) rfl rfl rfl (Rd.ofRow (.here _ _ _)) rfl (fun _ s => s.drop (.here _ _)) ⟨rfl, rfl, rfl⟩
 | false =>
  refine gV ?_
  refine H.Ah (ls := x.req0.vals) rfl rfl rfl (Rd.ofRow (.here _ _ _)) rfl rfl ?_
  refine H.Ad rfl rfl rfl (hsg _) ?_
  refine H.Ak (ls := Req.zero.vals) (vs := x.req0.signed.vals) (ls' := x.req0.signed.vals) rfl rfl rfl (zad rfl) rfl rfl (Nat.le_refl 40) (.there _ (.here _ _ _)) ?_
  refine gf ?_
  refine H.Ab (.here _ _) ?_
  refine H.Ab (x := row xb _ _) (by repeat constructor) ?_
  exact H.Ba (ls := x.req0.signed.vals) rfl rfl rfl (Rd.ofRow (.here _ _ _)) rfl (fun _ s => s.drop (.here _ _)) ⟨rfl, rfl, rfl⟩
end
def A15.Has (f : Frag) (x : A15) : Prop := BAt f x.qp x.q
theorem qAcc_stop {row : Nat → List (Int × Int)} {half : Nat} : ∀ {k m : Nat}, k ≤ m → half < (qAcc row half k).length → qAcc row half m = qAcc row half k
 | k, 0, h, _ => by
  have : k = 0 := by omega
  rw [this]
 | k, m + 1, h, hl => by
  by_cases e : k = m + 1
  ·rw [e]
  ·have ih := qAcc_stop (m := m) (by omega) hl
   show (if (qAcc row half m).length ≤ half then qAcc row half m ++ row m else qAcc row half m) = _
   rw [ih, if_neg (by omega)]
def qPart (ch : Nat → List (Int × Int)) (kv : Nat → Int) (v : Int) (raw : Bool) (r i : Nat) : List (Int × Int) := (((ch r).take i).filter fun c => decide (c.1 = v) && decide (c.2 ≤ kv r) && !raw).map fun c => (((r + 1 : Nat) : Int), c.2)
theorem qPart_all (ch : Nat → List (Int × Int)) (kv : Nat → Int) (v : Int) (raw : Bool) (r : Nat) : qPart ch kv v raw r (ch r).length = qRow ch kv v raw r := by unfold qPart qRow; rw [List.take_length]
theorem qPart_next {ch : Nat → List (Int × Int)} {kv : Nat → Int} {v : Int} {raw : Bool} {r i : Nat} {c : Int × Int} (hc : (ch r)[i]? = some c) : qPart ch kv v raw r (i + 1) = qPart ch kv v raw r i ++ (if (decide (c.1 = v) && decide (c.2 ≤ kv r) && !raw) = true then [(((r + 1 : Nat) : Int), c.2)] else []) := by
 unfold qPart
 rw [filt_take hc, List.map_append]
 congr 1
 split <;> rfl
theorem qPart_len (ch : Nat → List (Int × Int)) (kv : Nat → Int) (v : Int) (raw : Bool) (r i : Nat) : (qPart ch kv v raw r i).length ≤ (ch r).length := by
 unfold qPart
 rw [List.length_map]
 refine Nat.le_trans (List.length_filter_le _ _) ?_
 rw [List.length_take]
 omega
section
variable (f : Frag) (F : List HP)
set_option maxRecDepth 20000 in
set_option maxHeartbeats 3200000 in
theorem q15_fn {fl : Frag} (hfl : Le fl f) {wb kb lb : Nat} {l : Lgs} {T : Nat} (hL : LI l T) (hT : T ≤ 1000) {ap : Option Addr} {m ac n o : Nat} (hnn : l.n = n) (ho : o < n) {kv : Nat → Nat → Int} {x : A15} (hx : x.Has f) (hq20 : x.q.length ≤ 20) (v : Int) :
  Fn Tryz.prog 118 [.pointer (some ⟨wb, 0, none⟩), .int .i64 ((o + 1 : Nat) : Int), .agg x.vals.toArray, .int .u64 v] f (logsH fl lb l :: row wb 96 (w15C kb n ap m ac lb) :: row kb 37 (kRow n kv) :: F)
   (RetE (fun i : Option Addr × Nat => .slice i.1 (x.qs n l.ch (kv o) v).length i.2) f (fun i => slc i.1 (x.qs n l.ch (kv o) v).length i.2 61 2 ((x.qs n l.ch (kv o) v).flatMap pairV) :: logsH fl lb l :: row wb 96 (w15C kb n ap m ac lb) :: row kb 37 (kRow n kv) :: F)) := by
 refine Fn.unpack fun i0 hi => ?_
 obtain ⟨V, vp, vc, pp, pc, cp, cc, pb, cs⟩ := i0
 have hn := hL.n3
 obtain ⟨acc, hacc⟩ : ∃ acc : Nat → List (Int × Int), acc = qAcc (qRow l.ch (kv o) v x.raw) ((n - 1) / 2) := ⟨_, rfl⟩
 have hal : ∀ k, (acc k).length ≤ (n - 1) / 2 + T := fun k => by rw [hacc]; exact qAcc_len (fun r => Nat.le_trans (qRow_len _ _ _ _ r) (hL.cl r)) k
 show Fn _ _ _ f (row lb 200 (lgC l.n l.known vp V.length vc pp pc cp cc) :: slc vp V.length vc 195 4 (V.flatMap VV.vals) :: lst (V.map VV.own) :: fam (fun r => pstH (pb r) (l.past r)) l.n :: slc cp l.n cc 232 1 (chRow l cs) :: fam (chFam l cs) l.n :: row wb 96 (w15C kb n ap m ac lb) :: row kb 37 (kRow n kv) :: F) _
 refine Fn.enter Tryz.func118 rfl Tryz.ntmps118 rfl (L := [(0, _), (1, _), (2, _), (3, _)]) ⟨rfl, rfl, rfl, rfl, trivial⟩ fun base => ?_
 refine gC ?_
 refine H.box (ls := x.vals) rfl rfl rfl rfl fun xb => ?_
 refine gR ?_
 refine H.slc0 61 2 ?_
 refine H.Aa (x := fam (chFam l cs) _) (by repeat constructor) ?_
 refine H.Aa (x := slc cp _ cc _ _ _) (by repeat constructor) ?_
 refine H.Aa (x := fam (fun r => pstH _ _) _) (by repeat constructor) ?_
 refine H.Aa (x := lst (V.map VV.own)) (by repeat constructor) ?_
 refine H.Aa (x := slc vp _ vc _ _ _) (by repeat constructor) ?_
 refine H.Aa (x := row lb _ _) (by repeat constructor) ?_
 refine H.Aa (x := row kb _ _) (by repeat constructor) ?_
 refine H.Aa (x := row wb _ _) (by repeat constructor) ?_
 refine H.Aa (x := slc none _ _ _ _ _) (by repeat constructor) ?_
 refine H.Aa (x := row xb _ _) (by repeat constructor) ?_
 refine H.Ax (ι := Nat × Option Addr × Nat) (fun s => [(11, .int .i64 ((s.1 + 1 : Nat) : Int)), (9, .slice s.2.1 (acc s.1).length s.2.2), (10, .int .i64 (n : Int)), (0, .pointer (some ⟨wb, 0, none⟩)), (1, .int .i64 ((o + 1 : Nat) : Int)), (3, .int .u64 v), (6, .pointer (some ⟨xb, 0, none⟩))]) (fun _ => f)
  (fun s => row xb 144 x.vals :: slc s.2.1 (acc s.1).length s.2.2 61 2 ((acc s.1).flatMap pairV) :: row wb 96 (w15C kb n ap m ac lb) :: row kb 37 (kRow n kv) :: row lb 200 (lgC l.n l.known vp V.length vc pp pc cp cc) :: slc vp V.length vc 195 4 (V.flatMap VV.vals) :: lst (V.map VV.own) :: fam (fun r => pstH (pb r) (l.past r)) l.n :: slc cp l.n cc 232 1 (chRow l cs) :: fam (chFam l cs) l.n :: F)
  (fun s => s.1 ≤ n) (fun s => n - s.1) (0, none, 0) (Nat.zero_le _) ⟨rfl, by rw [hacc]; rfl, rfl, rfl, rfl, rfl, rfl, trivial⟩ rfl (by rw [hacc]; rfl) fun s hs => ?_
 obtain ⟨r, qp, qc⟩ := s
 have hrn : r ≤ n := hs
 have halr := hal r
 show H _ _ _ [(11, .int .i64 ((r + 1 : Nat) : Int)), (9, .slice qp (acc r).length qc), _, _, _, _, _] f (_ :: slc qp (acc r).length qc _ 2 ((acc r).flatMap pairV) :: _ :: _ :: _ :: _ :: _ :: _ :: _ :: _ :: F) _
 have hquo : (((n : Int) - 1).tdiv 2) = (((n - 1) / 2 : Nat) : Int) := by
  rw [show ((n : Int) - 1) = ((n - 1 : Nat) : Int) by omega]
  exact (Int.ofNat_tdiv (n - 1) 2).symm
 by_cases hgo : r < n ∧ (acc r).length ≤ (n - 1) / 2
 ·obtain ⟨hr, hlen⟩ := hgo
  have hrl : r < l.n := by omega
  have hcl := hL.cl r
  have hr11 : r < 11 := by omega
  refine H.Bq (p := cp) (n0 := l.n) (c := cc) (T := 232) (sz := 1) (xs := chRow l cs) (by repeat constructor) (by omega) fun cb hcb => ?_
  have hCd : ∀ {A A' : List HP}, At A (slc cp l.n cc 232 1 (chRow l cs)) A' (slc cp l.n cc 232 1 (chRow l cs)) → Rd f A cb 0 (chRow l cs) := fun {A A'} h => Rd.ofSlc (n := l.n) (c := cc) (T := 232) (sz := 1) (by rw [← hcb]; exact h) (by omega)
  have hsucc : acc (r + 1) = acc r ++ qRow l.ch (kv o) v x.raw r := by
   rw [hacc] at hlen ⊢
   show (if _ then _ else _) = _
   rw [if_pos hlen]
  refine gM ?_
  refine H.quo (z := (((n - 1) / 2 : Nat) : Int)) rfl rfl rfl (by decide) (by rw [hquo, wr_i64 (by omega)]) rfl ?_
  refine gU ?_
  refine H.Ar (b := cb) (off := 0) (i := r) rfl (by rw [← hcb]; rfl) rfl (by omega) hrl rfl ?_
  refine H.Af rfl rfl rfl (by rw [Nat.zero_add, Nat.mul_one]; exact Rd1.at0 (hCd (by repeat constructor)) (rngV_get _ hrl)) rfl ?_
  refine gf ?_
  refine H.Aa (x := fam (chFam l cs) _) (by repeat constructor) ?_
  refine H.Cj hrl ?_
  refine H.Aa (x := fam (updF _ _ _) _) (by repeat constructor) ?_
  refine H.Aa (x := slc cp _ cc _ _ _) (by repeat constructor) ?_
  refine H.Aa (x := fam (fun r => pstH _ _) _) (by repeat constructor) ?_
  refine H.Aa (x := lst (V.map VV.own)) (by repeat constructor) ?_
  refine H.Aa (x := slc vp _ vc _ _ _) (by repeat constructor) ?_
  refine H.Aa (x := row lb _ _) (by repeat constructor) ?_
  refine H.Aa (x := row kb _ _) (by repeat constructor) ?_
  refine H.Aa (x := row wb _ _) (by repeat constructor) ?_
  refine H.Aa (x := slc qp _ qc _ _ _) (by repeat constructor) ?_
  refine H.Aa (x := chFam l cs r) (by repeat constructor) ?_
  refine H.Aa (x := row xb _ _) (by repeat constructor) ?_
  obtain ⟨pt, hpt⟩ : ∃ pt : Nat → List (Int × Int), pt = fun i => acc r ++ qPart l.ch (kv o) v x.raw r i := ⟨_, rfl⟩
  have hp0 : pt 0 = acc r := by rw [hpt]; show acc r ++ [] = _; rw [List.append_nil]
  have hpl : ∀ i, (pt i).length ≤ (n - 1) / 2 + T + T := fun i => by
   rw [hpt]
   show (acc r ++ _).length ≤ _
   rw [List.length_append]
   have := qPart_len l.ch (kv o) v x.raw r i
   omega
  refine H.Ax (ι := Nat × Option Addr × Nat) (fun s => [(13, .int .i64 (s.1 : Int)), (12, .slice (cs r).1 (l.ch r).length (cs r).2), (9, .slice s.2.1 (pt s.1).length s.2.2), (11, .int .i64 ((r + 1 : Nat) : Int)), (10, .int .i64 (n : Int)), (0, .pointer (some ⟨wb, 0, none⟩)), (1, .int .i64 ((o + 1 : Nat) : Int)), (3, .int .u64 v), (6, .pointer (some ⟨xb, 0, none⟩))]) (fun _ => f)
   (fun s => row xb 144 x.vals :: chFam l cs r :: slc s.2.1 (pt s.1).length s.2.2 61 2 ((pt s.1).flatMap pairV) :: row wb 96 (w15C kb n ap m ac lb) :: row kb 37 (kRow n kv) :: row lb 200 (lgC l.n l.known vp V.length vc pp pc cp cc) :: slc vp V.length vc 195 4 (V.flatMap VV.vals) :: lst (V.map VV.own) :: fam (fun r => pstH (pb r) (l.past r)) l.n :: slc cp l.n cc 232 1 (chRow l cs) :: fam (updF (chFam l cs) r emp) l.n :: F)
   (fun s => s.1 ≤ (l.ch r).length) (fun s => (l.ch r).length - s.1) (0, qp, qc) (Nat.zero_le _) ⟨rfl, rfl, by rw [hp0]; rfl, rfl, rfl, rfl, rfl, rfl, rfl, trivial⟩ rfl (by rw [hp0]) fun s hs => ?_
  obtain ⟨i, qp, qc⟩ := s
  have hi2 : i ≤ (l.ch r).length := hs
  have hpli := hpl i
  show H _ _ _ [(13, .int .i64 (i : Int)), _, (9, .slice qp (pt i).length qc), _, _, _, _, _, _] f (_ :: _ :: slc qp (pt i).length qc _ 2 ((pt i).flatMap pairV) :: _ :: _ :: _ :: _ :: _ :: _ :: _ :: _ :: F) _
  by_cases hlt : i < (l.ch r).length
  ·obtain ⟨y, hy⟩ : ∃ y, (l.ch r)[i]? = some y := ⟨_, List.getElem?_eq_getElem hlt⟩
   refine H.Bq (p := (cs r).1) (n0 := (l.ch r).length) (c := (cs r).2) (T := 234) (sz := 2) (xs := (l.ch r).flatMap chV) (.there _ (.here _ _ _)) (by omega) fun sb hp => ?_
   have rd : ∀ {G0 : HP} {G : List HP}, Rd f (G0 :: chFam l cs r :: G) sb (0 + i * 2) (chV y) := fun {G0 G} => by
    rw [Nat.zero_add]; exact Rd.slcElem (vals := chV) (xs := l.ch r) (n := (l.ch r).length) (c := (cs r).2) (T := 234) chV_len (by decide) (by rw [← hp]; exact .there _ (.here _ _ _)) hy
   have hnx : pt (i + 1) = pt i ++ (if (decide (y.1 = v) && decide (y.2 ≤ kv o r) && !x.raw) = true then [(((r + 1 : Nat) : Int), y.2)] else []) := by
    rw [hpt]
    show acc r ++ qPart _ _ _ _ _ (i + 1) = acc r ++ qPart _ _ _ _ _ i ++ _
    rw [qPart_next hy, List.append_assoc]
   refine gL ?_
   refine H.Bg (by kernel_rfl) (by decide +kernel) (by repeat (first | exact zab | refine zaa ?_ | refine zac ?_ | refine zae ?_)) ?_
   refine gD ?_
   refine HQ.Ar (b := sb) (off := 0) (i := i) rfl (by rw [← hp]; rfl) rfl rfl hlt rfl ?_
   refine gE ?_
   refine HQ.Af rfl rfl rfl (Rd1.of (i := 0) rd rfl) rfl ?_
   refine ge ?_
   by_cases h1 : y.1 = v
   ·skip
    refine ge ?_
    refine HQ.Ar (b := sb) (off := 0) (i := i) rfl (by rw [← hp]; rfl) rfl rfl hlt rfl ?_
    refine gE ?_
    refine HQ.Af rfl rfl rfl (Rd1.of (i := 1) rd rfl) rfl ?_
    refine gW ?_
    refine HQ.Ar (b := kb) (off := 0) (i := o) rfl rfl rfl (by omega) ho rfl ?_
    refine HQ.Aw (i := r) rfl rfl rfl (by omega) hr11 rfl ?_
    refine HQ.Af rfl rfl rfl (by rw [Nat.zero_add, Nat.mul_one]; exact Rd1.of (Rd.kRow (Rd.ofRow (by repeat constructor)) ho) (zam (kv o) hr11)) rfl ?_
    refine ge ?_
    by_cases h2 : y.2 ≤ kv o r
    ·by_cases hraw : x.raw = true
     ·have hr1 : (!x.raw) = false := by rw [hraw]; rfl
      rw [hraw, Bool.not_true, Bool.and_false, if_neg (by decide), List.append_nil] at hnx
      refine ge ?_
      refine gX ?_
      refine H.Aa (x := slc qp _ qc _ _ _) (by repeat constructor) ?_
      refine H.Aa (x := chFam l cs r) (by repeat constructor) ?_
      refine H.Aa (x := row xb _ _) (by repeat constructor) ?_
      refine H.Am (i + 1, qp, qc) (by show i + 1 ≤ (l.ch r).length; omega) (by show (l.ch r).length - (i + 1) < (l.ch r).length - i; omega) ⟨rfl, rfl, ?_, rfl, rfl, rfl, rfl, rfl, rfl, trivial⟩ rfl ?_
      ·show some (Value.slice qp _ qc) = some (Value.slice qp _ qc)
       rw [hnx]
      ·show _ :: _ :: slc qp _ qc _ 2 _ :: _ = _ :: _ :: slc qp _ qc _ 2 _ :: _
       rw [hnx]
     ·have hraw : x.raw = false := by
       cases e : x.raw with
       | true => exact absurd e hraw
       | false => rfl
      have hr1 : (!x.raw) = true := by rw [hraw]; rfl
      rw [hraw, decide_eq_true h1, decide_eq_true h2, if_pos (by decide)] at hnx
      refine ge ?_
      refine gQ ?_
      refine H.Ar (b := sb) (off := 0) (i := i) rfl (by rw [← hp]; rfl) rfl rfl hlt rfl ?_
      refine gP ?_
      refine H.Af rfl rfl rfl (Rd1.of (i := 1) rd rfl) rfl ?_
      refine gR ?_
      refine H.Bb (out := pairV (((r + 1 : Nat) : Int), y.2)) rfl rfl rfl rfl (by decide) (by decide) rfl rfl fun eb => ?_
      refine H.Bd (sz := 2) (p := qp) (n0 := (pt i).length) (c := qc) (xs := (pt i).flatMap pairV) (m := 1) (news := pairV (((r + 1 : Nat) : Int), y.2)) rfl rfl rfl rfl rfl (fun p' c' => (by repeat constructor)) (Src.slice (Rd.ofRow (by repeat constructor)) rfl) (zad rfl) rfl (by omega) (by omega) fun p2 c2 => ?_
      refine gI ?_
      refine H.Ab (x := row eb _ _) (by repeat constructor) ?_
      refine H.Am (i + 1, p2, c2) (by show i + 1 ≤ (l.ch r).length; omega) (by show (l.ch r).length - (i + 1) < (l.ch r).length - i; omega) ⟨rfl, rfl, ?_, rfl, rfl, rfl, rfl, rfl, rfl, trivial⟩ rfl ?_
      ·show some (Value.slice p2 ((pt i).length + 1) c2) = some (Value.slice p2 (pt (i + 1)).length c2)
       rw [hnx, List.length_append]
       rfl
      ·show _ :: _ :: slc p2 ((pt i).length + 1) c2 _ 2 _ :: _ = _ :: _ :: slc p2 (pt (i + 1)).length c2 _ 2 ((pt (i + 1)).flatMap pairV) :: _
       rw [hnx, List.length_append, List.flatMap_append]
       simp
    ·rw [decide_eq_false h2, Bool.and_false, Bool.false_and, if_neg (by decide), List.append_nil] at hnx
     refine ge ?_
     refine gV ?_
     refine H.Aa (x := slc qp _ qc _ _ _) (by repeat constructor) ?_
     refine H.Aa (x := chFam l cs r) (by repeat constructor) ?_
     refine H.Aa (x := row xb _ _) (by repeat constructor) ?_
     refine H.Am (i + 1, qp, qc) (by show i + 1 ≤ (l.ch r).length; omega) (by show (l.ch r).length - (i + 1) < (l.ch r).length - i; omega) ⟨rfl, rfl, ?_, rfl, rfl, rfl, rfl, rfl, rfl, trivial⟩ rfl ?_
     ·show some (Value.slice qp _ qc) = some (Value.slice qp _ qc)
      rw [hnx]
     ·show _ :: _ :: slc qp _ qc _ 2 _ :: _ = _ :: _ :: slc qp _ qc _ 2 _ :: _
      rw [hnx]
   ·rw [decide_eq_false h1, Bool.false_and, Bool.false_and, if_neg (by decide), List.append_nil] at hnx
    refine ge ?_
    refine gV ?_
    refine H.Aa (x := slc qp _ qc _ _ _) (by repeat constructor) ?_
    refine H.Aa (x := chFam l cs r) (by repeat constructor) ?_
    refine H.Aa (x := row xb _ _) (by repeat constructor) ?_
    refine H.Am (i + 1, qp, qc) (by show i + 1 ≤ (l.ch r).length; omega) (by show (l.ch r).length - (i + 1) < (l.ch r).length - i; omega) ⟨rfl, rfl, ?_, rfl, rfl, rfl, rfl, rfl, rfl, trivial⟩ rfl ?_
    ·show some (Value.slice qp _ qc) = some (Value.slice qp _ qc)
     rw [hnx]
    ·show _ :: _ :: slc qp _ qc _ 2 _ :: _ = _ :: _ :: slc qp _ qc _ 2 _ :: _
     rw [hnx]
  ·have e : i = (l.ch r).length := by omega
   subst e
   have hpe : pt (l.ch r).length = acc (r + 1) := by rw [hsucc, hpt, ← qPart_all]
   rw [hpe]
   refine gT ?_
   refine H.Aa (x := fam (updF _ _ _) _) (by repeat constructor) ?_
   refine H.Aa (x := chFam l cs r) (by repeat constructor) ?_
   refine H.Ck (g := chFam l cs) hrl ?_
   refine H.Aa (x := fam (chFam l cs) _) (by repeat constructor) ?_
   refine H.Aa (x := slc cp _ cc _ _ _) (by repeat constructor) ?_
   refine H.Aa (x := fam (fun r => pstH _ _) _) (by repeat constructor) ?_
   refine H.Aa (x := lst (V.map VV.own)) (by repeat constructor) ?_
   refine H.Aa (x := slc vp _ vc _ _ _) (by repeat constructor) ?_
   refine H.Aa (x := row lb _ _) (by repeat constructor) ?_
   refine H.Aa (x := row kb _ _) (by repeat constructor) ?_
   refine H.Aa (x := row wb _ _) (by repeat constructor) ?_
   refine H.Aa (x := slc qp _ qc _ _ _) (by repeat constructor) ?_
   refine H.Aa (x := row xb _ _) (by repeat constructor) ?_
   exact H.Am (r + 1, qp, qc) (by show r + 1 ≤ n; omega) (by show n - (r + 1) < n - r; omega) ⟨rfl, rfl, rfl, rfl, rfl, rfl, rfl, trivial⟩ rfl rfl
 ·have hfin : acc n = acc r := by
   by_cases e : r = n
   ·rw [e]
   ·rw [hacc]
    exact qAcc_stop hrn (by rw [← hacc]; omega)
  have hqe : qAcc (qRow l.ch (kv o) v x.raw) ((n - 1) / 2) n = acc r := by rw [← hfin, hacc]
  by_cases hr : r < n
  ·have hlen : (n - 1) / 2 < (acc r).length := by omega
   refine gM ?_
   refine H.quo (z := (((n - 1) / 2 : Nat) : Int)) rfl rfl rfl (by decide) (by rw [hquo, wr_i64 (by omega)]) rfl ?_
   have h0 : 0 < (acc r).length := by omega
   refine gU ?_
   refine H.Ab (x := row xb _ _) (by repeat constructor) ?_
   refine H.Aa (x := fam (chFam l cs) _) (by repeat constructor) ?_
   refine H.Aa (x := slc cp _ cc _ _ _) (by repeat constructor) ?_
   refine H.Aa (x := fam (fun r => pstH _ _) _) (by repeat constructor) ?_
   refine H.Aa (x := lst (V.map VV.own)) (by repeat constructor) ?_
   refine H.Aa (x := slc vp _ vc _ _ _) (by repeat constructor) ?_
   refine H.Aa (x := row lb _ _) (by repeat constructor) ?_
   refine H.imp (zai ⟨V, vp, vc, pp, pc, cp, cc, pb, cs⟩ hi) ?_
   refine H.Aa (x := slc qp _ qc _ _ _) (by repeat constructor) ?_
   have hqs : x.qs n l.ch (kv o) v = acc r := by unfold A15.qs; rw [hqe, if_pos (.inl h0)]
   rw [hqs]
   exact H.Ac rfl rfl (fun _ h => h) ⟨(qp, qc), rfl, rfl, rfl⟩
  ·by_cases h0 : 0 < (acc r).length
   ·skip
    refine ga ?_
    refine H.Ab (x := row xb _ _) (by repeat constructor) ?_
    refine H.Aa (x := fam (chFam l cs) _) (by repeat constructor) ?_
    refine H.Aa (x := slc cp _ cc _ _ _) (by repeat constructor) ?_
    refine H.Aa (x := fam (fun r => pstH _ _) _) (by repeat constructor) ?_
    refine H.Aa (x := lst (V.map VV.own)) (by repeat constructor) ?_
    refine H.Aa (x := slc vp _ vc _ _ _) (by repeat constructor) ?_
    refine H.Aa (x := row lb _ _) (by repeat constructor) ?_
    refine H.imp (zai ⟨V, vp, vc, pp, pc, cp, cc, pb, cs⟩ hi) ?_
    refine H.Aa (x := slc qp _ qc _ _ _) (by repeat constructor) ?_
    have hqs : x.qs n l.ch (kv o) v = acc r := by unfold A15.qs; rw [hqe, if_pos (.inl h0)]
    rw [hqs]
    exact H.Ac rfl rfl (fun _ h => h) ⟨(qp, qc), rfl, rfl, rfl⟩
   ·by_cases hq0 : x.q.length = 0
    ·skip
     refine gK ?_
     refine H.Ab (x := row xb _ _) (by repeat constructor) ?_
     refine H.Aa (x := fam (chFam l cs) _) (by repeat constructor) ?_
     refine H.Aa (x := slc cp _ cc _ _ _) (by repeat constructor) ?_
     refine H.Aa (x := fam (fun r => pstH _ _) _) (by repeat constructor) ?_
     refine H.Aa (x := lst (V.map VV.own)) (by repeat constructor) ?_
     refine H.Aa (x := slc vp _ vc _ _ _) (by repeat constructor) ?_
     refine H.Aa (x := row lb _ _) (by repeat constructor) ?_
     refine H.imp (zai ⟨V, vp, vc, pp, pc, cp, cc, pb, cs⟩ hi) ?_
     refine H.Aa (x := slc qp _ qc _ _ _) (by repeat constructor) ?_
     have hqs : x.qs n l.ch (kv o) v = acc r := by unfold A15.qs; rw [if_pos (.inr hq0), hqe]
     rw [hqs]
     exact H.Ac rfl rfl (fun _ h => h) ⟨(qp, qc), rfl, rfl, rfl⟩
    ·have hnil : acc r = [] := List.eq_nil_of_length_eq_zero (by omega)
     have hqs : x.qs n l.ch (kv o) v = qNum x.q (if n ≤ x.q.length then n else x.q.length) := by
      unfold A15.qs
      rw [hqe, if_neg (by rintro (h | h); exact h0 h; exact hq0 h)]
     rw [hqs, hnil]
     clear hqs hqe hfin
     refine gK ?_
     rcases hx with e0 | ⟨qb, qoff, qcs, qT, qfr, hqp, hqfb, hqcs⟩
     ·rw [e0] at hq0; exact absurd rfl hq0
     ·have hrdo : ∀ A, Rd f A qb qoff (bytesV x.q) := fun A => Rd.imm hqfb fun j hj => by rw [zaf] at hj; exact hqcs j hj
      refine H.Ax (ι := Nat × Option Addr × Nat) (fun s => [(14, .int .i64 ((s.1 + 1 : Nat) : Int)), (9, .slice s.2.1 s.1 s.2.2), (10, .int .i64 (n : Int)), (6, .pointer (some ⟨xb, 0, none⟩))]) (fun _ => f)
       (fun s => row xb 144 x.vals :: slc s.2.1 s.1 s.2.2 61 2 ((qNum x.q s.1).flatMap pairV) :: row wb 96 (w15C kb n ap m ac lb) :: row kb 37 (kRow n kv) :: row lb 200 (lgC l.n l.known vp V.length vc pp pc cp cc) :: slc vp V.length vc 195 4 (V.flatMap VV.vals) :: lst (V.map VV.own) :: fam (fun r => pstH (pb r) (l.past r)) l.n :: slc cp l.n cc 232 1 (chRow l cs) :: fam (chFam l cs) l.n :: F)
       (fun s => s.1 ≤ n ∧ s.1 ≤ x.q.length) (fun s => n - s.1) (0, qp, qc) ⟨Nat.zero_le _, Nat.zero_le _⟩ ⟨rfl, rfl, rfl, rfl, trivial⟩ rfl rfl fun s hs => ?_
      obtain ⟨j, qp, qc⟩ := s
      obtain ⟨hj1, hj2⟩ : j ≤ n ∧ j ≤ x.q.length := hs
      show H _ _ _ [(14, .int .i64 ((j + 1 : Nat) : Int)), (9, .slice qp j qc), _, _] f (_ :: slc qp j qc _ 2 ((qNum x.q j).flatMap pairV) :: _ :: _ :: _ :: _ :: _ :: _ :: _ :: _ :: F) _
      by_cases hgo : j < n ∧ j < x.q.length
      ·obtain ⟨hjn, hjq⟩ := hgo
       obtain ⟨w8, hw8⟩ : ∃ w8, x.q[j]? = some w8 := ⟨_, List.getElem?_eq_getElem hjq⟩
       have hby : (bytesV x.q)[j]? = some (.int .u8 (w8.toNat : Nat)) := by unfold bytesV; rw [List.getElem?_map, hw8]; rfl
       have hw8l := w8.toNat_lt
       have hm8 : ((w8.toNat % 8 : Nat) : Int) ≤ 7 := by omega
       have hnx : qNum x.q (j + 1) = qNum x.q j ++ [(((j + 1 : Nat) : Int), 1 + ((w8.toNat % 8 : Nat) : Int))] := by
        show qNum x.q j ++ [(_, 1 + (((x.q.getD j 0).toNat % 8 : Nat) : Int))] = _
        rw [List.getD_eq_getElem?_getD, hw8]
        rfl
       refine gU ?_
       refine H.Cg (b := qb) (off := qoff) (i := j) rfl (by rw [← hqp]; rfl) rfl (by omega) hjq rfl ?_
       refine H.Af rfl rfl rfl (Rd1.of (hrdo _) hby) rfl ?_
       refine H.rem (z := ((w8.toNat % 8 : Nat) : Int)) rfl rfl rfl (by decide) (zak (b := 8) rfl) rfl ?_
       refine gM ?_
       refine H.Bb (out := pairV (((j + 1 : Nat) : Int), 1 + ((w8.toNat % 8 : Nat) : Int))) rfl rfl rfl rfl (by decide) (by decide) rfl rfl fun eb => ?_
       refine H.Bd (sz := 2) (p := qp) (n0 := j) (c := qc) (xs := (qNum x.q j).flatMap pairV) (m := 1) (news := pairV (((j + 1 : Nat) : Int), 1 + ((w8.toNat % 8 : Nat) : Int))) rfl rfl rfl rfl rfl (fun p' c' => (by repeat constructor)) (Src.slice (Rd.ofRow (by repeat constructor)) rfl) (zad rfl) rfl (by omega) (by omega) fun p2 c2 => ?_
       refine gI ?_
       refine H.Ab (x := row eb _ _) (by repeat constructor) ?_
       refine H.Am (j + 1, p2, c2) ⟨by show j + 1 ≤ n; omega, by show j + 1 ≤ x.q.length; omega⟩ (by show n - (j + 1) < n - j; omega) ⟨rfl, rfl, rfl, rfl, trivial⟩ rfl ?_
       show _ :: slc p2 (j + 1) c2 _ 2 _ :: _ = _ :: slc p2 (j + 1) c2 _ 2 ((qNum x.q (j + 1)).flatMap pairV) :: _
       rw [hnx, List.flatMap_append]
       simp
      ·have hje : (if n ≤ x.q.length then n else x.q.length) = j := by split <;> omega
       rw [hje, qNum_len]
       by_cases hjn : j < n
       ·skip
        refine gU ?_
        refine H.Ab (x := row xb _ _) (by repeat constructor) ?_
        refine H.Aa (x := fam (chFam l cs) _) (by repeat constructor) ?_
        refine H.Aa (x := slc cp _ cc _ _ _) (by repeat constructor) ?_
        refine H.Aa (x := fam (fun r => pstH _ _) _) (by repeat constructor) ?_
        refine H.Aa (x := lst (V.map VV.own)) (by repeat constructor) ?_
        refine H.Aa (x := slc vp _ vc _ _ _) (by repeat constructor) ?_
        refine H.Aa (x := row lb _ _) (by repeat constructor) ?_
        refine H.imp (zai ⟨V, vp, vc, pp, pc, cp, cc, pb, cs⟩ hi) ?_
        refine H.Aa (x := slc qp _ qc _ _ _) (by repeat constructor) ?_
        exact H.Ac rfl rfl (fun _ h => h) ⟨(qp, qc), rfl, rfl, rfl⟩
       ·skip
        refine ga ?_
        refine H.Ab (x := row xb _ _) (by repeat constructor) ?_
        refine H.Aa (x := fam (chFam l cs) _) (by repeat constructor) ?_
        refine H.Aa (x := slc cp _ cc _ _ _) (by repeat constructor) ?_
        refine H.Aa (x := fam (fun r => pstH _ _) _) (by repeat constructor) ?_
        refine H.Aa (x := lst (V.map VV.own)) (by repeat constructor) ?_
        refine H.Aa (x := slc vp _ vc _ _ _) (by repeat constructor) ?_
        refine H.Aa (x := row lb _ _) (by repeat constructor) ?_
        refine H.imp (zai ⟨V, vp, vc, pp, pc, cp, cc, pb, cs⟩ hi) ?_
        refine H.Aa (x := slc qp _ qc _ _ _) (by repeat constructor) ?_
        exact H.Ac rfl rfl (fun _ h => h) ⟨(qp, qc), rfl, rfl, rfl⟩
end
def bodW (k : UInt8) (v kk : Int) : Bod := ⟨k, v, kk, Req.zero, [], noTag⟩
section
variable (f : Frag) (F : List HP)
set_option maxRecDepth 20000 in
set_option maxHeartbeats 3200000 in
theorem body15_fn {fl : Frag} (hfl : Le fl f) {wb kb lb : Nat} {W : W15} {n T : Nat} (hW : WI n W T) (hT : T ≤ 1000) {ap : Option Addr} {m ac o : Nat} (ho : o < n) {x : A15} (hx : x.Has f) (hq20 : x.q.length ≤ 20) :
  Fn Tryz.prog 94 [.pointer (some ⟨wb, 0, none⟩), .int .i64 ((o + 1 : Nat) : Int), .agg x.vals.toArray] f (logsH fl lb W.l :: row wb 96 (w15C kb n ap m ac lb) :: row kb 37 (kRow n W.w.kv) :: F)
   (BodP f (logsH fl lb W.l :: row wb 96 (w15C kb n ap m ac lb) :: row kb 37 (kRow n W.w.kv) :: F) (x.bod W n o)) := by
 have hn := hW.l.n3
 have hnn := hW.n
 have hol : o < W.l.n := by omega
 have hwf := hW.l.wf o hol
 have hg0 := hwf.g0
 have hg1 := hW.l.gb o hol
 have hvm : ((x.view.toNat % 6 : Nat) : Int) ≤ 5 := by omega
 have hv2 : ((x.view.toNat % 2 : Nat) : Int) ≤ 1 := by omega
 have hkm : ((x.k.toNat % 6 : Nat) : Int) ≤ 5 := by omega
 have hgr := fun G => great_fn f G hfl (wb := wb) (kb := kb) (lb := lb) (l := W.l) hW.l (ap := ap) (m := m) (ac := ac) (n := n) hol
 have hcases : x.kind.toNat % 6 = 0 ∨ x.kind.toNat % 6 = 1 ∨ x.kind.toNat % 6 = 2 ∨ x.kind.toNat % 6 = 3 ∨ x.kind.toNat % 6 = 4 ∨ x.kind.toNat % 6 = 5 := by omega
 unfold A15.bod
 rcases hcases with h | h | h | h | h | h
 ·have hk6 : ((x.kind.toNat : Nat) : Int).tmod 6 = 0 := zak (b := 6) h
  rw [h]
  have hask := fun G => ask_fn f G x
  rcases Bool.eq_false_or_eq_true x.raw with hraw | hraw
  ·have hr1 : (!x.raw) = false := by rw [hraw]; rfl
   have hb : x.bodK W n o 0 = (⟨1, ((x.view.toNat % 6 : Nat) : Int), 0, x.req, [], noTag⟩ : Bod) := by simp [A15.bodK, hraw, Bod.zero]
   rw [hb]
   generalize x.req = rq at hask ⊢
   refine Fn.enter Tryz.func94 rfl Tryz.ntmps94 rfl (L := [(0, _), (1, _), (2, _)]) ⟨rfl, rfl, rfl, trivial⟩ fun base => ?_
   refine gC ?_
   refine H.box (ls := x.vals) rfl rfl rfl rfl fun xb => ?_
   refine H.Au (ls := (Bod.zero 0).vals none 0) rfl rfl rfl fun ob => ?_
   refine gY ?_
   refine H.rem rfl rfl rfl (by decide) hk6 rfl ?_
   refine gP ?_
   refine H.rem (z := ((x.view.toNat % 6 : Nat) : Int)) rfl rfl rfl (by decide) (zak (b := 6) rfl) rfl ?_
   refine gP ?_
   refine H.rem (z := ((x.k.toNat % 6 : Nat) : Int)) rfl rfl rfl (by decide) (zak (b := 6) rfl) rfl ?_
   repeat (first | (refine H.Bc (t := 45) (out := (bodW 1 ((x.view.toNat % 6 : Nat) : Int) (1 + ((x.k.toNat % 6 : Nat) : Int))).vals none 0) rfl rfl rfl (by kernel_rfl) rfl ?_) | ((first | (apply H.ar; (iterate 4 exact rfl)) | (apply H.Bi; (iterate 2 exact rfl))); (with_reducible apply wr_u64; omega); exact rfl))
   refine H.Au (ls := (Bod.zero 0).vals none 0) rfl rfl rfl fun bb => ?_
   refine H.Ak (ls := (Bod.zero 0).vals none 0) (vs := (bodW 1 ((x.view.toNat % 6 : Nat) : Int) (1 + ((x.k.toNat % 6 : Nat) : Int))).vals none 0) (ls' := (bodW 1 ((x.view.toNat % 6 : Nat) : Int) (1 + ((x.k.toNat % 6 : Nat) : Int))).vals none 0) rfl rfl rfl (zad rfl) rfl rfl (Nat.le_refl 76) (.here _ _ _) ?_
   refine gO ?_
   refine H.Aa (x := row wb _ _) (by repeat constructor) ?_
   refine H.Aa (x := logsH _ _ _) (by repeat constructor) ?_
   refine H.Ad rfl rfl rfl (hgr _) ?_
   refine H.Aa (x := row xb _ _) (by repeat constructor) ?_
   refine H.Aa (x := row bb _ _) (by repeat constructor) ?_
   refine gc ?_
   refine H.Ah (ls := x.vals) rfl rfl rfl (Rd.ofRow (.there _ (.here _ _ _))) rfl rfl ?_
   refine H.Ad rfl rfl rfl (hask _) ?_
   refine gP ?_
   refine H.Ak (ls := (bodW 1 ((x.view.toNat % 6 : Nat) : Int) 0).vals none 0) (vs := rq.vals) (ls' := (⟨1, ((x.view.toNat % 6 : Nat) : Int), 0, rq, [], noTag⟩ : Bod).vals none 0) rfl rfl rfl (zad rfl) rfl rfl (show 3 + 40 ≤ 76 by decide) (.here _ _ _) ?_
   refine gZ ?_
   refine H.Ah (ls := (⟨1, ((x.view.toNat % 6 : Nat) : Int), 0, rq, [], noTag⟩ : Bod).vals none 0) rfl rfl rfl (Rd.ofRow (.here _ _ _)) rfl rfl ?_
   refine H.Ak (ls := (Bod.zero 0).vals none 0) (vs := (⟨1, ((x.view.toNat % 6 : Nat) : Int), 0, rq, [], noTag⟩ : Bod).vals none 0) (ls' := (⟨1, ((x.view.toNat % 6 : Nat) : Int), 0, rq, [], noTag⟩ : Bod).vals none 0) rfl rfl rfl (zad rfl) rfl rfl (Nat.le_refl 76) (by repeat constructor) ?_
   refine gf ?_
   refine H.Ab (x := row bb _ _) (by repeat constructor) ?_
   refine H.Ab (x := row xb _ _) (by repeat constructor) ?_
   refine H.Aa (x := row kb _ _) (by repeat constructor) ?_
   refine H.Aa (x := row wb _ _) (by repeat constructor) ?_
   refine H.Aa (x := logsH _ _ _) (by repeat constructor) ?_
   refine H.Aa (x := row ob _ _) (by repeat constructor) ?_
   exact H.Ba (ls := (⟨1, ((x.view.toNat % 6 : Nat) : Int), 0, rq, [], noTag⟩ : Bod).vals none 0) rfl rfl rfl (Rd.ofRow (.here _ _ _)) rfl (fun _ s => s.drop (.here _ _)) ⟨nil0, none, 0, rfl, QAt.nil _ _, Dj.nil _, (un_nil _).symm, rfl⟩
  ·have hr1 : (!x.raw) = true := by rw [hraw]; rfl
   have hb : x.bodK W n o 0 = (⟨1, (W.l.past o).g, 0, x.req, [], noTag⟩ : Bod) := by simp [A15.bodK, hraw, Bod.zero]
   rw [hb]
   generalize x.req = rq at hask ⊢
   refine Fn.enter Tryz.func94 rfl Tryz.ntmps94 rfl (L := [(0, _), (1, _), (2, _)]) ⟨rfl, rfl, rfl, trivial⟩ fun base => ?_
   refine gC ?_
   refine H.box (ls := x.vals) rfl rfl rfl rfl fun xb => ?_
   refine H.Au (ls := (Bod.zero 0).vals none 0) rfl rfl rfl fun ob => ?_
   refine gY ?_
   refine H.rem rfl rfl rfl (by decide) hk6 rfl ?_
   refine gP ?_
   refine H.rem (z := ((x.view.toNat % 6 : Nat) : Int)) rfl rfl rfl (by decide) (zak (b := 6) rfl) rfl ?_
   refine gP ?_
   refine H.rem (z := ((x.k.toNat % 6 : Nat) : Int)) rfl rfl rfl (by decide) (zak (b := 6) rfl) rfl ?_
   repeat (first | (refine H.Bc (t := 45) (out := (bodW 1 ((x.view.toNat % 6 : Nat) : Int) (1 + ((x.k.toNat % 6 : Nat) : Int))).vals none 0) rfl rfl rfl (by kernel_rfl) rfl ?_) | ((first | (apply H.ar; (iterate 4 exact rfl)) | (apply H.Bi; (iterate 2 exact rfl))); (with_reducible apply wr_u64; omega); exact rfl))
   refine H.Au (ls := (Bod.zero 0).vals none 0) rfl rfl rfl fun bb => ?_
   refine H.Ak (ls := (Bod.zero 0).vals none 0) (vs := (bodW 1 ((x.view.toNat % 6 : Nat) : Int) (1 + ((x.k.toNat % 6 : Nat) : Int))).vals none 0) (ls' := (bodW 1 ((x.view.toNat % 6 : Nat) : Int) (1 + ((x.k.toNat % 6 : Nat) : Int))).vals none 0) rfl rfl rfl (zad rfl) rfl rfl (Nat.le_refl 76) (.here _ _ _) ?_
   refine gO ?_
   refine H.Aa (x := row wb _ _) (by repeat constructor) ?_
   refine H.Aa (x := logsH _ _ _) (by repeat constructor) ?_
   refine H.Ad rfl rfl rfl (hgr _) ?_
   refine H.Aa (x := row xb _ _) (by repeat constructor) ?_
   refine H.Aa (x := row bb _ _) (by repeat constructor) ?_
   refine gc ?_
   refine H.Ah (ls := x.vals) rfl rfl rfl (Rd.ofRow (.there _ (.here _ _ _))) rfl rfl ?_
   refine H.Ad rfl rfl rfl (hask _) ?_
   refine gP ?_
   refine H.Ak (ls := (bodW 1 ((x.view.toNat % 6 : Nat) : Int) 0).vals none 0) (vs := rq.vals) (ls' := (⟨1, ((x.view.toNat % 6 : Nat) : Int), 0, rq, [], noTag⟩ : Bod).vals none 0) rfl rfl rfl (zad rfl) rfl rfl (show 3 + 40 ≤ 76 by decide) (.here _ _ _) ?_
   refine gZ ?_
   refine H.Ah (ls := (⟨1, (W.l.past o).g, 0, rq, [], noTag⟩ : Bod).vals none 0) rfl rfl rfl (Rd.ofRow (.here _ _ _)) rfl rfl ?_
   refine H.Ak (ls := (Bod.zero 0).vals none 0) (vs := (⟨1, (W.l.past o).g, 0, rq, [], noTag⟩ : Bod).vals none 0) (ls' := (⟨1, (W.l.past o).g, 0, rq, [], noTag⟩ : Bod).vals none 0) rfl rfl rfl (zad rfl) rfl rfl (Nat.le_refl 76) (by repeat constructor) ?_
   refine gf ?_
   refine H.Ab (x := row bb _ _) (by repeat constructor) ?_
   refine H.Ab (x := row xb _ _) (by repeat constructor) ?_
   refine H.Aa (x := row kb _ _) (by repeat constructor) ?_
   refine H.Aa (x := row wb _ _) (by repeat constructor) ?_
   refine H.Aa (x := logsH _ _ _) (by repeat constructor) ?_
   refine H.Aa (x := row ob _ _) (by repeat constructor) ?_
   exact H.Ba (ls := (⟨1, (W.l.past o).g, 0, rq, [], noTag⟩ : Bod).vals none 0) rfl rfl rfl (Rd.ofRow (.here _ _ _)) rfl (fun _ s => s.drop (.here _ _)) ⟨nil0, none, 0, rfl, QAt.nil _ _, Dj.nil _, (un_nil _).symm, rfl⟩
 ·have hk6 : ((x.kind.toNat : Nat) : Int).tmod 6 = 1 := zak (b := 6) h
  rw [h]
  rcases Bool.eq_false_or_eq_true x.raw with hraw | hraw
  ·have hr1 : (!x.raw) = false := by rw [hraw]; rfl
   have hb : x.bodK W n o 1 = (⟨2, ((x.view.toNat % 6 : Nat) : Int), (1 + ((x.k.toNat % 6 : Nat) : Int)), Req.zero, [], noTag⟩ : Bod) := by simp [A15.bodK, hraw, Bod.zero]
   rw [hb]
   refine Fn.enter Tryz.func94 rfl Tryz.ntmps94 rfl (L := [(0, _), (1, _), (2, _)]) ⟨rfl, rfl, rfl, trivial⟩ fun base => ?_
   refine gC ?_
   refine H.box (ls := x.vals) rfl rfl rfl rfl fun xb => ?_
   refine H.Au (ls := (Bod.zero 0).vals none 0) rfl rfl rfl fun ob => ?_
   refine gY ?_
   refine H.rem rfl rfl rfl (by decide) hk6 rfl ?_
   refine gP ?_
   refine H.rem (z := ((x.view.toNat % 6 : Nat) : Int)) rfl rfl rfl (by decide) (zak (b := 6) rfl) rfl ?_
   refine gP ?_
   refine H.rem (z := ((x.k.toNat % 6 : Nat) : Int)) rfl rfl rfl (by decide) (zak (b := 6) rfl) rfl ?_
   repeat (first | (refine H.Bc (t := 45) (out := (bodW 2 ((x.view.toNat % 6 : Nat) : Int) (1 + ((x.k.toNat % 6 : Nat) : Int))).vals none 0) rfl rfl rfl (by kernel_rfl) rfl ?_) | ((first | (apply H.ar; (iterate 4 exact rfl)) | (apply H.Bi; (iterate 2 exact rfl))); (with_reducible apply wr_u64; omega); exact rfl))
   refine H.Au (ls := (Bod.zero 0).vals none 0) rfl rfl rfl fun bb => ?_
   refine H.Ak (ls := (Bod.zero 0).vals none 0) (vs := (bodW 2 ((x.view.toNat % 6 : Nat) : Int) (1 + ((x.k.toNat % 6 : Nat) : Int))).vals none 0) (ls' := (bodW 2 ((x.view.toNat % 6 : Nat) : Int) (1 + ((x.k.toNat % 6 : Nat) : Int))).vals none 0) rfl rfl rfl (zad rfl) rfl rfl (Nat.le_refl 76) (.here _ _ _) ?_
   refine gO ?_
   refine H.Aa (x := row wb _ _) (by repeat constructor) ?_
   refine H.Aa (x := logsH _ _ _) (by repeat constructor) ?_
   refine H.Ad rfl rfl rfl (hgr _) ?_
   refine H.Aa (x := row xb _ _) (by repeat constructor) ?_
   refine H.Aa (x := row bb _ _) (by repeat constructor) ?_
   refine gZ ?_
   refine H.Ah (ls := (⟨2, ((x.view.toNat % 6 : Nat) : Int), (1 + ((x.k.toNat % 6 : Nat) : Int)), Req.zero, [], noTag⟩ : Bod).vals none 0) rfl rfl rfl (Rd.ofRow (.here _ _ _)) rfl rfl ?_
   refine H.Ak (ls := (Bod.zero 0).vals none 0) (vs := (⟨2, ((x.view.toNat % 6 : Nat) : Int), (1 + ((x.k.toNat % 6 : Nat) : Int)), Req.zero, [], noTag⟩ : Bod).vals none 0) (ls' := (⟨2, ((x.view.toNat % 6 : Nat) : Int), (1 + ((x.k.toNat % 6 : Nat) : Int)), Req.zero, [], noTag⟩ : Bod).vals none 0) rfl rfl rfl (zad rfl) rfl rfl (Nat.le_refl 76) (by repeat constructor) ?_
   refine gf ?_
   refine H.Ab (x := row bb _ _) (by repeat constructor) ?_
   refine H.Ab (x := row xb _ _) (by repeat constructor) ?_
   refine H.Aa (x := row kb _ _) (by repeat constructor) ?_
   refine H.Aa (x := row wb _ _) (by repeat constructor) ?_
   refine H.Aa (x := logsH _ _ _) (by repeat constructor) ?_
   refine H.Aa (x := row ob _ _) (by repeat constructor) ?_
   exact H.Ba (ls := (⟨2, ((x.view.toNat % 6 : Nat) : Int), (1 + ((x.k.toNat % 6 : Nat) : Int)), Req.zero, [], noTag⟩ : Bod).vals none 0) rfl rfl rfl (Rd.ofRow (.here _ _ _)) rfl (fun _ s => s.drop (.here _ _)) ⟨nil0, none, 0, rfl, QAt.nil _ _, Dj.nil _, (un_nil _).symm, rfl⟩
  ·have hr1 : (!x.raw) = true := by rw [hraw]; rfl
   have hb : x.bodK W n o 1 = (⟨2, (W.l.past o).g, votedZ (W.l.past o) (W.l.past o).g + 1, Req.zero, [], noTag⟩ : Bod) := by simp [A15.bodK, hraw, Bod.zero]
   rw [hb]
   have hvz := votedZ_le hwf (by omega) (W.l.past o).g
   have hvt : ∀ (b : Nat) G, Fn Tryz.prog 117 [.pointer (some ⟨b, 0, none⟩), .int .u64 (W.l.past o).g] f (pstH b (W.l.past o) :: G) (Ret (.tuple #[.int .i64 (votedZ (W.l.past o) (W.l.past o).g), .bool (PM.voted (W.l.past o).all (W.l.past o).g).isSome]) f (pstH b (W.l.past o) :: G)) := fun b G => pst_voted f G b (W.l.past o) (by have := hW.l.il o hol; omega) _
   generalize votedZ (W.l.past o) (W.l.past o).g = vz at hvt hvz ⊢
   refine Fn.enter Tryz.func94 rfl Tryz.ntmps94 rfl (L := [(0, _), (1, _), (2, _)]) ⟨rfl, rfl, rfl, trivial⟩ fun base => ?_
   refine gC ?_
   refine H.box (ls := x.vals) rfl rfl rfl rfl fun xb => ?_
   refine H.Au (ls := (Bod.zero 0).vals none 0) rfl rfl rfl fun ob => ?_
   refine gY ?_
   refine H.rem rfl rfl rfl (by decide) hk6 rfl ?_
   refine gP ?_
   refine H.rem (z := ((x.view.toNat % 6 : Nat) : Int)) rfl rfl rfl (by decide) (zak (b := 6) rfl) rfl ?_
   refine gP ?_
   refine H.rem (z := ((x.k.toNat % 6 : Nat) : Int)) rfl rfl rfl (by decide) (zak (b := 6) rfl) rfl ?_
   repeat (first | (refine H.Bc (t := 45) (out := (bodW 2 ((x.view.toNat % 6 : Nat) : Int) (1 + ((x.k.toNat % 6 : Nat) : Int))).vals none 0) rfl rfl rfl (by kernel_rfl) rfl ?_) | ((first | (apply H.ar; (iterate 4 exact rfl)) | (apply H.Bi; (iterate 2 exact rfl))); (with_reducible apply wr_u64; omega); exact rfl))
   refine H.Au (ls := (Bod.zero 0).vals none 0) rfl rfl rfl fun bb => ?_
   refine H.Ak (ls := (Bod.zero 0).vals none 0) (vs := (bodW 2 ((x.view.toNat % 6 : Nat) : Int) (1 + ((x.k.toNat % 6 : Nat) : Int))).vals none 0) (ls' := (bodW 2 ((x.view.toNat % 6 : Nat) : Int) (1 + ((x.k.toNat % 6 : Nat) : Int))).vals none 0) rfl rfl rfl (zad rfl) rfl rfl (Nat.le_refl 76) (.here _ _ _) ?_
   refine gO ?_
   refine H.Aa (x := row wb _ _) (by repeat constructor) ?_
   refine H.Aa (x := logsH _ _ _) (by repeat constructor) ?_
   refine H.Ad rfl rfl rfl (hgr _) ?_
   refine H.Aa (x := row xb _ _) (by repeat constructor) ?_
   refine H.Aa (x := row bb _ _) (by repeat constructor) ?_
   refine gZ ?_
   refine H.Aa (x := logsH _ _ _) (by repeat constructor) ?_
   refine H.unpack fun i1 hi1 => ?_
   obtain ⟨V, vp, vc, pp, pc, cp, cc, pb, cs⟩ := i1
   have hiF := hi1.mono hfl
   show H _ _ _ _ _ (row lb 200 (lgC W.l.n W.l.known vp V.length vc pp pc cp cc) :: slc vp V.length vc 195 4 (V.flatMap VV.vals) :: lst (V.map VV.own) :: fam (fun r => pstH (pb r) (W.l.past r)) W.l.n :: slc cp W.l.n cc 232 1 (chRow W.l cs) :: fam (chFam W.l cs) W.l.n :: _) _
   obtain ⟨pbb, poff, hpp0, rdp0⟩ := hiF.past (by show 0 < W.l.n; omega)
   have hpp : pp = some ⟨pbb, poff, none⟩ := hpp0
   have rdp : ∀ {A : List HP} {r : Nat}, r < W.l.n → Rd1 f A pbb (poff + r) (.pointer (some ⟨pb r, 0, none⟩)) := fun {A r} hr => rdp0 (Le.refl f) hr
   clear hpp0 rdp0
   refine H.Aa (x := row lb _ _) (by repeat constructor) ?_
   refine gY ?_
   refine H.Ar (b := pbb) (off := poff) (i := o) rfl (by rw [← hpp]; rfl) rfl (by omega) hol rfl ?_
   refine H.Af rfl rfl rfl (by rw [Nat.mul_one]; exact rdp hol) rfl ?_
   refine gO ?_
   refine H.Aa (x := fam (fun r => pstH _ _) _) (by repeat constructor) ?_
   refine H.Cj hol ?_
   refine H.Ad rfl rfl rfl (hvt _ _) ?_
   refine H.Ck (g := fun r => pstH (pb r) (W.l.past r)) hol ?_
   refine H.Aa (x := fam (chFam W.l cs) _) (by repeat constructor) ?_
   refine H.Aa (x := slc cp _ cc _ _ _) (by repeat constructor) ?_
   refine H.Aa (x := fam (fun r => pstH _ _) _) (by repeat constructor) ?_
   refine H.Aa (x := lst (V.map VV.own)) (by repeat constructor) ?_
   refine H.Aa (x := slc vp _ vc _ _ _) (by repeat constructor) ?_
   refine H.Aa (x := row lb _ _) (by repeat constructor) ?_
   refine H.imp (zai ⟨V, vp, vc, pp, pc, cp, cc, pb, cs⟩ hi1) ?_
   refine H.Aa (x := row xb _ _) (by repeat constructor) ?_
   refine H.Aa (x := row bb _ _) (by repeat constructor) ?_
   refine gZ ?_
   refine H.Ah (ls := (⟨2, (W.l.past o).g, vz + 1, Req.zero, [], noTag⟩ : Bod).vals none 0) rfl rfl rfl (Rd.ofRow (.here _ _ _)) rfl rfl ?_
   refine H.Ak (ls := (Bod.zero 0).vals none 0) (vs := (⟨2, (W.l.past o).g, vz + 1, Req.zero, [], noTag⟩ : Bod).vals none 0) (ls' := (⟨2, (W.l.past o).g, vz + 1, Req.zero, [], noTag⟩ : Bod).vals none 0) rfl rfl rfl (zad rfl) rfl rfl (Nat.le_refl 76) (by repeat constructor) ?_
   refine gf ?_
   refine H.Ab (x := row bb _ _) (by repeat constructor) ?_
   refine H.Ab (x := row xb _ _) (by repeat constructor) ?_
   refine H.Aa (x := row kb _ _) (by repeat constructor) ?_
   refine H.Aa (x := row wb _ _) (by repeat constructor) ?_
   refine H.Aa (x := logsH _ _ _) (by repeat constructor) ?_
   refine H.Aa (x := row ob _ _) (by repeat constructor) ?_
   exact H.Ba (ls := (⟨2, (W.l.past o).g, vz + 1, Req.zero, [], noTag⟩ : Bod).vals none 0) rfl rfl rfl (Rd.ofRow (.here _ _ _)) rfl (fun _ s => s.drop (.here _ _)) ⟨nil0, none, 0, rfl, QAt.nil _ _, Dj.nil _, (un_nil _).symm, rfl⟩
 ·have hk6 : ((x.kind.toNat : Nat) : Int).tmod 6 = 2 := zak (b := 6) h
  rw [h]
  rcases Bool.eq_false_or_eq_true x.raw with hraw | hraw
  ·have hr1 : (!x.raw) = false := by rw [hraw]; rfl
   have hb : x.bodK W n o 2 = (⟨3, fix1 (((x.view.toNat % 6 : Nat) : Int)), 0, Req.zero, [], noTag⟩ : Bod) := by simp [A15.bodK, hraw, Bod.zero]
   rw [hb]
   refine Fn.enter Tryz.func94 rfl Tryz.ntmps94 rfl (L := [(0, _), (1, _), (2, _)]) ⟨rfl, rfl, rfl, trivial⟩ fun base => ?_
   refine gC ?_
   refine H.box (ls := x.vals) rfl rfl rfl rfl fun xb => ?_
   refine H.Au (ls := (Bod.zero 0).vals none 0) rfl rfl rfl fun ob => ?_
   refine gY ?_
   refine H.rem rfl rfl rfl (by decide) hk6 rfl ?_
   refine gP ?_
   refine H.rem (z := ((x.view.toNat % 6 : Nat) : Int)) rfl rfl rfl (by decide) (zak (b := 6) rfl) rfl ?_
   refine gP ?_
   refine H.rem (z := ((x.k.toNat % 6 : Nat) : Int)) rfl rfl rfl (by decide) (zak (b := 6) rfl) rfl ?_
   repeat (first | (refine H.Bc (t := 45) (out := (bodW 3 ((x.view.toNat % 6 : Nat) : Int) (1 + ((x.k.toNat % 6 : Nat) : Int))).vals none 0) rfl rfl rfl (by kernel_rfl) rfl ?_) | ((first | (apply H.ar; (iterate 4 exact rfl)) | (apply H.Bi; (iterate 2 exact rfl))); (with_reducible apply wr_u64; omega); exact rfl))
   refine H.Au (ls := (Bod.zero 0).vals none 0) rfl rfl rfl fun bb => ?_
   refine H.Ak (ls := (Bod.zero 0).vals none 0) (vs := (bodW 3 ((x.view.toNat % 6 : Nat) : Int) (1 + ((x.k.toNat % 6 : Nat) : Int))).vals none 0) (ls' := (bodW 3 ((x.view.toNat % 6 : Nat) : Int) (1 + ((x.k.toNat % 6 : Nat) : Int))).vals none 0) rfl rfl rfl (zad rfl) rfl rfl (Nat.le_refl 76) (.here _ _ _) ?_
   refine gO ?_
   refine H.Aa (x := row wb _ _) (by repeat constructor) ?_
   refine H.Aa (x := logsH _ _ _) (by repeat constructor) ?_
   refine H.Ad rfl rfl rfl (hgr _) ?_
   refine H.Aa (x := row xb _ _) (by repeat constructor) ?_
   refine H.Aa (x := row bb _ _) (by repeat constructor) ?_
   by_cases hz : ((x.view.toNat % 6 : Nat) : Int) = 0
   ·rw [show fix1 (((x.view.toNat % 6 : Nat) : Int)) = 1 from if_pos hz]
    refine gZ ?_
    refine H.Ah (ls := (⟨3, 1, 0, Req.zero, [], noTag⟩ : Bod).vals none 0) rfl rfl rfl (Rd.ofRow (.here _ _ _)) rfl rfl ?_
    refine H.Ak (ls := (Bod.zero 0).vals none 0) (vs := (⟨3, 1, 0, Req.zero, [], noTag⟩ : Bod).vals none 0) (ls' := (⟨3, 1, 0, Req.zero, [], noTag⟩ : Bod).vals none 0) rfl rfl rfl (zad rfl) rfl rfl (Nat.le_refl 76) (by repeat constructor) ?_
    refine gf ?_
    refine H.Ab (x := row bb _ _) (by repeat constructor) ?_
    refine H.Ab (x := row xb _ _) (by repeat constructor) ?_
    refine H.Aa (x := row kb _ _) (by repeat constructor) ?_
    refine H.Aa (x := row wb _ _) (by repeat constructor) ?_
    refine H.Aa (x := logsH _ _ _) (by repeat constructor) ?_
    refine H.Aa (x := row ob _ _) (by repeat constructor) ?_
    exact H.Ba (ls := (⟨3, 1, 0, Req.zero, [], noTag⟩ : Bod).vals none 0) rfl rfl rfl (Rd.ofRow (.here _ _ _)) rfl (fun _ s => s.drop (.here _ _)) ⟨nil0, none, 0, rfl, QAt.nil _ _, Dj.nil _, (un_nil _).symm, rfl⟩
   ·rw [show fix1 (((x.view.toNat % 6 : Nat) : Int)) = ((x.view.toNat % 6 : Nat) : Int) from if_neg hz]
    refine gZ ?_
    refine H.Ah (ls := (⟨3, ((x.view.toNat % 6 : Nat) : Int), 0, Req.zero, [], noTag⟩ : Bod).vals none 0) rfl rfl rfl (Rd.ofRow (.here _ _ _)) rfl rfl ?_
    refine H.Ak (ls := (Bod.zero 0).vals none 0) (vs := (⟨3, ((x.view.toNat % 6 : Nat) : Int), 0, Req.zero, [], noTag⟩ : Bod).vals none 0) (ls' := (⟨3, ((x.view.toNat % 6 : Nat) : Int), 0, Req.zero, [], noTag⟩ : Bod).vals none 0) rfl rfl rfl (zad rfl) rfl rfl (Nat.le_refl 76) (by repeat constructor) ?_
    refine gf ?_
    refine H.Ab (x := row bb _ _) (by repeat constructor) ?_
    refine H.Ab (x := row xb _ _) (by repeat constructor) ?_
    refine H.Aa (x := row kb _ _) (by repeat constructor) ?_
    refine H.Aa (x := row wb _ _) (by repeat constructor) ?_
    refine H.Aa (x := logsH _ _ _) (by repeat constructor) ?_
    refine H.Aa (x := row ob _ _) (by repeat constructor) ?_
    exact H.Ba (ls := (⟨3, ((x.view.toNat % 6 : Nat) : Int), 0, Req.zero, [], noTag⟩ : Bod).vals none 0) rfl rfl rfl (Rd.ofRow (.here _ _ _)) rfl (fun _ s => s.drop (.here _ _)) ⟨nil0, none, 0, rfl, QAt.nil _ _, Dj.nil _, (un_nil _).symm, rfl⟩
  ·have hr1 : (!x.raw) = true := by rw [hraw]; rfl
   have hb : x.bodK W n o 2 = (⟨3, fix1 ((W.l.past o).g + 1 + ((x.view.toNat % 2 : Nat) : Int)), 0, Req.zero, [], noTag⟩ : Bod) := by simp [A15.bodK, hraw, Bod.zero]
   rw [hb]
   rw [show fix1 ((W.l.past o).g + 1 + ((x.view.toNat % 2 : Nat) : Int)) = (W.l.past o).g + 1 + ((x.view.toNat % 2 : Nat) : Int) from if_neg (by omega)]
   refine Fn.enter Tryz.func94 rfl Tryz.ntmps94 rfl (L := [(0, _), (1, _), (2, _)]) ⟨rfl, rfl, rfl, trivial⟩ fun base => ?_
   refine gC ?_
   refine H.box (ls := x.vals) rfl rfl rfl rfl fun xb => ?_
   refine H.Au (ls := (Bod.zero 0).vals none 0) rfl rfl rfl fun ob => ?_
   refine gY ?_
   refine H.rem rfl rfl rfl (by decide) hk6 rfl ?_
   refine gP ?_
   refine H.rem (z := ((x.view.toNat % 6 : Nat) : Int)) rfl rfl rfl (by decide) (zak (b := 6) rfl) rfl ?_
   refine gP ?_
   refine H.rem (z := ((x.k.toNat % 6 : Nat) : Int)) rfl rfl rfl (by decide) (zak (b := 6) rfl) rfl ?_
   repeat (first | (refine H.Bc (t := 45) (out := (bodW 3 ((x.view.toNat % 6 : Nat) : Int) (1 + ((x.k.toNat % 6 : Nat) : Int))).vals none 0) rfl rfl rfl (by kernel_rfl) rfl ?_) | ((first | (apply H.ar; (iterate 4 exact rfl)) | (apply H.Bi; (iterate 2 exact rfl))); (with_reducible apply wr_u64; omega); exact rfl))
   refine H.Au (ls := (Bod.zero 0).vals none 0) rfl rfl rfl fun bb => ?_
   refine H.Ak (ls := (Bod.zero 0).vals none 0) (vs := (bodW 3 ((x.view.toNat % 6 : Nat) : Int) (1 + ((x.k.toNat % 6 : Nat) : Int))).vals none 0) (ls' := (bodW 3 ((x.view.toNat % 6 : Nat) : Int) (1 + ((x.k.toNat % 6 : Nat) : Int))).vals none 0) rfl rfl rfl (zad rfl) rfl rfl (Nat.le_refl 76) (.here _ _ _) ?_
   refine gO ?_
   refine H.Aa (x := row wb _ _) (by repeat constructor) ?_
   refine H.Aa (x := logsH _ _ _) (by repeat constructor) ?_
   refine H.Ad rfl rfl rfl (hgr _) ?_
   refine H.Aa (x := row xb _ _) (by repeat constructor) ?_
   refine H.Aa (x := row bb _ _) (by repeat constructor) ?_
   refine gZ ?_
   refine H.rem (z := ((x.view.toNat % 2 : Nat) : Int)) rfl rfl rfl (by decide) (zak (b := 2) rfl) rfl ?_
   refine gZ ?_
   refine H.Ah (ls := (⟨3, (W.l.past o).g + 1 + ((x.view.toNat % 2 : Nat) : Int), 0, Req.zero, [], noTag⟩ : Bod).vals none 0) rfl rfl rfl (Rd.ofRow (.here _ _ _)) rfl rfl ?_
   refine H.Ak (ls := (Bod.zero 0).vals none 0) (vs := (⟨3, (W.l.past o).g + 1 + ((x.view.toNat % 2 : Nat) : Int), 0, Req.zero, [], noTag⟩ : Bod).vals none 0) (ls' := (⟨3, (W.l.past o).g + 1 + ((x.view.toNat % 2 : Nat) : Int), 0, Req.zero, [], noTag⟩ : Bod).vals none 0) rfl rfl rfl (zad rfl) rfl rfl (Nat.le_refl 76) (by repeat constructor) ?_
   refine gf ?_
   refine H.Ab (x := row bb _ _) (by repeat constructor) ?_
   refine H.Ab (x := row xb _ _) (by repeat constructor) ?_
   refine H.Aa (x := row kb _ _) (by repeat constructor) ?_
   refine H.Aa (x := row wb _ _) (by repeat constructor) ?_
   refine H.Aa (x := logsH _ _ _) (by repeat constructor) ?_
   refine H.Aa (x := row ob _ _) (by repeat constructor) ?_
   exact H.Ba (ls := (⟨3, (W.l.past o).g + 1 + ((x.view.toNat % 2 : Nat) : Int), 0, Req.zero, [], noTag⟩ : Bod).vals none 0) rfl rfl rfl (Rd.ofRow (.here _ _ _)) rfl (fun _ s => s.drop (.here _ _)) ⟨nil0, none, 0, rfl, QAt.nil _ _, Dj.nil _, (un_nil _).symm, rfl⟩
 ·have hk6 : ((x.kind.toNat : Nat) : Int).tmod 6 = 3 := zak (b := 6) h
  rw [h]
  have hq15 := fun G => q15_fn f G hfl (wb := wb) (kb := kb) (lb := lb) (l := W.l) hW.l hT (ap := ap) (m := m) (ac := ac) hnn ho (kv := W.w.kv) hx hq20 (W.l.past o).g
  rcases Bool.eq_false_or_eq_true x.raw with hraw | hraw
  ·have hr1 : (!x.raw) = false := by rw [hraw]; rfl
   have hb : x.bodK W n o 3 = (⟨4, fix1 (((x.view.toNat % 6 : Nat) : Int)), 0, Req.zero, x.qs n W.l.ch (W.w.kv o) (W.l.past o).g, noTag⟩ : Bod) := by simp [A15.bodK, hraw, Bod.zero]
   rw [hb]
   generalize x.qs n W.l.ch (W.w.kv o) (W.l.past o).g = Q at hq15 ⊢
   refine Fn.enter Tryz.func94 rfl Tryz.ntmps94 rfl (L := [(0, _), (1, _), (2, _)]) ⟨rfl, rfl, rfl, trivial⟩ fun base => ?_
   refine gC ?_
   refine H.box (ls := x.vals) rfl rfl rfl rfl fun xb => ?_
   refine H.Au (ls := (Bod.zero 0).vals none 0) rfl rfl rfl fun ob => ?_
   refine gY ?_
   refine H.rem rfl rfl rfl (by decide) hk6 rfl ?_
   refine gP ?_
   refine H.rem (z := ((x.view.toNat % 6 : Nat) : Int)) rfl rfl rfl (by decide) (zak (b := 6) rfl) rfl ?_
   refine gP ?_
   refine H.rem (z := ((x.k.toNat % 6 : Nat) : Int)) rfl rfl rfl (by decide) (zak (b := 6) rfl) rfl ?_
   repeat (first | (refine H.Bc (t := 45) (out := (bodW 4 ((x.view.toNat % 6 : Nat) : Int) (1 + ((x.k.toNat % 6 : Nat) : Int))).vals none 0) rfl rfl rfl (by kernel_rfl) rfl ?_) | ((first | (apply H.ar; (iterate 4 exact rfl)) | (apply H.Bi; (iterate 2 exact rfl))); (with_reducible apply wr_u64; omega); exact rfl))
   refine H.Au (ls := (Bod.zero 0).vals none 0) rfl rfl rfl fun bb => ?_
   refine H.Ak (ls := (Bod.zero 0).vals none 0) (vs := (bodW 4 ((x.view.toNat % 6 : Nat) : Int) (1 + ((x.k.toNat % 6 : Nat) : Int))).vals none 0) (ls' := (bodW 4 ((x.view.toNat % 6 : Nat) : Int) (1 + ((x.k.toNat % 6 : Nat) : Int))).vals none 0) rfl rfl rfl (zad rfl) rfl rfl (Nat.le_refl 76) (.here _ _ _) ?_
   refine gO ?_
   refine H.Aa (x := row wb _ _) (by repeat constructor) ?_
   refine H.Aa (x := logsH _ _ _) (by repeat constructor) ?_
   refine H.Ad rfl rfl rfl (hgr _) ?_
   refine H.Aa (x := row xb _ _) (by repeat constructor) ?_
   refine H.Aa (x := row bb _ _) (by repeat constructor) ?_
   refine gc ?_
   refine H.Ah (ls := x.vals) rfl rfl rfl (Rd.ofRow (.there _ (.here _ _ _))) rfl rfl ?_
   refine gO ?_
   refine H.Aa (x := row kb _ _) (by repeat constructor) ?_
   refine H.Aa (x := row wb _ _) (by repeat constructor) ?_
   refine H.Aa (x := logsH _ _ _) (by repeat constructor) ?_
   refine H.callE rfl rfl rfl (hq15 _) fun qi => ?_
   obtain ⟨qp, qc⟩ := qi
   refine H.freeze (.here _ _) fun g hg hd => ?_
   have hqa : QAt (un f g) qp Q := ListAt.mono (vals := pairV) (Le.right hd) (zbl (vals := pairV) (fun _ => rfl) hg)
   refine H.Aa (x := row xb _ _) (by repeat constructor) ?_
   refine H.Aa (x := row bb _ _) (by repeat constructor) ?_
   by_cases hz : ((x.view.toNat % 6 : Nat) : Int) = 0
   ·rw [show fix1 (((x.view.toNat % 6 : Nat) : Int)) = 1 from if_pos hz]
    refine gZ ?_
    refine H.Ah (ls := (⟨4, 1, 0, Req.zero, Q, noTag⟩ : Bod).vals qp qc) rfl rfl rfl (Rd.ofRow (.here _ _ _)) rfl rfl ?_
    refine H.Ak (ls := (Bod.zero 0).vals none 0) (vs := (⟨4, 1, 0, Req.zero, Q, noTag⟩ : Bod).vals qp qc) (ls' := (⟨4, 1, 0, Req.zero, Q, noTag⟩ : Bod).vals qp qc) rfl rfl rfl (zad rfl) rfl rfl (Nat.le_refl 76) (by repeat constructor) ?_
    refine gf ?_
    refine H.Ab (x := row bb _ _) (by repeat constructor) ?_
    refine H.Ab (x := row xb _ _) (by repeat constructor) ?_
    refine H.Aa (x := row kb _ _) (by repeat constructor) ?_
    refine H.Aa (x := row wb _ _) (by repeat constructor) ?_
    refine H.Aa (x := logsH _ _ _) (by repeat constructor) ?_
    refine H.Aa (x := row ob _ _) (by repeat constructor) ?_
    exact H.Ba (ls := (⟨4, 1, 0, Req.zero, Q, noTag⟩ : Bod).vals qp qc) rfl rfl rfl (Rd.ofRow (.here _ _ _)) rfl (fun _ s => s.drop (.here _ _)) ⟨g, qp, qc, rfl, hqa, hd, rfl, rfl⟩
   ·rw [show fix1 (((x.view.toNat % 6 : Nat) : Int)) = ((x.view.toNat % 6 : Nat) : Int) from if_neg hz]
    refine gZ ?_
    refine H.Ah (ls := (⟨4, ((x.view.toNat % 6 : Nat) : Int), 0, Req.zero, Q, noTag⟩ : Bod).vals qp qc) rfl rfl rfl (Rd.ofRow (.here _ _ _)) rfl rfl ?_
    refine H.Ak (ls := (Bod.zero 0).vals none 0) (vs := (⟨4, ((x.view.toNat % 6 : Nat) : Int), 0, Req.zero, Q, noTag⟩ : Bod).vals qp qc) (ls' := (⟨4, ((x.view.toNat % 6 : Nat) : Int), 0, Req.zero, Q, noTag⟩ : Bod).vals qp qc) rfl rfl rfl (zad rfl) rfl rfl (Nat.le_refl 76) (by repeat constructor) ?_
    refine gf ?_
    refine H.Ab (x := row bb _ _) (by repeat constructor) ?_
    refine H.Ab (x := row xb _ _) (by repeat constructor) ?_
    refine H.Aa (x := row kb _ _) (by repeat constructor) ?_
    refine H.Aa (x := row wb _ _) (by repeat constructor) ?_
    refine H.Aa (x := logsH _ _ _) (by repeat constructor) ?_
    refine H.Aa (x := row ob _ _) (by repeat constructor) ?_
    exact H.Ba (ls := (⟨4, ((x.view.toNat % 6 : Nat) : Int), 0, Req.zero, Q, noTag⟩ : Bod).vals qp qc) rfl rfl rfl (Rd.ofRow (.here _ _ _)) rfl (fun _ s => s.drop (.here _ _)) ⟨g, qp, qc, rfl, hqa, hd, rfl, rfl⟩
  ·have hr1 : (!x.raw) = true := by rw [hraw]; rfl
   have hb : x.bodK W n o 3 = (⟨4, fix1 ((W.l.past o).g), 0, Req.zero, x.qs n W.l.ch (W.w.kv o) (W.l.past o).g, noTag⟩ : Bod) := by simp [A15.bodK, hraw, Bod.zero]
   rw [hb]
   generalize x.qs n W.l.ch (W.w.kv o) (W.l.past o).g = Q at hq15 ⊢
   refine Fn.enter Tryz.func94 rfl Tryz.ntmps94 rfl (L := [(0, _), (1, _), (2, _)]) ⟨rfl, rfl, rfl, trivial⟩ fun base => ?_
   refine gC ?_
   refine H.box (ls := x.vals) rfl rfl rfl rfl fun xb => ?_
   refine H.Au (ls := (Bod.zero 0).vals none 0) rfl rfl rfl fun ob => ?_
   refine gY ?_
   refine H.rem rfl rfl rfl (by decide) hk6 rfl ?_
   refine gP ?_
   refine H.rem (z := ((x.view.toNat % 6 : Nat) : Int)) rfl rfl rfl (by decide) (zak (b := 6) rfl) rfl ?_
   refine gP ?_
   refine H.rem (z := ((x.k.toNat % 6 : Nat) : Int)) rfl rfl rfl (by decide) (zak (b := 6) rfl) rfl ?_
   repeat (first | (refine H.Bc (t := 45) (out := (bodW 4 ((x.view.toNat % 6 : Nat) : Int) (1 + ((x.k.toNat % 6 : Nat) : Int))).vals none 0) rfl rfl rfl (by kernel_rfl) rfl ?_) | ((first | (apply H.ar; (iterate 4 exact rfl)) | (apply H.Bi; (iterate 2 exact rfl))); (with_reducible apply wr_u64; omega); exact rfl))
   refine H.Au (ls := (Bod.zero 0).vals none 0) rfl rfl rfl fun bb => ?_
   refine H.Ak (ls := (Bod.zero 0).vals none 0) (vs := (bodW 4 ((x.view.toNat % 6 : Nat) : Int) (1 + ((x.k.toNat % 6 : Nat) : Int))).vals none 0) (ls' := (bodW 4 ((x.view.toNat % 6 : Nat) : Int) (1 + ((x.k.toNat % 6 : Nat) : Int))).vals none 0) rfl rfl rfl (zad rfl) rfl rfl (Nat.le_refl 76) (.here _ _ _) ?_
   refine gO ?_
   refine H.Aa (x := row wb _ _) (by repeat constructor) ?_
   refine H.Aa (x := logsH _ _ _) (by repeat constructor) ?_
   refine H.Ad rfl rfl rfl (hgr _) ?_
   refine H.Aa (x := row xb _ _) (by repeat constructor) ?_
   refine H.Aa (x := row bb _ _) (by repeat constructor) ?_
   refine gc ?_
   refine H.Ah (ls := x.vals) rfl rfl rfl (Rd.ofRow (.there _ (.here _ _ _))) rfl rfl ?_
   refine gO ?_
   refine H.Aa (x := row kb _ _) (by repeat constructor) ?_
   refine H.Aa (x := row wb _ _) (by repeat constructor) ?_
   refine H.Aa (x := logsH _ _ _) (by repeat constructor) ?_
   refine H.callE rfl rfl rfl (hq15 _) fun qi => ?_
   obtain ⟨qp, qc⟩ := qi
   refine H.freeze (.here _ _) fun g hg hd => ?_
   have hqa : QAt (un f g) qp Q := ListAt.mono (vals := pairV) (Le.right hd) (zbl (vals := pairV) (fun _ => rfl) hg)
   refine H.Aa (x := row xb _ _) (by repeat constructor) ?_
   refine H.Aa (x := row bb _ _) (by repeat constructor) ?_
   by_cases hz : (W.l.past o).g = 0
   ·rw [show fix1 ((W.l.past o).g) = 1 from if_pos hz]
    refine gZ ?_
    refine H.Ah (ls := (⟨4, 1, 0, Req.zero, Q, noTag⟩ : Bod).vals qp qc) rfl rfl rfl (Rd.ofRow (.here _ _ _)) rfl rfl ?_
    refine H.Ak (ls := (Bod.zero 0).vals none 0) (vs := (⟨4, 1, 0, Req.zero, Q, noTag⟩ : Bod).vals qp qc) (ls' := (⟨4, 1, 0, Req.zero, Q, noTag⟩ : Bod).vals qp qc) rfl rfl rfl (zad rfl) rfl rfl (Nat.le_refl 76) (by repeat constructor) ?_
    refine gf ?_
    refine H.Ab (x := row bb _ _) (by repeat constructor) ?_
    refine H.Ab (x := row xb _ _) (by repeat constructor) ?_
    refine H.Aa (x := row kb _ _) (by repeat constructor) ?_
    refine H.Aa (x := row wb _ _) (by repeat constructor) ?_
    refine H.Aa (x := logsH _ _ _) (by repeat constructor) ?_
    refine H.Aa (x := row ob _ _) (by repeat constructor) ?_
    exact H.Ba (ls := (⟨4, 1, 0, Req.zero, Q, noTag⟩ : Bod).vals qp qc) rfl rfl rfl (Rd.ofRow (.here _ _ _)) rfl (fun _ s => s.drop (.here _ _)) ⟨g, qp, qc, rfl, hqa, hd, rfl, rfl⟩
   ·rw [show fix1 ((W.l.past o).g) = (W.l.past o).g from if_neg hz]
    refine gZ ?_
    refine H.Ah (ls := (⟨4, (W.l.past o).g, 0, Req.zero, Q, noTag⟩ : Bod).vals qp qc) rfl rfl rfl (Rd.ofRow (.here _ _ _)) rfl rfl ?_
    refine H.Ak (ls := (Bod.zero 0).vals none 0) (vs := (⟨4, (W.l.past o).g, 0, Req.zero, Q, noTag⟩ : Bod).vals qp qc) (ls' := (⟨4, (W.l.past o).g, 0, Req.zero, Q, noTag⟩ : Bod).vals qp qc) rfl rfl rfl (zad rfl) rfl rfl (Nat.le_refl 76) (by repeat constructor) ?_
    refine gf ?_
    refine H.Ab (x := row bb _ _) (by repeat constructor) ?_
    refine H.Ab (x := row xb _ _) (by repeat constructor) ?_
    refine H.Aa (x := row kb _ _) (by repeat constructor) ?_
    refine H.Aa (x := row wb _ _) (by repeat constructor) ?_
    refine H.Aa (x := logsH _ _ _) (by repeat constructor) ?_
    refine H.Aa (x := row ob _ _) (by repeat constructor) ?_
    exact H.Ba (ls := (⟨4, (W.l.past o).g, 0, Req.zero, Q, noTag⟩ : Bod).vals qp qc) rfl rfl rfl (Rd.ofRow (.here _ _ _)) rfl (fun _ s => s.drop (.here _ _)) ⟨g, qp, qc, rfl, hqa, hd, rfl, rfl⟩
 ·have hk6 : ((x.kind.toNat : Nat) : Int).tmod 6 = 4 := zak (b := 6) h
  rw [h]
  rcases Bool.eq_false_or_eq_true x.raw with hraw | hraw
  ·have hr1 : (!x.raw) = false := by rw [hraw]; rfl
   have hb : x.bodK W n o 4 = (⟨5, fix1 (((x.view.toNat % 6 : Nat) : Int)), 0, Req.zero, [], noTag⟩ : Bod) := by simp [A15.bodK, hraw, Bod.zero]
   rw [hb]
   refine Fn.enter Tryz.func94 rfl Tryz.ntmps94 rfl (L := [(0, _), (1, _), (2, _)]) ⟨rfl, rfl, rfl, trivial⟩ fun base => ?_
   refine gC ?_
   refine H.box (ls := x.vals) rfl rfl rfl rfl fun xb => ?_
   refine H.Au (ls := (Bod.zero 0).vals none 0) rfl rfl rfl fun ob => ?_
   refine gY ?_
   refine H.rem rfl rfl rfl (by decide) hk6 rfl ?_
   refine gP ?_
   refine H.rem (z := ((x.view.toNat % 6 : Nat) : Int)) rfl rfl rfl (by decide) (zak (b := 6) rfl) rfl ?_
   refine gP ?_
   refine H.rem (z := ((x.k.toNat % 6 : Nat) : Int)) rfl rfl rfl (by decide) (zak (b := 6) rfl) rfl ?_
   repeat (first | (refine H.Bc (t := 45) (out := (bodW 5 ((x.view.toNat % 6 : Nat) : Int) (1 + ((x.k.toNat % 6 : Nat) : Int))).vals none 0) rfl rfl rfl (by kernel_rfl) rfl ?_) | ((first | (apply H.ar; (iterate 4 exact rfl)) | (apply H.Bi; (iterate 2 exact rfl))); (with_reducible apply wr_u64; omega); exact rfl))
   refine H.Au (ls := (Bod.zero 0).vals none 0) rfl rfl rfl fun bb => ?_
   refine H.Ak (ls := (Bod.zero 0).vals none 0) (vs := (bodW 5 ((x.view.toNat % 6 : Nat) : Int) (1 + ((x.k.toNat % 6 : Nat) : Int))).vals none 0) (ls' := (bodW 5 ((x.view.toNat % 6 : Nat) : Int) (1 + ((x.k.toNat % 6 : Nat) : Int))).vals none 0) rfl rfl rfl (zad rfl) rfl rfl (Nat.le_refl 76) (.here _ _ _) ?_
   refine gO ?_
   refine H.Aa (x := row wb _ _) (by repeat constructor) ?_
   refine H.Aa (x := logsH _ _ _) (by repeat constructor) ?_
   refine H.Ad rfl rfl rfl (hgr _) ?_
   refine H.Aa (x := row xb _ _) (by repeat constructor) ?_
   refine H.Aa (x := row bb _ _) (by repeat constructor) ?_
   by_cases hz : ((x.view.toNat % 6 : Nat) : Int) = 0
   ·rw [show fix1 (((x.view.toNat % 6 : Nat) : Int)) = 1 from if_pos hz]
    refine gZ ?_
    refine H.Ah (ls := (⟨5, 1, 0, Req.zero, [], noTag⟩ : Bod).vals none 0) rfl rfl rfl (Rd.ofRow (.here _ _ _)) rfl rfl ?_
    refine H.Ak (ls := (Bod.zero 0).vals none 0) (vs := (⟨5, 1, 0, Req.zero, [], noTag⟩ : Bod).vals none 0) (ls' := (⟨5, 1, 0, Req.zero, [], noTag⟩ : Bod).vals none 0) rfl rfl rfl (zad rfl) rfl rfl (Nat.le_refl 76) (by repeat constructor) ?_
    refine gf ?_
    refine H.Ab (x := row bb _ _) (by repeat constructor) ?_
    refine H.Ab (x := row xb _ _) (by repeat constructor) ?_
    refine H.Aa (x := row kb _ _) (by repeat constructor) ?_
    refine H.Aa (x := row wb _ _) (by repeat constructor) ?_
    refine H.Aa (x := logsH _ _ _) (by repeat constructor) ?_
    refine H.Aa (x := row ob _ _) (by repeat constructor) ?_
    exact H.Ba (ls := (⟨5, 1, 0, Req.zero, [], noTag⟩ : Bod).vals none 0) rfl rfl rfl (Rd.ofRow (.here _ _ _)) rfl (fun _ s => s.drop (.here _ _)) ⟨nil0, none, 0, rfl, QAt.nil _ _, Dj.nil _, (un_nil _).symm, rfl⟩
   ·rw [show fix1 (((x.view.toNat % 6 : Nat) : Int)) = ((x.view.toNat % 6 : Nat) : Int) from if_neg hz]
    refine gZ ?_
    refine H.Ah (ls := (⟨5, ((x.view.toNat % 6 : Nat) : Int), 0, Req.zero, [], noTag⟩ : Bod).vals none 0) rfl rfl rfl (Rd.ofRow (.here _ _ _)) rfl rfl ?_
    refine H.Ak (ls := (Bod.zero 0).vals none 0) (vs := (⟨5, ((x.view.toNat % 6 : Nat) : Int), 0, Req.zero, [], noTag⟩ : Bod).vals none 0) (ls' := (⟨5, ((x.view.toNat % 6 : Nat) : Int), 0, Req.zero, [], noTag⟩ : Bod).vals none 0) rfl rfl rfl (zad rfl) rfl rfl (Nat.le_refl 76) (by repeat constructor) ?_
    refine gf ?_
    refine H.Ab (x := row bb _ _) (by repeat constructor) ?_
    refine H.Ab (x := row xb _ _) (by repeat constructor) ?_
    refine H.Aa (x := row kb _ _) (by repeat constructor) ?_
    refine H.Aa (x := row wb _ _) (by repeat constructor) ?_
    refine H.Aa (x := logsH _ _ _) (by repeat constructor) ?_
    refine H.Aa (x := row ob _ _) (by repeat constructor) ?_
    exact H.Ba (ls := (⟨5, ((x.view.toNat % 6 : Nat) : Int), 0, Req.zero, [], noTag⟩ : Bod).vals none 0) rfl rfl rfl (Rd.ofRow (.here _ _ _)) rfl (fun _ s => s.drop (.here _ _)) ⟨nil0, none, 0, rfl, QAt.nil _ _, Dj.nil _, (un_nil _).symm, rfl⟩
  ·have hr1 : (!x.raw) = true := by rw [hraw]; rfl
   have hb : x.bodK W n o 4 = (⟨5, fix1 (lastV W.l.vs), 0, Req.zero, [], noTag⟩ : Bod) := by simp [A15.bodK, hraw, Bod.zero]
   rw [hb]
   refine Fn.enter Tryz.func94 rfl Tryz.ntmps94 rfl (L := [(0, _), (1, _), (2, _)]) ⟨rfl, rfl, rfl, trivial⟩ fun base => ?_
   refine gC ?_
   refine H.box (ls := x.vals) rfl rfl rfl rfl fun xb => ?_
   refine H.Au (ls := (Bod.zero 0).vals none 0) rfl rfl rfl fun ob => ?_
   refine gY ?_
   refine H.rem rfl rfl rfl (by decide) hk6 rfl ?_
   refine gP ?_
   refine H.rem (z := ((x.view.toNat % 6 : Nat) : Int)) rfl rfl rfl (by decide) (zak (b := 6) rfl) rfl ?_
   refine gP ?_
   refine H.rem (z := ((x.k.toNat % 6 : Nat) : Int)) rfl rfl rfl (by decide) (zak (b := 6) rfl) rfl ?_
   repeat (first | (refine H.Bc (t := 45) (out := (bodW 5 ((x.view.toNat % 6 : Nat) : Int) (1 + ((x.k.toNat % 6 : Nat) : Int))).vals none 0) rfl rfl rfl (by kernel_rfl) rfl ?_) | ((first | (apply H.ar; (iterate 4 exact rfl)) | (apply H.Bi; (iterate 2 exact rfl))); (with_reducible apply wr_u64; omega); exact rfl))
   refine H.Au (ls := (Bod.zero 0).vals none 0) rfl rfl rfl fun bb => ?_
   refine H.Ak (ls := (Bod.zero 0).vals none 0) (vs := (bodW 5 ((x.view.toNat % 6 : Nat) : Int) (1 + ((x.k.toNat % 6 : Nat) : Int))).vals none 0) (ls' := (bodW 5 ((x.view.toNat % 6 : Nat) : Int) (1 + ((x.k.toNat % 6 : Nat) : Int))).vals none 0) rfl rfl rfl (zad rfl) rfl rfl (Nat.le_refl 76) (.here _ _ _) ?_
   refine gO ?_
   refine H.Aa (x := row wb _ _) (by repeat constructor) ?_
   refine H.Aa (x := logsH _ _ _) (by repeat constructor) ?_
   refine H.Ad rfl rfl rfl (hgr _) ?_
   refine H.Aa (x := row xb _ _) (by repeat constructor) ?_
   refine H.Aa (x := row bb _ _) (by repeat constructor) ?_
   refine H.Aa (x := logsH _ _ _) (by repeat constructor) ?_
   refine H.unpack fun i1 hi1 => ?_
   obtain ⟨V, vp, vc, pp, pc, cp, cc, pb, cs⟩ := i1
   have hiF := hi1.mono hfl
   show H _ _ _ _ _ (row lb 200 (lgC W.l.n W.l.known vp V.length vc pp pc cp cc) :: slc vp V.length vc 195 4 (V.flatMap VV.vals) :: lst (V.map VV.own) :: fam (fun r => pstH (pb r) (W.l.past r)) W.l.n :: slc cp W.l.n cc 232 1 (chRow W.l cs) :: fam (chFam W.l cs) W.l.n :: _) _
   have hvs : V.map VV.w = W.l.vs := hi1.vs
   have hVl : V.length = W.l.vs.length := hi1.len
   have hvl := hW.l.vl
   have hV0 : 0 < V.length := by
    obtain ⟨w0, hw0, _⟩ := hW.l.zero
    rw [hVl]
    exact List.length_pos_of_mem hw0
   obtain ⟨X, hX⟩ : ∃ X, V[V.length - 1]? = some X := ⟨_, List.getElem?_eq_getElem (by omega)⟩
   have hXv : lastV W.l.vs = X.w.v := by
    unfold lastV
    rw [← hVl, ← hvs, List.getElem?_map, hX]
    rfl
   rw [hXv]
   refine H.Bq (p := vp) (n0 := V.length) (c := vc) (T := 195) (sz := 4) (xs := V.flatMap VV.vals) (by repeat constructor) (by omega) fun vb hvb => ?_
   refine H.Aa (x := row xb _ _) (by repeat constructor) ?_
   refine H.Aa (x := row bb _ _) (by repeat constructor) ?_
   refine gZ ?_
   refine H.Aa (x := slc vp _ vc _ _ _) (by repeat constructor) ?_
   refine H.Aa (x := row lb _ _) (by repeat constructor) ?_
   refine H.Aa (x := row wb _ _) (by repeat constructor) ?_
   refine H.Bu [0, 1, 2, 3, 4, 5, 6, 7, 8, 9, 10, 11, 12, 13, 14, 15, 16, 17, 18] (by kernel_rfl) (by decide +kernel) (by repeat (first | exact zab | refine zaa ?_ | refine zac ?_ | refine zae ?_)) (S := [_, _, _]) rfl ?_
   refine HB.Ag [(0, false), (1, false), (2, false), (3, false), (4, false), (5, false), (6, false), (7, false), (8, false), (9, false), (10, false), (11, false), (12, false), (13, false), (14, false), (15, false), (16, false), (17, false), (18, false)] 2 (by kernel_rfl) ?_
   refine gW ?_
   refine HQ.Ar (b := vb) (off := 0) (i := V.length - 1) rfl (by rw [← hvb]; rfl) rfl (show ((V.length : Int) - 1) = ((V.length - 1 : Nat) : Int) by omega) (show V.length - 1 < V.length by omega) rfl ?_
   refine gE ?_
   refine HQ.Af rfl rfl rfl (Rd1.of (i := 0) (by rw [Nat.zero_add]; exact Rd.slcElem (n := V.length) (c := vc) (T := 195) (xs := V) VV.len (by decide) (by rw [← hvb]; exact .there _ (.there _ (.here _ _ _))) hX) rfl) rfl ?_
   refine HQ.Ae rfl ?_
   refine HB.next [] (by kernel_rfl) (S' := []) rfl ?_
   refine HB.Ag [(19, false)] 1 (by kernel_rfl) ?_
   refine gE ?_
   refine HQ.Ae rfl ?_
   refine HB.ev1 (i := 20) (by kernel_rfl) rfl ?_
   refine H.Aa (x := row bb _ _) (by repeat constructor) ?_
   refine H.Bj (ls := (bodW 5 ((x.view.toNat % 6 : Nat) : Int) 0).vals none 0) (ls' := (bodW 5 X.w.v 0).vals none 0) rfl rfl rfl rfl (.here _ _ _) (.there _ (.here _ _ _)) ?_
   refine gC ?_
   refine H.on0 rfl ?_
   refine HB.Al (by kernel_rfl) ?_
   refine H.Aa (x := fam (chFam W.l cs) _) (by repeat constructor) ?_
   refine H.Aa (x := slc cp _ cc _ _ _) (by repeat constructor) ?_
   refine H.Aa (x := fam (fun r => pstH _ _) _) (by repeat constructor) ?_
   refine H.Aa (x := lst (V.map VV.own)) (by repeat constructor) ?_
   refine H.Aa (x := slc vp _ vc _ _ _) (by repeat constructor) ?_
   refine H.Aa (x := row lb _ _) (by repeat constructor) ?_
   refine H.imp (zai ⟨V, vp, vc, pp, pc, cp, cc, pb, cs⟩ hi1) ?_
   refine H.Aa (x := row xb _ _) (by repeat constructor) ?_
   refine H.Aa (x := row bb _ _) (by repeat constructor) ?_
   by_cases hz : X.w.v = 0
   ·rw [show fix1 (X.w.v) = 1 from if_pos hz]
    refine gZ ?_
    refine H.Ah (ls := (⟨5, 1, 0, Req.zero, [], noTag⟩ : Bod).vals none 0) rfl rfl rfl (Rd.ofRow (.here _ _ _)) rfl rfl ?_
    refine H.Ak (ls := (Bod.zero 0).vals none 0) (vs := (⟨5, 1, 0, Req.zero, [], noTag⟩ : Bod).vals none 0) (ls' := (⟨5, 1, 0, Req.zero, [], noTag⟩ : Bod).vals none 0) rfl rfl rfl (zad rfl) rfl rfl (Nat.le_refl 76) (by repeat constructor) ?_
    refine gf ?_
    refine H.Ab (x := row bb _ _) (by repeat constructor) ?_
    refine H.Ab (x := row xb _ _) (by repeat constructor) ?_
    refine H.Aa (x := row kb _ _) (by repeat constructor) ?_
    refine H.Aa (x := row wb _ _) (by repeat constructor) ?_
    refine H.Aa (x := logsH _ _ _) (by repeat constructor) ?_
    refine H.Aa (x := row ob _ _) (by repeat constructor) ?_
    exact H.Ba (ls := (⟨5, 1, 0, Req.zero, [], noTag⟩ : Bod).vals none 0) rfl rfl rfl (Rd.ofRow (.here _ _ _)) rfl (fun _ s => s.drop (.here _ _)) ⟨nil0, none, 0, rfl, QAt.nil _ _, Dj.nil _, (un_nil _).symm, rfl⟩
   ·rw [show fix1 (X.w.v) = X.w.v from if_neg hz]
    refine gU ?_
    refine H.Ah (ls := (⟨5, X.w.v, 0, Req.zero, [], noTag⟩ : Bod).vals none 0) rfl rfl rfl (Rd.ofRow (.here _ _ _)) rfl rfl ?_
    refine H.Ak (ls := (Bod.zero 0).vals none 0) (vs := (⟨5, X.w.v, 0, Req.zero, [], noTag⟩ : Bod).vals none 0) (ls' := (⟨5, X.w.v, 0, Req.zero, [], noTag⟩ : Bod).vals none 0) rfl rfl rfl (zad rfl) rfl rfl (Nat.le_refl 76) (by repeat constructor) ?_
    refine gf ?_
    refine H.Ab (x := row bb _ _) (by repeat constructor) ?_
    refine H.Ab (x := row xb _ _) (by repeat constructor) ?_
    refine H.Aa (x := row kb _ _) (by repeat constructor) ?_
    refine H.Aa (x := row wb _ _) (by repeat constructor) ?_
    refine H.Aa (x := logsH _ _ _) (by repeat constructor) ?_
    refine H.Aa (x := row ob _ _) (by repeat constructor) ?_
    exact H.Ba (ls := (⟨5, X.w.v, 0, Req.zero, [], noTag⟩ : Bod).vals none 0) rfl rfl rfl (Rd.ofRow (.here _ _ _)) rfl (fun _ s => s.drop (.here _ _)) ⟨nil0, none, 0, rfl, QAt.nil _ _, Dj.nil _, (un_nil _).symm, rfl⟩
 ·have hk6 : ((x.kind.toNat : Nat) : Int).tmod 6 = 5 := zak (b := 6) h
  rw [h]
  show Fn _ _ _ f _ (BodP f _ (⟨6, 0, (1 + ((x.k.toNat % 6 : Nat) : Int)), Req.zero, [], dig0 x.key⟩ : Bod))
  refine Fn.enter Tryz.func94 rfl Tryz.ntmps94 rfl (L := [(0, _), (1, _), (2, _)]) ⟨rfl, rfl, rfl, trivial⟩ fun base => ?_
  refine gC ?_
  refine H.box (ls := x.vals) rfl rfl rfl rfl fun xb => ?_
  refine H.Au (ls := (Bod.zero 0).vals none 0) rfl rfl rfl fun ob => ?_
  refine gY ?_
  refine H.rem rfl rfl rfl (by decide) hk6 rfl ?_
  refine gP ?_
  refine H.rem (z := ((x.view.toNat % 6 : Nat) : Int)) rfl rfl rfl (by decide) (zak (b := 6) rfl) rfl ?_
  refine gP ?_
  refine H.rem (z := ((x.k.toNat % 6 : Nat) : Int)) rfl rfl rfl (by decide) (zak (b := 6) rfl) rfl ?_
  repeat (first | (refine H.Bc (t := 45) (out := (bodW 6 ((x.view.toNat % 6 : Nat) : Int) (1 + ((x.k.toNat % 6 : Nat) : Int))).vals none 0) rfl rfl rfl (by kernel_rfl) rfl ?_) | ((first | (apply H.ar; (iterate 4 exact rfl)) | (apply H.Bi; (iterate 2 exact rfl))); (with_reducible apply wr_u64; omega); exact rfl))
  refine H.Au (ls := (Bod.zero 0).vals none 0) rfl rfl rfl fun bb => ?_
  refine H.Ak (ls := (Bod.zero 0).vals none 0) (vs := (bodW 6 ((x.view.toNat % 6 : Nat) : Int) (1 + ((x.k.toNat % 6 : Nat) : Int))).vals none 0) (ls' := (bodW 6 ((x.view.toNat % 6 : Nat) : Int) (1 + ((x.k.toNat % 6 : Nat) : Int))).vals none 0) rfl rfl rfl (zad rfl) rfl rfl (Nat.le_refl 76) (.here _ _ _) ?_
  refine gO ?_
  refine H.Aa (x := row wb _ _) (by repeat constructor) ?_
  refine H.Aa (x := logsH _ _ _) (by repeat constructor) ?_
  refine H.Ad rfl rfl rfl (hgr _) ?_
  refine H.Aa (x := row xb _ _) (by repeat constructor) ?_
  refine H.Aa (x := row bb _ _) (by repeat constructor) ?_
  refine gc ?_
  refine H.Aw (i := 0) rfl rfl rfl rfl (by decide) rfl ?_
  refine gZ ?_
  refine H.Ah (ls := (⟨6, 0, (1 + ((x.k.toNat % 6 : Nat) : Int)), Req.zero, [], dig0 x.key⟩ : Bod).vals none 0) rfl rfl rfl (Rd.ofRow (.here _ _ _)) rfl rfl ?_
  refine H.Ak (ls := (Bod.zero 0).vals none 0) (vs := (⟨6, 0, (1 + ((x.k.toNat % 6 : Nat) : Int)), Req.zero, [], dig0 x.key⟩ : Bod).vals none 0) (ls' := (⟨6, 0, (1 + ((x.k.toNat % 6 : Nat) : Int)), Req.zero, [], dig0 x.key⟩ : Bod).vals none 0) rfl rfl rfl (zad rfl) rfl rfl (Nat.le_refl 76) (by repeat constructor) ?_
  refine gf ?_
  refine H.Ab (x := row bb _ _) (by repeat constructor) ?_
  refine H.Ab (x := row xb _ _) (by repeat constructor) ?_
  refine H.Aa (x := row kb _ _) (by repeat constructor) ?_
  refine H.Aa (x := row wb _ _) (by repeat constructor) ?_
  refine H.Aa (x := logsH _ _ _) (by repeat constructor) ?_
  refine H.Aa (x := row ob _ _) (by repeat constructor) ?_
  exact H.Ba (ls := (⟨6, 0, (1 + ((x.k.toNat % 6 : Nat) : Int)), Req.zero, [], dig0 x.key⟩ : Bod).vals none 0) rfl rfl rfl (Rd.ofRow (.here _ _ _)) rfl (fun _ s => s.drop (.here _ _)) ⟨nil0, none, 0, rfl, QAt.nil _ _, Dj.nil _, (un_nil _).symm, rfl⟩
end
structure W15P where
 kb : Nat
 lb : Nat
 ap : Option Addr
 ac : Nat
 l : List MV
def w15φ (e : Frag) (W : W15) (i : W15P) : Prop := i.l.map MV.m = W.w.all ∧ ∀ y ∈ i.l, y.Good e
def w15B (e : Frag) (wb n : Nat) (W : W15) (i : W15P) : List HP := [row wb 96 (w15C i.kb n i.ap i.l.length i.ac i.lb), row i.kb 37 (kRow n W.w.kv), slc i.ap i.l.length i.ac 47 121 (i.l.flatMap MV.vals), logsH e i.lb W.l]
def wH15 (e : Frag) (wb n : Nat) (W : W15) : HP := pack (w15φ e W) (w15B e wb n W)
theorem w15_fold {e : Frag} {F : List HP} {wb n : Nat} {W : W15} (i : W15P) (h : w15φ e W i) : ∀ x, stars (w15B e wb n W i ++ F) x → stars (wH15 e wb n W :: F) x := fun x hx => pack_fold (φ := w15φ e W) (B := w15B e wb n W) i h x hx
theorem w15_mono {f g : Frag} (h : Le f g) {wb n : Nat} {W : W15} : ∀ x, wH15 f wb n W x → wH15 g wb n W x := fun _ ⟨i, hi, hx⟩ => ⟨i, ⟨hi.1, fun y hy => (hi.2 y hy).mono h⟩, by
 obtain ⟨m1, m2, d1, e1, a1, m3, m4, d2, e2, a2, m5, m6, d3, e3, a3, m7, m8, d4, e4, a4, r4⟩ := hx
 exact ⟨m1, m2, d1, e1, a1, m3, m4, d2, e2, a2, m5, m6, d3, e3, a3, m7, m8, d4, e4, logsH_mono h _ a4, r4⟩⟩
theorem w15_up {f g : Frag} (h : Le f g) {wb n : Nat} {W : W15} {A : List HP} : ∀ x, stars (wH15 f wb n W :: A) x → stars (wH15 g wb n W :: A) x := fun _ ⟨h1, h2, hd, he, ha, hr⟩ => ⟨h1, h2, hd, he, w15_mono h _ ha, hr⟩
def DoP (f : Frag) (F : List HP) (wb n : Nat) (W : W15) : Value → Frag → List HP → Prop := fun v f' A' => ∃ (g : Frag) (u : Value), Dj f g ∧ v = u ∧ f' = un f g ∧ A' = wH15 f' wb n W :: F
section
variable (f : Frag) (F : List HP)
set_option maxRecDepth 20000 in
set_option maxHeartbeats 3200000 in
theorem do_fn {fl : Frag} (hfl : Le fl f) {wb n : Nat} {W : W15} {T : Nat} (hn3 : 3 ≤ n ∧ n ≤ 11) (hW : WI n W T) (hT : T ≤ 900) (hal : W.w.all.length ≤ 900) {x : A15} (hx : x.Has f) (hq20 : x.q.length ≤ 20) :
  Fn Tryz.prog 74 [.pointer (some ⟨wb, 0, none⟩), .agg x.vals.toArray] f (wH15 fl wb n W :: F) (DoP f F wb n (W.act n x)) := by
 refine Fn.unpack fun i0 hi => ?_
 obtain ⟨kb, lb, ap, ac, l⟩ := i0
 have hlm : l.map MV.m = W.w.all := hi.1
 have hlg : ∀ y ∈ l, y.Good fl := hi.2
 have hll : l.length ≤ 900 := by
  have := congrArg List.length hlm
  rw [List.length_map] at this
  omega
 have hn0 : ((n : Nat) : Int) ≠ 0 := by omega
 have ho : x.who.toNat % n < n := Nat.mod_lt _ (by omega)
 have hkv := hW.w.kv_le ho
 have hwho := x.who.toNat_lt
 have hoth := x.other.toNat_lt
 have hj : x.other.toNat % n < n := Nat.mod_lt _ (by omega)
 show Fn _ _ _ f (row wb 96 (w15C kb n ap l.length ac lb) :: row kb 37 (kRow n W.w.kv) :: slc ap l.length ac 47 121 (l.flatMap MV.vals) :: logsH fl lb W.l :: F) _
 refine Fn.enter Tryz.func74 rfl Tryz.ntmps74 rfl (L := [(0, _), (1, _)]) ⟨rfl, rfl, trivial⟩ fun base => ?_
 refine gC ?_
 refine H.box (ls := x.vals) rfl rfl rfl rfl fun xb => ?_
 refine H.Au (ls := msgZ.vals none 0) rfl rfl rfl fun ob => ?_
 refine gY ?_
 refine H.rem (z := ((x.who.toNat % n : Nat) : Int)) rfl rfl rfl hn0 (zak (a := x.who.toNat) (b := n) rfl) rfl ?_
 refine gY ?_
 cases hmt : x.meet with
 | true =>
  have hact : W.act n x = { W with w := W.w.meet (x.who.toNat % n) (x.other.toNat % n) } := by unfold W15.act; rw [if_pos hmt]
  rw [hact]
  refine gY ?_
  refine H.rem (z := ((x.other.toNat % n : Nat) : Int)) rfl rfl rfl hn0 (zak (a := x.other.toNat) (b := n) rfl) rfl ?_
  refine gf ?_
  generalize hoe : x.who.toNat % n = o at *
  generalize hje : x.other.toNat % n = j at *
  have ho11 : o < 11 := by omega
  refine H.Aa (x := row kb _ _) (by repeat constructor) ?_
  refine H.Aa (x := row wb _ _) (by repeat constructor) ?_
  refine H.Ax (ι := Nat) (fun i => [(8, .int .i64 (i : Int)), (6, .int .i64 (1 + (o : Int))), (7, .int .i64 (j : Int)), (0, .pointer (some ⟨wb, 0, none⟩)), (4, .pointer (some ⟨ob, 0, none⟩))]) (fun _ => f)
   (fun i => row wb 96 (w15C kb n ap l.length ac lb) :: row kb 37 (kRow n (raised W.w.kv o j i)) :: row ob 47 (msgZ.vals none 0) :: row xb 144 x.vals :: slc ap l.length ac 47 121 (l.flatMap MV.vals) :: logsH fl lb W.l :: F)
   (fun i => i ≤ 11) (fun i => 11 - i) 0 (Nat.zero_le _) ⟨rfl, rfl, rfl, rfl, rfl, trivial⟩ rfl (by rw [raised_zero]) fun i hi2 => ?_
  have hi2 : i ≤ 11 := hi2
  by_cases hi11 : i < 11
  ·have hro := raised_o W.w.kv o j i
   have hrj := raised_j W.w.kv o j i
   have hrn := raised_next W.w.kv o j i
   have hg1 := kRow_get (kv := raised W.w.kv o j i) ho hi11
   have hg2 := kRow_get (kv := raised W.w.kv o j i) hj hi11
   rw [hro] at hg1
   rw [hrj] at hg2
   have hset := kRow_set (kv := raised W.w.kv o j i) (maxV (W.w.kv o) (W.w.kv j) i) ho hi11
   rw [hrn] at hset
   have hoo : (1 : Int) + (o : Int) - 1 = (o : Nat) := by omega
   refine gL ?_
   refine H.Bu [0, 1, 2, 3, 4, 5, 6, 7, 8, 9, 10, 11, 12, 13, 14, 15, 16, 17, 18, 19, 20, 21, 22, 23, 24, 25, 26, 27, 28] (by kernel_rfl) (by decide +kernel) (by repeat (first | exact zab | refine zaa ?_ | refine zac ?_ | refine zae ?_)) (S := [_, _]) rfl ?_
   refine HB.Ag [(0, false), (1, false), (2, false), (3, false), (4, false), (5, false), (6, false), (7, false), (8, false), (9, false), (10, false), (11, false), (12, false), (13, false), (14, false), (15, false), (16, false), (17, false), (18, false), (19, false), (20, false), (21, false), (22, false), (23, false), (24, false), (25, false), (26, false), (27, false), (28, false)] 1 (by kernel_rfl) ?_
   refine gW ?_
   refine HQ.Ar (i := o) rfl rfl rfl hoo ho rfl ?_
   refine HQ.Aw (i := i) rfl rfl rfl rfl hi11 rfl ?_
   refine HQ.Af rfl rfl rfl (.at0 (Rd.ofRow (.there _ (.here _ _ _))) (by rw [Nat.zero_add, Nat.mul_one]; exact hg1)) rfl ?_
   refine gW ?_
   refine HQ.Ar (i := j) rfl rfl rfl rfl hj rfl ?_
   refine HQ.Aw (i := i) rfl rfl rfl rfl hi11 rfl ?_
   refine HQ.Af rfl rfl rfl (.at0 (Rd.ofRow (.there _ (.here _ _ _))) (by rw [Nat.zero_add, Nat.mul_one]; exact hg2)) rfl ?_
   refine HQ.max2 (z := maxV (W.w.kv o) (W.w.kv j) i) rfl rfl rfl rfl rfl ?_
   refine HQ.Ar (i := o) rfl rfl rfl hoo ho rfl ?_
   refine HQ.Aw (i := i) rfl rfl rfl rfl hi11 rfl ?_
   refine HQ.Ae rfl ?_
   refine HB.next [] (by kernel_rfl) (S' := []) rfl ?_
   refine HB.ev1 (i := 29) (by kernel_rfl) rfl ?_
   refine H.Bj (v := .int .u64 (maxV (W.w.kv o) (W.w.kv j) i)) (ls := kRow n (raised W.w.kv o j i)) (ls' := kRow n (raised W.w.kv o j (i + 1))) rfl rfl rfl rfl (.there _ (.here _ _ _)) (by rw [Nat.zero_add, Nat.mul_one]; exact hset) ?_
   refine gC ?_
   refine H.on0 rfl ?_
   refine HB.Al (by kernel_rfl) ?_
   refine gI ?_
   exact H.Am (i + 1) (by show i + 1 ≤ 11; omega) (by show 11 - (i + 1) < 11 - i; omega) ⟨rfl, rfl, rfl, rfl, rfl, trivial⟩ rfl rfl
  ·have e : i = 11 := by omega
   subst e
   rw [raised_end]
   repeat (first | (refine H.Bc (t := 47) (out := msgZ.vals none 0) rfl rfl rfl (by kernel_rfl) rfl ?_) | ((apply H.Aj); (iterate 3 exact rfl)) | (first | apply H.seq | apply H.Aq | apply H.nil | apply H.Ao) | ((apply H.cmp); (iterate 5 exact rfl)) | (apply H.Ci; exact rfl) | (first | apply H.Cb | apply H.exit | apply H.By | apply H.Cc))
   refine H.Ak (ls := msgZ.vals none 0) (vs := msgZ.vals none 0) (ls' := msgZ.vals none 0) rfl rfl rfl (zad rfl) rfl rfl (Nat.le_refl 121) (by repeat constructor) ?_
   refine gf ?_
   refine H.Ab (x := row xb _ _) (by repeat constructor) ?_
   refine H.Aa (x := row ob _ _) (by repeat constructor) ?_
   exact H.Ba (ls := msgZ.vals none 0) rfl rfl rfl (Rd.ofRow (.here _ _ _)) rfl (fun _ s => (s.drop (.here _ _)).imp (fun z hz => w15_up hfl z (w15_fold (W := { W with w := W.w.meet o j }) ⟨kb, lb, ap, ac, l⟩ ⟨hlm, hlg⟩ z hz))) ⟨nil0, _, Dj.nil _, rfl, (un_nil f).symm, rfl⟩
 | false =>
  refine gV ?_
  generalize hoe : x.who.toNat % n = o at *
  have ho11 : o < 11 := by omega
  have hoo : (1 : Int) + (o : Int) - 1 = (o : Nat) := by omega
  have ho1 : (1 : Int) + (o : Int) = ((o + 1 : Nat) : Int) := by omega
  have hact : W.act n x = if (W.next n o x).may = true then ⟨W.w.say o (W.next n o x).signed, (W.l.take (W.next n o x).signed).2⟩ else W := by
   unfold W15.act
   rw [if_neg (by rw [hmt]; decide), hoe]
  have hgk0 := kRow_get (kv := W.w.kv) ho ho11
  have hko := hkv o
  have hbody := fun G => body15_fn f G hfl (wb := wb) (kb := kb) (lb := lb) hW (by omega) (ap := ap) (m := l.length) (ac := ac) ho hx hq20
  refine H.Aa (x := logsH _ _ _) (by repeat constructor) ?_
  refine H.Aa (x := row kb _ _) (by repeat constructor) ?_
  refine H.Aa (x := row wb _ _) (by repeat constructor) ?_
  refine H.Aa (x := row xb _ _) (by repeat constructor) ?_
  refine H.cut (ι := Frag × Option Addr × Nat × Nat) (fun s => [(9, .pointer (some ⟨s.2.2.2, 0, none⟩)), (6, .int .i64 (1 + (o : Int))), (0, .pointer (some ⟨wb, 0, none⟩)), (4, .pointer (some ⟨ob, 0, none⟩))]) (fun s => un f s.1)
   (fun s => row xb 144 x.vals :: row s.2.2.2 47 ((W.next n o x).vals s.2.1 s.2.2.1) :: row ob 47 (msgZ.vals none 0) :: row wb 96 (w15C kb n ap l.length ac lb) :: row kb 37 (kRow n W.w.kv) :: logsH fl lb W.l :: slc ap l.length ac 47 121 (l.flatMap MV.vals) :: F)
   (fun s => QAt (un f s.1) s.2.1 (W.next n o x).body.q ∧ Dj f s.1) _ (fun s hs => ?_) ?_
  ·obtain ⟨g, qp, qc, mb⟩ := s
   obtain ⟨hqat, hd⟩ : QAt (un f g) qp (W.next n o x).body.q ∧ Dj f g := hs
   have hle2 := Le.un f g
   have hql := (x.bod_q hW (by omega) (o := o)).1
   have hgood : (⟨W.next n o x, qp, qc⟩ : MV).Good (un f g) := ⟨hqat, by show (x.bod W n o).q.length ≤ _; omega, A15.bod_ok hW (by omega) ho x⟩
   have hmsg := good_signed hgood
   have hmay := fun H => rmmay_fn (un f g) H hgood
   have hsg := fun H => rtagged_fn (un f g) H (m := W.next n o x) (q := qp) (qc := qc) hgood.1 (by show (x.bod W n o).q.length ≤ _; omega)
   show H _ _ _ [_, _, _, _] (un f g) (_ :: row mb _ ((W.next n o x).vals qp qc) :: _ :: _ :: _ :: _ :: _ :: F) _
   refine gC ?_
   refine H.Ah (ls := (W.next n o x).vals qp qc) rfl rfl rfl (Rd.ofRow (.there _ (.here _ _ _))) rfl rfl ?_
   refine H.Ad rfl rfl rfl (hmay _) ?_
   refine H.not (b := _) (c := _) rfl rfl rfl rfl ?_
   cases hmy : (W.next n o x).may with
   | false =>
    rw [hact, if_neg (by rw [hmy]; decide)]
    repeat (first | (refine H.Bc (t := 47) (out := msgZ.vals none 0) rfl rfl rfl (by kernel_rfl) rfl ?_) | (first | apply H.seq | apply H.Aq | apply H.nil | apply H.Ao) | (apply H.Cl; exact rfl))
    refine H.Ak (ls := msgZ.vals none 0) (vs := msgZ.vals none 0) (ls' := msgZ.vals none 0) rfl rfl rfl (zad rfl) rfl rfl (Nat.le_refl 121) (by repeat constructor) ?_
    refine gf ?_
    refine H.Ab (x := row xb _ _) (by repeat constructor) ?_
    refine H.Ab (x := row mb _ _) (by repeat constructor) ?_
    refine H.Aa (x := slc ap _ ac _ _ _) (by repeat constructor) ?_
    refine H.Aa (x := row kb _ _) (by repeat constructor) ?_
    refine H.Aa (x := row wb _ _) (by repeat constructor) ?_
    refine H.Aa (x := row ob _ _) (by repeat constructor) ?_
    exact H.Ba (ls := msgZ.vals none 0) rfl rfl rfl (Rd.ofRow (.here _ _ _)) rfl (fun _ s => (s.drop (.here _ _)).imp (fun z hz => w15_up (hfl.trans hle2) z (w15_fold ⟨kb, lb, ap, ac, l⟩ ⟨hlm, hlg⟩ z hz))) ⟨g, _, hd, rfl, rfl, rfl⟩
   | true =>
    rw [hact, if_pos hmy]
    generalize hms : (W.next n o x).signed = ms at *
    have htake := fun H => take_fn (un f g) H (hfl.trans hle2) (lb := lb) hW.l (by omega) (x := ⟨ms, qp, qc⟩) hmsg
    refine gV ?_
    refine H.Ah (ls := (W.next n o x).vals qp qc) rfl rfl rfl (Rd.ofRow (.there _ (.here _ _ _))) rfl rfl ?_
    refine H.Ad rfl rfl rfl (hsg _) ?_
    refine H.Ak (ls := (W.next n o x).vals qp qc) (vs := ms.vals qp qc) (ls' := ms.vals qp qc) rfl rfl rfl (zad rfl) rfl rfl (Nat.le_refl 121) (.there _ (.here _ _ _)) ?_
    refine gC ?_
    refine H.Aa (x := row wb _ _) (by repeat constructor) ?_
    refine H.Aa (x := row mb _ _) (by repeat constructor) ?_
    refine H.Az (by kernel_rfl) (by decide +kernel) (by repeat (first | exact zab | refine zaa ?_ | refine zac ?_ | refine zae ?_)) (S := [_, _]) rfl ?_
    refine HB.Ag [(0, false), (1, false), (2, false), (3, false), (4, false)] 1 (by kernel_rfl) ?_
    refine gW ?_
    refine HQ.Ah (ls := ms.vals qp qc) rfl rfl rfl (Rd.ofRow (.here _ _ _)) rfl rfl ?_
    refine HQ.Ae rfl ?_
    refine HB.ev1 (i := 5) (by kernel_rfl) rfl ?_
    refine H.Aa (x := logsH _ _ _) (by repeat constructor) ?_
    refine H.Bo rfl rfl rfl (htake _) fun v f' A' hr => ?_
    obtain ⟨g2, hd2, rfl, rfl, rfl⟩ := hr
    refine gC ?_
    refine H.Aa (x := row wb _ _) (by repeat constructor) ?_
    refine H.Aa (x := row mb _ _) (by repeat constructor) ?_
    refine H.on [] (Le.un _ g2) rfl ?_
    refine HB.Al (by kernel_rfl) ?_
    refine gC ?_
    refine H.Bu [0, 1, 2, 3, 4, 5, 6, 7] (by kernel_rfl) (by decide +kernel) (by repeat (first | exact zab | refine zaa ?_ | refine zac ?_ | refine zae ?_)) (S := [_, _]) rfl ?_
    refine HB.Ag [(0, false), (1, false), (2, false), (3, false), (4, false), (5, false)] 5 (by kernel_rfl) ?_
    refine gW ?_
    refine HQ.Ah (ls := ms.vals qp qc) rfl rfl rfl (Rd.ofRow (.here _ _ _)) rfl rfl ?_
    refine HQ.Ae rfl ?_
    refine HB.ev1 (i := 6) (by kernel_rfl) rfl ?_
    refine H.Bb (out := ms.vals qp qc) rfl rfl rfl rfl (by decide) (by decide) rfl rfl fun eb => ?_
    refine gC ?_
    refine H.Aa (x := row wb _ _) (by repeat constructor) ?_
    refine H.Aa (x := row mb _ _) (by repeat constructor) ?_
    refine H.on0 rfl ?_
    refine HB.ev1 (i := 7) (by kernel_rfl) rfl ?_
    refine H.Bd (sz := 121) (p := ap) (n0 := l.length) (c := ac) (xs := l.flatMap MV.vals) (m := 1) (news := ms.vals qp qc) rfl rfl rfl rfl rfl (fun p' c' => (by repeat constructor)) (Src.slice (Rd.ofRow (by repeat constructor)) rfl) (zad rfl) rfl (by omega) (by omega) fun ap2 ac2 => ?_
    refine gC ?_
    refine H.Ab (x := row eb _ _) (by repeat constructor) ?_
    refine H.on0 rfl ?_
    refine HB.next [] (by kernel_rfl) (S' := []) rfl ?_
    refine HB.Ag [(8, false), (9, false)] 1 (by kernel_rfl) ?_
    refine gW ?_
    refine HQ.Ae rfl ?_
    refine HB.ev1 (i := 10) (by kernel_rfl) rfl ?_
    refine H.Bj (ls := w15C kb n ap l.length ac lb) (ls' := w15C kb n ap2 (l.length + 1) ac2 lb) rfl rfl rfl rfl (.there _ (.here _ _ _)) (.there _ (.here _ _ _)) ?_
    refine gC ?_
    refine H.on0 rfl ?_
    refine HB.Al (by kernel_rfl) ?_
    refine gC ?_
    have hset := kRow_set (kv := W.w.kv) (W.w.kv o o + 1) ho ho11
    refine H.Aa (x := row kb _ _) (by repeat constructor) ?_
    refine H.Aa (x := row wb _ _) (by repeat constructor) ?_
    refine H.Bu [0, 1, 2, 3, 4, 5, 6, 7, 8, 9, 10, 11, 12, 13] (by kernel_rfl) (by decide +kernel) (by repeat (first | exact zab | refine zaa ?_ | refine zac ?_ | refine zae ?_)) (S := [_, _]) rfl ?_
    refine HB.Ag [(0, false), (1, false), (2, false), (3, false), (4, false), (5, false), (6, false), (7, false), (8, false), (9, false), (10, false), (11, false), (12, false), (13, false)] 1 (by kernel_rfl) ?_
    refine gW ?_
    refine HQ.Ar (i := o) rfl rfl rfl hoo ho rfl ?_
    refine HQ.Aw (i := o) rfl rfl rfl hoo ho11 rfl ?_
    refine HQ.Af rfl rfl rfl (.at0 (Rd.ofRow (.there _ (.here _ _ _))) (by rw [Nat.zero_add, Nat.mul_one]; exact hgk0)) rfl ?_
    refine gS ?_
    refine HQ.Ar (i := o) rfl rfl rfl hoo ho rfl ?_
    refine HQ.Aw (i := o) rfl rfl rfl hoo ho11 rfl ?_
    refine HQ.Ae rfl ?_
    refine HB.next [] (by kernel_rfl) (S' := []) rfl ?_
    refine HB.ev1 (i := 14) (by kernel_rfl) rfl ?_
    refine H.Bj (v := .int .u64 (W.w.kv o o + 1)) (ls := kRow n W.w.kv) (ls' := kRow n (W.w.say o ms).kv) rfl rfl rfl rfl (.there _ (.here _ _ _)) (by rw [Nat.zero_add, Nat.mul_one]; exact hset) ?_
    refine gC ?_
    refine H.on0 rfl ?_
    refine HB.Al (by kernel_rfl) ?_
    refine gC ?_
    refine H.Aa (x := row mb _ _) (by repeat constructor) ?_
    refine H.Ah (ls := ms.vals qp qc) rfl rfl rfl (Rd.ofRow (.here _ _ _)) rfl rfl ?_
    refine H.Ak (ls := msgZ.vals none 0) (vs := ms.vals qp qc) (ls' := ms.vals qp qc) rfl rfl rfl (zad rfl) rfl rfl (Nat.le_refl 121) (by repeat constructor) ?_
    refine gf ?_
    refine H.Ab (x := row xb _ _) (by repeat constructor) ?_
    refine H.Ab (x := row mb _ _) (by repeat constructor) ?_
    refine H.Aa (x := logsH _ _ _) (by repeat constructor) ?_
    refine H.Aa (x := slc ap2 _ ac2 _ _ _) (by repeat constructor) ?_
    refine H.Aa (x := row kb _ _) (by repeat constructor) ?_
    refine H.Aa (x := row wb _ _) (by repeat constructor) ?_
    refine H.Aa (x := row ob _ _) (by repeat constructor) ?_
    have hle3 := Le.un (un f g) g2
    have hφ : w15φ (un (un f g) g2) ⟨W.w.say o ms, (W.l.take ms).2⟩ ⟨kb, lb, ap2, ac2, l ++ [⟨ms, qp, qc⟩]⟩ := by
     refine ⟨?_, fun y hy => ?_⟩
     ·show (l ++ [(⟨ms, qp, qc⟩ : MV)]).map MV.m = W.w.all ++ [ms]
      rw [List.map_append, hlm]
      rfl
     ·rcases List.mem_append.1 hy with h | h
      ·exact (hlg y h).mono ((hfl.trans hle2).trans hle3)
      ·rw [List.mem_singleton.1 h]; exact hmsg.mono hle3
    have hsl : slc ap2 (l.length + 1) ac2 47 121 (l.flatMap MV.vals ++ ms.vals qp qc) = slc ap2 (l ++ [(⟨ms, qp, qc⟩ : MV)]).length ac2 47 121 ((l ++ [(⟨ms, qp, qc⟩ : MV)]).flatMap MV.vals) := slc_snoc (y := (⟨ms, qp, qc⟩ : MV))
    have hfold := w15_fold (F := F) (wb := wb) (n := n) _ hφ
    exact H.Ba (ls := ms.vals qp qc) rfl rfl rfl (Rd.ofRow (.here _ _ _)) rfl (fun _ s => (s.drop (.here _ _)).imp (fun z hz => hfold z (by
     rw [hsl] at hz
     show stars (row wb _ (w15C kb n ap2 (l ++ [(⟨ms, qp, qc⟩ : MV)]).length ac2 lb) :: _) z
     rw [List.length_append]
     rw [List.length_append] at hz
     exact hz))) ⟨un g g2, _, Dj.un3' hd hd2, rfl, un_assoc _ _ _, rfl⟩
  ·refine H.Az (by kernel_rfl) (by decide +kernel) (by repeat (first | exact zab | refine zaa ?_ | refine zac ?_ | refine zae ?_)) (S := [_, _, _]) rfl ?_
   refine HB.Ag [(0, false), (1, false), (2, false), (3, false), (4, false), (5, false), (6, false), (7, false), (8, false), (9, false), (10, false), (11, false), (12, false), (13, false), (14, false), (15, false), (16, false), (17, false), (18, false), (19, false), (20, false), (21, false), (22, false), (23, false)] 4 (by kernel_rfl) ?_
   refine gW ?_
   refine HQ.Ar (i := o) rfl rfl rfl hoo ho rfl ?_
   refine HQ.Aw (i := o) rfl rfl rfl hoo ho11 rfl ?_
   refine HQ.Af rfl rfl rfl (.at0 (Rd.ofRow (.there _ (.there _ (.here _ _ _)))) (by rw [Nat.zero_add, Nat.mul_one]; exact hgk0)) rfl ?_
   refine gW ?_
   refine HQ.Ar (i := o) rfl rfl rfl hoo ho rfl ?_
   refine HQ.Ah (ls := v11 (W.w.kv o)) rfl rfl rfl (by rw [Nat.zero_add]; exact Rd.kRow (Rd.ofRow (.there _ (.there _ (.here _ _ _)))) ho) rfl rfl ?_
   refine gD ?_
   refine HQ.Ah (ls := x.vals) rfl rfl rfl (Rd.ofRow (.here _ _ _)) rfl rfl ?_
   refine HQ.Ae rfl ?_
   refine HB.ev2 (i := 24) (j := 26) (by kernel_rfl) rfl rfl ?_ ?_
   ·refine H.Aa (x := row kb _ _) (by repeat constructor) ?_
    refine H.Aa (x := row wb _ _) (by repeat constructor) ?_
    refine H.Aa (x := logsH _ _ _) (by repeat constructor) ?_
    rw [ho1]
    refine H.Bo rfl rfl rfl (hbody _) fun v f' A' hr => ?_
    obtain ⟨g, qp, qc, rfl, hqat, hd, rfl, rfl⟩ := hr
    refine gC ?_
    refine H.Aa (x := row kb _ _) (by repeat constructor) ?_
    refine H.Aa (x := row wb _ _) (by repeat constructor) ?_
    refine H.Aa (x := row xb _ _) (by repeat constructor) ?_
    refine H.on [] (Le.un _ g) rfl ?_
    refine HB.Ag [(25, false)] 2 (by kernel_rfl) ?_
    refine HQ.Bc (t := 47) (out := (W.next n o x).vals qp qc) rfl rfl rfl (by kernel_rfl) rfl ?_
    refine HQ.Ae rfl ?_
    refine HB.ev1 (i := 26) (by kernel_rfl) rfl ?_
    refine H.Au (ls := msgZ.vals none 0) rfl rfl rfl fun mb => ?_
    refine gC ?_
    refine H.Aa (x := row kb _ _) (by repeat constructor) ?_
    refine H.Aa (x := row wb _ _) (by repeat constructor) ?_
    refine H.Aa (x := row xb _ _) (by repeat constructor) ?_
    refine H.on0 rfl ?_
    refine HB.ev1 (i := 27) (by kernel_rfl) rfl ?_
    refine H.Ak (ls := msgZ.vals none 0) (vs := (W.next n o x).vals qp qc) (ls' := (W.next n o x).vals qp qc) rfl rfl rfl (zad rfl) rfl rfl (Nat.le_refl 121) (by repeat constructor) ?_
    refine gC ?_
    refine H.on0 rfl ?_
    refine HB.Al (by kernel_rfl) ?_
    refine H.Aa (x := slc ap _ ac _ _ _) (by repeat constructor) ?_
    refine H.Aa (x := logsH _ _ _) (by repeat constructor) ?_
    refine H.Aa (x := row kb _ _) (by repeat constructor) ?_
    refine H.Aa (x := row wb _ _) (by repeat constructor) ?_
    refine H.Aa (x := row ob _ _) (by repeat constructor) ?_
    refine H.Aa (x := row mb _ _) (by repeat constructor) ?_
    refine H.Aa (x := row xb _ _) (by repeat constructor) ?_
    exact H.meet (g, qp, qc, mb) ⟨hqat, hd⟩ ⟨rfl, rfl, rfl, rfl, trivial⟩ rfl rfl
   ·refine H.Au (ls := msgZ.vals none 0) rfl rfl rfl fun mb => ?_
    refine gC ?_
    refine H.Aa (x := row kb _ _) (by repeat constructor) ?_
    refine H.Aa (x := row wb _ _) (by repeat constructor) ?_
    refine H.Aa (x := row xb _ _) (by repeat constructor) ?_
    refine H.on0 rfl ?_
    refine HB.ev1 (i := 24) (by kernel_rfl) rfl ?_
    refine H.Aa (x := row kb _ _) (by repeat constructor) ?_
    refine H.Aa (x := row wb _ _) (by repeat constructor) ?_
    refine H.Aa (x := logsH _ _ _) (by repeat constructor) ?_
    rw [ho1]
    refine H.Bo rfl rfl rfl (hbody _) fun v f' A' hr => ?_
    obtain ⟨g, qp, qc, rfl, hqat, hd, rfl, rfl⟩ := hr
    refine gC ?_
    refine H.Aa (x := row kb _ _) (by repeat constructor) ?_
    refine H.Aa (x := row wb _ _) (by repeat constructor) ?_
    refine H.Aa (x := row xb _ _) (by repeat constructor) ?_
    refine H.on [] (Le.un _ g) rfl ?_
    refine HB.Ag [(25, false)] 1 (by kernel_rfl) ?_
    refine HQ.Bc (t := 47) (out := (W.next n o x).vals qp qc) rfl rfl rfl (by kernel_rfl) rfl ?_
    refine HQ.Ae rfl ?_
    refine HB.ev1 (i := 27) (by kernel_rfl) rfl ?_
    refine H.Ak (ls := msgZ.vals none 0) (vs := (W.next n o x).vals qp qc) (ls' := (W.next n o x).vals qp qc) rfl rfl rfl (zad rfl) rfl rfl (Nat.le_refl 121) (by repeat constructor) ?_
    refine gC ?_
    refine H.on0 rfl ?_
    refine HB.Al (by kernel_rfl) ?_
    refine H.Aa (x := slc ap _ ac _ _ _) (by repeat constructor) ?_
    refine H.Aa (x := logsH _ _ _) (by repeat constructor) ?_
    refine H.Aa (x := row kb _ _) (by repeat constructor) ?_
    refine H.Aa (x := row wb _ _) (by repeat constructor) ?_
    refine H.Aa (x := row ob _ _) (by repeat constructor) ?_
    refine H.Aa (x := row mb _ _) (by repeat constructor) ?_
    refine H.Aa (x := row xb _ _) (by repeat constructor) ?_
    exact H.meet (g, qp, qc, mb) ⟨hqat, hd⟩ ⟨rfl, rfl, rfl, rfl, trivial⟩ rfl rfl
end
def few15 (l : List A15) : Bool := decide (l.length ≤ 100) && l.all fun x => decide (x.q.length ≤ 20)
theorem few15_all {l : List A15} (h : few15 l = true) : l.length ≤ 100 ∧ ∀ x ∈ l, x.q.length ≤ 20 := by
 unfold few15 at h
 simp only [Bool.and_eq_true, decide_eq_true_eq, List.all_eq_true] at h
 exact h
theorem A15.Has.mono {f g : Frag} (h : Le f g) {x : A15} (hx : x.Has f) : x.Has g := by
 rcases hx with e | ⟨b, off, cs, T, fr, h1, h2, h3⟩
 ·exact .inl e
 ·exact .inr ⟨b, off, cs, T, fr, h1, h _ _ h2, h3⟩
def Acts15P (f : Frag) (F : List HP) (n : Nat) (W : W15) : Value → Frag → List HP → Prop := fun v f' A' => ∃ (g : Frag) (wb : Nat), v = .pointer (some ⟨wb, 0, none⟩) ∧ Dj f g ∧ f' = un f g ∧ A' = wH15 f' wb n W :: F
section
variable (f : Frag) (F : List HP)
theorem odd15_fn (n8 : UInt8) : Fn Tryz.prog 73 [.int .u8 (n8.toNat : Nat)] f F (Ret (.int .i64 ((3 + 2 * (n8.toNat % 5) : Nat) : Int)) f F) := by
 have h := n8.toNat_lt
 have hm : ((n8.toNat % 5 : Nat) : Int) ≤ 4 := by omega
 refine Fn.enter Tryz.func73 rfl Tryz.ntmps73 rfl (L := [(0, _)]) ⟨rfl, trivial⟩ fun base => ?_
 refine gO ?_
 refine H.rem (z := ((n8.toNat % 5 : Nat) : Int)) rfl rfl rfl (by decide) (zak (b := 5) rfl) rfl ?_
 refine gI ?_
 refine H.Ac rfl rfl (fun _ h => h) ⟨?_, rfl, rfl⟩
 congr 1
theorem few15_fn {p : Option Addr} {c : Nat} {l : List A15} (hat : ListAt f p 12 A15.vals l) (hl : l.length ≤ 9223372036854775807) : Fn Tryz.prog 42 [.slice p l.length c] f F (Ret (.bool (few15 l)) f F) := by
 by_cases h30 : l.length ≤ 100
 ·refine Fn.enter Tryz.func42 rfl Tryz.ntmps42 rfl (L := [(0, _)]) ⟨rfl, trivial⟩ fun base => ?_
  refine gH ?_
  refine H.Ax (ι := Nat) (fun i => [(3, .int .i64 (i : Int)), (0, .slice p l.length c)]) (fun _ => f) (fun _ => F) (fun i => i ≤ l.length ∧ ∀ j x, j < i → l[j]? = some x → x.q.length ≤ 20) (fun i => l.length - i) 0 ⟨Nat.zero_le _, fun j x hj => by omega⟩ ⟨rfl, rfl, trivial⟩ rfl rfl fun i hi => ?_
  obtain ⟨hi, hb⟩ : i ≤ l.length ∧ ∀ j x, j < i → l[j]? = some x → x.q.length ≤ 20 := hi
  by_cases hlt : i < l.length
  ·have hx : l[i]? = some l[i] := List.getElem?_eq_getElem hlt
   generalize l[i] = x at hx
   obtain ⟨b, off, cs, T, fr, rfl, hfb, hcs⟩ := hat i x hx
   have rd : ∀ A, Rd f A b (off + i * 12) x.vals := fun A => Rd.imm hfb hcs
   refine gL ?_
   refine H.Ar rfl rfl rfl rfl hlt rfl ?_
   refine gP ?_
   refine H.Af rfl rfl rfl (Rd1.of (i := 10) (rd _) rfl) rfl ?_
   refine gH ?_
   by_cases hq : x.q.length ≤ 20
   ·skip
    refine gT ?_
    refine H.Am (i + 1) ⟨by show i + 1 ≤ l.length; omega, fun j y hj hy => ?_⟩ (by show l.length - (i + 1) < l.length - i; omega) ⟨rfl, rfl, trivial⟩ rfl rfl
    by_cases e : j = i
    ·subst e; rw [hx] at hy; cases hy; exact hq
    ·exact hb j y (by omega) hy
   ·skip
    refine gL ?_
    refine H.Ac rfl rfl (fun _ h => h) ⟨?_, rfl, rfl⟩
    have : few15 l = false := by
     unfold few15
     rw [Bool.and_eq_false_iff]
     exact .inr (List.all_eq_false.2 ⟨x, List.mem_of_getElem? hx, by rw [decide_eq_false hq]; decide⟩)
    rw [this]
  ·refine gH ?_
   refine H.Ac rfl rfl (fun _ h => h) ⟨?_, rfl, rfl⟩
   have : few15 l = true := by
    unfold few15
    rw [decide_eq_true h30, Bool.true_and, List.all_eq_true]
    intro x hx
    obtain ⟨j, hj⟩ := List.getElem?_of_mem hx
    have hjl := (List.getElem?_eq_some_iff.1 hj).1
    exact decide_eq_true (hb j x (by omega) hj)
   rw [this]
 ·refine Fn.enter Tryz.func42 rfl Tryz.ntmps42 rfl (L := [(0, _)]) ⟨rfl, trivial⟩ fun base => ?_
  refine gL ?_
  refine H.Ac rfl rfl (fun _ h => h) ⟨?_, rfl, rfl⟩
  have : few15 l = false := by unfold few15; rw [decide_eq_false h30]; rfl
  rw [this]
theorem nworld_fn {n : Nat} (h : fewZ (n : Int)) : Fn Tryz.prog 72 [.int .i64 (n : Int)] f F (Acts15P f F n (W15.zero n)) := by
 have hn : n ≤ 11 := by have := h.2.1; omega
 refine Fn.enter Tryz.func72 rfl Tryz.ntmps72 rfl (L := [(0, _)]) ⟨rfl, trivial⟩ fun base => ?_
 refine gO ?_
 refine H.Bo rfl rfl rfl (lgnew_fn f _ h) fun v f' A' hr => ?_
 obtain ⟨g, lb, hd, rfl, rfl, rfl⟩ := hr
 refine gc ?_
 refine H.makeS (m := n) (zs := v11 fun _ => 0) rfl rfl rfl rfl rfl rfl rfl (by decide) (by omega) (by omega) rfl fun kb => ?_
 rw [kRow_zero]
 repeat (first | (refine H.Bc (t := 96) (out := w15C kb n none 0 0 lb) rfl rfl rfl (by kernel_rfl) rfl ?_) | ((apply H.Aj); (iterate 3 exact rfl)))
 refine H.box (ls := w15C kb n none 0 0 lb) rfl rfl rfl rfl fun wb => ?_
 refine gf ?_
 refine H.Aa (x := logsH _ _ _) (by repeat constructor) ?_
 refine H.slc0 47 121 ?_
 refine H.Aa (x := row kb _ _) (by repeat constructor) ?_
 refine H.Aa (x := row wb _ _) (by repeat constructor) ?_
 refine H.imp (w15_fold (e := un f g) (n := n) (W := W15.zero n) ⟨kb, lb, none, 0, []⟩ ⟨rfl, fun y hy => by cases hy⟩) ?_
 exact H.Ac rfl rfl (fun _ h => h) ⟨g, wb, rfl, hd, rfl, rfl⟩
set_option maxHeartbeats 1600000 in
theorem acts15_fn {n8 : UInt8} {n : Nat} (hn8 : n = 3 + 2 * (n8.toNat % 5)) {p : Option Addr} {c : Nat} {xs : List A15} (hat : ListAt f p 12 A15.vals xs) (hh : ∀ x ∈ xs, x.Has f ∧ x.q.length ≤ 20) (hl : xs.length ≤ 100) :
  Fn Tryz.prog 44 [.int .u8 (n8.toNat : Nat), .slice p xs.length c] f F (Acts15P f F n (world15 n xs)) := by
 have hn3 : 3 ≤ n ∧ n ≤ 11 := by omega
 have hodd := fun G => odd15_fn f G n8
 rw [← hn8] at hodd
 have hfz : fewZ (n : Int) := ⟨by omega, by omega, by
  rw [show (2 : Int) = ((2 : Nat) : Int) from rfl, zak (a := n) (b := 2) (r := 1) (by omega)]; rfl⟩
 refine Fn.enter Tryz.func44 rfl Tryz.ntmps44 rfl (L := [(0, _), (1, _)]) ⟨rfl, rfl, trivial⟩ fun base => ?_
 refine gO ?_
 refine H.Ad rfl rfl rfl (hodd _) ?_
 refine H.Bo rfl rfl rfl (nworld_fn f _ hfz) fun v f' A' hr => ?_
 obtain ⟨g0, wb, rfl, hd0, rfl, rfl⟩ := hr
 refine gf ?_
 refine H.Ax (ι := Nat × Frag) (fun s => [(6, .int .i64 (s.1 : Int)), (1, .slice p xs.length c), (5, .pointer (some ⟨wb, 0, none⟩))]) (fun s => un f s.2)
  (fun s => wH15 (un f s.2) wb n (world15 n (xs.take s.1)) :: F)
  (fun s => s.1 ≤ xs.length ∧ Dj f s.2) (fun s => xs.length - s.1) (0, g0) ⟨Nat.zero_le _, hd0⟩ ⟨rfl, rfl, rfl, trivial⟩ rfl rfl fun s hs => ?_
 obtain ⟨k, G⟩ := s
 obtain ⟨hk, hdj⟩ : k ≤ xs.length ∧ Dj f G := hs
 show H _ _ _ [(6, .int .i64 (k : Int)), _, _] (un f G) (wH15 (un f G) wb n (world15 n (xs.take k)) :: F) _
 by_cases hlt : k < xs.length
 ·obtain ⟨x, hx⟩ : ∃ x, xs[k]? = some x := ⟨_, List.getElem?_eq_getElem hlt⟩
  have hnext : world15 n (xs.take (k + 1)) = (world15 n (xs.take k)).act n x := by rw [zbm hx, world15_snoc]
  obtain ⟨hxa, hxq⟩ := hh x (List.mem_of_getElem? hx)
  obtain ⟨b, off, cs, T, fr, rfl, hfb, hcs⟩ := hat k x hx
  have rd : ∀ A, Rd (un f G) A b (off + k * 12) x.vals := fun A => Rd.imm (Le.un f G b _ hfb) hcs
  have hinv := world15_inv hn3.1 hn3.2 xs k (by omega)
  have hwl := world15_len n xs k
  refine gL ?_
  refine H.Ar (i := k) rfl rfl rfl rfl hlt rfl ?_
  refine H.Ah (ls := x.vals) rfl rfl rfl (rd _) rfl rfl ?_
  refine H.Bo rfl rfl rfl (do_fn (un f G) _ (Le.refl _) hn3 hinv (by omega) (by omega) (hxa.mono (Le.un f G)) hxq) fun v f' A' hr => ?_
  obtain ⟨g, u, hd, rfl, rfl, rfl⟩ := hr
  refine gI ?_
  refine H.Am (k + 1, un G g) ⟨by show k + 1 ≤ xs.length; omega, Dj.un3' hdj hd⟩ (by show xs.length - (k + 1) < xs.length - k; omega) ⟨rfl, rfl, rfl, trivial⟩ (un_assoc _ _ _) ?_
  show wH15 (un (un f G) g) wb n _ :: F = wH15 (un f (un G g)) wb n (world15 n (xs.take (k + 1))) :: F
  rw [hnext, un_assoc]
 ·have e : k = xs.length := by omega
  subst e
  rw [List.take_length]
  refine gH ?_
  exact H.Ac rfl rfl (fun _ h => h) ⟨G, wb, rfl, hdj, rfl, rfl⟩
end
theorem H.world15 {P : Program} {base : World} {m : Nat} {L : Env} {f : Frag} {A : List HP} {K : Kont} {wb n : Nat} {W : W15}
  (h : ∀ g kb ap ac lb (l : List MV), Dj f g → WAt (un f g) n W.w kb ap l → H P base m L (un f g) (row wb 96 (w15C kb n ap l.length ac lb) :: A) K) : H P base m L f (wH15 f wb n W :: A) K := by
 refine H.unpack fun i hi => ?_
 obtain ⟨kb, lb, ap, ac, l⟩ := i
 show H P base m L f (row wb 96 (w15C kb n ap l.length ac lb) :: row kb 37 (kRow n W.w.kv) :: slc ap l.length ac 47 121 (l.flatMap MV.vals) :: logsH f lb W.l :: A) K
 refine H.freeze (.there _ (.here _ _)) fun g1 hg1 hd1 => ?_
 refine H.freeze (.there _ (.here _ _)) fun g2 hg2 hd2 => ?_
 refine H.Ab (.there _ (.here _ _)) ?_
 have hd3 : Dj f (un g1 g2) := Dj.un3' hd1 hd2
 rw [un_assoc]
 have hle : Le f (un f (un g1 g2)) := Le.un _ _
 have h1 : KAt (un f (un g1 g2)) kb n W.w.kv := by rw [← un_assoc]; exact (KAt.of hg1 hd1).mono (Le.un _ g2)
 have h2 : ListAt (un f (un g1 g2)) ap 121 MV.vals l := by rw [← un_assoc]; exact (zbl MV.len hg2).mono (Le.right hd2)
 exact h (un g1 g2) kb ap ac lb l hd3 ⟨h1, h2, fun y hy => (hi.2 y hy).mono hle, hi.1⟩
section
variable (f : Frag) (F : List HP)
end
end Go.Proofs.YtoigpgdmignaoaaGreatDoor

namespace Go.Proofs.YtoigpgdmignaoaaGreatDoor
open Go Go.ChangeShapes Go.WideShapes Go.RowKit Go.Deep
theorem Reads.bool {P : Program} {W : World} {t : TypeId} {cs : List Value} (ht : P.underlying t = some .bool) (h : Reads P W t cs) : ∃ b, cs = [.bool b] := by
 obtain ⟨H', enc, b, sp, hd, n, x, h⟩ := h
 obtain ⟨z, h1, _⟩ := DataW.trod_bool ht h
 exact ⟨z, h1⟩
theorem Reads.u8 {W : World} {cs : List Value} (h : Reads Tryz.prog W 5 cs) : ∃ x : UInt8, cs = [.int .u8 (x.toNat : Nat)] := by
 obtain ⟨x, _, e⟩ := reads_byte h
 exact ⟨x, e⟩
theorem ArgOk.u8 {W : World} {v : Value} (h : ArgOk Tryz.prog W 5 v) : ∃ x : UInt8, v = .int .u8 (x.toNat : Nat) := by
 obtain ⟨z, rfl, hz⟩ := h.int Tryz.underlying5
 exact ⟨UInt8.ofNat z.toNat, by rw [u8_back hz]⟩
theorem AllReads.cons {P : Program} {W : World} {t : TypeId} {ts : List TypeId} {ps : List (List Value)} (h : AllReads P W (t :: ts) ps) : ∃ p q, ps = p :: q ∧ Reads P W t p ∧ AllReads P W ts q := by
 cases ps with
 | nil => exact h.elim
 | cons p q => exact ⟨p, q, rfl, h.1, h.2⟩
theorem AllReads.nil {P : Program} {W : World} {ps : List (List Value)} (h : AllReads P W [] ps) : ps = [] := by
 cases ps with
 | nil => rfl
 | cons p q => exact h.elim
theorem reads_a15 {W : World} {cs : List Value} (h : Reads Tryz.prog W 144 cs) : ∃ x : A15, x.Has (memOf W) ∧ cs = x.vals := by
 obtain ⟨ps, rfl, hh⟩ := h.parts Tryz.underlying144 (by kernel_rfl)
 have h : AllReads Tryz.prog W [5, 5, 4, 4, 5, 5, 5, 5, 5, 5, 55, 4] ps := hh
 obtain ⟨p0, q0, rfl, r0, h⟩ := h.cons
 obtain ⟨p1, q1, rfl, r1, h⟩ := h.cons
 obtain ⟨p2, q2, rfl, r2, h⟩ := h.cons
 obtain ⟨p3, q3, rfl, r3, h⟩ := h.cons
 obtain ⟨p4, q4, rfl, r4, h⟩ := h.cons
 obtain ⟨p5, q5, rfl, r5, h⟩ := h.cons
 obtain ⟨p6, q6, rfl, r6, h⟩ := h.cons
 obtain ⟨p7, q7, rfl, r7, h⟩ := h.cons
 obtain ⟨p8, q8, rfl, r8, h⟩ := h.cons
 obtain ⟨p9, q9, rfl, r9, h⟩ := h.cons
 obtain ⟨p10, q10, rfl, r10, h⟩ := h.cons
 obtain ⟨p11, q11, rfl, r11, h⟩ := h.cons
 obtain rfl := h.nil
 obtain ⟨z0, rfl⟩ := r0.u8
 obtain ⟨z1, rfl⟩ := r1.u8
 obtain ⟨z2, rfl⟩ := r2.bool Tryz.underlying4
 obtain ⟨z3, rfl⟩ := r3.bool Tryz.underlying4
 obtain ⟨z4, rfl⟩ := r4.u8
 obtain ⟨z5, rfl⟩ := r5.u8
 obtain ⟨z6, rfl⟩ := r6.u8
 obtain ⟨z7, rfl⟩ := r7.u8
 obtain ⟨z8, rfl⟩ := r8.u8
 obtain ⟨z9, rfl⟩ := r9.u8
 obtain ⟨p, c, xs, rfl, _, _, _, hat⟩ := r10.list (sz := 1) Tryz.underlying55 (by kernel_rfl) (by decide) fun cs => reads_byte
 obtain ⟨z11, rfl⟩ := r11.bool Tryz.underlying4
 exact ⟨⟨z0, z1, z2, z3, z4, z5, z6, z7, z8, z9, xs, z11, p, c⟩, listAt_bat hat, rfl⟩
theorem ArgOk.acts15 {W : World} {v : Value} (h : ArgOk Tryz.prog W 86 v) : ∃ (p : Option Addr) (c : Nat) (xs : List A15), v = .slice p xs.length c ∧ xs.length ≤ 9223372036854775807 ∧ (∀ x ∈ xs, x.Has (memOf W)) ∧ ListAt (memOf W) p 12 A15.vals xs := by
  obtain ⟨p, c, xs, rfl, h1, h2, hq, hat⟩ := h.list (sz := 12) Tryz.underlying86 (by kernel_rfl) (by decide) fun cs => reads_a15
  exact ⟨p, c, xs, rfl, by have : maxLen ≤ 9223372036854775807 := by decide
                           omega, hq, hat⟩
end Go.Proofs.YtoigpgdmignaoaaGreatDoor
