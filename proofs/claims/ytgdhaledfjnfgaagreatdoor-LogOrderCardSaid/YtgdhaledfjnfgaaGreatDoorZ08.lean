/- Parts of the proof, one behind the other, each under its own heading. No conditions. -/
import Derived.Test.YtgdhaledfjnfgaaGreatDoorZ07
import Derived.Sort.AssemblyPlain
set_option linter.unusedSectionVars false
set_option linter.unusedSimpArgs false
set_option linter.unusedVariables false
/- Layer 15: the program's logs: votes and its iterator. No condition. -/
set_option maxHeartbeats 3200000
set_option maxRecDepth 20000
namespace Go.Proofs.YtgdhaledfjnfgaaGreatDoor
open Go
def bmax (a z : Int × Int) : Int × Int := if a.1 < z.1 ∨ (z.1 = a.1 ∧ a.2 < z.2) then z else a
variable {bv : Int} {z : Int × Int} {r : List (Int × Int)}
theorem bestOf_yes {a : Int × Int} (h : z.1 < bv) : bestOf bv (z :: r) a = bestOf bv r (bmax a z) := by
 rw [bestOf_cons];unfold bmax;by_cases h2 : a.1 < z.1 ∨ (z.1 = a.1 ∧ a.2 < z.2)
 ·rw [if_pos ⟨h, h2⟩, if_pos h2]
 ·rw [if_neg (fun h3 => h2 h3.2), if_neg h2]
theorem bestOf_no {a : Int × Int} (h : ¬ z.1 < bv) : bestOf bv (z :: r) a = bestOf bv r a := by
 rw [bestOf_cons, if_neg (fun h3 => h h3.1)]
theorem voted_at : ∀ {l : List (Int × Int)}, (l.map (·.1)).Pairwise (· < ·) → ∀ {z : Int × Int}, z ∈ l → PM.voted l z.1 = some z.2
 | [], _, z, h => by cases h
 | (w, n) :: r, hr, z, h => by
  rw [List.map_cons, List.pairwise_cons] at hr
  unfold PM.voted
  by_cases e : z.1 = w
  ·rw [if_pos e]
   rcases List.mem_cons.1 h with h | h
   ·rw [h]
   ·have := hr.1 z.1 (List.mem_map.2 ⟨z, h, rfl⟩)
    simp only at this
    omega
  ·rw [if_neg e]
   rcases List.mem_cons.1 h with h | h
   ·rw [h] at e; exact absurd rfl e
   ·exact voted_at hr.2 h
variable {b lb c T : Nat} {p : Option Addr} {fl : Frag} {l : Lgs}
section
variable (f : Frag) (F : List HP)
theorem plvoted1_fn {s : PM} (hz : PM.voted s.all z.1 = some z.2) : Fn Tryz.prog 49 [.pointer (some ⟨b, 0, none⟩), .int .u64 z.1] f (pastH b s :: F) (Ret (.tuple #[.int .i64 z.2, .bool true]) f (pastH b s :: F)) := by
 have h := voted_fn f F b s z.1;rw [hz] at h
 exact h
theorem votes_fn {m : Nat} : Fn Tryz.prog 120 [.pointer (some ⟨lb, 0, none⟩), .slice p m c, .int .u64 bv] f F
  (RetE (α := Nat × Nat × Nat) (fun b => .func (.func 173) #[] #[.pointer (some ⟨b.1, 0, none⟩), .pointer (some ⟨b.2.1, 0, none⟩), .pointer (some ⟨b.2.2, 0, none⟩)]) f
   (fun b => row b.1 45 [.slice p m c] :: row b.2.1 27 [.pointer (some ⟨lb, 0, none⟩)] :: row b.2.2 31 [.int .u64 bv] :: F)) := by
 refine Fn.e3 Tryz.func120 Tryz.ntmps120 fun base => ?_;refine gA ?_;refine H.box (ls := [.pointer (some ⟨lb, 0, none⟩)]) rfl rfl rfl rfl fun b2 => ?_;refine H.box (ls := [.slice p m c]) rfl rfl rfl rfl fun b1 => ?_;refine H.box (ls := [.int .u64 bv]) rfl rfl rfl rfl fun b3 => ?_;refine gg ?_;refine H.pf (x := row b2 _ _) ?_;refine H.pf (x := row b1 _ _) ?_;exact H.r1 ⟨(b1, b2, b3), rfl, rfl, rfl⟩
theorem votes1_fn (hfl : Le fl f) (hL : LI l T) (hT : T ≤ 50000) {i : PPt} (hi : plφ fl l i) {qp : Option Addr} {qc : Nat} {q : List (Int × Int)} (hq : QAt f qp q) (hql : q.length ≤ 1000000) (hm : ∀ p ∈ q, 1 ≤ p.1 ∧ p.1 ≤ (l.n : Int)) {lp : Nat} {X : Int × Int → HP}
  (hY : ∀ (a z : Int × Int) (G : List HP), YieldFn Tryz.prog lp [.int .u64 z.1, .int .i64 z.2] f (X a :: G) (fun v g B => v = .bool true ∧ g = f ∧ B = X (bmax a z) :: G)) {b1 b2 b3 : Nat} (a0 : Int × Int) :
  Fn Tryz.prog 173 ([] ++ [.func (.yield lp) #[] #[]] ++ [.pointer (some ⟨b1, 0, none⟩), .pointer (some ⟨b2, 0, none⟩), .pointer (some ⟨b3, 0, none⟩)]) f
   (X a0 :: row b1 45 [.slice qp q.length qc] :: row b2 27 [.pointer (some ⟨lb, 0, none⟩)] :: row b3 31 [.int .u64 bv] :: row lb 113 (plC l.n l.known i.vb i.pp i.pc i.cp i.cc) :: fam (fun r => pastH (i.pb r) (l.past r)) l.n :: F)
   (Ret (.tuple #[]) f (X (bestQ l.past bv q a0) :: row b1 45 [.slice qp q.length qc] :: row b2 27 [.pointer (some ⟨lb, 0, none⟩)] :: row b3 31 [.int .u64 bv] :: row lb 113 (plC l.n l.known i.vb i.pp i.pc i.cp i.cc) :: fam (fun r => pastH (i.pb r) (l.past r)) l.n :: F)) := by
 have hn := hL.n3;have hqat : ListAt f qp 2 pairV q := hq
 have hpa := fun (o : Nat) (ho : o < l.n) (r : Int) (hr : r = ((o + 1 : Nat) : Int)) (G : List HP) => plpast_fn f G hfl (lb := lb) hi hn.2 ho hr;obtain ⟨V, vb, pp, pc, cp, cc, pb, cs⟩ := i
 show Fn _ _ _ f (_ :: _ :: _ :: _ :: row lb 113 (plC l.n l.known vb pp pc cp cc) :: fam (fun r => pastH (pb r) (l.past r)) l.n :: F) (Ret _ f (_ :: _ :: _ :: _ :: row lb 113 (plC l.n l.known vb pp pc cp cc) :: fam (fun r => pastH (pb r) (l.past r)) l.n :: F));have hpa : ∀ (o : Nat), o < l.n → ∀ (r : Int), r = ((o + 1 : Nat) : Int) → ∀ (G : List HP), Fn Tryz.prog 48 [.pointer (some ⟨lb, 0, none⟩), .int .i64 r] f (row lb 113 (plC l.n l.known vb pp pc cp cc) :: G) (Ret (.pointer (some ⟨pb o, 0, none⟩)) f (row lb 113 (plC l.n l.known vb pp pc cp cc) :: G)) := hpa;refine Fn.e4 Tryz.func173 Tryz.ntmps173 fun base => ?_
 refine gN ?_
 refine H.lo (ι := Nat × Int × Int) (fun s => [(14, .int .i64 (s.1 : Int)), (13, .int .i64 (q.length : Nat)), (12, .slice qp q.length qc), (0, .func (.yield lp) #[] #[]), (2, .pointer (some ⟨b2, 0, none⟩)), (3, .pointer (some ⟨b3, 0, none⟩))]) (fun _ => f)
  (fun s => X s.2 :: row b1 45 [.slice qp q.length qc] :: row b2 27 [.pointer (some ⟨lb, 0, none⟩)] :: row b3 31 [.int .u64 bv] :: row lb 113 (plC l.n l.known vb pp pc cp cc) :: fam (fun r => pastH (pb r) (l.past r)) l.n :: F)
  (fun s => s.1 ≤ q.length ∧ bestQ l.past bv (q.drop s.1) s.2 = bestQ l.past bv q a0) (fun s => q.length - s.1) (0, a0) ⟨Nat.zero_le _, rfl⟩ fun s hs => ?_
 obtain ⟨j, a⟩ := s;obtain ⟨hj1, hbq⟩ : j ≤ q.length ∧ bestQ l.past bv (q.drop j) a = bestQ l.past bv q a0 := hs;show H _ _ _ [(14, .int .i64 (j : Int)), _, _, _, _, _] f (X a :: _ :: _ :: _ :: _ :: _ :: F) _;by_cases hlt : j < q.length
 ·obtain ⟨p, hp⟩ : ∃ p, q[j]? = some p := ⟨_, List.getElem?_eq_getElem hlt⟩;have hpm := List.mem_of_getElem? hp;have hpq := hm p hpm
  obtain ⟨r, hre⟩ : ∃ r, r = (p.1 - 1).toNat := ⟨_, rfl⟩; have hr : r < l.n := by omega
  obtain ⟨qb, qoff, qcs, qT, qfr, hqp, hqfb, hqcs⟩ := hqat j p hp;have rd : ∀ A, Rd f A qb (qoff + j * 2) (pairV p) := fun A => Rd.imm hqfb hqcs;rw [show q.drop j = p :: q.drop (j + 1) by rw [List.drop_eq_getElem_cons hlt, (List.getElem?_eq_some_iff.1 hp).2]] at hbq
  rw [bestQ_cons] at hbq;rw [← hre] at hbq;have hwf := hL.wf r hr;have hil := hL.il r hr
  have halen := all_len (l.past r);have hen := fun G => entered_fn f G (pb r) (l.past r) (by omega)
  have hpar := hpa r hr p.1 (by omega);clear hpa
  refine gH ?_;refine H.Ao (b := qb) (off := qoff) (i := j) rfl (by rw [← hqp]; rfl) rfl rfl hlt rfl ?_;refine H.Ae (ls := pairV p) rfl rfl rfl (rd _) rfl rfl ?_;refine H.Ap (ls := pairV (0, 0)) rfl rfl rfl fun ab => ?_;refine H.Ah (ls := pairV (0, 0)) (vs := pairV p) (ls' := pairV p) rfl rfl rfl (zaa rfl) rfl rfl (Nat.le_refl 2) (.here _ _ _) ?_;refine gG ?_;refine qcY ?_;refine H.cr (hpar _) ?_;refine gK ?_;refine qen ?_;refine H.Cj hr ?_;refine H.cl (hen _) fun v f' A' hR => ?_;obtain ⟨ep, ec, rfl, hff, rfl⟩ := hR;rw [hff];clear hen hff;refine gW ?_;refine H.pf (x := row b3 _ _) ?_;refine H.pf (x := X a) ?_
  refine H.lo (ι := Nat × Int × Int) (fun s => [(25, .int .i64 (s.1 : Int)), (24, .int .i64 (((l.past r).init.length + 1 : Nat) : Int)), (23, .slice ep ((l.past r).init.length + 1) ec), (7, .pointer (some ⟨pb r, 0, none⟩)), (14, .int .i64 (j : Int)), (13, .int .i64 (q.length : Nat)), (12, .slice qp q.length qc), (0, .func (.yield lp) #[] #[]), (2, .pointer (some ⟨b2, 0, none⟩)), (3, .pointer (some ⟨b3, 0, none⟩))]) (fun _ => f)
   (fun s => X s.2 :: row b3 31 [.int .u64 bv] :: slc ep ((l.past r).init.length + 1) ec 31 1 (viewsV (l.past r).all) :: pastH (pb r) (l.past r) :: fam (updF (fun r => pastH (pb r) (l.past r)) r emp) l.n :: row lb 113 (plC l.n l.known vb pp pc cp cc) :: row ab 69 (pairV p) :: row b1 45 [.slice qp q.length qc] :: row b2 27 [.pointer (some ⟨lb, 0, none⟩)] :: F)
   (fun s => s.1 ≤ (l.past r).all.length ∧ bestOf bv ((l.past r).all.drop s.1) s.2 = bestOf bv (l.past r).all a) (fun s => (l.past r).all.length - s.1) (0, a) ⟨Nat.zero_le _, rfl⟩ fun s hs => ?_
  obtain ⟨k, a2⟩ := s;obtain ⟨hk1, hbo⟩ : k ≤ (l.past r).all.length ∧ bestOf bv ((l.past r).all.drop k) a2 = bestOf bv (l.past r).all a := hs;show H _ _ _ [(25, .int .i64 (k : Int)), _, _, _, _, _, _, _, _, _] f (X a2 :: _ :: _ :: _ :: _ :: _ :: _ :: _ :: _ :: F) _;by_cases hk : k < (l.past r).all.length
  ·obtain ⟨z, hz⟩ : ∃ z, (l.past r).all[k]? = some z := ⟨_, List.getElem?_eq_getElem hk⟩;rw [show (l.past r).all.drop k = z :: (l.past r).all.drop (k + 1) by rw [List.drop_eq_getElem_cons hk, (List.getElem?_eq_some_iff.1 hz).2]] at hbo;have hvo := fun G => plvoted1_fn f G (b := pb r) (s := l.past r) (z := z) (voted_at hwf.rise (List.mem_of_getElem? hz));refine H.Bh (p := ep) (n0 := (l.past r).init.length + 1) (c := ec) (T := 31) (sz := 1) (xs := viewsV (l.past r).all) (.there _ (.there _ (.here _ _ _))) (by omega) fun eb hep => ?_
   subst hep;refine gH ?_;refine H.Ao (i := k) rfl rfl rfl rfl (by omega) rfl ?_;refine H.Ab rfl rfl rfl (by rw [Nat.zero_add, Nat.mul_one]; exact Rd1.at0 (Rd.ofSlc (.there _ (.there _ (.here _ _ _))) (by omega)) (v := .int .u64 z.1) (by rw [viewsV, List.getElem?_map, hz]; rfl)) rfl ?_;refine gK ?_;refine H.pf (x := pastH (pb r) _) ?_;refine H.cr (hvo _) ?_
   iterate 8 ( first
    | ((first | apply H.Af | apply H.Al | apply H.Bc | apply H.Bk | apply H.Br | apply H.Cc); (iterate 3 exact rfl))
    | (apply H.Aq; (iterate 3 exact rfl); exact inferInstance; exact rfl)
    | (apply H.Ab; (iterate 3 exact rfl); apply Rd1.ofRow; (repeat (first | exact .here _ _ _ | apply At.there)); (iterate 2 exact rfl))
    | (first | apply H.seq | apply H.Aj | apply H.nil | apply H.Ak)
    | ((first | apply H.cmp | apply H.Ar); (iterate 5 exact rfl))
    | ((first | (apply H.ar; (iterate 4 exact rfl)) | (apply H.Bd; (iterate 2 exact rfl))); (first | (with_reducible apply zaw; omega) | (with_reducible apply zau; omega) | (with_reducible apply zav; omega) | (with_reducible apply wr_i64; omega) | (with_reducible apply wr_u64; omega) | (with_reducible apply wr_u8; omega) | (with_reducible apply wr_u16; omega) | rfl); exact rfl)
    | (apply H.Bm; (iterate 2 exact rfl))
    | (apply H.pass0; exact rfl)
    | (apply H.Bj; (iterate 4 exact rfl))
    | ((first | apply H.Ba | apply H.Ca | apply H.not | apply H.Cl); (iterate 4 exact rfl))
    | ((first | apply H.Ck | apply H.Cn); (iterate 5 exact rfl))
    | (apply H.Az; (iterate 4 exact rfl); (repeat (first | exact .here _ _ _ | apply At.there)); (repeat (first | exact .here _ _ _ | apply SetV.there)))
    | (apply H.Ci; exact rfl)
    | (apply H.Ch; exact rfl)
    | (first | apply H.Bg | apply H.ret | apply H.By | apply H.Cb | apply H.exit | apply H.Ay | apply H.Bu | apply H.Cd | apply H.Bw | apply H.Ce | apply H.Bz)
    | (apply H.Cr; exact rfl)
    | (apply H.Bo; (iterate 3 exact rfl); (first | assumption | omega))
    | (apply H.gno; (iterate 3 exact rfl); (first | assumption | omega))
    | (apply H.Bn; exact rfl; (first | assumption | omega))
    | (apply H.Bt; exact rfl; (first | assumption | omega))
    | ((first | apply H.gtrue); (iterate 3 exact rfl); assumption)
    | (apply H.gfalse; (iterate 3 exact rfl); assumption)
    | (apply H.cond_t; exact rfl; assumption)
    | (apply H.cond_f; exact rfl; assumption) )
   refine H.regionY ?_;refine H.inOp (by with_reducible (repeat (first | exact zbd | exact zay | exact zan | exact zao | refine zax ?_ | refine zap ?_ | refine zar ?_ | refine zat ?_ | refine zbe ?_))) ?_;refine gK ?_;refine H.Cm ?_;refine H.inOp (by with_reducible (repeat (first | exact zbd | exact zay | exact zan | exact zao | refine zax ?_ | refine zap ?_ | refine zar ?_ | refine zat ?_ | refine zbe ?_))) ?_;refine gG ?_;refine H.Cm ?_;refine H.inOp (by with_reducible (repeat (first | exact zbd | exact zay | exact zan | exact zao | refine zax ?_ | refine zap ?_ | refine zar ?_ | refine zat ?_ | refine zbe ?_))) ?_;refine gO ?_;refine H.Cm ?_;refine H.inOp (by with_reducible (repeat (first | exact zbd | exact zay | exact zan | exact zao | refine zax ?_ | refine zap ?_ | refine zar ?_ | refine zat ?_ | refine zbe ?_))) ?_;refine gK ?_;refine H.Cm ?_;by_cases hzb : z.1 < bv
   ·rw [bestOf_yes hzb] at hbo;refine H.inOp (by with_reducible (repeat (first | exact zbd | exact zay | exact zan | exact zao | refine zax ?_ | refine zap ?_ | refine zar ?_ | refine zat ?_ | refine zbe ?_))) ?_;refine gM ?_;refine H.Cm ?_;refine H.inOp (by with_reducible (repeat (first | exact zbd | exact zay | exact zan | exact zao | refine zax ?_ | refine zap ?_ | refine zar ?_ | refine zat ?_ | refine zbe ?_))) ?_;refine gK ?_;refine H.Cm ?_;refine H.inOp (by with_reducible (repeat (first | exact zbd | exact zay | exact zan | exact zao | refine zax ?_ | refine zap ?_ | refine zar ?_ | refine zat ?_ | refine zbe ?_))) ?_;refine gK ?_;refine H.Cm ?_;refine H.pf (x := X a2) ?_;refine H.yield rfl rfl rfl rfl (hY a2 z _) fun v f' A' hR => ?_;obtain ⟨rfl, hff, rfl⟩ := hR;rw [hff];clear hff;refine H.inOp (by with_reducible (repeat (first | exact zbd | exact zay | exact zan | exact zao | refine zax ?_ | refine zap ?_ | refine zar ?_ | refine zat ?_ | refine zbe ?_))) ?_;refine gg ?_;refine H.Cm ?_;refine H.inOp (by with_reducible (repeat (first | exact zbd | exact zay | exact zan | exact zao | refine zax ?_ | refine zap ?_ | refine zar ?_ | refine zat ?_ | refine zbe ?_))) ?_;refine ga ?_;refine qeV ?_;exact H.ag (k + 1, bmax a2 z) ⟨by show k + 1 ≤ (l.past r).all.length; omega, hbo⟩ (by show (l.past r).all.length - (k + 1) < (l.past r).all.length - k; omega)
   ·rw [bestOf_no hzb] at hbo;refine H.inOp (by with_reducible (repeat (first | exact zbd | exact zay | exact zan | exact zao | refine zax ?_ | refine zap ?_ | refine zar ?_ | refine zat ?_ | refine zbe ?_))) ?_;refine gR ?_;refine H.Cm ?_;refine H.inOp (by with_reducible (repeat (first | exact zbd | exact zay | exact zan | exact zao | refine zax ?_ | refine zap ?_ | refine zar ?_ | refine zat ?_ | refine zbe ?_))) ?_;refine gD ?_;refine H.Cm ?_;refine H.inOp (by with_reducible (repeat (first | exact zbd | exact zay | exact zan | exact zao | refine zax ?_ | refine zap ?_ | refine zar ?_ | refine zat ?_ | refine zbe ?_))) ?_;refine gD ?_;refine H.Cm ?_;refine H.inOp (by with_reducible (repeat (first | exact zbd | exact zay | exact zan | exact zao | refine zax ?_ | refine zap ?_ | refine zar ?_ | refine zat ?_ | refine zbe ?_))) ?_;refine gD ?_;refine H.Cm ?_;refine H.inOp (by with_reducible (repeat (first | exact zbd | exact zay | exact zan | exact zao | refine zax ?_ | refine zap ?_ | refine zar ?_ | refine zat ?_ | refine zbe ?_))) ?_;refine gD ?_;refine H.Cm ?_;refine H.inOp (by with_reducible (repeat (first | exact zbd | exact zay | exact zan | exact zao | refine zax ?_ | refine zap ?_ | refine zar ?_ | refine zat ?_ | refine zbe ?_))) ?_;refine gg ?_;refine qeV ?_;exact H.ag (k + 1, a2) ⟨by show k + 1 ≤ (l.past r).all.length; omega, hbo⟩ (by show (l.past r).all.length - (k + 1) < (l.past r).all.length - k; omega)
  ·have e : k = (l.past r).all.length := by omega
   subst e;rw [List.drop_length] at hbo;have hbo : a2 = bestOf bv (l.past r).all a := hbo;rw [← hbo] at hbq
   refine ga ?_;refine H.pd (x := slc ep _ ec _ _ _) ?_;refine H.pd (x := row ab _ _) ?_;refine H.pf (x := fam (updF _ _ _) _) ?_;refine H.pf (x := pastH (pb r) _) ?_;refine qgL ?_;refine qcY ?_;refine H.pf (x := row b3 _ _) ?_;refine H.pf (x := row b2 _ _) ?_;refine H.pf (x := row b1 _ _) ?_;refine H.pf (x := X _) ?_;exact H.ag (j + 1, a2) ⟨by show j + 1 ≤ q.length; omega, hbq⟩ (by show q.length - (j + 1) < q.length - j; omega)
 ·have e : j = q.length := by omega
  subst e;rw [List.drop_length] at hbq;have hbq : a = bestQ l.past bv q a0 := hbq;rw [← hbq]
  refine ga ?_;exact qaT
end
variable {m : Msg}
theorem Lgs.begins_no (ho : l.n % 2 = 1) (h : (qokB l m && decide (m.body.q.length = l.n / 2 + 1)) = false) : l.begins m = (false, l) := by
 unfold Lgs.begins;by_cases h1 : m.body.q.length ≠ (l.n - 1) / 2 + 1
 ·rw [if_pos h1]
 ·rw [if_neg h1, if_pos];rw [decide_eq_true (show m.body.q.length = l.n / 2 + 1 by omega), Bool.and_true] at h;exact h
variable {w : Vw}
theorem Lgs.begins_en (ho : l.n % 2 = 1) (h : (qokB l m && decide (m.body.q.length = l.n / 2 + 1)) = true) {u : Int} {ln iv : Nat} (hb : bestQ l.past m.body.view m.body.q (0, 0) = (u, (ln : Int))) (hat : vwAt l.vs u = some iv) (hw : l.vs[iv]? = some w) : l.begins m =
  if (l.past (orgI m)).enterOk m.body.view ln = false then (false, l) else
  (true, { l with past := updF l.past (orgI m) ((l.past (orgI m)).enter m.body.view ln), vs := insV ⟨m.body.view, m.number, w.all.take ln, []⟩ l.vs }) := by
 rw [Bool.and_eq_true] at h;have h2 := of_decide_eq_true h.2;unfold Lgs.begins
 have h1 : (m.body.q.all fun q => decide (q.2 ≤ m.deps (q.1 - 1).toNat) && chB l q m.body.view) = true := h.1
 have h3 : ((match vwAt l.vs u with | none => [] | some i => (l.vs[i]?.map Vw.all).getD []).take (ln : Int).toNat) = w.all.take ln := by
  rw [hat];show ((l.vs[iv]?.map Vw.all).getD []).take (ln : Int).toNat = _;rw [hw];rfl
 rw [hb, if_neg (by omega), if_neg (by rw [h1]; decide), ← h3];rfl
variable {v : Int}
theorem LI.fresh (h : LI l T) {k : Int} (hr : primI l.n v < l.n) (he : (l.past (primI l.n v)).enterOk v k = true) : vwAt l.vs v = none := by
 have hw := h.wf _ hr;have he := of_decide_eq_true he
 refine vwAt_none.2 fun w hm e => ?_;by_cases h0 : w.v = 0
 ·have := hw.last;omega
 ·obtain ⟨p, hp, h1⟩ := h.begun w hm h0;rw [e] at hp h1;exact hw.not_all he.1 (List.mem_map.2 ⟨p, hp, h1⟩)
theorem ent_fresh {V : List PV} (h : (V.map PV.w).Perm l.vs) (hv : vwAt l.vs v = none) : v ∉ (V.map PV.ent).map (·.1) := fun hm => by
 obtain ⟨e, he, h1⟩ := List.mem_map.1 hm
 obtain ⟨x, hx, rfl⟩ := List.mem_map.1 he
 exact vwAt_none.1 hv x.w (h.mem_iff.1 (List.mem_map.2 ⟨x, hx, rfl⟩)) h1
variable {x : MV}
section
variable (f : Frag) (F : List HP)
theorem plnew_view_fn (hfl : Le fl f) (hL : LI l T) (hT : T ≤ 50000) (hodd : l.n % 2 = 1) (hx : x.Good f) (hm : MIn l.n x.m) (hk : x.m.body.kind = 4) {i : PPt} (hi : plφ fl l i) {r : Nat} (hre : r = orgI x.m) :
  Fn Tryz.prog 83 [.pointer (some ⟨lb, 0, none⟩), .agg x.vals.toArray, .pointer (some ⟨i.pb r, 0, none⟩)] f (plB lb l i ++ F) (Ret (.bool (l.counts x.m).1) f (plogH f lb (l.counts x.m).2 :: F)) := by
 have hiF := hi.mono hfl;have hn := hL.n3
 have hor := hm.o; have hr : r < l.n := by rw [hre]; unfold orgI; omega
 have hwf := hL.wf r hr;have hil := hL.il r hr
 have hvl := hL.vl;have hv0 := hm.v
 have hvs := hi.vs; have hql : x.m.body.q.length ≤ 1000000 := by have := hx.2.1; omega
 have hvo1 := fun (lp : Nat) (X : Int × Int → HP) (hY) (b1 b2 b3 : Nat) (G : List HP) => votes1_fn f G hfl (lb := lb) hL hT hi (q := x.m.body.q) (qc := x.qc) hx.1 hql hm.q (bv := x.m.body.view) (lp := lp) (X := X) hY (b1 := b1) (b2 := b2) (b3 := b3) (0, 0);obtain ⟨V, vb, pp, pc, cp, cc, pb, cs⟩ := i
 have hvs : (V.map PV.w).Perm l.vs := hvs
 have hvo1 : ∀ (lp : Nat) (X : Int × Int → HP), (∀ (a z : Int × Int) (G : List HP), YieldFn Tryz.prog lp [.int .u64 z.1, .int .i64 z.2] f (X a :: G) (fun v g B => v = .bool true ∧ g = f ∧ B = X (bmax a z) :: G)) → ∀ (b1 b2 b3 : Nat) (G : List HP), Fn Tryz.prog 173 ([] ++ [.func (.yield lp) #[] #[]] ++ [.pointer (some ⟨b1, 0, none⟩), .pointer (some ⟨b2, 0, none⟩), .pointer (some ⟨b3, 0, none⟩)]) f
   (X (0, 0) :: row b1 45 [.slice x.qp x.m.body.q.length x.qc] :: row b2 27 [.pointer (some ⟨lb, 0, none⟩)] :: row b3 31 [.int .u64 x.m.body.view] :: row lb 113 (plC l.n l.known vb pp pc cp cc) :: fam (fun r => pastH (pb r) (l.past r)) l.n :: G)
   (Ret (.tuple #[]) f (X (bestQ l.past x.m.body.view x.m.body.q (0, 0)) :: row b1 45 [.slice x.qp x.m.body.q.length x.qc] :: row b2 27 [.pointer (some ⟨lb, 0, none⟩)] :: row b3 31 [.int .u64 x.m.body.view] :: row lb 113 (plC l.n l.known vb pp pc cp cc) :: fam (fun r => pastH (pb r) (l.past r)) l.n :: G)) := hvo1
 have hprim := fun G => plprim_fn f G (lb := lb) (n := l.n) (kn := l.known) (vb := vb) (pp := pp) (pc := pc) (cp := cp) (cc := cc) (by omega) hv0;have hqu := fun G => plquorum_fn f G hL hT hx hm (lb := lb) (vb := vb) (pp := pp) (pc := pc) (cp := cp) (cc := cc) (cs := cs)
 rw [Lgs.counts_4 hk];refine qcN ?_;by_cases hp : primZ l.n x.m.body.view = x.m.origin
 ·rw [if_pos (decide_eq_true hp)]
  cases hqk : qokB l x.m && decide (x.m.body.q.length = l.n / 2 + 1) with
  | false =>
   rw [Lgs.begins_no hodd hqk];rw [hqk] at hqu;refine qfp fun base => ?_;refine qcR fun mb => ?_;refine gG ?_;refine H.drawB (by kernel_rfl) (by decide +kernel) (by with_reducible (repeat (first | exact blind_fnM | refine zab ?_ | refine zag ?_ | refine zai ?_))) (S := [_]) rfl ?_;refine qdW ?_;refine H.cr (hqu _) ?_;refine gA ?_;refine qfw ?_;refine HB.qu [10,11] 0 ?_;refine gQ ?_;exact qaI
  | true =>
   obtain ⟨⟨u, z⟩, hbq⟩ : ∃ b, bestQ l.past x.m.body.view x.m.body.q (0, 0) = b := ⟨_, rfl⟩;have hbest := hL.best hm;rw [hbq] at hbest hvo1
   obtain ⟨iv, w, hat, hw, hz0, hz1⟩ : ∃ i w, vwAt l.vs u = some i ∧ l.vs[i]? = some w ∧ 0 ≤ z ∧ z ≤ (w.all.length : Int) := hbest;obtain ⟨ln, rfl⟩ : ∃ ln : Nat, z = (ln : Int) := ⟨z.toNat, by omega⟩; have hln : ln ≤ w.all.length := by omega
   obtain ⟨j, X, hX, hXw, hgetX⟩ := view_some hvs hL.rise hat hw; have hget : (getKV (V.map PV.ent) u).getD (.pointer none) = .pointer (some ⟨X.b, 0, none⟩) := by rw [hgetX]; rfl
   subst hXw;have hXl := hL.al X.w (List.mem_of_getElem? hw);rw [Lgs.begins_en hodd hqk hbq hat hw, ← hre]
   rw [hqk] at hqu;refine qfp fun base => ?_;refine qcR fun mb => ?_;refine gG ?_;refine H.drawB (by kernel_rfl) (by decide +kernel) (by with_reducible (repeat (first | exact blind_fnM | refine zab ?_ | refine zag ?_ | refine zai ?_))) (S := [_]) rfl ?_;refine qdW ?_;refine H.cr (hqu _) ?_;refine gA ?_;refine qfw ?_;refine HB.qu [10,11] 0 ?_;refine qeL ?_;refine gY ?_;refine H.Ap (ls := [.int .u64 0]) rfl rfl rfl fun ub => ?_;refine H.Ap (ls := [.int .i64 0]) rfl rfl rfl fun nb => ?_;refine gN ?_;refine H.callE rfl rfl rfl (votes_fn f _) fun b => ?_;obtain ⟨b1, b2, b3⟩ := b;refine gW ?_;refine H.sb [(35, .func (.func 173) #[] #[.pointer (some ⟨b1, 0, none⟩), .pointer (some ⟨b2, 0, none⟩), .pointer (some ⟨b3, 0, none⟩)]), (9, .pointer (some ⟨nb, 0, none⟩)), (8, .pointer (some ⟨ub, 0, none⟩)), (7, .int .u64 x.m.body.view), (4, .pointer (some ⟨mb, 0, none⟩)), (2, .pointer (some ⟨pb r, 0, none⟩)), (0, .pointer (some ⟨lb, 0, none⟩))] ?_;refine qen ?_;refine qcY ?_;refine H.pf (x := row b3 _ _) ?_;refine H.pf (x := row b2 _ _) ?_;refine H.pf (x := row b1 _ _) ?_;refine H.pf (x := row nb _ _) ?_;refine H.pf (x := row ub _ _) ?_;refine H.rangeFuncE (f' := f) (fs := []) (cs := [.pointer (some ⟨b1, 0, none⟩), .pointer (some ⟨b2, 0, none⟩), .pointer (some ⟨b3, 0, none⟩)]) rfl rfl fun LH hLH => ⟨Unit, fun _ D => pts D (.deferred (some [])) :: row ub 31 [.int .u64 u] :: row nb 3 [.int .i64 (ln : Int)] :: row b1 45 [.slice x.qp x.m.body.q.length x.qc] :: row b2 27 [.pointer (some ⟨lb, 0, none⟩)] :: row b3 31 [.int .u64 x.m.body.view] :: row lb 113 (plC l.n l.known vb pp pc cp cc) :: fam (fun r => pastH (pb r) (l.past r)) l.n :: row mb 49 x.vals :: slc cp l.n cc 179 1 (chRow l cs) :: fam (pcFam l cs) l.n :: mp vb keyU (V.map PV.ent) :: lst (V.map PV.own) :: F, fun D lp => ?_, fun _ D => ?_⟩
   ·refine Fn.wrap (pack_all [LH D lp .ready, pts D (.deferred (some [])), row ub 31 [.int .u64 0], row nb 3 [.int .i64 0]] _) (hvo1 lp (fun a => stars [LH D lp .ready, pts D (.deferred (some [])), row ub 31 [.int .u64 a.1], row nb 3 [.int .i64 a.2]]) (fun a z G => ?_) b1 b2 b3 _) fun v g B hR => ?_
    ·refine YieldFn.wrap (R1 := fun v g B => v = .bool true ∧ g = f ∧ B = LH D lp .ready :: pts D (.deferred (some [])) :: row ub 31 [.int .u64 (bmax a z).1] :: row nb 3 [.int .i64 (bmax a z).2] :: G) (open_all _ _) ?_ ?_
     ·subst hLH;refine YieldFn.of rfl rfl rfl rfl fun base => ?_
      repeat (
       first | (
        first
       | (first | apply H.seqR | apply H.thenR | apply H.skipR | apply H.blockR)
       | (apply H.regionR; exact rfl; exact (by with_reducible (repeat (first | exact zbd | exact zay | exact zan | exact zao | refine zax ?_ | refine zap ?_ | refine zar ?_ | refine zat ?_ | refine zbe ?_))))
       | (apply H.Cv; exact rfl)
       | (apply H.Cu; exact rfl)
       | (apply H.Cw; exact rfl; (first | assumption | omega))
       | (apply H.condR_no; exact rfl; (first | assumption | omega))) | (
        first
       | ((first | apply H.Af | apply H.Al | apply H.Bc | apply H.Bk | apply H.Br | apply H.Cc); (iterate 3 exact rfl))
       | (apply H.Aq; (iterate 3 exact rfl); exact inferInstance; exact rfl)
       | (apply H.Ab; (iterate 3 exact rfl); apply Rd1.ofRow; (repeat (first | exact .here _ _ _ | apply At.there)); (iterate 2 exact rfl))
       | (first | apply H.seq | apply H.Aj | apply H.nil | apply H.Ak)
       | ((first | apply H.cmp | apply H.Ar); (iterate 5 exact rfl))
       | ((first | (apply H.ar; (iterate 4 exact rfl)) | (apply H.Bd; (iterate 2 exact rfl))); (first | (with_reducible apply zaw; omega) | (with_reducible apply zau; omega) | (with_reducible apply zav; omega) | (with_reducible apply wr_i64; omega) | (with_reducible apply wr_u64; omega) | (with_reducible apply wr_u8; omega) | (with_reducible apply wr_u16; omega) | rfl); exact rfl)
       | (apply H.Bm; (iterate 2 exact rfl))
       | (apply H.pass0; exact rfl)
       | (apply H.Bj; (iterate 4 exact rfl))
       | ((first | apply H.Ba | apply H.Ca | apply H.not | apply H.Cl); (iterate 4 exact rfl))
       | ((first | apply H.Ck | apply H.Cn); (iterate 5 exact rfl))
       | (apply H.Az; (iterate 4 exact rfl); (repeat (first | exact .here _ _ _ | apply At.there)); (repeat (first | exact .here _ _ _ | apply SetV.there)))
       | (apply H.Ci; exact rfl)
       | (apply H.Ch; exact rfl)
       | (first | apply H.Bg | apply H.ret | apply H.By | apply H.Cb | apply H.exit | apply H.Ay | apply H.Bu | apply H.Cd | apply H.Bw | apply H.Ce | apply H.Bz)
       | (apply H.Cr; exact rfl)
       | (apply H.Bo; (iterate 3 exact rfl); (first | assumption | omega))
       | (apply H.gno; (iterate 3 exact rfl); (first | assumption | omega))
       | (apply H.Bn; exact rfl; (first | assumption | omega))
       | (apply H.Bt; exact rfl; (first | assumption | omega))
       | ((first | apply H.gtrue); (iterate 3 exact rfl); assumption)
       | (apply H.gfalse; (iterate 3 exact rfl); assumption)
       | (apply H.cond_t; exact rfl; assumption)
       | (apply H.cond_f; exact rfl; assumption)))
      refine H.begin ?_;by_cases h1 : a.1 < z.1
      ·rw [show bmax a z = z by unfold bmax; rw [if_pos (.inl h1)]];exact qa
      ·by_cases h2 : z.1 = a.1
       ·by_cases h3 : a.2 < z.2
        ·rw [show bmax a z = z by unfold bmax; rw [if_pos (.inr ⟨h2, h3⟩)]];exact qa
        ·rw [show bmax a z = a by unfold bmax; rw [if_neg (by rintro (h | h); exact h1 h; exact h3 h.2)]];exact qa
       ·rw [show bmax a z = a by unfold bmax; rw [if_neg (by rintro (h | h); exact h1 h; exact h2 h.1)]];exact qa
     ·rintro v g B ⟨rfl, rfl, rfl⟩;exact ⟨_, ⟨rfl, rfl, rfl⟩, pack_all [_, _, _, _] G⟩
    ·obtain ⟨rfl, rfl, rfl⟩ := hR;exact ⟨_, ⟨(), rfl, rfl⟩, open_all [_, _, _, _] _⟩
   ·have hent := fun G => enter_fn f G (pb r) (l.past r) hwf (by omega) x.m.body.view (ln : Int);show H _ _ _ _ f (pts D (.deferred (some [])) :: row ub 31 [.int .u64 u] :: row nb 3 [.int .i64 (ln : Int)] :: row b1 45 [.slice x.qp x.m.body.q.length x.qc] :: row b2 27 [.pointer (some ⟨lb, 0, none⟩)] :: row b3 31 [.int .u64 x.m.body.view] :: row lb 113 (plC l.n l.known vb pp pc cp cc) :: fam (fun r => pastH (pb r) (l.past r)) l.n :: row mb 49 x.vals :: slc cp l.n cc 179 1 (chRow l cs) :: fam (pcFam l cs) l.n :: mp vb keyU (V.map PV.ent) :: lst (V.map PV.own) :: F) _
    refine H.pd (x := row b1 _ _) ?_;refine H.pd (x := row b2 _ _) ?_;refine H.pd (x := row b3 _ _) ?_;refine gN ?_;refine qen ?_;refine H.Cj hr ?_;refine H.cr (hent _) ?_
    cases hek : (l.past r).enterOk x.m.body.view ln with
    | false =>
     rw [if_pos rfl];rw [show (l.past r).enter x.m.body.view ln = l.past r by unfold PM.enter; rw [hek]; rfl];refine qgL ?_;refine gg ?_;refine qgi ?_;refine qdT ?_;refine qeD ?_;refine H.imp (zam ⟨V, vb, pp, pc, cp, cc, pb, cs⟩ hiF) ?_;exact H.retMk rfl rfl rfl (.there _ (.here _ _)) (fun _ h => h) ⟨rfl, rfl, rfl⟩
    | true =>
     rw [if_neg (by decide)];refine qfv ?_;rw [past_updF];refine ge ?_;refine H.makeMap encA rfl rfl fun hb => ?_;refine H.Ar (t := 108) (out := vwC x.m.number ln none 0 0 none 0 0 hb) rfl rfl rfl (by kernel_rfl) rfl ?_;refine H.box (ls := vwC x.m.number ln none 0 0 none 0 0 hb) rfl rfl rfl rfl fun wb => ?_;refine gK ?_;refine qdT ?_;refine H.Cq (x := X.own) (i := j) (by rw [List.getElem?_map, hX]; rfl) ?_;refine qcJ ?_;refine H.slc_cap (p := X.lp) (m := X.w.all.length) (c := X.lc) (T := 44) (sz := 40) (xs := X.w.all.flatMap Req.vals) (.there _ (.here _ _ _)) fun hcap _ _ => ?_;refine H.drawQ (by kernel_rfl) (by decide +kernel) (by with_reducible (repeat (first | exact blind_fnM | refine zab ?_ | refine zag ?_ | refine zai ?_))) ?_;refine gS ?_;refine HQ.Cf (enc := keyU) (k := u) rfl rfl rfl (by repeat constructor) rfl hget rfl ?_;refine gS ?_;refine HQ.slice (lo := none) (hi := some (.tmp 73)) (mx := none) (lv := 0) (hv := ln) (mv := X.lc) rfl rfl rfl ⟨_, _, rfl, rfl⟩ rfl (fun h => by cases h) (Nat.zero_le _) (by omega) (Nat.le_refl _) rfl ?_;rw [slP0, Nat.sub_zero, Nat.sub_zero];refine gV ?_;refine gW ?_;refine H.slc0 44 40 ?_;refine H.pf (x := mp hb _ _) ?_;refine H.pf (x := slc none 0 0 _ _ _) ?_;refine qew ?_
     refine H.loop (ι := Nat × Option Addr × Nat) (fun s => [(76, .int .i64 (s.1 : Int)), (75, .int .i64 (ln : Int)), (74, .slice X.lp ln X.lc), (12, .pointer (some ⟨wb, 0, none⟩)), (7, .int .u64 x.m.body.view), (0, .pointer (some ⟨lb, 0, none⟩)), (1000003, .pointer (some ⟨D, 0, none⟩))]) (fun _ => f)
      (fun s => row wb 108 (vwC x.m.number ln s.2.1 (X.w.all.take s.1).length s.2.2 none 0 0 hb) :: slc s.2.1 (X.w.all.take s.1).length s.2.2 44 40 ((X.w.all.take s.1).flatMap Req.vals) :: mp hb encA (heldKV (X.w.all.take s.1)) :: row X.b 108 (vwC X.w.num X.w.s.length X.lp X.w.all.length X.lc X.np X.w.p.length X.nc X.hb) :: slc X.lp X.w.all.length X.lc 44 40 (X.w.all.flatMap Req.vals) :: slc X.np X.w.p.length X.nc 31 1 (X.w.p.flatMap numV) :: mp X.hb encA (heldKV X.w.all) :: lst ((V.map PV.own).set j emp) :: fam (fun j => pastH (pb j) (updF l.past r ((l.past r).enter x.m.body.view ln) j)) l.n :: pts D (.deferred (some [])) :: row ub 31 [.int .u64 u] :: row nb 3 [.int .i64 (ln : Int)] :: row lb 113 (plC l.n l.known vb pp pc cp cc) :: row mb 49 x.vals :: slc cp l.n cc 179 1 (chRow l cs) :: fam (pcFam l cs) l.n :: mp vb keyU (V.map PV.ent) :: F)
      (fun s => s.1 ≤ ln) (fun s => ln - s.1) (0, none, 0) (Nat.zero_le _) ⟨rfl, rfl, rfl, rfl, rfl, rfl, rfl, rfl⟩ rfl rfl fun s hs => ?_
     obtain ⟨k, lp2, lc2⟩ := s;have hk2 : k ≤ ln := hs;show H _ _ _ [(76, .int .i64 (k : Int)), _, _, _, _, _, _] f (row wb _ (vwC x.m.number ln lp2 (X.w.all.take k).length lc2 none 0 0 hb) :: slc lp2 (X.w.all.take k).length lc2 _ 40 ((X.w.all.take k).flatMap Req.vals) :: mp hb encA (heldKV (X.w.all.take k)) :: _) _
     by_cases hlt : k < ln
     ·obtain ⟨rq, hrq⟩ : ∃ rq, X.w.all[k]? = some rq := ⟨_, List.getElem?_eq_getElem (by omega)⟩; have htk : X.w.all.take (k + 1) = X.w.all.take k ++ [rq] := by rw [List.take_add_one, hrq]; rfl
      refine H.Bh (p := X.lp) (n0 := X.w.all.length) (c := X.lc) (T := 44) (sz := 40) (xs := X.w.all.flatMap Req.vals) (.there _ (.there _ (.there _ (.there _ (.here _ _ _))))) (by omega) fun sb hsb => ?_
      have rd : ∀ (a1 a2 a3 a4 : HP) (G : List HP), Rd f (a1 :: a2 :: a3 :: a4 :: slc X.lp X.w.all.length X.lc 44 40 (X.w.all.flatMap Req.vals) :: G) sb (0 + k * 40) rq.vals := fun a1 a2 a3 a4 G => by
       rw [Nat.zero_add]; exact Rd.slcElem (vals := Req.vals) (xs := X.w.all) (n := X.w.all.length) (c := X.lc) (T := 44) Req.len (by decide) (by rw [← hsb]; exact .there _ (.there _ (.there _ (.there _ (.here _ _ _))))) hrq
      refine gH ?_;refine H.Ao (b := sb) (off := 0) (i := k) rfl (by rw [← hsb]; rfl) rfl rfl hlt rfl ?_;refine H.Ae (ls := rq.vals) rfl rfl rfl (rd _ _ _ _ _) rfl rfl ?_;refine qeM fun qb => ?_;refine H.Ah (ls := Req.zero.vals) (vs := rq.vals) (ls' := rq.vals) rfl rfl rfl (zaa rfl) rfl rfl (Nat.le_refl 40) (.here _ _ _) ?_;refine gK ?_;refine H.Ae (ls := rq.vals) rfl rfl rfl (Rd.ofRow (.here _ _ _)) rfl rfl ?_;refine H.pd (x := row qb _ _) ?_;refine H.Au rfl rfl rfl (vput_fn f _ (by rw [List.length_take]; omega) rq) fun v f' A' hR => ?_;obtain ⟨lp3, lc3, hff, rfl⟩ := hR;rw [hff];rw [← htk];refine gE ?_;exact H.Bl (k + 1, lp3, lc3) (by show k + 1 ≤ ln; omega) (by show ln - (k + 1) < ln - k; omega) ⟨rfl, rfl, rfl, rfl, rfl, rfl, rfl, rfl⟩ rfl rfl
     ·obtain rfl : k = ln := by omega
      refine gO ?_;refine H.mapUpdate (enc := keyU) (k := x.m.body.view) (v := .pointer (some ⟨wb, 0, none⟩)) rfl rfl rfl rfl (by repeat constructor) rfl ?_;refine gW ?_; have hpr : primI l.n x.m.body.view = r := by unfold primZ at hp; rw [hre]; unfold orgI; omega
      have hfr := hL.fresh (v := x.m.body.view) (k := (k : Int)) (by rw [hpr]; exact hr) (by rw [hpr]; exact hek); have hsl : (X.w.all.take k).length = k := by rw [List.length_take]; omega
      obtain ⟨Y, hY⟩ : ∃ Y : PV, Y = ⟨⟨x.m.body.view, x.m.number, X.w.all.take k, []⟩, wb, lp2, lc2, none, 0, hb⟩ := ⟨_, rfl⟩; have hYa : Y.w.all = X.w.all.take k := by rw [hY]; exact List.append_nil _
      have hof := fun G => zbq (x := Y) (A := G)
      have hparts : Y.parts = [row wb 108 (vwC x.m.number k lp2 (X.w.all.take k).length lc2 none 0 0 hb), slc lp2 (X.w.all.take k).length lc2 44 40 ((X.w.all.take k).flatMap Req.vals), slc none 0 0 31 1 [], mp hb encA (heldKV (X.w.all.take k))] := by
       unfold PV.parts PV.cells;rw [hYa, hY];show [row wb _ [_, .int .i64 (((X.w.all.take k).length : Nat) : Int), _, _, _], _, _, _] = _;rw [hsl];rfl
      rw [hparts] at hof
      have hent2 : putKV (V.map PV.ent) x.m.body.view (.pointer (some ⟨wb, 0, none⟩)) = (V ++ [Y]).map PV.ent := by
       rw [PM.put_absent _ _ _ (ent_fresh hvs hfr), List.map_append, hY];rfl
      rw [hent2]
      have hperm : ((V ++ [Y]).map PV.w).Perm (insV ⟨x.m.body.view, x.m.number, X.w.all.take k, []⟩ l.vs) := by
       rw [List.map_append, List.map_cons, List.map_nil, show Y.w = ⟨x.m.body.view, x.m.number, X.w.all.take k, []⟩ by rw [hY]];exact ((List.perm_append_singleton _ _).trans ((List.perm_cons _).2 hvs)).trans (zbm _ _)
      refine H.slc0 31 1 ?_;refine H.pf (x := mp hb _ _) ?_;refine H.pf (x := slc none 0 0 31 _ _) ?_;refine H.pf (x := slc lp2 _ lc2 _ _ _) ?_;refine qew ?_;refine H.imp (hof _) ?_;clear hof hparts hent2 hYa;refine qcV ?_;refine H.Ct (by rw [List.getElem?_map, hX]; rfl) ?_;refine H.pf (x := Y.own) ?_;refine H.lstMore (ys := (V ++ [Y]).map PV.own) (by rw [List.map_append]; exact (List.perm_append_singleton _ _).symm) ?_;refine qgi ?_;refine H.pf (x := lst ((V ++ [Y]).map PV.own)) ?_;refine qeD ?_;refine H.imp (zam (l := { l with past := updF l.past r ((l.past r).enter x.m.body.view k), vs := insV ⟨x.m.body.view, x.m.number, X.w.all.take k, []⟩ l.vs }) ⟨V ++ [Y], vb, pp, pc, cp, cc, pb, cs⟩ ⟨hperm, hiF.p⟩) ?_;exact H.retMk rfl rfl rfl (.there _ (.here _ _)) (fun _ h => h) ⟨rfl, rfl, rfl⟩
 ·rw [if_neg (fun h => hp (of_decide_eq_true h))];refine qfp fun base => ?_;refine qcR fun mb => ?_;refine gG ?_;refine H.drawB (by kernel_rfl) (by decide +kernel) (by with_reducible (repeat (first | exact blind_fnM | refine zab ?_ | refine zag ?_ | refine zai ?_))) (S := [_]) rfl ?_;refine HB.qu [0,1,3,4] 8 ?_;refine qdG ?_;refine qfw ?_;refine HB.qu [5,6,7,8] 3 ?_;refine gZ ?_;refine qfP ?_;refine qeI ?_;refine HB.qu [10,11] 0 ?_;refine gL ?_;exact qaI
end
section
variable (f : Frag) (F : List HP)
theorem plenter_fn (hfl : Le fl f) (hL : LI l T) (hT : T ≤ 50000) (hm : MIn l.n x.m) (hk : x.m.body.kind = 5) {i : PPt} (hi : plφ fl l i) {r : Nat} (hre : r = orgI x.m) :
  Fn Tryz.prog 84 [.pointer (some ⟨lb, 0, none⟩), .agg x.vals.toArray, .pointer (some ⟨i.pb r, 0, none⟩)] f (plB lb l i ++ F) (Ret (.bool (l.counts x.m).1) f (plogH f lb (l.counts x.m).2 :: F)) := by
 have hiF := hi.mono hfl;have hn := hL.n3
 have hor := hm.o; have hr : r < l.n := by rw [hre]; unfold orgI; omega
 have hwf := hL.wf r hr;have hil := hL.il r hr
 have hvl := hL.vl;have hv0 := hm.v
 have hvs := hi.vs;obtain ⟨V, vb, pp, pc, cp, cc, pb, cs⟩ := i
 have hvs : (V.map PV.w).Perm l.vs := hvs;have hprim := fun G => plprim_fn f G (lb := lb) (n := l.n) (kn := l.known) (vb := vb) (pp := pp) (pc := pc) (cp := cp) (cc := cc) (by omega) hv0
 have hpl : primI l.n x.m.body.view < 11 := by
  exact qcy
 have hpz : primZ l.n x.m.body.view - 1 = (primI l.n x.m.body.view : Nat) := by unfold primZ; omega
 have hvd : (v11 x.m.deps)[primI l.n x.m.body.view]? = some (.int .u64 (x.m.deps (primI l.n x.m.body.view))) := zbc _ hpl;refine qcN ?_
 cases hat : vwAt l.vs x.m.body.view with
 | none =>
  rw [Lgs.counts_5n hk hat]; have hget : (getKV (V.map PV.ent) x.m.body.view).getD (.pointer none) = .pointer none := by rw [view_none hvs hat]; rfl
  refine Fn.e3 Tryz.func84 Tryz.ntmps84 fun base => ?_;refine qcR fun mb => ?_;refine qdQ ?_;refine qgu ?_;refine HB.qu [0,1,2,3,4,5,6,7,8,11] 16 ?_;refine gI ?_;refine qfP ?_;refine qeI ?_;refine HB.qu [10,12,13,14,15,16,17,18,19,20,21,22] 3 ?_;refine gL ?_;refine qcS ?_;refine HB.ev 23 ?_;refine qeI ?_;refine HB.qu [24,25] 0 ?_;refine qeP ?_;refine qgr ?_;exact qab
 | some iv =>
  obtain ⟨⟨w, hw, hwv⟩, _⟩ := zas.1 hat;obtain ⟨j, X, hX, hXw, hgetX⟩ := view_some hvs hL.rise hat hw; have hget : (getKV (V.map PV.ent) x.m.body.view).getD (.pointer none) = .pointer (some ⟨X.b, 0, none⟩) := by rw [hgetX]; rfl
  rw [Lgs.counts_5 hk hat hw, ← hre];subst hXw;have hXl := hL.al X.w (List.mem_of_getElem? hw);have hXa := X.w.all_len
  by_cases h1 : X.w.num ≤ x.m.deps (primI l.n x.m.body.view)
  ·rw [if_neg (by omega)];have hen := fun G => enter_fn f G (pb r) (l.past r) hwf (by omega) x.m.body.view ((X.w.s.length : Nat) : Int);refine Fn.e3 Tryz.func84 Tryz.ntmps84 fun base => ?_
   refine qcR fun mb => ?_;refine qdQ ?_;refine gK ?_;refine qdT ?_;refine H.Cq (x := X.own) (i := j) (by rw [List.getElem?_map, hX]; rfl) ?_;refine qfc ?_;refine qen ?_;refine H.Cj hr ?_;refine H.cr (hen _) ?_;refine qfv ?_;rw [past_updF];refine gA ?_;refine qdl ?_;refine qfZ ?_;refine qdx ?_;refine HB.qu [24,25] 0 ?_;refine qeP ?_;refine gW ?_;refine qcV ?_;refine H.Ct (by rw [List.getElem?_map, hX]; rfl) ?_;exact qaS
  ·rw [if_pos (by omega)];refine Fn.e3 Tryz.func84 Tryz.ntmps84 fun base => ?_;refine qcR fun mb => ?_;refine qdQ ?_;refine gK ?_;refine qdT ?_;refine H.Cq (x := X.own) (i := j) (by rw [List.getElem?_map, hX]; rfl) ?_;refine qfc ?_;refine qeI ?_;refine HB.qu [24,25] 0 ?_;refine qeP ?_;refine gW ?_;refine qcV ?_;refine H.Ct (by rw [List.getElem?_map, hX]; rfl) ?_;refine qdm ?_;exact qab
end
structure NI (l : Lgs) : Prop where
 rise : ∀ w ∈ l.vs, RiseN w.p
 low : ∀ w ∈ l.vs, ∀ y ∈ w.p, y.1 ≤ l.known (primI l.n w.v)
theorem RiseN.nil : RiseN [] := fun i j y z _ hy _ => by cases hy
theorem NI.new (n : Nat) : NI (Lgs.new n) := ⟨fun w hw => by
  have e : w = ⟨0, 0, [], []⟩ := List.mem_singleton.1 hw
  rw [e]; exact RiseN.nil, fun w hw y hy => by
  have e : w = ⟨0, 0, [], []⟩ := List.mem_singleton.1 hw
  rw [e] at hy; cases hy⟩
theorem Lgs.counts_vs (l : Lgs) (m : Msg) : (l.counts m).2.vs = l.vs ∨
  (∃ i w, vwAt l.vs m.body.view = some i ∧ l.vs[i]? = some w ∧ primZ l.n m.body.view = m.origin ∧ (l.counts m).2.vs = l.vs.set i { w with p := w.p ++ [(m.number, m.body.req)] }) ∨
  (∃ s, (l.counts m).2.vs = insV ⟨m.body.view, m.number, s, []⟩ l.vs) := by
 by_cases h3 : m.body.kind = 3
 ·rw [Lgs.counts_3 h3]; split <;> exact .inl rfl
 ·by_cases h4 : m.body.kind = 4
  ·rw [Lgs.counts_4 h4];split
   ·unfold Lgs.begins;split
    ·exact .inl rfl
    ·split
     ·exact .inl rfl
     ·split
      ·exact .inl rfl
      ·exact .inr (.inr ⟨_, rfl⟩)
   ·exact .inl rfl
  ·by_cases h5 : m.body.kind = 5
   ·cases hat : vwAt l.vs m.body.view with
    | none => rw [Lgs.counts_5n h5 hat]; exact .inl rfl
    | some i =>
     obtain ⟨⟨w, hw, _⟩, _⟩ := zas.1 hat;rw [Lgs.counts_5 h5 hat hw]; split <;> exact .inl rfl
   ·by_cases h1 : m.body.kind = 1
    ·cases hat : vwAt l.vs m.body.view with
     | none => rw [Lgs.counts_1n h1 hat]; exact .inl rfl
     | some i =>
      obtain ⟨⟨w, hw, _⟩, _⟩ := zas.1 hat;rw [Lgs.counts_1 h1 hat hw];split
      ·exact .inl rfl
      ·rename_i h
       refine .inr (.inl ⟨i, w, rfl, hw, ?_, rfl⟩);rcases Decidable.em (primZ l.n m.body.view = m.origin) with e | e
       ·exact e
       ·exact absurd (.inl (decide_eq_false e)) h
    ·by_cases h2 : m.body.kind = 2
     ·cases hat : vwAt l.vs m.body.view with
      | none => rw [Lgs.counts_2n h2 hat]; exact .inl rfl
      | some i =>
       obtain ⟨⟨w, hw, _⟩, _⟩ := zas.1 hat;rw [Lgs.counts_2 h2 hat hw]; split <;> exact .inl rfl
     ·rw [Lgs.counts_x h3 h4 h5 h1 h2]; exact .inl rfl
theorem NI.take {l : Lgs} (h : NI l) (m : Msg) : NI (l.take m).2 := by
 unfold Lgs.take;split
 ·exact h
 ·split
  ·exact h
  ·rename_i _ hn
   have hnum : m.number = l.known (orgI m) + 1 := by
    rcases Decidable.em (m.number = l.known (orgI m) + 1) with e | e
    ·exact e
    ·exact absurd (.inl e) hn
   have hk := l.counts_nk m;obtain ⟨K, hK⟩ : ∃ K, K = updF (l.counts m).2.known (orgI m) ((l.counts m).2.known (orgI m) + 1) := ⟨_, rfl⟩
   have hge : ∀ r, l.known r ≤ K r := fun r => by
    rw [hK, hk.2];by_cases e : r = orgI m
    ·subst e; rw [zae]; omega
    ·rw [zaj _ _ e]; exact Int.le_refl _
   have hKo : K (orgI m) = m.number := by rw [hK, zae, hk.2, hnum]
   show NI { (l.counts m).2 with known := updF (l.counts m).2.known (orgI m) ((l.counts m).2.known (orgI m) + 1) };rw [← hK]
   have key : (∀ w ∈ (l.counts m).2.vs, RiseN w.p) ∧ ∀ w ∈ (l.counts m).2.vs, ∀ y ∈ w.p, y.1 ≤ K (primI l.n w.v) := by
    rcases l.counts_vs m with e | ⟨i, w, hat, hw, hp, e⟩ | ⟨s, e⟩
    ·rw [e]; exact ⟨h.rise, fun w hw y hy => Int.le_trans (h.low w hw y hy) (hge _)⟩
    ·rw [e];have hwm := List.mem_of_getElem? hw;obtain ⟨⟨w', hw', hv⟩, _⟩ := zas.1 hat
     rw [hw] at hw'; cases hw'; have hpi : primI l.n w.v = orgI m := by rw [hv]; unfold primZ at hp; unfold orgI; omega
     refine ⟨fun x hx => ?_, fun x hx y hy => ?_⟩
     ·rcases List.mem_or_eq_of_mem_set hx with hx | rfl
      ·exact h.rise x hx
      ·intro a b y z hab hy hz;show y.1 < z.1;have hy : (w.p ++ [(m.number, m.body.req)])[a]? = some y := hy;have hz : (w.p ++ [(m.number, m.body.req)])[b]? = some z := hz
       have hbl := (List.getElem?_eq_some_iff.1 hz).1;rw [List.length_append, List.length_singleton] at hbl
       rw [List.getElem?_append_left (by omega)] at hy;by_cases hb : b < w.p.length
       ·rw [List.getElem?_append_left hb] at hz;exact h.rise w hwm a b y z hab hy hz
       ·rw [List.getElem?_append_right (by omega), show b - w.p.length = 0 by omega] at hz; cases hz
        have := h.low w hwm y (List.mem_of_getElem? hy);rw [hpi] at this
        show y.1 < m.number;omega
     ·rcases List.mem_or_eq_of_mem_set hx with hx | rfl
      ·exact Int.le_trans (h.low x hx y hy) (hge _)
      ·show y.1 ≤ K (primI l.n w.v);have hy : y ∈ w.p ++ [(m.number, m.body.req)] := hy;rcases List.mem_append.1 hy with hy | hy
       ·exact Int.le_trans (h.low w hwm y hy) (hge _)
       ·rw [List.mem_singleton.1 hy, hpi, hKo]; exact Int.le_refl _
    ·rw [e];refine ⟨fun x hx => ?_, fun x hx y hy => ?_⟩
     ·rcases List.mem_cons.1 ((zbm _ _).mem_iff.2 hx) with rfl | hx
      ·exact RiseN.nil
      ·exact h.rise x hx
     ·rcases List.mem_cons.1 ((zbm _ _).mem_iff.2 hx) with rfl | hx
      ·cases hy
      ·exact Int.le_trans (h.low x hx y hy) (hge _)
   refine ⟨key.1, fun w hw y hy => ?_⟩
   have := key.2 w hw y hy;show y.1 ≤ K (primI (l.counts m).2.n w.v)
   rw [hk.1];exact this
variable {f : Frag}
theorem may_kind (hx : x.Good f) (hm : x.m.may = true) : 1 ≤ x.m.body.kind.toNat ∧ x.m.body.kind.toNat ≤ 6 := by
 unfold Msg.may at hm;rw [Bool.and_eq_true] at hm;have h := mayB_eq hx.2.2;rw [hm.2] at h
 unfold Bod.mayB at h;rw [Bool.and_eq_true] at h;exact of_decide_eq_true h.1
variable {n : Nat}
theorem u8_ne {k : UInt8} (hn : n < 256) (h : k ≠ UInt8.ofNat n) : k.toNat ≠ n := fun e => h (by rw [← e]; simp)
section
variable (f : Frag) (F : List HP)
theorem by3_fn : Fn Tryz.prog 53 [.int .u8 3] f F (Ret (.func (.func 82) #[] #[]) f F) := by
 exact qbg
theorem by4_fn : Fn Tryz.prog 53 [.int .u8 4] f F (Ret (.func (.func 83) #[] #[]) f F) := by
 exact qbg
theorem by5_fn : Fn Tryz.prog 53 [.int .u8 5] f F (Ret (.func (.func 84) #[] #[]) f F) := by
 exact qbg
theorem by6_fn {k : Int} (h1 : k ≠ 1) (h2 : k ≠ 2) (h3 : k ≠ 3) (h4 : k ≠ 4) (h5 : k ≠ 5) : Fn Tryz.prog 53 [.int .u8 k] f F (Ret (.func (.func 87) #[] #[]) f F) := by
 refine Fn.e1 Tryz.func53 Tryz.ntmps53 fun base => ?_;refine ga ?_;exact qao
theorem pltakeA_fn (htab : TabAt f) (hfl : Le fl f) (hL : LI l T) (hT : T ≤ 40000) (hN : NI l) (hodd : l.n % 2 = 1) (hx : x.Good f) :
  Fn Tryz.prog 20 [.pointer (some ⟨lb, 0, none⟩), .agg x.vals.toArray] f (plogH fl lb l :: F) (Ret (.tuple #[.bool (l.take x.m).1.1, .int .i64 (l.take x.m).1.2]) f (plogH f lb (l.take x.m).2 :: F)) := by
 by_cases k1 : x.m.body.kind = 1
 ·exact pltake1_fn f F htab hfl hL hT hx k1
 ·by_cases k2 : x.m.body.kind = 2
  ·exact pltake2_fn f F hfl hL hT hN.rise hx k2
  ·by_cases k3 : x.m.body.kind = 3
   ·exact pltake_fn f F hfl hL hT hx (fid := 82) (fun G => by rw [k3]; exact by3_fn f G) fun _ hm i G hi => plchange_fn f G hfl (hL.more x.m) (by omega) hm k3 hi rfl
   ·by_cases k4 : x.m.body.kind = 4
    ·exact pltake_fn f F hfl hL hT hx (fid := 83) (fun G => by rw [k4]; exact by4_fn f G) fun _ hm i G hi => plnew_view_fn f G hfl (hL.more x.m) (by omega) hodd hx hm k4 hi rfl
    ·by_cases k5 : x.m.body.kind = 5
     ·exact pltake_fn f F hfl hL hT hx (fid := 84) (fun G => by rw [k5]; exact by5_fn f G) fun _ hm i G hi => plenter_fn f G hfl (hL.more x.m) (by omega) hm k5 hi rfl
     ·have n1 := u8_ne (n := 1) (by decide) k1;have n2 := u8_ne (n := 2) (by decide) k2
      have n3 := u8_ne (n := 3) (by decide) k3;have n4 := u8_ne (n := 4) (by decide) k4
      have n5 := u8_ne (n := 5) (by decide) k5;refine pltake_fn f F hfl hL hT hx (fid := 87) (fun G => by6_fn f G (by omega) (by omega) (by omega) (by omega) (by omega)) fun hmay hm i G hi => ?_
      have hk := may_kind hx hmay
      have k6 : x.m.body.kind = 6 := by
       have e : x.m.body.kind.toNat = 6 := by omega
       exact UInt8.toNat_inj.1 e
      exact plcheck_fn f G hfl k6 hi
end
def Lgs.vw (l : Lgs) (v : Int) : Option Vw := (vwAt l.vs v).bind fun i => l.vs[i]?
theorem vw_at (h : l.vw v = some w) : ∃ i, vwAt l.vs v = some i ∧ l.vs[i]? = some w := by
 unfold Lgs.vw at h
 cases e : vwAt l.vs v with
 | none => rw [e] at h; cases h
 | some i => rw [e] at h; exact ⟨i, rfl, h⟩
theorem vw_v (h : l.vw v = some w) : w.v = v ∧ w ∈ l.vs := by
 obtain ⟨i, h1, h2⟩ := vw_at h;obtain ⟨⟨w', h3, h4⟩, _⟩ := zas.1 h1;rw [h2] at h3; cases h3;exact ⟨h4, List.mem_of_getElem? h2⟩
theorem vw_none : l.vw v = none ↔ vwAt l.vs v = none := by
 unfold Lgs.vw
 cases e : vwAt l.vs v with
 | none => simp
 | some i =>
  obtain ⟨⟨w, h1, _⟩, _⟩ := zas.1 e;simp [h1]
theorem vw_mem (h : (l.vs.map Vw.v).Pairwise (· < ·)) (hw : w ∈ l.vs) : l.vw w.v = some w := by
 obtain ⟨i, h1, h2⟩ := vwAt_mem h hw;unfold Lgs.vw;rw [h1]; exact h2
theorem vw_no (h : l.vw v = none) : ∀ w ∈ l.vs, w.v ≠ v := vwAt_none.1 (vw_none.1 h)
inductive Eff where
 | no
 | past (p : PM)
 | chg (p : PM) (c : Int × Int)
 | prep (p : PM) (v : Int) (y : Int × Req)
 | beg (p : PM) (w : Vw)
def putV (v : Int) (y : Int × Req) (w : Vw) : Vw := if w.v = v then { w with p := w.p ++ [y] } else w
theorem putV_v (v : Int) (y : Int × Req) (w : Vw) : (putV v y w).v = w.v := by unfold putV; split <;> rfl
def Lgs.app (l : Lgs) (r : Nat) : Eff → Lgs
 | .no => l
 | .past p => { l with past := updF l.past r p }
 | .chg p c => { l with past := updF l.past r p, ch := updF l.ch r (l.ch r ++ [c]) }
 | .prep p v y => { l with past := updF l.past r p, vs := l.vs.map (putV v y) }
 | .beg p w => { l with past := updF l.past r p, vs := insV w l.vs }
def Lgs.best (l : Lgs) (m : Msg) : Int × Int := bestQ l.past m.body.view m.body.q (0, 0)
def Lgs.pref (l : Lgs) (b : Int × Int) : List Req := ((l.vw b.1).map fun w => w.all.take b.2.toNat).getD []
def Lgs.qAll (l : Lgs) (m : Msg) : Bool := m.body.q.all fun q => decide (q.2 ≤ m.deps (q.1 - 1).toNat) && chB l q m.body.view
def Lgs.eff (l : Lgs) (m : Msg) : Option Eff :=
 if m.body.kind = 3 then (if (l.past (orgI m)).changeOk m.body.view = true then some (.chg ((l.past (orgI m)).change m.body.view) (m.body.view, m.number)) else none)
 else if m.body.kind = 4 then
  (if primZ l.n m.body.view = m.origin ∧ m.body.q.length = (l.n - 1) / 2 + 1 ∧ l.qAll m = true ∧ (l.past (orgI m)).enterOk m.body.view (l.best m).2 = true then
   some (.beg ((l.past (orgI m)).enter m.body.view (l.best m).2) ⟨m.body.view, m.number, l.pref (l.best m), []⟩) else none)
 else if m.body.kind = 5 then (match l.vw m.body.view with
  | none => none
  | some w => if w.num ≤ m.deps (primI l.n m.body.view) ∧ (l.past (orgI m)).enterOk m.body.view (w.s.length : Nat) = true then some (.past ((l.past (orgI m)).enter m.body.view (w.s.length : Nat))) else none)
 else if m.body.kind = 1 then (match l.vw m.body.view with
  | none => none
  | some w => if primZ l.n m.body.view = m.origin ∧ m.body.req.auth = true ∧ holdsB w.all m.body.req.client m.body.req.time = false ∧ (l.past (orgI m)).isOpen m.body.view = true then
    some (.prep ((l.past (orgI m)).prepare m.body.view) m.body.view (m.number, m.body.req)) else none)
 else if m.body.kind = 2 then (match l.vw m.body.view with
  | none => none
  | some w => if primZ l.n m.body.view ≠ m.origin ∧ (l.past (orgI m)).commitOk m.body.view m.body.k (knowsV w (m.deps (primI l.n m.body.view)) : Nat) = true then
    some (.past ((l.past (orgI m)).commit m.body.view m.body.k (knowsV w (m.deps (primI l.n m.body.view)) : Nat))) else none)
 else if m.body.kind = 6 then some .no else none
def Lgs.res (l : Lgs) (r : Nat) : Option Eff → Bool × Lgs
 | none => (false, l)
 | some e => (true, l.app r e)
variable {vs : List Vw}
theorem set_putV (h : (vs.map Vw.v).Pairwise (· < ·)) {i : Nat} (hat : vwAt vs v = some i) (hw : vs[i]? = some w) (y : Int × Req) : vs.set i { w with p := w.p ++ [y] } = vs.map (putV v y) := by
 obtain ⟨⟨w', h3, h4⟩, _⟩ := zas.1 hat;rw [hw] at h3; cases h3;have hi := (List.getElem?_eq_some_iff.1 hw).1;refine List.ext_getElem? fun j => ?_
 rw [List.getElem?_map];by_cases e : i = j
 ·subst e;rw [List.getElem?_set_self hi, hw];show _ = some (putV v y w);unfold putV;rw [if_pos h4]
 ·rw [List.getElem?_set_ne e]
  cases hj : vs[j]? with
  | none => rfl
  | some x =>
   show some x = some (putV v y x);unfold putV;rw [if_neg];intro hx
   have := Vw.uniq h (List.mem_of_getElem? hj) (List.mem_of_getElem? hw) (hx.trans h4.symm);subst this
   have h1 := (List.getElem?_eq_some_iff.1 hj);have h2 := (List.getElem?_eq_some_iff.1 hw)
   rcases Nat.lt_or_gt_of_ne e with hl | hl
   ·have := List.pairwise_iff_getElem.1 h i j (by rw [List.length_map]; exact h2.1) (by rw [List.length_map]; exact h1.1) hl;rw [List.getElem_map, List.getElem_map, h1.2, h2.2] at this
    omega
   ·have := List.pairwise_iff_getElem.1 h j i (by rw [List.length_map]; exact h1.1) (by rw [List.length_map]; exact h2.1) hl;rw [List.getElem_map, List.getElem_map, h1.2, h2.2] at this
    omega
theorem doPast_self (l : Lgs) (r : Nat) : ({ l with past := updF l.past r (l.past r) } : Lgs) = l := by rw [updF_self]
theorem counts_eff (h : (l.vs.map Vw.v).Pairwise (· < ·)) (m : Msg) : l.counts m = l.res (orgI m) (l.eff m) := by
 unfold Lgs.eff;by_cases h3 : m.body.kind = 3
 ·rw [Lgs.counts_3 h3, if_pos h3];split <;> rfl
 ·rw [if_neg h3];by_cases h4 : m.body.kind = 4
  ·rw [Lgs.counts_4 h4, if_pos h4];by_cases hp : primZ l.n m.body.view = m.origin
   ·rw [if_pos (decide_eq_true hp)];unfold Lgs.begins;by_cases h1 : m.body.q.length = (l.n - 1) / 2 + 1
    ·rw [if_neg (fun e => e h1)];have hqd : l.qAll m = (m.body.q.all fun q => decide (q.2 ≤ m.deps (q.1 - 1).toNat) && chB l q m.body.view) := rfl;have hbd : l.best m = bestQ l.past m.body.view m.body.q (0, 0) := rfl
     rw [← hqd, ← hbd]
     cases hq : l.qAll m with
     | false => rw [if_pos rfl, if_neg (fun e => by have := e.2.2.1; cases this)]; rfl
     | true =>
      rw [if_neg (by decide)]
      cases he : (l.past (orgI m)).enterOk m.body.view (l.best m).2 with
      | false => rw [if_pos rfl, if_neg (fun e => by have := e.2.2.2; cases this)]; rfl
      | true =>
       rw [if_neg (by decide), if_pos ⟨hp, h1, rfl, rfl⟩];show (true, _) = (true, ({ l with past := _, vs := insV ⟨m.body.view, m.number, l.pref (l.best m), []⟩ l.vs } : Lgs))
       have e : ((match vwAt l.vs (l.best m).1 with | none => [] | some i => (l.vs[i]?.map Vw.all).getD []).take (l.best m).2.toNat) = l.pref (l.best m) := by
        unfold Lgs.pref Lgs.vw
        cases hat : vwAt l.vs (l.best m).1 with
        | none => exact List.take_nil
        | some i =>
         show List.take _ ((l.vs[i]?.map Vw.all).getD []) = ((l.vs[i]?).map _).getD []
         cases l.vs[i]? with
         | none => exact List.take_nil
         | some w => rfl
       rw [← e];rfl
    ·rw [if_pos h1, if_neg (fun e => h1 e.2.1)]; rfl
   ·rw [if_neg (fun e => hp (of_decide_eq_true e)), if_neg (fun e => hp e.1)]; rfl
  ·rw [if_neg h4];by_cases h5 : m.body.kind = 5
   ·rw [if_pos h5]
    cases hv : l.vw m.body.view with
    | none => rw [Lgs.counts_5n h5 (vw_none.1 hv)]; rfl
    | some w =>
     obtain ⟨i, h1, h2⟩ := vw_at hv;rw [Lgs.counts_5 h5 h1 h2];show _ = l.res _ (if _ then _ else none);by_cases hd : m.deps (primI l.n m.body.view) < w.num
     ·rw [if_pos hd, if_neg (fun e => by have := e.1; omega)]; rfl
     ·rw [if_neg hd]
      cases he : (l.past (orgI m)).enterOk m.body.view (w.s.length : Nat) with
      | false =>
       rw [if_neg (fun e => by have := e.2; cases this)];show (false, l.doPast _ _) = (false, l);unfold PM.enter Lgs.doPast;rw [he];exact congrArg _ (doPast_self l _)
      | true => rw [if_pos ⟨by omega, rfl⟩]; rfl
   ·rw [if_neg h5];by_cases k1 : m.body.kind = 1
    ·rw [if_pos k1]
     cases hv : l.vw m.body.view with
     | none => rw [Lgs.counts_1n k1 (vw_none.1 hv)]; rfl
     | some w =>
      obtain ⟨i, h1, h2⟩ := vw_at hv;rw [Lgs.counts_1 k1 h1 h2];show _ = l.res _ (if _ then _ else none);by_cases hg : primZ l.n m.body.view = m.origin ∧ m.body.req.auth = true ∧ holdsB w.all m.body.req.client m.body.req.time = false ∧ (l.past (orgI m)).isOpen m.body.view = true
      ·rw [if_pos hg, if_neg]
       ·show (true, _) = (true, ({ l with past := _, vs := l.vs.map _ } : Lgs));rw [set_putV h h1 h2]
       ·rintro (e | e | e | e)
        ·exact absurd hg.1 (of_decide_eq_false e)
        ·rw [hg.2.1] at e; cases e
        ·rw [hg.2.2.1] at e; cases e
        ·rw [hg.2.2.2] at e; cases e
      ·rw [if_neg hg, if_pos]
       ·rfl
       ·by_cases e1 : primZ l.n m.body.view = m.origin
        ·cases e2 : m.body.req.auth with
         | false => exact .inr (.inl rfl)
         | true =>
          cases e3 : holdsB w.all m.body.req.client m.body.req.time with
          | true => exact .inr (.inr (.inl rfl))
          | false =>
           cases e4 : (l.past (orgI m)).isOpen m.body.view with
           | false => exact .inr (.inr (.inr rfl))
           | true => exact absurd ⟨e1, e2, e3, e4⟩ hg
        ·exact .inl (decide_eq_false e1)
    ·rw [if_neg k1];by_cases k2 : m.body.kind = 2
     ·rw [if_pos k2]
      cases hv : l.vw m.body.view with
      | none => rw [Lgs.counts_2n k2 (vw_none.1 hv)]; rfl
      | some w =>
       obtain ⟨i, h1, h2⟩ := vw_at hv;rw [Lgs.counts_2 k2 h1 h2];show _ = l.res _ (if _ then _ else none);by_cases hp : primZ l.n m.body.view = m.origin
       ·rw [if_pos (decide_eq_true hp), if_neg (fun e => e.1 hp)]; rfl
       ·rw [if_neg (fun e => hp (of_decide_eq_true e))]
        cases he : (l.past (orgI m)).commitOk m.body.view m.body.k (knowsV w (m.deps (primI l.n m.body.view)) : Nat) with
        | false =>
         rw [if_neg (fun e => by have := e.2; cases this)];show (false, l.doPast _ _) = (false, l);unfold PM.commit Lgs.doPast;rw [he];exact congrArg _ (doPast_self l _)
        | true => rw [if_pos ⟨hp, rfl⟩]; rfl
     ·rw [if_neg k2, Lgs.counts_x h3 h4 h5 k1 k2];by_cases k6 : m.body.kind = 6
      ·rw [if_pos k6, k6]; rfl
      ·rw [if_neg k6, decide_eq_false k6]; rfl
theorem prim_org (h : primZ n v = m.origin) : primI n v = orgI m := by unfold primZ at h; unfold orgI; omega
def CI (l : Lgs) : Prop := ∀ r c, c ∈ l.ch r → c.1 ≤ (l.past r).g
theorem CI.new (n : Nat) : CI (Lgs.new n) := fun r c h => by cases h
theorem CI.app (h : CI l) {r : Nat} {p : PM} (hg : (l.past r).g ≤ p.g) {ch : Nat → List (Int × Int)} (hc : (∀ s, s ≠ r → ch s = l.ch s) ∧ ∀ c ∈ ch r, c ∈ l.ch r ∨ c.1 ≤ p.g) : CI { l with past := updF l.past r p, ch := ch, vs := vs } := fun s c hs => by
 have hs : c ∈ ch s := hs
 show c.1 ≤ (updF l.past r p s).g
 by_cases e : s = r
 ·subst e
  rw [zae]
  rcases hc.2 c hs with h1 | h1
  ·have := h s c h1; omega
  ·exact h1
 ·rw [zaj _ _ e]
  rw [hc.1 s e] at hs
  exact h s c hs
theorem PM.change_g (s : PM) (v : Int) : s.g ≤ (s.change v).g := by
 unfold PM.change;split
 ·rename_i h
  have := of_decide_eq_true h;show s.g ≤ v
  omega
 ·exact Int.le_refl _
theorem PM.enter_gg (s : PM) (v k : Int) : s.g ≤ (s.enter v k).g := by
 unfold PM.enter;split
 ·rename_i h
  have := (PM.enterOk_lt h).2;exact this
 ·exact Int.le_refl _
theorem PM.prepare_g (s : PM) (v : Int) : (s.prepare v).g = s.g := by unfold PM.prepare; split <;> rfl
theorem PM.commit_g (s : PM) (v k most : Int) : (s.commit v k most).g = s.g := by unfold PM.commit; split <;> rfl
theorem eff_cases {e : Eff} (h : l.eff m = some e) :
  (e = .no) ∨
  (∃ c, e = .chg ((l.past (orgI m)).change m.body.view) c ∧ c = (m.body.view, m.number) ∧ (l.past (orgI m)).changeOk m.body.view = true) ∨
  (primZ l.n m.body.view = m.origin ∧ l.qAll m = true ∧ (l.past (orgI m)).enterOk m.body.view (l.best m).2 = true ∧ e = .beg ((l.past (orgI m)).enter m.body.view (l.best m).2) ⟨m.body.view, m.number, l.pref (l.best m), []⟩) ∨
  (∃ k, (l.past (orgI m)).enterOk m.body.view k = true ∧ e = .past ((l.past (orgI m)).enter m.body.view k)) ∨
  (primZ l.n m.body.view = m.origin ∧ (l.past (orgI m)).isOpen m.body.view = true ∧ (∃ w, l.vw m.body.view = some w) ∧ e = .prep ((l.past (orgI m)).prepare m.body.view) m.body.view (m.number, m.body.req)) ∨
  (∃ k most, (l.past (orgI m)).commitOk m.body.view k most = true ∧ e = .past ((l.past (orgI m)).commit m.body.view k most)) := by
 unfold Lgs.eff at h;split at h
 ·split at h
  ·rename_i hc
   cases h
   exact .inr (.inl ⟨_, rfl, rfl, hc⟩)
  ·cases h
 ·split at h
  ·split at h
   ·rename_i hc
    cases h
    exact .inr (.inr (.inl ⟨hc.1, hc.2.2.1, hc.2.2.2, rfl⟩))
   ·cases h
  ·split at h
   ·split at h
    ·cases h
    ·split at h
     ·rename_i hc
      cases h
      exact .inr (.inr (.inr (.inl ⟨_, hc.2, rfl⟩)))
     ·cases h
   ·split at h
    ·split at h
     ·cases h
     ·rename_i w hw
      split at h
      ·rename_i hc
       cases h
       exact .inr (.inr (.inr (.inr (.inl ⟨hc.1, hc.2.2.2, ⟨w, hw⟩, rfl⟩))))
      ·cases h
    ·split at h
     ·split at h
      ·cases h
      ·split at h
       ·rename_i hc
        cases h
        exact .inr (.inr (.inr (.inr (.inr ⟨_, _, hc.2, rfl⟩))))
       ·cases h
     ·split at h
      ·cases h; exact .inl rfl
      ·cases h
theorem CI.counts (h : CI l) (hr : (l.vs.map Vw.v).Pairwise (· < ·)) (m : Msg) : CI (l.counts m).2 := by
 rw [counts_eff hr]
 cases he : l.eff m with
 | none => exact h
 | some e =>
  show CI (l.app (orgI m) e);have hsame : (∀ s, s ≠ orgI m → l.ch s = l.ch s) ∧ ∀ c ∈ l.ch (orgI m), c ∈ l.ch (orgI m) ∨ c.1 ≤ (0 : Int) := ⟨fun _ _ => rfl, fun c hc => .inl hc⟩;have hsm : ∀ p : PM, (∀ s, s ≠ orgI m → l.ch s = l.ch s) ∧ ∀ c ∈ l.ch (orgI m), c ∈ l.ch (orgI m) ∨ c.1 ≤ p.g := fun p => ⟨fun _ _ => rfl, fun c hc => .inl hc⟩
  rcases eff_cases he with rfl | ⟨c, rfl, hc, hok⟩ | ⟨_, _, _, rfl⟩ | ⟨k, _, rfl⟩ | ⟨_, _, _, rfl⟩ | ⟨k, most, _, rfl⟩
  ·exact h
  ·refine h.app (ch := updF l.ch (orgI m) (l.ch (orgI m) ++ [c])) (PM.change_g _ _) ⟨fun s hs => zaj _ _ hs, fun d hd => ?_⟩;rw [zae] at hd;rcases List.mem_append.1 hd with h1 | h1
   ·exact .inl h1
   ·rw [List.mem_singleton.1 h1, hc];refine .inr ?_;unfold PM.change;rw [if_pos hok];exact Int.le_refl _
  ·exact h.app (PM.enter_gg _ _ _) (hsm _)
  ·exact h.app (PM.enter_gg _ _ _) (hsm _)
  ·exact h.app (Int.le_of_eq (PM.prepare_g _ _).symm) (hsm _)
  ·exact h.app (Int.le_of_eq (PM.commit_g _ _ _ _).symm) (hsm _)
structure Rdy (l : Lgs) (m : Msg) : Prop where
 may : m.may = true
 org : m.origin ≤ (l.n : Int)
 q : qIn l.n m = true
 v : 0 ≤ m.body.view
 num : m.number = l.known (orgI m) + 1
 dep : ∀ i, i < 11 → m.deps i ≤ l.known i
theorem Rdy.min (h : Rdy l m) : MIn l.n m := may_MIn h.may h.org h.q h.v
theorem Rdy.take {l : Lgs} {m : Msg} (h : Rdy l m) : l.take m = (((l.counts m).1, 0), { (l.counts m).2 with known := updF l.known (orgI m) (l.known (orgI m) + 1) }) := by
 have hk := (l.counts_nk m).2;unfold Lgs.take
 rw [if_neg, if_neg, hk]
 ·rintro (e | e)
  ·exact e h.num
  ·have : depsIn m l.known = true := by
    unfold depsIn;rw [List.all_eq_true];intro i hi;exact decide_eq_true (h.dep i (List.mem_range.1 hi))
   rw [this] at e; cases e
 ·rintro (e | e | e)
  ·rw [h.may] at e; cases e
  ·have := h.org; omega
  ·rw [h.q] at e; cases e
structure Near (l l2 : Lgs) (o : Nat) (num : Int) : Prop where
 n : l2.n = l.n
 past : ∀ r, r ≠ o → l2.past r = l.past r
 ch : ∀ r, r ≠ o → l2.ch r = l.ch r
 cho : l2.ch o = l.ch o ∨ ∃ v, l2.ch o = l.ch o ++ [(v, num)]
 votes : ∀ bv, bv ≤ (l.past o).g → ∀ a, bestOf bv (l2.past o).all a = bestOf bv (l.past o).all a
 old : ∀ v w, l.vw v = some w → l2.vw v = some w ∨ (primI l.n v = o ∧ ∃ y, y.1 = num ∧ l2.vw v = some { w with p := w.p ++ [y] })
 new : ∀ v, l.vw v = none → l2.vw v = none ∨ (primI l.n v = o ∧ ∃ w, l2.vw v = some w ∧ w.num = num)
theorem Near.refl (l : Lgs) (o : Nat) (num : Int) : Near l l o num :=
 ⟨rfl, fun _ _ => rfl, fun _ _ => rfl, .inl rfl, fun _ _ _ => rfl, fun _ _ h => .inl h, fun _ h => .inl h⟩
theorem bestOf_app (bv : Int) : ∀ (l r : List (Int × Int)) (a : Int × Int), bestOf bv (l ++ r) a = bestOf bv r (bestOf bv l a)
 | [], r, a => rfl
 | x :: l, r, a => by
  show bestOf bv (x :: (l ++ r)) a = bestOf bv r (bestOf bv (x :: l) a)
  rw [bestOf_cons, bestOf_cons]
  exact bestOf_app bv l r _
theorem bestOf_above {x : Int × Int} (h : bv ≤ x.1) (a : Int × Int) : bestOf bv [x] a = a := by
 rw [bestOf_cons, if_neg (fun e => by have := e.1; omega)];rfl
variable {o : Nat}
theorem near_past {num : Int} {p : PM} (hv : ∀ bv, bv ≤ (l.past o).g → ∀ a, bestOf bv p.all a = bestOf bv (l.past o).all a) : Near l { l with past := updF l.past o p } o num :=
 ⟨rfl, fun r hr => zaj _ _ hr, fun _ _ => rfl, .inl rfl, fun bv hb a => by show bestOf bv (updF l.past o p o).all a = _; rw [zae]; exact hv bv hb a, fun _ _ h => .inl h, fun _ h => .inl h⟩
theorem rise_put (h : (vs.map Vw.v).Pairwise (· < ·)) (v : Int) (y : Int × Req) : ((vs.map (putV v y)).map Vw.v).Pairwise (· < ·) := by
 have e : (vs.map (putV v y)).map Vw.v = vs.map Vw.v := by
  rw [List.map_map];exact List.map_congr_left fun w _ => putV_v v y w
 rw [e]; exact h
variable {l2 : Lgs}
theorem vw_put (h : (l.vs.map Vw.v).Pairwise (· < ·)) {y : Int × Req} (h2 : l2.vs = l.vs.map (putV v y)) (u : Int) : l2.vw u = (l.vw u).map (putV v y) := by
 have hr2 : (l2.vs.map Vw.v).Pairwise (· < ·) := by rw [h2]; exact rise_put h v y
 cases hv : l.vw u with
 | none =>
  show _ = none;refine vw_none.2 (vwAt_none.2 fun w hw e => ?_);rw [h2] at hw;obtain ⟨z, hz, rfl⟩ := List.mem_map.1 hw;rw [putV_v] at e;exact vw_no hv z hz e
 | some w =>
  obtain ⟨h1, hm⟩ := vw_v hv; have hm2 : putV v y w ∈ l2.vs := by rw [h2]; exact List.mem_map.2 ⟨w, hm, rfl⟩
  have := vw_mem hr2 hm2;rw [putV_v, h1] at this
  exact this
theorem vw_ins (h2 : l2.vs = insV w l.vs) (hr2 : (l2.vs.map Vw.v).Pairwise (· < ·)) (u : Int) : l2.vw u = if u = w.v then some w else l.vw u := by
 have hperm := zbm w l.vs
 have hr : (l.vs.map Vw.v).Pairwise (· < ·) := by
  have : l.vs.Sublist l2.vs := by
   rw [h2];unfold insV; conv => lhs; rw [← List.take_append_drop (insK w.v l.vs) l.vs]
   exact List.Sublist.append_left (List.sublist_cons_self _ _) _
  exact List.Pairwise.sublist (this.map Vw.v) hr2
 split
 ·rename_i e
  have : w ∈ l2.vs := by rw [h2]; exact hperm.mem_iff.1 List.mem_cons_self
  rw [e];exact vw_mem hr2 this
 ·rename_i e
  cases hv : l.vw u with
  | none =>
   refine vw_none.2 (vwAt_none.2 fun x hx e2 => ?_);rw [h2] at hx;rcases List.mem_cons.1 (hperm.mem_iff.2 hx) with rfl | hx
   ·exact e e2.symm
   ·exact vw_no hv x hx e2
  | some x =>
   obtain ⟨h1, hm⟩ := vw_v hv; have : x ∈ l2.vs := by rw [h2]; exact hperm.mem_iff.1 (List.mem_cons_of_mem _ hm)
   have := vw_mem hr2 this;rw [h1] at this
   exact this
theorem near (h : LI l T) (hm : MIn l.n m) : Near l (l.counts m).2 (orgI m) m.number := by
 have hor := hm.o; have hr : orgI m < l.n := by unfold orgI; omega
 have hwf := h.wf _ hr;have hL2 := (h.counts hm).rise
 rw [counts_eff h.rise] at hL2 ⊢
 cases he : l.eff m with
 | none => exact Near.refl l _ _
 | some e =>
  rw [he] at hL2;have hL2 : ((l.app (orgI m) e).vs.map Vw.v).Pairwise (· < ·) := hL2;show Near l (l.app (orgI m) e) _ _
  have hent : ∀ k, (l.past (orgI m)).enterOk m.body.view k = true → ∀ bv, bv ≤ (l.past (orgI m)).g → ∀ a, bestOf bv ((l.past (orgI m)).enter m.body.view k).all a = bestOf bv (l.past (orgI m)).all a := fun k hk bv hb a => by
   have h2 := (PM.enterOk_lt hk).2;rw [(PM.enter_all hk).1, bestOf_app, bestOf_above]
   show bv ≤ m.body.view;omega
  have hbump : (l.past (orgI m)).isOpen m.body.view = true → ∀ bv, bv ≤ (l.past (orgI m)).g → ∀ a, bestOf bv ({ l.past (orgI m) with ln := (l.past (orgI m)).ln + 1 } : PM).all a = bestOf bv (l.past (orgI m)).all a := fun hk bv hb a => by
   have h2 := PM.open_g hk;rw [PM.bump_all]
   show _ = bestOf bv ((l.past (orgI m)).init ++ [((l.past (orgI m)).lv, (l.past (orgI m)).ln)]) a;rw [bestOf_app, bestOf_app, bestOf_above (by show bv ≤ (l.past (orgI m)).lv; omega), bestOf_above (by show bv ≤ (l.past (orgI m)).lv; omega)]
  rcases eff_cases he with rfl | ⟨c, rfl, hc, hok⟩ | ⟨hp, _, hok, rfl⟩ | ⟨k, hok, rfl⟩ | ⟨hp, hok, ⟨w0, hw0⟩, rfl⟩ | ⟨k, most, hok, rfl⟩
  ·exact Near.refl l _ _
  ·refine ⟨rfl, fun r hr => zaj _ _ hr, fun r hr => zaj _ _ hr, .inr ⟨m.body.view, by rw [← hc]; exact zae _ _ _⟩, fun bv hb a => ?_, fun _ _ h => .inl h, fun _ h => .inl h⟩;show bestOf bv (updF l.past (orgI m) _ (orgI m)).all a = _;rw [zae, (PM.change_all _ _).1]
  ·have hnew : l.vw m.body.view = none := by
    have hpi := prim_org hp;refine vw_none.2 (h.fresh (k := (l.best m).2) (by rw [hpi]; exact hr) (by rw [hpi]; exact hok))
   have hvi := fun u => vw_ins (l := l) (l2 := l.app (orgI m) (.beg ((l.past (orgI m)).enter m.body.view (l.best m).2) ⟨m.body.view, m.number, l.pref (l.best m), []⟩)) rfl hL2 u;refine ⟨rfl, fun r hr => zaj _ _ hr, fun _ _ => rfl, .inl rfl, fun bv hb a => ?_, fun v w hw => .inl ?_, fun v hv => ?_⟩
   ·show bestOf bv (updF l.past (orgI m) _ (orgI m)).all a = _;rw [zae];exact hent _ hok bv hb a
   ·rw [hvi, if_neg]
    ·exact hw
    ·show ¬ v = m.body.view;rintro rfl;rw [hnew] at hw; cases hw
   ·rw [hvi];by_cases e : v = m.body.view
    ·refine .inr ⟨by rw [e]; exact prim_org hp, _, if_pos e, rfl⟩
    ·refine .inl ?_;rw [if_neg e]; exact hv
  ·exact near_past (hent k hok)
  ·have hpr : (l.past (orgI m)).prepare m.body.view = { l.past (orgI m) with ln := (l.past (orgI m)).ln + 1 } := by unfold PM.prepare; rw [if_pos hok]
   have hvp := fun u => vw_put (l := l) (l2 := l.app (orgI m) (.prep ((l.past (orgI m)).prepare m.body.view) m.body.view (m.number, m.body.req))) h.rise rfl u;refine ⟨rfl, fun r hr => zaj _ _ hr, fun _ _ => rfl, .inl rfl, fun bv hb a => ?_, fun v w hw => ?_, fun v hv => .inl ?_⟩
   ·show bestOf bv (updF l.past (orgI m) _ (orgI m)).all a = _;rw [zae, hpr];exact hbump hok bv hb a
   ·rw [hvp, hw];show some (putV _ _ w) = _ ∨ (_ ∧ ∃ y, _ ∧ some (putV _ _ w) = _);unfold putV;by_cases e : w.v = m.body.view
    ·rw [if_pos e];refine .inr ⟨?_, _, rfl, rfl⟩;rw [← (vw_v hw).1, e];exact prim_org hp
    ·rw [if_neg e];exact .inl rfl
   ·rw [hvp, hv]; rfl
  ·have hc := of_decide_eq_true (show decide _ = true from hok);have hop : (l.past (orgI m)).isOpen m.body.view = true := decide_eq_true hc.1
   have hpr : (l.past (orgI m)).commit m.body.view k most = { l.past (orgI m) with ln := (l.past (orgI m)).ln + 1 } := by unfold PM.commit; rw [if_pos hok]
   rw [hpr];exact near_past (hbump hop)
theorem knows_put (w : Vw) (y : Int × Req) {d : Int} (h : d < y.1) : knowsV { w with p := w.p ++ [y] } d = knowsV w d := by
 unfold knowsV;show w.s.length + ((w.p ++ [y]).filter _).length = _;rw [List.filter_append, List.filter_cons, if_neg (by rw [decide_eq_true_eq]; omega)];simp
theorem pref_put (w : Vw) (y : Int × Req) {k : Nat} (h : k ≤ w.all.length) : (({ w with p := w.p ++ [y] } : Vw).all).take k = w.all.take k := by
 rw [Vw.put_all, List.take_append_of_le_length h]
theorem stable (h : LI l T) (hC : CI l) {num : Int} (hN : Near l l2 o num) (hm : MIn l.n m) (ho : orgI m ≠ o) (ho11 : o < 11) (hd : m.deps o < num) : l2.eff m = l.eff m := by
 have hor := hm.o; have hr : orgI m < l.n := by unfold orgI; omega
 have hp := hN.past _ ho; have hpo : ∀ v, primZ l.n v = m.origin → primI l.n v ≠ o := fun v hv => by rw [prim_org hv]; exact ho
 have hchB : ∀ q : Int × Int, (decide (q.2 ≤ m.deps (q.1 - 1).toNat) && chB l2 q m.body.view) = (decide (q.2 ≤ m.deps (q.1 - 1).toNat) && chB l q m.body.view) := fun q => by
  by_cases e : (q.1 - 1).toNat = o
  ·rcases hN.cho with h1 | ⟨v, h1⟩
   ·unfold chB; rw [e, h1]
   ·by_cases e2 : q.2 ≤ m.deps (q.1 - 1).toNat
    ·have : chB l2 q m.body.view = chB l q m.body.view := by
      unfold chB;rw [e, h1, List.any_append]; have : ¬ num = q.2 := by rw [e] at e2; omega
      simp [this]
     rw [this]
    ·rw [decide_eq_false e2]; rfl
  ·unfold chB; rw [hN.ch _ e]
 have hq : l2.qAll m = l.qAll m := by
  unfold Lgs.qAll;exact congrArg (fun g => m.body.q.all g) (funext hchB)
 unfold Lgs.eff;rw [hp, hN.n, hq];split
 ·rfl
 ·split
  ·cases hqa : l.qAll m with
   | false => rw [if_neg (fun e => by have := e.2.2.1; cases this), if_neg (fun e => by have := e.2.2.1; cases this)]
   | true =>
    have hb : l2.best m = l.best m := by
     unfold Lgs.best
     have : ∀ (q : List (Int × Int)), (∀ x ∈ q, chB l x m.body.view = true) → ∀ a, bestQ l2.past m.body.view q a = bestQ l.past m.body.view q a := by
      intro q
      induction q with
      | nil => intro _ a; rfl
      | cons x r ih =>
       intro hx a;rw [bestQ_cons, bestQ_cons]
       have e : bestOf m.body.view (l2.past (x.1 - 1).toNat).all a = bestOf m.body.view (l.past (x.1 - 1).toNat).all a := by
        by_cases e : (x.1 - 1).toNat = o
        ·have h1 := hx x (by simp);unfold chB at h1
         rw [List.any_eq_true] at h1;obtain ⟨c, hc, h2⟩ := h1;rw [Bool.and_eq_true] at h2;have h3 := of_decide_eq_true h2.1;have h4 := hC _ c hc
         rw [e] at h4 ⊢;exact hN.votes _ (by omega) a
        ·rw [hN.past _ e]
       rw [e];exact ih (fun y hy => hx y (List.mem_cons_of_mem _ hy)) _
     refine this _ (fun x hx => ?_) _
     have := List.all_eq_true.1 hqa x hx;rw [Bool.and_eq_true] at this
     exact this.2
    have hpf : l2.pref (l.best m) = l.pref (l.best m) := by
     obtain ⟨i, w, h1, h2, h3, h4⟩ := h.best hm; have hw : l.vw (l.best m).1 = some w := by unfold Lgs.vw; unfold Lgs.best; rw [h1]; exact h2
     unfold Lgs.pref;rcases hN.old _ _ hw with h5 | ⟨_, y, _, h5⟩
     ·rw [h5, hw]
     ·rw [h5, hw];show (({ w with p := w.p ++ [y] } : Vw).all).take _ = w.all.take _;refine pref_put w y ?_;unfold Lgs.best;omega
    rw [hb, hpf]
  ·split
   ·cases hv : l.vw m.body.view with
    | none =>
     rcases hN.new _ hv with h1 | ⟨h1, w, h2, h3⟩
     ·rw [h1]
     ·rw [h2];show (if _ then _ else none) = none;rw [if_neg];rintro ⟨e, _⟩;rw [h1, h3] at e;omega
    | some w =>
     rcases hN.old _ _ hv with h1 | ⟨_, y, _, h1⟩
     ·rw [h1]
     ·rw [h1]
   ·split
    ·by_cases hpz : primZ l.n m.body.view = m.origin
     ·have hne := hpo _ hpz
      cases hv : l.vw m.body.view with
      | none =>
       rcases hN.new _ hv with h1 | ⟨h1, _⟩
       ·rw [h1]
       ·exact absurd h1 hne
      | some w =>
       rcases hN.old _ _ hv with h1 | ⟨h1, _⟩
       ·rw [h1]
       ·exact absurd h1 hne
     ·cases l.vw m.body.view with
      | none =>
       cases l2.vw m.body.view with
       | none => rfl
       | some w => show (if _ then _ else none) = none; rw [if_neg (fun e => hpz e.1)]
      | some w0 =>
       show _ = (if _ then _ else none);rw [if_neg (fun e => hpz e.1)]
       cases l2.vw m.body.view with
       | none => rfl
       | some w => show (if _ then _ else none) = none; rw [if_neg (fun e => hpz e.1)]
    ·split
     ·cases hv : l.vw m.body.view with
      | none =>
       rcases hN.new _ hv with h1 | ⟨h1, w, h2, h3⟩
       ·rw [h1]
       ·rw [h2];show (if _ then _ else none) = none;rw [if_neg];rintro ⟨_, e⟩;have e := of_decide_eq_true (show decide _ = true from e);obtain ⟨x, hx, h4, _⟩ := h.log _ hr ((l.past (orgI m)).lv, (l.past (orgI m)).ln) (by unfold PM.all; simp)
        exact vw_no hv x hx (h4.trans e.1.2.symm)
      | some w =>
       rcases hN.old _ _ hv with h1 | ⟨hpi, y, hy, h1⟩
       ·rw [h1]
       ·rw [h1];show (if _ ∧ PM.commitOk _ _ _ ((knowsV { w with p := w.p ++ [y] } _ : Nat) : Int) = true then some (Eff.past (PM.commit _ _ _ ((knowsV { w with p := w.p ++ [y] } _ : Nat) : Int))) else none) = _;rw [knows_put w y (d := m.deps (primI l.n m.body.view)) (by rw [hpi, hy]; exact hd)]
     ·rfl
variable {y : Operand}
section
variable {P : Program} {base : World} {n : Nat} {L : Env} {f : Frag} {A : List HP} {q : Post} {l : List Oper} {d : Nat} {ty : TypeId} {pos : String} {af : Array Edge} {gd : Option (Nat × Bool)} {listed : Array Bool} {fuel : Nat}
theorem HN.pure {i : Nat} {op : Op} {v : Value} (hc : pureB l listed i = true) (ho : getO l i = some ⟨some d, op, ty, pos, af, gd⟩) (hw : want? l L gd = true) (hd : Nat.ble (d + 1) n = true)
  (hx : ∀ a w, Fr n a L → (execOp a.eval ⟨some d, op, ty, pos, af, gd⟩).run P w = .ok (.value v) w)
  (k : HN (listed.setIfInBounds i true) fuel P base n ((d, v) :: L) f A (.ops l [] q)) : HN listed (fuel + 1) P base n L f A (.ops l [] q) := .mk fun l' q' hK hs hb a w hf s => by
 simp only [Kont.ops.injEq] at hK
 obtain ⟨rfl, _, rfl⟩ := hK
 simp only [pureB, Bool.and_eq_true] at hc
 obtain ⟨⟨⟨⟨⟨h1, h2⟩, h3⟩, h4⟩, h5⟩, h6⟩ := hc
 have h5' : listed.size = l.toArray.size := by simpa using Nat.eq_of_beq_eq_true h5
 have h6' : l.toArray.size ≠ 0 := by
  have := Nat.le_of_ble_eq_true h6;simp only [List.size_toArray]; omega
 have hk := k.out l q rfl hs hb (a.put (some d) v) w (hf.put (Nat.le_of_ble_eq_true hd) v) s
 have hk2 := wpAnyC_true h6' _ _ _ _ (by simpa using h5') hk
 exact wpAnyC.any _ _ _ _ (wpAnyC_take (C := fun _ => True) (cut := #[]) (oi := ⟨some d, op, ty, pos, af, gd⟩) (v := v) (by rw [List.getElem?_toArray, ← getO_eq]; exact ho) hs h2 h3 h4 h1 (fun c a w h => hb c a _ _ w h) (.inl ⟨hf.want hw, fun w' _ => hx _ _ hf⟩) hk2)
theorem HN.ar {i : Nat} {op : BinOp} {xt yt : TypeId} {x : Operand} {k : IntKind} {p p2 r z : Int} (hc : pureB l listed i = true) (ho : getO l i = some ⟨some d, .binOp op xt x y yt, ty, pos, af, gd⟩) (hw : want? l L gd = true) (hx : ev? L x = some (.int k p)) (hy : ev? L y = some (.int k p2)) (ha : arP op k p p2 = some r) (hz : r = z) (hd : Nat.ble (d + 1) n = true)
  (kk : HN (listed.setIfInBounds i true) fuel P base n ((d, .int k z) :: L) f A (.ops l [] q)) : HN listed (fuel + 1) P base n L f A (.ops l [] q) :=
 HN.pure hc ho hw hd (fun a w hf => by
  cases op <;> simp only [arP, Option.some.injEq, reduceCtorEq] at ha <;> subst ha <;> subst hz <;>
   simp [execOp, eqGuard, binOp, Op.intArith, hf.eval hx, hf.eval hy]) kk
theorem H.indexS {rest : List Oper} {t : TypeId} {i : Nat} {x : Operand} {s : ByteArray} {ik : IntKind} {z : Int} {b : UInt8} [hu : Und P t .string] (hw : want? l L gd = true)
  (hx : ev? L x = some (.string s)) (hy : ev? L y = some (.int ik z)) (hq : z = (i : Nat)) (hb : s[i]? = some b) (hd : Nat.ble (d + 1) n = true)
  (k : H P base n ((d, .int .u8 (b.toNat : Nat)) :: L) f A (.ops l rest q)) : H P base n L f A (.ops l (⟨some d, .index t x y, ty, pos, af, gd⟩ :: rest) q) :=
 H.opV hw hd (fun a w hf _ => by
  subst hq
  have h1 := hu.run w
  have hi2 : (0 : Int) ≤ (i : Int) := by omega
  simp only [execOp, hf.eval hx, hf.eval hy, Instr.index, asIntOf, Sem.run_bind, Sem.run_pure, Result.andThen_ok, h1, hi2, if_true, Int.toNat_natCast, hb]) k
end
open Go.Sort (swp ltInt insInner insOuter insertionSort)
def uV (z : Int) : List Value := [.int .u64 z]
theorem uV_len (z : Int) : (uV z).length = 1 := rfl
def arr (d : Array Int) : List Value := d.toList.flatMap uV
theorem zbh (d : Array Int) (i j : Nat) : (swp d i j).size = d.size := by unfold swp; simp
variable {d : Array Int}
theorem arr_get {i : Nat} (h : i < d.size) : d.toList[i]? = some d[i]! := by
 rw [Array.getElem?_toList, getElem!_pos d i h]; simp [h]
theorem arr_map (d : Array Int) : arr d = d.toList.map fun z => .int .u64 z := by
 unfold arr
 induction d.toList with
 | nil => rfl
 | cons x r ih => rw [List.flatMap_cons, ih]; rfl
theorem zaq {i : Nat} (h : i < d.size) (z : Int) : SetV (arr d) (i * 1) (.int .u64 z) (arr (d.setIfInBounds i z)) := by
 have e : arr (d.setIfInBounds i z) = (arr d).set i (.int .u64 z) := by rw [arr_map, arr_map, Array.toList_setIfInBounds, List.map_set]
 rw [e, Nat.mul_one];exact SetV.mk _ (by rw [arr_map, List.length_map]; simpa using h)
theorem Rd.arr {A A' : List HP} (h : At A (slc (some ⟨b, 0, none⟩) n c 31 1 (arr d)) A' (slc (some ⟨b, 0, none⟩) n c 31 1 (arr d))) {i : Nat} (hi : i < d.size) : Rd1 f A b (i * 1) (.int .u64 d[i]!) :=
 Rd1.of (i := 0) (Rd.slcElem (vals := uV) (xs := d.toList) uV_len (by decide) h (arr_get hi)) rfl
variable {a : Nat} {d0 : Array Int}
section
variable (f : Frag) (F : List HP)
theorem nan_fn (x : Int) : Fn Tryz.prog 186 [.int .u64 x] f F (Ret (.bool false) f F) := by
 refine Fn.e1 Tryz.func186 Tryz.ntmps186 fun base => ?_;exact qbN
theorem zbx (x y : Int) : Fn Tryz.prog 139 [.int .u64 x, .int .u64 y] f F (Ret (.bool (ltInt x y)) f F) := by
 refine Fn.e2 Tryz.func139 Tryz.ntmps139 fun base => ?_;refine gK ?_;refine H.Ag rfl rfl rfl (nan_fn f _ x) ?_;refine gR ?_;exact qao
theorem insSort_fn (hd0 : d0.size = n) (hn : n ≤ 1000000) (hb : b ≤ n) (ha : a ≤ n) :
  Fn Tryz.prog 133 [.slice p n c, .int .i64 (a : Int), .int .i64 (b : Int)] f (slc p n c 31 1 (arr d0) :: F) (Ret (.tuple #[]) f (slc p n c 31 1 (arr (insertionSort ltInt d0 a b)) :: F)) := by
 refine Fn.e3 Tryz.func133 Tryz.ntmps133 fun base => ?_;refine gE ?_
 refine H.lo (ι := Nat × Array Int) (fun s => [(6, .int .i64 (s.1 : Int)), (0, .slice p n c), (1, .int .i64 (a : Int)), (2, .int .i64 (b : Int))]) (fun _ => f) (fun s => slc p n c 31 1 (arr s.2) :: F)
  (fun s => s.1 ≤ n + 1 ∧ s.2.size = n ∧ insOuter ltInt a b s.1 s.2 = insertionSort ltInt d0 a b) (fun s => b - s.1) (a + 1, d0) ⟨by show a + 1 ≤ n + 1; omega, hd0, rfl⟩ fun s hs => ?_
 obtain ⟨i, d1⟩ := s;obtain ⟨hi, hd1, hR⟩ : i ≤ n + 1 ∧ d1.size = n ∧ insOuter ltInt a b i d1 = insertionSort ltInt d0 a b := hs;show H _ _ _ [(6, .int .i64 (i : Int)), _, _, _] f (slc p n c _ 1 (arr d1) :: F) _;rw [insOuter] at hR;by_cases hlt : i < b
 ·rw [if_pos hlt] at hR;refine gH ?_
  refine H.lo (ι := Nat × Array Int) (fun s => [(7, .int .i64 (s.1 : Int)), (6, .int .i64 (i : Int)), (0, .slice p n c), (1, .int .i64 (a : Int)), (2, .int .i64 (b : Int))]) (fun _ => f) (fun s => slc p n c 31 1 (arr s.2) :: F)
   (fun s => s.1 ≤ i ∧ s.2.size = n ∧ insInner ltInt a s.1 s.2 = insInner ltInt a i d1) (fun s => s.1) (i, d1) ⟨Nat.le_refl i, hd1, rfl⟩ fun s hs => ?_
  obtain ⟨k, d⟩ := s;obtain ⟨hk, hd, hr⟩ : k ≤ i ∧ d.size = n ∧ insInner ltInt a k d = insInner ltInt a i d1 := hs;show H _ _ _ [(7, .int .i64 (k : Int)), _, _, _, _] f (slc p n c _ 1 (arr d) :: F) _;refine qdK fun sb hp => ?_;subst hp;by_cases hka : a < k
  ·obtain ⟨j, rfl⟩ : ∃ j, k = j + 1 := ⟨k - 1, by omega⟩;rw [insInner] at hr;have hja : decide (j + 1 > a) = true := decide_eq_true hka;rw [hja, Bool.true_and] at hr
   refine qfG ?_;refine HB.qu [0,1,2,3,4,5,6,7,8,9,10,11,12] 2 ?_;refine gV ?_;refine HQ.Am (i := j + 1) rfl rfl rfl rfl (by omega) rfl ?_;refine qcK ?_;refine gV ?_;refine qfs ?_;refine qcK ?_;refine qcS ?_;refine HB.ev 13 ?_;refine H.Ag rfl rfl rfl (zbx f _ d[j + 1]! d[j]!) ?_;refine qcH ?_;refine HB.qu [14] 0 ?_;refine qeP ?_
   cases hlj : ltInt d[j + 1]! d[j]! with
   | false =>
    rw [hlj, if_neg (by decide)] at hr;rw [← hr] at hR;exact qcd
   | true =>
    rw [hlj, if_pos rfl] at hr;refine gg ?_;refine H.drawN (by kernel_rfl) (by decide +kernel) (by repeat (first | exact zac | refine zab ?_ | refine zag ?_ | refine zai ?_)) ?_;refine qcU ?_;refine HN.ar (i := 4) (z := ((j : Nat) : Int)) (by kernel_rfl) rfl rfl rfl rfl rfl (by rw [wr_i64 (by omega)]; omega) rfl ?_;refine qee ?_;refine qfs ?_;refine qfq ?_;refine HQ.Am (i := j + 1) rfl rfl rfl (by omega) (by omega) rfl ?_;refine qcK ?_;refine qd ?_;refine HB.qu [14] 3 ?_;refine HQ.Am (i := j + 1) rfl rfl rfl (by omega) (by omega) rfl ?_;refine qgH ?_;refine qfs ?_;refine qcS ?_;refine HB.ev 17 ?_;refine qcP ?_;show H _ _ _ _ f (slc (some ⟨sb, 0, none⟩) n c _ 1 (arr (swp d (j + 1) (j))) :: _) _;refine gE ?_;exact H.ag (j, swp d (j + 1) j) ⟨by show j ≤ i; omega, by rw [zbh]; exact hd, hr⟩ (by show j < j + 1; omega)
  ·have hr2 : insInner ltInt a k d = d := by
    cases k with
    | zero => rfl
    | succ j => rw [insInner, if_neg (by rw [decide_eq_false (by omega), Bool.false_and]; decide)]
   rw [hr2] at hr;rw [← hr] at hR;refine qfG ?_;refine HB.qu [0,1,2,3,4,5,6,7,8,9,10,11,12] 2 ?_;refine gI ?_;refine qcS ?_;refine HB.ev 13 ?_;refine qeI ?_;refine HB.qu [14] 0 ?_;refine qeL ?_;exact qcd
 ·rw [if_neg hlt] at hR;rw [← hR];refine ga ?_;exact qaT
end
open Go.Sort (swp ltInt insInner insOuter insertionSort siftDown heapBuild heapPop heapSort reverseLoop reverseRange scanUp scanDown partLoop partEqLoop scanSorted shiftDown shiftUp partialIns partialInsertionSort)
variable {hi : Nat}
section
variable (f : Frag) (F : List HP)
theorem siftDown_step {first root : Nat} (h : 2 * root + 1 < hi) : ∃ ch, (ch = 2 * root + 1 ∨ ch = 2 * root + 2) ∧ ch < hi ∧ ((2 * root + 2 < hi ∧ ltInt d[first + (2 * root + 1)]! d[first + (2 * root + 1) + 1]! = true) ↔ ch = 2 * root + 2) ∧
  siftDown ltInt hi first root d = if ltInt d[first + root]! d[first + ch]! = true then siftDown ltInt hi first ch (swp d (first + root) (first + ch)) else d := by
 rw [siftDown, dif_neg (by omega)];by_cases h2 : 2 * root + 2 < hi ∧ ltInt d[first + (2 * root + 1)]! d[first + (2 * root + 1) + 1]! = true
 ·rw [if_pos (by rw [Bool.and_eq_true]; exact ⟨decide_eq_true h2.1, h2.2⟩)];refine ⟨2 * root + 2, .inr rfl, h2.1, ⟨fun _ => rfl, fun _ => h2⟩, ?_⟩
  cases ltInt d[first + root]! d[first + (2 * root + 2)]! with
  | false => rfl
  | true => rw [dif_pos h2.1]; rfl
 ·rw [if_neg (fun e => h2 (by rw [Bool.and_eq_true] at e; exact ⟨of_decide_eq_true e.1, e.2⟩))];refine ⟨2 * root + 1, .inl rfl, h, ⟨fun e => absurd e h2, fun e => by omega⟩, ?_⟩
  cases ltInt d[first + root]! d[first + (2 * root + 1)]! with
  | false => rfl
  | true => rfl
theorem siftDown_fn {lo first : Nat} (hd0 : d0.size = n) (hn : n ≤ 1000000) (hb : first + hi ≤ n) (hlo : lo ≤ n) :
  Fn Tryz.prog 181 [.slice p n c, .int .i64 (lo : Int), .int .i64 (hi : Int), .int .i64 (first : Int)] f (slc p n c 31 1 (arr d0) :: F) (Ret (.tuple #[]) f (slc p n c 31 1 (arr (siftDown ltInt hi first lo d0)) :: F)) := by
 refine Fn.e4 Tryz.func181 Tryz.ntmps181 fun base => ?_;refine gW ?_
 refine H.lo (ι := Nat × Array Int) (fun s => [(8, .int .i64 (s.1 : Int)), (0, .slice p n c), (2, .int .i64 (hi : Int)), (3, .int .i64 (first : Int))]) (fun _ => f) (fun s => slc p n c 31 1 (arr s.2) :: F)
  (fun s => s.1 ≤ n ∧ s.2.size = n ∧ siftDown ltInt hi first s.1 s.2 = siftDown ltInt hi first lo d0) (fun s => hi - s.1) (lo, d0) ⟨hlo, hd0, rfl⟩ fun s hs => ?_
 obtain ⟨root, d⟩ := s;obtain ⟨hi0, hd, hR⟩ : root ≤ n ∧ d.size = n ∧ siftDown ltInt hi first root d = siftDown ltInt hi first lo d0 := hs;show H _ _ _ [(8, .int .i64 (root : Int)), _, _, _] f (slc p n c _ 1 (arr d) :: F) _;by_cases hge : hi ≤ 2 * root + 1
 ·rw [siftDown, dif_pos hge] at hR;rw [← hR];refine gX ?_;exact qaT
 ·obtain ⟨ch, hch, hchi, hiff, he⟩ := siftDown_step (first := first) (d := d) (hi := hi) (root := root) (by omega);rw [he] at hR;clear he;refine qdK fun sb hp => ?_;subst hp; repeat (first | ((first | apply H.Af | apply H.Al); (iterate 3 exact rfl)) | (first | apply H.seq | apply H.Aj | apply H.nil | apply H.Ak) | ((apply H.cmp); (iterate 5 exact rfl)) | ((apply H.ar; (iterate 4 exact rfl)); (with_reducible apply wr_i64; omega); exact rfl) | (first | apply H.Bg | apply H.Ay) | (apply H.Bt; exact rfl; (omega)))
  refine H.Bv (d := 9) (u := .int .i64 ((2 * root + 1 : Nat) : Int)) rfl (by first | rfl | (congr 1)) ?_;refine H.cut (ι := Bool) (fun b => [(36, .bool b), (9, .int .i64 ((2 * root + 1 : Nat) : Int)), (8, .int .i64 (root : Int)), (0, .slice (some ⟨sb, 0, none⟩) n c), (2, .int .i64 (hi : Int)), (3, .int .i64 (first : Int))]) (fun _ => f) (fun _ => slc (some ⟨sb, 0, none⟩) n c 31 1 (arr d) :: F) (fun b => b = true ↔ ch = 2 * root + 2) _ (fun b hb2 => ?_) ?_;rotate_left
  ·by_cases h2 : 2 * root + 2 < hi
   ·skip;refine qdr ?_;refine HB.qu [0,1,2,3,4,5,6,7,8,9,10,11,12,13,14,15,16,17] 2 ?_;refine gV ?_;refine HQ.Am (i := first + (2 * root + 1)) rfl rfl rfl (by omega) (by omega) rfl ?_;refine qcK ?_;refine gV ?_;refine HQ.Am (i := first + (2 * root + 1) + 1) rfl rfl rfl (by omega) (by omega) rfl ?_;refine qcK ?_;refine qcS ?_;refine HB.ev 18 ?_;refine H.Ag rfl rfl rfl (zbx f _ d[first + (2 * root + 1)]! d[first + (2 * root + 1) + 1]!) ?_;refine qcH ?_;refine HB.qu [19] 0 ?_;refine qeP ?_;skip;exact H.Bi (ltInt d[first + (2 * root + 1)]! d[first + (2 * root + 1) + 1]!) ⟨fun e => hiff.1 ⟨h2, e⟩, fun e => (hiff.2 e).2⟩ ⟨rfl, rfl, rfl, rfl, rfl, rfl, trivial⟩ rfl rfl
   ·skip;refine qdr ?_;refine HB.qu [0,1,2,3,4,5,6,7,8,9,10,11,12,13,14,15,16,17] 2 ?_;refine gZ ?_;refine qcS ?_;refine HB.ev 18 ?_;refine qeI ?_;refine HB.qu [19] 0 ?_;refine qeL ?_;skip;exact H.Bi false ⟨fun e => (by cases e), fun e => absurd (hiff.2 e).1 h2⟩ ⟨rfl, rfl, rfl, rfl, rfl, rfl, trivial⟩ rfl rfl
  show H _ _ _ [(36, .bool b), (9, .int .i64 ((2 * root + 1 : Nat) : Int)), (8, .int .i64 (root : Int)), (0, .slice (some ⟨sb, 0, none⟩) n c), (2, .int .i64 (hi : Int)), (3, .int .i64 (first : Int))] f (slc (some ⟨sb, 0, none⟩) n c _ 1 (arr d) :: F) _;refine H.cut (ι := Unit) (fun _ => [(9, .int .i64 (ch : Int)), (8, .int .i64 (root : Int)), (0, .slice (some ⟨sb, 0, none⟩) n c), (2, .int .i64 (hi : Int)), (3, .int .i64 (first : Int))]) (fun _ => f) (fun _ => slc (some ⟨sb, 0, none⟩) n c 31 1 (arr d) :: F) (fun _ => True) _ (fun _ _ => ?_) ?_;rotate_left
  ·cases b with
   | true =>
    have hce := hb2.1 rfl;refine gM ?_
    exact H.Bi () trivial ⟨by rw [hce]; rfl, rfl, rfl, rfl, rfl, trivial⟩ rfl rfl
   | false =>
    have hce : ch = 2 * root + 1 := by
     rcases hch with e | e
     ·exact e
     ·exact absurd (hb2.2 e) (by decide)
    refine gY ?_;exact H.Bi () trivial ⟨by rw [hce]; rfl, rfl, rfl, rfl, rfl, trivial⟩ rfl rfl
  show H _ _ _ [(9, .int .i64 (ch : Int)), (8, .int .i64 (root : Int)), (0, .slice (some ⟨sb, 0, none⟩) n c), (2, .int .i64 (hi : Int)), (3, .int .i64 (first : Int))] f (slc (some ⟨sb, 0, none⟩) n c _ 1 (arr d) :: F) _;refine qfG ?_;refine HB.qu [0,1,2,3,4,5,6,7,8,9,10,11] 2 ?_;refine gV ?_;refine HQ.Am (i := first + root) rfl rfl rfl (by omega) (by omega) rfl ?_;refine qcK ?_;refine gV ?_;refine HQ.Am (i := first + ch) rfl rfl rfl (by omega) (by omega) rfl ?_;refine qcK ?_;refine qeO ?_;refine H.Ag rfl rfl rfl (zbx f _ d[first + root]! d[first + ch]!) ?_;refine qcH ?_;refine HB.qu [13] 0 ?_;refine qeL ?_
  cases hl2 : ltInt d[first + root]! d[first + ch]! with
  | false =>
   rw [hl2, if_neg (by decide)] at hR;rw [← hR];refine gg ?_;exact H.ret0 rfl (fun _ h => h) ⟨rfl, rfl, rfl⟩
  | true =>
   rw [hl2, if_pos rfl] at hR;refine gY ?_;refine H.drawN (by kernel_rfl) (by decide +kernel) (by repeat (first | exact zac | refine zab ?_ | refine zag ?_ | refine zai ?_)) ?_;refine qgE ?_;refine HN.move (i := 5) (by kernel_rfl) rfl rfl rfl rfl ?_;refine HN.move (i := 6) (by kernel_rfl) rfl rfl rfl rfl ?_;refine HN.ar (i := 7) (z := ((first + ch : Nat) : Int)) (by kernel_rfl) rfl rfl rfl rfl rfl (by rw [wr_i64 (by omega)]; omega) rfl ?_;refine HN.phase [0, 1, 2, 3, 8, 9, 10, 11, 12, 13, 14, 15, 16, 17, 18, 19] (S := [slc (some ⟨sb, 0, none⟩) n c 31 1 (arr d)]) rfl ?_;refine HB.qu [0,1,2,3,8,9,10,11,12,13,14,15,16,17,18,19] 4 ?_;refine gV ?_;refine HQ.Am (i := first + ch) rfl rfl rfl (by omega) (by omega) rfl ?_;refine qcK ?_;refine gV ?_;refine HQ.Am (i := first + root) rfl rfl rfl (by omega) (by omega) rfl ?_;refine qcK ?_;refine qd ?_;refine HB.qu [20] 3 ?_;refine HQ.Am (i := first + root) rfl rfl rfl (by omega) (by omega) rfl ?_;refine qcS ?_;refine HB.ev 21 ?_;refine qdc ?_;refine HB.qu [22] 1 ?_;refine HQ.Am (i := first + ch) rfl rfl rfl (by omega) (by omega) rfl ?_;refine qcS ?_;refine HB.ev 23 ?_;refine qcP ?_;show H _ _ _ _ f (slc (some ⟨sb, 0, none⟩) n c _ 1 (arr (swp d (first + root) (first + ch))) :: _) _;refine gW ?_;exact H.ag (ch, swp d (first + root) (first + ch)) ⟨by show ch ≤ n; omega, by rw [zbh]; exact hd, hR⟩ (by show hi - ch < hi - root; omega)
end
open Go.Sort (swp ltInt insInner insOuter insertionSort siftDown heapBuild heapPop heapSort reverseLoop reverseRange scanUp scanDown partLoop partEqLoop scanSorted shiftDown shiftUp partialIns partialInsertionSort)
theorem quo2 {h : Nat} (hh : h ≤ 1000000) : IntKind.wrap .i64 (((h : Int) - 1).tdiv 2) = (((h - 1) / 2 + 1 : Nat) : Int) - 1 := by
 rcases Nat.eq_zero_or_pos h with e | e
 ·subst e; rfl
 ·rw [show (h : Int) - 1 = ((h - 1 : Nat) : Int) by omega, show (2 : Int) = ((2 : Nat) : Int) from rfl, tdiv64, wr_i64 (by omega)];omega
theorem siftDown_size (hi first : Nat) : ∀ (root : Nat) (d : Array Int), (siftDown ltInt hi first root d).size = d.size := by
 have : ∀ (m root : Nat) (d : Array Int), hi - root ≤ m → (siftDown ltInt hi first root d).size = d.size := by
  intro m
  induction m with
  | zero => intro root d h; rw [siftDown, dif_pos (by omega)]
  | succ m ih =>
   intro root d h;by_cases hge : hi ≤ 2 * root + 1
   ·rw [siftDown, dif_pos hge]
   ·obtain ⟨ch, hch, hchi, _, he⟩ := siftDown_step (first := first) (d := d) (hi := hi) (root := root) (by omega);rw [he];split
    ·rw [ih _ _ (by omega), zbh]
    ·rfl
 exact fun root d => this _ root d (Nat.le_refl _)
theorem heapBuild_size (hi first : Nat) : ∀ (k : Nat) (d : Array Int), (heapBuild ltInt hi first k d).size = d.size
 | 0, d => rfl
 | k + 1, d => by rw [heapBuild, heapBuild_size hi first k, siftDown_size]
section
variable (f : Frag) (F : List HP)
theorem heapSort_fn (hd0 : d0.size = n) (hn : n ≤ 1000000) (hab : a < b) (hb : b ≤ n) :
  Fn Tryz.prog 134 [.slice p n c, .int .i64 (a : Int), .int .i64 (b : Int)] f (slc p n c 31 1 (arr d0) :: F) (Ret (.tuple #[]) f (slc p n c 31 1 (arr (heapSort ltInt d0 a b)) :: F)) := by
 obtain ⟨h, hh⟩ : ∃ h, h = b - a := ⟨_, rfl⟩; have hz : (b : Int) - (a : Int) = (h : Int) := by omega
 have hR0 : heapSort ltInt d0 a b = heapPop ltInt a h (heapBuild ltInt h a ((h - 1) / 2 + 1) d0) := by unfold heapSort; rw [← hh]
 have hq := quo2 (h := h) (by omega);rw [hR0]
 have hsz : ∀ (k : Nat) (d : Array Int), (siftDown ltInt h a k d).size = d.size := fun k d => siftDown_size h a k d;refine Fn.e3 Tryz.func134 Tryz.ntmps134 fun base => ?_
 repeat (first | (refine H.ar (op := .sub) (p := (b : Int)) (p2 := (a : Int)) (z := (h : Int)) rfl rfl rfl rfl (by rw [hz, wr_i64 (by omega)]) rfl ?_) | (refine H.quo (p := (h : Int) - 1) (z := (((h - 1) / 2 + 1 : Nat) : Int) - 1) rfl rfl rfl (by decide) hq rfl ?_) | ((first | apply H.Af | apply H.Al); (iterate 3 exact rfl)) | (first | apply H.seq | apply H.Aj | apply H.nil | apply H.Ak) | ((apply H.ar; (iterate 4 exact rfl)); (with_reducible apply wr_i64; omega); exact rfl) | (apply H.Ay))
 refine H.cutB (ι := Unit) (fun _ => [(6, .int .i64 (a : Int)), (7, .int .i64 0), (8, .int .i64 (h : Int)), (0, .slice p n c)]) (fun _ => f) (fun _ => slc p n c 31 1 (arr (heapBuild ltInt h a ((h - 1) / 2 + 1) d0)) :: F) (fun _ => True) _ (fun _ _ => ?_) ?_;rotate_left
 ·refine H.lo (ι := Nat × Array Int) (fun s => [(9, .int .i64 ((s.1 : Int) - 1)), (6, .int .i64 (a : Int)), (7, .int .i64 0), (8, .int .i64 (h : Int)), (0, .slice p n c)]) (fun _ => f) (fun s => slc p n c 31 1 (arr s.2) :: F)
   (fun s => s.1 ≤ n ∧ s.2.size = n ∧ heapBuild ltInt h a s.1 s.2 = heapBuild ltInt h a ((h - 1) / 2 + 1) d0) (fun s => s.1) ((h - 1) / 2 + 1, d0) ⟨by show (h - 1) / 2 + 1 ≤ n; omega, hd0, rfl⟩ fun s hs => ?_
  obtain ⟨k, d⟩ := s;obtain ⟨hk, hd, hr⟩ : k ≤ n ∧ d.size = n ∧ heapBuild ltInt h a k d = heapBuild ltInt h a ((h - 1) / 2 + 1) d0 := hs;show H _ _ _ [(9, .int .i64 ((k : Int) - 1)), _, _, _, _] f (slc p n c _ 1 (arr d) :: F) _
  cases k with
  | zero =>
   rw [← hr];refine gY ?_;exact H.Bi () trivial ⟨rfl, rfl, rfl, rfl, trivial⟩ rfl rfl
  | succ j =>
   refine H.Bv (d := 9) (u := .int .i64 (j : Int)) rfl (by first | rfl | (congr 1; omega)) ?_;refine gM ?_;refine H.Au rfl rfl rfl (siftDown_fn f F (p := p) (c := c) (lo := j) (hi := h) (first := a) hd hn (by omega) (by omega)) fun v f' A' hR => ?_;obtain ⟨rfl, hff, rfl⟩ := hR;rw [hff];refine gE ?_;exact H.ag (j, siftDown ltInt h a j d) ⟨by show j ≤ n; omega, by show (siftDown ltInt h a j d).size = n; rw [hsz]; exact hd, hr⟩ (by show j < j + 1; omega)
 have hd1 : (heapBuild ltInt h a ((h - 1) / 2 + 1) d0).size = n := by rw [heapBuild_size]; exact hd0
 generalize heapBuild ltInt h a ((h - 1) / 2 + 1) d0 = d1 at *;show H _ _ _ [(6, .int .i64 (a : Int)), (7, .int .i64 0), (8, .int .i64 (h : Int)), (0, .slice p n c)] f (slc p n c _ 1 (arr d1) :: F) _;refine gE ?_
 refine H.lo (ι := Nat × Array Int) (fun s => [(10, .int .i64 ((s.1 : Int) - 1)), (6, .int .i64 (a : Int)), (7, .int .i64 0), (8, .int .i64 (h : Int)), (0, .slice p n c)]) (fun _ => f) (fun s => slc p n c 31 1 (arr s.2) :: F)
  (fun s => s.1 ≤ h ∧ s.2.size = n ∧ heapPop ltInt a s.1 s.2 = heapPop ltInt a h d1) (fun s => s.1) (h, d1) ⟨Nat.le_refl h, hd1, rfl⟩ fun s hs => ?_
 obtain ⟨k, d⟩ := s;obtain ⟨hk, hd, hr⟩ : k ≤ h ∧ d.size = n ∧ heapPop ltInt a k d = heapPop ltInt a h d1 := hs;show H _ _ _ [(10, .int .i64 ((k : Int) - 1)), _, _, _, _] f (slc p n c _ 1 (arr d) :: F) _
 cases k with
 | zero =>
  rw [← hr];refine gY ?_;exact qaT
 | succ j =>
  refine H.Bv (d := 10) (u := .int .i64 (j : Int)) rfl (by first | rfl | (congr 1; omega)) ?_;refine qdK fun sb hp => ?_;subst hp;refine gM ?_;refine H.drawN (by kernel_rfl) (by decide +kernel) (by repeat (first | exact zac | refine zab ?_ | refine zag ?_ | refine zai ?_)) ?_;refine qcU ?_;refine qgE ?_;refine HN.ar (i := 5) (z := ((a + j : Nat) : Int)) (by kernel_rfl) rfl rfl rfl rfl rfl (by rw [wr_i64 (by omega)]; omega) rfl ?_;refine qdX ?_;refine HQ.Am (i := a + j) rfl rfl rfl (by omega) (by omega) rfl ?_;refine qfq ?_;refine qdz ?_;refine qcK ?_;refine qd ?_;refine HB.qu [16] 3 ?_;refine qdz ?_;refine qcS ?_;refine HB.ev 17 ?_;refine qdc ?_;refine HB.qu [18] 1 ?_;refine HQ.Am (i := a + j) rfl rfl rfl (by omega) (by omega) rfl ?_;refine qcS ?_;refine HB.ev 19 ?_;refine qcP ?_;show H _ _ _ _ f (slc (some ⟨sb, 0, none⟩) n c _ 1 (arr (swp d (a) (a + j))) :: _) _;refine gK ?_;refine H.Au rfl rfl rfl (siftDown_fn f F (p := some ⟨sb, 0, none⟩) (c := c) (lo := 0) (hi := j) (first := a) (d0 := swp d a (a + j)) (by rw [zbh]; exact hd) hn (by omega) (by omega)) fun v f' A' hR => ?_;obtain ⟨rfl, hff, rfl⟩ := hR;rw [hff];refine gE ?_;exact H.ag (j, siftDown ltInt j a 0 (swp d a (a + j))) ⟨by show j ≤ h; omega, by show (siftDown ltInt j a 0 (swp d a (a + j))).size = n; rw [siftDown_size, zbh]; exact hd, hr⟩ (by show j < j + 1; omega)
theorem reverse_fn (hd0 : d0.size = n) (hn : n ≤ 1000000) (hab : a < b) (hb : b ≤ n) :
  Fn Tryz.prog 137 [.slice p n c, .int .i64 (a : Int), .int .i64 (b : Int)] f (slc p n c 31 1 (arr d0) :: F) (Ret (.tuple #[]) f (slc p n c 31 1 (arr (reverseRange d0 a b)) :: F)) := by
 obtain ⟨b1, rfl⟩ : ∃ b1, b = b1 + 1 := ⟨b - 1, by omega⟩;refine Fn.e3 Tryz.func137 Tryz.ntmps137 fun base => ?_;refine gE ?_
 refine H.lo (ι := Nat × Nat × Array Int) (fun s => [(6, .int .i64 (s.1 : Int)), (7, .int .i64 (s.2.1 : Int)), (0, .slice p n c)]) (fun _ => f) (fun s => slc p n c 31 1 (arr s.2.2) :: F)
  (fun s => s.1 ≤ n ∧ s.2.1 < n ∧ s.2.2.size = n ∧ reverseLoop s.1 s.2.1 s.2.2 = reverseRange d0 a (b1 + 1)) (fun s => s.2.1 - s.1) (a, b1, d0) ⟨by show a ≤ n; omega, by show b1 < n; omega, hd0, rfl⟩ fun s hs => ?_
 obtain ⟨i, j, d⟩ := s;obtain ⟨hi, hj, hd, hr⟩ : i ≤ n ∧ j < n ∧ d.size = n ∧ reverseLoop i j d = reverseRange d0 a (b1 + 1) := hs;show H _ _ _ [(6, .int .i64 (i : Int)), (7, .int .i64 (j : Int)), _] f (slc p n c _ 1 (arr d) :: F) _;rw [reverseLoop] at hr;by_cases hlt : i < j
 ·rw [if_pos hlt] at hr;refine qdK fun sb hp => ?_;subst hp;refine gH ?_;refine H.drawN (by kernel_rfl) (by decide +kernel) (by repeat (first | exact zac | refine zab ?_ | refine zag ?_ | refine zai ?_)) ?_;refine qdC ?_;refine qfs ?_;refine qfq ?_;refine HQ.Am (i := i) rfl rfl rfl (by omega) (by omega) rfl ?_;refine qcK ?_;refine qd ?_;refine HB.qu [12] 3 ?_;refine HQ.Am (i := i) rfl rfl rfl (by omega) (by omega) rfl ?_;refine qfK ?_;refine qfs ?_;refine qcS ?_;refine HB.ev 15 ?_;refine qcP ?_;show H _ _ _ _ f (slc (some ⟨sb, 0, none⟩) n c _ 1 (arr (swp d (i) (j))) :: _) _;obtain ⟨j1, rfl⟩ : ∃ j1, j = j1 + 1 := ⟨j - 1, by omega⟩;refine gE ?_;exact H.ag (i + 1, j1, swp d i (j1 + 1)) ⟨by show i + 1 ≤ n; omega, by show j1 < n; omega, by show (swp d i (j1 + 1)).size = n; rw [zbh]; exact hd, hr⟩ (by show j1 - (i + 1) < j1 + 1 - i; omega)
 ·rw [if_neg hlt] at hr;rw [← hr];refine ga ?_;exact qaT
end
open Go.Sort (swp ltInt insInner insOuter insertionSort siftDown heapBuild heapPop heapSort reverseLoop reverseRange scanUp scanDown partLoop partEqLoop scanSorted shiftDown shiftUp partialIns partialInsertionSort)
open Go.Sort (partition partitionEqual partLoop_eq partEqLoop_eq partition_fst partition_arr scanUp_spec scanDown_spec)
theorem two_scans (p q : Int → Bool) (hq : ∀ x, q x = !p x) (d : Array Int) {i j : Nat} (hi : 0 < i) (hij : i ≤ j + 1) :
  i ≤ scanUp p d j i ∧ scanUp p d j i ≤ j + 1 ∧ scanDown q d (scanUp p d j i) j ≤ j ∧ scanUp p d j i ≤ scanDown q d (scanUp p d j i) j + 1 ∧ (scanUp p d j i ≤ scanDown q d (scanUp p d j i) j → scanUp p d j i < scanDown q d (scanUp p d j i) j) := by
 obtain ⟨u1, u2, u3, u4⟩ := scanUp_spec p d j _ i rfl;obtain ⟨v1, v2, v3, v4⟩ := scanDown_spec q d (scanUp p d j i) j;have hu := u2 hij;refine ⟨u1, hu, v1, v2 hu, fun h => ?_⟩
 have f1 := u4 (by omega);have f2 := v4 (by omega) (by omega)
 rw [hq] at f2;rcases Nat.lt_or_ge (scanUp p d j i) (scanDown q d (scanUp p d j i) j) with h' | h'
 ·exact h'
 ·have e : scanUp p d j i = scanDown q d (scanUp p d j i) j := by omega
  rw [← e, f1] at f2; cases f2
variable {pivot : Nat}
section
variable (f : Frag) (F : List HP)
def PartP (f : Frag) (F : List HP) (p : Option Addr) (n c k : Nat) (d : Array Int) : Value → Frag → List HP → Prop := fun v f' A' => ∃ ap : Bool, v = .tuple #[.int .i64 (k : Int), .bool ap] ∧ f' = f ∧ A' = slc p n c 31 1 (arr d) :: F
theorem partition_fn (hd0 : d0.size = n) (hn : n ≤ 1000000) (hap : a ≤ pivot) (hpb : pivot < b) (hb : b ≤ n) :
  Fn Tryz.prog 141 [.slice p n c, .int .i64 (a : Int), .int .i64 (b : Int), .int .i64 (pivot : Int)] f (slc p n c 31 1 (arr d0) :: F) (PartP f F p n c (partition ltInt d0 a b pivot).1 (partition ltInt d0 a b pivot).2.2) := by
 rw [partition_arr, partition_fst];refine Fn.e4 Tryz.func141 Tryz.ntmps141 fun base => ?_;refine qfD fun sb hp => ?_;subst hp;refine gK ?_;refine H.drawN (by kernel_rfl) (by decide +kernel) (by repeat (first | exact zac | refine zab ?_ | refine zag ?_ | refine zai ?_)) ?_;refine qeG ?_; have hd : (swp d0 a pivot).size = n := by rw [zbh]; exact hd0
 generalize swp d0 a pivot = d at *;refine gE ?_;obtain ⟨i, hi⟩ : ∃ i, i = a + 1 := ⟨_, rfl⟩;obtain ⟨j, hj⟩ : ∃ j, j = b - 1 := ⟨_, rfl⟩;rw [← hi, ← hj];refine H.Bv (d := 11) (u := .int .i64 (j : Int)) rfl (by first | rfl | (congr 1; omega)) ?_;refine H.Bv (d := 10) (u := .int .i64 (i : Int)) rfl (by first | rfl | (congr 1; omega)) ?_;obtain ⟨s1, s2, s3, s4, s5⟩ := two_scans (fun x => ltInt x d[a]!) (fun x => !ltInt x d[a]!) (fun _ => rfl) d (i := i) (j := j) (by omega) (by omega);have heq := partLoop_eq ltInt a i j d;skip
 refine H.cutB (ι := Unit) (fun _ => [(10, .int .i64 ((scanUp (fun x => ltInt x d[a]!) d j i : Nat) : Int)), (11, .int .i64 (j : Int)), (0, .slice (some ⟨sb, 0, none⟩) n c), (1, .int .i64 (a : Int))]) (fun _ => f) (fun _ => slc (some ⟨sb, 0, none⟩) n c 31 1 (arr d) :: F) (fun _ => True) _ (fun _ _ => ?_) ?_;rotate_left
 ·exact qaf
 refine qfa ?_;obtain ⟨i2, hi2⟩ : ∃ i2, i2 = scanUp (fun x => ltInt x d[a]!) d j i := ⟨_, rfl⟩;rw [← hi2] at s1 s2 s3 s4 s5 heq ⊢; repeat (first | (apply H.seq) | (apply H.Ay))
 refine H.cutB (ι := Unit) (fun _ => [(11, .int .i64 ((scanDown (fun x => !ltInt x d[a]!) d i2 j : Nat) : Int)), (10, .int .i64 (i2 : Int)), (0, .slice (some ⟨sb, 0, none⟩) n c), (1, .int .i64 (a : Int))]) (fun _ => f) (fun _ => slc (some ⟨sb, 0, none⟩) n c 31 1 (arr d) :: F) (fun _ => True) _ (fun _ _ => ?_) ?_;rotate_left
 ·exact qae
 refine qeY ?_;obtain ⟨j2, hj2⟩ : ∃ j2, j2 = scanDown (fun x => !ltInt x d[a]!) d i2 j := ⟨_, rfl⟩;rw [← hj2] at s3 s4 s5 heq ⊢;by_cases hgt : j2 < i2
 ·rw [if_pos hgt] at heq;rw [heq];refine gH ?_;refine H.drawN (by kernel_rfl) (by decide +kernel) (by repeat (first | exact zac | refine zab ?_ | refine zag ?_ | refine zai ?_)) ?_;refine qdC ?_;refine qdz ?_;refine qfq ?_;refine qfn ?_;refine qcK ?_;refine qe ?_;refine gW ?_;exact H.Bq rfl rfl rfl (fun _ h => h) ⟨true, rfl, rfl, rfl⟩
 ·have hlt := s5 (by omega);rw [if_neg hgt] at heq
  rw [heq];refine ga ?_;refine H.drawN (by kernel_rfl) (by decide +kernel) (by repeat (first | exact zac | refine zab ?_ | refine zag ?_ | refine zai ?_)) ?_;refine qdy ?_;obtain ⟨j1, hj1⟩ : ∃ j1, j1 = j2 - 1 := ⟨_, rfl⟩;rw [← hj1]; have hd1 : (swp d i2 j2).size = n := by rw [zbh]; exact hd
  generalize swp d i2 j2 = d1 at *;refine gE ?_;refine H.Bv (d := 11) (u := .int .i64 (j1 : Int)) rfl (by first | rfl | (congr 1; omega)) ?_
  refine H.lo (ι := Nat × Nat × Array Int) (fun s => [(10, .int .i64 (s.1 : Int)), (11, .int .i64 (s.2.1 : Int)), (0, .slice (some ⟨sb, 0, none⟩) n c), (1, .int .i64 (a : Int))]) (fun _ => f) (fun s => slc (some ⟨sb, 0, none⟩) n c 31 1 (arr s.2.2) :: F)
   (fun s => 0 < s.1 ∧ s.1 ≤ s.2.1 + 1 ∧ s.2.1 < n ∧ s.2.2.size = n ∧ partLoop ltInt a s.1 s.2.1 s.2.2 = partLoop ltInt a (i2 + 1) j1 d1) (fun s => s.2.1 + 1 - s.1) (i2 + 1, j1, d1) ⟨by show 0 < i2 + 1; omega, by show i2 + 1 ≤ j1 + 1; omega, by show j1 < n; omega, hd1, rfl⟩ fun s hs => ?_
  clear s1 s2 s3 s4 s5 heq hi2 hj2 hgt hlt;obtain ⟨i, j, d⟩ := s;obtain ⟨h0, hij, hjn, hd, hr⟩ : 0 < i ∧ i ≤ j + 1 ∧ j < n ∧ d.size = n ∧ partLoop ltInt a i j d = partLoop ltInt a (i2 + 1) j1 d1 := hs;rw [← hr];clear hr;show H _ _ _ [(10, .int .i64 (i : Int)), (11, .int .i64 (j : Int)), _, _] f (slc (some ⟨sb, 0, none⟩) n c _ 1 (arr d) :: F) _;clear hj1 hd1;obtain ⟨s1, s2, s3, s4, s5⟩ := two_scans (fun x => ltInt x d[a]!) (fun x => !ltInt x d[a]!) (fun _ => rfl) d (i := i) (j := j) h0 hij;have heq := partLoop_eq ltInt a i j d; repeat (first | (apply H.seq) | (apply H.Ay))
  refine H.cutB (ι := Unit) (fun _ => [(10, .int .i64 ((scanUp (fun x => ltInt x d[a]!) d j i : Nat) : Int)), (11, .int .i64 (j : Int)), (0, .slice (some ⟨sb, 0, none⟩) n c), (1, .int .i64 (a : Int))]) (fun _ => f) (fun _ => slc (some ⟨sb, 0, none⟩) n c 31 1 (arr d) :: F) (fun _ => True) _ (fun _ _ => ?_) ?_;rotate_left
  ·exact qaf
  refine qfa ?_;obtain ⟨i2, hi2⟩ : ∃ i2, i2 = scanUp (fun x => ltInt x d[a]!) d j i := ⟨_, rfl⟩;rw [← hi2] at s1 s2 s3 s4 s5 heq ⊢; repeat (first | (apply H.seq) | (apply H.Ay))
  refine H.cutB (ι := Unit) (fun _ => [(11, .int .i64 ((scanDown (fun x => !ltInt x d[a]!) d i2 j : Nat) : Int)), (10, .int .i64 (i2 : Int)), (0, .slice (some ⟨sb, 0, none⟩) n c), (1, .int .i64 (a : Int))]) (fun _ => f) (fun _ => slc (some ⟨sb, 0, none⟩) n c 31 1 (arr d) :: F) (fun _ => True) _ (fun _ _ => ?_) ?_;rotate_left
  ·exact qae
  refine qeY ?_;obtain ⟨j2, hj2⟩ : ∃ j2, j2 = scanDown (fun x => !ltInt x d[a]!) d i2 j := ⟨_, rfl⟩;rw [← hj2] at s3 s4 s5 heq ⊢;by_cases hgt : j2 < i2
  ·rw [if_pos hgt] at heq;rw [heq];refine gX ?_;refine H.drawN (by kernel_rfl) (by decide +kernel) (by repeat (first | exact zac | refine zab ?_ | refine zag ?_ | refine zai ?_)) ?_;refine qdC ?_;refine qdz ?_;refine qfq ?_;refine qfn ?_;refine qcK ?_;refine qe ?_;refine gW ?_;exact H.Bq rfl rfl rfl (fun _ h => h) ⟨false, rfl, rfl, rfl⟩
  ·have hlt := s5 (by omega);rw [if_neg hgt] at heq
   refine ga ?_;refine H.drawN (by kernel_rfl) (by decide +kernel) (by repeat (first | exact zac | refine zab ?_ | refine zag ?_ | refine zai ?_)) ?_;refine qdy ?_;obtain ⟨j1, rfl⟩ : ∃ j1, j2 = j1 + 1 := ⟨j2 - 1, by omega⟩;refine gE ?_;exact H.ag (i2 + 1, j1, swp d i2 (j1 + 1)) ⟨by show 0 < i2 + 1; omega, by show i2 + 1 ≤ j1 + 1; omega, by show j1 < n; omega, by show (swp d i2 (j1 + 1)).size = n; rw [zbh]; exact hd, heq.symm⟩ (by show j1 + 1 - (i2 + 1) < j + 1 - i; omega)
theorem partEq_fn (hd0 : d0.size = n) (hn : n ≤ 1000000) (hap : a ≤ pivot) (hpb : pivot < b) (hb : b ≤ n) :
  Fn Tryz.prog 140 [.slice p n c, .int .i64 (a : Int), .int .i64 (b : Int), .int .i64 (pivot : Int)] f (slc p n c 31 1 (arr d0) :: F) (Ret (.int .i64 ((partitionEqual ltInt d0 a b pivot).1 : Nat)) f (slc p n c 31 1 (arr (partitionEqual ltInt d0 a b pivot).2) :: F)) := by
 unfold partitionEqual;refine Fn.e4 Tryz.func140 Tryz.ntmps140 fun base => ?_;refine qfD fun sb hp => ?_;subst hp;refine gK ?_;refine H.drawN (by kernel_rfl) (by decide +kernel) (by repeat (first | exact zac | refine zab ?_ | refine zag ?_ | refine zai ?_)) ?_;refine qeG ?_; have hd : (swp d0 a pivot).size = n := by rw [zbh]; exact hd0
 generalize swp d0 a pivot = d1 at *;obtain ⟨j1, hj1⟩ : ∃ j1, j1 = b - 1 := ⟨_, rfl⟩;rw [← hj1];refine gE ?_;refine H.Bv (d := 10) (u := .int .i64 (j1 : Int)) rfl (by first | rfl | (congr 1; omega)) ?_
 refine H.lo (ι := Nat × Nat × Array Int) (fun s => [(9, .int .i64 (s.1 : Int)), (10, .int .i64 (s.2.1 : Int)), (0, .slice (some ⟨sb, 0, none⟩) n c), (1, .int .i64 (a : Int))]) (fun _ => f) (fun s => slc (some ⟨sb, 0, none⟩) n c 31 1 (arr s.2.2) :: F)
  (fun s => 0 < s.1 ∧ s.1 ≤ s.2.1 + 1 ∧ s.2.1 < n ∧ s.2.2.size = n ∧ partEqLoop ltInt a s.1 s.2.1 s.2.2 = partEqLoop ltInt a (a + 1) j1 d1) (fun s => s.2.1 + 1 - s.1) (a + 1, j1, d1) ⟨by show 0 < a + 1; omega, by show a + 1 ≤ j1 + 1; omega, by show j1 < n; omega, hd, rfl⟩ fun s hs => ?_
 clear hd;obtain ⟨i, j, d⟩ := s;obtain ⟨h0, hij, hjn, hd, hr⟩ : 0 < i ∧ i ≤ j + 1 ∧ j < n ∧ d.size = n ∧ partEqLoop ltInt a i j d = partEqLoop ltInt a (a + 1) j1 d1 := hs;rw [← hr];clear hr;show H _ _ _ [(9, .int .i64 (i : Int)), (10, .int .i64 (j : Int)), _, _] f (slc (some ⟨sb, 0, none⟩) n c _ 1 (arr d) :: F) _;obtain ⟨s1, s2, s3, s4, s5⟩ := two_scans (fun x => !ltInt d[a]! x) (fun x => ltInt d[a]! x) (fun x => by simp) d (i := i) (j := j) h0 hij;have heq := partEqLoop_eq ltInt a i j d; repeat (first | (apply H.seq) | (apply H.Ay))
 refine H.cutB (ι := Unit) (fun _ => [(9, .int .i64 ((scanUp (fun x => !ltInt d[a]! x) d j i : Nat) : Int)), (10, .int .i64 (j : Int)), (0, .slice (some ⟨sb, 0, none⟩) n c), (1, .int .i64 (a : Int))]) (fun _ => f) (fun _ => slc (some ⟨sb, 0, none⟩) n c 31 1 (arr d) :: F) (fun _ => True) _ (fun _ _ => ?_) ?_;rotate_left
 ·skip;refine H.lo (ι := Nat) (fun x => [(9, .int .i64 (x : Int)), (10, .int .i64 (j : Int)), (0, .slice (some ⟨sb, 0, none⟩) n c), (1, .int .i64 (a : Int))]) (fun _ => f) (fun _ => slc (some ⟨sb, 0, none⟩) n c 31 1 (arr d) :: F) (fun x => x ≤ j + 1 ∧ scanUp (fun x => !ltInt d[a]! x) d j x = scanUp (fun x => !ltInt d[a]! x) d j i) (fun x => j + 1 - x) i ⟨by show i ≤ j + 1; omega, rfl⟩ fun x hx => ?_;obtain ⟨hx, hs⟩ : x ≤ j + 1 ∧ scanUp (fun x => !ltInt d[a]! x) d j x = scanUp (fun x => !ltInt d[a]! x) d j i := hx;show H _ _ _ [(9, .int .i64 (x : Int)), _, _, _] f (slc (some ⟨sb, 0, none⟩) n c _ 1 (arr d) :: F) _;rw [scanUp] at hs;by_cases hxj : x ≤ j
  ·skip;refine qfG ?_;refine HB.qu [0,1,2,3,4,5,6,7,8,9,10,11] 3 ?_;refine gV ?_;refine qdz ?_;refine qfq ?_;refine HQ.Am (i := x) rfl rfl rfl (by omega) (by omega) rfl ?_;refine qcK ?_;refine qeO ?_;refine H.Ag rfl rfl rfl (zbx f _ d[a]! d[x]!) ?_;refine qcH ?_;refine HB.qu [13,14] 0 ?_;refine qeP ?_
   cases hl : ltInt d[a]! d[x]! with
   | false =>
    rw [if_pos (by rw [decide_eq_true hxj, hl]; rfl)] at hs;refine gM ?_;exact H.ag (x + 1) ⟨by show x + 1 ≤ j + 1; omega, hs⟩ (by show j + 1 - (x + 1) < j + 1 - x; omega)
   | true =>
    rw [if_neg (by rw [hl, decide_eq_true hxj]; decide)] at hs;exact qbi
  ·skip;rw [if_neg (by rw [decide_eq_false hxj, Bool.false_and]; decide)] at hs;refine qfG ?_;refine qgf ?_;exact qbi
 show H _ _ _ [(9, .int .i64 ((scanUp (fun x => !ltInt d[a]! x) d j i : Nat) : Int)), (10, .int .i64 (j : Int)), (0, .slice (some ⟨sb, 0, none⟩) n c), (1, .int .i64 (a : Int))] f (slc (some ⟨sb, 0, none⟩) n c _ 1 (arr d) :: F) _;obtain ⟨i2, hi2⟩ : ∃ i2, i2 = scanUp (fun x => !ltInt d[a]! x) d j i := ⟨_, rfl⟩;rw [← hi2] at s1 s2 s3 s4 s5 heq ⊢; repeat (first | (apply H.seq) | (apply H.Ay))
 refine H.cutB (ι := Unit) (fun _ => [(10, .int .i64 ((scanDown (fun x => ltInt d[a]! x) d i2 j : Nat) : Int)), (9, .int .i64 (i2 : Int)), (0, .slice (some ⟨sb, 0, none⟩) n c), (1, .int .i64 (a : Int))]) (fun _ => f) (fun _ => slc (some ⟨sb, 0, none⟩) n c 31 1 (arr d) :: F) (fun _ => True) _ (fun _ _ => ?_) ?_;rotate_left
 ·skip;refine H.lo (ι := Nat) (fun x => [(10, .int .i64 (x : Int)), (9, .int .i64 (i2 : Int)), (0, .slice (some ⟨sb, 0, none⟩) n c), (1, .int .i64 (a : Int))]) (fun _ => f) (fun _ => slc (some ⟨sb, 0, none⟩) n c 31 1 (arr d) :: F) (fun x => x ≤ j ∧ scanDown (fun x => ltInt d[a]! x) d i2 x = scanDown (fun x => ltInt d[a]! x) d i2 j) (fun x => x) j ⟨Nat.le_refl j, rfl⟩ fun x hx => ?_;obtain ⟨hx, hs⟩ : x ≤ j ∧ scanDown (fun x => ltInt d[a]! x) d i2 x = scanDown (fun x => ltInt d[a]! x) d i2 j := hx;show H _ _ _ [(10, .int .i64 (x : Int)), _, _, _] f (slc (some ⟨sb, 0, none⟩) n c _ 1 (arr d) :: F) _;by_cases hxj : i2 ≤ x
  ·skip;obtain ⟨y, rfl⟩ : ∃ y, x = y + 1 := ⟨x - 1, by omega⟩;rw [scanDown] at hs;refine qfG ?_;refine HB.qu [0,1,2,3,4,5,6,7,8,9,10,11] 2 ?_;refine gV ?_;refine qdz ?_;refine qfq ?_;refine qfd ?_;refine qcK ?_;refine qeO ?_;refine H.Ag rfl rfl rfl (zbx f _ d[a]! d[y + 1]!) ?_;refine qcH ?_;refine HB.qu [13] 0 ?_;refine qeP ?_
   cases hl : ltInt d[a]! d[y + 1]! with
   | false =>
    rw [if_neg (by rw [hl, decide_eq_true hxj]; decide)] at hs;exact qbi
   | true =>
    rw [if_pos (by rw [decide_eq_true hxj, hl]; rfl)] at hs;refine gM ?_;exact H.ag y ⟨by show y ≤ j; omega, hs⟩ (by show y < y + 1; omega)
  ·skip
   have hs : x = scanDown (fun x => ltInt d[a]! x) d i2 j := by
    rw [← hs]
    cases x with
    | zero => rfl
    | succ y => rw [scanDown, if_neg (by rw [decide_eq_false hxj, Bool.false_and]; decide)]
   refine qfG ?_;refine HB.qu [0,1,2,3,4,5,6,7,8,9,10,11] 2 ?_;refine gI ?_;refine qeO ?_;refine qeI ?_;refine HB.qu [13] 0 ?_;refine qeL ?_;exact qbi
 show H _ _ _ [(10, .int .i64 ((scanDown (fun x => ltInt d[a]! x) d i2 j : Nat) : Int)), (9, .int .i64 (i2 : Int)), (0, .slice (some ⟨sb, 0, none⟩) n c), (1, .int .i64 (a : Int))] f (slc (some ⟨sb, 0, none⟩) n c _ 1 (arr d) :: F) _;obtain ⟨j2, hj2⟩ : ∃ j2, j2 = scanDown (fun x => ltInt d[a]! x) d i2 j := ⟨_, rfl⟩;rw [← hj2] at s3 s4 s5 heq ⊢;by_cases hgt : j2 < i2
 ·rw [if_pos hgt] at heq;rw [heq];refine gX ?_;exact qao
 ·have hlt := s5 (by omega);rw [if_neg hgt] at heq
  refine ga ?_;refine H.drawN (by kernel_rfl) (by decide +kernel) (by repeat (first | exact zac | refine zab ?_ | refine zag ?_ | refine zai ?_)) ?_;refine qdy ?_;obtain ⟨j3, rfl⟩ : ∃ j3, j2 = j3 + 1 := ⟨j2 - 1, by omega⟩;refine gE ?_;exact H.ag (i2 + 1, j3, swp d i2 (j3 + 1)) ⟨by show 0 < i2 + 1; omega, by show i2 + 1 ≤ j3 + 1; omega, by show j3 < n; omega, by show (swp d i2 (j3 + 1)).size = n; rw [zbh]; exact hd, heq.symm⟩ (by show j3 + 1 - (i2 + 1) < j + 1 - i; omega)
end
end Go.Proofs.YtgdhaledfjnfgaaGreatDoor
