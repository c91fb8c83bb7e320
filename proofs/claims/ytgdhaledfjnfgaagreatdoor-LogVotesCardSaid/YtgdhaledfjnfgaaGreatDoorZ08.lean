/- Parts of the proof, one behind the other, each under its own heading. No conditions. -/
import Derived.Test.YtgdhaledfjnfgaaGreatDoorZ07
set_option linter.unusedSectionVars false
set_option linter.unusedSimpArgs false
set_option linter.unusedVariables false
/- Layer 15: the program's logs: votes and its iterator. No condition. -/
namespace Go.Proofs.YtgdhaledfjnfgaaGreatDoor
open Go
def bmax (a z : Int × Int) : Int × Int := if a.1 < z.1 ∨ (z.1 = a.1 ∧ a.2 < z.2) then z else a
theorem bestOf_yes {bv : Int} {z : Int × Int} {r : List (Int × Int)} {a : Int × Int} (h : z.1 < bv) : bestOf bv (z :: r) a = bestOf bv r (bmax a z) := by
 rw [bestOf_cons]
 unfold bmax
 by_cases h2 : a.1 < z.1 ∨ (z.1 = a.1 ∧ a.2 < z.2)
 ·rw [if_pos ⟨h, h2⟩, if_pos h2]
 ·rw [if_neg (fun h3 => h2 h3.2), if_neg h2]
theorem bestOf_no {bv : Int} {z : Int × Int} {r : List (Int × Int)} {a : Int × Int} (h : ¬ z.1 < bv) : bestOf bv (z :: r) a = bestOf bv r a := by
 rw [bestOf_cons, if_neg (fun h3 => h h3.1)]
theorem voted_at : ∀ {l : List (Int × Int)}, (l.map (·.1)).Pairwise (· < ·) → ∀ {z : Int × Int}, z ∈ l → PM.voted l z.1 = some z.2
 | [], _, z, h => by cases h
 | (w, n) :: r, hr, z, h => by
  rw [List.map_cons, List.pairwise_cons] at hr
  unfold PM.voted
  by_cases e : z.1 = w
  ·rw [if_pos e]
   rcases List.mem_cons.1 h with h | h
   ·rw [h]
   ·have := hr.1 z.1 (List.mem_map.2 ⟨z, h, rfl⟩)
    simp only at this
    omega
  ·rw [if_neg e]
   rcases List.mem_cons.1 h with h | h
   ·rw [h] at e; exact absurd rfl e
   ·exact voted_at hr.2 h
section
variable (f : Frag) (F : List HP)
theorem plvoted1_fn {b : Nat} {s : PM} {z : Int × Int} (hz : PM.voted s.all z.1 = some z.2) : Fn Tryz.prog 49 [.pointer (some ⟨b, 0, none⟩), .int .u64 z.1] f (pastH b s :: F) (Ret (.tuple #[.int .i64 z.2, .bool true]) f (pastH b s :: F)) := by
 have h := voted_fn f F b s z.1
 rw [hz] at h
 exact h
theorem votes_fn {lb : Nat} {p : Option Addr} {m c : Nat} {bv : Int} : Fn Tryz.prog 120 [.pointer (some ⟨lb, 0, none⟩), .slice p m c, .int .u64 bv] f F
  (RetE (α := Nat × Nat × Nat) (fun b => .func (.func 173) #[] #[.pointer (some ⟨b.1, 0, none⟩), .pointer (some ⟨b.2.1, 0, none⟩), .pointer (some ⟨b.2.2, 0, none⟩)]) f
   (fun b => row b.1 45 [.slice p m c] :: row b.2.1 27 [.pointer (some ⟨lb, 0, none⟩)] :: row b.2.2 31 [.int .u64 bv] :: F)) := by
 refine Fn.e3 Tryz.func120 Tryz.ntmps120 fun base => ?_
 refine gA ?_
 refine H.box (ls := [.pointer (some ⟨lb, 0, none⟩)]) rfl rfl rfl rfl fun b2 => ?_
 refine H.box (ls := [.slice p m c]) rfl rfl rfl rfl fun b1 => ?_
 refine H.box (ls := [.int .u64 bv]) rfl rfl rfl rfl fun b3 => ?_
 refine gQ ?_
 refine H.pf (x := row b2 _ _) ?_
 refine H.pf (x := row b1 _ _) ?_
 exact H.Ab rfl rfl (fun _ h => h) ⟨(b1, b2, b3), rfl, rfl, rfl⟩
set_option maxRecDepth 20000 in
set_option maxHeartbeats 3200000 in
theorem votes1_fn {fl : Frag} (hfl : Le fl f) {lb : Nat} {l : Lgs} {T : Nat} (hL : LI l T) (hT : T ≤ 50000) {i : PPt} (hi : plφ fl l i) {qp : Option Addr} {qc : Nat} {q : List (Int × Int)} (hq : QAt f qp q) (hql : q.length ≤ 1000000) (hm : ∀ p ∈ q, 1 ≤ p.1 ∧ p.1 ≤ (l.n : Int)) {bv : Int} {lp : Nat} {X : Int × Int → HP}
  (hY : ∀ (a z : Int × Int) (G : List HP), YieldFn Tryz.prog lp [.int .u64 z.1, .int .i64 z.2] f (X a :: G) (fun v g B => v = .bool true ∧ g = f ∧ B = X (bmax a z) :: G)) {b1 b2 b3 : Nat} (a0 : Int × Int) :
  Fn Tryz.prog 173 ([] ++ [.func (.yield lp) #[] #[]] ++ [.pointer (some ⟨b1, 0, none⟩), .pointer (some ⟨b2, 0, none⟩), .pointer (some ⟨b3, 0, none⟩)]) f
   (X a0 :: row b1 45 [.slice qp q.length qc] :: row b2 27 [.pointer (some ⟨lb, 0, none⟩)] :: row b3 31 [.int .u64 bv] :: row lb 113 (plC l.n l.known i.vb i.pp i.pc i.cp i.cc) :: fam (fun r => pastH (i.pb r) (l.past r)) l.n :: F)
   (Ret (.tuple #[]) f (X (bestQ l.past bv q a0) :: row b1 45 [.slice qp q.length qc] :: row b2 27 [.pointer (some ⟨lb, 0, none⟩)] :: row b3 31 [.int .u64 bv] :: row lb 113 (plC l.n l.known i.vb i.pp i.pc i.cp i.cc) :: fam (fun r => pastH (i.pb r) (l.past r)) l.n :: F)) := by
 have hn := hL.n3
 have hqat : ListAt f qp 2 pairV q := hq
 have hpa := fun (o : Nat) (ho : o < l.n) (r : Int) (hr : r = ((o + 1 : Nat) : Int)) (G : List HP) => plpast_fn f G hfl (lb := lb) hi hn.2 ho hr
 obtain ⟨V, vb, pp, pc, cp, cc, pb, cs⟩ := i
 show Fn _ _ _ f (_ :: _ :: _ :: _ :: row lb 113 (plC l.n l.known vb pp pc cp cc) :: fam (fun r => pastH (pb r) (l.past r)) l.n :: F) (Ret _ f (_ :: _ :: _ :: _ :: row lb 113 (plC l.n l.known vb pp pc cp cc) :: fam (fun r => pastH (pb r) (l.past r)) l.n :: F))
 have hpa : ∀ (o : Nat), o < l.n → ∀ (r : Int), r = ((o + 1 : Nat) : Int) → ∀ (G : List HP), Fn Tryz.prog 48 [.pointer (some ⟨lb, 0, none⟩), .int .i64 r] f (row lb 113 (plC l.n l.known vb pp pc cp cc) :: G) (Ret (.pointer (some ⟨pb o, 0, none⟩)) f (row lb 113 (plC l.n l.known vb pp pc cp cc) :: G)) := hpa
 refine Fn.e4 Tryz.func173 Tryz.ntmps173 fun base => ?_
 refine ga ?_
 refine H.Ar (ι := Nat × Int × Int) (fun s => [(14, .int .i64 (s.1 : Int)), (13, .int .i64 (q.length : Nat)), (12, .slice qp q.length qc), (0, .func (.yield lp) #[] #[]), (2, .pointer (some ⟨b2, 0, none⟩)), (3, .pointer (some ⟨b3, 0, none⟩))]) (fun _ => f)
  (fun s => X s.2 :: row b1 45 [.slice qp q.length qc] :: row b2 27 [.pointer (some ⟨lb, 0, none⟩)] :: row b3 31 [.int .u64 bv] :: row lb 113 (plC l.n l.known vb pp pc cp cc) :: fam (fun r => pastH (pb r) (l.past r)) l.n :: F)
  (fun s => s.1 ≤ q.length ∧ bestQ l.past bv (q.drop s.1) s.2 = bestQ l.past bv q a0) (fun s => q.length - s.1) (0, a0) ⟨Nat.zero_le _, rfl⟩ ⟨rfl, rfl, rfl, rfl, rfl, rfl, trivial⟩ rfl rfl fun s hs => ?_
 obtain ⟨j, a⟩ := s
 obtain ⟨hj1, hbq⟩ : j ≤ q.length ∧ bestQ l.past bv (q.drop j) a = bestQ l.past bv q a0 := hs
 show H _ _ _ [(14, .int .i64 (j : Int)), _, _, _, _, _] f (X a :: _ :: _ :: _ :: _ :: _ :: F) _
 by_cases hlt : j < q.length
 ·obtain ⟨p, hp⟩ : ∃ p, q[j]? = some p := ⟨_, List.getElem?_eq_getElem hlt⟩
  have hpm := List.mem_of_getElem? hp
  have hpq := hm p hpm
  obtain ⟨r, hre⟩ : ∃ r, r = (p.1 - 1).toNat := ⟨_, rfl⟩
  have hr : r < l.n := by omega
  obtain ⟨qb, qoff, qcs, qT, qfr, hqp, hqfb, hqcs⟩ := hqat j p hp
  have rd : ∀ A, Rd f A qb (qoff + j * 2) (pairV p) := fun A => Rd.imm hqfb hqcs
  rw [show q.drop j = p :: q.drop (j + 1) by rw [List.drop_eq_getElem_cons hlt, (List.getElem?_eq_some_iff.1 hp).2]] at hbq
  rw [bestQ_cons] at hbq
  rw [← hre] at hbq
  have hwf := hL.wf r hr
  have hil := hL.il r hr
  have halen := all_len (l.past r)
  have hen := fun G => entered_fn f G (pb r) (l.past r) (by omega)
  have hpar := hpa r hr p.1 (by omega)
  clear hpa
  refine gF ?_
  refine H.Aq (b := qb) (off := qoff) (i := j) rfl (by rw [← hqp]; rfl) rfl rfl hlt rfl ?_
  refine H.Af (ls := pairV p) rfl rfl rfl (rd _) rfl rfl ?_
  refine H.Ao (ls := pairV (0, 0)) rfl rfl rfl fun ab => ?_
  refine H.Ah (ls := pairV (0, 0)) (vs := pairV p) (ls' := pairV p) rfl rfl rfl (zaa rfl) rfl rfl (Nat.le_refl 2) (.here _ _ _) ?_
  refine gG ?_
  refine H.pf (x := row lb _ _) ?_
  refine H.Ad rfl rfl rfl (hpar _) ?_
  refine gN ?_
  refine H.pf (x := fam (fun r => pastH _ _) _) ?_
  refine H.Cd hr ?_
  refine H.Ay rfl rfl rfl (hen _) fun v f' A' hR => ?_
  obtain ⟨ep, ec, rfl, hff, rfl⟩ := hR
  rw [hff]
  clear hen hff
  refine gY ?_
  refine H.pf (x := row b3 _ _) ?_
  refine H.pf (x := X a) ?_
  refine H.Ar (ι := Nat × Int × Int) (fun s => [(25, .int .i64 (s.1 : Int)), (24, .int .i64 (((l.past r).init.length + 1 : Nat) : Int)), (23, .slice ep ((l.past r).init.length + 1) ec), (7, .pointer (some ⟨pb r, 0, none⟩)), (14, .int .i64 (j : Int)), (13, .int .i64 (q.length : Nat)), (12, .slice qp q.length qc), (0, .func (.yield lp) #[] #[]), (2, .pointer (some ⟨b2, 0, none⟩)), (3, .pointer (some ⟨b3, 0, none⟩))]) (fun _ => f)
   (fun s => X s.2 :: row b3 31 [.int .u64 bv] :: slc ep ((l.past r).init.length + 1) ec 31 1 (viewsV (l.past r).all) :: pastH (pb r) (l.past r) :: fam (updF (fun r => pastH (pb r) (l.past r)) r emp) l.n :: row lb 113 (plC l.n l.known vb pp pc cp cc) :: row ab 69 (pairV p) :: row b1 45 [.slice qp q.length qc] :: row b2 27 [.pointer (some ⟨lb, 0, none⟩)] :: F)
   (fun s => s.1 ≤ (l.past r).all.length ∧ bestOf bv ((l.past r).all.drop s.1) s.2 = bestOf bv (l.past r).all a) (fun s => (l.past r).all.length - s.1) (0, a) ⟨Nat.zero_le _, rfl⟩ ⟨rfl, rfl, rfl, rfl, rfl, rfl, rfl, rfl, rfl, rfl, trivial⟩ rfl rfl fun s hs => ?_
  obtain ⟨k, a2⟩ := s
  obtain ⟨hk1, hbo⟩ : k ≤ (l.past r).all.length ∧ bestOf bv ((l.past r).all.drop k) a2 = bestOf bv (l.past r).all a := hs
  show H _ _ _ [(25, .int .i64 (k : Int)), _, _, _, _, _, _, _, _, _] f (X a2 :: _ :: _ :: _ :: _ :: _ :: _ :: _ :: _ :: F) _
  by_cases hk : k < (l.past r).all.length
  ·obtain ⟨z, hz⟩ : ∃ z, (l.past r).all[k]? = some z := ⟨_, List.getElem?_eq_getElem hk⟩
   rw [show (l.past r).all.drop k = z :: (l.past r).all.drop (k + 1) by rw [List.drop_eq_getElem_cons hk, (List.getElem?_eq_some_iff.1 hz).2]] at hbo
   have hvo := fun G => plvoted1_fn f G (b := pb r) (s := l.past r) (z := z) (voted_at hwf.rise (List.mem_of_getElem? hz))
   refine H.Bm (p := ep) (n0 := (l.past r).init.length + 1) (c := ec) (T := 31) (sz := 1) (xs := viewsV (l.past r).all) (.there _ (.there _ (.here _ _ _))) (by omega) fun eb hep => ?_
   subst hep
   refine gF ?_
   refine H.Aq (i := k) rfl rfl rfl rfl (by omega) rfl ?_
   refine H.Ae rfl rfl rfl (by rw [Nat.zero_add, Nat.mul_one]; exact Rd1.at0 (Rd.ofSlc (.there _ (.there _ (.here _ _ _))) (by omega)) (v := .int .u64 z.1) (by rw [viewsV, List.getElem?_map, hz]; rfl)) rfl ?_
   refine gN ?_
   refine H.pf (x := pastH (pb r) _) ?_
   refine H.Ad rfl rfl rfl (hvo _) ?_
   iterate 8 ( first
    | ((first | apply H.Ag | apply H.Ak | apply H.Bc | apply H.Bk | apply H.Bn | apply H.Bs); (iterate 3 exact rfl))
    | (apply H.Ap; (iterate 3 exact rfl); exact inferInstance; exact rfl)
    | (apply H.Ae; (iterate 3 exact rfl); apply Rd1.ofRow; (repeat (first | exact .here _ _ _ | apply At.there)); (iterate 2 exact rfl))
    | (first | apply H.seq | apply H.Al | apply H.nil | apply H.Am)
    | ((first | apply H.cmp | apply H.Av); (iterate 5 exact rfl))
    | ((first | (apply H.ar; (iterate 4 exact rfl)) | (apply H.Bh; (iterate 2 exact rfl))); (first | (with_reducible apply zas; omega) | (with_reducible apply zau; omega) | (with_reducible apply zav; omega) | (with_reducible apply wr_i64; omega) | (with_reducible apply wr_u64; omega) | (with_reducible apply wr_u8; omega) | (with_reducible apply wr_u16; omega) | rfl); exact rfl)
    | (apply H.Bi; (iterate 2 exact rfl))
    | (apply H.pass0; exact rfl)
    | (apply H.Bg; (iterate 4 exact rfl))
    | ((first | apply H.Az | apply H.Cb | apply H.not | apply H.Ch); (iterate 4 exact rfl))
    | ((first | apply H.Ck | apply H.Cl); (iterate 5 exact rfl))
    | (apply H.Be; (iterate 4 exact rfl); (repeat (first | exact .here _ _ _ | apply At.there)); (repeat (first | exact .here _ _ _ | apply SetV.there)))
    | (apply H.Ce; exact rfl)
    | (apply H.Cc; exact rfl)
    | (first | apply H.Bf | apply H.ret | apply H.Bt | apply H.By | apply H.exit | apply H.Bj | apply H.Bq | apply H.Bz | apply H.Bw | apply H.Ca | apply H.Bu)
    | (apply H.in_miss; exact rfl)
    | (apply H.Bl; (iterate 3 exact rfl); (first | assumption | omega))
    | (apply H.gno; (iterate 3 exact rfl); (first | assumption | omega))
    | (apply H.Bp; exact rfl; (first | assumption | omega))
    | (apply H.Br; exact rfl; (first | assumption | omega))
    | ((first | apply H.gtrue); (iterate 3 exact rfl); assumption)
    | (apply H.gfalse; (iterate 3 exact rfl); assumption)
    | (apply H.cond_t; exact rfl; assumption)
    | (apply H.cond_f; exact rfl; assumption) )
   refine H.regionY ?_
   refine H.inOp (by with_reducible (repeat (first | exact zbg | exact zbb | exact zao | exact zan | refine zba ?_ | refine zam ?_ | refine zar ?_ | refine zaq ?_ | refine zbf ?_))) ?_
   refine gN ?_
   refine H.Ci ?_
   refine H.inOp (by with_reducible (repeat (first | exact zbg | exact zbb | exact zao | exact zan | refine zba ?_ | refine zam ?_ | refine zar ?_ | refine zaq ?_ | refine zbf ?_))) ?_
   refine gG ?_
   refine H.Ci ?_
   refine H.inOp (by with_reducible (repeat (first | exact zbg | exact zbb | exact zao | exact zan | refine zba ?_ | refine zam ?_ | refine zar ?_ | refine zaq ?_ | refine zbf ?_))) ?_
   refine gW ?_
   refine H.Ci ?_
   refine H.inOp (by with_reducible (repeat (first | exact zbg | exact zbb | exact zao | exact zan | refine zba ?_ | refine zam ?_ | refine zar ?_ | refine zaq ?_ | refine zbf ?_))) ?_
   refine gN ?_
   refine H.Ci ?_
   by_cases hzb : z.1 < bv
   ·rw [bestOf_yes hzb] at hbo
    refine H.inOp (by with_reducible (repeat (first | exact zbg | exact zbb | exact zao | exact zan | refine zba ?_ | refine zam ?_ | refine zar ?_ | refine zaq ?_ | refine zbf ?_))) ?_
    refine gW ?_
    refine H.Ci ?_
    refine H.inOp (by with_reducible (repeat (first | exact zbg | exact zbb | exact zao | exact zan | refine zba ?_ | refine zam ?_ | refine zar ?_ | refine zaq ?_ | refine zbf ?_))) ?_
    refine gN ?_
    refine H.Ci ?_
    refine H.inOp (by with_reducible (repeat (first | exact zbg | exact zbb | exact zao | exact zan | refine zba ?_ | refine zam ?_ | refine zar ?_ | refine zaq ?_ | refine zbf ?_))) ?_
    refine gN ?_
    refine H.Ci ?_
    refine H.pf (x := X a2) ?_
    refine H.yield rfl rfl rfl rfl (hY a2 z _) fun v f' A' hR => ?_
    obtain ⟨rfl, hff, rfl⟩ := hR
    rw [hff]
    clear hff
    refine H.inOp (by with_reducible (repeat (first | exact zbg | exact zbb | exact zao | exact zan | refine zba ?_ | refine zam ?_ | refine zar ?_ | refine zaq ?_ | refine zbf ?_))) ?_
    refine gQ ?_
    refine H.Ci ?_
    refine H.inOp (by with_reducible (repeat (first | exact zbg | exact zbb | exact zao | exact zan | refine zba ?_ | refine zam ?_ | refine zar ?_ | refine zaq ?_ | refine zbf ?_))) ?_
    refine gW ?_
    refine H.Ci ?_
    refine H.inNil ?_
    refine gS ?_
    refine H.pf (x := pastH (pb r) _) ?_
    refine H.pf (x := slc (some ⟨eb, 0, none⟩) _ ec _ _ _) ?_
    refine H.pf (x := row b3 _ _) ?_
    refine H.pf (x := X _) ?_
    exact H.Aj (k + 1, bmax a2 z) ⟨by show k + 1 ≤ (l.past r).all.length; omega, hbo⟩ (by show (l.past r).all.length - (k + 1) < (l.past r).all.length - k; omega) ⟨rfl, rfl, rfl, rfl, rfl, rfl, rfl, rfl, rfl, rfl, trivial⟩ rfl rfl
   ·rw [bestOf_no hzb] at hbo
    refine H.inOp (by with_reducible (repeat (first | exact zbg | exact zbb | exact zao | exact zan | refine zba ?_ | refine zam ?_ | refine zar ?_ | refine zaq ?_ | refine zbf ?_))) ?_
    refine gT ?_
    refine H.Ci ?_
    refine H.inOp (by with_reducible (repeat (first | exact zbg | exact zbb | exact zao | exact zan | refine zba ?_ | refine zam ?_ | refine zar ?_ | refine zaq ?_ | refine zbf ?_))) ?_
    refine gB ?_
    refine H.Ci ?_
    refine H.inOp (by with_reducible (repeat (first | exact zbg | exact zbb | exact zao | exact zan | refine zba ?_ | refine zam ?_ | refine zar ?_ | refine zaq ?_ | refine zbf ?_))) ?_
    refine gB ?_
    refine H.Ci ?_
    refine H.inOp (by with_reducible (repeat (first | exact zbg | exact zbb | exact zao | exact zan | refine zba ?_ | refine zam ?_ | refine zar ?_ | refine zaq ?_ | refine zbf ?_))) ?_
    refine gB ?_
    refine H.Ci ?_
    refine H.inOp (by with_reducible (repeat (first | exact zbg | exact zbb | exact zao | exact zan | refine zba ?_ | refine zam ?_ | refine zar ?_ | refine zaq ?_ | refine zbf ?_))) ?_
    refine gB ?_
    refine H.Ci ?_
    refine H.inOp (by with_reducible (repeat (first | exact zbg | exact zbb | exact zao | exact zan | refine zba ?_ | refine zam ?_ | refine zar ?_ | refine zaq ?_ | refine zbf ?_))) ?_
    refine gQ ?_
    refine H.Ci ?_
    refine H.inNil ?_
    refine gS ?_
    refine H.pf (x := pastH (pb r) _) ?_
    refine H.pf (x := slc (some ⟨eb, 0, none⟩) _ ec _ _ _) ?_
    refine H.pf (x := row b3 _ _) ?_
    refine H.pf (x := X _) ?_
    exact H.Aj (k + 1, a2) ⟨by show k + 1 ≤ (l.past r).all.length; omega, hbo⟩ (by show (l.past r).all.length - (k + 1) < (l.past r).all.length - k; omega) ⟨rfl, rfl, rfl, rfl, rfl, rfl, rfl, rfl, rfl, rfl, trivial⟩ rfl rfl
  ·have e : k = (l.past r).all.length := by omega
   subst e
   rw [List.drop_length] at hbo
   have hbo : a2 = bestOf bv (l.past r).all a := hbo
   rw [← hbo] at hbq
   refine gK ?_
   refine H.pd (x := slc ep _ ec _ _ _) ?_
   refine H.pd (x := row ab _ _) ?_
   refine H.pf (x := fam (updF _ _ _) _) ?_
   refine H.pf (x := pastH (pb r) _) ?_
   refine H.Cj (g := fun r => pastH (pb r) (l.past r)) hr ?_
   refine H.pf (x := row lb _ _) ?_
   refine H.pf (x := row b3 _ _) ?_
   refine H.pf (x := row b2 _ _) ?_
   refine H.pf (x := row b1 _ _) ?_
   refine H.pf (x := X _) ?_
   exact H.Aj (j + 1, a2) ⟨by show j + 1 ≤ q.length; omega, hbq⟩ (by show q.length - (j + 1) < q.length - j; omega) ⟨rfl, rfl, rfl, rfl, rfl, rfl, trivial⟩ rfl rfl
 ·have e : j = q.length := by omega
  subst e
  rw [List.drop_length] at hbq
  have hbq : a = bestQ l.past bv q a0 := hbq
  rw [← hbq]
  refine gD ?_
  exact H.end0 rfl (fun _ h => h) ⟨rfl, rfl, rfl⟩
end
theorem Lgs.begins_no {l : Lgs} {m : Msg} (ho : l.n % 2 = 1) (h : (qokB l m && decide (m.body.q.length = l.n / 2 + 1)) = false) : l.begins m = (false, l) := by
 unfold Lgs.begins
 by_cases h1 : m.body.q.length ≠ (l.n - 1) / 2 + 1
 ·rw [if_pos h1]
 ·rw [if_neg h1, if_pos]
  rw [decide_eq_true (show m.body.q.length = l.n / 2 + 1 by omega), Bool.and_true] at h
  exact h
theorem Lgs.begins_en {l : Lgs} {m : Msg} (ho : l.n % 2 = 1) (h : (qokB l m && decide (m.body.q.length = l.n / 2 + 1)) = true) {u : Int} {ln iv : Nat} {w : Vw} (hb : bestQ l.past m.body.view m.body.q (0, 0) = (u, (ln : Int))) (hat : vwAt l.vs u = some iv) (hw : l.vs[iv]? = some w) : l.begins m =
  if (l.past (orgI m)).enterOk m.body.view ln = false then (false, l) else
  (true, { l with past := updF l.past (orgI m) ((l.past (orgI m)).enter m.body.view ln), vs := insV ⟨m.body.view, m.number, w.all.take ln, []⟩ l.vs }) := by
 rw [Bool.and_eq_true] at h
 have h2 := of_decide_eq_true h.2
 unfold Lgs.begins
 have h1 : (m.body.q.all fun q => decide (q.2 ≤ m.deps (q.1 - 1).toNat) && chB l q m.body.view) = true := h.1
 have h3 : ((match vwAt l.vs u with | none => [] | some i => (l.vs[i]?.map Vw.all).getD []).take (ln : Int).toNat) = w.all.take ln := by
  rw [hat]
  show ((l.vs[iv]?.map Vw.all).getD []).take (ln : Int).toNat = _
  rw [hw]
  rfl
 rw [hb, if_neg (by omega), if_neg (by rw [h1]; decide), ← h3]
 rfl
theorem LI.fresh {l : Lgs} {T : Nat} (h : LI l T) {v k : Int} (hr : primI l.n v < l.n) (he : (l.past (primI l.n v)).enterOk v k = true) : vwAt l.vs v = none := by
 have hw := h.wf _ hr
 have he := of_decide_eq_true he
 refine vwAt_none.2 fun w hm e => ?_
 by_cases h0 : w.v = 0
 ·have := hw.last
  omega
 ·obtain ⟨p, hp, h1⟩ := h.begun w hm h0
  rw [e] at hp h1
  exact hw.not_all he.1 (List.mem_map.2 ⟨p, hp, h1⟩)
theorem ent_fresh {l : Lgs} {V : List PV} (h : (V.map PV.w).Perm l.vs) {v : Int} (hv : vwAt l.vs v = none) : v ∉ (V.map PV.ent).map (·.1) := fun hm => by
 obtain ⟨e, he, h1⟩ := List.mem_map.1 hm
 obtain ⟨x, hx, rfl⟩ := List.mem_map.1 he
 exact vwAt_none.1 hv x.w (h.mem_iff.1 (List.mem_map.2 ⟨x, hx, rfl⟩)) h1
section
variable (f : Frag) (F : List HP)
set_option maxRecDepth 20000 in
set_option maxHeartbeats 3200000 in
theorem plnew_view_fn {fl : Frag} (hfl : Le fl f) {lb : Nat} {l : Lgs} {T : Nat} (hL : LI l T) (hT : T ≤ 50000) (hodd : l.n % 2 = 1) {x : MV} (hx : x.Good f) (hm : MIn l.n x.m) (hk : x.m.body.kind = 4) {i : PPt} (hi : plφ fl l i) {r : Nat} (hre : r = orgI x.m) :
  Fn Tryz.prog 83 [.pointer (some ⟨lb, 0, none⟩), .agg x.vals.toArray, .pointer (some ⟨i.pb r, 0, none⟩)] f (plB lb l i ++ F) (Ret (.bool (l.counts x.m).1) f (plogH f lb (l.counts x.m).2 :: F)) := by
 have hiF := hi.mono hfl
 have hn := hL.n3
 have hor := hm.o
 have hr : r < l.n := by rw [hre]; unfold orgI; omega
 have hwf := hL.wf r hr
 have hil := hL.il r hr
 have hvl := hL.vl
 have hv0 := hm.v
 have hvs := hi.vs
 have hql : x.m.body.q.length ≤ 1000000 := by have := hx.2.1; omega
 have hvo1 := fun (lp : Nat) (X : Int × Int → HP) (hY) (b1 b2 b3 : Nat) (G : List HP) => votes1_fn f G hfl (lb := lb) hL hT hi (q := x.m.body.q) (qc := x.qc) hx.1 hql hm.q (bv := x.m.body.view) (lp := lp) (X := X) hY (b1 := b1) (b2 := b2) (b3 := b3) (0, 0)
 obtain ⟨V, vb, pp, pc, cp, cc, pb, cs⟩ := i
 have hvs : (V.map PV.w).Perm l.vs := hvs
 have hvo1 : ∀ (lp : Nat) (X : Int × Int → HP), (∀ (a z : Int × Int) (G : List HP), YieldFn Tryz.prog lp [.int .u64 z.1, .int .i64 z.2] f (X a :: G) (fun v g B => v = .bool true ∧ g = f ∧ B = X (bmax a z) :: G)) → ∀ (b1 b2 b3 : Nat) (G : List HP), Fn Tryz.prog 173 ([] ++ [.func (.yield lp) #[] #[]] ++ [.pointer (some ⟨b1, 0, none⟩), .pointer (some ⟨b2, 0, none⟩), .pointer (some ⟨b3, 0, none⟩)]) f
   (X (0, 0) :: row b1 45 [.slice x.qp x.m.body.q.length x.qc] :: row b2 27 [.pointer (some ⟨lb, 0, none⟩)] :: row b3 31 [.int .u64 x.m.body.view] :: row lb 113 (plC l.n l.known vb pp pc cp cc) :: fam (fun r => pastH (pb r) (l.past r)) l.n :: G)
   (Ret (.tuple #[]) f (X (bestQ l.past x.m.body.view x.m.body.q (0, 0)) :: row b1 45 [.slice x.qp x.m.body.q.length x.qc] :: row b2 27 [.pointer (some ⟨lb, 0, none⟩)] :: row b3 31 [.int .u64 x.m.body.view] :: row lb 113 (plC l.n l.known vb pp pc cp cc) :: fam (fun r => pastH (pb r) (l.past r)) l.n :: G)) := hvo1
 have hprim := fun G => plprim_fn f G (lb := lb) (n := l.n) (kn := l.known) (vb := vb) (pp := pp) (pc := pc) (cp := cp) (cc := cc) (by omega) hv0
 have hqu := fun G => plquorum_fn f G hL hT hx hm (lb := lb) (vb := vb) (pp := pp) (pc := pc) (cp := cp) (cc := cc) (cs := cs)
 rw [Lgs.counts_4 hk]
 show Fn _ _ _ f (row lb 113 (plC l.n l.known vb pp pc cp cc) :: mp vb keyU (V.map PV.ent) :: lst (V.map PV.own) :: fam (fun r => pastH (pb r) (l.past r)) l.n :: slc cp l.n cc 179 1 (chRow l cs) :: fam (pcFam l cs) l.n :: F) _
 by_cases hp : primZ l.n x.m.body.view = x.m.origin
 ·rw [if_pos (decide_eq_true hp)]
  cases hqk : qokB l x.m && decide (x.m.body.q.length = l.n / 2 + 1) with
  | false =>
   rw [Lgs.begins_no hodd hqk]
   rw [hqk] at hqu
   refine Fn.enterM Tryz.func83 rfl Tryz.ntmps83 rfl (L := [(0, _), (1, _), (2, _)]) ⟨rfl, rfl, rfl, trivial⟩ fun base => ?_
   refine gA ?_
   refine H.box (ls := x.vals) rfl rfl rfl rfl fun mb => ?_
   refine gG ?_
   refine H.drawB (by kernel_rfl) (by decide +kernel) (by with_reducible (repeat (first | exact blind_fnM | refine zaf ?_ | refine zap ?_ | refine zay ?_))) (S := [_]) rfl ?_
   refine HB.qu [0,1,3,4] 8 ?_
   refine gU ?_
   refine HQ.Aa rfl ?_
   refine HB.ev 2 ?_
   refine H.pf (x := row lb _ _) ?_
   refine H.Ad rfl rfl rfl (hprim _) ?_
   refine gA ?_
   refine H.pf (x := row mb _ _) ?_
   refine H.on0 rfl ?_
   refine HB.qu [5,6,7,8] 3 ?_
   refine gX ?_
   refine HQ.Af (ls := x.vals) rfl rfl rfl (Rd.ofRow (.here _ _ _)) rfl rfl ?_
   refine HQ.Aa rfl ?_
   refine HB.ev 9 ?_
   refine H.pf (x := fam (pcFam l cs) _) ?_
   refine H.pf (x := slc cp _ cc _ _ _) ?_
   refine H.pf (x := row lb _ _) ?_
   refine H.Ad rfl rfl rfl (hqu _) ?_
   refine gA ?_
   refine H.pf (x := row mb _ _) ?_
   refine H.on0 rfl ?_
   refine HB.qu [10,11] 0 ?_
   refine gR ?_
   refine HQ.Aa rfl ?_
   refine HB.dn ?_
   refine gC ?_
   refine H.pd (x := row mb _ _) ?_
   refine H.pf (x := fam (pcFam l cs) _) ?_
   refine H.pf (x := slc cp _ cc _ _ _) ?_
   refine H.pf (x := fam (fun r => pastH _ _) _) ?_
   refine H.pf (x := lst (V.map PV.own)) ?_
   refine H.pf (x := mp vb _ _) ?_
   refine H.pf (x := row lb _ _) ?_
   refine H.imp (zai ⟨V, vb, pp, pc, cp, cc, pb, cs⟩ hiF) ?_
   exact H.retM rfl rfl (fun _ h => h) ⟨rfl, rfl, rfl⟩
  | true =>
   obtain ⟨⟨u, z⟩, hbq⟩ : ∃ b, bestQ l.past x.m.body.view x.m.body.q (0, 0) = b := ⟨_, rfl⟩
   have hbest := hL.best hm
   rw [hbq] at hbest hvo1
   obtain ⟨iv, w, hat, hw, hz0, hz1⟩ : ∃ i w, vwAt l.vs u = some i ∧ l.vs[i]? = some w ∧ 0 ≤ z ∧ z ≤ (w.all.length : Int) := hbest
   obtain ⟨ln, rfl⟩ : ∃ ln : Nat, z = (ln : Int) := ⟨z.toNat, by omega⟩
   have hln : ln ≤ w.all.length := by omega
   obtain ⟨j, X, hX, hXw, hgetX⟩ := view_some hvs hL.rise hat hw
   have hget : (getKV (V.map PV.ent) u).getD (.pointer none) = .pointer (some ⟨X.b, 0, none⟩) := by rw [hgetX]; rfl
   subst hXw
   have hXl := hL.al X.w (List.mem_of_getElem? hw)
   rw [Lgs.begins_en hodd hqk hbq hat hw, ← hre]
   rw [hqk] at hqu
   refine Fn.enterM Tryz.func83 rfl Tryz.ntmps83 rfl (L := [(0, _), (1, _), (2, _)]) ⟨rfl, rfl, rfl, trivial⟩ fun base => ?_
   refine gA ?_
   refine H.box (ls := x.vals) rfl rfl rfl rfl fun mb => ?_
   refine gG ?_
   refine H.drawB (by kernel_rfl) (by decide +kernel) (by with_reducible (repeat (first | exact blind_fnM | refine zaf ?_ | refine zap ?_ | refine zay ?_))) (S := [_]) rfl ?_
   refine HB.qu [0,1,3,4] 8 ?_
   refine gU ?_
   refine HQ.Aa rfl ?_
   refine HB.ev 2 ?_
   refine H.pf (x := row lb _ _) ?_
   refine H.Ad rfl rfl rfl (hprim _) ?_
   refine gA ?_
   refine H.pf (x := row mb _ _) ?_
   refine H.on0 rfl ?_
   refine HB.qu [5,6,7,8] 3 ?_
   refine gX ?_
   refine HQ.Af (ls := x.vals) rfl rfl rfl (Rd.ofRow (.here _ _ _)) rfl rfl ?_
   refine HQ.Aa rfl ?_
   refine HB.ev 9 ?_
   refine H.pf (x := fam (pcFam l cs) _) ?_
   refine H.pf (x := slc cp _ cc _ _ _) ?_
   refine H.pf (x := row lb _ _) ?_
   refine H.Ad rfl rfl rfl (hqu _) ?_
   refine gA ?_
   refine H.pf (x := row mb _ _) ?_
   refine H.on0 rfl ?_
   refine HB.qu [10,11] 0 ?_
   refine gR ?_
   refine HQ.Aa rfl ?_
   refine HB.dn ?_
   refine gS ?_
   refine H.Ao (ls := [.int .u64 0]) rfl rfl rfl fun ub => ?_
   refine H.Ao (ls := [.int .i64 0]) rfl rfl rfl fun nb => ?_
   refine gL ?_
   refine H.callE rfl rfl rfl (votes_fn f _) fun b => ?_
   obtain ⟨b1, b2, b3⟩ := b
   refine gY ?_
   refine H.sub (L' := [(35, .func (.func 173) #[] #[.pointer (some ⟨b1, 0, none⟩), .pointer (some ⟨b2, 0, none⟩), .pointer (some ⟨b3, 0, none⟩)]), (9, .pointer (some ⟨nb, 0, none⟩)), (8, .pointer (some ⟨ub, 0, none⟩)), (7, .int .u64 x.m.body.view), (4, .pointer (some ⟨mb, 0, none⟩)), (2, .pointer (some ⟨pb r, 0, none⟩)), (0, .pointer (some ⟨lb, 0, none⟩))]) ⟨rfl, rfl, rfl, rfl, rfl, rfl, rfl, trivial⟩ ?_
   refine H.pf (x := fam (fun r => pastH _ _) _) ?_
   refine H.pf (x := row lb _ _) ?_
   refine H.pf (x := row b3 _ _) ?_
   refine H.pf (x := row b2 _ _) ?_
   refine H.pf (x := row b1 _ _) ?_
   refine H.pf (x := row nb _ _) ?_
   refine H.pf (x := row ub _ _) ?_
   refine H.rangeFuncE (f' := f) (fs := []) (cs := [.pointer (some ⟨b1, 0, none⟩), .pointer (some ⟨b2, 0, none⟩), .pointer (some ⟨b3, 0, none⟩)]) rfl rfl fun LH hLH => ⟨Unit, fun _ D => pts D (.deferred (some [])) :: row ub 31 [.int .u64 u] :: row nb 3 [.int .i64 (ln : Int)] :: row b1 45 [.slice x.qp x.m.body.q.length x.qc] :: row b2 27 [.pointer (some ⟨lb, 0, none⟩)] :: row b3 31 [.int .u64 x.m.body.view] :: row lb 113 (plC l.n l.known vb pp pc cp cc) :: fam (fun r => pastH (pb r) (l.past r)) l.n :: row mb 49 x.vals :: slc cp l.n cc 179 1 (chRow l cs) :: fam (pcFam l cs) l.n :: mp vb keyU (V.map PV.ent) :: lst (V.map PV.own) :: F, fun D lp => ?_, fun _ D => ?_⟩
   ·refine Fn.wrap (pack_all [LH D lp .ready, pts D (.deferred (some [])), row ub 31 [.int .u64 0], row nb 3 [.int .i64 0]] _) (hvo1 lp (fun a => stars [LH D lp .ready, pts D (.deferred (some [])), row ub 31 [.int .u64 a.1], row nb 3 [.int .i64 a.2]]) (fun a z G => ?_) b1 b2 b3 _) fun v g B hR => ?_
    ·refine YieldFn.wrap (R1 := fun v g B => v = .bool true ∧ g = f ∧ B = LH D lp .ready :: pts D (.deferred (some [])) :: row ub 31 [.int .u64 (bmax a z).1] :: row nb 3 [.int .i64 (bmax a z).2] :: G) (open_all _ _) ?_ ?_
     ·subst hLH
      refine YieldFn.of rfl rfl rfl rfl fun base => ?_
      repeat (
       first | (
        first
       | (first | apply H.seqR | apply H.thenR | apply H.skipR | apply H.blockR)
       | (apply H.regionR; exact rfl; exact (by with_reducible (repeat (first | exact zbg | exact zbb | exact zao | exact zan | refine zba ?_ | refine zam ?_ | refine zar ?_ | refine zaq ?_ | refine zbf ?_))))
       | (apply H.condR_true; exact rfl)
       | (apply H.Co; exact rfl)
       | (apply H.condR_yes; exact rfl; (first | assumption | omega))
       | (apply H.condR_no; exact rfl; (first | assumption | omega))) | (
        first
       | ((first | apply H.Ag | apply H.Ak | apply H.Bc | apply H.Bk | apply H.Bn | apply H.Bs); (iterate 3 exact rfl))
       | (apply H.Ap; (iterate 3 exact rfl); exact inferInstance; exact rfl)
       | (apply H.Ae; (iterate 3 exact rfl); apply Rd1.ofRow; (repeat (first | exact .here _ _ _ | apply At.there)); (iterate 2 exact rfl))
       | (first | apply H.seq | apply H.Al | apply H.nil | apply H.Am)
       | ((first | apply H.cmp | apply H.Av); (iterate 5 exact rfl))
       | ((first | (apply H.ar; (iterate 4 exact rfl)) | (apply H.Bh; (iterate 2 exact rfl))); (first | (with_reducible apply zas; omega) | (with_reducible apply zau; omega) | (with_reducible apply zav; omega) | (with_reducible apply wr_i64; omega) | (with_reducible apply wr_u64; omega) | (with_reducible apply wr_u8; omega) | (with_reducible apply wr_u16; omega) | rfl); exact rfl)
       | (apply H.Bi; (iterate 2 exact rfl))
       | (apply H.pass0; exact rfl)
       | (apply H.Bg; (iterate 4 exact rfl))
       | ((first | apply H.Az | apply H.Cb | apply H.not | apply H.Ch); (iterate 4 exact rfl))
       | ((first | apply H.Ck | apply H.Cl); (iterate 5 exact rfl))
       | (apply H.Be; (iterate 4 exact rfl); (repeat (first | exact .here _ _ _ | apply At.there)); (repeat (first | exact .here _ _ _ | apply SetV.there)))
       | (apply H.Ce; exact rfl)
       | (apply H.Cc; exact rfl)
       | (first | apply H.Bf | apply H.ret | apply H.Bt | apply H.By | apply H.exit | apply H.Bj | apply H.Bq | apply H.Bz | apply H.Bw | apply H.Ca | apply H.Bu)
       | (apply H.in_miss; exact rfl)
       | (apply H.Bl; (iterate 3 exact rfl); (first | assumption | omega))
       | (apply H.gno; (iterate 3 exact rfl); (first | assumption | omega))
       | (apply H.Bp; exact rfl; (first | assumption | omega))
       | (apply H.Br; exact rfl; (first | assumption | omega))
       | ((first | apply H.gtrue); (iterate 3 exact rfl); assumption)
       | (apply H.gfalse; (iterate 3 exact rfl); assumption)
       | (apply H.cond_t; exact rfl; assumption)
       | (apply H.cond_f; exact rfl; assumption)))
      refine H.begin ?_
      by_cases h1 : a.1 < z.1
      ·rw [show bmax a z = z by unfold bmax; rw [if_pos (.inl h1)]]
       repeat (
        first | (
         first
        | (first | apply H.seqR | apply H.thenR | apply H.skipR | apply H.blockR)
        | (apply H.regionR; exact rfl; exact (by with_reducible (repeat (first | exact zbg | exact zbb | exact zao | exact zan | refine zba ?_ | refine zam ?_ | refine zar ?_ | refine zaq ?_ | refine zbf ?_))))
        | (apply H.condR_true; exact rfl)
        | (apply H.Co; exact rfl)
        | (apply H.condR_yes; exact rfl; (first | assumption | omega))
        | (apply H.condR_no; exact rfl; (first | assumption | omega))) | (
         first
        | ((first | apply H.Ag | apply H.Ak | apply H.Bc | apply H.Bk | apply H.Bn | apply H.Bs); (iterate 3 exact rfl))
        | (apply H.Ap; (iterate 3 exact rfl); exact inferInstance; exact rfl)
        | (apply H.Ae; (iterate 3 exact rfl); apply Rd1.ofRow; (repeat (first | exact .here _ _ _ | apply At.there)); (iterate 2 exact rfl))
        | (first | apply H.seq | apply H.Al | apply H.nil | apply H.Am)
        | ((first | apply H.cmp | apply H.Av); (iterate 5 exact rfl))
        | ((first | (apply H.ar; (iterate 4 exact rfl)) | (apply H.Bh; (iterate 2 exact rfl))); (first | (with_reducible apply zas; omega) | (with_reducible apply zau; omega) | (with_reducible apply zav; omega) | (with_reducible apply wr_i64; omega) | (with_reducible apply wr_u64; omega) | (with_reducible apply wr_u8; omega) | (with_reducible apply wr_u16; omega) | rfl); exact rfl)
        | (apply H.Bi; (iterate 2 exact rfl))
        | (apply H.pass0; exact rfl)
        | (apply H.Bg; (iterate 4 exact rfl))
        | ((first | apply H.Az | apply H.Cb | apply H.not | apply H.Ch); (iterate 4 exact rfl))
        | ((first | apply H.Ck | apply H.Cl); (iterate 5 exact rfl))
        | (apply H.Be; (iterate 4 exact rfl); (repeat (first | exact .here _ _ _ | apply At.there)); (repeat (first | exact .here _ _ _ | apply SetV.there)))
        | (apply H.Ce; exact rfl)
        | (apply H.Cc; exact rfl)
        | (first | apply H.Bf | apply H.ret | apply H.Bt | apply H.By | apply H.exit | apply H.Bj | apply H.Bq | apply H.Bz | apply H.Bw | apply H.Ca | apply H.Bu)
        | (apply H.in_miss; exact rfl)
        | (apply H.Bl; (iterate 3 exact rfl); (first | assumption | omega))
        | (apply H.gno; (iterate 3 exact rfl); (first | assumption | omega))
        | (apply H.Bp; exact rfl; (first | assumption | omega))
        | (apply H.Br; exact rfl; (first | assumption | omega))
        | ((first | apply H.gtrue); (iterate 3 exact rfl); assumption)
        | (apply H.gfalse; (iterate 3 exact rfl); assumption)
        | (apply H.cond_t; exact rfl; assumption)
        | (apply H.cond_f; exact rfl; assumption)))
       exact H.endRound ⟨rfl, rfl, rfl⟩
      ·by_cases h2 : z.1 = a.1
       ·by_cases h3 : a.2 < z.2
        ·rw [show bmax a z = z by unfold bmax; rw [if_pos (.inr ⟨h2, h3⟩)]]
         repeat (
          first | (
           first
          | (first | apply H.seqR | apply H.thenR | apply H.skipR | apply H.blockR)
          | (apply H.regionR; exact rfl; exact (by with_reducible (repeat (first | exact zbg | exact zbb | exact zao | exact zan | refine zba ?_ | refine zam ?_ | refine zar ?_ | refine zaq ?_ | refine zbf ?_))))
          | (apply H.condR_true; exact rfl)
          | (apply H.Co; exact rfl)
          | (apply H.condR_yes; exact rfl; (first | assumption | omega))
          | (apply H.condR_no; exact rfl; (first | assumption | omega))) | (
           first
          | ((first | apply H.Ag | apply H.Ak | apply H.Bc | apply H.Bk | apply H.Bn | apply H.Bs); (iterate 3 exact rfl))
          | (apply H.Ap; (iterate 3 exact rfl); exact inferInstance; exact rfl)
          | (apply H.Ae; (iterate 3 exact rfl); apply Rd1.ofRow; (repeat (first | exact .here _ _ _ | apply At.there)); (iterate 2 exact rfl))
          | (first | apply H.seq | apply H.Al | apply H.nil | apply H.Am)
          | ((first | apply H.cmp | apply H.Av); (iterate 5 exact rfl))
          | ((first | (apply H.ar; (iterate 4 exact rfl)) | (apply H.Bh; (iterate 2 exact rfl))); (first | (with_reducible apply zas; omega) | (with_reducible apply zau; omega) | (with_reducible apply zav; omega) | (with_reducible apply wr_i64; omega) | (with_reducible apply wr_u64; omega) | (with_reducible apply wr_u8; omega) | (with_reducible apply wr_u16; omega) | rfl); exact rfl)
          | (apply H.Bi; (iterate 2 exact rfl))
          | (apply H.pass0; exact rfl)
          | (apply H.Bg; (iterate 4 exact rfl))
          | ((first | apply H.Az | apply H.Cb | apply H.not | apply H.Ch); (iterate 4 exact rfl))
          | ((first | apply H.Ck | apply H.Cl); (iterate 5 exact rfl))
          | (apply H.Be; (iterate 4 exact rfl); (repeat (first | exact .here _ _ _ | apply At.there)); (repeat (first | exact .here _ _ _ | apply SetV.there)))
          | (apply H.Ce; exact rfl)
          | (apply H.Cc; exact rfl)
          | (first | apply H.Bf | apply H.ret | apply H.Bt | apply H.By | apply H.exit | apply H.Bj | apply H.Bq | apply H.Bz | apply H.Bw | apply H.Ca | apply H.Bu)
          | (apply H.in_miss; exact rfl)
          | (apply H.Bl; (iterate 3 exact rfl); (first | assumption | omega))
          | (apply H.gno; (iterate 3 exact rfl); (first | assumption | omega))
          | (apply H.Bp; exact rfl; (first | assumption | omega))
          | (apply H.Br; exact rfl; (first | assumption | omega))
          | ((first | apply H.gtrue); (iterate 3 exact rfl); assumption)
          | (apply H.gfalse; (iterate 3 exact rfl); assumption)
          | (apply H.cond_t; exact rfl; assumption)
          | (apply H.cond_f; exact rfl; assumption)))
         exact H.endRound ⟨rfl, rfl, rfl⟩
        ·rw [show bmax a z = a by unfold bmax; rw [if_neg (by rintro (h | h); exact h1 h; exact h3 h.2)]]
         repeat (
          first | (
           first
          | (first | apply H.seqR | apply H.thenR | apply H.skipR | apply H.blockR)
          | (apply H.regionR; exact rfl; exact (by with_reducible (repeat (first | exact zbg | exact zbb | exact zao | exact zan | refine zba ?_ | refine zam ?_ | refine zar ?_ | refine zaq ?_ | refine zbf ?_))))
          | (apply H.condR_true; exact rfl)
          | (apply H.Co; exact rfl)
          | (apply H.condR_yes; exact rfl; (first | assumption | omega))
          | (apply H.condR_no; exact rfl; (first | assumption | omega))) | (
           first
          | ((first | apply H.Ag | apply H.Ak | apply H.Bc | apply H.Bk | apply H.Bn | apply H.Bs); (iterate 3 exact rfl))
          | (apply H.Ap; (iterate 3 exact rfl); exact inferInstance; exact rfl)
          | (apply H.Ae; (iterate 3 exact rfl); apply Rd1.ofRow; (repeat (first | exact .here _ _ _ | apply At.there)); (iterate 2 exact rfl))
          | (first | apply H.seq | apply H.Al | apply H.nil | apply H.Am)
          | ((first | apply H.cmp | apply H.Av); (iterate 5 exact rfl))
          | ((first | (apply H.ar; (iterate 4 exact rfl)) | (apply H.Bh; (iterate 2 exact rfl))); (first | (with_reducible apply zas; omega) | (with_reducible apply zau; omega) | (with_reducible apply zav; omega) | (with_reducible apply wr_i64; omega) | (with_reducible apply wr_u64; omega) | (with_reducible apply wr_u8; omega) | (with_reducible apply wr_u16; omega) | rfl); exact rfl)
          | (apply H.Bi; (iterate 2 exact rfl))
          | (apply H.pass0; exact rfl)
          | (apply H.Bg; (iterate 4 exact rfl))
          | ((first | apply H.Az | apply H.Cb | apply H.not | apply H.Ch); (iterate 4 exact rfl))
          | ((first | apply H.Ck | apply H.Cl); (iterate 5 exact rfl))
          | (apply H.Be; (iterate 4 exact rfl); (repeat (first | exact .here _ _ _ | apply At.there)); (repeat (first | exact .here _ _ _ | apply SetV.there)))
          | (apply H.Ce; exact rfl)
          | (apply H.Cc; exact rfl)
          | (first | apply H.Bf | apply H.ret | apply H.Bt | apply H.By | apply H.exit | apply H.Bj | apply H.Bq | apply H.Bz | apply H.Bw | apply H.Ca | apply H.Bu)
          | (apply H.in_miss; exact rfl)
          | (apply H.Bl; (iterate 3 exact rfl); (first | assumption | omega))
          | (apply H.gno; (iterate 3 exact rfl); (first | assumption | omega))
          | (apply H.Bp; exact rfl; (first | assumption | omega))
          | (apply H.Br; exact rfl; (first | assumption | omega))
          | ((first | apply H.gtrue); (iterate 3 exact rfl); assumption)
          | (apply H.gfalse; (iterate 3 exact rfl); assumption)
          | (apply H.cond_t; exact rfl; assumption)
          | (apply H.cond_f; exact rfl; assumption)))
         exact H.endRound ⟨rfl, rfl, rfl⟩
       ·rw [show bmax a z = a by unfold bmax; rw [if_neg (by rintro (h | h); exact h1 h; exact h2 h.1)]]
        repeat (
         first | (
          first
         | (first | apply H.seqR | apply H.thenR | apply H.skipR | apply H.blockR)
         | (apply H.regionR; exact rfl; exact (by with_reducible (repeat (first | exact zbg | exact zbb | exact zao | exact zan | refine zba ?_ | refine zam ?_ | refine zar ?_ | refine zaq ?_ | refine zbf ?_))))
         | (apply H.condR_true; exact rfl)
         | (apply H.Co; exact rfl)
         | (apply H.condR_yes; exact rfl; (first | assumption | omega))
         | (apply H.condR_no; exact rfl; (first | assumption | omega))) | (
          first
         | ((first | apply H.Ag | apply H.Ak | apply H.Bc | apply H.Bk | apply H.Bn | apply H.Bs); (iterate 3 exact rfl))
         | (apply H.Ap; (iterate 3 exact rfl); exact inferInstance; exact rfl)
         | (apply H.Ae; (iterate 3 exact rfl); apply Rd1.ofRow; (repeat (first | exact .here _ _ _ | apply At.there)); (iterate 2 exact rfl))
         | (first | apply H.seq | apply H.Al | apply H.nil | apply H.Am)
         | ((first | apply H.cmp | apply H.Av); (iterate 5 exact rfl))
         | ((first | (apply H.ar; (iterate 4 exact rfl)) | (apply H.Bh; (iterate 2 exact rfl))); (first | (with_reducible apply zas; omega) | (with_reducible apply zau; omega) | (with_reducible apply zav; omega) | (with_reducible apply wr_i64; omega) | (with_reducible apply wr_u64; omega) | (with_reducible apply wr_u8; omega) | (with_reducible apply wr_u16; omega) | rfl); exact rfl)
         | (apply H.Bi; (iterate 2 exact rfl))
         | (apply H.pass0; exact rfl)
         | (apply H.Bg; (iterate 4 exact rfl))
         | ((first | apply H.Az | apply H.Cb | apply H.not | apply H.Ch); (iterate 4 exact rfl))
         | ((first | apply H.Ck | apply H.Cl); (iterate 5 exact rfl))
         | (apply H.Be; (iterate 4 exact rfl); (repeat (first | exact .here _ _ _ | apply At.there)); (repeat (first | exact .here _ _ _ | apply SetV.there)))
         | (apply H.Ce; exact rfl)
         | (apply H.Cc; exact rfl)
         | (first | apply H.Bf | apply H.ret | apply H.Bt | apply H.By | apply H.exit | apply H.Bj | apply H.Bq | apply H.Bz | apply H.Bw | apply H.Ca | apply H.Bu)
         | (apply H.in_miss; exact rfl)
         | (apply H.Bl; (iterate 3 exact rfl); (first | assumption | omega))
         | (apply H.gno; (iterate 3 exact rfl); (first | assumption | omega))
         | (apply H.Bp; exact rfl; (first | assumption | omega))
         | (apply H.Br; exact rfl; (first | assumption | omega))
         | ((first | apply H.gtrue); (iterate 3 exact rfl); assumption)
         | (apply H.gfalse; (iterate 3 exact rfl); assumption)
         | (apply H.cond_t; exact rfl; assumption)
         | (apply H.cond_f; exact rfl; assumption)))
        exact H.endRound ⟨rfl, rfl, rfl⟩
     ·rintro v g B ⟨rfl, rfl, rfl⟩
      exact ⟨_, ⟨rfl, rfl, rfl⟩, pack_all [_, _, _, _] G⟩
    ·obtain ⟨rfl, rfl, rfl⟩ := hR
     exact ⟨_, ⟨(), rfl, rfl⟩, open_all [_, _, _, _] _⟩
   ·have hent := fun G => enter_fn f G (pb r) (l.past r) hwf (by omega) x.m.body.view (ln : Int)
    show H _ _ _ _ f (pts D (.deferred (some [])) :: row ub 31 [.int .u64 u] :: row nb 3 [.int .i64 (ln : Int)] :: row b1 45 [.slice x.qp x.m.body.q.length x.qc] :: row b2 27 [.pointer (some ⟨lb, 0, none⟩)] :: row b3 31 [.int .u64 x.m.body.view] :: row lb 113 (plC l.n l.known vb pp pc cp cc) :: fam (fun r => pastH (pb r) (l.past r)) l.n :: row mb 49 x.vals :: slc cp l.n cc 179 1 (chRow l cs) :: fam (pcFam l cs) l.n :: mp vb keyU (V.map PV.ent) :: lst (V.map PV.own) :: F) _
    refine H.pd (x := row b1 _ _) ?_
    refine H.pd (x := row b2 _ _) ?_
    refine H.pd (x := row b3 _ _) ?_
    refine ga ?_
    refine H.pf (x := fam (fun r => pastH _ _) _) ?_
    refine H.Cd hr ?_
    refine H.Ad rfl rfl rfl (hent _) ?_
    cases hek : (l.past r).enterOk x.m.body.view ln with
    | false =>
     rw [if_pos rfl]
     rw [show (l.past r).enter x.m.body.view ln = l.past r by unfold PM.enter; rw [hek]; rfl]
     refine H.Cj (g := fun r => pastH (pb r) (l.past r)) hr ?_
     refine gQ ?_
     refine H.pd (x := row mb _ _) ?_
     refine H.pd (x := row ub _ _) ?_
     refine H.pd (x := row nb _ _) ?_
     refine H.pf (x := pts D _) ?_
     refine H.pf (x := fam (pcFam l cs) _) ?_
     refine H.pf (x := slc cp _ cc _ _ _) ?_
     refine H.pf (x := fam (fun r => pastH _ _) _) ?_
     refine H.pf (x := lst (V.map PV.own)) ?_
     refine H.pf (x := mp vb _ _) ?_
     refine H.pf (x := row lb _ _) ?_
     refine H.imp (zai ⟨V, vb, pp, pc, cp, cc, pb, cs⟩ hiF) ?_
     exact H.retMk rfl rfl rfl (.there _ (.here _ _)) (fun _ h => h) ⟨rfl, rfl, rfl⟩
    | true =>
     rw [if_neg (by decide)]
     refine H.famPut (g := fun r => pastH (pb r) (l.past r)) hr ?_
     rw [past_updF]
     refine gV ?_
     refine H.makeMap encA rfl rfl fun hb => ?_
     refine H.Av (t := 108) (out := vwC x.m.number ln none 0 0 none 0 0 hb) rfl rfl rfl (by kernel_rfl) rfl ?_
     refine H.box (ls := vwC x.m.number ln none 0 0 none 0 0 hb) rfl rfl rfl rfl fun wb => ?_
     refine gN ?_
     refine H.pf (x := lst (V.map PV.own)) ?_
     refine H.Cm (x := X.own) (i := j) (by rw [List.getElem?_map, hX]; rfl) ?_
     refine H.ownOpen ?_
     show H _ _ _ _ _ (row X.b _ (vwC X.w.num X.w.s.length X.lp X.w.all.length X.lc X.np X.w.p.length X.nc X.hb) :: slc X.lp X.w.all.length X.lc _ 40 (X.w.all.flatMap Req.vals) :: slc X.np X.w.p.length X.nc _ 1 (X.w.p.flatMap numV) :: mp X.hb encA (heldKV X.w.all) :: lst ((V.map PV.own).set j emp) :: _) _
     refine H.slc_cap (p := X.lp) (m := X.w.all.length) (c := X.lc) (T := 44) (sz := 40) (xs := X.w.all.flatMap Req.vals) (.there _ (.here _ _ _)) fun hcap _ _ => ?_
     refine H.drawQ (by kernel_rfl) (by decide +kernel) (by with_reducible (repeat (first | exact blind_fnM | refine zaf ?_ | refine zap ?_ | refine zay ?_))) ?_
     refine gU ?_
     refine HQ.Bv (enc := keyU) (k := u) rfl rfl rfl (by repeat constructor) rfl hget rfl ?_
     refine gU ?_
     refine HQ.slice (lo := none) (hi := some (.tmp 73)) (mx := none) (lv := 0) (hv := ln) (mv := X.lc) rfl rfl rfl ⟨_, _, rfl, rfl⟩ rfl (fun h => by cases h) (Nat.zero_le _) (by omega) (Nat.le_refl _) rfl ?_
     rw [slP0, Nat.sub_zero, Nat.sub_zero]
     refine gc ?_
     refine gY ?_
     refine H.slc0 44 40 ?_
     refine H.pf (x := mp hb _ _) ?_
     refine H.pf (x := slc none 0 0 _ _ _) ?_
     refine H.pf (x := row wb _ _) ?_
     refine H.Ar (ι := Nat × Option Addr × Nat) (fun s => [(76, .int .i64 (s.1 : Int)), (75, .int .i64 (ln : Int)), (74, .slice X.lp ln X.lc), (12, .pointer (some ⟨wb, 0, none⟩)), (7, .int .u64 x.m.body.view), (0, .pointer (some ⟨lb, 0, none⟩)), (1000003, .pointer (some ⟨D, 0, none⟩))]) (fun _ => f)
      (fun s => row wb 108 (vwC x.m.number ln s.2.1 (X.w.all.take s.1).length s.2.2 none 0 0 hb) :: slc s.2.1 (X.w.all.take s.1).length s.2.2 44 40 ((X.w.all.take s.1).flatMap Req.vals) :: mp hb encA (heldKV (X.w.all.take s.1)) :: row X.b 108 (vwC X.w.num X.w.s.length X.lp X.w.all.length X.lc X.np X.w.p.length X.nc X.hb) :: slc X.lp X.w.all.length X.lc 44 40 (X.w.all.flatMap Req.vals) :: slc X.np X.w.p.length X.nc 31 1 (X.w.p.flatMap numV) :: mp X.hb encA (heldKV X.w.all) :: lst ((V.map PV.own).set j emp) :: fam (fun j => pastH (pb j) (updF l.past r ((l.past r).enter x.m.body.view ln) j)) l.n :: pts D (.deferred (some [])) :: row ub 31 [.int .u64 u] :: row nb 3 [.int .i64 (ln : Int)] :: row lb 113 (plC l.n l.known vb pp pc cp cc) :: row mb 49 x.vals :: slc cp l.n cc 179 1 (chRow l cs) :: fam (pcFam l cs) l.n :: mp vb keyU (V.map PV.ent) :: F)
      (fun s => s.1 ≤ ln) (fun s => ln - s.1) (0, none, 0) (Nat.zero_le _) ⟨rfl, rfl, rfl, rfl, rfl, rfl, rfl, rfl⟩ rfl rfl fun s hs => ?_
     obtain ⟨k, lp2, lc2⟩ := s
     have hk2 : k ≤ ln := hs
     show H _ _ _ [(76, .int .i64 (k : Int)), _, _, _, _, _, _] f (row wb _ (vwC x.m.number ln lp2 (X.w.all.take k).length lc2 none 0 0 hb) :: slc lp2 (X.w.all.take k).length lc2 _ 40 ((X.w.all.take k).flatMap Req.vals) :: mp hb encA (heldKV (X.w.all.take k)) :: _) _
     by_cases hlt : k < ln
     ·obtain ⟨rq, hrq⟩ : ∃ rq, X.w.all[k]? = some rq := ⟨_, List.getElem?_eq_getElem (by omega)⟩
      have htk : X.w.all.take (k + 1) = X.w.all.take k ++ [rq] := by rw [List.take_add_one, hrq]; rfl
      refine H.Bm (p := X.lp) (n0 := X.w.all.length) (c := X.lc) (T := 44) (sz := 40) (xs := X.w.all.flatMap Req.vals) (.there _ (.there _ (.there _ (.there _ (.here _ _ _))))) (by omega) fun sb hsb => ?_
      have rd : ∀ (a1 a2 a3 a4 : HP) (G : List HP), Rd f (a1 :: a2 :: a3 :: a4 :: slc X.lp X.w.all.length X.lc 44 40 (X.w.all.flatMap Req.vals) :: G) sb (0 + k * 40) rq.vals := fun a1 a2 a3 a4 G => by
       rw [Nat.zero_add]; exact Rd.slcElem (vals := Req.vals) (xs := X.w.all) (n := X.w.all.length) (c := X.lc) (T := 44) Req.len (by decide) (by rw [← hsb]; exact .there _ (.there _ (.there _ (.there _ (.here _ _ _))))) hrq
      refine gF ?_
      refine H.Aq (b := sb) (off := 0) (i := k) rfl (by rw [← hsb]; rfl) rfl rfl hlt rfl ?_
      refine H.Af (ls := rq.vals) rfl rfl rfl (rd _ _ _ _ _) rfl rfl ?_
      refine H.Ao (ls := Req.zero.vals) rfl rfl rfl fun qb => ?_
      refine H.Ah (ls := Req.zero.vals) (vs := rq.vals) (ls' := rq.vals) rfl rfl rfl (zaa rfl) rfl rfl (Nat.le_refl 40) (.here _ _ _) ?_
      refine gN ?_
      refine H.Af (ls := rq.vals) rfl rfl rfl (Rd.ofRow (.here _ _ _)) rfl rfl ?_
      refine H.pd (x := row qb _ _) ?_
      refine H.Ay rfl rfl rfl (vput_fn f _ (by rw [List.length_take]; omega) rq) fun v f' A' hR => ?_
      obtain ⟨lp3, lc3, hff, rfl⟩ := hR
      rw [hff]
      rw [← htk]
      refine gH ?_
      exact H.Aj (k + 1, lp3, lc3) (by show k + 1 ≤ ln; omega) (by show ln - (k + 1) < ln - k; omega) ⟨rfl, rfl, rfl, rfl, rfl, rfl, rfl, rfl⟩ rfl rfl
     ·obtain rfl : k = ln := by omega
      refine gP ?_
      refine H.mapUpdate (enc := keyU) (k := x.m.body.view) (v := .pointer (some ⟨wb, 0, none⟩)) rfl rfl rfl rfl (by repeat constructor) rfl ?_
      refine gY ?_
      have hpr : primI l.n x.m.body.view = r := by unfold primZ at hp; rw [hre]; unfold orgI; omega
      have hfr := hL.fresh (v := x.m.body.view) (k := (k : Int)) (by rw [hpr]; exact hr) (by rw [hpr]; exact hek)
      have hsl : (X.w.all.take k).length = k := by rw [List.length_take]; omega
      obtain ⟨Y, hY⟩ : ∃ Y : PV, Y = ⟨⟨x.m.body.view, x.m.number, X.w.all.take k, []⟩, wb, lp2, lc2, none, 0, hb⟩ := ⟨_, rfl⟩
      have hYa : Y.w.all = X.w.all.take k := by rw [hY]; exact List.append_nil _
      have hof := fun G => zbn (x := Y) (A := G)
      have hparts : Y.parts = [row wb 108 (vwC x.m.number k lp2 (X.w.all.take k).length lc2 none 0 0 hb), slc lp2 (X.w.all.take k).length lc2 44 40 ((X.w.all.take k).flatMap Req.vals), slc none 0 0 31 1 [], mp hb encA (heldKV (X.w.all.take k))] := by
       unfold PV.parts PV.cells
       rw [hYa, hY]
       show [row wb _ [_, .int .i64 (((X.w.all.take k).length : Nat) : Int), _, _, _], _, _, _] = _
       rw [hsl]
       rfl
      rw [hparts] at hof
      have hent2 : putKV (V.map PV.ent) x.m.body.view (.pointer (some ⟨wb, 0, none⟩)) = (V ++ [Y]).map PV.ent := by
       rw [PM.put_absent _ _ _ (ent_fresh hvs hfr), List.map_append, hY]
       rfl
      rw [hent2]
      have hperm : ((V ++ [Y]).map PV.w).Perm (insV ⟨x.m.body.view, x.m.number, X.w.all.take k, []⟩ l.vs) := by
       rw [List.map_append, List.map_cons, List.map_nil, show Y.w = ⟨x.m.body.view, x.m.number, X.w.all.take k, []⟩ by rw [hY]]
       exact ((List.perm_append_singleton _ _).trans ((List.perm_cons _).2 hvs)).trans (insV_perm _ _)
      refine H.slc0 31 1 ?_
      refine H.pf (x := mp hb _ _) ?_
      refine H.pf (x := slc none 0 0 31 _ _) ?_
      refine H.pf (x := slc lp2 _ lc2 _ _ _) ?_
      refine H.pf (x := row wb _ _) ?_
      refine H.imp (hof _) ?_
      clear hof hparts hent2 hYa
      refine H.pf (x := mp X.hb _ _) ?_
      refine H.pf (x := slc X.np _ X.nc _ _ _) ?_
      refine H.pf (x := slc X.lp _ X.lc _ _ _) ?_
      refine H.pf (x := row X.b _ _) ?_
      refine H.imp (zbn (x := X)) ?_
      refine H.pf (x := lst ((V.map PV.own).set j emp)) ?_
      refine H.pf (x := X.own) ?_
      refine H.Cn (by rw [List.getElem?_map, hX]; rfl) ?_
      refine H.pf (x := Y.own) ?_
      refine H.lstMore (ys := (V ++ [Y]).map PV.own) (by rw [List.map_append]; exact (List.perm_append_singleton _ _).symm) ?_
      refine H.pd (x := row mb _ _) ?_
      refine H.pd (x := row ub _ _) ?_
      refine H.pd (x := row nb _ _) ?_
      refine H.pf (x := pts D _) ?_
      refine H.pf (x := fam (pcFam l cs) _) ?_
      refine H.pf (x := slc cp _ cc _ _ _) ?_
      refine H.pf (x := fam (fun r => pastH _ _) _) ?_
      refine H.pf (x := lst ((V ++ [Y]).map PV.own)) ?_
      refine H.pf (x := mp vb _ _) ?_
      refine H.pf (x := row lb _ _) ?_
      refine H.imp (zai (l := { l with past := updF l.past r ((l.past r).enter x.m.body.view k), vs := insV ⟨x.m.body.view, x.m.number, X.w.all.take k, []⟩ l.vs }) ⟨V ++ [Y], vb, pp, pc, cp, cc, pb, cs⟩ ⟨hperm, hiF.p⟩) ?_
      exact H.retMk rfl rfl rfl (.there _ (.here _ _)) (fun _ h => h) ⟨rfl, rfl, rfl⟩
 ·rw [if_neg (fun h => hp (of_decide_eq_true h))]
  refine Fn.enterM Tryz.func83 rfl Tryz.ntmps83 rfl (L := [(0, _), (1, _), (2, _)]) ⟨rfl, rfl, rfl, trivial⟩ fun base => ?_
  refine gA ?_
  refine H.box (ls := x.vals) rfl rfl rfl rfl fun mb => ?_
  refine gG ?_
  refine H.drawB (by kernel_rfl) (by decide +kernel) (by with_reducible (repeat (first | exact blind_fnM | refine zaf ?_ | refine zap ?_ | refine zay ?_))) (S := [_]) rfl ?_
  refine HB.qu [0,1,3,4] 8 ?_
  refine gU ?_
  refine HQ.Aa rfl ?_
  refine HB.ev 2 ?_
  refine H.pf (x := row lb _ _) ?_
  refine H.Ad rfl rfl rfl (hprim _) ?_
  refine gA ?_
  refine H.pf (x := row mb _ _) ?_
  refine H.on0 rfl ?_
  refine HB.qu [5,6,7,8] 3 ?_
  refine gX ?_
  refine HQ.Aa rfl ?_
  refine HB.ev 9 ?_
  refine gB ?_
  refine H.on0 rfl ?_
  refine HB.qu [10,11] 0 ?_
  refine gJ ?_
  refine HQ.Aa rfl ?_
  refine HB.dn ?_
  refine gC ?_
  refine H.pd (x := row mb _ _) ?_
  refine H.pf (x := fam (pcFam l cs) _) ?_
  refine H.pf (x := slc cp _ cc _ _ _) ?_
  refine H.pf (x := fam (fun r => pastH _ _) _) ?_
  refine H.pf (x := lst (V.map PV.own)) ?_
  refine H.pf (x := mp vb _ _) ?_
  refine H.pf (x := row lb _ _) ?_
  refine H.imp (zai ⟨V, vb, pp, pc, cp, cc, pb, cs⟩ hiF) ?_
  exact H.retM rfl rfl (fun _ h => h) ⟨rfl, rfl, rfl⟩
end
section
variable (f : Frag) (F : List HP)
set_option maxRecDepth 20000 in
set_option maxHeartbeats 3200000 in
theorem plenter_fn {fl : Frag} (hfl : Le fl f) {lb : Nat} {l : Lgs} {T : Nat} (hL : LI l T) (hT : T ≤ 50000) {x : MV} (hm : MIn l.n x.m) (hk : x.m.body.kind = 5) {i : PPt} (hi : plφ fl l i) {r : Nat} (hre : r = orgI x.m) :
  Fn Tryz.prog 84 [.pointer (some ⟨lb, 0, none⟩), .agg x.vals.toArray, .pointer (some ⟨i.pb r, 0, none⟩)] f (plB lb l i ++ F) (Ret (.bool (l.counts x.m).1) f (plogH f lb (l.counts x.m).2 :: F)) := by
 have hiF := hi.mono hfl
 have hn := hL.n3
 have hor := hm.o
 have hr : r < l.n := by rw [hre]; unfold orgI; omega
 have hwf := hL.wf r hr
 have hil := hL.il r hr
 have hvl := hL.vl
 have hv0 := hm.v
 have hvs := hi.vs
 obtain ⟨V, vb, pp, pc, cp, cc, pb, cs⟩ := i
 have hvs : (V.map PV.w).Perm l.vs := hvs
 have hprim := fun G => plprim_fn f G (lb := lb) (n := l.n) (kn := l.known) (vb := vb) (pp := pp) (pc := pc) (cp := cp) (cc := cc) (by omega) hv0
 have hpl : primI l.n x.m.body.view < 11 := by
  have h1 : x.m.body.view % (l.n : Int) < l.n := Int.emod_lt_of_pos _ (by omega)
  unfold primI; omega
 have hpz : primZ l.n x.m.body.view - 1 = (primI l.n x.m.body.view : Nat) := by unfold primZ; omega
 have hvd : (v11 x.m.deps)[primI l.n x.m.body.view]? = some (.int .u64 (x.m.deps (primI l.n x.m.body.view))) := zaz _ hpl
 show Fn _ _ _ f (row lb 113 (plC l.n l.known vb pp pc cp cc) :: mp vb keyU (V.map PV.ent) :: lst (V.map PV.own) :: fam (fun r => pastH (pb r) (l.past r)) l.n :: slc cp l.n cc 179 1 (chRow l cs) :: fam (pcFam l cs) l.n :: F) _
 cases hat : vwAt l.vs x.m.body.view with
 | none =>
  rw [Lgs.counts_5n hk hat]
  have hget : (getKV (V.map PV.ent) x.m.body.view).getD (.pointer none) = .pointer none := by rw [view_none hvs hat]; rfl
  refine Fn.e3 Tryz.func84 Tryz.ntmps84 fun base => ?_
  refine gA ?_
  refine H.box (ls := x.vals) rfl rfl rfl rfl fun mb => ?_
  refine gG ?_
  refine H.Bv (enc := keyU) (k := x.m.body.view) rfl rfl rfl (by repeat constructor) rfl hget rfl ?_
  refine gN ?_
  refine H.db (S := [_]) rfl ?_
  refine HB.qu [0,1,2,3,4,5,6,7,8,11] 16 ?_
  refine gX ?_
  refine HQ.Aa rfl ?_
  refine HB.ev 9 ?_
  refine gB ?_
  refine H.on0 rfl ?_
  refine HB.qu [10,12,13,14,15,16,17,18,19,20,21,22] 3 ?_
  refine gJ ?_
  refine HQ.Aa rfl ?_
  refine HB.ev 23 ?_
  refine gB ?_
  refine H.on0 rfl ?_
  refine HB.qu [24,25] 0 ?_
  refine gR ?_
  refine HQ.Aa rfl ?_
  refine HB.dn ?_
  refine gY ?_
  refine H.pd (x := row mb _ _) ?_
  refine H.pf (x := fam (pcFam l cs) _) ?_
  refine H.pf (x := slc cp _ cc _ _ _) ?_
  refine H.pf (x := fam (fun r => pastH _ _) _) ?_
  refine H.pf (x := lst (V.map PV.own)) ?_
  refine H.pf (x := mp vb _ _) ?_
  refine H.pf (x := row lb _ _) ?_
  refine H.imp (zai ⟨V, vb, pp, pc, cp, cc, pb, cs⟩ hiF) ?_
  exact H.rt ⟨rfl, rfl, rfl⟩
 | some iv =>
  obtain ⟨⟨w, hw, hwv⟩, _⟩ := zak.1 hat
  obtain ⟨j, X, hX, hXw, hgetX⟩ := view_some hvs hL.rise hat hw
  have hget : (getKV (V.map PV.ent) x.m.body.view).getD (.pointer none) = .pointer (some ⟨X.b, 0, none⟩) := by rw [hgetX]; rfl
  rw [Lgs.counts_5 hk hat hw, ← hre]
  subst hXw
  have hXl := hL.al X.w (List.mem_of_getElem? hw)
  have hXa := X.w.all_len
  by_cases h1 : X.w.num ≤ x.m.deps (primI l.n x.m.body.view)
  ·rw [if_neg (by omega)]
   have hen := fun G => enter_fn f G (pb r) (l.past r) hwf (by omega) x.m.body.view ((X.w.s.length : Nat) : Int)
   refine Fn.e3 Tryz.func84 Tryz.ntmps84 fun base => ?_
   refine gA ?_
   refine H.box (ls := x.vals) rfl rfl rfl rfl fun mb => ?_
   refine gG ?_
   refine H.Bv (enc := keyU) (k := x.m.body.view) rfl rfl rfl (by repeat constructor) rfl hget rfl ?_
   refine gN ?_
   refine H.pf (x := lst (V.map PV.own)) ?_
   refine H.Cm (x := X.own) (i := j) (by rw [List.getElem?_map, hX]; rfl) ?_
   refine H.ownOpen ?_
   show H _ _ _ _ _ (row X.b _ (vwC X.w.num X.w.s.length X.lp X.w.all.length X.lc X.np X.w.p.length X.nc X.hb) :: slc X.lp X.w.all.length X.lc _ 40 (X.w.all.flatMap Req.vals) :: slc X.np X.w.p.length X.nc _ 1 (X.w.p.flatMap numV) :: mp X.hb encA (heldKV X.w.all) :: lst ((V.map PV.own).set j emp) :: _) _
   refine H.pf (x := row mb _ _) ?_
   refine H.pf (x := row X.b _ _) ?_
   refine H.db (S := [_, _]) rfl ?_
   refine HB.qu [0,1,2,3,4,5,6,7,8,11] 16 ?_
   refine gX ?_
   refine HQ.Aa rfl ?_
   refine HB.ev 9 ?_
   refine H.pf (x := row lb _ _) ?_
   refine H.Ad rfl rfl rfl (hprim _) ?_
   refine gA ?_
   refine H.pf (x := row mb _ _) ?_
   refine H.pf (x := row X.b _ _) ?_
   refine H.on0 rfl ?_
   refine HB.qu [10,12,13,14,15,16,17,18,19,20,21,22] 3 ?_
   refine gc ?_
   refine HQ.Aw (i := primI l.n x.m.body.view) rfl rfl rfl hpz hpl rfl ?_
   refine HQ.Ae rfl rfl rfl (by rw [Nat.mul_one]; exact Rd1.of (zbc (m := x.m) (q := x.qp) (qc := x.qc) (.there _ (.here _ _ _))) hvd) rfl ?_
   refine gX ?_
   refine HQ.Aa rfl ?_
   refine HB.ev 23 ?_
   refine H.pf (x := fam (fun r => pastH _ _) _) ?_
   refine H.Cd hr ?_
   refine H.Ad rfl rfl rfl (hen _) ?_
   refine H.famPut (g := fun r => pastH (pb r) (l.past r)) hr ?_
   rw [past_updF]
   refine gA ?_
   refine H.pf (x := row mb _ _) ?_
   refine H.pf (x := row X.b _ _) ?_
   refine H.on0 rfl ?_
   refine HB.qu [24,25] 0 ?_
   refine gJ ?_
   refine HQ.Aa rfl ?_
   refine HB.dn ?_
   refine gY ?_
   refine H.pf (x := mp X.hb _ _) ?_
   refine H.pf (x := slc X.np _ X.nc _ _ _) ?_
   refine H.pf (x := slc X.lp _ X.lc _ _ _) ?_
   refine H.pf (x := row X.b _ _) ?_
   refine H.imp (zbn (x := X)) ?_
   refine H.pf (x := lst ((V.map PV.own).set j emp)) ?_
   refine H.pf (x := X.own) ?_
   refine H.Cn (by rw [List.getElem?_map, hX]; rfl) ?_
   refine H.pd (x := row mb _ _) ?_
   refine H.pf (x := fam (pcFam l cs) _) ?_
   refine H.pf (x := slc cp _ cc _ _ _) ?_
   refine H.pf (x := fam (fun r => pastH _ _) _) ?_
   refine H.pf (x := lst (V.map PV.own)) ?_
   refine H.pf (x := mp vb _ _) ?_
   refine H.pf (x := row lb _ _) ?_
   refine H.imp (zai (l := l.doPast r _) ⟨V, vb, pp, pc, cp, cc, pb, cs⟩ ⟨hiF.vs, hiF.p⟩) ?_
   exact H.rt ⟨rfl, rfl, rfl⟩
  ·rw [if_pos (by omega)]
   refine Fn.e3 Tryz.func84 Tryz.ntmps84 fun base => ?_
   refine gA ?_
   refine H.box (ls := x.vals) rfl rfl rfl rfl fun mb => ?_
   refine gG ?_
   refine H.Bv (enc := keyU) (k := x.m.body.view) rfl rfl rfl (by repeat constructor) rfl hget rfl ?_
   refine gN ?_
   refine H.pf (x := lst (V.map PV.own)) ?_
   refine H.Cm (x := X.own) (i := j) (by rw [List.getElem?_map, hX]; rfl) ?_
   refine H.ownOpen ?_
   show H _ _ _ _ _ (row X.b _ (vwC X.w.num X.w.s.length X.lp X.w.all.length X.lc X.np X.w.p.length X.nc X.hb) :: slc X.lp X.w.all.length X.lc _ 40 (X.w.all.flatMap Req.vals) :: slc X.np X.w.p.length X.nc _ 1 (X.w.p.flatMap numV) :: mp X.hb encA (heldKV X.w.all) :: lst ((V.map PV.own).set j emp) :: _) _
   refine H.pf (x := row mb _ _) ?_
   refine H.pf (x := row X.b _ _) ?_
   refine H.db (S := [_, _]) rfl ?_
   refine HB.qu [0,1,2,3,4,5,6,7,8,11] 16 ?_
   refine gX ?_
   refine HQ.Aa rfl ?_
   refine HB.ev 9 ?_
   refine H.pf (x := row lb _ _) ?_
   refine H.Ad rfl rfl rfl (hprim _) ?_
   refine gA ?_
   refine H.pf (x := row mb _ _) ?_
   refine H.pf (x := row X.b _ _) ?_
   refine H.on0 rfl ?_
   refine HB.qu [10,12,13,14,15,16,17,18,19,20,21,22] 3 ?_
   refine gc ?_
   refine HQ.Aw (i := primI l.n x.m.body.view) rfl rfl rfl hpz hpl rfl ?_
   refine HQ.Ae rfl rfl rfl (by rw [Nat.mul_one]; exact Rd1.of (zbc (m := x.m) (q := x.qp) (qc := x.qc) (.there _ (.here _ _ _))) hvd) rfl ?_
   refine gX ?_
   refine HQ.Aa rfl ?_
   refine HB.ev 23 ?_
   refine gB ?_
   refine H.on0 rfl ?_
   refine HB.qu [24,25] 0 ?_
   refine gR ?_
   refine HQ.Aa rfl ?_
   refine HB.dn ?_
   refine gY ?_
   refine H.pf (x := mp X.hb _ _) ?_
   refine H.pf (x := slc X.np _ X.nc _ _ _) ?_
   refine H.pf (x := slc X.lp _ X.lc _ _ _) ?_
   refine H.pf (x := row X.b _ _) ?_
   refine H.imp (zbn (x := X)) ?_
   refine H.pf (x := lst ((V.map PV.own).set j emp)) ?_
   refine H.pf (x := X.own) ?_
   refine H.Cn (by rw [List.getElem?_map, hX]; rfl) ?_
   refine H.pd (x := row mb _ _) ?_
   refine H.pf (x := fam (pcFam l cs) _) ?_
   refine H.pf (x := slc cp _ cc _ _ _) ?_
   refine H.pf (x := fam (fun r => pastH _ _) _) ?_
   refine H.pf (x := lst (V.map PV.own)) ?_
   refine H.pf (x := mp vb _ _) ?_
   refine H.pf (x := row lb _ _) ?_
   refine H.imp (zai ⟨V, vb, pp, pc, cp, cc, pb, cs⟩ hiF) ?_
   exact H.rt ⟨rfl, rfl, rfl⟩
end
structure NI (l : Lgs) : Prop where
 rise : ∀ w ∈ l.vs, RiseN w.p
 low : ∀ w ∈ l.vs, ∀ y ∈ w.p, y.1 ≤ l.known (primI l.n w.v)
theorem RiseN.nil : RiseN [] := fun i j y z _ hy _ => by cases hy
theorem NI.new (n : Nat) : NI (Lgs.new n) := ⟨fun w hw => by
  have e : w = ⟨0, 0, [], []⟩ := List.mem_singleton.1 hw
  rw [e]; exact RiseN.nil, fun w hw y hy => by
  have e : w = ⟨0, 0, [], []⟩ := List.mem_singleton.1 hw
  rw [e] at hy; cases hy⟩
theorem Lgs.counts_vs (l : Lgs) (m : Msg) : (l.counts m).2.vs = l.vs ∨
  (∃ i w, vwAt l.vs m.body.view = some i ∧ l.vs[i]? = some w ∧ primZ l.n m.body.view = m.origin ∧ (l.counts m).2.vs = l.vs.set i { w with p := w.p ++ [(m.number, m.body.req)] }) ∨
  (∃ s, (l.counts m).2.vs = insV ⟨m.body.view, m.number, s, []⟩ l.vs) := by
 by_cases h3 : m.body.kind = 3
 ·rw [Lgs.counts_3 h3]; split <;> exact .inl rfl
 ·by_cases h4 : m.body.kind = 4
  ·rw [Lgs.counts_4 h4]
   split
   ·unfold Lgs.begins
    split
    ·exact .inl rfl
    ·split
     ·exact .inl rfl
     ·split
      ·exact .inl rfl
      ·exact .inr (.inr ⟨_, rfl⟩)
   ·exact .inl rfl
  ·by_cases h5 : m.body.kind = 5
   ·cases hat : vwAt l.vs m.body.view with
    | none => rw [Lgs.counts_5n h5 hat]; exact .inl rfl
    | some i =>
     obtain ⟨⟨w, hw, _⟩, _⟩ := zak.1 hat
     rw [Lgs.counts_5 h5 hat hw]; split <;> exact .inl rfl
   ·by_cases h1 : m.body.kind = 1
    ·cases hat : vwAt l.vs m.body.view with
     | none => rw [Lgs.counts_1n h1 hat]; exact .inl rfl
     | some i =>
      obtain ⟨⟨w, hw, _⟩, _⟩ := zak.1 hat
      rw [Lgs.counts_1 h1 hat hw]
      split
      ·exact .inl rfl
      ·rename_i h
       refine .inr (.inl ⟨i, w, rfl, hw, ?_, rfl⟩)
       rcases Decidable.em (primZ l.n m.body.view = m.origin) with e | e
       ·exact e
       ·exact absurd (.inl (decide_eq_false e)) h
    ·by_cases h2 : m.body.kind = 2
     ·cases hat : vwAt l.vs m.body.view with
      | none => rw [Lgs.counts_2n h2 hat]; exact .inl rfl
      | some i =>
       obtain ⟨⟨w, hw, _⟩, _⟩ := zak.1 hat
       rw [Lgs.counts_2 h2 hat hw]; split <;> exact .inl rfl
     ·rw [Lgs.counts_x h3 h4 h5 h1 h2]; exact .inl rfl
theorem NI.take {l : Lgs} (h : NI l) (m : Msg) : NI (l.take m).2 := by
 unfold Lgs.take
 split
 ·exact h
 ·split
  ·exact h
  ·rename_i _ hn
   have hnum : m.number = l.known (orgI m) + 1 := by
    rcases Decidable.em (m.number = l.known (orgI m) + 1) with e | e
    ·exact e
    ·exact absurd (.inl e) hn
   have hk := l.counts_nk m
   obtain ⟨K, hK⟩ : ∃ K, K = updF (l.counts m).2.known (orgI m) ((l.counts m).2.known (orgI m) + 1) := ⟨_, rfl⟩
   have hge : ∀ r, l.known r ≤ K r := fun r => by
    rw [hK, hk.2]
    by_cases e : r = orgI m
    ·subst e; rw [zad]; omega
    ·rw [zal _ _ e]; exact Int.le_refl _
   have hKo : K (orgI m) = m.number := by rw [hK, zad, hk.2, hnum]
   show NI { (l.counts m).2 with known := updF (l.counts m).2.known (orgI m) ((l.counts m).2.known (orgI m) + 1) }
   rw [← hK]
   have key : (∀ w ∈ (l.counts m).2.vs, RiseN w.p) ∧ ∀ w ∈ (l.counts m).2.vs, ∀ y ∈ w.p, y.1 ≤ K (primI l.n w.v) := by
    rcases l.counts_vs m with e | ⟨i, w, hat, hw, hp, e⟩ | ⟨s, e⟩
    ·rw [e]; exact ⟨h.rise, fun w hw y hy => Int.le_trans (h.low w hw y hy) (hge _)⟩
    ·rw [e]
     have hwm := List.mem_of_getElem? hw
     obtain ⟨⟨w', hw', hv⟩, _⟩ := zak.1 hat
     rw [hw] at hw'; cases hw'
     have hpi : primI l.n w.v = orgI m := by rw [hv]; unfold primZ at hp; unfold orgI; omega
     refine ⟨fun x hx => ?_, fun x hx y hy => ?_⟩
     ·rcases List.mem_or_eq_of_mem_set hx with hx | rfl
      ·exact h.rise x hx
      ·intro a b y z hab hy hz
       show y.1 < z.1
       have hy : (w.p ++ [(m.number, m.body.req)])[a]? = some y := hy
       have hz : (w.p ++ [(m.number, m.body.req)])[b]? = some z := hz
       have hbl := (List.getElem?_eq_some_iff.1 hz).1
       rw [List.length_append, List.length_singleton] at hbl
       rw [List.getElem?_append_left (by omega)] at hy
       by_cases hb : b < w.p.length
       ·rw [List.getElem?_append_left hb] at hz
        exact h.rise w hwm a b y z hab hy hz
       ·rw [List.getElem?_append_right (by omega), show b - w.p.length = 0 by omega] at hz
        cases hz
        have := h.low w hwm y (List.mem_of_getElem? hy)
        rw [hpi] at this
        show y.1 < m.number
        omega
     ·rcases List.mem_or_eq_of_mem_set hx with hx | rfl
      ·exact Int.le_trans (h.low x hx y hy) (hge _)
      ·show y.1 ≤ K (primI l.n w.v)
       have hy : y ∈ w.p ++ [(m.number, m.body.req)] := hy
       rcases List.mem_append.1 hy with hy | hy
       ·exact Int.le_trans (h.low w hwm y hy) (hge _)
       ·rw [List.mem_singleton.1 hy, hpi, hKo]; exact Int.le_refl _
    ·rw [e]
     refine ⟨fun x hx => ?_, fun x hx y hy => ?_⟩
     ·rcases List.mem_cons.1 ((insV_perm _ _).mem_iff.2 hx) with rfl | hx
      ·exact RiseN.nil
      ·exact h.rise x hx
     ·rcases List.mem_cons.1 ((insV_perm _ _).mem_iff.2 hx) with rfl | hx
      ·cases hy
      ·exact Int.le_trans (h.low x hx y hy) (hge _)
   refine ⟨key.1, fun w hw y hy => ?_⟩
   have := key.2 w hw y hy
   show y.1 ≤ K (primI (l.counts m).2.n w.v)
   rw [hk.1]
   exact this
theorem may_kind {f : Frag} {x : MV} (hx : x.Good f) (hm : x.m.may = true) : 1 ≤ x.m.body.kind.toNat ∧ x.m.body.kind.toNat ≤ 6 := by
 unfold Msg.may at hm
 rw [Bool.and_eq_true] at hm
 have h := mayB_eq hx.2.2
 rw [hm.2] at h
 unfold Bod.mayB at h
 rw [Bool.and_eq_true] at h
 exact of_decide_eq_true h.1
theorem u8_ne {k : UInt8} {n : Nat} (hn : n < 256) (h : k ≠ UInt8.ofNat n) : k.toNat ≠ n := fun e => h (by rw [← e]; simp)
section
variable (f : Frag) (F : List HP)
theorem by3_fn : Fn Tryz.prog 53 [.int .u8 3] f F (Ret (.func (.func 82) #[] #[]) f F) := by
 refine Fn.e1 Tryz.func53 Tryz.ntmps53 fun base => ?_
 refine gL ?_
 exact H.rt ⟨rfl, rfl, rfl⟩
theorem by4_fn : Fn Tryz.prog 53 [.int .u8 4] f F (Ret (.func (.func 83) #[] #[]) f F) := by
 refine Fn.e1 Tryz.func53 Tryz.ntmps53 fun base => ?_
 refine gL ?_
 exact H.rt ⟨rfl, rfl, rfl⟩
theorem by5_fn : Fn Tryz.prog 53 [.int .u8 5] f F (Ret (.func (.func 84) #[] #[]) f F) := by
 refine Fn.e1 Tryz.func53 Tryz.ntmps53 fun base => ?_
 refine gL ?_
 exact H.rt ⟨rfl, rfl, rfl⟩
theorem by6_fn {k : Int} (h1 : k ≠ 1) (h2 : k ≠ 2) (h3 : k ≠ 3) (h4 : k ≠ 4) (h5 : k ≠ 5) : Fn Tryz.prog 53 [.int .u8 k] f F (Ret (.func (.func 87) #[] #[]) f F) := by
 refine Fn.e1 Tryz.func53 Tryz.ntmps53 fun base => ?_
 refine gD ?_
 exact H.rt ⟨rfl, rfl, rfl⟩
theorem pltakeA_fn (htab : TabAt f) {fl : Frag} (hfl : Le fl f) {lb : Nat} {l : Lgs} {T : Nat} (hL : LI l T) (hT : T ≤ 40000) (hN : NI l) (hodd : l.n % 2 = 1) {x : MV} (hx : x.Good f) :
  Fn Tryz.prog 20 [.pointer (some ⟨lb, 0, none⟩), .agg x.vals.toArray] f (plogH fl lb l :: F) (Ret (.tuple #[.bool (l.take x.m).1.1, .int .i64 (l.take x.m).1.2]) f (plogH f lb (l.take x.m).2 :: F)) := by
 by_cases k1 : x.m.body.kind = 1
 ·exact pltake1_fn f F htab hfl hL hT hx k1
 ·by_cases k2 : x.m.body.kind = 2
  ·exact pltake2_fn f F hfl hL hT hN.rise hx k2
  ·by_cases k3 : x.m.body.kind = 3
   ·exact pltake_fn f F hfl hL hT hx (fid := 82) (fun G => by rw [k3]; exact by3_fn f G) fun _ hm i G hi => plchange_fn f G hfl (hL.more x.m) (by omega) hm k3 hi rfl
   ·by_cases k4 : x.m.body.kind = 4
    ·exact pltake_fn f F hfl hL hT hx (fid := 83) (fun G => by rw [k4]; exact by4_fn f G) fun _ hm i G hi => plnew_view_fn f G hfl (hL.more x.m) (by omega) hodd hx hm k4 hi rfl
    ·by_cases k5 : x.m.body.kind = 5
     ·exact pltake_fn f F hfl hL hT hx (fid := 84) (fun G => by rw [k5]; exact by5_fn f G) fun _ hm i G hi => plenter_fn f G hfl (hL.more x.m) (by omega) hm k5 hi rfl
     ·have n1 := u8_ne (n := 1) (by decide) k1
      have n2 := u8_ne (n := 2) (by decide) k2
      have n3 := u8_ne (n := 3) (by decide) k3
      have n4 := u8_ne (n := 4) (by decide) k4
      have n5 := u8_ne (n := 5) (by decide) k5
      refine pltake_fn f F hfl hL hT hx (fid := 87) (fun G => by6_fn f G (by omega) (by omega) (by omega) (by omega) (by omega)) fun hmay hm i G hi => ?_
      have hk := may_kind hx hmay
      have k6 : x.m.body.kind = 6 := by
       have e : x.m.body.kind.toNat = 6 := by omega
       exact UInt8.toNat_inj.1 e
      exact plcheck_fn f G hfl k6 hi
end
def w15C (kb n : Nat) (ap : Option Addr) (m ac lb : Nat) : List Value := [.slice (some ⟨kb, 0, none⟩) n n, .slice ap m ac, .pointer (some ⟨lb, 0, none⟩)]
section
variable (f : Frag) (F : List HP)
theorem great_fn {fl : Frag} (hfl : Le fl f) {wb kb lb : Nat} {l : Lgs} {T : Nat} (hL : LI l T) {ap : Option Addr} {m ac n o : Nat} (ho : o < l.n) :
  Fn Tryz.prog 111 [.pointer (some ⟨wb, 0, none⟩), .int .i64 ((o + 1 : Nat) : Int)] f (logsH fl lb l :: row wb 37 (w15C kb n ap m ac lb) :: F)
   (Ret (.int .u64 (l.past o).g) f (logsH fl lb l :: row wb 37 (w15C kb n ap m ac lb) :: F)) := by
 refine Fn.unpack fun i0 hi => ?_
 obtain ⟨V, vp, vc, pp, pc, cp, cc, pb, cs⟩ := i0
 have hiF := hi.mono hfl
 have hn := hL.n3
 obtain ⟨pbb, poff, hpp0, rdp0⟩ := hiF.past (by show 0 < l.n; omega)
 have hpp : pp = some ⟨pbb, poff, none⟩ := hpp0
 have rdp : ∀ {A : List HP} {r : Nat}, r < l.n → Rd1 f A pbb (poff + r) (.pointer (some ⟨pb r, 0, none⟩)) := fun {A r} hr => rdp0 (Le.refl f) hr
 clear hpp0 rdp0
 show Fn _ _ _ f (row lb 86 (lgC l.n l.known vp V.length vc pp pc cp cc) :: slc vp V.length vc 129 4 (V.flatMap VV.vals) :: lst (V.map VV.own) :: fam (fun r => pstH (pb r) (l.past r)) l.n :: slc cp l.n cc 171 1 (chRow l cs) :: fam (chFam l cs) l.n :: _ :: F) _
 refine Fn.e2 Tryz.func111 Tryz.ntmps111 fun base => ?_
 refine gM ?_
 refine H.Aq (b := pbb) (off := poff) (i := o) rfl (by rw [← hpp]; rfl) rfl (by omega) ho rfl ?_
 refine H.Ae rfl rfl rfl (by rw [Nat.mul_one]; exact rdp ho) rfl ?_
 refine H.pf (x := fam (fun r => pstH _ _) _) ?_
 refine H.Cd ho ?_
 refine pstH_openH fun eb ec => ?_
 refine ga ?_
 refine H.imp (zat (b := pb o) (eb := eb) (ec := ec) (s := l.past o)) ?_
 refine H.Cj (g := fun r => pstH (pb r) (l.past r)) ho ?_
 refine H.pf (x := fam (chFam l cs) _) ?_
 refine H.pf (x := slc cp _ cc _ _ _) ?_
 refine H.pf (x := fam (fun r => pstH _ _) _) ?_
 refine H.pf (x := lst (V.map VV.own)) ?_
 refine H.pf (x := slc vp _ vc _ _ _) ?_
 refine H.pf (x := row lb _ _) ?_
 refine H.imp (zae ⟨V, vp, vc, pp, pc, cp, cc, pb, cs⟩ hi) ?_
 exact H.rt ⟨rfl, rfl, rfl⟩
theorem byte_toNat {k : Nat} (h : k < 256) : ((UInt8.ofNat k).toNat : Int) = (k : Int) := by
 rw [UInt8.toNat_ofNat']
 omega
set_option maxHeartbeats 1600000 in
theorem ask_fn (x : A15) : Fn Tryz.prog 112 [.agg x.vals.toArray] f F (Ret (.agg x.req.vals.toArray) f F) := by
 have hcm : ((x.client.toNat % 3 : Nat) : Int) ≤ 2 := by omega
 have hkm : ((x.key.toNat % 4 : Nat) : Int) ≤ 3 := by omega
 have htm : ((x.time.toNat % 10 : Nat) : Int) ≤ 9 := by omega
 have ht := x.time.toNat_lt
 have hsg := fun G => rsigned_fn f G x.req0
 refine Fn.e1 Tryz.func112 Tryz.ntmps112 fun base => ?_
 refine gA ?_
 refine H.box (ls := x.vals) rfl rfl rfl rfl fun xb => ?_
 refine H.Ao (ls := Req.zero.vals) rfl rfl rfl fun ob => ?_
 refine gG ?_
 refine H.rem (z := ((x.client.toNat % 3 : Nat) : Int)) rfl rfl rfl (by decide) (zah (b := 3) rfl) rfl ?_
 refine gO ?_
 refine H.rem (z := ((x.key.toNat % 4 : Nat) : Int)) rfl rfl rfl (by decide) (zah (b := 4) rfl) rfl ?_
 refine gH ?_
 refine H.know (d := 16) (u := .int .u8 ((UInt8.ofNat (97 + x.key.toNat % 4)).toNat : Nat)) rfl (by rw [byte_toNat (by omega)]; rfl) ?_
 refine H.Ba (out := bytesV [UInt8.ofNat (97 + x.key.toNat % 4)]) rfl rfl rfl rfl (by decide) (by decide) rfl rfl fun eb => ?_
 refine H.convBS (bs := [UInt8.ofNat (97 + x.key.toNat % 4)]) rfl rfl (Src.slice (Rd.ofRow (.here _ _ _)) rfl) (fun h => by cases h) rfl ?_
 refine gO ?_
 refine H.rem (z := ((x.time.toNat % 10 : Nat) : Int)) rfl rfl rfl (by decide) (zah (b := 10) rfl) rfl ?_
 refine gH ?_
 refine H.know (d := 22) (u := .int .u8 ((UInt8.ofNat (48 + x.time.toNat % 10)).toNat : Nat)) rfl (by rw [byte_toNat (by omega)]; rfl) ?_
 refine H.Ba (out := bytesV [UInt8.ofNat (48 + x.time.toNat % 10)]) rfl rfl rfl rfl (by decide) (by decide) rfl rfl fun eb2 => ?_
 refine H.convBS (bs := [UInt8.ofNat (48 + x.time.toNat % 10)]) rfl rfl (Src.slice (Rd.ofRow (.here _ _ _)) rfl) (fun h => by cases h) rfl ?_
 refine H.Ac (.here _ _) ?_
 refine H.Ac (.here _ _) ?_
 repeat (first | (refine H.Av (t := 44) (out := x.req0.vals) rfl rfl rfl (by kernel_rfl) rfl ?_) | ((apply H.Av); (iterate 5 exact rfl)))
 refine H.Ao (ls := Req.zero.vals) rfl rfl rfl fun rb => ?_
 refine H.Ah (ls := Req.zero.vals) (vs := x.req0.vals) (ls' := x.req0.vals) rfl rfl rfl (zaa rfl) rfl rfl (Nat.le_refl 40) (.here _ _ _) ?_
 refine gG ?_
 unfold A15.req
 cases hno : x.no with
 | true =>
  refine gC ?_
  refine H.Af (ls := x.req0.vals) rfl rfl rfl (Rd.ofRow (.here _ _ _)) rfl rfl ?_
  refine H.Ah (ls := Req.zero.vals) (vs := x.req0.vals) (ls' := x.req0.vals) rfl rfl rfl (zaa rfl) rfl rfl (Nat.le_refl 40) (.there _ (.here _ _ _)) ?_
  refine gY ?_
  refine H.Ac (.here _ _) ?_
  refine H.pd (x := row xb _ _) ?_
  exact H.Bb (ls := x.req0.vals) rfl rfl rfl (Rd.ofRow (.here _ _ _)) rfl (fun _ s => s.drop (.here _ _)) ⟨rfl, rfl, rfl⟩
 | false =>
  refine gS ?_
  refine H.Af (ls := x.req0.vals) rfl rfl rfl (Rd.ofRow (.here _ _ _)) rfl rfl ?_
  refine H.Ad rfl rfl rfl (hsg _) ?_
  refine H.Ah (ls := Req.zero.vals) (vs := x.req0.signed.vals) (ls' := x.req0.signed.vals) rfl rfl rfl (zaa rfl) rfl rfl (Nat.le_refl 40) (.there _ (.here _ _ _)) ?_
  refine gY ?_
  refine H.Ac (.here _ _) ?_
  refine H.pd (x := row xb _ _) ?_
  exact H.Bb (ls := x.req0.signed.vals) rfl rfl rfl (Rd.ofRow (.here _ _ _)) rfl (fun _ s => s.drop (.here _ _)) ⟨rfl, rfl, rfl⟩
end
def A15.Has (f : Frag) (x : A15) : Prop := BAt f x.qp x.q
theorem qAcc_stop {row : Nat → List (Int × Int)} {half : Nat} : ∀ {k m : Nat}, k ≤ m → half < (qAcc row half k).length → qAcc row half m = qAcc row half k
 | k, 0, h, _ => by
  have : k = 0 := by omega
  rw [this]
 | k, m + 1, h, hl => by
  by_cases e : k = m + 1
  ·rw [e]
  ·have ih := qAcc_stop (m := m) (by omega) hl
   show (if (qAcc row half m).length ≤ half then qAcc row half m ++ row m else qAcc row half m) = _
   rw [ih, if_neg (by omega)]
def qPart (ch : Nat → List (Int × Int)) (kv : Nat → Int) (v : Int) (raw : Bool) (r i : Nat) : List (Int × Int) := (((ch r).take i).filter fun c => decide (c.1 = v) && decide (c.2 ≤ kv r) && !raw).map fun c => (((r + 1 : Nat) : Int), c.2)
theorem qPart_all (ch : Nat → List (Int × Int)) (kv : Nat → Int) (v : Int) (raw : Bool) (r : Nat) : qPart ch kv v raw r (ch r).length = qRow ch kv v raw r := by unfold qPart qRow; rw [List.take_length]
theorem qPart_next {ch : Nat → List (Int × Int)} {kv : Nat → Int} {v : Int} {raw : Bool} {r i : Nat} {c : Int × Int} (hc : (ch r)[i]? = some c) : qPart ch kv v raw r (i + 1) = qPart ch kv v raw r i ++ (if (decide (c.1 = v) && decide (c.2 ≤ kv r) && !raw) = true then [(((r + 1 : Nat) : Int), c.2)] else []) := by
 unfold qPart
 rw [filt_take hc, List.map_append]
 congr 1
 split <;> rfl
theorem qPart_len (ch : Nat → List (Int × Int)) (kv : Nat → Int) (v : Int) (raw : Bool) (r i : Nat) : (qPart ch kv v raw r i).length ≤ (ch r).length := by
 unfold qPart
 rw [List.length_map]
 refine Nat.le_trans (List.length_filter_le _ _) ?_
 rw [List.length_take]
 omega
section
variable (f : Frag) (F : List HP)
set_option maxRecDepth 20000 in
set_option maxHeartbeats 3200000 in
theorem q15_fn {fl : Frag} (hfl : Le fl f) {wb kb lb : Nat} {l : Lgs} {T : Nat} (hL : LI l T) (hT : T ≤ 1000) {ap : Option Addr} {m ac n o : Nat} (hnn : l.n = n) (ho : o < n) {kv : Nat → Nat → Int} {x : A15} (hx : x.Has f) (hq20 : x.q.length ≤ 20) (v : Int) :
  Fn Tryz.prog 113 [.pointer (some ⟨wb, 0, none⟩), .int .i64 ((o + 1 : Nat) : Int), .agg x.vals.toArray, .int .u64 v] f (logsH fl lb l :: row wb 37 (w15C kb n ap m ac lb) :: row kb 39 (kRow n kv) :: F)
   (RetE (fun i : Option Addr × Nat => .slice i.1 (x.qs n l.ch (kv o) v).length i.2) f (fun i => slc i.1 (x.qs n l.ch (kv o) v).length i.2 69 2 ((x.qs n l.ch (kv o) v).flatMap pairV) :: logsH fl lb l :: row wb 37 (w15C kb n ap m ac lb) :: row kb 39 (kRow n kv) :: F)) := by
 refine Fn.unpack fun i0 hi => ?_
 obtain ⟨V, vp, vc, pp, pc, cp, cc, pb, cs⟩ := i0
 have hn := hL.n3
 obtain ⟨acc, hacc⟩ : ∃ acc : Nat → List (Int × Int), acc = qAcc (qRow l.ch (kv o) v x.raw) ((n - 1) / 2) := ⟨_, rfl⟩
 have hal : ∀ k, (acc k).length ≤ (n - 1) / 2 + T := fun k => by rw [hacc]; exact qAcc_len (fun r => Nat.le_trans (qRow_len _ _ _ _ r) (hL.cl r)) k
 show Fn _ _ _ f (row lb 86 (lgC l.n l.known vp V.length vc pp pc cp cc) :: slc vp V.length vc 129 4 (V.flatMap VV.vals) :: lst (V.map VV.own) :: fam (fun r => pstH (pb r) (l.past r)) l.n :: slc cp l.n cc 171 1 (chRow l cs) :: fam (chFam l cs) l.n :: row wb 37 (w15C kb n ap m ac lb) :: row kb 39 (kRow n kv) :: F) _
 refine Fn.e4 Tryz.func113 Tryz.ntmps113 fun base => ?_
 refine gA ?_
 refine H.box (ls := x.vals) rfl rfl rfl rfl fun xb => ?_
 refine ga ?_
 refine H.slc0 69 2 ?_
 refine H.pf (x := fam (chFam l cs) _) ?_
 refine H.pf (x := slc cp _ cc _ _ _) ?_
 refine H.pf (x := fam (fun r => pstH _ _) _) ?_
 refine H.pf (x := lst (V.map VV.own)) ?_
 refine H.pf (x := slc vp _ vc _ _ _) ?_
 refine H.pf (x := row lb _ _) ?_
 refine H.pf (x := row kb _ _) ?_
 refine H.pf (x := row wb _ _) ?_
 refine H.pf (x := slc none _ _ _ _ _) ?_
 refine H.pf (x := row xb _ _) ?_
 refine H.Ar (ι := Nat × Option Addr × Nat) (fun s => [(11, .int .i64 ((s.1 + 1 : Nat) : Int)), (9, .slice s.2.1 (acc s.1).length s.2.2), (10, .int .i64 (n : Int)), (0, .pointer (some ⟨wb, 0, none⟩)), (1, .int .i64 ((o + 1 : Nat) : Int)), (3, .int .u64 v), (6, .pointer (some ⟨xb, 0, none⟩))]) (fun _ => f)
  (fun s => row xb 99 x.vals :: slc s.2.1 (acc s.1).length s.2.2 69 2 ((acc s.1).flatMap pairV) :: row wb 37 (w15C kb n ap m ac lb) :: row kb 39 (kRow n kv) :: row lb 86 (lgC l.n l.known vp V.length vc pp pc cp cc) :: slc vp V.length vc 129 4 (V.flatMap VV.vals) :: lst (V.map VV.own) :: fam (fun r => pstH (pb r) (l.past r)) l.n :: slc cp l.n cc 171 1 (chRow l cs) :: fam (chFam l cs) l.n :: F)
  (fun s => s.1 ≤ n) (fun s => n - s.1) (0, none, 0) (Nat.zero_le _) ⟨rfl, by rw [hacc]; rfl, rfl, rfl, rfl, rfl, rfl, trivial⟩ rfl (by rw [hacc]; rfl) fun s hs => ?_
 obtain ⟨r, qp, qc⟩ := s
 have hrn : r ≤ n := hs
 have halr := hal r
 show H _ _ _ [(11, .int .i64 ((r + 1 : Nat) : Int)), (9, .slice qp (acc r).length qc), _, _, _, _, _] f (_ :: slc qp (acc r).length qc _ 2 ((acc r).flatMap pairV) :: _ :: _ :: _ :: _ :: _ :: _ :: _ :: _ :: F) _
 have hquo : (((n : Int) - 1).tdiv 2) = (((n - 1) / 2 : Nat) : Int) := by
  rw [show ((n : Int) - 1) = ((n - 1 : Nat) : Int) by omega]
  exact (Int.ofNat_tdiv (n - 1) 2).symm
 by_cases hgo : r < n ∧ (acc r).length ≤ (n - 1) / 2
 ·obtain ⟨hr, hlen⟩ := hgo
  have hrl : r < l.n := by omega
  have hcl := hL.cl r
  have hr11 : r < 11 := by omega
  refine H.Bm (p := cp) (n0 := l.n) (c := cc) (T := 171) (sz := 1) (xs := chRow l cs) (by repeat constructor) (by omega) fun cb hcb => ?_
  have hCd : ∀ {A A' : List HP}, At A (slc cp l.n cc 171 1 (chRow l cs)) A' (slc cp l.n cc 171 1 (chRow l cs)) → Rd f A cb 0 (chRow l cs) := fun {A A'} h => Rd.ofSlc (n := l.n) (c := cc) (T := 171) (sz := 1) (by rw [← hcb]; exact h) (by omega)
  have hsucc : acc (r + 1) = acc r ++ qRow l.ch (kv o) v x.raw r := by
   rw [hacc] at hlen ⊢
   show (if _ then _ else _) = _
   rw [if_pos hlen]
  refine gW ?_
  refine H.quo (z := (((n - 1) / 2 : Nat) : Int)) rfl rfl rfl (by decide) (by rw [hquo, wr_i64 (by omega)]) rfl ?_
  refine gZ ?_
  refine H.Aq (b := cb) (off := 0) (i := r) rfl (by rw [← hcb]; rfl) rfl (by omega) hrl rfl ?_
  refine H.Ae rfl rfl rfl (by rw [Nat.zero_add, Nat.mul_one]; exact Rd1.at0 (hCd (by repeat constructor)) (rngV_get _ hrl)) rfl ?_
  refine gY ?_
  refine H.pf (x := fam (chFam l cs) _) ?_
  refine H.Cd hrl ?_
  refine H.pf (x := fam (updF _ _ _) _) ?_
  refine H.pf (x := slc cp _ cc _ _ _) ?_
  refine H.pf (x := fam (fun r => pstH _ _) _) ?_
  refine H.pf (x := lst (V.map VV.own)) ?_
  refine H.pf (x := slc vp _ vc _ _ _) ?_
  refine H.pf (x := row lb _ _) ?_
  refine H.pf (x := row kb _ _) ?_
  refine H.pf (x := row wb _ _) ?_
  refine H.pf (x := slc qp _ qc _ _ _) ?_
  refine H.pf (x := chFam l cs r) ?_
  refine H.pf (x := row xb _ _) ?_
  obtain ⟨pt, hpt⟩ : ∃ pt : Nat → List (Int × Int), pt = fun i => acc r ++ qPart l.ch (kv o) v x.raw r i := ⟨_, rfl⟩
  have hp0 : pt 0 = acc r := by rw [hpt]; show acc r ++ [] = _; rw [List.append_nil]
  have hpl : ∀ i, (pt i).length ≤ (n - 1) / 2 + T + T := fun i => by
   rw [hpt]
   show (acc r ++ _).length ≤ _
   rw [List.length_append]
   have := qPart_len l.ch (kv o) v x.raw r i
   omega
  refine H.Ar (ι := Nat × Option Addr × Nat) (fun s => [(13, .int .i64 (s.1 : Int)), (12, .slice (cs r).1 (l.ch r).length (cs r).2), (9, .slice s.2.1 (pt s.1).length s.2.2), (11, .int .i64 ((r + 1 : Nat) : Int)), (10, .int .i64 (n : Int)), (0, .pointer (some ⟨wb, 0, none⟩)), (1, .int .i64 ((o + 1 : Nat) : Int)), (3, .int .u64 v), (6, .pointer (some ⟨xb, 0, none⟩))]) (fun _ => f)
   (fun s => row xb 99 x.vals :: chFam l cs r :: slc s.2.1 (pt s.1).length s.2.2 69 2 ((pt s.1).flatMap pairV) :: row wb 37 (w15C kb n ap m ac lb) :: row kb 39 (kRow n kv) :: row lb 86 (lgC l.n l.known vp V.length vc pp pc cp cc) :: slc vp V.length vc 129 4 (V.flatMap VV.vals) :: lst (V.map VV.own) :: fam (fun r => pstH (pb r) (l.past r)) l.n :: slc cp l.n cc 171 1 (chRow l cs) :: fam (updF (chFam l cs) r emp) l.n :: F)
   (fun s => s.1 ≤ (l.ch r).length) (fun s => (l.ch r).length - s.1) (0, qp, qc) (Nat.zero_le _) ⟨rfl, rfl, by rw [hp0]; rfl, rfl, rfl, rfl, rfl, rfl, rfl, trivial⟩ rfl (by rw [hp0]) fun s hs => ?_
  obtain ⟨i, qp, qc⟩ := s
  have hi2 : i ≤ (l.ch r).length := hs
  have hpli := hpl i
  show H _ _ _ [(13, .int .i64 (i : Int)), _, (9, .slice qp (pt i).length qc), _, _, _, _, _, _] f (_ :: _ :: slc qp (pt i).length qc _ 2 ((pt i).flatMap pairV) :: _ :: _ :: _ :: _ :: _ :: _ :: _ :: _ :: F) _
  by_cases hlt : i < (l.ch r).length
  ·obtain ⟨y, hy⟩ : ∃ y, (l.ch r)[i]? = some y := ⟨_, List.getElem?_eq_getElem hlt⟩
   refine H.Bm (p := (cs r).1) (n0 := (l.ch r).length) (c := (cs r).2) (T := 173) (sz := 2) (xs := (l.ch r).flatMap chV) (.there _ (.here _ _ _)) (by omega) fun sb hp => ?_
   have rd : ∀ {G0 : HP} {G : List HP}, Rd f (G0 :: chFam l cs r :: G) sb (0 + i * 2) (chV y) := fun {G0 G} => by
    rw [Nat.zero_add]; exact Rd.slcElem (vals := chV) (xs := l.ch r) (n := (l.ch r).length) (c := (cs r).2) (T := 173) chV_len (by decide) (by rw [← hp]; exact .there _ (.here _ _ _)) hy
   have hnx : pt (i + 1) = pt i ++ (if (decide (y.1 = v) && decide (y.2 ≤ kv o r) && !x.raw) = true then [(((r + 1 : Nat) : Int), y.2)] else []) := by
    rw [hpt]
    show acc r ++ qPart _ _ _ _ _ (i + 1) = acc r ++ qPart _ _ _ _ _ i ++ _
    rw [qPart_next hy, List.append_assoc]
   refine gF ?_
   refine H.dq ?_
   refine gR ?_
   refine HQ.Aq (b := sb) (off := 0) (i := i) rfl (by rw [← hp]; rfl) rfl rfl hlt rfl ?_
   refine gU ?_
   refine HQ.Ae rfl rfl rfl (Rd1.of (i := 0) rd rfl) rfl ?_
   refine gc ?_
   by_cases h1 : y.1 = v
   ·skip
    refine gX ?_
    refine HQ.Aq (b := sb) (off := 0) (i := i) rfl (by rw [← hp]; rfl) rfl rfl hlt rfl ?_
    refine gU ?_
    refine HQ.Ae rfl rfl rfl (Rd1.of (i := 1) rd rfl) rfl ?_
    refine gc ?_
    refine HQ.Aq (b := kb) (off := 0) (i := o) rfl rfl rfl (by omega) ho rfl ?_
    refine HQ.Aw (i := r) rfl rfl rfl (by omega) hr11 rfl ?_
    refine HQ.Ae rfl rfl rfl (by rw [Nat.zero_add, Nat.mul_one]; exact Rd1.of (Rd.kRow (Rd.ofRow (by repeat constructor)) ho) (zaz (kv o) hr11)) rfl ?_
    refine gX ?_
    by_cases h2 : y.2 ≤ kv o r
    ·by_cases hraw : x.raw = true
     ·have hr1 : (!x.raw) = false := by rw [hraw]; rfl
      rw [hraw, Bool.not_true, Bool.and_false, if_neg (by decide), List.append_nil] at hnx
      refine gX ?_
      refine gT ?_
      refine H.pf (x := slc qp _ qc _ _ _) ?_
      refine H.pf (x := chFam l cs r) ?_
      refine H.pf (x := row xb _ _) ?_
      refine H.Aj (i + 1, qp, qc) (by show i + 1 ≤ (l.ch r).length; omega) (by show (l.ch r).length - (i + 1) < (l.ch r).length - i; omega) ⟨rfl, rfl, ?_, rfl, rfl, rfl, rfl, rfl, rfl, trivial⟩ rfl ?_
      ·show some (Value.slice qp _ qc) = some (Value.slice qp _ qc)
       rw [hnx]
      ·show _ :: _ :: slc qp _ qc _ 2 _ :: _ = _ :: _ :: slc qp _ qc _ 2 _ :: _
       rw [hnx]
     ·have hraw : x.raw = false := by
       cases e : x.raw with
       | true => exact absurd e hraw
       | false => rfl
      have hr1 : (!x.raw) = true := by rw [hraw]; rfl
      rw [hraw, decide_eq_true h1, decide_eq_true h2, if_pos (by decide)] at hnx
      refine gX ?_
      refine gT ?_
      refine H.Aq (b := sb) (off := 0) (i := i) rfl (by rw [← hp]; rfl) rfl rfl hlt rfl ?_
      refine gO ?_
      refine H.Ae rfl rfl rfl (Rd1.of (i := 1) rd rfl) rfl ?_
      refine gW ?_
      refine H.Ba (out := pairV (((r + 1 : Nat) : Int), y.2)) rfl rfl rfl rfl (by decide) (by decide) rfl rfl fun eb => ?_
      refine H.Bd (sz := 2) (p := qp) (n0 := (pt i).length) (c := qc) (xs := (pt i).flatMap pairV) (m := 1) (news := pairV (((r + 1 : Nat) : Int), y.2)) rfl rfl rfl rfl rfl (fun p' c' => (by repeat constructor)) (Src.slice (Rd.ofRow (by repeat constructor)) rfl) (zaa rfl) rfl (by omega) (by omega) fun p2 c2 => ?_
      refine gH ?_
      refine H.pd (x := row eb _ _) ?_
      refine H.Aj (i + 1, p2, c2) (by show i + 1 ≤ (l.ch r).length; omega) (by show (l.ch r).length - (i + 1) < (l.ch r).length - i; omega) ⟨rfl, rfl, ?_, rfl, rfl, rfl, rfl, rfl, rfl, trivial⟩ rfl ?_
      ·show some (Value.slice p2 ((pt i).length + 1) c2) = some (Value.slice p2 (pt (i + 1)).length c2)
       rw [hnx, List.length_append]
       rfl
      ·show _ :: _ :: slc p2 ((pt i).length + 1) c2 _ 2 _ :: _ = _ :: _ :: slc p2 (pt (i + 1)).length c2 _ 2 ((pt (i + 1)).flatMap pairV) :: _
       rw [hnx, List.length_append, List.flatMap_append]
       simp
    ·rw [decide_eq_false h2, Bool.and_false, Bool.false_and, if_neg (by decide), List.append_nil] at hnx
     refine gX ?_
     refine gS ?_
     refine H.pf (x := slc qp _ qc _ _ _) ?_
     refine H.pf (x := chFam l cs r) ?_
     refine H.pf (x := row xb _ _) ?_
     refine H.Aj (i + 1, qp, qc) (by show i + 1 ≤ (l.ch r).length; omega) (by show (l.ch r).length - (i + 1) < (l.ch r).length - i; omega) ⟨rfl, rfl, ?_, rfl, rfl, rfl, rfl, rfl, rfl, trivial⟩ rfl ?_
     ·show some (Value.slice qp _ qc) = some (Value.slice qp _ qc)
      rw [hnx]
     ·show _ :: _ :: slc qp _ qc _ 2 _ :: _ = _ :: _ :: slc qp _ qc _ 2 _ :: _
      rw [hnx]
   ·rw [decide_eq_false h1, Bool.false_and, Bool.false_and, if_neg (by decide), List.append_nil] at hnx
    refine gX ?_
    refine gS ?_
    refine H.pf (x := slc qp _ qc _ _ _) ?_
    refine H.pf (x := chFam l cs r) ?_
    refine H.pf (x := row xb _ _) ?_
    refine H.Aj (i + 1, qp, qc) (by show i + 1 ≤ (l.ch r).length; omega) (by show (l.ch r).length - (i + 1) < (l.ch r).length - i; omega) ⟨rfl, rfl, ?_, rfl, rfl, rfl, rfl, rfl, rfl, trivial⟩ rfl ?_
    ·show some (Value.slice qp _ qc) = some (Value.slice qp _ qc)
     rw [hnx]
    ·show _ :: _ :: slc qp _ qc _ 2 _ :: _ = _ :: _ :: slc qp _ qc _ 2 _ :: _
     rw [hnx]
  ·have e : i = (l.ch r).length := by omega
   subst e
   have hpe : pt (l.ch r).length = acc (r + 1) := by rw [hsucc, hpt, ← qPart_all]
   rw [hpe]
   refine gK ?_
   refine H.pf (x := fam (updF _ _ _) _) ?_
   refine H.pf (x := chFam l cs r) ?_
   refine H.Cj (g := chFam l cs) hrl ?_
   refine H.pf (x := fam (chFam l cs) _) ?_
   refine H.pf (x := slc cp _ cc _ _ _) ?_
   refine H.pf (x := fam (fun r => pstH _ _) _) ?_
   refine H.pf (x := lst (V.map VV.own)) ?_
   refine H.pf (x := slc vp _ vc _ _ _) ?_
   refine H.pf (x := row lb _ _) ?_
   refine H.pf (x := row kb _ _) ?_
   refine H.pf (x := row wb _ _) ?_
   refine H.pf (x := slc qp _ qc _ _ _) ?_
   refine H.pf (x := row xb _ _) ?_
   exact H.Aj (r + 1, qp, qc) (by show r + 1 ≤ n; omega) (by show n - (r + 1) < n - r; omega) ⟨rfl, rfl, rfl, rfl, rfl, rfl, rfl, trivial⟩ rfl rfl
 ·have hfin : acc n = acc r := by
   by_cases e : r = n
   ·rw [e]
   ·rw [hacc]
    exact qAcc_stop hrn (by rw [← hacc]; omega)
  have hqe : qAcc (qRow l.ch (kv o) v x.raw) ((n - 1) / 2) n = acc r := by rw [← hfin, hacc]
  by_cases hr : r < n
  ·have hlen : (n - 1) / 2 < (acc r).length := by omega
   refine gW ?_
   refine H.quo (z := (((n - 1) / 2 : Nat) : Int)) rfl rfl rfl (by decide) (by rw [hquo, wr_i64 (by omega)]) rfl ?_
   have h0 : 0 < (acc r).length := by omega
   refine gZ ?_
   refine H.pd (x := row xb _ _) ?_
   refine H.pf (x := fam (chFam l cs) _) ?_
   refine H.pf (x := slc cp _ cc _ _ _) ?_
   refine H.pf (x := fam (fun r => pstH _ _) _) ?_
   refine H.pf (x := lst (V.map VV.own)) ?_
   refine H.pf (x := slc vp _ vc _ _ _) ?_
   refine H.pf (x := row lb _ _) ?_
   refine H.imp (zae ⟨V, vp, vc, pp, pc, cp, cc, pb, cs⟩ hi) ?_
   refine H.pf (x := slc qp _ qc _ _ _) ?_
   have hqs : x.qs n l.ch (kv o) v = acc r := by unfold A15.qs; rw [hqe, if_pos (.inl h0)]
   rw [hqs]
   exact H.Ab rfl rfl (fun _ h => h) ⟨(qp, qc), rfl, rfl, rfl⟩
  ·by_cases h0 : 0 < (acc r).length
   ·skip
    refine gV ?_
    refine H.pd (x := row xb _ _) ?_
    refine H.pf (x := fam (chFam l cs) _) ?_
    refine H.pf (x := slc cp _ cc _ _ _) ?_
    refine H.pf (x := fam (fun r => pstH _ _) _) ?_
    refine H.pf (x := lst (V.map VV.own)) ?_
    refine H.pf (x := slc vp _ vc _ _ _) ?_
    refine H.pf (x := row lb _ _) ?_
    refine H.imp (zae ⟨V, vp, vc, pp, pc, cp, cc, pb, cs⟩ hi) ?_
    refine H.pf (x := slc qp _ qc _ _ _) ?_
    have hqs : x.qs n l.ch (kv o) v = acc r := by unfold A15.qs; rw [hqe, if_pos (.inl h0)]
    rw [hqs]
    exact H.Ab rfl rfl (fun _ h => h) ⟨(qp, qc), rfl, rfl, rfl⟩
   ·by_cases hq0 : x.q.length = 0
    ·skip
     refine gZ ?_
     refine H.pd (x := row xb _ _) ?_
     refine H.pf (x := fam (chFam l cs) _) ?_
     refine H.pf (x := slc cp _ cc _ _ _) ?_
     refine H.pf (x := fam (fun r => pstH _ _) _) ?_
     refine H.pf (x := lst (V.map VV.own)) ?_
     refine H.pf (x := slc vp _ vc _ _ _) ?_
     refine H.pf (x := row lb _ _) ?_
     refine H.imp (zae ⟨V, vp, vc, pp, pc, cp, cc, pb, cs⟩ hi) ?_
     refine H.pf (x := slc qp _ qc _ _ _) ?_
     have hqs : x.qs n l.ch (kv o) v = acc r := by unfold A15.qs; rw [if_pos (.inr hq0), hqe]
     rw [hqs]
     exact H.Ab rfl rfl (fun _ h => h) ⟨(qp, qc), rfl, rfl, rfl⟩
    ·have hnil : acc r = [] := List.eq_nil_of_length_eq_zero (by omega)
     have hqs : x.qs n l.ch (kv o) v = qNum x.q (if n ≤ x.q.length then n else x.q.length) := by
      unfold A15.qs
      rw [hqe, if_neg (by rintro (h | h); exact h0 h; exact hq0 h)]
     rw [hqs, hnil]
     clear hqs hqe hfin
     refine gZ ?_
     rcases hx with e0 | ⟨qb, qoff, qcs, qT, qfr, hqp, hqfb, hqcs⟩
     ·rw [e0] at hq0; exact absurd rfl hq0
     ·have hrdo : ∀ A, Rd f A qb qoff (bytesV x.q) := fun A => Rd.imm hqfb fun j hj => by rw [zab] at hj; exact hqcs j hj
      refine H.Ar (ι := Nat × Option Addr × Nat) (fun s => [(14, .int .i64 ((s.1 + 1 : Nat) : Int)), (9, .slice s.2.1 s.1 s.2.2), (10, .int .i64 (n : Int)), (6, .pointer (some ⟨xb, 0, none⟩))]) (fun _ => f)
       (fun s => row xb 99 x.vals :: slc s.2.1 s.1 s.2.2 69 2 ((qNum x.q s.1).flatMap pairV) :: row wb 37 (w15C kb n ap m ac lb) :: row kb 39 (kRow n kv) :: row lb 86 (lgC l.n l.known vp V.length vc pp pc cp cc) :: slc vp V.length vc 129 4 (V.flatMap VV.vals) :: lst (V.map VV.own) :: fam (fun r => pstH (pb r) (l.past r)) l.n :: slc cp l.n cc 171 1 (chRow l cs) :: fam (chFam l cs) l.n :: F)
       (fun s => s.1 ≤ n ∧ s.1 ≤ x.q.length) (fun s => n - s.1) (0, qp, qc) ⟨Nat.zero_le _, Nat.zero_le _⟩ ⟨rfl, rfl, rfl, rfl, trivial⟩ rfl rfl fun s hs => ?_
      obtain ⟨j, qp, qc⟩ := s
      obtain ⟨hj1, hj2⟩ : j ≤ n ∧ j ≤ x.q.length := hs
      show H _ _ _ [(14, .int .i64 ((j + 1 : Nat) : Int)), (9, .slice qp j qc), _, _] f (_ :: slc qp j qc _ 2 ((qNum x.q j).flatMap pairV) :: _ :: _ :: _ :: _ :: _ :: _ :: _ :: _ :: F) _
      by_cases hgo : j < n ∧ j < x.q.length
      ·obtain ⟨hjn, hjq⟩ := hgo
       obtain ⟨w8, hw8⟩ : ∃ w8, x.q[j]? = some w8 := ⟨_, List.getElem?_eq_getElem hjq⟩
       have hby : (bytesV x.q)[j]? = some (.int .u8 (w8.toNat : Nat)) := by unfold bytesV; rw [List.getElem?_map, hw8]; rfl
       have hw8l := w8.toNat_lt
       have hm8 : ((w8.toNat % 8 : Nat) : Int) ≤ 7 := by omega
       have hnx : qNum x.q (j + 1) = qNum x.q j ++ [(((j + 1 : Nat) : Int), 1 + ((w8.toNat % 8 : Nat) : Int))] := by
        show qNum x.q j ++ [(_, 1 + (((x.q.getD j 0).toNat % 8 : Nat) : Int))] = _
        rw [List.getD_eq_getElem?_getD, hw8]
        rfl
       refine gZ ?_
       refine H.index1 (b := qb) (off := qoff) (i := j) rfl (by rw [← hqp]; rfl) rfl (by omega) hjq rfl ?_
       refine H.Ae rfl rfl rfl (Rd1.of (hrdo _) hby) rfl ?_
       refine H.rem (z := ((w8.toNat % 8 : Nat) : Int)) rfl rfl rfl (by decide) (zah (b := 8) rfl) rfl ?_
       refine gK ?_
       refine H.Ba (out := pairV (((j + 1 : Nat) : Int), 1 + ((w8.toNat % 8 : Nat) : Int))) rfl rfl rfl rfl (by decide) (by decide) rfl rfl fun eb => ?_
       refine H.Bd (sz := 2) (p := qp) (n0 := j) (c := qc) (xs := (qNum x.q j).flatMap pairV) (m := 1) (news := pairV (((j + 1 : Nat) : Int), 1 + ((w8.toNat % 8 : Nat) : Int))) rfl rfl rfl rfl rfl (fun p' c' => (by repeat constructor)) (Src.slice (Rd.ofRow (by repeat constructor)) rfl) (zaa rfl) rfl (by omega) (by omega) fun p2 c2 => ?_
       refine gH ?_
       refine H.pd (x := row eb _ _) ?_
       refine H.Aj (j + 1, p2, c2) ⟨by show j + 1 ≤ n; omega, by show j + 1 ≤ x.q.length; omega⟩ (by show n - (j + 1) < n - j; omega) ⟨rfl, rfl, rfl, rfl, trivial⟩ rfl ?_
       show _ :: slc p2 (j + 1) c2 _ 2 _ :: _ = _ :: slc p2 (j + 1) c2 _ 2 ((qNum x.q (j + 1)).flatMap pairV) :: _
       rw [hnx, List.flatMap_append]
       simp
      ·have hje : (if n ≤ x.q.length then n else x.q.length) = j := by split <;> omega
       rw [hje, qNum_len]
       by_cases hjn : j < n
       ·skip
        refine ga ?_
        refine H.pd (x := row xb _ _) ?_
        refine H.pf (x := fam (chFam l cs) _) ?_
        refine H.pf (x := slc cp _ cc _ _ _) ?_
        refine H.pf (x := fam (fun r => pstH _ _) _) ?_
        refine H.pf (x := lst (V.map VV.own)) ?_
        refine H.pf (x := slc vp _ vc _ _ _) ?_
        refine H.pf (x := row lb _ _) ?_
        refine H.imp (zae ⟨V, vp, vc, pp, pc, cp, cc, pb, cs⟩ hi) ?_
        refine H.pf (x := slc qp _ qc _ _ _) ?_
        exact H.Ab rfl rfl (fun _ h => h) ⟨(qp, qc), rfl, rfl, rfl⟩
       ·skip
        refine gV ?_
        refine H.pd (x := row xb _ _) ?_
        refine H.pf (x := fam (chFam l cs) _) ?_
        refine H.pf (x := slc cp _ cc _ _ _) ?_
        refine H.pf (x := fam (fun r => pstH _ _) _) ?_
        refine H.pf (x := lst (V.map VV.own)) ?_
        refine H.pf (x := slc vp _ vc _ _ _) ?_
        refine H.pf (x := row lb _ _) ?_
        refine H.imp (zae ⟨V, vp, vc, pp, pc, cp, cc, pb, cs⟩ hi) ?_
        refine H.pf (x := slc qp _ qc _ _ _) ?_
        exact H.Ab rfl rfl (fun _ h => h) ⟨(qp, qc), rfl, rfl, rfl⟩
end
def bodW (k : UInt8) (v kk : Int) : Bod := ⟨k, v, kk, Req.zero, [], noTag⟩
section
variable (f : Frag) (F : List HP)
set_option maxRecDepth 20000 in
set_option maxHeartbeats 3200000 in
theorem body15_fn {fl : Frag} (hfl : Le fl f) {wb kb lb : Nat} {W : W15} {n T : Nat} (hW : WI n W T) (hT : T ≤ 1000) {ap : Option Addr} {m ac o : Nat} (ho : o < n) {x : A15} (hx : x.Has f) (hq20 : x.q.length ≤ 20) :
  Fn Tryz.prog 78 [.pointer (some ⟨wb, 0, none⟩), .int .i64 ((o + 1 : Nat) : Int), .agg x.vals.toArray] f (logsH fl lb W.l :: row wb 37 (w15C kb n ap m ac lb) :: row kb 39 (kRow n W.w.kv) :: F)
   (BodP f (logsH fl lb W.l :: row wb 37 (w15C kb n ap m ac lb) :: row kb 39 (kRow n W.w.kv) :: F) (x.bod W n o)) := by
 have hn := hW.l.n3
 have hnn := hW.n
 have hol : o < W.l.n := by omega
 have hwf := hW.l.wf o hol
 have hg0 := hwf.g0
 have hg1 := hW.l.gb o hol
 have hvm : ((x.view.toNat % 6 : Nat) : Int) ≤ 5 := by omega
 have hv2 : ((x.view.toNat % 2 : Nat) : Int) ≤ 1 := by omega
 have hkm : ((x.k.toNat % 6 : Nat) : Int) ≤ 5 := by omega
 have hgr := fun G => great_fn f G hfl (wb := wb) (kb := kb) (lb := lb) (l := W.l) hW.l (ap := ap) (m := m) (ac := ac) (n := n) hol
 have hcases : x.kind.toNat % 6 = 0 ∨ x.kind.toNat % 6 = 1 ∨ x.kind.toNat % 6 = 2 ∨ x.kind.toNat % 6 = 3 ∨ x.kind.toNat % 6 = 4 ∨ x.kind.toNat % 6 = 5 := by omega
 unfold A15.bod
 rcases hcases with h | h | h | h | h | h
 ·have hk6 : ((x.kind.toNat : Nat) : Int).tmod 6 = 0 := zah (b := 6) h
  rw [h]
  have hask := fun G => ask_fn f G x
  rcases Bool.eq_false_or_eq_true x.raw with hraw | hraw
  ·have hr1 : (!x.raw) = false := by rw [hraw]; rfl
   have hb : x.bodK W n o 0 = (⟨1, ((x.view.toNat % 6 : Nat) : Int), 0, x.req, [], noTag⟩ : Bod) := by simp [A15.bodK, hraw, Bod.zero]
   rw [hb]
   generalize x.req = rq at hask ⊢
   refine Fn.e3 Tryz.func78 Tryz.ntmps78 fun base => ?_
   refine gA ?_
   refine H.box (ls := x.vals) rfl rfl rfl rfl fun xb => ?_
   refine H.Ao (ls := (Bod.zero 0).vals none 0) rfl rfl rfl fun ob => ?_
   refine gG ?_
   refine H.rem rfl rfl rfl (by decide) hk6 rfl ?_
   refine gO ?_
   refine H.rem (z := ((x.view.toNat % 6 : Nat) : Int)) rfl rfl rfl (by decide) (zah (b := 6) rfl) rfl ?_
   refine gO ?_
   refine H.rem (z := ((x.k.toNat % 6 : Nat) : Int)) rfl rfl rfl (by decide) (zah (b := 6) rfl) rfl ?_
   repeat (first | (refine H.Av (t := 47) (out := (bodW 1 ((x.view.toNat % 6 : Nat) : Int) (1 + ((x.k.toNat % 6 : Nat) : Int))).vals none 0) rfl rfl rfl (by kernel_rfl) rfl ?_) | ((first | (apply H.ar; (iterate 4 exact rfl)) | (apply H.Bh; (iterate 2 exact rfl))); (with_reducible apply wr_u64; omega); exact rfl))
   refine H.Ao (ls := (Bod.zero 0).vals none 0) rfl rfl rfl fun bb => ?_
   refine H.Ah (ls := (Bod.zero 0).vals none 0) (vs := (bodW 1 ((x.view.toNat % 6 : Nat) : Int) (1 + ((x.k.toNat % 6 : Nat) : Int))).vals none 0) (ls' := (bodW 1 ((x.view.toNat % 6 : Nat) : Int) (1 + ((x.k.toNat % 6 : Nat) : Int))).vals none 0) rfl rfl rfl (zaa rfl) rfl rfl (Nat.le_refl 76) (.here _ _ _) ?_
   refine gN ?_
   refine H.pf (x := row wb _ _) ?_
   refine H.pf (x := logsH _ _ _) ?_
   refine H.Ad rfl rfl rfl (hgr _) ?_
   refine H.pf (x := row xb _ _) ?_
   refine H.pf (x := row bb _ _) ?_
   refine gL ?_
   refine H.Af (ls := x.vals) rfl rfl rfl (Rd.ofRow (.there _ (.here _ _ _))) rfl rfl ?_
   refine H.Ad rfl rfl rfl (hask _) ?_
   refine gO ?_
   refine H.Ah (ls := (bodW 1 ((x.view.toNat % 6 : Nat) : Int) 0).vals none 0) (vs := rq.vals) (ls' := (⟨1, ((x.view.toNat % 6 : Nat) : Int), 0, rq, [], noTag⟩ : Bod).vals none 0) rfl rfl rfl (zaa rfl) rfl rfl (show 3 + 40 ≤ 76 by decide) (.here _ _ _) ?_
   refine gT ?_
   refine H.Af (ls := (⟨1, ((x.view.toNat % 6 : Nat) : Int), 0, rq, [], noTag⟩ : Bod).vals none 0) rfl rfl rfl (Rd.ofRow (.here _ _ _)) rfl rfl ?_
   refine H.Ah (ls := (Bod.zero 0).vals none 0) (vs := (⟨1, ((x.view.toNat % 6 : Nat) : Int), 0, rq, [], noTag⟩ : Bod).vals none 0) (ls' := (⟨1, ((x.view.toNat % 6 : Nat) : Int), 0, rq, [], noTag⟩ : Bod).vals none 0) rfl rfl rfl (zaa rfl) rfl rfl (Nat.le_refl 76) (by repeat constructor) ?_
   refine gY ?_
   refine H.pd (x := row bb _ _) ?_
   refine H.pd (x := row xb _ _) ?_
   refine H.pf (x := row kb _ _) ?_
   refine H.pf (x := row wb _ _) ?_
   refine H.pf (x := logsH _ _ _) ?_
   refine H.pf (x := row ob _ _) ?_
   exact H.Bb (ls := (⟨1, ((x.view.toNat % 6 : Nat) : Int), 0, rq, [], noTag⟩ : Bod).vals none 0) rfl rfl rfl (Rd.ofRow (.here _ _ _)) rfl (fun _ s => s.drop (.here _ _)) ⟨nil0, none, 0, rfl, QAt.nil _ _, Dj.nil _, (un_nil _).symm, rfl⟩
  ·have hr1 : (!x.raw) = true := by rw [hraw]; rfl
   have hb : x.bodK W n o 0 = (⟨1, (W.l.past o).g, 0, x.req, [], noTag⟩ : Bod) := by simp [A15.bodK, hraw, Bod.zero]
   rw [hb]
   generalize x.req = rq at hask ⊢
   refine Fn.e3 Tryz.func78 Tryz.ntmps78 fun base => ?_
   refine gA ?_
   refine H.box (ls := x.vals) rfl rfl rfl rfl fun xb => ?_
   refine H.Ao (ls := (Bod.zero 0).vals none 0) rfl rfl rfl fun ob => ?_
   refine gG ?_
   refine H.rem rfl rfl rfl (by decide) hk6 rfl ?_
   refine gO ?_
   refine H.rem (z := ((x.view.toNat % 6 : Nat) : Int)) rfl rfl rfl (by decide) (zah (b := 6) rfl) rfl ?_
   refine gO ?_
   refine H.rem (z := ((x.k.toNat % 6 : Nat) : Int)) rfl rfl rfl (by decide) (zah (b := 6) rfl) rfl ?_
   repeat (first | (refine H.Av (t := 47) (out := (bodW 1 ((x.view.toNat % 6 : Nat) : Int) (1 + ((x.k.toNat % 6 : Nat) : Int))).vals none 0) rfl rfl rfl (by kernel_rfl) rfl ?_) | ((first | (apply H.ar; (iterate 4 exact rfl)) | (apply H.Bh; (iterate 2 exact rfl))); (with_reducible apply wr_u64; omega); exact rfl))
   refine H.Ao (ls := (Bod.zero 0).vals none 0) rfl rfl rfl fun bb => ?_
   refine H.Ah (ls := (Bod.zero 0).vals none 0) (vs := (bodW 1 ((x.view.toNat % 6 : Nat) : Int) (1 + ((x.k.toNat % 6 : Nat) : Int))).vals none 0) (ls' := (bodW 1 ((x.view.toNat % 6 : Nat) : Int) (1 + ((x.k.toNat % 6 : Nat) : Int))).vals none 0) rfl rfl rfl (zaa rfl) rfl rfl (Nat.le_refl 76) (.here _ _ _) ?_
   refine gN ?_
   refine H.pf (x := row wb _ _) ?_
   refine H.pf (x := logsH _ _ _) ?_
   refine H.Ad rfl rfl rfl (hgr _) ?_
   refine H.pf (x := row xb _ _) ?_
   refine H.pf (x := row bb _ _) ?_
   refine gL ?_
   refine H.Af (ls := x.vals) rfl rfl rfl (Rd.ofRow (.there _ (.here _ _ _))) rfl rfl ?_
   refine H.Ad rfl rfl rfl (hask _) ?_
   refine gO ?_
   refine H.Ah (ls := (bodW 1 ((x.view.toNat % 6 : Nat) : Int) 0).vals none 0) (vs := rq.vals) (ls' := (⟨1, ((x.view.toNat % 6 : Nat) : Int), 0, rq, [], noTag⟩ : Bod).vals none 0) rfl rfl rfl (zaa rfl) rfl rfl (show 3 + 40 ≤ 76 by decide) (.here _ _ _) ?_
   refine gT ?_
   refine H.Af (ls := (⟨1, (W.l.past o).g, 0, rq, [], noTag⟩ : Bod).vals none 0) rfl rfl rfl (Rd.ofRow (.here _ _ _)) rfl rfl ?_
   refine H.Ah (ls := (Bod.zero 0).vals none 0) (vs := (⟨1, (W.l.past o).g, 0, rq, [], noTag⟩ : Bod).vals none 0) (ls' := (⟨1, (W.l.past o).g, 0, rq, [], noTag⟩ : Bod).vals none 0) rfl rfl rfl (zaa rfl) rfl rfl (Nat.le_refl 76) (by repeat constructor) ?_
   refine gY ?_
   refine H.pd (x := row bb _ _) ?_
   refine H.pd (x := row xb _ _) ?_
   refine H.pf (x := row kb _ _) ?_
   refine H.pf (x := row wb _ _) ?_
   refine H.pf (x := logsH _ _ _) ?_
   refine H.pf (x := row ob _ _) ?_
   exact H.Bb (ls := (⟨1, (W.l.past o).g, 0, rq, [], noTag⟩ : Bod).vals none 0) rfl rfl rfl (Rd.ofRow (.here _ _ _)) rfl (fun _ s => s.drop (.here _ _)) ⟨nil0, none, 0, rfl, QAt.nil _ _, Dj.nil _, (un_nil _).symm, rfl⟩
 ·have hk6 : ((x.kind.toNat : Nat) : Int).tmod 6 = 1 := zah (b := 6) h
  rw [h]
  rcases Bool.eq_false_or_eq_true x.raw with hraw | hraw
  ·have hr1 : (!x.raw) = false := by rw [hraw]; rfl
   have hb : x.bodK W n o 1 = (⟨2, ((x.view.toNat % 6 : Nat) : Int), (1 + ((x.k.toNat % 6 : Nat) : Int)), Req.zero, [], noTag⟩ : Bod) := by simp [A15.bodK, hraw, Bod.zero]
   rw [hb]
   refine Fn.e3 Tryz.func78 Tryz.ntmps78 fun base => ?_
   refine gA ?_
   refine H.box (ls := x.vals) rfl rfl rfl rfl fun xb => ?_
   refine H.Ao (ls := (Bod.zero 0).vals none 0) rfl rfl rfl fun ob => ?_
   refine gG ?_
   refine H.rem rfl rfl rfl (by decide) hk6 rfl ?_
   refine gO ?_
   refine H.rem (z := ((x.view.toNat % 6 : Nat) : Int)) rfl rfl rfl (by decide) (zah (b := 6) rfl) rfl ?_
   refine gO ?_
   refine H.rem (z := ((x.k.toNat % 6 : Nat) : Int)) rfl rfl rfl (by decide) (zah (b := 6) rfl) rfl ?_
   repeat (first | (refine H.Av (t := 47) (out := (bodW 2 ((x.view.toNat % 6 : Nat) : Int) (1 + ((x.k.toNat % 6 : Nat) : Int))).vals none 0) rfl rfl rfl (by kernel_rfl) rfl ?_) | ((first | (apply H.ar; (iterate 4 exact rfl)) | (apply H.Bh; (iterate 2 exact rfl))); (with_reducible apply wr_u64; omega); exact rfl))
   refine H.Ao (ls := (Bod.zero 0).vals none 0) rfl rfl rfl fun bb => ?_
   refine H.Ah (ls := (Bod.zero 0).vals none 0) (vs := (bodW 2 ((x.view.toNat % 6 : Nat) : Int) (1 + ((x.k.toNat % 6 : Nat) : Int))).vals none 0) (ls' := (bodW 2 ((x.view.toNat % 6 : Nat) : Int) (1 + ((x.k.toNat % 6 : Nat) : Int))).vals none 0) rfl rfl rfl (zaa rfl) rfl rfl (Nat.le_refl 76) (.here _ _ _) ?_
   refine gN ?_
   refine H.pf (x := row wb _ _) ?_
   refine H.pf (x := logsH _ _ _) ?_
   refine H.Ad rfl rfl rfl (hgr _) ?_
   refine H.pf (x := row xb _ _) ?_
   refine H.pf (x := row bb _ _) ?_
   refine gT ?_
   refine H.Af (ls := (⟨2, ((x.view.toNat % 6 : Nat) : Int), (1 + ((x.k.toNat % 6 : Nat) : Int)), Req.zero, [], noTag⟩ : Bod).vals none 0) rfl rfl rfl (Rd.ofRow (.here _ _ _)) rfl rfl ?_
   refine H.Ah (ls := (Bod.zero 0).vals none 0) (vs := (⟨2, ((x.view.toNat % 6 : Nat) : Int), (1 + ((x.k.toNat % 6 : Nat) : Int)), Req.zero, [], noTag⟩ : Bod).vals none 0) (ls' := (⟨2, ((x.view.toNat % 6 : Nat) : Int), (1 + ((x.k.toNat % 6 : Nat) : Int)), Req.zero, [], noTag⟩ : Bod).vals none 0) rfl rfl rfl (zaa rfl) rfl rfl (Nat.le_refl 76) (by repeat constructor) ?_
   refine gY ?_
   refine H.pd (x := row bb _ _) ?_
   refine H.pd (x := row xb _ _) ?_
   refine H.pf (x := row kb _ _) ?_
   refine H.pf (x := row wb _ _) ?_
   refine H.pf (x := logsH _ _ _) ?_
   refine H.pf (x := row ob _ _) ?_
   exact H.Bb (ls := (⟨2, ((x.view.toNat % 6 : Nat) : Int), (1 + ((x.k.toNat % 6 : Nat) : Int)), Req.zero, [], noTag⟩ : Bod).vals none 0) rfl rfl rfl (Rd.ofRow (.here _ _ _)) rfl (fun _ s => s.drop (.here _ _)) ⟨nil0, none, 0, rfl, QAt.nil _ _, Dj.nil _, (un_nil _).symm, rfl⟩
  ·have hr1 : (!x.raw) = true := by rw [hraw]; rfl
   have hb : x.bodK W n o 1 = (⟨2, (W.l.past o).g, votedZ (W.l.past o) (W.l.past o).g + 1, Req.zero, [], noTag⟩ : Bod) := by simp [A15.bodK, hraw, Bod.zero]
   rw [hb]
   have hvz := votedZ_le hwf (by omega) (W.l.past o).g
   have hvt : ∀ (b : Nat) G, Fn Tryz.prog 61 [.pointer (some ⟨b, 0, none⟩), .int .u64 (W.l.past o).g] f (pstH b (W.l.past o) :: G) (Ret (.tuple #[.int .i64 (votedZ (W.l.past o) (W.l.past o).g), .bool (PM.voted (W.l.past o).all (W.l.past o).g).isSome]) f (pstH b (W.l.past o) :: G)) := fun b G => pst_voted f G b (W.l.past o) (by have := hW.l.il o hol; omega) _
   generalize votedZ (W.l.past o) (W.l.past o).g = vz at hvt hvz ⊢
   refine Fn.e3 Tryz.func78 Tryz.ntmps78 fun base => ?_
   refine gA ?_
   refine H.box (ls := x.vals) rfl rfl rfl rfl fun xb => ?_
   refine H.Ao (ls := (Bod.zero 0).vals none 0) rfl rfl rfl fun ob => ?_
   refine gG ?_
   refine H.rem rfl rfl rfl (by decide) hk6 rfl ?_
   refine gO ?_
   refine H.rem (z := ((x.view.toNat % 6 : Nat) : Int)) rfl rfl rfl (by decide) (zah (b := 6) rfl) rfl ?_
   refine gO ?_
   refine H.rem (z := ((x.k.toNat % 6 : Nat) : Int)) rfl rfl rfl (by decide) (zah (b := 6) rfl) rfl ?_
   repeat (first | (refine H.Av (t := 47) (out := (bodW 2 ((x.view.toNat % 6 : Nat) : Int) (1 + ((x.k.toNat % 6 : Nat) : Int))).vals none 0) rfl rfl rfl (by kernel_rfl) rfl ?_) | ((first | (apply H.ar; (iterate 4 exact rfl)) | (apply H.Bh; (iterate 2 exact rfl))); (with_reducible apply wr_u64; omega); exact rfl))
   refine H.Ao (ls := (Bod.zero 0).vals none 0) rfl rfl rfl fun bb => ?_
   refine H.Ah (ls := (Bod.zero 0).vals none 0) (vs := (bodW 2 ((x.view.toNat % 6 : Nat) : Int) (1 + ((x.k.toNat % 6 : Nat) : Int))).vals none 0) (ls' := (bodW 2 ((x.view.toNat % 6 : Nat) : Int) (1 + ((x.k.toNat % 6 : Nat) : Int))).vals none 0) rfl rfl rfl (zaa rfl) rfl rfl (Nat.le_refl 76) (.here _ _ _) ?_
   refine gN ?_
   refine H.pf (x := row wb _ _) ?_
   refine H.pf (x := logsH _ _ _) ?_
   refine H.Ad rfl rfl rfl (hgr _) ?_
   refine H.pf (x := row xb _ _) ?_
   refine H.pf (x := row bb _ _) ?_
   refine gT ?_
   refine H.pf (x := logsH _ _ _) ?_
   refine H.unpack fun i1 hi1 => ?_
   obtain ⟨V, vp, vc, pp, pc, cp, cc, pb, cs⟩ := i1
   have hiF := hi1.mono hfl
   show H _ _ _ _ _ (row lb 86 (lgC W.l.n W.l.known vp V.length vc pp pc cp cc) :: slc vp V.length vc 129 4 (V.flatMap VV.vals) :: lst (V.map VV.own) :: fam (fun r => pstH (pb r) (W.l.past r)) W.l.n :: slc cp W.l.n cc 171 1 (chRow W.l cs) :: fam (chFam W.l cs) W.l.n :: _) _
   obtain ⟨pbb, poff, hpp0, rdp0⟩ := hiF.past (by show 0 < W.l.n; omega)
   have hpp : pp = some ⟨pbb, poff, none⟩ := hpp0
   have rdp : ∀ {A : List HP} {r : Nat}, r < W.l.n → Rd1 f A pbb (poff + r) (.pointer (some ⟨pb r, 0, none⟩)) := fun {A r} hr => rdp0 (Le.refl f) hr
   clear hpp0 rdp0
   refine H.pf (x := row lb _ _) ?_
   refine gM ?_
   refine H.Aq (b := pbb) (off := poff) (i := o) rfl (by rw [← hpp]; rfl) rfl (by omega) hol rfl ?_
   refine H.Ae rfl rfl rfl (by rw [Nat.mul_one]; exact rdp hol) rfl ?_
   refine gN ?_
   refine H.pf (x := fam (fun r => pstH _ _) _) ?_
   refine H.Cd hol ?_
   refine H.Ad rfl rfl rfl (hvt _ _) ?_
   refine H.Cj (g := fun r => pstH (pb r) (W.l.past r)) hol ?_
   refine H.pf (x := fam (chFam W.l cs) _) ?_
   refine H.pf (x := slc cp _ cc _ _ _) ?_
   refine H.pf (x := fam (fun r => pstH _ _) _) ?_
   refine H.pf (x := lst (V.map VV.own)) ?_
   refine H.pf (x := slc vp _ vc _ _ _) ?_
   refine H.pf (x := row lb _ _) ?_
   refine H.imp (zae ⟨V, vp, vc, pp, pc, cp, cc, pb, cs⟩ hi1) ?_
   refine H.pf (x := row xb _ _) ?_
   refine H.pf (x := row bb _ _) ?_
   refine gT ?_
   refine H.Af (ls := (⟨2, (W.l.past o).g, vz + 1, Req.zero, [], noTag⟩ : Bod).vals none 0) rfl rfl rfl (Rd.ofRow (.here _ _ _)) rfl rfl ?_
   refine H.Ah (ls := (Bod.zero 0).vals none 0) (vs := (⟨2, (W.l.past o).g, vz + 1, Req.zero, [], noTag⟩ : Bod).vals none 0) (ls' := (⟨2, (W.l.past o).g, vz + 1, Req.zero, [], noTag⟩ : Bod).vals none 0) rfl rfl rfl (zaa rfl) rfl rfl (Nat.le_refl 76) (by repeat constructor) ?_
   refine gY ?_
   refine H.pd (x := row bb _ _) ?_
   refine H.pd (x := row xb _ _) ?_
   refine H.pf (x := row kb _ _) ?_
   refine H.pf (x := row wb _ _) ?_
   refine H.pf (x := logsH _ _ _) ?_
   refine H.pf (x := row ob _ _) ?_
   exact H.Bb (ls := (⟨2, (W.l.past o).g, vz + 1, Req.zero, [], noTag⟩ : Bod).vals none 0) rfl rfl rfl (Rd.ofRow (.here _ _ _)) rfl (fun _ s => s.drop (.here _ _)) ⟨nil0, none, 0, rfl, QAt.nil _ _, Dj.nil _, (un_nil _).symm, rfl⟩
 ·have hk6 : ((x.kind.toNat : Nat) : Int).tmod 6 = 2 := zah (b := 6) h
  rw [h]
  rcases Bool.eq_false_or_eq_true x.raw with hraw | hraw
  ·have hr1 : (!x.raw) = false := by rw [hraw]; rfl
   have hb : x.bodK W n o 2 = (⟨3, fix1 (((x.view.toNat % 6 : Nat) : Int)), 0, Req.zero, [], noTag⟩ : Bod) := by simp [A15.bodK, hraw, Bod.zero]
   rw [hb]
   refine Fn.e3 Tryz.func78 Tryz.ntmps78 fun base => ?_
   refine gA ?_
   refine H.box (ls := x.vals) rfl rfl rfl rfl fun xb => ?_
   refine H.Ao (ls := (Bod.zero 0).vals none 0) rfl rfl rfl fun ob => ?_
   refine gG ?_
   refine H.rem rfl rfl rfl (by decide) hk6 rfl ?_
   refine gO ?_
   refine H.rem (z := ((x.view.toNat % 6 : Nat) : Int)) rfl rfl rfl (by decide) (zah (b := 6) rfl) rfl ?_
   refine gO ?_
   refine H.rem (z := ((x.k.toNat % 6 : Nat) : Int)) rfl rfl rfl (by decide) (zah (b := 6) rfl) rfl ?_
   repeat (first | (refine H.Av (t := 47) (out := (bodW 3 ((x.view.toNat % 6 : Nat) : Int) (1 + ((x.k.toNat % 6 : Nat) : Int))).vals none 0) rfl rfl rfl (by kernel_rfl) rfl ?_) | ((first | (apply H.ar; (iterate 4 exact rfl)) | (apply H.Bh; (iterate 2 exact rfl))); (with_reducible apply wr_u64; omega); exact rfl))
   refine H.Ao (ls := (Bod.zero 0).vals none 0) rfl rfl rfl fun bb => ?_
   refine H.Ah (ls := (Bod.zero 0).vals none 0) (vs := (bodW 3 ((x.view.toNat % 6 : Nat) : Int) (1 + ((x.k.toNat % 6 : Nat) : Int))).vals none 0) (ls' := (bodW 3 ((x.view.toNat % 6 : Nat) : Int) (1 + ((x.k.toNat % 6 : Nat) : Int))).vals none 0) rfl rfl rfl (zaa rfl) rfl rfl (Nat.le_refl 76) (.here _ _ _) ?_
   refine gN ?_
   refine H.pf (x := row wb _ _) ?_
   refine H.pf (x := logsH _ _ _) ?_
   refine H.Ad rfl rfl rfl (hgr _) ?_
   refine H.pf (x := row xb _ _) ?_
   refine H.pf (x := row bb _ _) ?_
   by_cases hz : ((x.view.toNat % 6 : Nat) : Int) = 0
   ·rw [show fix1 (((x.view.toNat % 6 : Nat) : Int)) = 1 from if_pos hz]
    refine gT ?_
    refine H.Af (ls := (⟨3, 1, 0, Req.zero, [], noTag⟩ : Bod).vals none 0) rfl rfl rfl (Rd.ofRow (.here _ _ _)) rfl rfl ?_
    refine H.Ah (ls := (Bod.zero 0).vals none 0) (vs := (⟨3, 1, 0, Req.zero, [], noTag⟩ : Bod).vals none 0) (ls' := (⟨3, 1, 0, Req.zero, [], noTag⟩ : Bod).vals none 0) rfl rfl rfl (zaa rfl) rfl rfl (Nat.le_refl 76) (by repeat constructor) ?_
    refine gY ?_
    refine H.pd (x := row bb _ _) ?_
    refine H.pd (x := row xb _ _) ?_
    refine H.pf (x := row kb _ _) ?_
    refine H.pf (x := row wb _ _) ?_
    refine H.pf (x := logsH _ _ _) ?_
    refine H.pf (x := row ob _ _) ?_
    exact H.Bb (ls := (⟨3, 1, 0, Req.zero, [], noTag⟩ : Bod).vals none 0) rfl rfl rfl (Rd.ofRow (.here _ _ _)) rfl (fun _ s => s.drop (.here _ _)) ⟨nil0, none, 0, rfl, QAt.nil _ _, Dj.nil _, (un_nil _).symm, rfl⟩
   ·rw [show fix1 (((x.view.toNat % 6 : Nat) : Int)) = ((x.view.toNat % 6 : Nat) : Int) from if_neg hz]
    refine gT ?_
    refine H.Af (ls := (⟨3, ((x.view.toNat % 6 : Nat) : Int), 0, Req.zero, [], noTag⟩ : Bod).vals none 0) rfl rfl rfl (Rd.ofRow (.here _ _ _)) rfl rfl ?_
    refine H.Ah (ls := (Bod.zero 0).vals none 0) (vs := (⟨3, ((x.view.toNat % 6 : Nat) : Int), 0, Req.zero, [], noTag⟩ : Bod).vals none 0) (ls' := (⟨3, ((x.view.toNat % 6 : Nat) : Int), 0, Req.zero, [], noTag⟩ : Bod).vals none 0) rfl rfl rfl (zaa rfl) rfl rfl (Nat.le_refl 76) (by repeat constructor) ?_
    refine gY ?_
    refine H.pd (x := row bb _ _) ?_
    refine H.pd (x := row xb _ _) ?_
    refine H.pf (x := row kb _ _) ?_
    refine H.pf (x := row wb _ _) ?_
    refine H.pf (x := logsH _ _ _) ?_
    refine H.pf (x := row ob _ _) ?_
    exact H.Bb (ls := (⟨3, ((x.view.toNat % 6 : Nat) : Int), 0, Req.zero, [], noTag⟩ : Bod).vals none 0) rfl rfl rfl (Rd.ofRow (.here _ _ _)) rfl (fun _ s => s.drop (.here _ _)) ⟨nil0, none, 0, rfl, QAt.nil _ _, Dj.nil _, (un_nil _).symm, rfl⟩
  ·have hr1 : (!x.raw) = true := by rw [hraw]; rfl
   have hb : x.bodK W n o 2 = (⟨3, fix1 ((W.l.past o).g + 1 + ((x.view.toNat % 2 : Nat) : Int)), 0, Req.zero, [], noTag⟩ : Bod) := by simp [A15.bodK, hraw, Bod.zero]
   rw [hb]
   rw [show fix1 ((W.l.past o).g + 1 + ((x.view.toNat % 2 : Nat) : Int)) = (W.l.past o).g + 1 + ((x.view.toNat % 2 : Nat) : Int) from if_neg (by omega)]
   refine Fn.e3 Tryz.func78 Tryz.ntmps78 fun base => ?_
   refine gA ?_
   refine H.box (ls := x.vals) rfl rfl rfl rfl fun xb => ?_
   refine H.Ao (ls := (Bod.zero 0).vals none 0) rfl rfl rfl fun ob => ?_
   refine gG ?_
   refine H.rem rfl rfl rfl (by decide) hk6 rfl ?_
   refine gO ?_
   refine H.rem (z := ((x.view.toNat % 6 : Nat) : Int)) rfl rfl rfl (by decide) (zah (b := 6) rfl) rfl ?_
   refine gO ?_
   refine H.rem (z := ((x.k.toNat % 6 : Nat) : Int)) rfl rfl rfl (by decide) (zah (b := 6) rfl) rfl ?_
   repeat (first | (refine H.Av (t := 47) (out := (bodW 3 ((x.view.toNat % 6 : Nat) : Int) (1 + ((x.k.toNat % 6 : Nat) : Int))).vals none 0) rfl rfl rfl (by kernel_rfl) rfl ?_) | ((first | (apply H.ar; (iterate 4 exact rfl)) | (apply H.Bh; (iterate 2 exact rfl))); (with_reducible apply wr_u64; omega); exact rfl))
   refine H.Ao (ls := (Bod.zero 0).vals none 0) rfl rfl rfl fun bb => ?_
   refine H.Ah (ls := (Bod.zero 0).vals none 0) (vs := (bodW 3 ((x.view.toNat % 6 : Nat) : Int) (1 + ((x.k.toNat % 6 : Nat) : Int))).vals none 0) (ls' := (bodW 3 ((x.view.toNat % 6 : Nat) : Int) (1 + ((x.k.toNat % 6 : Nat) : Int))).vals none 0) rfl rfl rfl (zaa rfl) rfl rfl (Nat.le_refl 76) (.here _ _ _) ?_
   refine gN ?_
   refine H.pf (x := row wb _ _) ?_
   refine H.pf (x := logsH _ _ _) ?_
   refine H.Ad rfl rfl rfl (hgr _) ?_
   refine H.pf (x := row xb _ _) ?_
   refine H.pf (x := row bb _ _) ?_
   refine gT ?_
   refine H.rem (z := ((x.view.toNat % 2 : Nat) : Int)) rfl rfl rfl (by decide) (zah (b := 2) rfl) rfl ?_
   refine gT ?_
   refine H.Af (ls := (⟨3, (W.l.past o).g + 1 + ((x.view.toNat % 2 : Nat) : Int), 0, Req.zero, [], noTag⟩ : Bod).vals none 0) rfl rfl rfl (Rd.ofRow (.here _ _ _)) rfl rfl ?_
   refine H.Ah (ls := (Bod.zero 0).vals none 0) (vs := (⟨3, (W.l.past o).g + 1 + ((x.view.toNat % 2 : Nat) : Int), 0, Req.zero, [], noTag⟩ : Bod).vals none 0) (ls' := (⟨3, (W.l.past o).g + 1 + ((x.view.toNat % 2 : Nat) : Int), 0, Req.zero, [], noTag⟩ : Bod).vals none 0) rfl rfl rfl (zaa rfl) rfl rfl (Nat.le_refl 76) (by repeat constructor) ?_
   refine gY ?_
   refine H.pd (x := row bb _ _) ?_
   refine H.pd (x := row xb _ _) ?_
   refine H.pf (x := row kb _ _) ?_
   refine H.pf (x := row wb _ _) ?_
   refine H.pf (x := logsH _ _ _) ?_
   refine H.pf (x := row ob _ _) ?_
   exact H.Bb (ls := (⟨3, (W.l.past o).g + 1 + ((x.view.toNat % 2 : Nat) : Int), 0, Req.zero, [], noTag⟩ : Bod).vals none 0) rfl rfl rfl (Rd.ofRow (.here _ _ _)) rfl (fun _ s => s.drop (.here _ _)) ⟨nil0, none, 0, rfl, QAt.nil _ _, Dj.nil _, (un_nil _).symm, rfl⟩
 ·have hk6 : ((x.kind.toNat : Nat) : Int).tmod 6 = 3 := zah (b := 6) h
  rw [h]
  have hq15 := fun G => q15_fn f G hfl (wb := wb) (kb := kb) (lb := lb) (l := W.l) hW.l hT (ap := ap) (m := m) (ac := ac) hnn ho (kv := W.w.kv) hx hq20 (W.l.past o).g
  rcases Bool.eq_false_or_eq_true x.raw with hraw | hraw
  ·have hr1 : (!x.raw) = false := by rw [hraw]; rfl
   have hb : x.bodK W n o 3 = (⟨4, fix1 (((x.view.toNat % 6 : Nat) : Int)), 0, Req.zero, x.qs n W.l.ch (W.w.kv o) (W.l.past o).g, noTag⟩ : Bod) := by simp [A15.bodK, hraw, Bod.zero]
   rw [hb]
   generalize x.qs n W.l.ch (W.w.kv o) (W.l.past o).g = Q at hq15 ⊢
   refine Fn.e3 Tryz.func78 Tryz.ntmps78 fun base => ?_
   refine gA ?_
   refine H.box (ls := x.vals) rfl rfl rfl rfl fun xb => ?_
   refine H.Ao (ls := (Bod.zero 0).vals none 0) rfl rfl rfl fun ob => ?_
   refine gG ?_
   refine H.rem rfl rfl rfl (by decide) hk6 rfl ?_
   refine gO ?_
   refine H.rem (z := ((x.view.toNat % 6 : Nat) : Int)) rfl rfl rfl (by decide) (zah (b := 6) rfl) rfl ?_
   refine gO ?_
   refine H.rem (z := ((x.k.toNat % 6 : Nat) : Int)) rfl rfl rfl (by decide) (zah (b := 6) rfl) rfl ?_
   repeat (first | (refine H.Av (t := 47) (out := (bodW 4 ((x.view.toNat % 6 : Nat) : Int) (1 + ((x.k.toNat % 6 : Nat) : Int))).vals none 0) rfl rfl rfl (by kernel_rfl) rfl ?_) | ((first | (apply H.ar; (iterate 4 exact rfl)) | (apply H.Bh; (iterate 2 exact rfl))); (with_reducible apply wr_u64; omega); exact rfl))
   refine H.Ao (ls := (Bod.zero 0).vals none 0) rfl rfl rfl fun bb => ?_
   refine H.Ah (ls := (Bod.zero 0).vals none 0) (vs := (bodW 4 ((x.view.toNat % 6 : Nat) : Int) (1 + ((x.k.toNat % 6 : Nat) : Int))).vals none 0) (ls' := (bodW 4 ((x.view.toNat % 6 : Nat) : Int) (1 + ((x.k.toNat % 6 : Nat) : Int))).vals none 0) rfl rfl rfl (zaa rfl) rfl rfl (Nat.le_refl 76) (.here _ _ _) ?_
   refine gN ?_
   refine H.pf (x := row wb _ _) ?_
   refine H.pf (x := logsH _ _ _) ?_
   refine H.Ad rfl rfl rfl (hgr _) ?_
   refine H.pf (x := row xb _ _) ?_
   refine H.pf (x := row bb _ _) ?_
   refine gL ?_
   refine H.Af (ls := x.vals) rfl rfl rfl (Rd.ofRow (.there _ (.here _ _ _))) rfl rfl ?_
   refine gN ?_
   refine H.pf (x := row kb _ _) ?_
   refine H.pf (x := row wb _ _) ?_
   refine H.pf (x := logsH _ _ _) ?_
   refine H.callE rfl rfl rfl (hq15 _) fun qi => ?_
   obtain ⟨qp, qc⟩ := qi
   refine H.freeze (.here _ _) fun g hg hd => ?_
   have hqa : QAt (un f g) qp Q := ListAt.mono (vals := pairV) (Le.right hd) (slc_listAt (vals := pairV) (fun _ => rfl) hg)
   refine H.pf (x := row xb _ _) ?_
   refine H.pf (x := row bb _ _) ?_
   by_cases hz : ((x.view.toNat % 6 : Nat) : Int) = 0
   ·rw [show fix1 (((x.view.toNat % 6 : Nat) : Int)) = 1 from if_pos hz]
    refine gT ?_
    refine H.Af (ls := (⟨4, 1, 0, Req.zero, Q, noTag⟩ : Bod).vals qp qc) rfl rfl rfl (Rd.ofRow (.here _ _ _)) rfl rfl ?_
    refine H.Ah (ls := (Bod.zero 0).vals none 0) (vs := (⟨4, 1, 0, Req.zero, Q, noTag⟩ : Bod).vals qp qc) (ls' := (⟨4, 1, 0, Req.zero, Q, noTag⟩ : Bod).vals qp qc) rfl rfl rfl (zaa rfl) rfl rfl (Nat.le_refl 76) (by repeat constructor) ?_
    refine gY ?_
    refine H.pd (x := row bb _ _) ?_
    refine H.pd (x := row xb _ _) ?_
    refine H.pf (x := row kb _ _) ?_
    refine H.pf (x := row wb _ _) ?_
    refine H.pf (x := logsH _ _ _) ?_
    refine H.pf (x := row ob _ _) ?_
    exact H.Bb (ls := (⟨4, 1, 0, Req.zero, Q, noTag⟩ : Bod).vals qp qc) rfl rfl rfl (Rd.ofRow (.here _ _ _)) rfl (fun _ s => s.drop (.here _ _)) ⟨g, qp, qc, rfl, hqa, hd, rfl, rfl⟩
   ·rw [show fix1 (((x.view.toNat % 6 : Nat) : Int)) = ((x.view.toNat % 6 : Nat) : Int) from if_neg hz]
    refine gT ?_
    refine H.Af (ls := (⟨4, ((x.view.toNat % 6 : Nat) : Int), 0, Req.zero, Q, noTag⟩ : Bod).vals qp qc) rfl rfl rfl (Rd.ofRow (.here _ _ _)) rfl rfl ?_
    refine H.Ah (ls := (Bod.zero 0).vals none 0) (vs := (⟨4, ((x.view.toNat % 6 : Nat) : Int), 0, Req.zero, Q, noTag⟩ : Bod).vals qp qc) (ls' := (⟨4, ((x.view.toNat % 6 : Nat) : Int), 0, Req.zero, Q, noTag⟩ : Bod).vals qp qc) rfl rfl rfl (zaa rfl) rfl rfl (Nat.le_refl 76) (by repeat constructor) ?_
    refine gY ?_
    refine H.pd (x := row bb _ _) ?_
    refine H.pd (x := row xb _ _) ?_
    refine H.pf (x := row kb _ _) ?_
    refine H.pf (x := row wb _ _) ?_
    refine H.pf (x := logsH _ _ _) ?_
    refine H.pf (x := row ob _ _) ?_
    exact H.Bb (ls := (⟨4, ((x.view.toNat % 6 : Nat) : Int), 0, Req.zero, Q, noTag⟩ : Bod).vals qp qc) rfl rfl rfl (Rd.ofRow (.here _ _ _)) rfl (fun _ s => s.drop (.here _ _)) ⟨g, qp, qc, rfl, hqa, hd, rfl, rfl⟩
  ·have hr1 : (!x.raw) = true := by rw [hraw]; rfl
   have hb : x.bodK W n o 3 = (⟨4, fix1 ((W.l.past o).g), 0, Req.zero, x.qs n W.l.ch (W.w.kv o) (W.l.past o).g, noTag⟩ : Bod) := by simp [A15.bodK, hraw, Bod.zero]
   rw [hb]
   generalize x.qs n W.l.ch (W.w.kv o) (W.l.past o).g = Q at hq15 ⊢
   refine Fn.e3 Tryz.func78 Tryz.ntmps78 fun base => ?_
   refine gA ?_
   refine H.box (ls := x.vals) rfl rfl rfl rfl fun xb => ?_
   refine H.Ao (ls := (Bod.zero 0).vals none 0) rfl rfl rfl fun ob => ?_
   refine gG ?_
   refine H.rem rfl rfl rfl (by decide) hk6 rfl ?_
   refine gO ?_
   refine H.rem (z := ((x.view.toNat % 6 : Nat) : Int)) rfl rfl rfl (by decide) (zah (b := 6) rfl) rfl ?_
   refine gO ?_
   refine H.rem (z := ((x.k.toNat % 6 : Nat) : Int)) rfl rfl rfl (by decide) (zah (b := 6) rfl) rfl ?_
   repeat (first | (refine H.Av (t := 47) (out := (bodW 4 ((x.view.toNat % 6 : Nat) : Int) (1 + ((x.k.toNat % 6 : Nat) : Int))).vals none 0) rfl rfl rfl (by kernel_rfl) rfl ?_) | ((first | (apply H.ar; (iterate 4 exact rfl)) | (apply H.Bh; (iterate 2 exact rfl))); (with_reducible apply wr_u64; omega); exact rfl))
   refine H.Ao (ls := (Bod.zero 0).vals none 0) rfl rfl rfl fun bb => ?_
   refine H.Ah (ls := (Bod.zero 0).vals none 0) (vs := (bodW 4 ((x.view.toNat % 6 : Nat) : Int) (1 + ((x.k.toNat % 6 : Nat) : Int))).vals none 0) (ls' := (bodW 4 ((x.view.toNat % 6 : Nat) : Int) (1 + ((x.k.toNat % 6 : Nat) : Int))).vals none 0) rfl rfl rfl (zaa rfl) rfl rfl (Nat.le_refl 76) (.here _ _ _) ?_
   refine gN ?_
   refine H.pf (x := row wb _ _) ?_
   refine H.pf (x := logsH _ _ _) ?_
   refine H.Ad rfl rfl rfl (hgr _) ?_
   refine H.pf (x := row xb _ _) ?_
   refine H.pf (x := row bb _ _) ?_
   refine gL ?_
   refine H.Af (ls := x.vals) rfl rfl rfl (Rd.ofRow (.there _ (.here _ _ _))) rfl rfl ?_
   refine gN ?_
   refine H.pf (x := row kb _ _) ?_
   refine H.pf (x := row wb _ _) ?_
   refine H.pf (x := logsH _ _ _) ?_
   refine H.callE rfl rfl rfl (hq15 _) fun qi => ?_
   obtain ⟨qp, qc⟩ := qi
   refine H.freeze (.here _ _) fun g hg hd => ?_
   have hqa : QAt (un f g) qp Q := ListAt.mono (vals := pairV) (Le.right hd) (slc_listAt (vals := pairV) (fun _ => rfl) hg)
   refine H.pf (x := row xb _ _) ?_
   refine H.pf (x := row bb _ _) ?_
   by_cases hz : (W.l.past o).g = 0
   ·rw [show fix1 ((W.l.past o).g) = 1 from if_pos hz]
    refine gT ?_
    refine H.Af (ls := (⟨4, 1, 0, Req.zero, Q, noTag⟩ : Bod).vals qp qc) rfl rfl rfl (Rd.ofRow (.here _ _ _)) rfl rfl ?_
    refine H.Ah (ls := (Bod.zero 0).vals none 0) (vs := (⟨4, 1, 0, Req.zero, Q, noTag⟩ : Bod).vals qp qc) (ls' := (⟨4, 1, 0, Req.zero, Q, noTag⟩ : Bod).vals qp qc) rfl rfl rfl (zaa rfl) rfl rfl (Nat.le_refl 76) (by repeat constructor) ?_
    refine gY ?_
    refine H.pd (x := row bb _ _) ?_
    refine H.pd (x := row xb _ _) ?_
    refine H.pf (x := row kb _ _) ?_
    refine H.pf (x := row wb _ _) ?_
    refine H.pf (x := logsH _ _ _) ?_
    refine H.pf (x := row ob _ _) ?_
    exact H.Bb (ls := (⟨4, 1, 0, Req.zero, Q, noTag⟩ : Bod).vals qp qc) rfl rfl rfl (Rd.ofRow (.here _ _ _)) rfl (fun _ s => s.drop (.here _ _)) ⟨g, qp, qc, rfl, hqa, hd, rfl, rfl⟩
   ·rw [show fix1 ((W.l.past o).g) = (W.l.past o).g from if_neg hz]
    refine gT ?_
    refine H.Af (ls := (⟨4, (W.l.past o).g, 0, Req.zero, Q, noTag⟩ : Bod).vals qp qc) rfl rfl rfl (Rd.ofRow (.here _ _ _)) rfl rfl ?_
    refine H.Ah (ls := (Bod.zero 0).vals none 0) (vs := (⟨4, (W.l.past o).g, 0, Req.zero, Q, noTag⟩ : Bod).vals qp qc) (ls' := (⟨4, (W.l.past o).g, 0, Req.zero, Q, noTag⟩ : Bod).vals qp qc) rfl rfl rfl (zaa rfl) rfl rfl (Nat.le_refl 76) (by repeat constructor) ?_
    refine gY ?_
    refine H.pd (x := row bb _ _) ?_
    refine H.pd (x := row xb _ _) ?_
    refine H.pf (x := row kb _ _) ?_
    refine H.pf (x := row wb _ _) ?_
    refine H.pf (x := logsH _ _ _) ?_
    refine H.pf (x := row ob _ _) ?_
    exact H.Bb (ls := (⟨4, (W.l.past o).g, 0, Req.zero, Q, noTag⟩ : Bod).vals qp qc) rfl rfl rfl (Rd.ofRow (.here _ _ _)) rfl (fun _ s => s.drop (.here _ _)) ⟨g, qp, qc, rfl, hqa, hd, rfl, rfl⟩
 ·have hk6 : ((x.kind.toNat : Nat) : Int).tmod 6 = 4 := zah (b := 6) h
  rw [h]
  rcases Bool.eq_false_or_eq_true x.raw with hraw | hraw
  ·have hr1 : (!x.raw) = false := by rw [hraw]; rfl
   have hb : x.bodK W n o 4 = (⟨5, fix1 (((x.view.toNat % 6 : Nat) : Int)), 0, Req.zero, [], noTag⟩ : Bod) := by simp [A15.bodK, hraw, Bod.zero]
   rw [hb]
   refine Fn.e3 Tryz.func78 Tryz.ntmps78 fun base => ?_
   refine gA ?_
   refine H.box (ls := x.vals) rfl rfl rfl rfl fun xb => ?_
   refine H.Ao (ls := (Bod.zero 0).vals none 0) rfl rfl rfl fun ob => ?_
   refine gG ?_
   refine H.rem rfl rfl rfl (by decide) hk6 rfl ?_
   refine gO ?_
   refine H.rem (z := ((x.view.toNat % 6 : Nat) : Int)) rfl rfl rfl (by decide) (zah (b := 6) rfl) rfl ?_
   refine gO ?_
   refine H.rem (z := ((x.k.toNat % 6 : Nat) : Int)) rfl rfl rfl (by decide) (zah (b := 6) rfl) rfl ?_
   repeat (first | (refine H.Av (t := 47) (out := (bodW 5 ((x.view.toNat % 6 : Nat) : Int) (1 + ((x.k.toNat % 6 : Nat) : Int))).vals none 0) rfl rfl rfl (by kernel_rfl) rfl ?_) | ((first | (apply H.ar; (iterate 4 exact rfl)) | (apply H.Bh; (iterate 2 exact rfl))); (with_reducible apply wr_u64; omega); exact rfl))
   refine H.Ao (ls := (Bod.zero 0).vals none 0) rfl rfl rfl fun bb => ?_
   refine H.Ah (ls := (Bod.zero 0).vals none 0) (vs := (bodW 5 ((x.view.toNat % 6 : Nat) : Int) (1 + ((x.k.toNat % 6 : Nat) : Int))).vals none 0) (ls' := (bodW 5 ((x.view.toNat % 6 : Nat) : Int) (1 + ((x.k.toNat % 6 : Nat) : Int))).vals none 0) rfl rfl rfl (zaa rfl) rfl rfl (Nat.le_refl 76) (.here _ _ _) ?_
   refine gN ?_
   refine H.pf (x := row wb _ _) ?_
   refine H.pf (x := logsH _ _ _) ?_
   refine H.Ad rfl rfl rfl (hgr _) ?_
   refine H.pf (x := row xb _ _) ?_
   refine H.pf (x := row bb _ _) ?_
   by_cases hz : ((x.view.toNat % 6 : Nat) : Int) = 0
   ·rw [show fix1 (((x.view.toNat % 6 : Nat) : Int)) = 1 from if_pos hz]
    refine gT ?_
    refine H.Af (ls := (⟨5, 1, 0, Req.zero, [], noTag⟩ : Bod).vals none 0) rfl rfl rfl (Rd.ofRow (.here _ _ _)) rfl rfl ?_
    refine H.Ah (ls := (Bod.zero 0).vals none 0) (vs := (⟨5, 1, 0, Req.zero, [], noTag⟩ : Bod).vals none 0) (ls' := (⟨5, 1, 0, Req.zero, [], noTag⟩ : Bod).vals none 0) rfl rfl rfl (zaa rfl) rfl rfl (Nat.le_refl 76) (by repeat constructor) ?_
    refine gY ?_
    refine H.pd (x := row bb _ _) ?_
    refine H.pd (x := row xb _ _) ?_
    refine H.pf (x := row kb _ _) ?_
    refine H.pf (x := row wb _ _) ?_
    refine H.pf (x := logsH _ _ _) ?_
    refine H.pf (x := row ob _ _) ?_
    exact H.Bb (ls := (⟨5, 1, 0, Req.zero, [], noTag⟩ : Bod).vals none 0) rfl rfl rfl (Rd.ofRow (.here _ _ _)) rfl (fun _ s => s.drop (.here _ _)) ⟨nil0, none, 0, rfl, QAt.nil _ _, Dj.nil _, (un_nil _).symm, rfl⟩
   ·rw [show fix1 (((x.view.toNat % 6 : Nat) : Int)) = ((x.view.toNat % 6 : Nat) : Int) from if_neg hz]
    refine gT ?_
    refine H.Af (ls := (⟨5, ((x.view.toNat % 6 : Nat) : Int), 0, Req.zero, [], noTag⟩ : Bod).vals none 0) rfl rfl rfl (Rd.ofRow (.here _ _ _)) rfl rfl ?_
    refine H.Ah (ls := (Bod.zero 0).vals none 0) (vs := (⟨5, ((x.view.toNat % 6 : Nat) : Int), 0, Req.zero, [], noTag⟩ : Bod).vals none 0) (ls' := (⟨5, ((x.view.toNat % 6 : Nat) : Int), 0, Req.zero, [], noTag⟩ : Bod).vals none 0) rfl rfl rfl (zaa rfl) rfl rfl (Nat.le_refl 76) (by repeat constructor) ?_
    refine gY ?_
    refine H.pd (x := row bb _ _) ?_
    refine H.pd (x := row xb _ _) ?_
    refine H.pf (x := row kb _ _) ?_
    refine H.pf (x := row wb _ _) ?_
    refine H.pf (x := logsH _ _ _) ?_
    refine H.pf (x := row ob _ _) ?_
    exact H.Bb (ls := (⟨5, ((x.view.toNat % 6 : Nat) : Int), 0, Req.zero, [], noTag⟩ : Bod).vals none 0) rfl rfl rfl (Rd.ofRow (.here _ _ _)) rfl (fun _ s => s.drop (.here _ _)) ⟨nil0, none, 0, rfl, QAt.nil _ _, Dj.nil _, (un_nil _).symm, rfl⟩
  ·have hr1 : (!x.raw) = true := by rw [hraw]; rfl
   have hb : x.bodK W n o 4 = (⟨5, fix1 (lastV W.l.vs), 0, Req.zero, [], noTag⟩ : Bod) := by simp [A15.bodK, hraw, Bod.zero]
   rw [hb]
   refine Fn.e3 Tryz.func78 Tryz.ntmps78 fun base => ?_
   refine gA ?_
   refine H.box (ls := x.vals) rfl rfl rfl rfl fun xb => ?_
   refine H.Ao (ls := (Bod.zero 0).vals none 0) rfl rfl rfl fun ob => ?_
   refine gG ?_
   refine H.rem rfl rfl rfl (by decide) hk6 rfl ?_
   refine gO ?_
   refine H.rem (z := ((x.view.toNat % 6 : Nat) : Int)) rfl rfl rfl (by decide) (zah (b := 6) rfl) rfl ?_
   refine gO ?_
   refine H.rem (z := ((x.k.toNat % 6 : Nat) : Int)) rfl rfl rfl (by decide) (zah (b := 6) rfl) rfl ?_
   repeat (first | (refine H.Av (t := 47) (out := (bodW 5 ((x.view.toNat % 6 : Nat) : Int) (1 + ((x.k.toNat % 6 : Nat) : Int))).vals none 0) rfl rfl rfl (by kernel_rfl) rfl ?_) | ((first | (apply H.ar; (iterate 4 exact rfl)) | (apply H.Bh; (iterate 2 exact rfl))); (with_reducible apply wr_u64; omega); exact rfl))
   refine H.Ao (ls := (Bod.zero 0).vals none 0) rfl rfl rfl fun bb => ?_
   refine H.Ah (ls := (Bod.zero 0).vals none 0) (vs := (bodW 5 ((x.view.toNat % 6 : Nat) : Int) (1 + ((x.k.toNat % 6 : Nat) : Int))).vals none 0) (ls' := (bodW 5 ((x.view.toNat % 6 : Nat) : Int) (1 + ((x.k.toNat % 6 : Nat) : Int))).vals none 0) rfl rfl rfl (zaa rfl) rfl rfl (Nat.le_refl 76) (.here _ _ _) ?_
   refine gN ?_
   refine H.pf (x := row wb _ _) ?_
   refine H.pf (x := logsH _ _ _) ?_
   refine H.Ad rfl rfl rfl (hgr _) ?_
   refine H.pf (x := row xb _ _) ?_
   refine H.pf (x := row bb _ _) ?_
   refine H.pf (x := logsH _ _ _) ?_
   refine H.unpack fun i1 hi1 => ?_
   obtain ⟨V, vp, vc, pp, pc, cp, cc, pb, cs⟩ := i1
   have hiF := hi1.mono hfl
   show H _ _ _ _ _ (row lb 86 (lgC W.l.n W.l.known vp V.length vc pp pc cp cc) :: slc vp V.length vc 129 4 (V.flatMap VV.vals) :: lst (V.map VV.own) :: fam (fun r => pstH (pb r) (W.l.past r)) W.l.n :: slc cp W.l.n cc 171 1 (chRow W.l cs) :: fam (chFam W.l cs) W.l.n :: _) _
   have hvs : V.map VV.w = W.l.vs := hi1.vs
   have hVl : V.length = W.l.vs.length := hi1.len
   have hvl := hW.l.vl
   have hV0 : 0 < V.length := by
    obtain ⟨w0, hw0, _⟩ := hW.l.zero
    rw [hVl]
    exact List.length_pos_of_mem hw0
   obtain ⟨X, hX⟩ : ∃ X, V[V.length - 1]? = some X := ⟨_, List.getElem?_eq_getElem (by omega)⟩
   have hXv : lastV W.l.vs = X.w.v := by
    unfold lastV
    rw [← hVl, ← hvs, List.getElem?_map, hX]
    rfl
   rw [hXv]
   refine H.Bm (p := vp) (n0 := V.length) (c := vc) (T := 129) (sz := 4) (xs := V.flatMap VV.vals) (by repeat constructor) (by omega) fun vb hvb => ?_
   refine H.pf (x := row xb _ _) ?_
   refine H.pf (x := row bb _ _) ?_
   refine gT ?_
   refine H.pf (x := slc vp _ vc _ _ _) ?_
   refine H.pf (x := row lb _ _) ?_
   refine H.pf (x := row wb _ _) ?_
   refine H.dc [0, 1, 2, 3, 4, 5, 6, 7, 8, 9, 10, 11, 12, 13, 14, 15, 16, 17, 18] (S := [_, _, _]) rfl ?_
   refine HB.qu [0,1,2,3,4,5,6,7,8,9,10,11,12,13,14,15,16,17,18] 2 ?_
   refine gc ?_
   refine HQ.Aq (b := vb) (off := 0) (i := V.length - 1) rfl (by rw [← hvb]; rfl) rfl (show ((V.length : Int) - 1) = ((V.length - 1 : Nat) : Int) by omega) (show V.length - 1 < V.length by omega) rfl ?_
   refine gU ?_
   refine HQ.Ae rfl rfl rfl (Rd1.of (i := 0) (by rw [Nat.zero_add]; exact Rd.slcElem (n := V.length) (c := vc) (T := 129) (xs := V) VV.len (by decide) (by rw [← hvb]; exact .there _ (.there _ (.here _ _ _))) hX) rfl) rfl ?_
   refine HQ.Aa rfl ?_
   refine HB.nx [] (S' := []) rfl ?_
   refine HB.qu [19] 1 ?_
   refine gU ?_
   refine HQ.Aa rfl ?_
   refine HB.ev 20 ?_
   refine H.pf (x := row bb _ _) ?_
   refine H.Be (ls := (bodW 5 ((x.view.toNat % 6 : Nat) : Int) 0).vals none 0) (ls' := (bodW 5 X.w.v 0).vals none 0) rfl rfl rfl rfl (.here _ _ _) (.there _ (.here _ _ _)) ?_
   refine gA ?_
   refine H.on0 rfl ?_
   refine HB.dn ?_
   refine H.pf (x := fam (chFam W.l cs) _) ?_
   refine H.pf (x := slc cp _ cc _ _ _) ?_
   refine H.pf (x := fam (fun r => pstH _ _) _) ?_
   refine H.pf (x := lst (V.map VV.own)) ?_
   refine H.pf (x := slc vp _ vc _ _ _) ?_
   refine H.pf (x := row lb _ _) ?_
   refine H.imp (zae ⟨V, vp, vc, pp, pc, cp, cc, pb, cs⟩ hi1) ?_
   refine H.pf (x := row xb _ _) ?_
   refine H.pf (x := row bb _ _) ?_
   by_cases hz : X.w.v = 0
   ·rw [show fix1 (X.w.v) = 1 from if_pos hz]
    refine gT ?_
    refine H.Af (ls := (⟨5, 1, 0, Req.zero, [], noTag⟩ : Bod).vals none 0) rfl rfl rfl (Rd.ofRow (.here _ _ _)) rfl rfl ?_
    refine H.Ah (ls := (Bod.zero 0).vals none 0) (vs := (⟨5, 1, 0, Req.zero, [], noTag⟩ : Bod).vals none 0) (ls' := (⟨5, 1, 0, Req.zero, [], noTag⟩ : Bod).vals none 0) rfl rfl rfl (zaa rfl) rfl rfl (Nat.le_refl 76) (by repeat constructor) ?_
    refine gY ?_
    refine H.pd (x := row bb _ _) ?_
    refine H.pd (x := row xb _ _) ?_
    refine H.pf (x := row kb _ _) ?_
    refine H.pf (x := row wb _ _) ?_
    refine H.pf (x := logsH _ _ _) ?_
    refine H.pf (x := row ob _ _) ?_
    exact H.Bb (ls := (⟨5, 1, 0, Req.zero, [], noTag⟩ : Bod).vals none 0) rfl rfl rfl (Rd.ofRow (.here _ _ _)) rfl (fun _ s => s.drop (.here _ _)) ⟨nil0, none, 0, rfl, QAt.nil _ _, Dj.nil _, (un_nil _).symm, rfl⟩
   ·rw [show fix1 (X.w.v) = X.w.v from if_neg hz]
    refine ga ?_
    refine H.Af (ls := (⟨5, X.w.v, 0, Req.zero, [], noTag⟩ : Bod).vals none 0) rfl rfl rfl (Rd.ofRow (.here _ _ _)) rfl rfl ?_
    refine H.Ah (ls := (Bod.zero 0).vals none 0) (vs := (⟨5, X.w.v, 0, Req.zero, [], noTag⟩ : Bod).vals none 0) (ls' := (⟨5, X.w.v, 0, Req.zero, [], noTag⟩ : Bod).vals none 0) rfl rfl rfl (zaa rfl) rfl rfl (Nat.le_refl 76) (by repeat constructor) ?_
    refine gY ?_
    refine H.pd (x := row bb _ _) ?_
    refine H.pd (x := row xb _ _) ?_
    refine H.pf (x := row kb _ _) ?_
    refine H.pf (x := row wb _ _) ?_
    refine H.pf (x := logsH _ _ _) ?_
    refine H.pf (x := row ob _ _) ?_
    exact H.Bb (ls := (⟨5, X.w.v, 0, Req.zero, [], noTag⟩ : Bod).vals none 0) rfl rfl rfl (Rd.ofRow (.here _ _ _)) rfl (fun _ s => s.drop (.here _ _)) ⟨nil0, none, 0, rfl, QAt.nil _ _, Dj.nil _, (un_nil _).symm, rfl⟩
 ·have hk6 : ((x.kind.toNat : Nat) : Int).tmod 6 = 5 := zah (b := 6) h
  rw [h]
  show Fn _ _ _ f _ (BodP f _ (⟨6, 0, (1 + ((x.k.toNat % 6 : Nat) : Int)), Req.zero, [], dig0 x.key⟩ : Bod))
  refine Fn.e3 Tryz.func78 Tryz.ntmps78 fun base => ?_
  refine gA ?_
  refine H.box (ls := x.vals) rfl rfl rfl rfl fun xb => ?_
  refine H.Ao (ls := (Bod.zero 0).vals none 0) rfl rfl rfl fun ob => ?_
  refine gG ?_
  refine H.rem rfl rfl rfl (by decide) hk6 rfl ?_
  refine gO ?_
  refine H.rem (z := ((x.view.toNat % 6 : Nat) : Int)) rfl rfl rfl (by decide) (zah (b := 6) rfl) rfl ?_
  refine gO ?_
  refine H.rem (z := ((x.k.toNat % 6 : Nat) : Int)) rfl rfl rfl (by decide) (zah (b := 6) rfl) rfl ?_
  repeat (first | (refine H.Av (t := 47) (out := (bodW 6 ((x.view.toNat % 6 : Nat) : Int) (1 + ((x.k.toNat % 6 : Nat) : Int))).vals none 0) rfl rfl rfl (by kernel_rfl) rfl ?_) | ((first | (apply H.ar; (iterate 4 exact rfl)) | (apply H.Bh; (iterate 2 exact rfl))); (with_reducible apply wr_u64; omega); exact rfl))
  refine H.Ao (ls := (Bod.zero 0).vals none 0) rfl rfl rfl fun bb => ?_
  refine H.Ah (ls := (Bod.zero 0).vals none 0) (vs := (bodW 6 ((x.view.toNat % 6 : Nat) : Int) (1 + ((x.k.toNat % 6 : Nat) : Int))).vals none 0) (ls' := (bodW 6 ((x.view.toNat % 6 : Nat) : Int) (1 + ((x.k.toNat % 6 : Nat) : Int))).vals none 0) rfl rfl rfl (zaa rfl) rfl rfl (Nat.le_refl 76) (.here _ _ _) ?_
  refine gN ?_
  refine H.pf (x := row wb _ _) ?_
  refine H.pf (x := logsH _ _ _) ?_
  refine H.Ad rfl rfl rfl (hgr _) ?_
  refine H.pf (x := row xb _ _) ?_
  refine H.pf (x := row bb _ _) ?_
  refine gL ?_
  refine H.Aw (i := 0) rfl rfl rfl rfl (by decide) rfl ?_
  refine gZ ?_
  refine H.Af (ls := (⟨6, 0, (1 + ((x.k.toNat % 6 : Nat) : Int)), Req.zero, [], dig0 x.key⟩ : Bod).vals none 0) rfl rfl rfl (Rd.ofRow (.here _ _ _)) rfl rfl ?_
  refine H.Ah (ls := (Bod.zero 0).vals none 0) (vs := (⟨6, 0, (1 + ((x.k.toNat % 6 : Nat) : Int)), Req.zero, [], dig0 x.key⟩ : Bod).vals none 0) (ls' := (⟨6, 0, (1 + ((x.k.toNat % 6 : Nat) : Int)), Req.zero, [], dig0 x.key⟩ : Bod).vals none 0) rfl rfl rfl (zaa rfl) rfl rfl (Nat.le_refl 76) (by repeat constructor) ?_
  refine gY ?_
  refine H.pd (x := row bb _ _) ?_
  refine H.pd (x := row xb _ _) ?_
  refine H.pf (x := row kb _ _) ?_
  refine H.pf (x := row wb _ _) ?_
  refine H.pf (x := logsH _ _ _) ?_
  refine H.pf (x := row ob _ _) ?_
  exact H.Bb (ls := (⟨6, 0, (1 + ((x.k.toNat % 6 : Nat) : Int)), Req.zero, [], dig0 x.key⟩ : Bod).vals none 0) rfl rfl rfl (Rd.ofRow (.here _ _ _)) rfl (fun _ s => s.drop (.here _ _)) ⟨nil0, none, 0, rfl, QAt.nil _ _, Dj.nil _, (un_nil _).symm, rfl⟩
end
structure W15P where
 kb : Nat
 lb : Nat
 ap : Option Addr
 ac : Nat
 l : List MV
def w15φ (e : Frag) (W : W15) (i : W15P) : Prop := i.l.map MV.m = W.w.all ∧ ∀ y ∈ i.l, y.Good e
def w15B (e : Frag) (wb n : Nat) (W : W15) (i : W15P) : List HP := [row wb 37 (w15C i.kb n i.ap i.l.length i.ac i.lb), row i.kb 39 (kRow n W.w.kv), slc i.ap i.l.length i.ac 49 121 (i.l.flatMap MV.vals), logsH e i.lb W.l]
def wH15 (e : Frag) (wb n : Nat) (W : W15) : HP := pack (w15φ e W) (w15B e wb n W)
theorem w15_fold {e : Frag} {F : List HP} {wb n : Nat} {W : W15} (i : W15P) (h : w15φ e W i) : ∀ x, stars (w15B e wb n W i ++ F) x → stars (wH15 e wb n W :: F) x := fun x hx => pack_fold (φ := w15φ e W) (B := w15B e wb n W) i h x hx
theorem w15_mono {f g : Frag} (h : Le f g) {wb n : Nat} {W : W15} : ∀ x, wH15 f wb n W x → wH15 g wb n W x := fun _ ⟨i, hi, hx⟩ => ⟨i, ⟨hi.1, fun y hy => (hi.2 y hy).mono h⟩, by
 obtain ⟨m1, m2, d1, e1, a1, m3, m4, d2, e2, a2, m5, m6, d3, e3, a3, m7, m8, d4, e4, a4, r4⟩ := hx
 exact ⟨m1, m2, d1, e1, a1, m3, m4, d2, e2, a2, m5, m6, d3, e3, a3, m7, m8, d4, e4, logsH_mono h _ a4, r4⟩⟩
theorem w15_up {f g : Frag} (h : Le f g) {wb n : Nat} {W : W15} {A : List HP} : ∀ x, stars (wH15 f wb n W :: A) x → stars (wH15 g wb n W :: A) x := fun _ ⟨h1, h2, hd, he, ha, hr⟩ => ⟨h1, h2, hd, he, w15_mono h _ ha, hr⟩
def DoP (f : Frag) (F : List HP) (wb n : Nat) (W : W15) : Value → Frag → List HP → Prop := fun v f' A' => ∃ (g : Frag) (u : Value), Dj f g ∧ v = u ∧ f' = un f g ∧ A' = wH15 f' wb n W :: F
section
variable (f : Frag) (F : List HP)
set_option maxRecDepth 20000 in
set_option maxHeartbeats 3200000 in
theorem do_fn {fl : Frag} (hfl : Le fl f) {wb n : Nat} {W : W15} {T : Nat} (hn3 : 3 ≤ n ∧ n ≤ 11) (hW : WI n W T) (hT : T ≤ 900) (hal : W.w.all.length ≤ 900) {x : A15} (hx : x.Has f) (hq20 : x.q.length ≤ 20) :
  Fn Tryz.prog 45 [.pointer (some ⟨wb, 0, none⟩), .agg x.vals.toArray] f (wH15 fl wb n W :: F) (DoP f F wb n (W.act n x)) := by
 refine Fn.unpack fun i0 hi => ?_
 obtain ⟨kb, lb, ap, ac, l⟩ := i0
 have hlm : l.map MV.m = W.w.all := hi.1
 have hlg : ∀ y ∈ l, y.Good fl := hi.2
 have hll : l.length ≤ 900 := by
  have := congrArg List.length hlm
  rw [List.length_map] at this
  omega
 have hn0 : ((n : Nat) : Int) ≠ 0 := by omega
 have ho : x.who.toNat % n < n := Nat.mod_lt _ (by omega)
 have hkv := hW.w.kv_le ho
 have hwho := x.who.toNat_lt
 have hoth := x.other.toNat_lt
 have hj : x.other.toNat % n < n := Nat.mod_lt _ (by omega)
 show Fn _ _ _ f (row wb 37 (w15C kb n ap l.length ac lb) :: row kb 39 (kRow n W.w.kv) :: slc ap l.length ac 49 121 (l.flatMap MV.vals) :: logsH fl lb W.l :: F) _
 refine Fn.e2 Tryz.func45 Tryz.ntmps45 fun base => ?_
 refine gA ?_
 refine H.box (ls := x.vals) rfl rfl rfl rfl fun xb => ?_
 refine H.Ao (ls := msgZ.vals none 0) rfl rfl rfl fun ob => ?_
 refine gM ?_
 refine H.rem (z := ((x.who.toNat % n : Nat) : Int)) rfl rfl rfl hn0 (zah (a := x.who.toNat) (b := n) rfl) rfl ?_
 refine gM ?_
 cases hmt : x.meet with
 | true =>
  have hact : W.act n x = { W with w := W.w.meet (x.who.toNat % n) (x.other.toNat % n) } := by unfold W15.act; rw [if_pos hmt]
  rw [hact]
  refine gV ?_
  refine H.rem (z := ((x.other.toNat % n : Nat) : Int)) rfl rfl rfl hn0 (zah (a := x.other.toNat) (b := n) rfl) rfl ?_
  refine gY ?_
  generalize hoe : x.who.toNat % n = o at *
  generalize hje : x.other.toNat % n = j at *
  have ho11 : o < 11 := by omega
  refine H.pf (x := row kb _ _) ?_
  refine H.pf (x := row wb _ _) ?_
  refine H.Ar (ι := Nat) (fun i => [(8, .int .i64 (i : Int)), (6, .int .i64 (1 + (o : Int))), (7, .int .i64 (j : Int)), (0, .pointer (some ⟨wb, 0, none⟩)), (4, .pointer (some ⟨ob, 0, none⟩))]) (fun _ => f)
   (fun i => row wb 37 (w15C kb n ap l.length ac lb) :: row kb 39 (kRow n (raised W.w.kv o j i)) :: row ob 49 (msgZ.vals none 0) :: row xb 99 x.vals :: slc ap l.length ac 49 121 (l.flatMap MV.vals) :: logsH fl lb W.l :: F)
   (fun i => i ≤ 11) (fun i => 11 - i) 0 (Nat.zero_le _) ⟨rfl, rfl, rfl, rfl, rfl, trivial⟩ rfl (by rw [raised_zero]) fun i hi2 => ?_
  have hi2 : i ≤ 11 := hi2
  by_cases hi11 : i < 11
  ·have hro := raised_o W.w.kv o j i
   have hrj := raised_j W.w.kv o j i
   have hrn := raised_next W.w.kv o j i
   have hg1 := kRow_get (kv := raised W.w.kv o j i) ho hi11
   have hg2 := kRow_get (kv := raised W.w.kv o j i) hj hi11
   rw [hro] at hg1
   rw [hrj] at hg2
   have hset := kRow_set (kv := raised W.w.kv o j i) (maxV (W.w.kv o) (W.w.kv j) i) ho hi11
   rw [hrn] at hset
   have hoo : (1 : Int) + (o : Int) - 1 = (o : Nat) := by omega
   refine gF ?_
   refine H.dc [0, 1, 2, 3, 4, 5, 6, 7, 8, 9, 10, 11, 12, 13, 14, 15, 16, 17, 18, 19, 20, 21, 22, 23, 24, 25, 26, 27, 28] (S := [_, _]) rfl ?_
   refine HB.qu [0,1,2,3,4,5,6,7,8,9,10,11,12,13,14,15,16,17,18,19,20,21,22,23,24,25,26,27,28] 1 ?_
   refine gc ?_
   refine HQ.Aq (i := o) rfl rfl rfl hoo ho rfl ?_
   refine HQ.Aw (i := i) rfl rfl rfl rfl hi11 rfl ?_
   refine HQ.Ae rfl rfl rfl (.at0 (Rd.ofRow (.there _ (.here _ _ _))) (by rw [Nat.zero_add, Nat.mul_one]; exact hg1)) rfl ?_
   refine gU ?_
   refine HQ.Aq (i := j) rfl rfl rfl rfl hj rfl ?_
   refine HQ.Aw (i := i) rfl rfl rfl rfl hi11 rfl ?_
   refine HQ.Ae rfl rfl rfl (.at0 (Rd.ofRow (.there _ (.here _ _ _))) (by rw [Nat.zero_add, Nat.mul_one]; exact hg2)) rfl ?_
   refine HQ.max2 (z := maxV (W.w.kv o) (W.w.kv j) i) rfl rfl rfl rfl rfl ?_
   refine HQ.Aq (i := o) rfl rfl rfl hoo ho rfl ?_
   refine HQ.Aw (i := i) rfl rfl rfl rfl hi11 rfl ?_
   refine HQ.Aa rfl ?_
   refine HB.nx [] (S' := []) rfl ?_
   refine HB.ev 29 ?_
   refine H.Be (v := .int .u64 (maxV (W.w.kv o) (W.w.kv j) i)) (ls := kRow n (raised W.w.kv o j i)) (ls' := kRow n (raised W.w.kv o j (i + 1))) rfl rfl rfl rfl (.there _ (.here _ _ _)) (by rw [Nat.zero_add, Nat.mul_one]; exact hset) ?_
   refine gA ?_
   refine H.on0 rfl ?_
   refine HB.dn ?_
   refine gH ?_
   exact H.Aj (i + 1) (by show i + 1 ≤ 11; omega) (by show 11 - (i + 1) < 11 - i; omega) ⟨rfl, rfl, rfl, rfl, rfl, trivial⟩ rfl rfl
  ·have e : i = 11 := by omega
   subst e
   rw [raised_end]
   repeat (first | (refine H.Av (t := 49) (out := msgZ.vals none 0) rfl rfl rfl (by kernel_rfl) rfl ?_) | ((apply H.Ag); (iterate 3 exact rfl)) | (first | apply H.seq | apply H.Al | apply H.nil | apply H.Am) | ((apply H.cmp); (iterate 5 exact rfl)) | (apply H.Cc; exact rfl) | (first | apply H.By | apply H.exit | apply H.Bw | apply H.Bu))
   refine H.Ah (ls := msgZ.vals none 0) (vs := msgZ.vals none 0) (ls' := msgZ.vals none 0) rfl rfl rfl (zaa rfl) rfl rfl (Nat.le_refl 121) (by repeat constructor) ?_
   refine gY ?_
   refine H.pd (x := row xb _ _) ?_
   refine H.pf (x := row ob _ _) ?_
   exact H.Bb (ls := msgZ.vals none 0) rfl rfl rfl (Rd.ofRow (.here _ _ _)) rfl (fun _ s => (s.drop (.here _ _)).imp (fun z hz => w15_up hfl z (w15_fold (W := { W with w := W.w.meet o j }) ⟨kb, lb, ap, ac, l⟩ ⟨hlm, hlg⟩ z hz))) ⟨nil0, _, Dj.nil _, rfl, (un_nil f).symm, rfl⟩
 | false =>
  refine gS ?_
  generalize hoe : x.who.toNat % n = o at *
  have ho11 : o < 11 := by omega
  have hoo : (1 : Int) + (o : Int) - 1 = (o : Nat) := by omega
  have ho1 : (1 : Int) + (o : Int) = ((o + 1 : Nat) : Int) := by omega
  have hact : W.act n x = if (W.next n o x).may = true then ⟨W.w.say o (W.next n o x).signed, (W.l.take (W.next n o x).signed).2⟩ else W := by
   unfold W15.act
   rw [if_neg (by rw [hmt]; decide), hoe]
  have hgk0 := kRow_get (kv := W.w.kv) ho ho11
  have hko := hkv o
  have hbody := fun G => body15_fn f G hfl (wb := wb) (kb := kb) (lb := lb) hW (by omega) (ap := ap) (m := l.length) (ac := ac) ho hx hq20
  refine H.pf (x := logsH _ _ _) ?_
  refine H.pf (x := row kb _ _) ?_
  refine H.pf (x := row wb _ _) ?_
  refine H.pf (x := row xb _ _) ?_
  refine H.cut (ι := Frag × Option Addr × Nat × Nat) (fun s => [(9, .pointer (some ⟨s.2.2.2, 0, none⟩)), (6, .int .i64 (1 + (o : Int))), (0, .pointer (some ⟨wb, 0, none⟩)), (4, .pointer (some ⟨ob, 0, none⟩))]) (fun s => un f s.1)
   (fun s => row xb 99 x.vals :: row s.2.2.2 49 ((W.next n o x).vals s.2.1 s.2.2.1) :: row ob 49 (msgZ.vals none 0) :: row wb 37 (w15C kb n ap l.length ac lb) :: row kb 39 (kRow n W.w.kv) :: logsH fl lb W.l :: slc ap l.length ac 49 121 (l.flatMap MV.vals) :: F)
   (fun s => QAt (un f s.1) s.2.1 (W.next n o x).body.q ∧ Dj f s.1) _ (fun s hs => ?_) ?_
  ·obtain ⟨g, qp, qc, mb⟩ := s
   obtain ⟨hqat, hd⟩ : QAt (un f g) qp (W.next n o x).body.q ∧ Dj f g := hs
   have hle2 := Le.un f g
   have hql := (x.bod_q hW (by omega) (o := o)).1
   have hgood : (⟨W.next n o x, qp, qc⟩ : MV).Good (un f g) := ⟨hqat, by show (x.bod W n o).q.length ≤ _; omega, A15.bod_ok hW (by omega) ho x⟩
   have hmsg := good_signed hgood
   have hmay := fun H => rmmay_fn (un f g) H hgood
   have hsg := fun H => rtagged_fn (un f g) H (m := W.next n o x) (q := qp) (qc := qc) hgood.1 (by show (x.bod W n o).q.length ≤ _; omega)
   show H _ _ _ [_, _, _, _] (un f g) (_ :: row mb _ ((W.next n o x).vals qp qc) :: _ :: _ :: _ :: _ :: _ :: F) _
   refine gA ?_
   refine H.Af (ls := (W.next n o x).vals qp qc) rfl rfl rfl (Rd.ofRow (.there _ (.here _ _ _))) rfl rfl ?_
   refine H.Ad rfl rfl rfl (hmay _) ?_
   refine H.not (b := _) (c := _) rfl rfl rfl rfl ?_
   cases hmy : (W.next n o x).may with
   | false =>
    rw [hact, if_neg (by rw [hmy]; decide)]
    repeat (first | (refine H.Av (t := 49) (out := msgZ.vals none 0) rfl rfl rfl (by kernel_rfl) rfl ?_) | (first | apply H.seq | apply H.Al | apply H.nil | apply H.Am) | (apply H.Ce; exact rfl))
    refine H.Ah (ls := msgZ.vals none 0) (vs := msgZ.vals none 0) (ls' := msgZ.vals none 0) rfl rfl rfl (zaa rfl) rfl rfl (Nat.le_refl 121) (by repeat constructor) ?_
    refine gY ?_
    refine H.pd (x := row xb _ _) ?_
    refine H.pd (x := row mb _ _) ?_
    refine H.pf (x := slc ap _ ac _ _ _) ?_
    refine H.pf (x := row kb _ _) ?_
    refine H.pf (x := row wb _ _) ?_
    refine H.pf (x := row ob _ _) ?_
    exact H.Bb (ls := msgZ.vals none 0) rfl rfl rfl (Rd.ofRow (.here _ _ _)) rfl (fun _ s => (s.drop (.here _ _)).imp (fun z hz => w15_up (hfl.trans hle2) z (w15_fold ⟨kb, lb, ap, ac, l⟩ ⟨hlm, hlg⟩ z hz))) ⟨g, _, hd, rfl, rfl, rfl⟩
   | true =>
    rw [hact, if_pos hmy]
    generalize hms : (W.next n o x).signed = ms at *
    have htake := fun H => take_fn (un f g) H (hfl.trans hle2) (lb := lb) hW.l (by omega) (x := ⟨ms, qp, qc⟩) hmsg
    refine gS ?_
    refine H.Af (ls := (W.next n o x).vals qp qc) rfl rfl rfl (Rd.ofRow (.there _ (.here _ _ _))) rfl rfl ?_
    refine H.Ad rfl rfl rfl (hsg _) ?_
    refine H.Ah (ls := (W.next n o x).vals qp qc) (vs := ms.vals qp qc) (ls' := ms.vals qp qc) rfl rfl rfl (zaa rfl) rfl rfl (Nat.le_refl 121) (.there _ (.here _ _ _)) ?_
    refine gA ?_
    refine H.pf (x := row wb _ _) ?_
    refine H.pf (x := row mb _ _) ?_
    refine H.db (S := [_, _]) rfl ?_
    refine HB.qu [0,1,2,3,4] 1 ?_
    refine gU ?_
    refine HQ.Af (ls := ms.vals qp qc) rfl rfl rfl (Rd.ofRow (.here _ _ _)) rfl rfl ?_
    refine HQ.Aa rfl ?_
    refine HB.ev 5 ?_
    refine H.pf (x := logsH _ _ _) ?_
    refine H.Ay rfl rfl rfl (htake _) fun v f' A' hr => ?_
    obtain ⟨g2, hd2, rfl, rfl, rfl⟩ := hr
    refine gA ?_
    refine H.pf (x := row wb _ _) ?_
    refine H.pf (x := row mb _ _) ?_
    refine H.on [] (Le.un _ g2) rfl ?_
    refine HB.dn ?_
    refine gA ?_
    refine H.dc [0, 1, 2, 3, 4, 5, 6, 7] (S := [_, _]) rfl ?_
    refine HB.qu [0,1,2,3,4,5] 5 ?_
    refine gU ?_
    refine HQ.Af (ls := ms.vals qp qc) rfl rfl rfl (Rd.ofRow (.here _ _ _)) rfl rfl ?_
    refine HQ.Aa rfl ?_
    refine HB.ev 6 ?_
    refine H.Ba (out := ms.vals qp qc) rfl rfl rfl rfl (by decide) (by decide) rfl rfl fun eb => ?_
    refine gA ?_
    refine H.pf (x := row wb _ _) ?_
    refine H.pf (x := row mb _ _) ?_
    refine H.on0 rfl ?_
    refine HB.ev 7 ?_
    refine H.Bd (sz := 121) (p := ap) (n0 := l.length) (c := ac) (xs := l.flatMap MV.vals) (m := 1) (news := ms.vals qp qc) rfl rfl rfl rfl rfl (fun p' c' => (by repeat constructor)) (Src.slice (Rd.ofRow (by repeat constructor)) rfl) (zaa rfl) rfl (by omega) (by omega) fun ap2 ac2 => ?_
    refine gA ?_
    refine H.pd (x := row eb _ _) ?_
    refine H.on0 rfl ?_
    refine HB.nx [] (S' := []) rfl ?_
    refine HB.qu [8,9] 1 ?_
    refine gU ?_
    refine HQ.Aa rfl ?_
    refine HB.ev 10 ?_
    refine H.Be (ls := w15C kb n ap l.length ac lb) (ls' := w15C kb n ap2 (l.length + 1) ac2 lb) rfl rfl rfl rfl (.there _ (.here _ _ _)) (.there _ (.here _ _ _)) ?_
    refine gA ?_
    refine H.on0 rfl ?_
    refine HB.dn ?_
    refine gA ?_
    have hset := kRow_set (kv := W.w.kv) (W.w.kv o o + 1) ho ho11
    refine H.pf (x := row kb _ _) ?_
    refine H.pf (x := row wb _ _) ?_
    refine H.dc [0, 1, 2, 3, 4, 5, 6, 7, 8, 9, 10, 11, 12, 13] (S := [_, _]) rfl ?_
    refine HB.qu [0,1,2,3,4,5,6,7,8,9,10,11,12,13] 1 ?_
    refine gc ?_
    refine HQ.Aq (i := o) rfl rfl rfl hoo ho rfl ?_
    refine HQ.Aw (i := o) rfl rfl rfl hoo ho11 rfl ?_
    refine HQ.Ae rfl rfl rfl (.at0 (Rd.ofRow (.there _ (.here _ _ _))) (by rw [Nat.zero_add, Nat.mul_one]; exact hgk0)) rfl ?_
    refine gc ?_
    refine HQ.Aq (i := o) rfl rfl rfl hoo ho rfl ?_
    refine HQ.Aw (i := o) rfl rfl rfl hoo ho11 rfl ?_
    refine HQ.Aa rfl ?_
    refine HB.nx [] (S' := []) rfl ?_
    refine HB.ev 14 ?_
    refine H.Be (v := .int .u64 (W.w.kv o o + 1)) (ls := kRow n W.w.kv) (ls' := kRow n (W.w.say o ms).kv) rfl rfl rfl rfl (.there _ (.here _ _ _)) (by rw [Nat.zero_add, Nat.mul_one]; exact hset) ?_
    refine gA ?_
    refine H.on0 rfl ?_
    refine HB.dn ?_
    refine gA ?_
    refine H.pf (x := row mb _ _) ?_
    refine H.Af (ls := ms.vals qp qc) rfl rfl rfl (Rd.ofRow (.here _ _ _)) rfl rfl ?_
    refine H.Ah (ls := msgZ.vals none 0) (vs := ms.vals qp qc) (ls' := ms.vals qp qc) rfl rfl rfl (zaa rfl) rfl rfl (Nat.le_refl 121) (by repeat constructor) ?_
    refine gY ?_
    refine H.pd (x := row xb _ _) ?_
    refine H.pd (x := row mb _ _) ?_
    refine H.pf (x := logsH _ _ _) ?_
    refine H.pf (x := slc ap2 _ ac2 _ _ _) ?_
    refine H.pf (x := row kb _ _) ?_
    refine H.pf (x := row wb _ _) ?_
    refine H.pf (x := row ob _ _) ?_
    have hle3 := Le.un (un f g) g2
    have hφ : w15φ (un (un f g) g2) ⟨W.w.say o ms, (W.l.take ms).2⟩ ⟨kb, lb, ap2, ac2, l ++ [⟨ms, qp, qc⟩]⟩ := by
     refine ⟨?_, fun y hy => ?_⟩
     ·show (l ++ [(⟨ms, qp, qc⟩ : MV)]).map MV.m = W.w.all ++ [ms]
      rw [List.map_append, hlm]
      rfl
     ·rcases List.mem_append.1 hy with h | h
      ·exact (hlg y h).mono ((hfl.trans hle2).trans hle3)
      ·rw [List.mem_singleton.1 h]; exact hmsg.mono hle3
    have hsl : slc ap2 (l.length + 1) ac2 49 121 (l.flatMap MV.vals ++ ms.vals qp qc) = slc ap2 (l ++ [(⟨ms, qp, qc⟩ : MV)]).length ac2 49 121 ((l ++ [(⟨ms, qp, qc⟩ : MV)]).flatMap MV.vals) := slc_snoc (y := (⟨ms, qp, qc⟩ : MV))
    have hfold := w15_fold (F := F) (wb := wb) (n := n) _ hφ
    exact H.Bb (ls := ms.vals qp qc) rfl rfl rfl (Rd.ofRow (.here _ _ _)) rfl (fun _ s => (s.drop (.here _ _)).imp (fun z hz => hfold z (by
     rw [hsl] at hz
     show stars (row wb _ (w15C kb n ap2 (l ++ [(⟨ms, qp, qc⟩ : MV)]).length ac2 lb) :: _) z
     rw [List.length_append]
     rw [List.length_append] at hz
     exact hz))) ⟨un g g2, _, Dj.un3' hd hd2, rfl, un_assoc _ _ _, rfl⟩
  ·refine H.db (S := [_, _, _]) rfl ?_
   refine HB.qu [0,1,2,3,4,5,6,7,8,9,10,11,12,13,14,15,16,17,18,19,20,21,22,23] 4 ?_
   refine gc ?_
   refine HQ.Aq (i := o) rfl rfl rfl hoo ho rfl ?_
   refine HQ.Aw (i := o) rfl rfl rfl hoo ho11 rfl ?_
   refine HQ.Ae rfl rfl rfl (.at0 (Rd.ofRow (.there _ (.there _ (.here _ _ _)))) (by rw [Nat.zero_add, Nat.mul_one]; exact hgk0)) rfl ?_
   refine gc ?_
   refine HQ.Aq (i := o) rfl rfl rfl hoo ho rfl ?_
   refine HQ.Af (ls := v11 (W.w.kv o)) rfl rfl rfl (by rw [Nat.zero_add]; exact Rd.kRow (Rd.ofRow (.there _ (.there _ (.here _ _ _)))) ho) rfl rfl ?_
   refine gR ?_
   refine HQ.Af (ls := x.vals) rfl rfl rfl (Rd.ofRow (.here _ _ _)) rfl rfl ?_
   refine HQ.Aa rfl ?_
   refine HB.ev2 (i := 24) (j := 26) (by kernel_rfl) rfl rfl ?_ ?_
   ·refine H.pf (x := row kb _ _) ?_
    refine H.pf (x := row wb _ _) ?_
    refine H.pf (x := logsH _ _ _) ?_
    rw [ho1]
    refine H.Ay rfl rfl rfl (hbody _) fun v f' A' hr => ?_
    obtain ⟨g, qp, qc, rfl, hqat, hd, rfl, rfl⟩ := hr
    refine gA ?_
    refine H.pf (x := row kb _ _) ?_
    refine H.pf (x := row wb _ _) ?_
    refine H.pf (x := row xb _ _) ?_
    refine H.on [] (Le.un _ g) rfl ?_
    refine HB.qu [25] 2 ?_
    refine HQ.Av (t := 49) (out := (W.next n o x).vals qp qc) rfl rfl rfl (by kernel_rfl) rfl ?_
    refine HQ.Aa rfl ?_
    refine HB.ev 26 ?_
    refine H.Ao (ls := msgZ.vals none 0) rfl rfl rfl fun mb => ?_
    refine gA ?_
    refine H.pf (x := row kb _ _) ?_
    refine H.pf (x := row wb _ _) ?_
    refine H.pf (x := row xb _ _) ?_
    refine H.on0 rfl ?_
    refine HB.ev 27 ?_
    refine H.Ah (ls := msgZ.vals none 0) (vs := (W.next n o x).vals qp qc) (ls' := (W.next n o x).vals qp qc) rfl rfl rfl (zaa rfl) rfl rfl (Nat.le_refl 121) (by repeat constructor) ?_
    refine gA ?_
    refine H.on0 rfl ?_
    refine HB.dn ?_
    refine H.pf (x := slc ap _ ac _ _ _) ?_
    refine H.pf (x := logsH _ _ _) ?_
    refine H.pf (x := row kb _ _) ?_
    refine H.pf (x := row wb _ _) ?_
    refine H.pf (x := row ob _ _) ?_
    refine H.pf (x := row mb _ _) ?_
    refine H.pf (x := row xb _ _) ?_
    exact H.meet (g, qp, qc, mb) ⟨hqat, hd⟩ ⟨rfl, rfl, rfl, rfl, trivial⟩ rfl rfl
   ·refine H.Ao (ls := msgZ.vals none 0) rfl rfl rfl fun mb => ?_
    refine gA ?_
    refine H.pf (x := row kb _ _) ?_
    refine H.pf (x := row wb _ _) ?_
    refine H.pf (x := row xb _ _) ?_
    refine H.on0 rfl ?_
    refine HB.ev 24 ?_
    refine H.pf (x := row kb _ _) ?_
    refine H.pf (x := row wb _ _) ?_
    refine H.pf (x := logsH _ _ _) ?_
    rw [ho1]
    refine H.Ay rfl rfl rfl (hbody _) fun v f' A' hr => ?_
    obtain ⟨g, qp, qc, rfl, hqat, hd, rfl, rfl⟩ := hr
    refine gA ?_
    refine H.pf (x := row kb _ _) ?_
    refine H.pf (x := row wb _ _) ?_
    refine H.pf (x := row xb _ _) ?_
    refine H.on [] (Le.un _ g) rfl ?_
    refine HB.qu [25] 1 ?_
    refine HQ.Av (t := 49) (out := (W.next n o x).vals qp qc) rfl rfl rfl (by kernel_rfl) rfl ?_
    refine HQ.Aa rfl ?_
    refine HB.ev 27 ?_
    refine H.Ah (ls := msgZ.vals none 0) (vs := (W.next n o x).vals qp qc) (ls' := (W.next n o x).vals qp qc) rfl rfl rfl (zaa rfl) rfl rfl (Nat.le_refl 121) (by repeat constructor) ?_
    refine gA ?_
    refine H.on0 rfl ?_
    refine HB.dn ?_
    refine H.pf (x := slc ap _ ac _ _ _) ?_
    refine H.pf (x := logsH _ _ _) ?_
    refine H.pf (x := row kb _ _) ?_
    refine H.pf (x := row wb _ _) ?_
    refine H.pf (x := row ob _ _) ?_
    refine H.pf (x := row mb _ _) ?_
    refine H.pf (x := row xb _ _) ?_
    exact H.meet (g, qp, qc, mb) ⟨hqat, hd⟩ ⟨rfl, rfl, rfl, rfl, trivial⟩ rfl rfl
end
def few15 (l : List A15) : Bool := decide (l.length ≤ 100) && l.all fun x => decide (x.q.length ≤ 20)
theorem few15_all {l : List A15} (h : few15 l = true) : l.length ≤ 100 ∧ ∀ x ∈ l, x.q.length ≤ 20 := by
 unfold few15 at h
 simp only [Bool.and_eq_true, decide_eq_true_eq, List.all_eq_true] at h
 exact h
theorem A15.Has.mono {f g : Frag} (h : Le f g) {x : A15} (hx : x.Has f) : x.Has g := by
 rcases hx with e | ⟨b, off, cs, T, fr, h1, h2, h3⟩
 ·exact .inl e
 ·exact .inr ⟨b, off, cs, T, fr, h1, h _ _ h2, h3⟩
def Acts15P (f : Frag) (F : List HP) (n : Nat) (W : W15) : Value → Frag → List HP → Prop := fun v f' A' => ∃ (g : Frag) (wb : Nat), v = .pointer (some ⟨wb, 0, none⟩) ∧ Dj f g ∧ f' = un f g ∧ A' = wH15 f' wb n W :: F
section
variable (f : Frag) (F : List HP)
theorem odd15_fn (n8 : UInt8) : Fn Tryz.prog 44 [.int .u8 (n8.toNat : Nat)] f F (Ret (.int .i64 ((3 + 2 * (n8.toNat % 5) : Nat) : Int)) f F) := by
 have h := n8.toNat_lt
 have hm : ((n8.toNat % 5 : Nat) : Int) ≤ 4 := by omega
 refine Fn.e1 Tryz.func44 Tryz.ntmps44 fun base => ?_
 refine gN ?_
 refine H.rem (z := ((n8.toNat % 5 : Nat) : Int)) rfl rfl rfl (by decide) (zah (b := 5) rfl) rfl ?_
 refine gH ?_
 refine H.Ab rfl rfl (fun _ h => h) ⟨?_, rfl, rfl⟩
 congr 1
theorem few15_fn {p : Option Addr} {c : Nat} {l : List A15} (hat : ListAt f p 12 A15.vals l) (hl : l.length ≤ 9223372036854775807) : Fn Tryz.prog 13 [.slice p l.length c] f F (Ret (.bool (few15 l)) f F) := by
 by_cases h30 : l.length ≤ 100
 ·refine Fn.e1 Tryz.func13 Tryz.ntmps13 fun base => ?_
  refine gD ?_
  refine H.Ar (ι := Nat) (fun i => [(3, .int .i64 (i : Int)), (0, .slice p l.length c)]) (fun _ => f) (fun _ => F) (fun i => i ≤ l.length ∧ ∀ j x, j < i → l[j]? = some x → x.q.length ≤ 20) (fun i => l.length - i) 0 ⟨Nat.zero_le _, fun j x hj => by omega⟩ ⟨rfl, rfl, trivial⟩ rfl rfl fun i hi => ?_
  obtain ⟨hi, hb⟩ : i ≤ l.length ∧ ∀ j x, j < i → l[j]? = some x → x.q.length ≤ 20 := hi
  by_cases hlt : i < l.length
  ·have hx : l[i]? = some l[i] := List.getElem?_eq_getElem hlt
   generalize l[i] = x at hx
   obtain ⟨b, off, cs, T, fr, rfl, hfb, hcs⟩ := hat i x hx
   have rd : ∀ A, Rd f A b (off + i * 12) x.vals := fun A => Rd.imm hfb hcs
   refine gF ?_
   refine H.Aq rfl rfl rfl rfl hlt rfl ?_
   refine gO ?_
   refine H.Ae rfl rfl rfl (Rd1.of (i := 10) (rd _) rfl) rfl ?_
   refine gP ?_
   by_cases hq : x.q.length ≤ 20
   ·skip
    refine gK ?_
    refine H.Aj (i + 1) ⟨by show i + 1 ≤ l.length; omega, fun j y hj hy => ?_⟩ (by show l.length - (i + 1) < l.length - i; omega) ⟨rfl, rfl, trivial⟩ rfl rfl
    by_cases e : j = i
    ·subst e; rw [hx] at hy; cases hy; exact hq
    ·exact hb j y (by omega) hy
   ·skip
    refine gF ?_
    refine H.Ab rfl rfl (fun _ h => h) ⟨?_, rfl, rfl⟩
    have : few15 l = false := by
     unfold few15
     rw [Bool.and_eq_false_iff]
     exact .inr (List.all_eq_false.2 ⟨x, List.mem_of_getElem? hx, by rw [decide_eq_false hq]; decide⟩)
    rw [this]
  ·refine gD ?_
   refine H.Ab rfl rfl (fun _ h => h) ⟨?_, rfl, rfl⟩
   have : few15 l = true := by
    unfold few15
    rw [decide_eq_true h30, Bool.true_and, List.all_eq_true]
    intro x hx
    obtain ⟨j, hj⟩ := List.getElem?_of_mem hx
    have hjl := (List.getElem?_eq_some_iff.1 hj).1
    exact decide_eq_true (hb j x (by omega) hj)
   rw [this]
 ·refine Fn.e1 Tryz.func13 Tryz.ntmps13 fun base => ?_
  refine gF ?_
  refine H.Ab rfl rfl (fun _ h => h) ⟨?_, rfl, rfl⟩
  have : few15 l = false := by unfold few15; rw [decide_eq_false h30]; rfl
  rw [this]
theorem nworld_fn {n : Nat} (h : fewZ (n : Int)) : Fn Tryz.prog 43 [.int .i64 (n : Int)] f F (Acts15P f F n (W15.zero n)) := by
 have hn : n ≤ 11 := by have := h.2.1; omega
 refine Fn.e1 Tryz.func43 Tryz.ntmps43 fun base => ?_
 refine gN ?_
 refine H.Ay rfl rfl rfl (lgnew_fn f _ h) fun v f' A' hr => ?_
 obtain ⟨g, lb, hd, rfl, rfl, rfl⟩ := hr
 refine gQ ?_
 refine H.makeS (m := n) (zs := v11 fun _ => 0) rfl rfl rfl rfl rfl rfl rfl (by decide) (by omega) (by omega) rfl fun kb => ?_
 rw [kRow_zero]
 repeat (first | (refine H.Av (t := 37) (out := w15C kb n none 0 0 lb) rfl rfl rfl (by kernel_rfl) rfl ?_) | ((apply H.Ag); (iterate 3 exact rfl)))
 refine H.box (ls := w15C kb n none 0 0 lb) rfl rfl rfl rfl fun wb => ?_
 refine gY ?_
 refine H.pf (x := logsH _ _ _) ?_
 refine H.slc0 49 121 ?_
 refine H.pf (x := row kb _ _) ?_
 refine H.pf (x := row wb _ _) ?_
 refine H.imp (w15_fold (e := un f g) (n := n) (W := W15.zero n) ⟨kb, lb, none, 0, []⟩ ⟨rfl, fun y hy => by cases hy⟩) ?_
 exact H.Ab rfl rfl (fun _ h => h) ⟨g, wb, rfl, hd, rfl, rfl⟩
set_option maxHeartbeats 1600000 in
theorem acts15_fn {n8 : UInt8} {n : Nat} (hn8 : n = 3 + 2 * (n8.toNat % 5)) {p : Option Addr} {c : Nat} {xs : List A15} (hat : ListAt f p 12 A15.vals xs) (hh : ∀ x ∈ xs, x.Has f ∧ x.q.length ≤ 20) (hl : xs.length ≤ 100) :
  Fn Tryz.prog 15 [.int .u8 (n8.toNat : Nat), .slice p xs.length c] f F (Acts15P f F n (world15 n xs)) := by
 have hn3 : 3 ≤ n ∧ n ≤ 11 := by omega
 have hodd := fun G => odd15_fn f G n8
 rw [← hn8] at hodd
 have hfz : fewZ (n : Int) := ⟨by omega, by omega, by
  rw [show (2 : Int) = ((2 : Nat) : Int) from rfl, zah (a := n) (b := 2) (r := 1) (by omega)]; rfl⟩
 refine Fn.e2 Tryz.func15 Tryz.ntmps15 fun base => ?_
 refine gN ?_
 refine H.Ad rfl rfl rfl (hodd _) ?_
 refine H.Ay rfl rfl rfl (nworld_fn f _ hfz) fun v f' A' hr => ?_
 obtain ⟨g0, wb, rfl, hd0, rfl, rfl⟩ := hr
 refine gY ?_
 refine H.Ar (ι := Nat × Frag) (fun s => [(6, .int .i64 (s.1 : Int)), (1, .slice p xs.length c), (5, .pointer (some ⟨wb, 0, none⟩))]) (fun s => un f s.2)
  (fun s => wH15 (un f s.2) wb n (world15 n (xs.take s.1)) :: F)
  (fun s => s.1 ≤ xs.length ∧ Dj f s.2) (fun s => xs.length - s.1) (0, g0) ⟨Nat.zero_le _, hd0⟩ ⟨rfl, rfl, rfl, trivial⟩ rfl rfl fun s hs => ?_
 obtain ⟨k, G⟩ := s
 obtain ⟨hk, hdj⟩ : k ≤ xs.length ∧ Dj f G := hs
 show H _ _ _ [(6, .int .i64 (k : Int)), _, _] (un f G) (wH15 (un f G) wb n (world15 n (xs.take k)) :: F) _
 by_cases hlt : k < xs.length
 ·obtain ⟨x, hx⟩ : ∃ x, xs[k]? = some x := ⟨_, List.getElem?_eq_getElem hlt⟩
  have hnext : world15 n (xs.take (k + 1)) = (world15 n (xs.take k)).act n x := by rw [take_snoc hx, world15_snoc]
  obtain ⟨hxa, hxq⟩ := hh x (List.mem_of_getElem? hx)
  obtain ⟨b, off, cs, T, fr, rfl, hfb, hcs⟩ := hat k x hx
  have rd : ∀ A, Rd (un f G) A b (off + k * 12) x.vals := fun A => Rd.imm (Le.un f G b _ hfb) hcs
  have hinv := world15_inv hn3.1 hn3.2 xs k (by omega)
  have hwl := world15_len n xs k
  refine gF ?_
  refine H.Aq (i := k) rfl rfl rfl rfl hlt rfl ?_
  refine H.Af (ls := x.vals) rfl rfl rfl (rd _) rfl rfl ?_
  refine H.Ay rfl rfl rfl (do_fn (un f G) _ (Le.refl _) hn3 hinv (by omega) (by omega) (hxa.mono (Le.un f G)) hxq) fun v f' A' hr => ?_
  obtain ⟨g, u, hd, rfl, rfl, rfl⟩ := hr
  refine gH ?_
  refine H.Aj (k + 1, un G g) ⟨by show k + 1 ≤ xs.length; omega, Dj.un3' hdj hd⟩ (by show xs.length - (k + 1) < xs.length - k; omega) ⟨rfl, rfl, rfl, trivial⟩ (un_assoc _ _ _) ?_
  show wH15 (un (un f G) g) wb n _ :: F = wH15 (un f (un G g)) wb n (world15 n (xs.take (k + 1))) :: F
  rw [hnext, un_assoc]
 ·have e : k = xs.length := by omega
  subst e
  rw [List.take_length]
  refine gD ?_
  exact H.Ab rfl rfl (fun _ h => h) ⟨G, wb, rfl, hdj, rfl, rfl⟩
end
theorem H.world15 {P : Program} {base : World} {m : Nat} {L : Env} {f : Frag} {A : List HP} {K : Kont} {wb n : Nat} {W : W15}
  (h : ∀ g kb ap ac lb (l : List MV), Dj f g → WAt (un f g) n W.w kb ap l → H P base m L (un f g) (row wb 37 (w15C kb n ap l.length ac lb) :: A) K) : H P base m L f (wH15 f wb n W :: A) K := by
 refine H.unpack fun i hi => ?_
 obtain ⟨kb, lb, ap, ac, l⟩ := i
 show H P base m L f (row wb 37 (w15C kb n ap l.length ac lb) :: row kb 39 (kRow n W.w.kv) :: slc ap l.length ac 49 121 (l.flatMap MV.vals) :: logsH f lb W.l :: A) K
 refine H.freeze (.there _ (.here _ _)) fun g1 hg1 hd1 => ?_
 refine H.freeze (.there _ (.here _ _)) fun g2 hg2 hd2 => ?_
 refine H.Ac (.there _ (.here _ _)) ?_
 have hd3 : Dj f (un g1 g2) := Dj.un3' hd1 hd2
 rw [un_assoc]
 have hle : Le f (un f (un g1 g2)) := Le.un _ _
 have h1 : KAt (un f (un g1 g2)) kb n W.w.kv := by rw [← un_assoc]; exact (KAt.of hg1 hd1).mono (Le.un _ g2)
 have h2 : ListAt (un f (un g1 g2)) ap 121 MV.vals l := by rw [← un_assoc]; exact (slc_listAt MV.len hg2).mono (Le.right hd2)
 exact h (un g1 g2) kb ap ac lb l hd3 ⟨h1, h2, fun y hy => (hi.2 y hy).mono hle, hi.1⟩
def cBit (n : Nat) (all : List Msg) (i : Nat) : Bool := match all[i]? with
 | none => false
 | some m => ((lgsOf n (all.take i)).counts m).1
theorem cBit_at {n : Nat} {all : List Msg} {i : Nat} {m : Msg} (h : all[i]? = some m) : cBit n all i = ((lgsOf n (all.take i)).counts m).1 := by unfold cBit; rw [h]
theorem lgsOf_NI (n : Nat) (l : List Msg) : NI (lgsOf n l) := by
 refine snocInd (p := fun l => NI (lgsOf n l)) (NI.new n) (fun l m ih => ?_) l
 show NI (lgsOf n (l ++ [m]))
 rw [lgsOf_snoc]
 exact ih.take m
theorem WAt.good_v {f : Frag} {n : Nat} {W : W12} {kb : Nat} {ap : Option Addr} {l : List MV} (h : WAt f n W kb ap l) : ∀ m ∈ W.all, 0 ≤ m.body.view := fun m hm => by
 rw [← h.m] at hm
 obtain ⟨y, hy, rfl⟩ := List.mem_map.1 hm
 exact (h.g y hy).2.2.1.1
section
variable (f : Frag) (F : List HP)
end
def Lgs.vw (l : Lgs) (v : Int) : Option Vw := (vwAt l.vs v).bind fun i => l.vs[i]?
theorem vw_at {l : Lgs} {v : Int} {w : Vw} (h : l.vw v = some w) : ∃ i, vwAt l.vs v = some i ∧ l.vs[i]? = some w := by
 unfold Lgs.vw at h
 cases e : vwAt l.vs v with
 | none => rw [e] at h; cases h
 | some i => rw [e] at h; exact ⟨i, rfl, h⟩
theorem vw_none {l : Lgs} {v : Int} : l.vw v = none ↔ vwAt l.vs v = none := by
 unfold Lgs.vw
 cases e : vwAt l.vs v with
 | none => simp
 | some i =>
  obtain ⟨⟨w, h1, _⟩, _⟩ := zak.1 e
  simp [h1]
end Go.Proofs.YtgdhaledfjnfgaaGreatDoor

namespace Go.Proofs.YtgdhaledfjnfgaaGreatDoor
open Go Go.ChangeShapes Go.WideShapes Go.RowKit Go.Deep
theorem Reads.bool {P : Program} {W : World} {t : TypeId} {cs : List Value} (ht : P.underlying t = some .bool) (h : Reads P W t cs) : ∃ b, cs = [.bool b] := by
 obtain ⟨H', enc, b, sp, hd, n, x, h⟩ := h
 obtain ⟨z, h1, _⟩ := DataW.trod_bool ht h
 exact ⟨z, h1⟩
theorem Reads.u8 {W : World} {cs : List Value} (h : Reads Tryz.prog W 5 cs) : ∃ x : UInt8, cs = [.int .u8 (x.toNat : Nat)] := by
 obtain ⟨x, _, e⟩ := reads_byte h
 exact ⟨x, e⟩
theorem ArgOk.u8 {W : World} {v : Value} (h : ArgOk Tryz.prog W 5 v) : ∃ x : UInt8, v = .int .u8 (x.toNat : Nat) := by
 obtain ⟨z, rfl, hz⟩ := h.int Tryz.underlying5
 exact ⟨UInt8.ofNat z.toNat, by rw [u8_back hz]⟩
theorem AllReads.cons {P : Program} {W : World} {t : TypeId} {ts : List TypeId} {ps : List (List Value)} (h : AllReads P W (t :: ts) ps) : ∃ p q, ps = p :: q ∧ Reads P W t p ∧ AllReads P W ts q := by
 cases ps with
 | nil => exact h.elim
 | cons p q => exact ⟨p, q, rfl, h.1, h.2⟩
theorem AllReads.nil {P : Program} {W : World} {ps : List (List Value)} (h : AllReads P W [] ps) : ps = [] := by
 cases ps with
 | nil => rfl
 | cons p q => exact h.elim
theorem reads_a15 {W : World} {cs : List Value} (h : Reads Tryz.prog W 99 cs) : ∃ x : A15, x.Has (memOf W) ∧ cs = x.vals := by
 obtain ⟨ps, rfl, hh⟩ := h.parts Tryz.underlying99 (by kernel_rfl)
 have h : AllReads Tryz.prog W [5, 5, 4, 4, 5, 5, 5, 5, 5, 5, 62, 4] ps := hh
 obtain ⟨p0, q0, rfl, r0, h⟩ := h.cons
 obtain ⟨p1, q1, rfl, r1, h⟩ := h.cons
 obtain ⟨p2, q2, rfl, r2, h⟩ := h.cons
 obtain ⟨p3, q3, rfl, r3, h⟩ := h.cons
 obtain ⟨p4, q4, rfl, r4, h⟩ := h.cons
 obtain ⟨p5, q5, rfl, r5, h⟩ := h.cons
 obtain ⟨p6, q6, rfl, r6, h⟩ := h.cons
 obtain ⟨p7, q7, rfl, r7, h⟩ := h.cons
 obtain ⟨p8, q8, rfl, r8, h⟩ := h.cons
 obtain ⟨p9, q9, rfl, r9, h⟩ := h.cons
 obtain ⟨p10, q10, rfl, r10, h⟩ := h.cons
 obtain ⟨p11, q11, rfl, r11, h⟩ := h.cons
 obtain rfl := h.nil
 obtain ⟨z0, rfl⟩ := r0.u8
 obtain ⟨z1, rfl⟩ := r1.u8
 obtain ⟨z2, rfl⟩ := r2.bool Tryz.underlying4
 obtain ⟨z3, rfl⟩ := r3.bool Tryz.underlying4
 obtain ⟨z4, rfl⟩ := r4.u8
 obtain ⟨z5, rfl⟩ := r5.u8
 obtain ⟨z6, rfl⟩ := r6.u8
 obtain ⟨z7, rfl⟩ := r7.u8
 obtain ⟨z8, rfl⟩ := r8.u8
 obtain ⟨z9, rfl⟩ := r9.u8
 obtain ⟨p, c, xs, rfl, _, _, _, hat⟩ := r10.list (sz := 1) Tryz.underlying62 (by kernel_rfl) (by decide) fun cs => reads_byte
 obtain ⟨z11, rfl⟩ := r11.bool Tryz.underlying4
 exact ⟨⟨z0, z1, z2, z3, z4, z5, z6, z7, z8, z9, xs, z11, p, c⟩, listAt_bat hat, rfl⟩
theorem ArgOk.acts15 {W : World} {v : Value} (h : ArgOk Tryz.prog W 22 v) : ∃ (p : Option Addr) (c : Nat) (xs : List A15), v = .slice p xs.length c ∧ xs.length ≤ 9223372036854775807 ∧ (∀ x ∈ xs, x.Has (memOf W)) ∧ ListAt (memOf W) p 12 A15.vals xs := by
  obtain ⟨p, c, xs, rfl, h1, h2, hq, hat⟩ := h.list (sz := 12) Tryz.underlying22 (by kernel_rfl) (by decide) fun cs => reads_a15
  exact ⟨p, c, xs, rfl, by have : maxLen ≤ 9223372036854775807 := by decide
                           omega, hq, hat⟩
end Go.Proofs.YtgdhaledfjnfgaaGreatDoor
