/- Parts of the proof, one behind the other, each under its own heading. No conditions. -/
import Derived.Test.YtdcjlgigcbinjaaGreatDoorZ05
set_option linter.unusedSectionVars false
set_option linter.unusedSimpArgs false
set_option linter.unusedVariables false
/- Layer 21: the document's checks: Take, Digest, Stable. No condition. -/
namespace Go.Proofs.YtdcjlgigcbinjaaGreatDoor
open Go
def ckV (e : (Int × Int) × D32) : List Value := .int .i64 e.1.1 :: .int .u64 e.1.2 :: dV e.2
theorem zba (e : (Int × Int) × D32) : (ckV e).length = 34 := by unfold ckV; rw [List.length_cons, List.length_cons, dV_len]
theorem ckV_one (e : (Int × Int) × D32) : ∀ v ∈ ckV e, one v = true := by
 intro v hv
 unfold ckV at hv
 rcases List.mem_cons.1 hv with rfl | hv
 ·rfl
 ·rcases List.mem_cons.1 hv with rfl | hv
  ·rfl
  ·exact dV_one _ v hv
def rkC (n : Nat) (p : Option Addr) (m c : Nat) : List Value := [.int .i64 (n : Nat), .slice p m c]
def rkB (rb n : Nat) (M : CM) (i : Option Addr × Nat) : List HP := [row rb 41 (rkC n i.1 M.length i.2), slc i.1 M.length i.2 115 34 (M.flatMap ckV)]
def rckH (rb n : Nat) (M : CM) : HP := pack (fun _ : Option Addr × Nat => True) (rkB rb n M)
theorem rck_fold {rb n : Nat} {M : CM} {F : List HP} (i : Option Addr × Nat) : ∀ x, stars (rkB rb n M i ++ F) x → stars (rckH rb n M :: F) x := fun x hx => pack_fold (φ := fun _ : Option Addr × Nat => True) (B := rkB rb n M) i trivial x hx
theorem ck_dig {f : Frag} {A A' : List HP} {b c : Nat} {T : TypeId} {M : CM} {i : Nat} {e : (Int × Int) × D32} (h : At A (slc (some ⟨b, 0, none⟩) M.length c T 34 (M.flatMap ckV)) A' (slc (some ⟨b, 0, none⟩) M.length c T 34 (M.flatMap ckV))) (he : M[i]? = some e) : Rd f A b (0 + i * 34 + 2) (dV e.2) := by
 have h1 := Rd.slcElem (f := f) zba (by decide) h he
 have e1 : ckV e = [.int .i64 e.1.1, .int .u64 e.1.2] ++ dV e.2 ++ [] := by rw [List.append_nil]; rfl
 rw [e1] at h1
 rw [Nat.zero_add]
 exact h1.sub rfl
theorem vot_app (k : Int) (d : D32) (A B : CM) : vot k d (A ++ B) = vot k d A + vot k d B := by unfold vot; rw [List.filter_append, List.length_append]
theorem vot_snoc {k : Int} {d : D32} {M : CM} {j : Nat} {e : (Int × Int) × D32} (h : M[j]? = some e) : vot k d (List.take (j + 1) M) = vot k d (List.take j M) + (if e.1.2 = k ∧ e.2 = d then 1 else 0) := by
 rw [take_snoc h, vot_app, vot_cons]; rfl
theorem dV_eq (a b : D32) : eqC (dV a) (dV b) = decide (a = b) := by
 unfold dV
 rw [eqC_bytes]
 by_cases h : a = b
 ·rw [decide_eq_true h, decide_eq_true (by rw [h])]
 ·rw [decide_eq_false h, decide_eq_false (fun e => h (Subtype.ext e))]
section
variable (f : Frag) (F : List HP)
set_option maxRecDepth 20000 in
set_option maxHeartbeats 1600000 in
theorem rctake_fn {rb n : Nat} {M : CM} {x : MV} (hx : x.Good f) (hl : M.length ≤ 100000) : Fn Tryz.prog 18 [.pointer (some ⟨rb, 0, none⟩), .agg x.vals.toArray] f (rckH rb n M :: F) (Ret (.bool (CM.take M n x.m).1) f (rckH rb n (CM.take M n x.m).2 :: F)) := by
 refine Fn.unpack fun i _ => ?_
 obtain ⟨p, c⟩ := i
 have hmay := fun G => rmmay_fn f G hx
 cases hm : x.m.may with
 | false =>
  rw [hm] at hmay
  have hno : CM.take M n x.m = (false, M) := if_neg (fun h => by rw [hm] at h; cases h.1)
  rw [hno]
  clear hm hno
  refine Fn.enter Tryz.func18 rfl Tryz.ntmps18 rfl (L := [(0, _), (1, _)]) ⟨rfl, rfl, trivial⟩ fun base => ?_
  show H _ _ _ _ _ (row rb _ (rkC n p M.length c) :: slc p M.length c _ 34 (M.flatMap ckV) :: F) _
  refine gA ?_
  refine H.box (ls := x.vals) rfl rfl rfl rfl fun xb => ?_
  refine gO ?_
  refine H.Ay (by kernel_rfl) (by decide +kernel) (by repeat (first | exact zab | refine zaa ?_ | refine zac ?_ | refine zad ?_)) (S := [_, _]) rfl ?_
  refine HB.Af [(0, false)] 17 (by kernel_rfl) ?_
  refine HQ.Ag (ls := x.vals) rfl rfl rfl (Rd.ofRow (.here _ _ _)) rfl rfl ?_
  refine HQ.Ae rfl ?_
  refine HB.ev1 (i := 1) (by kernel_rfl) rfl ?_
  refine H.Ah rfl rfl rfl (hmay _) ?_
  refine gA ?_
  refine H.on0 rfl ?_
  refine HB.Af [(2, false), (3, false), (4, false), (5, false), (6, false), (7, false), (8, false), (9, false), (10, false), (11, false), (12, false), (13, false), (14, false), (15, false), (16, false), (17, false)] 0 (by kernel_rfl) ?_
  repeat (first | (refine HQ.not (c := true) rfl rfl rfl rfl ?_) | ((first | apply HQ.Aj | apply HQ.Ax); (iterate 3 exact rfl)) | (apply HQ.Bm; (iterate 2 exact rfl)) | (apply HQ.Bi; (iterate 4 exact rfl)))
  refine HQ.Ae rfl ?_
  refine HB.Al (by kernel_rfl) ?_
  refine ge ?_
  refine H.Ab (x := row xb _ _) (by repeat constructor) ?_
  refine H.imp (rck_fold (p, c)) ?_
  exact H.Ac rfl rfl (fun _ h => h) ⟨rfl, rfl, rfl⟩
 | true =>
  rw [hm] at hmay
  by_cases h1 : x.m.origin ≤ (n : Int)
  ·by_cases h2 : (x.m.body.kind.toNat : Int) = 6
   ·skip
    refine Fn.enter Tryz.func18 rfl Tryz.ntmps18 rfl (L := [(0, _), (1, _)]) ⟨rfl, rfl, trivial⟩ fun base => ?_
    show H _ _ _ _ _ (row rb _ (rkC n p M.length c) :: slc p M.length c _ 34 (M.flatMap ckV) :: F) _
    refine gA ?_
    refine H.box (ls := x.vals) rfl rfl rfl rfl fun xb => ?_
    refine gO ?_
    refine H.Ay (by kernel_rfl) (by decide +kernel) (by repeat (first | exact zab | refine zaa ?_ | refine zac ?_ | refine zad ?_)) (S := [_, _]) rfl ?_
    refine HB.Af [(0, false)] 17 (by kernel_rfl) ?_
    refine HQ.Ag (ls := x.vals) rfl rfl rfl (Rd.ofRow (.here _ _ _)) rfl rfl ?_
    refine HQ.Ae rfl ?_
    refine HB.ev1 (i := 1) (by kernel_rfl) rfl ?_
    refine H.Ah rfl rfl rfl (hmay _) ?_
    refine gA ?_
    refine H.on0 rfl ?_
    refine HB.Af [(2, false), (3, false), (4, false), (5, false), (6, false), (7, false), (8, false), (9, false), (10, false), (11, false), (12, false), (13, false), (14, false), (15, false), (16, false), (17, false)] 0 (by kernel_rfl) ?_
    repeat (first | (refine HQ.not (c := false) rfl rfl rfl rfl ?_) | ((first | apply HQ.Aj | apply HQ.Ax); (iterate 3 exact rfl)) | (apply HQ.Aq; (iterate 3 exact rfl); exact inferInstance; exact rfl) | (apply HQ.Ad; (iterate 3 exact rfl); apply Rd1.ofRow; (repeat (first | exact .here _ _ _ | apply At.there)); (iterate 2 exact rfl)) | ((apply HQ.cmp); (iterate 5 exact rfl)) | ((apply HQ.Bb); (iterate 4 exact rfl)) | (apply HQ.gno; (iterate 3 exact rfl); (omega)))
    refine HQ.Ae rfl ?_
    refine HB.Al (by kernel_rfl) ?_
    refine gN ?_
    clear hmay
    refine H.Aw (ι := Nat) (fun i => [(5, .int .i64 (i : Int)), (0, .pointer (some ⟨rb, 0, none⟩)), (3, .pointer (some ⟨xb, 0, none⟩))]) (fun _ => f)
     (fun _ => row xb 54 x.vals :: row rb 41 (rkC n p M.length c) :: slc p M.length c 115 34 (M.flatMap ckV) :: F)
     (fun i => i ≤ M.length ∧ ∀ e ∈ List.take i M, e.1 ≠ (x.m.origin, x.m.body.k)) (fun i => M.length - i) 0 ⟨Nat.zero_le _, fun e he => by simp at he⟩ ⟨rfl, rfl, rfl, trivial⟩ rfl rfl fun i hi => ?_
    obtain ⟨hi, hno⟩ : i ≤ M.length ∧ ∀ e ∈ List.take i M, e.1 ≠ (x.m.origin, x.m.body.k) := hi
    by_cases hlt : i < M.length
    ·obtain ⟨e, he⟩ : ∃ e, M[i]? = some e := ⟨_, List.getElem?_eq_getElem hlt⟩
     refine H.Bp (p := p) (n0 := M.length) (c := c) (.there _ (.there _ (.here _ _ _))) (by omega) fun sb hp => ?_
     subst hp
     have hnext : e.1 ≠ (x.m.origin, x.m.body.k) → ∀ e' ∈ List.take (i + 1) M, e'.1 ≠ (x.m.origin, x.m.body.k) := fun hne e' he' => by
      rw [take_snoc he] at he'
      rcases List.mem_append.1 he' with h | h
      ·exact hno e' h
      ·rw [List.mem_singleton.1 h]; exact hne
     by_cases hA : e.1.1 = x.m.origin
     ·by_cases hB : e.1.2 = x.m.body.k
      ·have hno2 : CM.take M n x.m = (false, M) := if_neg (fun h => tld_none.1 h.2.2.2 e (List.mem_of_getElem? he) (Prod.ext hA hB))
       rw [hno2]
       refine gQ ?_
       refine H.Bg (by kernel_rfl) (by decide +kernel) (by repeat (first | exact zab | refine zaa ?_ | refine zac ?_ | refine zad ?_)) ?_
       refine gE ?_
       skip
       refine HQ.Ap (i := i) rfl rfl rfl rfl hlt rfl ?_
       refine gC ?_
       refine HQ.Ad rfl rfl rfl (Rd1.of (i := 0) (by rw [Nat.zero_add]; exact Rd.slcElem zba (by decide) (.there _ (.there _ (.here _ _ _))) he) rfl) rfl ?_
       refine gW ?_
       refine HQ.Ap (i := i) rfl rfl rfl rfl hlt rfl ?_
       refine gC ?_
       refine HQ.Ad rfl rfl rfl (Rd1.of (i := 1) (by rw [Nat.zero_add]; exact Rd.slcElem zba (by decide) (.there _ (.there _ (.here _ _ _))) he) rfl) rfl ?_
       refine gW ?_
       refine gI ?_
       refine H.Ab (x := row xb _ _) (by repeat constructor) ?_
       refine H.imp (rck_fold (_, c)) ?_
       exact H.Ac rfl rfl (fun _ h => h) ⟨rfl, rfl, rfl⟩
      ·skip
       refine gQ ?_
       refine H.Bg (by kernel_rfl) (by decide +kernel) (by repeat (first | exact zab | refine zaa ?_ | refine zac ?_ | refine zad ?_)) ?_
       refine gE ?_
       skip
       refine HQ.Ap (i := i) rfl rfl rfl rfl hlt rfl ?_
       refine gC ?_
       refine HQ.Ad rfl rfl rfl (Rd1.of (i := 0) (by rw [Nat.zero_add]; exact Rd.slcElem zba (by decide) (.there _ (.there _ (.here _ _ _))) he) rfl) rfl ?_
       refine gW ?_
       refine HQ.Ap (i := i) rfl rfl rfl rfl hlt rfl ?_
       refine gC ?_
       refine HQ.Ad rfl rfl rfl (Rd1.of (i := 1) (by rw [Nat.zero_add]; exact Rd.slcElem zba (by decide) (.there _ (.there _ (.here _ _ _))) he) rfl) rfl ?_
       refine gW ?_
       refine gN ?_
       exact H.Ao (i + 1) ⟨by show i + 1 ≤ M.length; omega, hnext fun h => hB (congrArg Prod.snd h)⟩ (by show M.length - (i + 1) < M.length - i; omega) ⟨rfl, rfl, rfl, trivial⟩ rfl rfl
     ·skip
      refine gQ ?_
      refine H.Bg (by kernel_rfl) (by decide +kernel) (by repeat (first | exact zab | refine zaa ?_ | refine zac ?_ | refine zad ?_)) ?_
      refine gE ?_
      skip
      refine HQ.Ap (i := i) rfl rfl rfl rfl hlt rfl ?_
      refine gC ?_
      refine HQ.Ad rfl rfl rfl (Rd1.of (i := 0) (by rw [Nat.zero_add]; exact Rd.slcElem zba (by decide) (.there _ (.there _ (.here _ _ _))) he) rfl) rfl ?_
      refine gW ?_
      refine gM ?_
      exact H.Ao (i + 1) ⟨by show i + 1 ≤ M.length; omega, hnext fun h => hA (congrArg Prod.fst h)⟩ (by show M.length - (i + 1) < M.length - i; omega) ⟨rfl, rfl, rfl, trivial⟩ rfl rfl
    ·have hall : tld M (x.m.origin, x.m.body.k) = none := tld_none.2 fun e he => hno e (by rw [List.take_of_length_le (by omega)]; exact he)
     have hyes : CM.take M n x.m = (true, M ++ [((x.m.origin, x.m.body.k), dOf x.m.body.dig)]) := if_pos ⟨hm, h1, h2, hall⟩
     rw [hyes]
     clear hyes hall hno hm
     refine gQ ?_
     refine H.Bt [0, 1, 2, 3, 4, 5, 6, 7, 8, 9, 10, 11, 12, 13, 14, 15] (by kernel_rfl) (by decide +kernel) (by repeat (first | exact zab | refine zaa ?_ | refine zac ?_ | refine zad ?_)) (S := [_, _]) rfl ?_
     refine HB.Af [(0, false), (1, false), (2, false), (3, false), (4, false), (5, false), (6, false), (7, false), (8, false), (9, false), (10, false), (11, false), (12, false), (13, false)] 5 (by kernel_rfl) ?_
     refine gE ?_
     refine HQ.Ag (ls := dV (dOf x.m.body.dig)) rfl rfl rfl (mv_dig (.here _ _ _)) rfl rfl ?_
     refine HQ.Bc (t := 115) (out := ckV ((x.m.origin, x.m.body.k), dOf x.m.body.dig)) rfl rfl rfl (by kernel_rfl) rfl ?_
     refine HQ.Ae rfl ?_
     refine HB.ev1 (i := 14) (by kernel_rfl) rfl ?_
     refine H.Be (out := ckV ((x.m.origin, x.m.body.k), dOf x.m.body.dig)) rfl rfl rfl rfl (by decide) (by decide) rfl rfl fun eb => ?_
     refine gA ?_
     refine H.Aa (x := row rb _ _) (by repeat constructor) ?_
     refine H.Aa (x := row xb _ _) (by repeat constructor) ?_
     refine H.on0 rfl ?_
     refine HB.ev1 (i := 15) (by kernel_rfl) rfl ?_
     refine H.Bf (p := p) (n0 := M.length) (c := c) (xs := M.flatMap ckV) (m := 1) (news := ckV ((x.m.origin, x.m.body.k), dOf x.m.body.dig)) rfl rfl rfl rfl rfl (fun p' c' => (by repeat constructor)) (Src.slice (Rd.ofRow (by repeat constructor)) rfl) (ckV_one _) rfl (by omega) (by omega) fun p2 c2 => ?_
     refine gA ?_
     refine H.Ab (x := row eb _ _) (by repeat constructor) ?_
     refine H.on0 rfl ?_
     refine HB.next [] (by kernel_rfl) (S' := []) rfl ?_
     refine HB.Af [(16, false), (17, false)] 1 (by kernel_rfl) ?_
     refine gE ?_
     refine HQ.Ae rfl ?_
     refine HB.ev1 (i := 18) (by kernel_rfl) rfl ?_
     refine H.Bj (ls := rkC n p M.length c) (ls' := rkC n p2 (M.length + 1) c2) rfl rfl rfl rfl (.there _ (.here _ _ _)) (.there _ (.here _ _ _)) ?_
     refine gA ?_
     refine H.on0 rfl ?_
     refine HB.Al (by kernel_rfl) ?_
     refine gX ?_
     refine H.Ab (x := row xb _ _) (by repeat constructor) ?_
     have e1 : (M ++ [((x.m.origin, x.m.body.k), dOf x.m.body.dig)]).length = M.length + 1 := by rw [List.length_append]; rfl
     have e2 : (M ++ [((x.m.origin, x.m.body.k), dOf x.m.body.dig)]).flatMap ckV = M.flatMap ckV ++ ckV ((x.m.origin, x.m.body.k), dOf x.m.body.dig) := by rw [List.flatMap_append]; simp
     refine H.conv (A' := rkB rb n (M ++ [((x.m.origin, x.m.body.k), dOf x.m.body.dig)]) (p2, c2) ++ F) (by unfold rkB; rw [e1, e2]; rfl) ?_
     refine H.imp (rck_fold (p2, c2)) ?_
     exact H.Ac rfl rfl (fun _ h => h) ⟨rfl, rfl, rfl⟩
   ·have hno : CM.take M n x.m = (false, M) := if_neg (fun h => h2 h.2.2.1)
    rw [hno]
    clear hm hno
    refine Fn.enter Tryz.func18 rfl Tryz.ntmps18 rfl (L := [(0, _), (1, _)]) ⟨rfl, rfl, trivial⟩ fun base => ?_
    show H _ _ _ _ _ (row rb _ (rkC n p M.length c) :: slc p M.length c _ 34 (M.flatMap ckV) :: F) _
    refine gA ?_
    refine H.box (ls := x.vals) rfl rfl rfl rfl fun xb => ?_
    refine gO ?_
    refine H.Ay (by kernel_rfl) (by decide +kernel) (by repeat (first | exact zab | refine zaa ?_ | refine zac ?_ | refine zad ?_)) (S := [_, _]) rfl ?_
    refine HB.Af [(0, false)] 17 (by kernel_rfl) ?_
    refine HQ.Ag (ls := x.vals) rfl rfl rfl (Rd.ofRow (.here _ _ _)) rfl rfl ?_
    refine HQ.Ae rfl ?_
    refine HB.ev1 (i := 1) (by kernel_rfl) rfl ?_
    refine H.Ah rfl rfl rfl (hmay _) ?_
    refine gA ?_
    refine H.on0 rfl ?_
    refine HB.Af [(2, false), (3, false), (4, false), (5, false), (6, false), (7, false), (8, false), (9, false), (10, false), (11, false), (12, false), (13, false), (14, false), (15, false), (16, false), (17, false)] 0 (by kernel_rfl) ?_
    repeat (first | (refine HQ.not (c := false) rfl rfl rfl rfl ?_) | ((first | apply HQ.Aj | apply HQ.Ax); (iterate 3 exact rfl)) | (apply HQ.Aq; (iterate 3 exact rfl); exact inferInstance; exact rfl) | (apply HQ.Ad; (iterate 3 exact rfl); apply Rd1.ofRow; (repeat (first | exact .here _ _ _ | apply At.there)); (iterate 2 exact rfl)) | ((apply HQ.cmp); (iterate 5 exact rfl)) | ((apply HQ.Bb); (iterate 4 exact rfl)) | (apply HQ.gno; (iterate 3 exact rfl); (omega)))
    refine HQ.Ae rfl ?_
    refine HB.Al (by kernel_rfl) ?_
    refine gI ?_
    refine H.Ab (x := row xb _ _) (by repeat constructor) ?_
    refine H.imp (rck_fold (p, c)) ?_
    exact H.Ac rfl rfl (fun _ h => h) ⟨rfl, rfl, rfl⟩
  ·have hno : CM.take M n x.m = (false, M) := if_neg (fun h => h1 h.2.1)
   rw [hno]
   clear hm hno
   refine Fn.enter Tryz.func18 rfl Tryz.ntmps18 rfl (L := [(0, _), (1, _)]) ⟨rfl, rfl, trivial⟩ fun base => ?_
   show H _ _ _ _ _ (row rb _ (rkC n p M.length c) :: slc p M.length c _ 34 (M.flatMap ckV) :: F) _
   refine gA ?_
   refine H.box (ls := x.vals) rfl rfl rfl rfl fun xb => ?_
   refine gO ?_
   refine H.Ay (by kernel_rfl) (by decide +kernel) (by repeat (first | exact zab | refine zaa ?_ | refine zac ?_ | refine zad ?_)) (S := [_, _]) rfl ?_
   refine HB.Af [(0, false)] 17 (by kernel_rfl) ?_
   refine HQ.Ag (ls := x.vals) rfl rfl rfl (Rd.ofRow (.here _ _ _)) rfl rfl ?_
   refine HQ.Ae rfl ?_
   refine HB.ev1 (i := 1) (by kernel_rfl) rfl ?_
   refine H.Ah rfl rfl rfl (hmay _) ?_
   refine gA ?_
   refine H.on0 rfl ?_
   refine HB.Af [(2, false), (3, false), (4, false), (5, false), (6, false), (7, false), (8, false), (9, false), (10, false), (11, false), (12, false), (13, false), (14, false), (15, false), (16, false), (17, false)] 0 (by kernel_rfl) ?_
   repeat (first | (refine HQ.not (c := false) rfl rfl rfl rfl ?_) | ((first | apply HQ.Aj | apply HQ.Ax); (iterate 3 exact rfl)) | (apply HQ.Aq; (iterate 3 exact rfl); exact inferInstance; exact rfl) | (apply HQ.Ad; (iterate 3 exact rfl); apply Rd1.ofRow; (repeat (first | exact .here _ _ _ | apply At.there)); (iterate 2 exact rfl)) | ((apply HQ.cmp); (iterate 5 exact rfl)) | (apply HQ.Bm; (iterate 2 exact rfl)) | (apply HQ.Bi; (iterate 4 exact rfl)) | ((apply HQ.Bb); (iterate 4 exact rfl)) | (apply HQ.Bo; (iterate 3 exact rfl); (omega)))
   refine HQ.Ae rfl ?_
   refine HB.Al (by kernel_rfl) ?_
   refine ge ?_
   refine H.Ab (x := row xb _ _) (by repeat constructor) ?_
   refine H.imp (rck_fold (p, c)) ?_
   exact H.Ac rfl rfl (fun _ h => h) ⟨rfl, rfl, rfl⟩
def votA (k : Int) (a : (Int × Int) × D32) (M : CM) : Nat := if a.1.2 = k then vot k a.2 M else 0
theorem votA_snoc {k : Int} {a : (Int × Int) × D32} {M : CM} {j : Nat} {e : (Int × Int) × D32} (h : M[j]? = some e) : votA k a (List.take (j + 1) M) = votA k a (List.take j M) + (if a.1.2 = k ∧ e.1.2 = k ∧ a.2 = e.2 then 1 else 0) := by
 unfold votA
 by_cases h1 : a.1.2 = k
 ·rw [if_pos h1, if_pos h1, vot_snoc h]
  by_cases h2 : e.1.2 = k ∧ e.2 = a.2
  ·rw [if_pos h2, if_pos ⟨h1, h2.1, h2.2.symm⟩]
  ·rw [if_neg h2, if_neg (fun h3 => h2 ⟨h3.2.1, h3.2.2.symm⟩)]
 ·rw [if_neg h1, if_neg h1, if_neg (fun h3 => h1 h3.1)]
set_option maxRecDepth 20000 in
set_option maxHeartbeats 1600000 in
theorem rcdig_core {rb n : Nat} {M : CM} {p : Option Addr} {c : Nat} (hI : DI n M) (hn : 3 ≤ n ∧ n ≤ 11) (hodd : n % 2 = 1) (hl : M.length ≤ 100000) (k : Int) :
  Fn Tryz.prog 20 [.pointer (some ⟨rb, 0, none⟩), .int .u64 k] f (row rb 41 (rkC n p M.length c) :: slc p M.length c 115 34 (M.flatMap ckV) :: F)
   (RetP (digR n (tells M k)) dgV f (fun _ => row rb 41 (rkC n p M.length c) :: slc p M.length c 115 34 (M.flatMap ckV) :: F)) := by
 have hhalf : IntKind.wrap .i64 ((((n : Nat) : Int) - 1).tdiv 2) = (((n - 1) / 2 : Nat) : Int) := by
  rw [show ((n : Nat) : Int) - 1 = ((n - 1 : Nat) : Int) by omega, show (2 : Int) = ((2 : Nat) : Int) from rfl, tdiv64, wr_i64 (by omega)]
 refine Fn.enter Tryz.func20 rfl Tryz.ntmps20 rfl (L := [(0, _), (1, _)]) ⟨rfl, rfl, trivial⟩ fun base => ?_
 refine gA ?_
 refine H.Am (ls := dV dZ) rfl rfl rfl fun ob => ?_
 refine gX ?_
 refine H.Aw (ι := Nat) (fun i => [(6, .int .i64 (i : Int)), (0, .pointer (some ⟨rb, 0, none⟩)), (1, .int .u64 k), (4, .pointer (some ⟨ob, 0, none⟩)), (5, .bool false)]) (fun _ => f)
  (fun _ => row ob 47 (dV dZ) :: row rb 41 (rkC n p M.length c) :: slc p M.length c 115 34 (M.flatMap ckV) :: F)
  (fun i => i ≤ M.length ∧ ∀ j e, j < i → M[j]? = some e → e.1.2 = k → vot k e.2 M < (n - 1) / 2 + 1) (fun i => M.length - i) 0 ⟨Nat.zero_le _, fun j e hj => by omega⟩ ⟨rfl, rfl, rfl, rfl, rfl, trivial⟩ rfl rfl fun i hi => ?_
 obtain ⟨hi, hno⟩ : i ≤ M.length ∧ ∀ j e, j < i → M[j]? = some e → e.1.2 = k → vot k e.2 M < (n - 1) / 2 + 1 := hi
 by_cases hlt : i < M.length
 ·obtain ⟨a, ha⟩ : ∃ a, M[i]? = some a := ⟨_, List.getElem?_eq_getElem hlt⟩
  refine H.Bp (p := p) (n0 := M.length) (c := c) (.there _ (.there _ (.here _ _ _))) (by omega) fun sb hp => ?_
  subst hp
  refine gQ ?_
  refine H.Aw (ι := Nat × Nat) (fun s => [(8, .int .i64 (s.1 : Int)), (7, .int .i64 (s.2 : Int)), (6, .int .i64 (i : Int)), (0, .pointer (some ⟨rb, 0, none⟩)), (1, .int .u64 k), (4, .pointer (some ⟨ob, 0, none⟩)), (5, .bool false)]) (fun _ => f)
   (fun _ => row ob 47 (dV dZ) :: row rb 41 (rkC n (some ⟨sb, 0, none⟩) M.length c) :: slc (some ⟨sb, 0, none⟩) M.length c 115 34 (M.flatMap ckV) :: F)
   (fun s => s.1 ≤ M.length ∧ s.2 = votA k a (List.take s.1 M)) (fun s => M.length - s.1) (0, 0) ⟨Nat.zero_le _, by show 0 = votA k a (List.take 0 M); unfold votA vot; split <;> rfl⟩ ⟨rfl, rfl, rfl, rfl, rfl, rfl, rfl, trivial⟩ rfl rfl fun s hs => ?_
  obtain ⟨j, v⟩ := s
  obtain ⟨hj, hv⟩ : j ≤ M.length ∧ v = votA k a (List.take j M) := hs
  show H _ _ _ [(8, .int .i64 (j : Int)), (7, .int .i64 (v : Int)), _, _, _, _, _] _ _ _
  have hvl : v ≤ M.length := by
   rw [hv]
   unfold votA vot
   split
   ·refine Nat.le_trans (List.length_filter_le _ _) ?_
    rw [List.length_take]; omega
   ·omega
  by_cases hjl : j < M.length
  ·obtain ⟨e, he⟩ : ∃ e, M[j]? = some e := ⟨_, List.getElem?_eq_getElem hjl⟩
   by_cases h1 : a.1.2 = k
   ·by_cases h2 : e.1.2 = k
    ·by_cases h3 : a.2 = e.2
     ·have hnn : a.1.2 = k ∧ e.1.2 = k ∧ a.2 = e.2 := ⟨h1, h2, h3⟩
      refine gQ ?_
      refine H.Bg (by kernel_rfl) (by decide +kernel) (by repeat (first | exact zab | refine zaa ?_ | refine zac ?_ | refine zad ?_)) ?_
      refine gE ?_
      skip
      refine HQ.Ap (i := i) rfl rfl rfl rfl hlt rfl ?_
      refine gC ?_
      refine HQ.Ad rfl rfl rfl (Rd1.of (i := 1) (by rw [Nat.zero_add]; exact Rd.slcElem zba (by decide) (.there _ (.there _ (.here _ _ _))) ha) rfl) rfl ?_
      refine gW ?_
      refine HQ.Ap (i := j) rfl rfl rfl rfl hjl rfl ?_
      refine gC ?_
      refine HQ.Ad rfl rfl rfl (Rd1.of (i := 1) (by rw [Nat.zero_add]; exact Rd.slcElem zba (by decide) (.there _ (.there _ (.here _ _ _))) he) rfl) rfl ?_
      refine gW ?_
      refine HQ.Ap (i := i) rfl rfl rfl rfl hlt rfl ?_
      refine gC ?_
      refine HQ.Ag (ls := dV a.2) rfl rfl rfl (ck_dig (.there _ (.there _ (.here _ _ _))) ha) (dV_len _) rfl ?_
      refine gE ?_
      refine HQ.Ap (i := j) rfl rfl rfl rfl hjl rfl ?_
      refine gC ?_
      refine HQ.Ag (ls := dV e.2) rfl rfl rfl (ck_dig (.there _ (.there _ (.here _ _ _))) he) (dV_len _) rfl ?_
      refine HQ.aggEq (xs := dV a.2) (ys := dV e.2) (D := 4) (b := true) rfl rfl rfl rfl (by kernel_rfl) (dV_shp _) (dV_shp _) (by kernel_rfl) (by decide) ((dV_eq _ _).trans (decide_eq_true h3)) rfl ?_
      refine gW ?_
      refine gG ?_
      exact H.Ao (j + 1, v + 1) ⟨by show j + 1 ≤ M.length; omega, by show v + 1 = votA k a (List.take (j + 1) M); rw [votA_snoc he, if_pos hnn, ← hv]⟩ (by show M.length - (j + 1) < M.length - j; omega) ⟨rfl, rfl, rfl, rfl, rfl, rfl, rfl, trivial⟩ rfl rfl
     ·have hnn : ¬ (a.1.2 = k ∧ e.1.2 = k ∧ a.2 = e.2) := fun h => h3 h.2.2
      refine gQ ?_
      refine H.Bg (by kernel_rfl) (by decide +kernel) (by repeat (first | exact zab | refine zaa ?_ | refine zac ?_ | refine zad ?_)) ?_
      refine gE ?_
      skip
      refine HQ.Ap (i := i) rfl rfl rfl rfl hlt rfl ?_
      refine gC ?_
      refine HQ.Ad rfl rfl rfl (Rd1.of (i := 1) (by rw [Nat.zero_add]; exact Rd.slcElem zba (by decide) (.there _ (.there _ (.here _ _ _))) ha) rfl) rfl ?_
      refine gW ?_
      refine HQ.Ap (i := j) rfl rfl rfl rfl hjl rfl ?_
      refine gC ?_
      refine HQ.Ad rfl rfl rfl (Rd1.of (i := 1) (by rw [Nat.zero_add]; exact Rd.slcElem zba (by decide) (.there _ (.there _ (.here _ _ _))) he) rfl) rfl ?_
      refine gW ?_
      refine HQ.Ap (i := i) rfl rfl rfl rfl hlt rfl ?_
      refine gC ?_
      refine HQ.Ag (ls := dV a.2) rfl rfl rfl (ck_dig (.there _ (.there _ (.here _ _ _))) ha) (dV_len _) rfl ?_
      refine gE ?_
      refine HQ.Ap (i := j) rfl rfl rfl rfl hjl rfl ?_
      refine gC ?_
      refine HQ.Ag (ls := dV e.2) rfl rfl rfl (ck_dig (.there _ (.there _ (.here _ _ _))) he) (dV_len _) rfl ?_
      refine HQ.aggEq (xs := dV a.2) (ys := dV e.2) (D := 4) (b := false) rfl rfl rfl rfl (by kernel_rfl) (dV_shp _) (dV_shp _) (by kernel_rfl) (by decide) ((dV_eq _ _).trans (decide_eq_false h3)) rfl ?_
      refine gW ?_
      refine gM ?_
      exact H.Ao (j + 1, v) ⟨by show j + 1 ≤ M.length; omega, by show v = votA k a (List.take (j + 1) M); rw [votA_snoc he, if_neg hnn]; exact hv⟩ (by show M.length - (j + 1) < M.length - j; omega) ⟨rfl, rfl, rfl, rfl, rfl, rfl, rfl, trivial⟩ rfl rfl
    ·have hnn : ¬ (a.1.2 = k ∧ e.1.2 = k ∧ a.2 = e.2) := fun h => h2 h.2.1
     refine gQ ?_
     refine H.Bg (by kernel_rfl) (by decide +kernel) (by repeat (first | exact zab | refine zaa ?_ | refine zac ?_ | refine zad ?_)) ?_
     refine gE ?_
     skip
     refine HQ.Ap (i := i) rfl rfl rfl rfl hlt rfl ?_
     refine gC ?_
     refine HQ.Ad rfl rfl rfl (Rd1.of (i := 1) (by rw [Nat.zero_add]; exact Rd.slcElem zba (by decide) (.there _ (.there _ (.here _ _ _))) ha) rfl) rfl ?_
     refine gW ?_
     refine HQ.Ap (i := j) rfl rfl rfl rfl hjl rfl ?_
     refine gC ?_
     refine HQ.Ad rfl rfl rfl (Rd1.of (i := 1) (by rw [Nat.zero_add]; exact Rd.slcElem zba (by decide) (.there _ (.there _ (.here _ _ _))) he) rfl) rfl ?_
     refine gW ?_
     refine gM ?_
     exact H.Ao (j + 1, v) ⟨by show j + 1 ≤ M.length; omega, by show v = votA k a (List.take (j + 1) M); rw [votA_snoc he, if_neg hnn]; exact hv⟩ (by show M.length - (j + 1) < M.length - j; omega) ⟨rfl, rfl, rfl, rfl, rfl, rfl, rfl, trivial⟩ rfl rfl
   ·have hnn : ¬ (a.1.2 = k ∧ e.1.2 = k ∧ a.2 = e.2) := fun h => h1 h.1
    refine gQ ?_
    refine H.Bg (by kernel_rfl) (by decide +kernel) (by repeat (first | exact zab | refine zaa ?_ | refine zac ?_ | refine zad ?_)) ?_
    refine gE ?_
    skip
    refine HQ.Ap (i := i) rfl rfl rfl rfl hlt rfl ?_
    refine gC ?_
    refine HQ.Ad rfl rfl rfl (Rd1.of (i := 1) (by rw [Nat.zero_add]; exact Rd.slcElem zba (by decide) (.there _ (.there _ (.here _ _ _))) ha) rfl) rfl ?_
    refine gW ?_
    refine gM ?_
    exact H.Ao (j + 1, v) ⟨by show j + 1 ≤ M.length; omega, by show v = votA k a (List.take (j + 1) M); rw [votA_snoc he, if_neg hnn]; exact hv⟩ (by show M.length - (j + 1) < M.length - j; omega) ⟨rfl, rfl, rfl, rfl, rfl, rfl, rfl, trivial⟩ rfl rfl
  ·have hjM : List.take j M = M := List.take_of_length_le (by omega)
   rw [hjM] at hv
   refine gZ ?_
   refine H.quo rfl rfl rfl (by decide) hhalf rfl ?_
   by_cases hge : (n - 1) / 2 + 1 ≤ v
   ·have hk : a.1.2 = k := by
     by_cases h : a.1.2 = k
     ·exact h
     ·unfold votA at hv; rw [if_neg h] at hv; omega
    have hres : digR n (tells M k) (some a.2) := dig_found hI hodd (by unfold votA at hv; rw [if_pos hk] at hv; omega)
    refine gc ?_
    refine H.Ap (i := i) rfl rfl rfl rfl hlt rfl ?_
    refine gS ?_
    refine H.Ag (ls := dV a.2) rfl rfl rfl (ck_dig (.there _ (.there _ (.here _ _ _))) ha) (dV_len _) rfl ?_
    refine H.Ak (ls := dV dZ) (vs := dV a.2) (ls' := dV a.2) rfl rfl rfl (dV_one _) (dV_len _) (zal (by rw [dV_len, dV_len])) (by rw [dV_len, dV_len]; decide) (.here _ _ _) ?_
    refine gX ?_
    exact H.retCT rfl rfl rfl rfl (Rd.ofRow (.here _ _ _)) (dV_len _) (fun _ s => s.drop (.here _ _)) ⟨some a.2, hres, rfl, rfl, rfl⟩
   ·skip
    refine gN ?_
    exact H.Ao (i + 1) ⟨by show i + 1 ≤ M.length; omega, fun j' e' h h2 h3 => by
     by_cases e : j' = i
     ·subst e
      rw [ha] at h2
      cases h2
      unfold votA at hv
      rw [if_pos h3] at hv
      omega
     ·exact hno j' e' (by have : j' < i + 1 := h; omega) h2 h3⟩ (by show M.length - (i + 1) < M.length - i; omega) ⟨rfl, rfl, rfl, rfl, rfl, trivial⟩ rfl rfl
 ·have hres : digR n (tells M k) none := dig_none hI hodd fun e he hk => by
   obtain ⟨j, hj⟩ := List.getElem?_of_mem he
   exact hno j e (by have := (List.getElem?_eq_some_iff.1 hj).1; omega) hj hk
  refine gQ ?_
  refine H.buildA (out := b32 (fun _ => 0)) rfl rfl rfl rfl rfl ?_
  refine H.Ak (ls := dV dZ) (vs := b32 fun _ => 0) (ls' := b32 fun _ => 0) rfl rfl rfl (zae rfl) rfl rfl (Nat.le_refl 32) (.here _ _ _) ?_
  refine gX ?_
  exact H.retCT rfl rfl rfl rfl (Rd.ofRow (.here _ _ _)) rfl (fun _ s => s.drop (.here _ _)) ⟨none, hres, rfl, rfl, rfl⟩
theorem rcdig_fn {rb n : Nat} {M : CM} (hI : DI n M) (hn : 3 ≤ n ∧ n ≤ 11) (hodd : n % 2 = 1) (hl : M.length ≤ 100000) (k : Int) :
  Fn Tryz.prog 20 [.pointer (some ⟨rb, 0, none⟩), .int .u64 k] f (rckH rb n M :: F) (RetP (digR n (tells M k)) dgV f (fun _ => rckH rb n M :: F)) := by
 refine Fn.unpack fun i _ => ?_
 obtain ⟨p, c⟩ := i
 refine Fn.monoA (rcdig_core f F hI hn hodd hl k) ?_
 rintro v f' A' ⟨o, ho, rfl, rfl, rfl⟩
 exact ⟨_, ⟨o, ho, rfl, rfl, rfl⟩, fun x hx => rck_fold (p, c) x hx⟩
set_option maxRecDepth 20000 in
set_option maxHeartbeats 1600000 in
theorem rcst_core {rb n : Nat} {M : CM} {p : Option Addr} {c : Nat} (hI : DI n M) (hn : 3 ≤ n ∧ n ≤ 11) (hodd : n % 2 = 1) (hl : M.length ≤ 100000) :
  Fn Tryz.prog 23 [.pointer (some ⟨rb, 0, none⟩)] f (row rb 41 (rkC n p M.length c) :: slc p M.length c 115 34 (M.flatMap ckV) :: F)
   (RetP (stR n M) stV f (fun _ => row rb 41 (rkC n p M.length c) :: slc p M.length c 115 34 (M.flatMap ckV) :: F)) := by
 refine Fn.enter Tryz.func23 rfl Tryz.ntmps23 rfl (L := [(0, _)]) ⟨rfl, trivial⟩ fun base => ?_
 refine gO ?_
 refine H.Am (ls := dV dZ) rfl rfl rfl fun ob => ?_
 refine gO ?_
 refine H.Am (ls := dV dZ) rfl rfl rfl fun db => ?_
 refine gX ?_
 refine H.Aw (ι := Nat × (Int × D32)) (fun s => [(6, .int .i64 (s.1 : Int)), (0, .pointer (some ⟨rb, 0, none⟩)), (2, .int .u64 0), (3, .pointer (some ⟨ob, 0, none⟩)), (4, .int .u64 s.2.1), (5, .pointer (some ⟨db, 0, none⟩))]) (fun _ => f)
  (fun s => row db 47 (dV s.2.2) :: row ob 47 (dV dZ) :: row rb 41 (rkC n p M.length c) :: slc p M.length c 115 34 (M.flatMap ckV) :: F)
  (fun s => s.1 ≤ M.length ∧ (s.2 = (0, dZ) ∨ (0 < s.2.1 ∧ digR n (tells M s.2.1) (some s.2.2))) ∧ ∀ j e, j < s.1 → M[j]? = some e → ∀ d', digR n (tells M e.1.2) (some d') → e.1.2 ≤ s.2.1) (fun s => M.length - s.1) (0, (0, dZ)) ⟨Nat.zero_le _, .inl rfl, fun j e hj => by omega⟩ ⟨rfl, rfl, rfl, rfl, rfl, rfl, trivial⟩ rfl rfl fun s hs => ?_
 obtain ⟨i, b⟩ := s
 obtain ⟨hi, hb, hall⟩ : i ≤ M.length ∧ (b = (0, dZ) ∨ (0 < b.1 ∧ digR n (tells M b.1) (some b.2))) ∧ ∀ j e, j < i → M[j]? = some e → ∀ d', digR n (tells M e.1.2) (some d') → e.1.2 ≤ b.1 := hs
 show H _ _ _ [(6, .int .i64 (i : Int)), _, _, _, (4, .int .u64 b.1), _] _ (row db _ (dV b.2) :: _) _
 by_cases hlt : i < M.length
 ·obtain ⟨a, ha⟩ : ∃ a, M[i]? = some a := ⟨_, List.getElem?_eq_getElem hlt⟩
  refine H.Bp (p := p) (n0 := M.length) (c := c) (.there _ (.there _ (.there _ (.here _ _ _)))) (by omega) fun sb hp => ?_
  subst hp
  refine gQ ?_
  refine H.Ap (i := i) rfl rfl rfl rfl hlt rfl ?_
  refine gS ?_
  refine H.Ad rfl rfl rfl (Rd1.of (i := 1) (by rw [Nat.zero_add]; exact Rd.slcElem zba (by decide) (.there _ (.there _ (.there _ (.here _ _ _)))) ha) rfl) rfl ?_
  refine H.Aa (x := slc _ _ _ _ _ _) (by repeat constructor) ?_
  refine H.Aa (x := row rb _ _) (by repeat constructor) ?_
  refine H.callP rfl rfl rfl (rcdig_core f _ hI hn hodd hl _) fun o ho => ?_
  refine gR ?_
  refine H.Am (ls := dV dZ) rfl rfl rfl fun yb => ?_
  refine H.Ak (ls := dV dZ) (vs := dV (o.getD dZ)) (ls' := dV (o.getD dZ)) rfl rfl rfl (dV_one _) (dV_len _) (zal (by rw [dV_len, dV_len])) (by rw [dV_len, dV_len]; decide) (.here _ _ _) ?_
  refine H.Aa (x := slc _ _ _ _ _ _) (by repeat constructor) ?_
  refine H.Aa (x := row rb _ _) (by repeat constructor) ?_
  refine H.Aa (x := row ob _ _) (by repeat constructor) ?_
  refine H.Aa (x := row db _ _) (by repeat constructor) ?_
  cases o with
  | none =>
   have hnew : ∀ d', digR n (tells M a.1.2) (some d') → a.1.2 ≤ b.1 := fun d' hd' => by cases digR_one ho hd'
   refine gT ?_
   refine H.Ab (x := row yb _ _) (by repeat constructor) ?_
   exact H.Ao (i + 1, b) ⟨by show i + 1 ≤ M.length; omega, hb, fun j e hj he d' hd' => by
    by_cases e1 : j = i
    ·subst e1
     rw [ha] at he
     cases he
     exact hnew d' hd'
    ·exact hall j e (by have : j < i + 1 := hj; omega) he d' hd'⟩ (by show M.length - (i + 1) < M.length - i; omega) ⟨rfl, rfl, rfl, rfl, rfl, rfl, trivial⟩ rfl rfl
  | some x =>
   by_cases hgt : b.1 < a.1.2
   ·have hb0 : 0 ≤ b.1 := by
     rcases hb with h | h
     ·rw [h]; exact Int.le_refl _
     ·omega
    refine gK ?_
    refine H.Ap (i := i) rfl rfl rfl rfl hlt rfl ?_
    refine gS ?_
    refine H.Ad rfl rfl rfl (Rd1.of (i := 1) (by rw [Nat.zero_add]; exact Rd.slcElem zba (by decide) (.there _ (.there _ (.there _ (.here _ _ _)))) ha) rfl) rfl ?_
    refine gc ?_
    refine H.Ap (i := i) rfl rfl rfl rfl hlt rfl ?_
    refine gS ?_
    refine H.Ad rfl rfl rfl (Rd1.of (i := 1) (by rw [Nat.zero_add]; exact Rd.slcElem zba (by decide) (.there _ (.there _ (.there _ (.here _ _ _)))) ha) rfl) rfl ?_
    refine gO ?_
    refine H.Ag (ls := dV x) rfl rfl rfl (Rd.ofRow (by repeat constructor)) (dV_len x) rfl ?_
    refine H.Ak (ls := dV b.2) (vs := dV x) (ls' := dV x) rfl rfl rfl (dV_one _) (dV_len _) (zal (by rw [dV_len, dV_len])) (by rw [dV_len, dV_len]; decide) (.here _ _ _) ?_
    refine ge ?_
    refine H.Ab (x := row yb _ _) (by repeat constructor) ?_
    exact H.Ao (i + 1, (a.1.2, x)) ⟨by show i + 1 ≤ M.length; omega, .inr ⟨by show 0 < a.1.2; omega, ho⟩, fun j e hj he d' hd' => by
     show e.1.2 ≤ a.1.2
     by_cases e1 : j = i
     ·subst e1
      rw [ha] at he
      cases he
      exact Int.le_refl _
     ·have := hall j e (by have : j < i + 1 := hj; omega) he d' hd'; omega⟩ (by show M.length - (i + 1) < M.length - i; omega) ⟨rfl, rfl, rfl, rfl, rfl, rfl, trivial⟩ rfl rfl
   ·have hnew : ∀ d', digR n (tells M a.1.2) (some d') → a.1.2 ≤ b.1 := fun d' _ => by omega
    refine gK ?_
    refine H.Ap (i := i) rfl rfl rfl rfl hlt rfl ?_
    refine gS ?_
    refine H.Ad rfl rfl rfl (Rd1.of (i := 1) (by rw [Nat.zero_add]; exact Rd.slcElem zba (by decide) (.there _ (.there _ (.there _ (.here _ _ _)))) ha) rfl) rfl ?_
    refine gc ?_
    refine H.Ab (x := row yb _ _) (by repeat constructor) ?_
    exact H.Ao (i + 1, b) ⟨by show i + 1 ≤ M.length; omega, hb, fun j e hj he d' hd' => by
     by_cases e1 : j = i
     ·subst e1
      rw [ha] at he
      cases he
      exact hnew d' hd'
     ·exact hall j e (by have : j < i + 1 := hj; omega) he d' hd'⟩ (by show M.length - (i + 1) < M.length - i; omega) ⟨rfl, rfl, rfl, rfl, rfl, rfl, trivial⟩ rfl rfl
 ·have hres : stR n M b := st_final hb fun e he d hd => by
   obtain ⟨j, hj⟩ := List.getElem?_of_mem he
   exact hall j e (by have := (List.getElem?_eq_some_iff.1 hj).1; omega) hj d hd
  refine gQ ?_
  refine H.Ay (by kernel_rfl) (by decide +kernel) (by repeat (first | exact zab | refine zaa ?_ | refine zac ?_ | refine zad ?_)) (S := [_]) rfl ?_
  refine HB.Af [(0, false), (1, false), (2, false)] 1 (by kernel_rfl) ?_
  repeat (first | (refine HQ.Ag (ls := dV b.2) rfl rfl rfl (Rd.ofRow (.here _ _ _)) (dV_len _) rfl ?_) | ((first | apply HQ.Aj | apply HQ.Ar); (iterate 3 exact rfl)))
  refine HQ.Ae rfl ?_
  refine HB.ev1 (i := 3) (by kernel_rfl) rfl ?_
  refine H.Ak (ls := dV dZ) (vs := dV b.2) (ls' := dV b.2) rfl rfl rfl (dV_one _) (dV_len _) (zal (by rw [dV_len, dV_len])) (by rw [dV_len, dV_len]; decide) (.there _ (.here _ _ _)) ?_
  refine gA ?_
  refine H.on0 rfl ?_
  refine HB.Al (by kernel_rfl) ?_
  refine gX ?_
  refine H.Ab (x := row db _ _) (by repeat constructor) ?_
  exact H.retTC rfl rfl rfl rfl (Rd.ofRow (.here _ _ _)) (dV_len _) (fun _ s => s.drop (.here _ _)) ⟨b, hres, rfl, rfl, rfl⟩
theorem rcst_fn {rb n : Nat} {M : CM} (hI : DI n M) (hn : 3 ≤ n ∧ n ≤ 11) (hodd : n % 2 = 1) (hl : M.length ≤ 100000) :
  Fn Tryz.prog 23 [.pointer (some ⟨rb, 0, none⟩)] f (rckH rb n M :: F) (RetP (stR n M) stV f (fun _ => rckH rb n M :: F)) := by
 refine Fn.unpack fun i _ => ?_
 obtain ⟨p, c⟩ := i
 refine Fn.monoA (rcst_core f F hI hn hodd hl) ?_
 rintro v f' A' ⟨o, ho, rfl, rfl, rfl⟩
 exact ⟨_, ⟨o, ho, rfl, rfl, rfl⟩, fun x hx => rck_fold (p, c) x hx⟩
end
structure PM where
 g : Int
 init : List (Int × Int)
 lv : Int
 ln : Int
namespace PM
def all (s : PM) : List (Int × Int) := s.init ++ [(s.lv, s.ln)]
def new : PM := ⟨0, [], 0, 0⟩
def isOpen (s : PM) (v : Int) : Bool := decide (v = s.g ∧ v = s.lv)
def changeOk (s : PM) (v : Int) : Bool := decide (s.g < v ∧ v < 1073741824)
def change (s : PM) (v : Int) : PM := if changeOk s v then { s with g := v } else s
def enterOk (s : PM) (v long : Int) : Bool := decide (s.lv < v ∧ s.g ≤ v ∧ v < 1073741824 ∧ 0 ≤ long)
def enter (s : PM) (v long : Int) : PM := if enterOk s v long then ⟨v, s.all, v, long⟩ else s
def prepare (s : PM) (v : Int) : PM := if isOpen s v then { s with ln := s.ln + 1 } else s
def commitOk (s : PM) (v k most : Int) : Bool := decide ((v = s.g ∧ v = s.lv) ∧ 0 ≤ most ∧ k ≤ most ∧ k = s.ln + 1)
def commit (s : PM) (v k most : Int) : PM := if commitOk s v k most then { s with ln := s.ln + 1 } else s
def voted : List (Int × Int) → Int → Option Int
 | [], _ => none
 | (w, n) :: r, v => if v = w then some n else voted r v
structure WF (s : PM) (B : Int) : Prop where
 rise : (s.all.map (·.1)).Pairwise (· < ·)
 low : ∀ p ∈ s.all, 0 ≤ p.1 ∧ p.1 < 1073741824 ∧ 0 ≤ p.2 ∧ p.2 ≤ B
 top : s.lv ≤ s.g
 g0 : 0 ≤ s.g
theorem new_wf : WF new 0 := ⟨by simp [new, all], by simp [new, all], by simp [new], by simp [new]⟩
theorem WF.last {s : PM} {B : Int} (h : WF s B) : 0 ≤ s.lv ∧ s.lv < 1073741824 ∧ 0 ≤ s.ln ∧ s.ln ≤ B := h.low (s.lv, s.ln) (by simp [all])
theorem WF.below {s : PM} {B : Int} (h : WF s B) : ∀ p ∈ s.init, p.1 < s.lv := by
 have := h.rise
 simp only [all, List.map_append, List.map_cons, List.map_nil, List.pairwise_append] at this
 intro p hp
 exact this.2.2 p.1 (List.mem_map.2 ⟨p, hp, rfl⟩) s.lv (by simp)
theorem WF.mono {s : PM} {B B' : Int} (h : WF s B) (hB : B ≤ B') : WF s B' := ⟨h.rise, fun p hp => by have := h.low p hp; omega, h.top, h.g0⟩
theorem WF.bump {s : PM} {B : Int} (h : WF s B) : WF { s with ln := s.ln + 1 } (B + 1) := by
 refine ⟨?_, ?_, h.top, h.g0⟩
 ·have := h.rise; simpa [all] using this
 ·intro p hp
  simp only [all, List.mem_append, List.mem_singleton] at hp
  rcases hp with hp | rfl
  ·have := h.low p (by simp [all, hp]); omega
  ·have := h.last; simp only; omega
theorem WF.change {s : PM} {B : Int} (h : WF s B) (v : Int) : WF (s.change v) B := by
 unfold PM.change
 split
 ·rename_i hc
  simp only [changeOk, decide_eq_true_eq] at hc
  refine ⟨h.rise, h.low, ?_, ?_⟩
  ·have := h.top; simp only; omega
  ·have := h.g0; simp only; omega
 ·exact h
theorem WF.enter {s : PM} {B : Int} (h : WF s B) (v long : Int) (hl : long ≤ B) : WF (s.enter v long) B := by
 unfold PM.enter
 split
 ·rename_i hc
  simp only [enterOk, decide_eq_true_eq] at hc
  refine ⟨?_, ?_, Int.le_refl _, ?_⟩
  ·show ((s.all ++ [(v, long)]).map (·.1)).Pairwise (· < ·)
   rw [List.map_append, List.pairwise_append]
   refine ⟨h.rise, by simp, ?_⟩
   intro a ha b hb
   simp at hb; subst hb
   obtain ⟨p, hp, rfl⟩ := List.mem_map.1 ha
   simp only [all, List.mem_append, List.mem_singleton] at hp
   rcases hp with hp | rfl
   ·have := h.below p hp; omega
   ·exact hc.1
  ·intro p hp
   simp only [all, List.mem_append, List.mem_singleton] at hp
   rcases hp with (hp | rfl) | rfl
   ·exact h.low p (by simp [all, hp])
   ·exact h.last
   ·have := h.last; simp only; omega
  ·have := h.last; simp only; omega
 ·exact h
theorem WF.prepare {s : PM} {B : Int} (h : WF s B) (v : Int) : WF (s.prepare v) (B + 1) := by
 unfold PM.prepare; split
 ·exact h.bump
 ·exact h.mono (by omega)
theorem WF.commit {s : PM} {B : Int} (h : WF s B) (v k most : Int) : WF (s.commit v k most) (B + 1) := by
 unfold PM.commit; split
 ·exact h.bump
 ·exact h.mono (by omega)
def kv (l : List (Int × Int)) : List (Int × Value) := l.map fun p => (p.1, .int .i64 p.2)
theorem kv_keys (l : List (Int × Int)) : (kv l).map (·.1) = l.map (·.1) := by simp [kv, Function.comp_def]
theorem getKV_kv (l : List (Int × Int)) (v : Int) : getKV (kv l) v = (voted l v).map (Value.int .i64) := by
 induction l with
 | nil => rfl
 | cons p r ih =>
  obtain ⟨w, n⟩ := p
  simp only [kv, List.map_cons, getKV, voted]
  split
  ·rfl
  ·exact ih
theorem put_absent {κ : Type} [DecidableEq κ] : ∀ (m : List (κ × Value)) (k : κ) (v : Value), k ∉ m.map (·.1) → putKV m k v = m ++ [(k, v)]
 | [], _, _, _ => rfl
 | (j, u) :: r, k, v, h => by
  have e : ¬ k = j := fun e => h (by simp [e])
  have := put_absent r k v (fun e => h (by simp at e ⊢; exact .inr e))
  simp [putKV, e, this]
theorem put_last {κ : Type} [DecidableEq κ] : ∀ (m : List (κ × Value)) (k : κ) (u v : Value), k ∉ m.map (·.1) → putKV (m ++ [(k, u)]) k v = m ++ [(k, v)]
 | [], k, u, v, _ => by simp [putKV]
 | (j, w) :: r, k, u, v, h => by
  have e : ¬ k = j := fun e => h (by simp [e])
  have := put_last r k u v (fun e => h (by simp at e ⊢; exact .inr e))
  simp [putKV, e, this]
theorem WF.not_init {s : PM} {B : Int} (h : WF s B) : s.lv ∉ s.init.map (·.1) := by
 intro hm
 obtain ⟨p, hp, e⟩ := List.mem_map.1 hm
 have := h.below p hp
 omega
theorem WF.kv_bump {s : PM} {B : Int} (h : WF s B) : putKV (kv s.all) s.lv (.int .i64 (s.ln + 1)) = kv ({ s with ln := s.ln + 1 } : PM).all := by
 have := put_last (kv s.init) s.lv (.int .i64 s.ln) (.int .i64 (s.ln + 1)) (by rw [kv_keys]; exact h.not_init)
 simpa [kv, all] using this
theorem WF.not_all {s : PM} {B v : Int} (h : WF s B) (hv : s.lv < v) : v ∉ s.all.map (·.1) := by
 intro hm
 obtain ⟨p, hp, e⟩ := List.mem_map.1 hm
 simp only [all, List.mem_append, List.mem_singleton] at hp
 rcases hp with hp | rfl
 ·have := h.below p hp; omega
 ·simp only at e; omega
theorem WF.kv_enter {s : PM} {B v long : Int} (h : WF s B) (hv : s.lv < v) : putKV (kv s.all) v (.int .i64 long) = kv (s.all ++ [(v, long)]) := by
 rw [put_absent _ _ _ (by rw [kv_keys]; exact h.not_all hv)]
 simp [kv]
theorem WF.kv_enter2 {s : PM} {B v long : Int} (h : WF s B) (hv : s.lv < v) (z : Value) : putKV (putKV (kv s.all) v z) v (.int .i64 long) = kv (s.all ++ [(v, long)]) := by
 rw [put_absent (kv s.all) _ _ (by rw [kv_keys]; exact h.not_all hv), put_last _ _ _ _ (by rw [kv_keys]; exact h.not_all hv)]
 simp [kv]
theorem voted_last {s : PM} {B : Int} (h : WF s B) : voted s.all s.lv = some s.ln := by
 have : ∀ l : List (Int × Int), s.lv ∉ l.map (·.1) → voted (l ++ [(s.lv, s.ln)]) s.lv = some s.ln := by
  intro l
  induction l with
  | nil => intro _; simp [voted]
  | cons p r ih =>
   intro hn
   obtain ⟨w, n⟩ := p
   have e : ¬ s.lv = w := fun e => hn (by simp [e])
   simp only [List.cons_append, voted, e, if_false]
   exact ih (fun e => hn (by simp at e ⊢; exact .inr e))
 exact this _ h.not_init
end PM
structure W12 where
 kv : Nat → Nat → Int
 all : List Msg
def W12.zero : W12 := ⟨fun _ _ => 0, []⟩
structure WInv (n : Nat) (W : W12) : Prop where
 ok : WOK n W.all
 knw : ∀ r, r < n → Knw W.all (W.kv r)
 own : ∀ r, r < n → W.kv r r = (cnt W.all r : Nat)
theorem WInv.zero (n : Nat) : WInv n W12.zero := ⟨WOK.nil n, fun r _ => ⟨fun i => ⟨Int.le_refl _, by show (0 : Int) ≤ _; omega⟩, fun x hx => by cases hx⟩, fun r _ => rfl⟩
def maxV (a b : Nat → Int) : Nat → Int := fun i => if a i < b i then b i else a i
def W12.meet (W : W12) (o j : Nat) : W12 := { W with kv := updF W.kv o (maxV (W.kv o) (W.kv j)) }
theorem maxV_ge (a b : Nat → Int) (i : Nat) : a i ≤ maxV a b i ∧ b i ≤ maxV a b i ∧ (maxV a b i = a i ∨ maxV a b i = b i) := by
 unfold maxV; split <;> omega
theorem WInv.meet {n : Nat} {W : W12} (h : WInv n W) {o j : Nat} (ho : o < n) (hj : j < n) : WInv n (W.meet o j) := by
 have hkn : Knw W.all (maxV (W.kv o) (W.kv j)) := by
  refine ⟨fun i => ?_, fun x hx hn i hi => ?_⟩
  ·have h1 := (h.knw o ho).le i
   have h2 := (h.knw j hj).le i
   have h3 := maxV_ge (W.kv o) (W.kv j) i
   rcases h3.2.2 with e | e <;> rw [e] <;> omega
  ·have h3 := maxV_ge (W.kv o) (W.kv j) (orgI x)
   have h4 := maxV_ge (W.kv o) (W.kv j) i
   rcases h3.2.2 with e | e <;> rw [e] at hn
   ·have := (h.knw o ho).closed x hx hn i hi
    omega
   ·have := (h.knw j hj).closed x hx hn i hi
    omega
 refine ⟨h.ok, fun r hr => ?_, fun r hr => ?_⟩
 ·show Knw W.all (updF W.kv o (maxV (W.kv o) (W.kv j)) r)
  by_cases e : r = o
  ·subst e; rw [zaj]; exact hkn
  ·rw [zan _ _ e]; exact h.knw r hr
 ·show updF W.kv o (maxV (W.kv o) (W.kv j)) r r = (cnt W.all r : Nat)
  by_cases e : r = o
  ·subst e
   rw [zaj]
   have h1 := h.own r hr
   have h2 := ((h.knw j hj).le r).2
   have h3 := maxV_ge (W.kv r) (W.kv j) r
   rcases h3.2.2 with e | e <;> omega
  ·rw [zan _ _ e]; exact h.own r hr
def W12.say (W : W12) (o : Nat) (m : Msg) : W12 := ⟨updF W.kv o (updF (W.kv o) o (W.kv o o + 1)), W.all ++ [m]⟩
theorem WOK.cnt_zero {n : Nat} {all : List Msg} (h : WOK n all) {i : Nat} (hi : n ≤ i) : cnt all i = 0 := by
 unfold cnt
 rcases Nat.eq_zero_or_pos (strm all i).length with e | e
 ·exact e
 ·obtain ⟨x, hx⟩ : ∃ x, (strm all i)[0]? = some x := ⟨_, List.getElem?_eq_getElem e⟩
  obtain ⟨h1, h2⟩ := strm_org hx
  obtain ⟨j, hj⟩ := List.getElem?_of_mem h1
  have h3 := (h j x hj).org
  unfold orgI at h2
  omega
theorem Msg.signed_E0 (m : Msg) : Msg.E0 m.signed m := by
 unfold Msg.signed
 split
 ·exact ⟨rfl, rfl, rfl, Bod.E.refl _⟩
 ·exact ⟨rfl, rfl, rfl, Bod.E.refl _⟩
theorem Msg.signed_may (m : Msg) : m.signed.may = m.may := Msg.may_congr m.signed_E0
theorem Msg.signed_isright {m : Msg} (hm : m.may = true) : m.signed.right = true := by
 have h2 : ∀ u, ({ m with tag := u } : Msg).right = (m.may && eq32 u (Sha.numbered m.origin m.number m.tagged)) := fun _ => rfl
 unfold Msg.signed
 rw [if_pos hm, h2, hm, eq32_refl]
 rfl
theorem Msg.signed_parts (m : Msg) : m.signed.origin = m.origin ∧ m.signed.number = m.number ∧ m.signed.deps = m.deps ∧ m.signed.body = m.body := by
 unfold Msg.signed
 split
 ·exact ⟨rfl, rfl, rfl, rfl⟩
 ·exact ⟨rfl, rfl, rfl, rfl⟩
theorem WInv.say {n : Nat} (hn : n ≤ 11) {W : W12} (h : WInv n W) {o : Nat} (ho : o < n) {m : Msg} (h1 : m.origin = ((o + 1 : Nat) : Int)) (h2 : m.number = W.kv o o + 1) (h3 : ∀ i, i < 11 → m.deps i = W.kv o i)
  (h4 : m.body.q.all (fun p => decide (p.1 ≤ (n : Int))) = true) (hm : m.may = true) : MOK n W.all m.signed ∧ WInv n (W.say o m.signed) := by
 obtain ⟨e1, e2, e3, e4⟩ := m.signed_parts
 have hk := h.knw o ho
 have hown := h.own o ho
 have horg : orgI m.signed = o := by unfold orgI; rw [e1, h1]; omega
 have hmok : MOK n W.all m.signed := by
  refine ⟨?_, ?_, Msg.signed_isright hm, ?_, fun i hi => ?_, fun x hx hxo i hi => ?_⟩
  ·rw [e1, h1]; omega
  ·unfold fitsB
   rw [Msg.signed_may, hm, e1, e4, h4, e3]
   have a1 : m.origin ≤ (n : Int) := by rw [h1]; omega
   rw [decide_eq_true a1, Bool.true_and, Bool.true_and, Bool.true_and, List.all_eq_true]
   intro i hi
   have hi := List.mem_range.1 hi
   rw [Bool.or_eq_true, decide_eq_true_eq, decide_eq_true_eq]
   by_cases hlt : i < n
   ·exact .inl hlt
   ·refine .inr ?_
    rw [h3 i hi]
    have := (hk.le i).2
    rw [h.ok.cnt_zero (by omega)] at this
    exact this
  ·rw [e2, h2, horg, hown]; omega
  ·rw [e3, h3 i hi]; exact hk.le i
  ·rw [e3, h3 i hi]
   refine hk.closed x hx ?_ i hi
   rw [hxo, horg, hown]
   obtain ⟨p, hp⟩ := strm_mem hx
   have hx1 := strm_numA h.ok hp
   have hx2 : p < (strm W.all (orgI x)).length := by
    rcases Nat.lt_or_ge p (strm W.all (orgI x)).length with h | h
    ·exact h
    ·rw [List.getElem?_eq_none h] at hp; cases hp
   rw [hxo, horg] at hx2
   unfold cnt
   omega
 have hcs : ∀ i, cnt (W.all ++ [m.signed]) i = cnt W.all i + (if i = o then 1 else 0) := fun i => by rw [cnt_snoc, horg]
 refine ⟨hmok, h.ok.snoc hmok, fun r hr => ?_, fun r hr => ?_⟩
 ·show Knw (W.all ++ [m.signed]) (updF W.kv o (updF (W.kv o) o (W.kv o o + 1)) r)
  by_cases e : r = o
  ·subst e
   rw [zaj]
   refine ⟨fun i => ?_, fun x hx hxn i hi => ?_⟩
   ·rw [hcs]
    have := hk.le i
    by_cases e : i = r
    ·subst e; rw [zaj, if_pos rfl]; omega
    ·rw [zan _ _ e, if_neg e]; omega
   ·have hmono : W.kv r i ≤ updF (W.kv r) r (W.kv r r + 1) i := by
     by_cases e : i = r
     ·subst e; rw [zaj]; omega
     ·rw [zan _ _ e]; exact Int.le_refl _
    rcases List.mem_append.1 hx with hx | hx
    ·by_cases hle : x.number ≤ W.kv r (orgI x)
     ·have := hk.closed x hx hle i hi
      omega
     ·have ho2 : orgI x = r := by
       by_cases e : orgI x = r
       ·exact e
       ·rw [zan _ _ e] at hxn; exact absurd hxn hle
      obtain ⟨p, hp⟩ := strm_mem hx
      have hx1 := strm_numA h.ok hp
      have hx2 : p < (strm W.all (orgI x)).length := by
       rcases Nat.lt_or_ge p (strm W.all (orgI x)).length with h | h
       ·exact h
       ·rw [List.getElem?_eq_none h] at hp; cases hp
      rw [ho2] at hx2 hle
      unfold cnt at hown
      omega
    ·rw [List.mem_singleton] at hx
     subst hx
     rw [e3, h3 i hi]
     exact hmono
  ·rw [zan _ _ e]
   have hkr := h.knw r hr
   refine ⟨fun i => ?_, fun x hx hxn i hi => ?_⟩
   ·rw [hcs]
    have := hkr.le i
    split <;> omega
   ·rcases List.mem_append.1 hx with hx | hx
    ·exact hkr.closed x hx hxn i hi
    ·rw [List.mem_singleton] at hx
     subst hx
     rw [horg, e2, h2, hown] at hxn
     have := (hkr.le o).2
     omega
 ·show updF W.kv o (updF (W.kv o) o (W.kv o o + 1)) r r = (cnt (W.all ++ [m.signed]) r : Nat)
  rw [hcs]
  by_cases e : r = o
  ·subst e
   rw [zaj, zaj, if_pos rfl, hown]; omega
  ·rw [zan _ _ e, if_neg e, Nat.add_zero]; exact h.own r hr
def clientW : List UInt8 := [114, 97, 116, 99, 104, 101, 116, 32, 99, 108, 105, 101, 110, 116]
def Req.sig (r : Req) : Nat → UInt8 := Sha.hmac (Sha.word32 clientW r.client) r.bytes
def Req.signed (r : Req) : Req := if r.asked then { r with tag := r.sig } else r
def Req.auth (r : Req) : Bool := decide r.asked && eq32 r.tag r.sig
theorem Req.bytes_max {r : Req} (h : r.asked) : r.bytes.length ≤ 1000 := by
 obtain ⟨_, _, _, _, ⟨h1, h2⟩, h3, h4⟩ := h
 rw [Req.bytes_len]
 omega
theorem req_tag {f : Frag} {A A' : List HP} {rb : Nat} {T : TypeId} {r : Req} (h : At A (row rb T r.vals) A' (row rb T r.vals)) : Rd f A rb (0 + 8) (b32 r.tag) := by
 have h1 := Rd.ofRow (f := f) h
 have e : r.vals = [.int .i64 r.client, .int .u64 r.time, .int .u8 (r.kind.toNat : Nat), .string r.key, .string r.val, .string r.old, .string r.to, .int .u64 r.amount] ++ b32 r.tag ++ [] := by unfold Req.vals; rw [List.append_nil]
 rw [e] at h1
 exact h1.sub rfl
theorem splice_rtag (r : Req) (t : Nat → UInt8) : splice r.vals (0 + 8) (b32 t) = ({ r with tag := t } : Req).vals := rfl
section
variable {P : Program} {base : World} {n : Nat} {L : Env} {f : Frag} {A V : List HP} {q : Post} {l rest : List Oper} {d : Nat} {ty : TypeId} {pos : String} {af : Array Edge} {gd : Option (Nat × Bool)}
theorem HQ.fieldN {st : TypeId} {x : Operand} {i m : Nat} {fs : List Field} {nm tg pk : String} {ft : TypeId} {fo bo : Nat} {em : Bool} {xs ls : List Value} {de : TypeDesc} [hu : Und P st (.struct fs.toArray)] (hw : want? l L gd = true)
  (hx : ev? L x = some (.agg xs.toArray)) (hf : nthF fs i = some ⟨nm, ft, fo, em, tg, pk, bo⟩) (he : Und P ft de) (ha : aggD de = true) (hs : Siz P ft m) (hv : (xs.drop fo).take m = ls) (hd : Nat.ble (d + 1) n = true) {lst : Lst} {ti : Nat} {tt : List (Nat × Bool)}
  (k : HQ V ⟨lst.setIfInBounds ti true, tt⟩ P base n ((d, .agg ls.toArray) :: L) f A (.ops l rest q)) : HQ V ⟨lst, (ti, false) :: tt⟩ P base n L f A (.ops l (⟨some d, .field st x i, ty, pos, af, gd⟩ :: rest) q) :=
 HQ.opV hw hd (fun a w hfr _ => by
  rw [nthF_eq] at hf
  have h3 := run_isAgg he w
  have h4 : xs.toArray.extract fo (fo + m) = ls.toArray := by
   rw [List.extract_toArray, ← hv]
   unfold List.extract
   rw [Nat.add_sub_cancel_left]
  simp [execOp, Instr.field, hfr.eval hx, hu.run, hf, asAgg, part, h3, ha, hs.run]
  simpa using h4) k
end
structure Vw where
 v : Int
 num : Int
 s : List Req
 p : List (Int × Req)
def Vw.all (w : Vw) : List Req := w.s ++ w.p.map Prod.snd
theorem Vw.all_len (w : Vw) : w.all.length = w.s.length + w.p.length := by unfold Vw.all; rw [List.length_append, List.length_map]
structure Lgs where
 n : Nat
 known : Nat → Int
 vs : List Vw
 past : Nat → PM
 ch : Nat → List (Int × Int)
def Lgs.new (n : Nat) : Lgs := ⟨n, fun _ => 0, [⟨0, 0, [], []⟩], fun _ => PM.new, fun _ => []⟩
def vwAt : List Vw → Int → Option Nat
 | [], _ => none
 | w :: r, v => if w.v = v then some 0 else (vwAt r v).map (· + 1)
theorem zav {vs : List Vw} {v : Int} {i : Nat} : vwAt vs v = some i ↔ (∃ w, vs[i]? = some w ∧ w.v = v) ∧ ∀ j w, j < i → vs[j]? = some w → w.v ≠ v := by
 induction vs generalizing i with
 | nil => simp [vwAt]
 | cons w r ih =>
  unfold vwAt
  by_cases h : w.v = v
  ·rw [if_pos h]
   refine ⟨fun e => ?_, fun ⟨_, e⟩ => ?_⟩
   ·cases e
    exact ⟨⟨w, rfl, h⟩, fun j w hj => by omega⟩
   ·cases i with
    | zero => rfl
    | succ i => exact absurd h (e 0 w (by omega) rfl)
  ·rw [if_neg h]
   cases i with
   | zero =>
    refine ⟨fun e => ?_, fun ⟨⟨w', e, e2⟩, _⟩ => ?_⟩
    ·cases hr : vwAt r v <;> rw [hr] at e <;> cases e
    ·cases e; exact absurd e2 h
   | succ i =>
    refine ⟨fun e => ?_, fun ⟨⟨w', e, e2⟩, e3⟩ => ?_⟩
    ·have e' : vwAt r v = some i := by
      cases hr : vwAt r v with
      | none => rw [hr] at e; cases e
      | some k => rw [hr] at e; simp at e; rw [e]
     obtain ⟨⟨w', e1, e2⟩, e3⟩ := ih.1 e'
     refine ⟨⟨w', e1, e2⟩, fun j x hj hx => ?_⟩
     cases j with
     | zero => cases hx; exact h
     | succ j => exact e3 j x (by omega) hx
    ·rw [ih.2 ⟨⟨w', e, e2⟩, fun j x hj hx => e3 (j + 1) x (by omega) hx⟩]
     rfl
theorem vwAt_none {vs : List Vw} {v : Int} : vwAt vs v = none ↔ ∀ w ∈ vs, w.v ≠ v := by
 induction vs with
 | nil => simp [vwAt]
 | cons w r ih =>
  unfold vwAt
  by_cases h : w.v = v
  ·rw [if_pos h]; simp [h]
  ·rw [if_neg h]
   cases hr : vwAt r v with
   | none => simp [h]; exact ih.1 hr
   | some k =>
    simp
    intro _
    obtain ⟨⟨w', e1, e2⟩, _⟩ := zav.1 hr
    exact ⟨w', List.mem_of_getElem? e1, e2⟩
def vwZ (vs : List Vw) (v : Int) : Int := match vwAt vs v with
 | none => -1
 | some i => (i : Nat)
def primI (n : Nat) (v : Int) : Nat := (v % (n : Int)).toNat
def primZ (n : Nat) (v : Int) : Int := 1 + ((primI n v : Nat) : Int)
def holdsB (l : List Req) (c t : Int) : Bool := l.any fun r => decide (r.client = c) && decide (r.time = t)
def chB (l : Lgs) (q : Int × Int) (v : Int) : Bool := (l.ch (q.1 - 1).toNat).any fun c => decide (c.1 = v) && decide (c.2 = q.2)
def bestOf (bv : Int) : List (Int × Int) → Int × Int → Int × Int
 | [], a => a
 | x :: r, a => bestOf bv r (if x.1 < bv ∧ (a.1 < x.1 ∨ (x.1 = a.1 ∧ a.2 < x.2)) then x else a)
def bestQ (past : Nat → PM) (bv : Int) : List (Int × Int) → Int × Int → Int × Int
 | [], a => a
 | q :: r, a => bestQ past bv r (bestOf bv (past (q.1 - 1).toNat).all a)
def insKF (v : Int) (vs : List Vw) : Nat → Nat
 | 0 => 0
 | k + 1 => match vs[k]? with
  | none => k + 1
  | some x => if v < x.v then insKF v vs k else k + 1
def insK (v : Int) (vs : List Vw) : Nat := insKF v vs vs.length
def insV (w : Vw) (vs : List Vw) : List Vw := vs.take (insK w.v vs) ++ w :: vs.drop (insK w.v vs)
theorem insKF_le (v : Int) (vs : List Vw) : ∀ k, insKF v vs k ≤ k
 | 0 => Nat.le_refl 0
 | k + 1 => by
  unfold insKF
  split
  ·exact Nat.le_refl _
  ·split
   ·exact Nat.le_succ_of_le (insKF_le v vs k)
   ·exact Nat.le_refl _
theorem insKF_above (v : Int) (vs : List Vw) : ∀ k j x, insKF v vs k ≤ j → j < k → vs[j]? = some x → v < x.v
 | 0, j, x, _, h, _ => by omega
 | k + 1, j, x, h1, h2, hx => by
  unfold insKF at h1
  cases hk : vs[k]? with
  | none => rw [hk] at h1; simp only at h1; omega
  | some y =>
   rw [hk] at h1
   simp only at h1
   by_cases hv : v < y.v
   ·rw [if_pos hv] at h1
    by_cases e : j = k
    ·subst e; rw [hk] at hx; cases hx; exact hv
    ·exact insKF_above v vs k j x h1 (by omega) hx
   ·rw [if_neg hv] at h1; omega
theorem insKF_below (v : Int) (vs : List Vw) : ∀ k x, 0 < insKF v vs k → vs[insKF v vs k - 1]? = some x → ¬ v < x.v
 | 0, x, h, _ => by unfold insKF at h; omega
 | k + 1, x, h, hx => by
  unfold insKF at h hx
  cases hk : vs[k]? with
  | none => rw [hk] at hx; simp only [Nat.add_sub_cancel] at hx; rw [hk] at hx; cases hx
  | some y =>
   rw [hk] at h hx
   simp only at h hx
   by_cases hv : v < y.v
   ·rw [if_pos hv] at h hx
    exact insKF_below v vs k x h hx
   ·rw [if_neg hv, Nat.add_sub_cancel, hk] at hx
    cases hx
    exact hv
theorem insV_perm (w : Vw) (vs : List Vw) : (w :: vs).Perm (insV w vs) := by
 unfold insV
 conv => lhs; rw [← List.take_append_drop (insK w.v vs) vs]
 exact List.perm_middle.symm
theorem bestOf_mem (bv : Int) : ∀ (l : List (Int × Int)) (a : Int × Int), bestOf bv l a = a ∨ bestOf bv l a ∈ l
 | [], a => .inl rfl
 | x :: r, a => by
  unfold bestOf
  split
  ·rcases bestOf_mem bv r x with h | h
   ·rw [h]; exact .inr (by simp)
   ·exact .inr (List.mem_cons_of_mem _ h)
  ·rcases bestOf_mem bv r a with h | h
   ·exact .inl h
   ·exact .inr (List.mem_cons_of_mem _ h)
theorem bestQ_mem (past : Nat → PM) (bv : Int) : ∀ (q : List (Int × Int)) (a : Int × Int), bestQ past bv q a = a ∨ ∃ p ∈ q, bestQ past bv q a ∈ (past (p.1 - 1).toNat).all
 | [], a => .inl rfl
 | x :: r, a => by
  unfold bestQ
  rcases bestQ_mem past bv r (bestOf bv (past (x.1 - 1).toNat).all a) with h | ⟨p, hp, h⟩
  ·rw [h]
   rcases bestOf_mem bv (past (x.1 - 1).toNat).all a with h2 | h2
   ·exact .inl h2
   ·exact .inr ⟨x, by simp, h2⟩
  ·exact .inr ⟨p, List.mem_cons_of_mem _ hp, h⟩
def Lgs.begins (l : Lgs) (m : Msg) : Bool × Lgs :=
 if m.body.q.length ≠ (l.n - 1) / 2 + 1 then (false, l) else
 if (m.body.q.all fun q => decide (q.2 ≤ m.deps (q.1 - 1).toNat) && chB l q m.body.view) = false then (false, l) else
 if (l.past (orgI m)).enterOk m.body.view (bestQ l.past m.body.view m.body.q (0, 0)).2 = false then (false, l) else
 (true, { l with
  past := updF l.past (orgI m) ((l.past (orgI m)).enter m.body.view (bestQ l.past m.body.view m.body.q (0, 0)).2)
  vs := insV ⟨m.body.view, m.number, ((match vwAt l.vs (bestQ l.past m.body.view m.body.q (0, 0)).1 with | none => [] | some i => (l.vs[i]?.map Vw.all).getD []).take (bestQ l.past m.body.view m.body.q (0, 0)).2.toNat), []⟩ l.vs })
def knowsV (w : Vw) (d : Int) : Nat := w.s.length + (w.p.filter fun x => decide (x.1 ≤ d)).length
def Lgs.doPast (l : Lgs) (r : Nat) (p : PM) : Lgs := { l with past := updF l.past r p }
def Lgs.counts (l : Lgs) (m : Msg) : Bool × Lgs :=
 let r := orgI m
 let p := l.past r
 let b := m.body
 let prim := decide (primZ l.n b.view = m.origin)
 let d := m.deps (primI l.n b.view)
 if b.kind = 3 then
  if p.changeOk b.view = true then (true, { l with past := updF l.past r (p.change b.view), ch := updF l.ch r (l.ch r ++ [(b.view, m.number)]) }) else (false, l)
 else if b.kind = 4 then (if prim = true then l.begins m else (false, l))
 else if b.kind = 5 then
  match vwAt l.vs b.view with
  | none => (false, l)
  | some i => match l.vs[i]? with
   | none => (false, l)
   | some w => if d < w.num then (false, l) else (p.enterOk b.view w.s.length, l.doPast r (p.enter b.view w.s.length))
 else if b.kind = 1 then
  match vwAt l.vs b.view with
  | none => (false, l)
  | some i => match l.vs[i]? with
   | none => (false, l)
   | some w => if prim = false ∨ b.req.auth = false ∨ holdsB w.all b.req.client b.req.time = true ∨ p.isOpen b.view = false then (false, l) else
    (true, { l with past := updF l.past r (p.prepare b.view), vs := l.vs.set i { w with p := w.p ++ [(m.number, b.req)] } })
 else if b.kind = 2 then
  match vwAt l.vs b.view with
  | none => (false, l)
  | some i => match l.vs[i]? with
   | none => (false, l)
   | some w => if prim = true then (false, l) else (p.commitOk b.view b.k (knowsV w d), l.doPast r (p.commit b.view b.k (knowsV w d)))
 else (decide (b.kind = 6), l)
def qIn (n : Nat) (m : Msg) : Bool := m.body.q.all fun p => decide (p.1 ≤ (n : Int))
def depsIn (m : Msg) (k : Nat → Int) : Bool := (List.range 11).all fun i => decide (m.deps i ≤ k i)
def Lgs.take (l : Lgs) (m : Msg) : (Bool × Int) × Lgs :=
 if m.may = false ∨ (l.n : Int) < m.origin ∨ qIn l.n m = false then ((false, 1), l) else
 if m.number ≠ l.known (orgI m) + 1 ∨ depsIn m l.known = false then ((false, 12), l) else
 (((l.counts m).1, 0), { (l.counts m).2 with known := updF (l.counts m).2.known (orgI m) ((l.counts m).2.known (orgI m) + 1) })
structure MIn (n : Nat) (m : Msg) : Prop where
 o : 1 ≤ m.origin ∧ m.origin ≤ (n : Int)
 q : ∀ p ∈ m.body.q, 1 ≤ p.1 ∧ p.1 ≤ (n : Int)
 v : 0 ≤ m.body.view
structure LI (l : Lgs) (T : Nat) : Prop where
 n3 : 3 ≤ l.n ∧ l.n ≤ 11
 kn : ∀ i, 0 ≤ l.known i ∧ l.known i ≤ (T : Int)
 wf : ∀ r, r < l.n → PM.WF (l.past r) T
 il : ∀ r, r < l.n → (l.past r).init.length ≤ T
 vl : l.vs.length ≤ T + 1
 cl : ∀ r, (l.ch r).length ≤ T
 al : ∀ w ∈ l.vs, w.all.length ≤ T
 log : ∀ r, r < l.n → ∀ p ∈ (l.past r).all, ∃ w ∈ l.vs, w.v = p.1 ∧ p.2 ≤ (w.all.length : Int)
 zero : ∃ w ∈ l.vs, w.v = 0
 rise : (l.vs.map Vw.v).Pairwise (· < ·)
 begun : ∀ w ∈ l.vs, w.v ≠ 0 → ∃ p ∈ (l.past (primI l.n w.v)).all, p.1 = w.v
 gb : ∀ r, r < l.n → (l.past r).g < 1073741824
theorem vwAt_mem {vs : List Vw} (h : (vs.map Vw.v).Pairwise (· < ·)) {w : Vw} (hw : w ∈ vs) : ∃ i, vwAt vs w.v = some i ∧ vs[i]? = some w := by
 obtain ⟨i, hi⟩ := List.getElem?_of_mem hw
 refine ⟨i, zav.2 ⟨⟨w, hi, rfl⟩, fun j x hj hx e => ?_⟩, hi⟩
 have h1 := (List.getElem?_eq_some_iff.1 hi)
 have h2 := (List.getElem?_eq_some_iff.1 hx)
 have := List.pairwise_iff_getElem.1 h j i (by rw [List.length_map]; exact h2.1) (by rw [List.length_map]; exact h1.1) hj
 rw [List.getElem_map, List.getElem_map, h1.2, h2.2, e] at this
 omega
theorem LI.best {l : Lgs} {T : Nat} (h : LI l T) {m : Msg} (hm : MIn l.n m) : ∃ i w, vwAt l.vs (bestQ l.past m.body.view m.body.q (0, 0)).1 = some i ∧ l.vs[i]? = some w ∧ 0 ≤ (bestQ l.past m.body.view m.body.q (0, 0)).2 ∧ (bestQ l.past m.body.view m.body.q (0, 0)).2 ≤ (w.all.length : Int) := by
 rcases bestQ_mem l.past m.body.view m.body.q (0, 0) with e | ⟨p, hp, hb⟩
 ·rw [e]
  obtain ⟨w, hw, h0⟩ := h.zero
  obtain ⟨i, h1, h2⟩ := vwAt_mem h.rise hw
  rw [h0] at h1
  exact ⟨i, w, h1, h2, Int.le_refl 0, by show (0 : Int) ≤ _; omega⟩
 ·have hq := hm.q p hp
  have hr : (p.1 - 1).toNat < l.n := by omega
  obtain ⟨w, hw, h0, h3⟩ := h.log _ hr _ hb
  obtain ⟨i, h1, h2⟩ := vwAt_mem h.rise hw
  rw [h0] at h1
  exact ⟨i, w, h1, h2, ((h.wf _ hr).low _ hb).2.2.1, h3⟩
theorem filt_take {α : Type} {p : α → Bool} {ws : List α} {i : Nat} {x : α} (hx : ws[i]? = some x) : (ws.take (i + 1)).filter p = (ws.take i).filter p ++ (if p x then [x] else []) := by
 rw [List.take_add_one, hx, List.filter_append]
 congr 1
 by_cases h : p x = true
 ·rw [if_pos h]; simp [h]
 ·rw [if_neg h]; simp [h]
def flatV {α : Type} (g : α → List Value) (l : List α) : List Value := (l.map g).flatten
theorem flatV_length {α : Type} {g : α → List Value} {sz : Nat} (hg : ∀ x, (g x).length = sz) (l : List α) : (flatV g l).length = l.length * sz := by
 induction l with
 | nil => simp [flatV]
 | cons x r ih => simp only [flatV, List.map_cons, List.flatten_cons, List.length_append, hg, List.length_cons] at ih ⊢; rw [ih, Nat.add_mul]; omega
theorem flatV_get {α : Type} {g : α → List Value} {sz : Nat} (hg : ∀ x, (g x).length = sz) : ∀ (l : List α) (i j : Nat) (x : α), l[i]? = some x → j < sz → (flatV g l)[i * sz + j]? = (g x)[j]?
 | [], i, j, x, h, _ => by simp at h
 | y :: r, 0, j, x, h, hj => by
  simp at h; subst h
  simp only [flatV, List.map_cons, List.flatten_cons, Nat.zero_mul, Nat.zero_add]
  exact List.getElem?_append_left (by rw [hg]; exact hj)
 | y :: r, i + 1, j, x, h, hj => by
  have ih := flatV_get hg r i j x (by simpa using h) hj
  simp only [flatV, List.map_cons, List.flatten_cons] at ih ⊢
  rw [List.getElem?_append_right (by rw [hg, Nat.add_mul]; omega), hg, ← ih]
  congr 1
  rw [Nat.add_mul]; omega
theorem flatV_append {α : Type} (g : α → List Value) (l r : List α) : flatV g (l ++ r) = flatV g l ++ flatV g r := by simp [flatV]
def voteV (p : Int × Int) : List Value := [.int .u64 p.1, .int .i64 p.2]
theorem voteV_len (p : Int × Int) : (voteV p).length = 2 := rfl
def pstL (b eb ec : Nat) (s : PM) : List HP := [row b 157 [.int .u64 s.g, .slice (some ⟨eb, 0, none⟩) (s.init.length + 1) ec],
 slc (some ⟨eb, 0, none⟩) (s.init.length + 1) ec 183 2 (flatV voteV s.all)]
def pstH (b : Nat) (s : PM) : HP := fun h => ∃ i : Nat × Nat, stars (pstL b i.1 i.2 s) h
theorem zam {b eb ec : Nat} {s : PM} {F : List HP} : ∀ x, stars (row b 157 [.int .u64 s.g, .slice (some ⟨eb, 0, none⟩) (s.init.length + 1) ec] ::
 slc (some ⟨eb, 0, none⟩) (s.init.length + 1) ec 183 2 (flatV voteV s.all) :: F) x → stars (pstH b s :: F) x :=
 fold_stars (B := [_, _]) fun x hx => ⟨(eb, ec), hx⟩
theorem pstH_open {fid : FuncId} {args : List Value} {f : Frag} {R : Value → Frag → List HP → Prop} {b : Nat} {s : PM} {F : List HP}
  (k : ∀ eb ec, Fn Tryz.prog fid args f (row b 157 [.int .u64 s.g, .slice (some ⟨eb, 0, none⟩) (s.init.length + 1) ec] ::
   slc (some ⟨eb, 0, none⟩) (s.init.length + 1) ec 183 2 (flatV voteV s.all) :: F) R) : Fn Tryz.prog fid args f (pstH b s :: F) R :=
 Fn.unfold (fun _ h => h) fun ⟨eb, ec⟩ => k eb ec
theorem pstH_openH {base : World} {n : Nat} {L : Env} {K : Kont} {f : Frag} {b : Nat} {s : PM} {F : List HP}
  (k : ∀ eb ec, H Tryz.prog base n L f (row b 157 [.int .u64 s.g, .slice (some ⟨eb, 0, none⟩) (s.init.length + 1) ec] ::
   slc (some ⟨eb, 0, none⟩) (s.init.length + 1) ec 183 2 (flatV voteV s.all) :: F) K) : H Tryz.prog base n L f (pstH b s :: F) K :=
 H.unfold (fun _ h => h) fun ⟨eb, ec⟩ => k eb ec
theorem all_last (s : PM) : s.all[s.init.length]? = some (s.lv, s.ln) := by simp [PM.all]
theorem votes_lv (s : PM) : (flatV voteV s.all)[s.init.length * 2 + 0]? = some (.int .u64 s.lv) := by rw [flatV_get voteV_len _ _ _ _ (all_last s) (by decide)]; rfl
theorem votes_ln (s : PM) : (flatV voteV s.all)[s.init.length * 2 + 1]? = some (.int .i64 s.ln) := by rw [flatV_get voteV_len _ _ _ _ (all_last s) (by decide)]; rfl
theorem all_len (s : PM) : s.all.length = s.init.length + 1 := by simp [PM.all]
section
variable (f : Frag) (F : List HP) (b : Nat) (s : PM)
theorem Fn.pstOpen {fid : FuncId} {args : List Value} {v : Value} (h : ∀ eb ec, Fn Tryz.prog fid args f (pstL b eb ec s ++ F) (Ret v f (pstL b eb ec s ++ F))) : Fn Tryz.prog fid args f (pstH b s :: F) (Ret v f (pstH b s :: F)) := by
 refine Fn.unfold (fun _ h => h) fun ⟨eb, ec⟩ => ?_
 intro base w hs
 refine (h eb ec base w hs).mono ?_
 rintro e w' ⟨u, f', A', he, ⟨rfl, rfl, rfl⟩, s'⟩
 exact ⟨_, _, _, he, ⟨rfl, rfl, rfl⟩, s'.imp zam⟩
theorem pst_last_o (eb ec : Nat) (hn : s.init.length ≤ 1000000) : Fn Tryz.prog 126 [.pointer (some ⟨b, 0, none⟩)] f (pstL b eb ec s ++ F) (Ret (.int .u64 s.lv) f (pstL b eb ec s ++ F)) := by
 show Fn _ _ _ f (row _ _ _ :: slc _ _ _ _ _ _ :: F) _
 refine Fn.enter Tryz.func126 rfl Tryz.ntmps126 rfl (L := [(0, _)]) ⟨rfl, trivial⟩ fun base => ?_
 refine gO ?_
 refine H.Bg (by kernel_rfl) (by decide +kernel) (by repeat (first | exact zab | refine zaa ?_ | refine zac ?_ | refine zad ?_)) ?_
 refine gH ?_
 refine HQ.Cb rfl rfl rfl rfl (by omega) rfl ?_
 refine gC ?_
 refine HQ.Ad rfl rfl rfl (.at0 (Rd.ofSlc (by repeat constructor) (by omega)) (votes_lv s)) rfl ?_
 refine gL ?_
 refine gX ?_
 exact H.Ac rfl rfl (fun _ h => h) ⟨rfl, rfl, rfl⟩
theorem pst_new : Fn Tryz.prog 60 [] f F (fun v f' A' => ∃ b, v = .pointer (some ⟨b, 0, none⟩) ∧ f' = f ∧ A' = pstH b PM.new :: F) := by
 refine Fn.enter Tryz.func60 rfl Tryz.ntmps60 rfl (L := []) trivial fun base => ?_
 refine gV ?_
 refine H.Be rfl rfl rfl rfl (by decide) (by decide) rfl rfl fun eb => ?_
 refine gV ?_
 refine H.box rfl rfl rfl rfl fun b => ?_
 refine gX ?_
 refine H.Ac rfl rfl (A' := pstH b PM.new :: F) ?_ ⟨b, rfl, rfl, rfl⟩
 intro x hx
 refine zam (eb := eb) (ec := 1) x ?_
 refine keep_stars (fun y hy => ?_) x hx
 obtain ⟨m1, m2, d, e, a, r⟩ := hy
 exact ⟨m1, m2, d, e, row_slc (by rfl) (by decide) a, r⟩
theorem pst_open_o (eb ec : Nat) (hn : s.init.length ≤ 1000000) (v : Int) : Fn Tryz.prog 127 [.pointer (some ⟨b, 0, none⟩), .int .u64 v] f (pstL b eb ec s ++ F) (Ret (.bool (s.isOpen v)) f (pstL b eb ec s ++ F)) := by
 show Fn _ _ _ f (row _ _ _ :: slc _ _ _ _ _ _ :: F) _
 by_cases hv : v = s.g
 ·refine Fn.enter Tryz.func127 rfl Tryz.ntmps127 rfl (L := [(0, _), (1, _)]) ⟨rfl, rfl, trivial⟩ fun base => ?_
  refine gc ?_
  refine H.call rfl rfl rfl (pst_last_o f F b s eb ec hn) fun _ _ _ hR => ?_
  obtain ⟨rfl, rfl, rfl⟩ := hR
  refine gU ?_
  exact H.Ac rfl rfl (fun _ h => h) ⟨by simp [PM.isOpen, hv], rfl, rfl⟩
 ·refine Fn.enter Tryz.func127 rfl Tryz.ntmps127 rfl (L := [(0, _), (1, _)]) ⟨rfl, rfl, trivial⟩ fun base => ?_
  refine gJ ?_
  exact H.Ac rfl rfl (fun _ h => h) ⟨by simp [PM.isOpen, hv], rfl, rfl⟩
theorem pst_open (hn : s.init.length ≤ 1000000) (v : Int) : Fn Tryz.prog 127 [.pointer (some ⟨b, 0, none⟩), .int .u64 v] f (pstH b s :: F) (Ret (.bool (s.isOpen v)) f (pstH b s :: F)) :=
 Fn.pstOpen f F b s fun eb ec => pst_open_o f F b s eb ec hn v
theorem pst_change (v : Int) : Fn Tryz.prog 89 [.pointer (some ⟨b, 0, none⟩), .int .u64 v] f (pstH b s :: F) (Ret (.bool (s.changeOk v)) f (pstH b (s.change v) :: F)) := by
 refine pstH_open fun eb ec => ?_
 by_cases h1 : v ≤ s.g
 ·refine Fn.enter Tryz.func89 rfl Tryz.ntmps89 rfl (L := [(0, _), (1, _)]) ⟨rfl, rfl, trivial⟩ fun base => ?_
  refine gT ?_
  have e : s.changeOk v = false := by simp [PM.changeOk]; omega
  exact H.Ac rfl rfl zam ⟨by rw [e], rfl, by simp [PM.change, e]⟩
 ·by_cases h2 : 1073741824 ≤ v
  ·refine Fn.enter Tryz.func89 rfl Tryz.ntmps89 rfl (L := [(0, _), (1, _)]) ⟨rfl, rfl, trivial⟩ fun base => ?_
   refine gJ ?_
   have e : s.changeOk v = false := by simp [PM.changeOk]; omega
   exact H.Ac rfl rfl zam ⟨by rw [e], rfl, by simp [PM.change, e]⟩
  ·refine Fn.enter Tryz.func89 rfl Tryz.ntmps89 rfl (L := [(0, _), (1, _)]) ⟨rfl, rfl, trivial⟩ fun base => ?_
   refine gZ ?_
   have e : s.changeOk v = true := by simp [PM.changeOk]; omega
   refine H.Ac rfl rfl (A' := pstH b (s.change v) :: F) ?_ ⟨by rw [e], rfl, rfl⟩
   rw [show s.change v = { s with g := v } by simp [PM.change, e]]
   exact zam (s := { s with g := v })
theorem votes_bump (s : PM) : SetV (flatV voteV s.all) (s.init.length * 2 + 1) (.int .i64 (s.ln + 1)) (flatV voteV ({ s with ln := s.ln + 1 } : PM).all) := by
 have h : s.init.length * 2 + 1 < (flatV voteV s.all).length := by rw [flatV_length voteV_len, all_len]; omega
 have := SetV.mk (.int .i64 (s.ln + 1)) h
 have e : (flatV voteV s.all).set (s.init.length * 2 + 1) (.int .i64 (s.ln + 1)) = flatV voteV ({ s with ln := s.ln + 1 } : PM).all := by
  simp only [PM.all, flatV_append]
  have h2 : (flatV voteV s.init).length = s.init.length * 2 := flatV_length voteV_len _
  rw [List.set_append_right _ _ (by omega), h2]
  have : s.init.length * 2 + 1 - s.init.length * 2 = 1 := by omega
  rw [this]
  rfl
 rwa [e] at this
theorem pst_prepare {B : Int} (hw : PM.WF s B) (hB : B ≤ 9000000000000000000) (hn : s.init.length ≤ 1000000) (v : Int) : Fn Tryz.prog 94 [.pointer (some ⟨b, 0, none⟩), .int .u64 v] f (pstH b s :: F) (Ret (.bool (s.isOpen v)) f (pstH b (s.prepare v) :: F)) := by
 have hl := hw.last
 cases ho : s.isOpen v with
 | false =>
  refine Fn.enter Tryz.func94 rfl Tryz.ntmps94 rfl (L := [(0, _), (1, _)]) ⟨rfl, rfl, trivial⟩ fun base => ?_
  refine gO ?_
  refine H.call rfl rfl rfl (pst_open f F b s hn v) fun _ _ _ hR => ?_
  obtain ⟨rfl, rfl, rfl⟩ := hR
  rw [ho]
  refine gG ?_
  exact H.Ac rfl rfl (fun _ h => h) ⟨rfl, rfl, by simp [PM.prepare, ho]⟩
 | true =>
  refine Fn.enter Tryz.func94 rfl Tryz.ntmps94 rfl (L := [(0, _), (1, _)]) ⟨rfl, rfl, trivial⟩ fun base => ?_
  refine gO ?_
  refine H.call rfl rfl rfl (pst_open f F b s hn v) fun _ _ _ hR => ?_
  obtain ⟨rfl, rfl, rfl⟩ := hR
  rw [ho]
  refine gR ?_
  refine pstH_openH fun eb ec => ?_
  refine H.drawT 16 (by kernel_rfl) (by decide +kernel) ?_
  refine gF ?_
  refine HS.Cb rfl rfl rfl rfl (by omega) rfl ?_
  refine gF ?_
  refine HS.Ad rfl rfl rfl (.at0 (Rd.ofSlc (by repeat constructor) (by omega)) (votes_ln s)) rfl ?_
  refine gF ?_
  refine HS.Cb rfl rfl rfl rfl (by omega) rfl ?_
  refine gF ?_
  refine H.store_slc rfl rfl rfl rfl (by repeat constructor) (votes_bump s) ?_
  refine gX ?_
  have hf := zam (b := b) (eb := eb) (ec := ec) (s := { s with ln := s.ln + 1 }) (F := F)
  rw [show s.prepare v = { s with ln := s.ln + 1 } by simp [PM.prepare, ho]]
  exact H.Ac rfl rfl hf ⟨rfl, rfl, rfl⟩
end
section
variable (f : Frag) (F : List HP) (b : Nat) (s : PM)
theorem pst_commit {B : Int} (hw : PM.WF s B) (hB : B ≤ 9000000000000000000) (hn : s.init.length ≤ 1000000) (v k most : Int) (hk : 0 ≤ k ∧ k ≤ 18446744073709551615) (hm : -9223372036854775808 ≤ most ∧ most ≤ 9223372036854775807) :
  Fn Tryz.prog 95 [.pointer (some ⟨b, 0, none⟩), .int .u64 v, .int .u64 k, .int .i64 most] f (pstH b s :: F) (Ret (.bool (s.commitOk v k most)) f (pstH b (s.commit v k most) :: F)) := by
 have hl := hw.last
 refine Fn.unfold (fun _ h => h) fun ⟨eb, ec⟩ => ?_
 show Fn _ _ _ f (row _ _ _ :: slc _ _ _ _ _ _ :: F) _
 cases ho : s.isOpen v with
 | false =>
  have e : s.commitOk v k most = false := by simp [PM.isOpen] at ho; simp [PM.commitOk]; omega
  refine Fn.enter Tryz.func95 rfl Tryz.ntmps95 rfl (L := [(0, _), (1, _), (2, _), (3, _)]) ⟨rfl, rfl, rfl, rfl, trivial⟩ fun base => ?_
  refine gO ?_
  refine H.draw ((0, false) :: (1, false) :: (2, true) :: qt 30 3) (by kernel_rfl) (by decide +kernel) (by repeat (first | exact zab | refine zaa ?_ | refine zac ?_ | refine zad ?_)) (S := [_, _]) rfl ?_
  refine gB ?_
  refine HQ.event ?_
  refine H.call rfl rfl rfl (pst_open_o f F b s eb ec hn v) fun _ _ _ hR => ?_
  obtain ⟨rfl, rfl, rfl⟩ := hR
  rw [ho]
  refine gA ?_
  refine H.back (A := [_, _]) rfl ?_
  refine gW ?_
  refine ge ?_
  exact H.Ac rfl rfl zam ⟨by rw [e], rfl, by simp [PM.commit, e]⟩
 | true =>
  have hopen : v = s.g ∧ v = s.lv := by simpa [PM.isOpen] using ho
  by_cases h1 : k = s.ln + 1
  ·by_cases h2 : most < 0
   ·have e : s.commitOk v k most = false := by simp [PM.commitOk]; omega
    clear hopen
    refine Fn.enter Tryz.func95 rfl Tryz.ntmps95 rfl (L := [(0, _), (1, _), (2, _), (3, _)]) ⟨rfl, rfl, rfl, rfl, trivial⟩ fun base => ?_
    refine gO ?_
    refine H.draw ((0, false) :: (1, false) :: (2, true) :: qt 30 3) (by kernel_rfl) (by decide +kernel) (by repeat (first | exact zab | refine zaa ?_ | refine zac ?_ | refine zad ?_)) (S := [_, _]) rfl ?_
    refine gB ?_
    refine HQ.event ?_
    refine H.call rfl rfl rfl (pst_open_o f F b s eb ec hn v) fun _ _ _ hR => ?_
    obtain ⟨rfl, rfl, rfl⟩ := hR
    rw [ho]
    refine gA ?_
    refine H.back (A := [_, _]) rfl ?_
    refine gH ?_
    refine HQ.Cb rfl rfl rfl rfl (by omega) rfl ?_
    refine gC ?_
    refine HQ.Ad rfl rfl rfl (.at0 (Rd.ofSlc (by repeat constructor) (by omega)) (votes_ln s)) rfl ?_
    refine gW ?_
    refine ge ?_
    exact H.Ac rfl rfl zam ⟨by rw [e], rfl, by simp [PM.commit, e]⟩
   ·by_cases h3 : most < k
    ·have e : s.commitOk v k most = false := by simp [PM.commitOk]; omega
     clear hopen
     refine Fn.enter Tryz.func95 rfl Tryz.ntmps95 rfl (L := [(0, _), (1, _), (2, _), (3, _)]) ⟨rfl, rfl, rfl, rfl, trivial⟩ fun base => ?_
     refine gO ?_
     refine H.draw ((0, false) :: (1, false) :: (2, true) :: qt 30 3) (by kernel_rfl) (by decide +kernel) (by repeat (first | exact zab | refine zaa ?_ | refine zac ?_ | refine zad ?_)) (S := [_, _]) rfl ?_
     refine gB ?_
     refine HQ.event ?_
     refine H.call rfl rfl rfl (pst_open_o f F b s eb ec hn v) fun _ _ _ hR => ?_
     obtain ⟨rfl, rfl, rfl⟩ := hR
     rw [ho]
     refine gA ?_
     refine H.back (A := [_, _]) rfl ?_
     refine gH ?_
     refine HQ.Cb rfl rfl rfl rfl (by omega) rfl ?_
     refine gC ?_
     refine HQ.Ad rfl rfl rfl (.at0 (Rd.ofSlc (by repeat constructor) (by omega)) (votes_ln s)) rfl ?_
     refine gW ?_
     refine gI ?_
     exact H.Ac rfl rfl zam ⟨by rw [e], rfl, by simp [PM.commit, e]⟩
    ·have e : s.commitOk v k most = true := by simp [PM.commitOk]; omega
     clear hopen
     refine Fn.enter Tryz.func95 rfl Tryz.ntmps95 rfl (L := [(0, _), (1, _), (2, _), (3, _)]) ⟨rfl, rfl, rfl, rfl, trivial⟩ fun base => ?_
     refine gO ?_
     refine H.draw ((0, false) :: (1, false) :: (2, true) :: qt 30 3) (by kernel_rfl) (by decide +kernel) (by repeat (first | exact zab | refine zaa ?_ | refine zac ?_ | refine zad ?_)) (S := [_, _]) rfl ?_
     refine gB ?_
     refine HQ.event ?_
     refine H.call rfl rfl rfl (pst_open_o f F b s eb ec hn v) fun _ _ _ hR => ?_
     obtain ⟨rfl, rfl, rfl⟩ := hR
     rw [ho]
     refine gA ?_
     refine H.back (A := [_, _]) rfl ?_
     refine gH ?_
     refine HQ.Cb rfl rfl rfl rfl (by omega) rfl ?_
     refine gC ?_
     refine HQ.Ad rfl rfl rfl (.at0 (Rd.ofSlc (by repeat constructor) (by omega)) (votes_ln s)) rfl ?_
     refine gW ?_
     refine gN ?_
     refine H.drawT 16 (by kernel_rfl) (by decide +kernel) ?_
     refine gF ?_
     refine HS.Cb rfl rfl rfl rfl (by omega) rfl ?_
     refine gF ?_
     refine HS.Ad rfl rfl rfl (.at0 (Rd.ofSlc (by repeat constructor) (by omega)) (votes_ln s)) rfl ?_
     refine gF ?_
     refine HS.Cb rfl rfl rfl rfl (by omega) rfl ?_
     refine gF ?_
     refine H.store_slc rfl rfl rfl rfl (by repeat constructor) (votes_bump s) ?_
     refine gX ?_
     have hf := zam (b := b) (eb := eb) (ec := ec) (s := { s with ln := s.ln + 1 }) (F := F)
     rw [show s.commit v k most = { s with ln := s.ln + 1 } by simp [PM.commit, e]]
     exact H.Ac rfl rfl hf ⟨by rw [e], rfl, rfl⟩
  ·have e : s.commitOk v k most = false := by simp [PM.commitOk]; omega
   clear hopen
   refine Fn.enter Tryz.func95 rfl Tryz.ntmps95 rfl (L := [(0, _), (1, _), (2, _), (3, _)]) ⟨rfl, rfl, rfl, rfl, trivial⟩ fun base => ?_
   refine gO ?_
   refine H.draw ((0, false) :: (1, false) :: (2, true) :: qt 30 3) (by kernel_rfl) (by decide +kernel) (by repeat (first | exact zab | refine zaa ?_ | refine zac ?_ | refine zad ?_)) (S := [_, _]) rfl ?_
   refine gB ?_
   refine HQ.event ?_
   refine H.call rfl rfl rfl (pst_open_o f F b s eb ec hn v) fun _ _ _ hR => ?_
   obtain ⟨rfl, rfl, rfl⟩ := hR
   rw [ho]
   refine gA ?_
   refine H.back (A := [_, _]) rfl ?_
   refine gH ?_
   refine HQ.Cb rfl rfl rfl rfl (by omega) rfl ?_
   refine gC ?_
   refine HQ.Ad rfl rfl rfl (.at0 (Rd.ofSlc (by repeat constructor) (by omega)) (votes_ln s)) rfl ?_
   refine gW ?_
   refine ge ?_
   exact H.Ac rfl rfl zam ⟨by rw [e], rfl, by simp [PM.commit, e]⟩
theorem pst_enter {B : Int} (hw : PM.WF s B) (hn : s.init.length ≤ 100000) (v k : Int) :
  Fn Tryz.prog 91 [.pointer (some ⟨b, 0, none⟩), .int .u64 v, .int .i64 k] f (pstH b s :: F) (Ret (.bool (s.enterOk v k)) f (pstH b (s.enter v k) :: F)) := by
 have hl := hw.last
 refine Fn.unfold (fun _ h => h) fun ⟨eb, ec⟩ => ?_
 show Fn _ _ _ f (row _ _ _ :: slc _ _ _ _ _ _ :: F) _
 cases ho : s.enterOk v k with
 | false =>
  have hno : v ≤ s.lv ∨ v < s.g ∨ 1073741824 ≤ v ∨ k < 0 := by simp [PM.enterOk] at ho; omega
  have e2 : s.enter v k = s := by simp [PM.enter, ho]
  rw [e2]
  by_cases h1 : v ≤ s.lv
  ·clear hno
   refine Fn.enter Tryz.func91 rfl Tryz.ntmps91 rfl (L := [(0, _), (1, _), (2, _)]) ⟨rfl, rfl, rfl, trivial⟩ fun base => ?_
   refine gO ?_
   refine H.call rfl rfl rfl (pst_last_o f F b s eb ec (by omega)) fun _ _ _ hR => ?_
   obtain ⟨rfl, rfl, rfl⟩ := hR
   refine gU ?_
   exact H.Ac rfl rfl zam ⟨rfl, rfl, rfl⟩
  ·by_cases h2 : v < s.g
   ·clear hno
    refine Fn.enter Tryz.func91 rfl Tryz.ntmps91 rfl (L := [(0, _), (1, _), (2, _)]) ⟨rfl, rfl, rfl, trivial⟩ fun base => ?_
    refine gO ?_
    refine H.call rfl rfl rfl (pst_last_o f F b s eb ec (by omega)) fun _ _ _ hR => ?_
    obtain ⟨rfl, rfl, rfl⟩ := hR
    refine gT ?_
    exact H.Ac rfl rfl zam ⟨rfl, rfl, rfl⟩
   ·by_cases h3 : 1073741824 ≤ v
    ·clear hno
     refine Fn.enter Tryz.func91 rfl Tryz.ntmps91 rfl (L := [(0, _), (1, _), (2, _)]) ⟨rfl, rfl, rfl, trivial⟩ fun base => ?_
     refine gO ?_
     refine H.call rfl rfl rfl (pst_last_o f F b s eb ec (by omega)) fun _ _ _ hR => ?_
     obtain ⟨rfl, rfl, rfl⟩ := hR
     refine gT ?_
     exact H.Ac rfl rfl zam ⟨rfl, rfl, rfl⟩
    ·have h4 : k < 0 := by omega
     clear hno
     refine Fn.enter Tryz.func91 rfl Tryz.ntmps91 rfl (L := [(0, _), (1, _), (2, _)]) ⟨rfl, rfl, rfl, trivial⟩ fun base => ?_
     refine gO ?_
     refine H.call rfl rfl rfl (pst_last_o f F b s eb ec (by omega)) fun _ _ _ hR => ?_
     obtain ⟨rfl, rfl, rfl⟩ := hR
     refine gJ ?_
     exact H.Ac rfl rfl zam ⟨rfl, rfl, rfl⟩
 | true =>
  obtain ⟨h1, h2, h3, h4⟩ : s.lv < v ∧ s.g ≤ v ∧ v < 1073741824 ∧ 0 ≤ k := by simpa [PM.enterOk] using ho
  have e2 : s.enter v k = ⟨v, s.all, v, k⟩ := by simp [PM.enter, ho]
  rw [e2]
  refine Fn.enter Tryz.func91 rfl Tryz.ntmps91 rfl (L := [(0, _), (1, _), (2, _)]) ⟨rfl, rfl, rfl, trivial⟩ fun base => ?_
  refine gO ?_
  refine H.call rfl rfl rfl (pst_last_o f F b s eb ec (by omega)) fun _ _ _ hR => ?_
  obtain ⟨rfl, rfl, rfl⟩ := hR
  refine gZ ?_
  refine H.Be rfl rfl rfl rfl (by decide) (by decide) rfl rfl fun tb => ?_
  refine H.Bf (m := 1) rfl rfl rfl rfl rfl (fun p' c' => (by repeat constructor)) (Src.slice (Rd.ofRow (by repeat constructor)) rfl) (zae rfl) rfl (by omega) (by omega) fun p' c' => ?_
  refine H.Bp (by repeat constructor) (by omega) fun eb' hp => ?_
  subst hp
  refine gY ?_
  refine H.Ab (.here _ _) ?_
  have hf := zam (b := b) (eb := eb') (ec := c') (s := ⟨v, s.all, v, k⟩) (F := F)
  have hvw : flatV voteV (⟨v, s.all, v, k⟩ : PM).all = flatV voteV s.all ++ [.int .u64 v, .int .i64 k] := by
   simp only [PM.all]
   rw [flatV_append]
   rfl
  have hlen : (⟨v, s.all, v, k⟩ : PM).init.length = s.init.length + 1 := by simp [PM.all]
  rw [hvw, hlen] at hf
  exact H.Ac rfl rfl hf ⟨rfl, rfl, rfl⟩
theorem voted_drop : ∀ (l : List (Int × Int)) (k : Nat) (v : Int), (∀ i p, i < k → l[i]? = some p → v ≠ p.1) → PM.voted l v = PM.voted (l.drop k) v
 | l, 0, v, _ => by simp
 | [], k + 1, v, _ => by simp
 | (w, n) :: r, k + 1, v, h => by
  have h0 : v ≠ w := h 0 (w, n) (by omega) (by simp)
  simp only [PM.voted, h0, if_false, List.drop_succ_cons]
  exact voted_drop r k v fun i p hi hp => h (i + 1) p (by omega) (by simpa using hp)
theorem pst_voted (hn : s.init.length ≤ 1000000) (v : Int) :
  Fn Tryz.prog 64 [.pointer (some ⟨b, 0, none⟩), .int .u64 v] f (pstH b s :: F) (Ret (.tuple #[.int .i64 ((PM.voted s.all v).getD 0), .bool (PM.voted s.all v).isSome]) f (pstH b s :: F)) := by
 refine Fn.unfold (fun _ h => h) fun ⟨eb, ec⟩ => ?_
 show Fn _ _ _ f (row _ _ _ :: slc _ _ _ _ _ _ :: F) _
 refine Fn.enter Tryz.func64 rfl Tryz.ntmps64 rfl (L := [(0, _), (1, _)]) ⟨rfl, rfl, trivial⟩ fun base => ?_
 refine gX ?_
 refine H.Aw (fun k : Nat => [(6, .int .i64 (k : Int)), (0, .pointer (some ⟨b, 0, none⟩)), (1, .int .u64 v)]) (fun _ => f) (fun _ => row _ _ _ :: slc _ _ _ _ _ _ :: F) (fun k => k ≤ s.init.length + 1 ∧ ∀ i p, i < k → s.all[i]? = some p → v ≠ p.1) (fun k => s.init.length + 1 - k) 0 ⟨by omega, by intro i p hi; omega⟩ ⟨rfl, rfl, rfl, trivial⟩ rfl rfl fun k hk => ?_
 obtain ⟨hk, hall⟩ := hk
 refine gc ?_
 by_cases hlt : k < s.init.length + 1
 ·obtain ⟨p, hp⟩ : ∃ p, s.all[k]? = some p := ⟨s.all[k]'(by rw [all_len]; omega), by simp⟩
  have g1 : (flatV voteV s.all)[k * 2 + 0]? = some (.int .u64 p.1) := by rw [flatV_get voteV_len _ _ _ _ hp (by decide)]; rfl
  have g2 : (flatV voteV s.all)[k * 2 + 1]? = some (.int .i64 p.2) := by rw [flatV_get voteV_len _ _ _ _ hp (by decide)]; rfl
  refine gQ ?_
  refine H.Cb rfl rfl rfl rfl hlt rfl ?_
  refine gS ?_
  refine H.Ad rfl rfl rfl (.at0 (Rd.ofSlc (by repeat constructor) (by omega)) g1) rfl ?_
  by_cases hv : p.1 = v
  ·refine gc ?_
   refine H.Cb rfl rfl rfl rfl hlt rfl ?_
   refine gS ?_
   refine H.Ad rfl rfl rfl (.at0 (Rd.ofSlc (by repeat constructor) (by omega)) g2) rfl ?_
   refine gX ?_
   have e : PM.voted s.all v = some p.2 := by
    rw [voted_drop s.all k v hall]
    have hk2 : k < s.all.length := by rw [all_len]; omega
    rw [List.drop_eq_getElem_cons hk2]
    have : s.all[k] = p := by rw [List.getElem?_eq_getElem hk2] at hp; exact Option.some.inj hp
    rw [this]
    simp [PM.voted, hv]
   exact H.ret2 rfl rfl rfl zam ⟨by rw [e]; rfl, rfl, rfl⟩
  ·refine gN ?_
   refine H.Ao (k + 1) ⟨by omega, ?_⟩ (by omega) ⟨rfl, rfl, rfl, trivial⟩ rfl rfl
   intro i q hi hq
   by_cases c : i = k
   ·subst c; rw [hp] at hq; cases hq; exact fun e => hv e.symm
   ·exact hall i q (by omega) hq
 ·refine gN ?_
  have e : PM.voted s.all v = none := by
   rw [voted_drop s.all k v hall, List.drop_eq_nil_of_le (by rw [all_len]; omega)]
   rfl
  exact H.ret2 rfl rfl rfl zam ⟨by rw [e]; rfl, rfl, rfl⟩
end
def lst (xs : List HP) : HP := fun h => stars xs h
theorem lst_pull {x : HP} : ∀ {xs : List HP} {i : Nat}, xs[i]? = some x → stars xs = star x (stars (xs.set i emp))
 | [], i, h => by simp at h
 | y :: r, 0, h => by
  have e : y = x := by simpa using h
  subst e
  show star y (stars r) = star y (star emp (stars r))
  rw [emp_star]
 | y :: r, i + 1, h => by
  show star y (stars r) = star x (star y (stars (r.set i emp)))
  rw [lst_pull (xs := r) (i := i) (by simpa using h), zaw]
theorem set_get {α : Type} {xs : List α} {i : Nat} {x y : α} (h : xs[i]? = some x) : (xs.set i y)[i]? = some y := by
 rw [List.getElem?_set_self (List.getElem?_eq_some_iff.1 h).1]
theorem lst_put {x0 x : HP} {xs : List HP} {i : Nat} (h : xs[i]? = some x0) : star x (stars (xs.set i emp)) = stars (xs.set i x) := by
 rw [lst_pull (xs := xs.set i x) (i := i) (set_get h), List.set_set]
theorem lst_perm {a b : List HP} (h : a.Perm b) : stars a = stars b := by
 induction h with
 | nil => rfl
 | cons x _ ih => show star x _ = star x _; rw [ih]
 | swap x y l => show star y (star x _) = star x (star y _); rw [zaw]
 | trans _ _ h1 h2 => exact h1.trans h2
theorem set_self {α : Type} {xs : List α} {i : Nat} {x : α} (h : xs[i]? = some x) : xs.set i x = xs := by
 apply List.ext_getElem?
 intro j
 rw [List.getElem?_set]
 split
 ·rename_i e
  subst e
  rw [h]
  split
  ·rfl
  ·rename_i h2
   exact absurd (List.getElem?_eq_some_iff.1 h).1 h2
 ·rfl
theorem lst_pullA {x : HP} {xs : List HP} {i : Nat} (A : List HP) (h : xs[i]? = some x) : stars (lst xs :: A) = stars (x :: lst (xs.set i emp) :: A) := by
 show star (stars xs) (stars A) = star x (star (stars (xs.set i emp)) (stars A))
 rw [lst_pull h, zbe]
theorem lst_putA {x0 x : HP} {xs : List HP} {i : Nat} (A : List HP) (h : xs[i]? = some x0) : stars (x :: lst (xs.set i emp) :: A) = stars (lst (xs.set i x) :: A) := by
 show star x (star (stars (xs.set i emp)) (stars A)) = star (stars (xs.set i x)) (stars A)
 rw [← zbe, lst_put h]
section
variable {P : Program} {base : World} {n : Nat} {L : Env} {f : Frag} {A : List HP} {K : Kont} {xs : List HP} {i : Nat}
theorem H.lstPull {x : HP} (h : xs[i]? = some x) (kk : H P base n L f (x :: lst (xs.set i emp) :: A) K) : H P base n L f (lst xs :: A) K := H.conv (lst_pullA A h) kk
theorem H.lstPut {x0 x : HP} (h : xs[i]? = some x0) (kk : H P base n L f (lst (xs.set i x) :: A) K) : H P base n L f (x :: lst (xs.set i emp) :: A) K := H.conv (lst_putA A h) kk
theorem H.lstBack {x : HP} (h : xs[i]? = some x) (kk : H P base n L f (lst xs :: A) K) : H P base n L f (x :: lst (xs.set i emp) :: A) K := H.lstPut h (by rw [set_self h]; exact kk)
end
/-! ### Rows of cells, one for each number below a bound -/
def rngV (n : Nat) (g : Nat → Value) : List Value := (List.range n).map g
theorem rngV_len (n : Nat) (g : Nat → Value) : (rngV n g).length = n := by unfold rngV; rw [List.length_map, List.length_range]
theorem rngV_get {n : Nat} (g : Nat → Value) {i : Nat} (h : i < n) : (rngV n g)[i]? = some (g i) := by
 unfold rngV
 rw [List.getElem?_map, List.getElem?_range h]
 rfl
theorem rngV_set {n : Nat} (g : Nat → Value) {i : Nat} (v : Value) (h : i < n) : SetV (rngV n g) i v (rngV n (updF g i v)) := by
 have e : rngV n (updF g i v) = (rngV n g).set i v := by
  apply List.ext_getElem?
  intro j
  rw [List.getElem?_set, rngV_len]
  by_cases hj : j < n
  ·rw [rngV_get _ hj]
   split
   ·rename_i e; subst e; rw [zaj]
   ·rename_i e; rw [zan _ _ (fun h => e h.symm), rngV_get _ hj]
  ·rw [List.getElem?_eq_none (by rw [rngV_len]; omega)]
   split
   ·rename_i e; omega
   ·rw [List.getElem?_eq_none (by rw [rngV_len]; omega)]
 rw [e]
 exact SetV.mk v (by rw [rngV_len]; exact h)
theorem rngV_congr {n : Nat} {g g' : Nat → Value} (h : ∀ i, i < n → g i = g' i) : rngV n g = rngV n g' := by
 unfold rngV
 exact List.map_congr_left fun i hi => h i (List.mem_range.1 hi)
def dig0 (c : UInt8) : Nat → UInt8
 | 0 => c
 | _ + 1 => 0
theorem signed_ok {r : Req} (h : r.Ok) : r.signed.Ok := by
 unfold Req.signed
 split
 ·exact h
 ·exact h
theorem reqz_ok : Req.zero.Ok := ⟨⟨by decide, by decide⟩, by decide, by decide⟩
theorem cnt_len (l : List Msg) (i : Nat) : cnt l i ≤ l.length := by
 unfold cnt strm
 exact List.length_filter_le _ _
theorem WInv.kv_le {n : Nat} {W : W12} (h : WInv n W) {r : Nat} (hr : r < n) (i : Nat) : 0 ≤ W.kv r i ∧ W.kv r i ≤ (W.all.length : Nat) := by
 have h1 := (h.knw r hr).le i
 have h2 := cnt_len W.all i
 omega
def fewZ (z : Int) : Prop := 3 ≤ z ∧ z ≤ 11 ∧ z.tmod 2 = 1
instance (z : Int) : Decidable (fewZ z) := by unfold fewZ; infer_instance
section
variable (f : Frag) (F : List HP)
end
end Go.Proofs.YtdcjlgigcbinjaaGreatDoor

namespace Go.Proofs.YtdcjlgigcbinjaaGreatDoor
open Go Go.ChangeShapes Go.WideShapes Go.RowKit Go.Deep
theorem reads_byte {W : World} {cs : List Value} (h : Reads Tryz.prog W 5 cs) : ∃ x : UInt8, True ∧ cs = [.int .u8 (x.toNat : Nat)] := by
 obtain ⟨z, rfl, hz⟩ := h.int Tryz.underlying5
 exact ⟨UInt8.ofNat z.toNat, trivial, by rw [u8_back hz]⟩
theorem listAt_bat {f : Frag} {p : Option Addr} {l : List UInt8} (h : ListAt f p 1 (fun x : UInt8 => [Value.int .u8 (x.toNat : Nat)]) l) : BAt f p l := by
 cases l with
 | nil => exact .inl rfl
 | cons x0 r =>
  obtain ⟨b, off, cs, T, fr, h1, h2, _⟩ := h 0 x0 rfl
  refine .inr ⟨b, off, cs, T, fr, h1, h2, fun i hi => ?_⟩
  have hx : (x0 :: r)[i]? = some (x0 :: r)[i] := List.getElem?_eq_getElem hi
  obtain ⟨b', off', cs', T', fr', g1, g2, g3⟩ := h i _ hx
  rw [h1] at g1
  cases g1
  rw [h2] at g2
  cases g2
  have h3 := g3 0 (show 0 < 1 by decide)
  rw [Nat.mul_one, Nat.add_zero] at h3
  rw [h3]
  unfold bytesV
  rw [List.getElem?_map, hx]
  rfl
theorem ArgOk.bytesC {W : World} {v : Value} {t : TypeId} (ht : Tryz.prog.underlying t = some (.slice 5)) (h : ArgOk Tryz.prog W t v) : ∃ (p : Option Addr) (c : Nat) (l : List UInt8), v = .slice p l.length c ∧ l.length ≤ c ∧ c ≤ maxLen ∧ BAt (memOf W) p l := by
 obtain ⟨p, c, xs, rfl, h1, h2, _, hat⟩ := h.list (sz := 1) ht (by kernel_rfl) (by decide) fun cs => reads_byte
 exact ⟨p, c, xs, rfl, h1, h2, listAt_bat hat⟩
def kRow (n : Nat) (kv : Nat → Nat → Int) : List Value := (List.range (n * 11)).map fun j => .int .u64 (kv (j / 11) (j % 11))
theorem kRow_len (n : Nat) (kv : Nat → Nat → Int) : (kRow n kv).length = n * 11 := by unfold kRow; rw [List.length_map, List.length_range]
theorem kRow_at {n : Nat} {kv : Nat → Nat → Int} {j : Nat} (h : j < n * 11) : (kRow n kv)[j]? = some (.int .u64 (kv (j / 11) (j % 11))) := by
 unfold kRow
 rw [List.getElem?_map, List.getElem?_range h]; rfl
theorem kRow_get {n : Nat} {kv : Nat → Nat → Int} {o k : Nat} (ho : o < n) (hk : k < 11) : (kRow n kv)[o * 11 + k]? = some (.int .u64 (kv o k)) := by
 rw [kRow_at (by omega), show (o * 11 + k) / 11 = o by omega, show (o * 11 + k) % 11 = k by omega]
theorem kRow_set {n : Nat} {kv : Nat → Nat → Int} {o k : Nat} (z : Int) (ho : o < n) (hk : k < 11) : SetV (kRow n kv) (o * 11 + k) (.int .u64 z) (kRow n (updF kv o (updF (kv o) k z))) := by
 have e : kRow n (updF kv o (updF (kv o) k z)) = (kRow n kv).set (o * 11 + k) (.int .u64 z) := by
  apply List.ext_getElem?
  intro j
  rw [List.getElem?_set, kRow_len]
  by_cases hj : j < n * 11
  ·rw [kRow_at hj, kRow_at hj]
   by_cases e : o * 11 + k = j
   ·rw [if_pos e, if_pos (by omega), show j / 11 = o by omega, show j % 11 = k by omega, zaj, zaj]
   ·rw [if_neg e]
    by_cases e1 : j / 11 = o
    ·rw [e1, zaj, zan _ _ (by omega)]
    ·rw [zan _ _ e1]
  ·rw [if_neg (by omega), List.getElem?_eq_none (by rw [kRow_len]; omega), List.getElem?_eq_none (by rw [kRow_len]; omega)]
 rw [e]
 exact SetV.mk _ (by rw [kRow_len]; omega)
theorem kRow_congr {n : Nat} {kv kv' : Nat → Nat → Int} (h : ∀ r, r < n → ∀ i, i < 11 → kv r i = kv' r i) : kRow n kv = kRow n kv' := by
 apply List.ext_getElem?
 intro j
 by_cases hj : j < n * 11
 ·rw [kRow_at hj, kRow_at hj, h (j / 11) (by omega) (j % 11) (by omega)]
 ·rw [List.getElem?_eq_none (by rw [kRow_len]; omega), List.getElem?_eq_none (by rw [kRow_len]; omega)]
theorem kRow_zero (n : Nat) : zeros (v11 fun _ => 0) n = kRow n fun _ _ => 0 := by
 have hl : (v11 fun _ => 0).length = 11 := rfl
 apply List.ext_getElem?
 intro j
 by_cases hj : j < n * 11
 ·rw [kRow_at hj, zeros_get _ _ _ (by rw [hl]; exact hj), hl, zas _ (by omega)]
 ·rw [List.getElem?_eq_none (by rw [zeros_length, hl]; omega), List.getElem?_eq_none (by rw [kRow_len]; omega)]
theorem Rd.part {f : Frag} {A : List HP} {b off : Nat} {big l : List Value} (h : Rd f A b 0 big) (hl : ∀ i, i < l.length → big[off + i]? = l[i]?) (hle : off + l.length ≤ big.length) : Rd f A b off l := fun base w s => by
 obtain ⟨cs, t, fr, h1, h2⟩ := h base w s
 exact ⟨cs, t, fr, h1, fun i hi => by rw [← hl i hi, ← h2 (off + i) (by omega), Nat.zero_add]⟩
theorem Rd.kRow {f : Frag} {A : List HP} {b n o : Nat} {kv : Nat → Nat → Int} (h : Rd f A b 0 (kRow n kv)) (ho : o < n) : Rd f A b (o * 11) (v11 (kv o)) :=
 h.part (fun i hi => by
  have hi : i < 11 := hi
  rw [kRow_get ho hi, zas _ hi]) (by rw [kRow_len]; show o * 11 + 11 ≤ _; omega)
theorem v11_upd (d : Nat → Int) (v : Int) {k : Nat} (h : k < 11) : SetV (v11 d) k (.int .u64 v) (v11 (updF d k v)) := by
 have e : v11 (updF d k v) = (v11 d).set k (.int .u64 v) := by
  match k, h with
  | 0, _ => rfl
  | 1, _ => rfl
  | 2, _ => rfl
  | 3, _ => rfl
  | 4, _ => rfl
  | 5, _ => rfl
  | 6, _ => rfl
  | 7, _ => rfl
  | 8, _ => rfl
  | 9, _ => rfl
  | 10, _ => rfl
 rw [e]
 exact SetV.mk _ h
def KAt (f : Frag) (kb n : Nat) (kv : Nat → Nat → Int) : Prop := ∃ T, f kb = some (.cells (kRow n kv).toArray T (0, 0))
theorem KAt.mono {f g : Frag} (h : Le f g) {kb n : Nat} {kv : Nat → Nat → Int} (hk : KAt f kb n kv) : KAt g kb n kv := by
 obtain ⟨T, hk⟩ := hk
 exact ⟨T, h _ _ hk⟩
theorem KAt.of {kb n : Nat} {T : TypeId} {kv : Nat → Nat → Int} {f g : Frag} (h : row kb T (kRow n kv) g) (hd : Dj f g) : KAt (un f g) kb n kv := by
 have hg : g = sing kb (.cells (kRow n kv).toArray T (0, 0)) := h
 refine ⟨T, Le.right hd _ _ ?_⟩
 rw [hg]; simp [sing]
section
variable (f : Frag) (F : List HP)
end
end Go.Proofs.YtdcjlgigcbinjaaGreatDoor

namespace Go.Proofs.YtdcjlgigcbinjaaGreatDoor
open Go
section
variable (f : Frag) (F : List HP)
/-! ### slices.ContainsFunc -/
end
section
variable (f : Frag) (F : List HP)
end
section
variable (f : Frag) (F : List HP)
end
theorem MVs_one (l : List MV) : ∀ v ∈ l.flatMap MV.vals, one v = true := by
 intro v hv
 simp only [List.mem_flatMap] at hv
 obtain ⟨x, _, hx⟩ := hv
 exact zae (show allOne x.vals = true from rfl) v hx
def msgZ : Msg := ⟨0, 0, fun _ => 0, Bod.zero 0, noTag⟩
section
variable (f : Frag) (F : List HP)
end
section
variable (f : Frag) (F : List HP)
end
theorem Dj.un3' {f g h : Frag} (h1 : Dj f g) (h2 : Dj (un f g) h) : Dj f (un g h) := Dj.un_right.2 ⟨h1, (Dj.un_left.1 h2).1⟩
theorem slc_snoc {p : Option Addr} {c : Nat} {T : TypeId} {R : List MV} {y : MV} : slc p (R.length + 1) c T 121 (R.flatMap MV.vals ++ y.vals) = slc p (R ++ [y]).length c T 121 ((R ++ [y]).flatMap MV.vals) := by
 rw [List.length_append, List.flatMap_append]
 show _ = slc p (R.length + 1) c T 121 (R.flatMap MV.vals ++ (y.vals ++ []))
 rw [List.append_nil]
section
variable (f : Frag) (F : List HP)
end
section
variable (f : Frag) (F : List HP)
theorem rclient_fn {i : Int} (h1 : 1 ≤ i) (h2 : i ≤ 8) : Fn Tryz.prog 111 [.int .i64 i] f F (BytesR (Sha.word32 clientW i) f F) := by
 refine Fn.enter Tryz.func111 rfl Tryz.ntmps111 rfl (L := [(0, _)]) ⟨rfl, trivial⟩ fun base => ?_
 refine gO ?_
 refine H.Az rfl rfl rfl (rkey_fn (w := ⟨#[114, 97, 116, 99, 104, 101, 116, 32, 99, 108, 105, 101, 110, 116]⟩) f _ h1 h2 (by decide) (by decide)) fun p1 c1 => ?_
 refine gX ?_
 exact H.Ac rfl rfl (fun _ h => h) ⟨p1, c1, rfl, rfl, rfl⟩
set_option maxHeartbeats 800000 in
theorem rsigned_fn (r : Req) : Fn Tryz.prog 78 [.agg r.vals.toArray] f F (Ret (.agg r.signed.vals.toArray) f F) := by
 have has := fun G => rasked_fn f G r
 unfold Req.signed
 by_cases ha : r.asked
 ·have hbl := Req.bytes_max ha
  have hcl := fun G => rclient_fn f G ha.1 ha.2.1
  have hrq := fun G p c => rrequest_fn f G (p := p) (c := c) (l := []) r ha (by decide)
  have hk : (Sha.word32 clientW r.client).length = 32 := rfl
  rw [if_pos ha]
  rw [decide_eq_true ha] at has
  unfold Req.sig
  generalize Sha.word32 clientW r.client = key at hk hcl ⊢
  rw [show ([] : List UInt8) ++ r.bytes = r.bytes from rfl] at hrq
  generalize r.bytes = rb at hbl hrq ⊢
  refine Fn.enter Tryz.func78 rfl Tryz.ntmps78 rfl (L := [(0, _)]) ⟨rfl, trivial⟩ fun base => ?_
  refine gA ?_
  refine H.box (ls := r.vals) rfl rfl rfl rfl fun qb => ?_
  refine H.Am (ls := Req.zero.vals) rfl rfl rfl fun ob => ?_
  refine gA ?_
  refine H.Ag (ls := r.vals) rfl rfl rfl (Rd.ofRow (.there _ (.here _ _ _))) rfl rfl ?_
  refine H.Ah rfl rfl rfl (has _) ?_
  refine ge ?_
  refine H.Aa (.there _ (.here _ _)) ?_
  refine H.Bt [0, 1, 2, 3, 4, 5] (by kernel_rfl) (by decide +kernel) (by repeat (first | exact zab | refine zaa ?_ | refine zac ?_ | refine zad ?_)) (S := [_]) rfl ?_
  refine HB.Af [(0, false), (1, false), (3, false)] 5 (by kernel_rfl) ?_
  refine gE ?_
  refine HQ.Ag (ls := r.vals) rfl rfl rfl (Rd.ofRow (.here _ _ _)) rfl rfl ?_
  refine HQ.Ae rfl ?_
  refine HB.ev1 (i := 2) (by kernel_rfl) rfl ?_
  refine H.Az rfl rfl rfl (hcl _) fun p1 c1 => ?_
  refine gA ?_
  refine H.Aa (.there _ (.here _ _)) ?_
  refine H.on0 rfl ?_
  refine HB.ev1 (i := 4) (by kernel_rfl) rfl ?_
  refine H.slc0 5 1 ?_
  refine H.Az rfl rfl rfl (hrq _ none 0) fun p2 c2 => ?_
  refine gA ?_
  refine H.Aa (x := row qb _ _) (by repeat constructor) ?_
  refine H.on0 rfl ?_
  refine HB.ev1 (i := 5) (by kernel_rfl) rfl ?_
  refine H.Ah rfl rfl rfl (hmac_fn f _ (key := key) (b := rb) (fun G => Src.append (Src.slcS (by repeat constructor) (by rw [zaf]; exact (Nat.mul_one _).symm))) (fun G => Src.append (Src.slcS (by repeat constructor) (by rw [zaf]; exact (Nat.mul_one _).symm))) (by omega) (by omega)) ?_
  generalize Sha.hmac key rb = t
  refine gA ?_
  refine H.on0 rfl ?_
  refine HB.next [] (by kernel_rfl) (S' := []) rfl ?_
  refine HB.Af [(6, false)] 1 (by kernel_rfl) ?_
  refine gC ?_
  refine HQ.Ae rfl ?_
  refine HB.ev1 (i := 7) (by kernel_rfl) rfl ?_
  refine H.Ak (ls := r.vals) (vs := b32 t) (ls' := ({ r with tag := t } : Req).vals) rfl rfl rfl (zae rfl) rfl (splice_rtag r t) (by show 0 + 8 + 32 ≤ 40; decide) (.here _ _ _) ?_
  refine gA ?_
  refine H.on0 rfl ?_
  refine HB.Al (by kernel_rfl) ?_
  refine gA ?_
  refine H.Ag (ls := ({ r with tag := t } : Req).vals) rfl rfl rfl (Rd.ofRow (.here _ _ _)) rfl rfl ?_
  refine H.Ak (ls := Req.zero.vals) (vs := ({ r with tag := t } : Req).vals) (ls' := ({ r with tag := t } : Req).vals) rfl rfl rfl (zae rfl) rfl rfl (Nat.le_refl 40) (by repeat constructor) ?_
  refine gX ?_
  refine H.Ab (.here _ _) ?_
  refine H.Ab (.here _ _) ?_
  refine H.Ab (.here _ _) ?_
  exact H.Bd rfl rfl rfl (Rd.ofRow (.here _ _ _)) rfl (fun _ s => s.drop (.here _ _)) ⟨rfl, rfl, rfl⟩
 ·rw [if_neg ha]
  rw [decide_eq_false ha] at has
  refine Fn.enter Tryz.func78 rfl Tryz.ntmps78 rfl (L := [(0, _)]) ⟨rfl, trivial⟩ fun base => ?_
  refine gA ?_
  refine H.box (ls := r.vals) rfl rfl rfl rfl fun qb => ?_
  refine H.Am (ls := Req.zero.vals) rfl rfl rfl fun ob => ?_
  refine gA ?_
  refine H.Ag (ls := r.vals) rfl rfl rfl (Rd.ofRow (.there _ (.here _ _ _))) rfl rfl ?_
  refine H.Ah rfl rfl rfl (has _) ?_
  refine gR ?_
  refine H.Ag (ls := r.vals) rfl rfl rfl (Rd.ofRow (.there _ (.here _ _ _))) rfl rfl ?_
  refine H.Ak (ls := Req.zero.vals) (vs := r.vals) (ls' := r.vals) rfl rfl rfl (zae rfl) rfl rfl (Nat.le_refl 40) (.here _ _ _) ?_
  refine gX ?_
  refine H.Ab (.there _ (.here _ _)) ?_
  exact H.Bd rfl rfl rfl (Rd.ofRow (.here _ _ _)) rfl (fun _ s => s.drop (.here _ _)) ⟨rfl, rfl, rfl⟩
end
theorem good_signed {m : Msg} {q : Option Addr} {c : Nat} {f : Frag} (h : (⟨m, q, c⟩ : MV).Good f) : (⟨m.signed, q, c⟩ : MV).Good f := by
 obtain ⟨h1, h2, h3⟩ := h
 refine ⟨?_, ?_, ?_⟩
 ·show QAt f q m.signed.body.q; rw [m.signed_parts.2.2.2]; exact h1
 ·show m.signed.body.q.length ≤ _; rw [m.signed_parts.2.2.2]; exact h2
 ·show m.signed.body.Ok; rw [m.signed_parts.2.2.2]; exact h3
theorem H.weakL {P : Program} {base : World} {n : Nat} {L : Env} {f g : Frag} {A : List HP} {K : Kont} (h : Le f g) (k : H P base n L f A K) : H P base n L g A K := .mk fun a w hf s => k.out a w hf (s.weak h)
theorem tab_mono {f g : Frag} (t : TabAt f) (h : Le f g) : TabAt g := IntsAt.mono h t
section
variable (f : Frag) (F : List HP)
end
theorem good_few {f : Frag} {x : MV} (h : x.Has f) (hl : x.m.body.q.length ≤ 20) : x.Good f := ⟨h.1, by omega, h.2⟩
section
variable (f : Frag) (F : List HP)
end
theorem zak {a b r : Nat} (h : a % b = r) : ((a : Nat) : Int).tmod ((b : Nat) : Int) = (r : Nat) := by rw [← h, Int.ofNat_tmod]
def BodP (f : Frag) (F : List HP) (b : Bod) : Value → Frag → List HP → Prop := fun v f' A' =>
 ∃ (g : Frag) (p : Option Addr) (c : Nat), v = .agg (b.vals p c).toArray ∧ QAt (un f g) p b.q ∧ Dj f g ∧ f' = un f g ∧ A' = F
section
variable (f : Frag) (F : List HP)
end
structure WAt (f : Frag) (n : Nat) (W : W12) (kb : Nat) (ap : Option Addr) (l : List MV) : Prop where
 k : KAt f kb n W.kv
 a : ListAt f ap 121 MV.vals l
 g : ∀ x ∈ l, x.Good f
 m : l.map MV.m = W.all
def raised (kv : Nat → Nat → Int) (o j i : Nat) : Nat → Nat → Int := updF kv o fun t => if t < i then maxV (kv o) (kv j) t else kv o t
theorem raised_zero (kv : Nat → Nat → Int) (o j : Nat) : raised kv o j 0 = kv := by
 unfold raised
 have : (fun t => if t < 0 then maxV (kv o) (kv j) t else kv o t) = kv o := by funext t; rw [if_neg (by omega)]
 rw [this, updF_self]
theorem raised_o (kv : Nat → Nat → Int) (o j i : Nat) : raised kv o j i o i = kv o i := by
 unfold raised
 rw [zaj]
 show (if i < i then _ else _) = _
 rw [if_neg (by omega)]
theorem raised_j (kv : Nat → Nat → Int) (o j i : Nat) : raised kv o j i j i = kv j i := by
 by_cases e : j = o
 ·subst e; exact raised_o kv j j i
 ·unfold raised; rw [zan _ _ e]
theorem raised_next (kv : Nat → Nat → Int) (o j i : Nat) : updF (raised kv o j i) o (updF (raised kv o j i o) i (maxV (kv o) (kv j) i)) = raised kv o j (i + 1) := by
 unfold raised
 rw [zaj, updF_updF]
 congr 1
 funext t
 show (if t = i then _ else if t < i then _ else _) = if t < i + 1 then _ else _
 by_cases e : t = i
 ·subst e; rw [if_pos rfl, if_pos (by omega)]
 ·rw [if_neg e]
  by_cases h : t < i
  ·rw [if_pos h, if_pos (by omega)]
  ·rw [if_neg h, if_neg (by omega)]
theorem raised_end {n o j : Nat} (W : W12) : kRow n (raised W.kv o j 11) = kRow n (W.meet o j).kv := kRow_congr fun r _ i hi => by
 show raised W.kv o j 11 r i = updF W.kv o (maxV (W.kv o) (W.kv j)) r i
 unfold raised
 by_cases e : r = o
 ·subst e; rw [zaj, zaj, if_pos hi]
 ·rw [zan _ _ e, zan _ _ e]
section
variable (f : Frag) (F : List HP)
end
theorem ListAt.all {α : Type} {f : Frag} {p : Option Addr} {sz : Nat} {vals : α → List Value} {l : List α} (hv : ∀ x, (vals x).length = sz) (h1 : 0 < sz) (h : ListAt f p sz vals l) (h0 : 0 < l.length) :
  ∃ b off, p = some ⟨b, off, none⟩ ∧ ∀ (g : Frag) A i x, Le f g → l[i]? = some x → Rd g A b (off + i * sz) (vals x) := by
 obtain ⟨x0, hx0⟩ : ∃ x0, l[0]? = some x0 := ⟨_, List.getElem?_eq_getElem h0⟩
 obtain ⟨b, off, cs, T, fr, rfl, hfb, _⟩ := h 0 x0 hx0
 refine ⟨b, off, rfl, fun g A i x hle hx => ?_⟩
 obtain ⟨b', off', cs', T', fr', e, hfb', hcs'⟩ := h i x hx
 cases e
 exact Rd.imm (hle _ _ hfb') hcs'
section
variable (f : Frag) (F : List HP)
end
structure VV where
 w : Vw
 sp : Option Addr
 sc : Nat
 pp : Option Addr
 pc : Nat
def VV.vals (x : VV) : List Value := [.int .u64 x.w.v, .int .u64 x.w.num, .slice x.sp x.w.s.length x.sc, .slice x.pp x.w.p.length x.pc]
theorem VV.len (x : VV) : x.vals.length = 4 := rfl
theorem Req.len (r : Req) : r.vals.length = 40 := rfl
def prepV (y : Int × Req) : List Value := .int .u64 y.1 :: y.2.vals
theorem prepV_len (y : Int × Req) : (prepV y).length = 41 := rfl
def VV.own (x : VV) : HP := slc x.pp x.w.p.length x.pc 191 41 (x.w.p.flatMap prepV)
theorem Reqs_one (l : List Req) : ∀ v ∈ l.flatMap Req.vals, one v = true := by
 intro v hv
 obtain ⟨r, _, hr⟩ := List.mem_flatMap.1 hv
 exact zae (l := r.vals) rfl v hr
def chV (c : Int × Int) : List Value := [.int .u64 c.1, .int .u64 c.2]
theorem chV_len (c : Int × Int) : (chV c).length = 2 := rfl
def lgC (n : Nat) (kn : Nat → Int) (vp : Option Addr) (vl vc : Nat) (pp : Option Addr) (pc : Nat) (cp : Option Addr) (cc : Nat) : List Value := [.int .i64 (n : Int)] ++ v11 kn ++ [.slice vp vl vc, .slice pp n pc, .slice cp n cc]
theorem lgC_kn {f : Frag} {A A' : List HP} {b n : Nat} {T : TypeId} {kn : Nat → Int} {vp : Option Addr} {vl vc : Nat} {pp : Option Addr} {pc : Nat} {cp : Option Addr} {cc : Nat}
  (h : At A (row b T (lgC n kn vp vl vc pp pc cp cc)) A' (row b T (lgC n kn vp vl vc pp pc cp cc))) : Rd f A b (0 + 1) (v11 kn) :=
 (Rd.ofRow (f := f) h).sub rfl
def addrV (b : Nat) : List Value := [.pointer (some ⟨b, 0, none⟩)]
structure LPt where
 V : List VV
 vp : Option Addr
 vc : Nat
 pp : Option Addr
 pc : Nat
 cp : Option Addr
 cc : Nat
 pb : Nat → Nat
 cs : Nat → Option Addr × Nat
structure lgφ (f : Frag) (l : Lgs) (i : LPt) : Prop where
 vs : i.V.map VV.w = l.vs
 s : ∀ x ∈ i.V, ListAt f x.sp 40 Req.vals x.w.s
 p : ListAt f i.pp 1 addrV ((List.range l.n).map i.pb)
def chRow (l : Lgs) (cs : Nat → Option Addr × Nat) : List Value := rngV l.n fun r => .slice (cs r).1 (l.ch r).length (cs r).2
def chFam (l : Lgs) (cs : Nat → Option Addr × Nat) (r : Nat) : HP := slc (cs r).1 (l.ch r).length (cs r).2 186 2 ((l.ch r).flatMap chV)
def lgB (lb : Nat) (l : Lgs) (i : LPt) : List HP := [row lb 148 (lgC l.n l.known i.vp i.V.length i.vc i.pp i.pc i.cp i.cc), slc i.vp i.V.length i.vc 143 4 (i.V.flatMap VV.vals), lst (i.V.map VV.own),
 fam (fun r => pstH (i.pb r) (l.past r)) l.n, slc i.cp l.n i.cc 184 1 (chRow l i.cs), fam (chFam l i.cs) l.n]
def logsH (f : Frag) (lb : Nat) (l : Lgs) : HP := pack (lgφ f l) (lgB lb l)
theorem lgφ.mono {f g : Frag} (h : Le f g) {l : Lgs} {i : LPt} (hl : lgφ f l i) : lgφ g l i := ⟨hl.vs, fun x hx => (hl.s x hx).mono h, hl.p.mono h⟩
theorem logsH_mono {f g : Frag} (h : Le f g) {lb : Nat} {l : Lgs} : ∀ x, logsH f lb l x → logsH g lb l x := fun _ ⟨i, hi, hx⟩ => ⟨i, hi.mono h, hx⟩
theorem zah {f : Frag} {F : List HP} {lb : Nat} {l : Lgs} (i : LPt) (h : lgφ f l i) : ∀ x, stars (lgB lb l i ++ F) x → stars (logsH f lb l :: F) x := fun x hx =>
 pack_fold (φ := lgφ f l) (B := lgB lb l) i h x hx
theorem lgφ.len {f : Frag} {l : Lgs} {i : LPt} (h : lgφ f l i) : i.V.length = l.vs.length := by rw [← h.vs, List.length_map]
theorem lgφ.at {f : Frag} {l : Lgs} {i : LPt} (h : lgφ f l i) {j : Nat} {x : VV} (hx : i.V[j]? = some x) : l.vs[j]? = some x.w := by rw [← h.vs, List.getElem?_map, hx]; rfl
theorem lgφ.of {f : Frag} {l : Lgs} {i : LPt} (h : lgφ f l i) {j : Nat} {w : Vw} (hw : l.vs[j]? = some w) : ∃ x, i.V[j]? = some x ∧ x.w = w := by
 rw [← h.vs, List.getElem?_map] at hw
 cases e : i.V[j]? with
 | none => rw [e] at hw; cases hw
 | some x => rw [e] at hw; cases hw; exact ⟨x, rfl, rfl⟩
theorem lgφ.past {f : Frag} {l : Lgs} {i : LPt} (h : lgφ f l i) (hn : 0 < l.n) : ∃ b off, i.pp = some ⟨b, off, none⟩ ∧ ∀ {e : Frag} {A : List HP} {r : Nat}, Le f e → r < l.n → Rd1 e A b (off + r) (.pointer (some ⟨i.pb r, 0, none⟩)) := by
 obtain ⟨b, off, h1, rd⟩ := ListAt.all (vals := addrV) (sz := 1) (fun _ => rfl) (by decide) h.p (by rw [List.length_map, List.length_range]; exact hn)
 refine ⟨b, off, h1, fun {e A r} he hr => ?_⟩
 have h2 := rd e A r (i.pb r) he (by rw [List.getElem?_map, List.getElem?_range hr]; rfl)
 have h3 := Rd1.of (i := 0) h2 (v := .pointer (some ⟨i.pb r, 0, none⟩)) rfl
 rw [Nat.mul_one, Nat.add_zero] at h3
 exact h3
section
variable (f : Frag) (F : List HP)
theorem prim_fn {n : Nat} (hn : 1 ≤ n ∧ n ≤ 11) {v : Int} (hv : 0 ≤ v) : Fn Tryz.prog 26 [.int .i64 (n : Int), .int .u64 v] f F (Ret (.int .i64 (primZ n v)) f F) := by
 have h1 : v % (n : Int) < n := Int.emod_lt_of_pos v (by omega)
 have h2 : 0 ≤ v % (n : Int) := Int.emod_nonneg v (by omega)
 have e : v.tmod (n : Int) = ((primI n v : Nat) : Int) := by
  unfold primI
  rw [Int.tmod_eq_emod_of_nonneg hv]
  omega
 have hl : primI n v < 11 := by unfold primI; omega
 refine Fn.enter Tryz.func26 rfl Tryz.ntmps26 rfl (L := [(0, _), (1, _)]) ⟨rfl, rfl, trivial⟩ fun base => ?_
 refine ge ?_
 refine H.rem (z := ((primI n v : Nat) : Int)) rfl rfl rfl (by omega) e rfl ?_
 refine ge ?_
 exact H.Ac rfl rfl (fun _ h => h) ⟨rfl, rfl, rfl⟩
theorem lgview_fn {lb n : Nat} {kn : Nat → Int} {V : List VV} {vp : Option Addr} {vc : Nat} {pp : Option Addr} {pc : Nat} {cp : Option Addr} {cc : Nat} (hl : V.length ≤ 100000) (v : Int) :
  Fn Tryz.prog 62 [.pointer (some ⟨lb, 0, none⟩), .int .u64 v] f (row lb 148 (lgC n kn vp V.length vc pp pc cp cc) :: slc vp V.length vc 143 4 (V.flatMap VV.vals) :: F)
   (Ret (.int .i64 (vwZ (V.map VV.w) v)) f (row lb 148 (lgC n kn vp V.length vc pp pc cp cc) :: slc vp V.length vc 143 4 (V.flatMap VV.vals) :: F)) := by
 refine Fn.enter Tryz.func62 rfl Tryz.ntmps62 rfl (L := [(0, _), (1, _)]) ⟨rfl, rfl, trivial⟩ fun base => ?_
 refine gX ?_
 refine H.Aw (ι := Nat) (fun i => [(5, .int .i64 (i : Int)), (0, .pointer (some ⟨lb, 0, none⟩)), (1, .int .u64 v)]) (fun _ => f)
  (fun _ => row lb 148 (lgC n kn vp V.length vc pp pc cp cc) :: slc vp V.length vc 143 4 (V.flatMap VV.vals) :: F)
  (fun i => i ≤ V.length ∧ ∀ j x, j < i → V[j]? = some x → x.w.v ≠ v) (fun i => V.length - i) 0 ⟨Nat.zero_le _, fun j x hj => by omega⟩ ⟨rfl, rfl, rfl, trivial⟩ rfl rfl fun i hi => ?_
 obtain ⟨hi, hb⟩ : i ≤ V.length ∧ ∀ j x, j < i → V[j]? = some x → x.w.v ≠ v := hi
 by_cases hlt : i < V.length
 ·obtain ⟨x, hx⟩ : ∃ x, V[i]? = some x := ⟨_, List.getElem?_eq_getElem hlt⟩
  refine H.Bp (p := vp) (n0 := V.length) (c := vc) (.there _ (.here _ _ _)) (by omega) fun sb hp => ?_
  subst hp
  refine gQ ?_
  refine H.Ap (i := i) rfl rfl rfl rfl hlt rfl ?_
  refine gS ?_
  refine H.Ad rfl rfl rfl (Rd1.of (i := 0) (by rw [Nat.zero_add]; exact Rd.slcElem VV.len (by decide) (.there _ (.here _ _ _)) hx) rfl) rfl ?_
  refine gV ?_
  by_cases hv : x.w.v = v
  ·skip
   refine gI ?_
   refine H.Ac rfl rfl (fun _ h => h) ⟨?_, rfl, rfl⟩
   have e : vwAt (V.map VV.w) v = some i := zav.2 ⟨⟨x.w, by rw [List.getElem?_map, hx]; rfl, hv⟩, fun j w hj hw => by
    rw [List.getElem?_map] at hw
    cases hj2 : V[j]? with
    | none => rw [hj2] at hw; cases hw
    | some y => rw [hj2] at hw; cases hw; exact hb j y hj hj2⟩
   unfold vwZ
   rw [e]
  ·skip
   refine gN ?_
   refine H.Ao (i + 1) ⟨by show i + 1 ≤ V.length; omega, fun j y hj hy => ?_⟩ (by show V.length - (i + 1) < V.length - i; omega) ⟨rfl, rfl, rfl, trivial⟩ rfl rfl
   by_cases e : j = i
   ·subst e; rw [hx] at hy; cases hy; exact hv
   ·exact hb j y (by omega) hy
 ·skip
  refine gQ ?_
  refine H.Ac rfl rfl (fun _ h => h) ⟨?_, rfl, rfl⟩
  have e : vwAt (V.map VV.w) v = none := vwAt_none.2 fun w hw => by
   obtain ⟨x, hx, rfl⟩ := List.mem_map.1 hw
   obtain ⟨j, hj⟩ := List.getElem?_of_mem hx
   have hjl := (List.getElem?_eq_some_iff.1 hj).1
   exact hb j x (by omega) hj
  unfold vwZ
  rw [e]
theorem holds_fn {p : Option Addr} {c : Nat} {R : List Req} (cl t : Int) (hl : R.length ≤ 100000) : Fn Tryz.prog 93 [.slice p R.length c, .int .i64 cl, .int .u64 t] f (slc p R.length c 49 40 (R.flatMap Req.vals) :: F)
  (Ret (.bool (holdsB R cl t)) f (slc p R.length c 49 40 (R.flatMap Req.vals) :: F)) := by
 refine Fn.enter Tryz.func93 rfl Tryz.ntmps93 rfl (L := [(0, _), (1, _), (2, _)]) ⟨rfl, rfl, rfl, trivial⟩ fun base => ?_
 refine gX ?_
 refine H.Aw (ι := Nat) (fun i => [(7, .int .i64 (i : Int)), (0, .slice p R.length c), (1, .int .i64 cl), (2, .int .u64 t)]) (fun _ => f)
  (fun _ => slc p R.length c 49 40 (R.flatMap Req.vals) :: F)
  (fun i => i ≤ R.length ∧ ∀ j x, j < i → R[j]? = some x → ¬ (x.client = cl ∧ x.time = t)) (fun i => R.length - i) 0 ⟨Nat.zero_le _, fun j x hj => by omega⟩ ⟨rfl, rfl, rfl, rfl, trivial⟩ rfl rfl fun i hi => ?_
 obtain ⟨hi, hb⟩ : i ≤ R.length ∧ ∀ j x, j < i → R[j]? = some x → ¬ (x.client = cl ∧ x.time = t) := hi
 by_cases hlt : i < R.length
 ·obtain ⟨x, hx⟩ : ∃ x, R[i]? = some x := ⟨_, List.getElem?_eq_getElem hlt⟩
  refine H.Bp (p := p) (n0 := R.length) (c := c) (.here _ _ _) (by omega) fun sb hp => ?_
  subst hp
  have rd : Rd f (slc (some ⟨sb, 0, none⟩) R.length c 49 40 (R.flatMap Req.vals) :: F) sb (0 + i * 40) x.vals := by rw [Nat.zero_add]; exact Rd.slcElem Req.len (by decide) (.here _ _ _) hx
  by_cases h1 : x.client = cl
  ·by_cases h2 : x.time = t
   ·skip
    refine gI ?_
    refine H.Ap (i := i) rfl rfl rfl rfl hlt rfl ?_
    refine gS ?_
    refine H.Ad rfl rfl rfl (Rd1.of (i := 0) rd rfl) rfl ?_
    refine gc ?_
    refine H.Ap (i := i) rfl rfl rfl rfl hlt rfl ?_
    refine gS ?_
    refine H.Ad rfl rfl rfl (Rd1.of (i := 1) rd rfl) rfl ?_
    refine gc ?_
    refine H.Ac rfl rfl (fun _ h => h) ⟨?_, rfl, rfl⟩
    have e : holdsB R cl t = true := List.any_eq_true.2 ⟨x, List.mem_of_getElem? hx, by rw [decide_eq_true h1, decide_eq_true h2]; rfl⟩
    rw [e]
   ·skip
    refine gI ?_
    refine H.Ap (i := i) rfl rfl rfl rfl hlt rfl ?_
    refine gS ?_
    refine H.Ad rfl rfl rfl (Rd1.of (i := 0) rd rfl) rfl ?_
    refine gc ?_
    refine H.Ap (i := i) rfl rfl rfl rfl hlt rfl ?_
    refine gS ?_
    refine H.Ad rfl rfl rfl (Rd1.of (i := 1) rd rfl) rfl ?_
    refine gc ?_
    refine H.Ao (i + 1) ⟨by show i + 1 ≤ R.length; omega, fun j y hj hy => ?_⟩ (by show R.length - (i + 1) < R.length - i; omega) ⟨rfl, rfl, rfl, rfl, trivial⟩ rfl rfl
    by_cases e : j = i
    ·subst e; rw [hx] at hy; cases hy; exact fun h => h2 h.2
    ·exact hb j y (by omega) hy
  ·skip
   refine gI ?_
   refine H.Ap (i := i) rfl rfl rfl rfl hlt rfl ?_
   refine gS ?_
   refine H.Ad rfl rfl rfl (Rd1.of (i := 0) rd rfl) rfl ?_
   refine gT ?_
   refine H.Ao (i + 1) ⟨by show i + 1 ≤ R.length; omega, fun j y hj hy => ?_⟩ (by show R.length - (i + 1) < R.length - i; omega) ⟨rfl, rfl, rfl, rfl, trivial⟩ rfl rfl
   by_cases e : j = i
   ·subst e; rw [hx] at hy; cases hy; exact fun h => h1 h.1
   ·exact hb j y (by omega) hy
 ·skip
  refine gN ?_
  refine H.Ac rfl rfl (fun _ h => h) ⟨?_, rfl, rfl⟩
  have e : holdsB R cl t = false := List.any_eq_false.2 fun x hx h => by
   obtain ⟨j, hj⟩ := List.getElem?_of_mem hx
   have hjl := (List.getElem?_eq_some_iff.1 hj).1
   simp only [Bool.and_eq_true, decide_eq_true_eq] at h
   exact hb j x (by omega) hj h
  rw [e]
theorem all_fn {fs : Frag} (hfs : Le fs f) {x : VV} (hs : ListAt fs x.sp 40 Req.vals x.w.s) (hl : x.w.s.length + x.w.p.length ≤ 100000) :
  Fn Tryz.prog 63 [.agg x.vals.toArray] f (x.own :: F) (RetE (fun i : Option Addr × Nat => .slice i.1 x.w.all.length i.2) f (fun i => slc i.1 x.w.all.length i.2 49 40 (x.w.all.flatMap Req.vals) :: x.own :: F)) := by
 refine Fn.enter Tryz.func63 rfl Tryz.ntmps63 rfl (L := [(0, _)]) ⟨rfl, trivial⟩ fun base => ?_
 refine gA ?_
 refine H.box (ls := x.vals) rfl rfl rfl rfl fun wb => ?_
 refine gO ?_
 refine H.Be (out := []) rfl rfl rfl rfl (by decide) (by decide) rfl rfl fun eb => ?_
 refine H.asSlc (k := 0) (sz := 40) rfl (by decide) ?_
 refine H.Aa (x := row wb _ _) (by repeat constructor) ?_
 refine gS ?_
 refine H.Bf (xs := []) (m := x.w.s.length) (news := x.w.s.flatMap Req.vals) rfl rfl rfl rfl rfl (fun p' c' => (by repeat constructor)) ((hs.mono hfs).src Req.len (by decide)) (Reqs_one _) rfl (by omega) (by omega) fun ap ac => ?_
 rw [Nat.zero_add, List.nil_append]
 refine gX ?_
 have hll := x.w.all_len
 have hall : ∀ k, k ≤ x.w.p.length → (x.w.s ++ (x.w.p.take k).map Prod.snd).length = x.w.s.length + k := fun k hk => by
  rw [List.length_append, List.length_map, List.length_take]; omega
 refine H.Aa (x := VV.own x) (by repeat constructor) ?_
 refine H.Aa (x := slc ap _ ac _ _ _) (by repeat constructor) ?_
 refine H.Aa (x := row wb _ _) (by repeat constructor) ?_
 refine H.Aw (ι := Nat × Option Addr × Nat) (fun s => [(4, .int .i64 (s.1 : Int)), (3, .slice s.2.1 (x.w.s.length + s.1) s.2.2), (1, .pointer (some ⟨wb, 0, none⟩))]) (fun _ => f)
  (fun s => row wb 143 x.vals :: slc s.2.1 (x.w.s.length + s.1) s.2.2 49 40 ((x.w.s ++ (x.w.p.take s.1).map Prod.snd).flatMap Req.vals) :: x.own :: F)
  (fun s => s.1 ≤ x.w.p.length) (fun s => x.w.p.length - s.1) (0, ap, ac) (Nat.zero_le _) ⟨rfl, rfl, rfl, trivial⟩ rfl (by simp) fun s hs => ?_
 obtain ⟨i, qp, qc⟩ := s
 have hi : i ≤ x.w.p.length := hs
 show H _ _ _ [(4, .int .i64 (i : Int)), (3, .slice qp (x.w.s.length + i) qc), _] f (_ :: slc qp (x.w.s.length + i) qc _ 40 ((x.w.s ++ (x.w.p.take i).map Prod.snd).flatMap Req.vals) :: x.own :: F) _
 by_cases hlt : i < x.w.p.length
 ·obtain ⟨y, hy⟩ : ∃ y, x.w.p[i]? = some y := ⟨_, List.getElem?_eq_getElem hlt⟩
  have e1 : (x.w.s ++ (x.w.p.take (i + 1)).map Prod.snd).flatMap Req.vals = (x.w.s ++ (x.w.p.take i).map Prod.snd).flatMap Req.vals ++ y.2.vals := by
   rw [List.take_add_one, hy, List.map_append, ← List.append_assoc, List.flatMap_append]
   simp
  refine H.Bp (p := x.pp) (n0 := x.w.p.length) (c := x.pc) (T := 191) (sz := 41) (xs := x.w.p.flatMap prepV) (.there _ (.there _ (.here _ _ _))) (by omega) fun sb hp => ?_
  refine gQ ?_
  rw [hp]
  refine H.Ap (i := i) rfl rfl rfl rfl hlt rfl ?_
  refine gS ?_
  refine H.Ag (ls := y.2.vals) rfl rfl rfl (Rd.sub (pre := [.int .u64 y.1]) (l := y.2.vals) (post := []) (by rw [List.append_nil, Nat.zero_add]; exact Rd.slcElem (vals := prepV) (xs := x.w.p) prepV_len (by decide) (by rw [← hp]; exact .there _ (.there _ (.here _ _ _))) hy) rfl) rfl rfl ?_
  refine H.Be (out := y.2.vals) rfl rfl rfl rfl (by decide) (by decide) rfl rfl fun eb2 => ?_
  refine H.Bf (p := qp) (n0 := x.w.s.length + i) (c := qc) (m := 1) (news := y.2.vals) rfl rfl rfl rfl rfl (fun p' c' => (by repeat constructor)) (Src.slice (Rd.ofRow (by repeat constructor)) rfl) (zae rfl) rfl (by omega) (by omega) fun p2 c2 => ?_
  refine ge ?_
  refine H.Ab (x := row eb2 _ _) (by repeat constructor) ?_
  refine H.Aa (x := VV.own x) (by repeat constructor) ?_
  refine H.Aa (x := slc p2 _ c2 _ _ _) (by repeat constructor) ?_
  refine H.Aa (x := row wb _ _) (by repeat constructor) ?_
  refine H.Ao (i + 1, p2, c2) (by show i + 1 ≤ x.w.p.length; omega) (by show x.w.p.length - (i + 1) < x.w.p.length - i; omega) ⟨rfl, rfl, rfl, trivial⟩ rfl ?_
  show _ :: slc p2 (x.w.s.length + i + 1) c2 _ 40 _ :: _ = _ :: slc p2 (x.w.s.length + (i + 1)) c2 _ 40 _ :: _
  rw [e1, Nat.add_assoc]
 ·have e : i = x.w.p.length := by omega
  subst e
  refine gQ ?_
  refine H.Ab (x := row wb _ _) (by repeat constructor) ?_
  have e1 : x.w.s ++ (x.w.p.take x.w.p.length).map Prod.snd = x.w.all := by rw [List.take_length]; rfl
  rw [e1, ← hll]
  exact H.Ac rfl rfl (fun _ h => h) ⟨(qp, qc), rfl, rfl, rfl⟩
end
section
variable (f : Frag) (F : List HP)
set_option maxRecDepth 20000 in
set_option maxHeartbeats 1600000 in
theorem changed_fn {lb : Nat} {l : Lgs} {kn : Nat → Int} {vp : Option Addr} {vl vc : Nat} {pp : Option Addr} {pc : Nat} {cp : Option Addr} {cc : Nat} {cs : Nat → Option Addr × Nat} {q : Int × Int} (hq : 1 ≤ q.1 ∧ q.1 ≤ (l.n : Int)) (hn : l.n ≤ 11) (hc : ∀ r, (l.ch r).length ≤ 100000) (v : Int) :
  Fn Tryz.prog 125 [.pointer (some ⟨lb, 0, none⟩), .agg (pairV q).toArray, .int .u64 v] f
   (row lb 148 (lgC l.n kn vp vl vc pp pc cp cc) :: slc cp l.n cc 184 1 (chRow l cs) :: fam (chFam l cs) l.n :: F)
   (Ret (.bool (chB l q v)) f (row lb 148 (lgC l.n kn vp vl vc pp pc cp cc) :: slc cp l.n cc 184 1 (chRow l cs) :: fam (chFam l cs) l.n :: F)) := by
 obtain ⟨r, hre⟩ : ∃ r, r = (q.1 - 1).toNat := ⟨_, rfl⟩
 have hr : r < l.n := by omega
 have hrz : q.1 - 1 = (r : Nat) := by omega
 have hcr := hc r
 refine Fn.enter Tryz.func125 rfl Tryz.ntmps125 rfl (L := [(0, _), (1, _), (2, _)]) ⟨rfl, rfl, rfl, trivial⟩ fun base => ?_
 refine gA ?_
 refine H.box (ls := pairV q) rfl rfl rfl rfl fun qb => ?_
 refine gO ?_
 refine H.Bp (p := cp) (n0 := l.n) (c := cc) (.there _ (.there _ (.here _ _ _))) (by omega) fun cb hp => ?_
 subst hp
 refine H.Bg (by kernel_rfl) (by decide +kernel) (by repeat (first | exact zab | refine zaa ?_ | refine zac ?_ | refine zad ?_)) ?_
 refine gH ?_
 refine HQ.Ap (i := r) rfl rfl rfl hrz hr rfl ?_
 refine HQ.Ad rfl rfl rfl (by rw [Nat.zero_add, Nat.mul_one]; exact Rd1.at0 (Rd.ofSlc (.there _ (.there _ (.here _ _ _))) (by omega)) (rngV_get _ hr)) rfl ?_
 refine gL ?_
 refine H.Aa (x := fam _ _) (by repeat constructor) ?_
 refine H.famPull hr ?_
 refine H.Aa (x := fam _ _) (by repeat constructor) ?_
 refine H.Aa (x := chFam l cs r) (by repeat constructor) ?_
 refine H.Aa (x := row qb _ _) (by repeat constructor) ?_
 refine gX ?_
 refine H.Aw (ι := Nat) (fun i => [(8, .int .i64 (i : Int)), (7, .slice (cs r).1 (l.ch r).length (cs r).2), (2, .int .u64 v), (4, .pointer (some ⟨qb, 0, none⟩))]) (fun _ => f)
  (fun _ => row qb 88 (pairV q) :: chFam l cs r :: fam (updF (chFam l cs) r emp) l.n :: row lb 148 (lgC l.n kn vp vl vc pp pc (some ⟨cb, 0, none⟩) cc) :: slc (some ⟨cb, 0, none⟩) l.n cc 184 1 (chRow l cs) :: F)
  (fun i => i ≤ (l.ch r).length ∧ ∀ j x, j < i → (l.ch r)[j]? = some x → ¬ (x.1 = v ∧ x.2 = q.2)) (fun i => (l.ch r).length - i) 0 ⟨Nat.zero_le _, fun j x hj => by omega⟩ ⟨rfl, rfl, rfl, rfl, trivial⟩ rfl rfl fun i hi => ?_
 obtain ⟨hi, hb⟩ : i ≤ (l.ch r).length ∧ ∀ j x, j < i → (l.ch r)[j]? = some x → ¬ (x.1 = v ∧ x.2 = q.2) := hi
 by_cases hlt : i < (l.ch r).length
 ·obtain ⟨x, hx⟩ : ∃ x, (l.ch r)[i]? = some x := ⟨_, List.getElem?_eq_getElem hlt⟩
  refine H.Bp (p := (cs r).1) (n0 := (l.ch r).length) (c := (cs r).2) (T := 186) (sz := 2) (xs := (l.ch r).flatMap chV) (.there _ (.here _ _ _)) (by omega) fun sb hp => ?_
  have rd : ∀ {G : List HP}, Rd f (row qb 88 (pairV q) :: chFam l cs r :: G) sb (0 + i * 2) (chV x) := fun {G} => by
   rw [Nat.zero_add]; exact Rd.slcElem (vals := chV) (xs := l.ch r) (n := (l.ch r).length) (c := (cs r).2) (T := 186) chV_len (by decide) (by rw [← hp]; exact .there _ (.here _ _ _)) hx
  refine gI ?_
  refine H.Bg (by kernel_rfl) (by decide +kernel) (by repeat (first | exact zab | refine zaa ?_ | refine zac ?_ | refine zad ?_)) ?_
  rw [hp]
  refine gB ?_
  refine HQ.Ap (i := i) rfl rfl rfl rfl hlt rfl ?_
  refine gC ?_
  refine HQ.Ad rfl rfl rfl (Rd1.of (i := 0) rd rfl) rfl ?_
  refine gW ?_
  by_cases h1 : x.1 = v
  ·skip
   refine gW ?_
   refine HQ.Ap (i := i) rfl rfl rfl rfl hlt rfl ?_
   refine gC ?_
   refine HQ.Ad rfl rfl rfl (Rd1.of (i := 1) rd rfl) rfl ?_
   refine gW ?_
   by_cases h2 : x.2 = q.2
   ·skip
    skip
    refine gI ?_
    have e : chB l q v = true := by
     unfold chB
     rw [← hre]
     exact List.any_eq_true.2 ⟨x, List.mem_of_getElem? hx, by rw [decide_eq_true h1, decide_eq_true h2]; rfl⟩
    rw [e]
    refine H.Ab (.here _ _) ?_
    refine H.famBack hr ?_
    refine H.Aa (x := slc _ _ _ _ _ _) (by repeat constructor) ?_
    refine H.Aa (x := row lb _ _) (by repeat constructor) ?_
    exact H.Ac rfl rfl (fun _ h => h) ⟨rfl, rfl, rfl⟩
   ·skip
    skip
    refine gN ?_
    refine H.Ao (i + 1) ⟨by show i + 1 ≤ (l.ch r).length; omega, fun j y hj hy => ?_⟩ (by show (l.ch r).length - (i + 1) < (l.ch r).length - i; omega) ⟨rfl, by rw [← hp]; rfl, rfl, rfl, trivial⟩ rfl rfl
    by_cases e : j = i
    ·subst e; rw [hx] at hy; cases hy; exact fun h => h2 h.2
    ·exact hb j y (by omega) hy
  ·skip
   refine gW ?_
   refine gM ?_
   refine H.Ao (i + 1) ⟨by show i + 1 ≤ (l.ch r).length; omega, fun j y hj hy => ?_⟩ (by show (l.ch r).length - (i + 1) < (l.ch r).length - i; omega) ⟨rfl, by rw [← hp]; rfl, rfl, rfl, trivial⟩ rfl rfl
   by_cases e : j = i
   ·subst e; rw [hx] at hy; cases hy; exact fun h => h1 h.1
   ·exact hb j y (by omega) hy
 ·skip
  refine gN ?_
  have e : chB l q v = false := by
   unfold chB
   rw [← hre]
   refine List.any_eq_false.2 fun x hx h => ?_
   obtain ⟨j, hj⟩ := List.getElem?_of_mem hx
   have hjl := (List.getElem?_eq_some_iff.1 hj).1
   simp only [Bool.and_eq_true, decide_eq_true_eq] at h
   exact hb j x (by omega) hj h
  rw [e]
  refine H.Ab (.here _ _) ?_
  refine H.famBack hr ?_
  refine H.Aa (x := slc _ _ _ _ _ _) (by repeat constructor) ?_
  refine H.Aa (x := row lb _ _) (by repeat constructor) ?_
  exact H.Ac rfl rfl (fun _ h => h) ⟨rfl, rfl, rfl⟩
end
theorem flat_splice {α : Type} {vals : α → List Value} {sz : Nat} (hv : ∀ x, (vals x).length = sz) {xs : List α} {i : Nat} (z : α) (hi : i < xs.length) (sp : List Value) :
  splice (xs.flatMap vals ++ sp) (i * sz) (vals z) = (xs.set i z).flatMap vals ++ sp := by
 have hx : xs[i]? = some xs[i] := List.getElem?_eq_getElem hi
 have hl : ((xs.take i).flatMap vals).length = i * sz := by rw [zbd hv, List.length_take, Nat.min_eq_left (by omega)]
 have h2 : (xs.set i z)[i]? = some z := by rw [List.getElem?_set_self hi]
 have e1 : (xs.set i z).take i = xs.take i := by rw [List.take_set_of_le (Nat.le_refl _)]
 have e2 : (xs.set i z).drop (i + 1) = xs.drop (i + 1) := by rw [List.drop_set_of_lt (by omega)]
 rw [flat_split xs hx, flat_split (xs.set i z) h2, e1, e2]
 generalize (xs.take i).flatMap vals = pre at hl
 unfold splice
 have e3 : pre ++ vals xs[i] ++ (xs.drop (i + 1)).flatMap vals ++ sp = pre ++ (vals xs[i] ++ ((xs.drop (i + 1)).flatMap vals ++ sp)) := by simp
 rw [e3, ← hl, List.take_left, hv z, ← hv xs[i], ← List.drop_drop, List.drop_left, List.drop_left]
 simp
section
variable {P : Program} {base : World} {n : Nat} {L : Env} {f : Frag} {A : List HP} {q : Post} {l rest : List Oper} {ty : TypeId} {pos : String} {af : Array Edge} {gd : Option (Nat × Bool)}
theorem H.storeE {α : Type} {vals : α → List Value} {sz : Nat} {t : TypeId} {x y : Operand} {b n0 c : Nat} {T : TypeId} {xs : List α} {i : Nat} {z : α} {A' : List HP} [hs : Siz P t sz] (hv : ∀ x, (vals x).length = sz) (h0 : 0 < sz) (hone : ∀ v ∈ vals z, one v = true) (hw : want? l L gd = true)
  (hx : ev? L x = some (.pointer (some ⟨b, i * sz, none⟩))) (hy : ev? L y = some (.agg (vals z).toArray)) (hi : i < xs.length)
  (hA : At A (slc (some ⟨b, 0, none⟩) n0 c T sz (xs.flatMap vals)) A' (slc (some ⟨b, 0, none⟩) n0 c T sz ((xs.set i z).flatMap vals)))
  (k : H P base n L f A' (.ops l rest q)) : H P base n L f A (.ops l (⟨none, .store t x y, ty, pos, af, gd⟩ :: rest) q) :=
 H.opS hw (fun a w hfr s => by
  obtain ⟨hl, hc, h3⟩ := s.slc_at hA
  have hn : xs.length = n0 := by
   rw [zbd hv] at hl
   exact Nat.eq_of_mul_eq_mul_right h0 hl
  rcases h3 with ⟨e, _⟩ | ⟨b', sp, e, hnc, hcs, hb⟩
  ·omega
  ·cases e
   have hle : i * sz + (vals z).length ≤ (xs.flatMap vals ++ sp).length := by
    rw [List.length_append, zbd hv, hv]
    have : (i + 1) * sz ≤ xs.length * sz := Nat.mul_le_mul_right _ hi
    rw [Nat.add_mul] at this
    omega
   have h1 := run_storeCells (P := P) (off := i * sz) (vals z) (xs.flatMap vals ++ sp) 0 w hb hone hle
   have hne : vals z ≠ [] := by intro h; have := hv z; rw [h] at this; simp at this; omega
   rw [if_neg hne, Nat.add_zero, flat_splice hv z hi] at h1
   refine ⟨World.putRow' w b T ((xs.set i z).flatMap vals ++ sp), ?_, s.turnRow hA (b := b) (o' := .cells ((xs.set i z).flatMap vals ++ sp).toArray T (0, 0)) ?_ rfl rfl rfl ?_ ?_⟩
   ·simp only [execOp, hfr.eval hx, hfr.eval hy, Instr.storeAt, Instr.sureAddr, storeVar, Value.cells, Sem.run_bind, Sem.run_pure, Result.andThen_ok, hs.run, List.size_toArray, hv]
    simp [h1]
   ·rintro m1 ⟨_, _, h⟩
    rcases h with ⟨h, _⟩ | ⟨b', sp', h, _, hcs', rfl⟩
    ·omega
    ·cases h; exact ⟨_, rfl⟩
   ·rfl
   ·have e4 : ((xs.set i z).flatMap vals).length = (xs.flatMap vals).length := by rw [zbd hv, zbd hv, List.length_set]
    refine ⟨by rw [e4]; exact hl, hc, .inr ⟨b, sp, rfl, hnc, ?_, rfl⟩⟩
    rw [List.length_append, e4, ← List.length_append]
    exact hcs) k
end
end Go.Proofs.YtdcjlgigcbinjaaGreatDoor
