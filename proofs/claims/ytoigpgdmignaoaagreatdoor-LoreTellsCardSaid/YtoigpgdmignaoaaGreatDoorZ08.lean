/- Parts of the proof, one behind the other, each under its own heading. No conditions. -/
import Derived.Test.YtoigpgdmignaoaaGreatDoorZ07
import Derived.Test.YtoigpgdmignaoaaGreatDoorRows
import Derived.Test.YtoigpgdmignaoaaGreatDoorCards
import Derived.Test.YtoigpgdmignaoaaGreatDoorTie
/- Layer 12: LoreForks. Condition: the table of the standard stands in the fragment. -/
namespace Go.Proofs.YtoigpgdmignaoaaGreatDoor
set_option linter.unusedSectionVars false
set_option linter.unusedSimpArgs false
set_option linter.unusedVariables false
open Go
/-- A list that is not empty stands at one place. -/
theorem ListAt.all {α : Type} {f : Frag} {p : Option Addr} {sz : Nat} {vals : α → List Value} {l : List α} (hv : ∀ x, (vals x).length = sz) (h1 : 0 < sz) (h : ListAt f p sz vals l) (h0 : 0 < l.length) :
    ∃ b off, p = some ⟨b, off, none⟩ ∧ ∀ (g : Frag) A i x, Le f g → l[i]? = some x → Rd g A b (off + i * sz) (vals x) := by
  obtain ⟨x0, hx0⟩ : ∃ x0, l[0]? = some x0 := ⟨_, List.getElem?_eq_getElem h0⟩
  obtain ⟨b, off, cs, T, fr, rfl, hfb, _⟩ := h 0 x0 hx0
  refine ⟨b, off, rfl, fun g A i x hle hx => ?_⟩
  obtain ⟨b', off', cs', T', fr', e, hfb', hcs'⟩ := h i x hx
  cases e
  exact Rd.imm (hle _ _ hfb') hcs'
theorem fewz_odd {n8 : UInt8} {n : Nat} (h : n = 3 + 2 * (n8.toNat % 5)) : fewZ (n : Int) := by
  refine ⟨by omega, by omega, ?_⟩
  exact tmod_nat (a := n) (b := 2) (r := 1) (by omega)
theorem few12_all {l : List A12} (h : few12 l = true) : l.length ≤ 100 ∧ ∀ x ∈ l, x.q.length ≤ 20 := by
  unfold few12 at h
  simp only [Bool.and_eq_true, decide_eq_true_eq, List.all_eq_true] at h
  exact h
def bodO (k : Int) (c : UInt8) : Bod := ⟨6, 0, k, Req.zero, [], dig0 c⟩
theorem bodO_own (k : Int) (c : UInt8) : Bod.eqB (bodO k c).own (bodO k c) = true := by
  have e : (bodO k c).own = bodO k c := rfl
  rw [e]
  exact Bod.eqB_refl _
theorem bodO_may {k : Int} (c : UInt8) (hk : 1 ≤ k ∧ k ≤ 4611686018427387904) : (bodO k c).may = true := by
  unfold Bod.may
  have e2 : decide ((bodO k c).view < 1073741824) = true := rfl
  have e3 : (bodO k c).mayK (bodO k c).kind.toNat = true := decide_eq_true hk
  rw [bodO_own, e2, e3]
  rfl
theorem bodO_ok {k : Int} (c : UInt8) (hk : 1 ≤ k ∧ k ≤ 4611686018427387904) : (bodO k c).Ok := ⟨⟨by show (0 : Int) ≤ 0; decide, by show (0 : Int) ≤ _; decide⟩, ⟨by show 0 ≤ k; omega, by show k ≤ _; omega⟩, reqz_ok⟩
/-- The same but for the body. -/
def Msg.with (m : Msg) (b : Bod) : Msg := { m with body := b }
theorem with_may {m : Msg} {b : Bod} (hm : m.may = true) (hb : b.may = true) : (m.with b).may = true := by
  have ho : (m.with b).outer := (Msg.may_outer hm : m.outer)
  unfold Msg.may
  rw [decide_eq_true ho]
  exact hb
theorem splice_body (m : Msg) (p q : Option Addr) (c d : Nat) (b : Bod) : splice (m.vals p c) (0 + 13) (b.vals q d) = (m.with b).vals q d := by
  have h1 : m.vals p c = ([.int .i64 m.origin, .int .u64 m.number] ++ v11 m.deps) ++ (m.body.vals p c ++ b32 m.tag) := by unfold Msg.vals; simp only [List.append_assoc]
  have h2 : (m.with b).vals q d = ([.int .i64 m.origin, .int .u64 m.number] ++ v11 m.deps) ++ (b.vals q d ++ b32 m.tag) := by unfold Msg.with Msg.vals; simp only [List.append_assoc]
  rw [h1, h2]
  have l1 : ([.int .i64 m.origin, .int .u64 m.number] ++ v11 m.deps : List Value).length = 13 := rfl
  have l2 : (m.body.vals p c).length = 76 := rfl
  have l3 : (b.vals q d).length = 76 := rfl
  generalize ([.int .i64 m.origin, .int .u64 m.number] ++ v11 m.deps : List Value) = a at *
  generalize m.body.vals p c = u at *
  generalize b.vals q d = v at *
  unfold splice
  have e3 : 0 + 13 + v.length = a.length + u.length := by omega
  rw [e3, ← List.drop_drop, show 0 + 13 = a.length by omega, List.take_left, List.drop_left, List.drop_left, List.append_assoc]
/-- Where a message of a world stands. -/
theorem strm_atM {l : List Msg} {k : Nat} {y : Msg} (h : l[k]? = some y) : (strm l (orgI y))[cnt (l.take k) (orgI y)]? = some y := by
  have e := take_cons_drop h
  have h1 : strm l (orgI y) = strm (l.take k) (orgI y) ++ y :: strm (l.drop (k + 1)) (orgI y) := by
    rw [show strm l (orgI y) = strm (l.take k ++ y :: l.drop (k + 1)) (orgI y) by rw [← e]]
    unfold strm
    rw [List.filter_append, List.filter_cons, if_pos (by simp)]
  rw [h1]
  unfold cnt
  rw [List.getElem?_append_right (Nat.le_refl _), Nat.sub_self]
  rfl
theorem cnt_mono (l : List Msg) (i : Nat) {j k : Nat} (h : j ≤ k) : cnt (l.take j) i ≤ cnt (l.take k) i := by
  have e : l.take k = l.take j ++ (l.take k).drop j := by
    have := (List.take_append_drop j (l.take k)).symm
    rwa [List.take_take, Nat.min_eq_left h] at this
  rw [e, cnt_app]
  exact Nat.le_add_right _ _
/-- The second one of a number is not taken. -/
theorem fork_again {n : Nat} {all : List Msg} (hW : WOK n all) {a i : Nat} {y : Msg} (hy : all[a]? = some y) (hai : a ≤ i) (hi : i < all.length) {b : Bod} (hb : b.may = true) (hq : b.q = []) :
    chk n (strm (all.take (i + 1))) (y.with b).signed = 13 := by
  have hok := hW a y hy
  have hym : y.may = true := (fits_org hok.fits).2.2
  have hfit : fitsB n (y.with b).signed = true := by
    rw [fits_signed]
    have h := hok.fits
    unfold fitsB at h ⊢
    rw [with_may hym hb]
    simp only [Bool.and_eq_true] at h ⊢
    refine ⟨trivial, h.2.1, ?_, h.2.2.2⟩
    show b.q.all _ = true
    rw [hq]; rfl
  have hright := Msg.signed_isright (with_may hym hb)
  obtain ⟨e1, e2, _, _⟩ := (y.with b).signed_parts
  have horg : orgI (y.with b).signed = orgI y := by unfold orgI; rw [e1]; rfl
  have hnum : (y.with b).signed.number = y.number := e2
  unfold chk
  rw [if_neg (by rw [hfit]; decide), if_neg (by rw [hright]; decide), horg, hnum, if_pos]
  rw [hok.num]
  have h1 : cnt (all.take (a + 1)) (orgI y) = cnt (all.take a) (orgI y) + 1 := by rw [take_snoc hy, cnt_snoc, if_pos rfl]
  have h2 := cnt_mono all (orgI y) (show a + 1 ≤ i + 1 by omega)
  unfold cnt at h1 h2 ⊢
  omega
theorem fork_get {n : Nat} {all : List Msg} (hW : WOK n all) (hL : LOK n all) {a : Nat} {y : Msg} (hy : all[a]? = some y) : getM all y.origin y.number = (y, true) := by
  have hok := hW a y hy
  have ho : y.origin = ((orgI y + 1 : Nat) : Int) := by have := hok.org; unfold orgI; omega
  have hon : orgI y < n := by have := hok.org; unfold orgI; omega
  unfold getM
  rw [hok.num, ho, hL.find hon, strm_atM hy]
theorem WOK.may {n : Nat} {all : List Msg} (hW : WOK n all) {a : Nat} {y : Msg} (hy : all[a]? = some y) : y.may = true := (fits_org (hW a y hy).fits).2.2
/-- A world's messages are taken, so far. -/
theorem WOK.next {n : Nat} {all : List Msg} (hW : WOK n all) {i : Nat} {y : Msg} (hy : all[i]? = some y) : chk n (strm (all.take i)) y = 0 := (hW i y hy).chk
section
variable (f : Frag) (F : List HP)
set_option maxRecDepth 20000 in
set_option maxHeartbeats 3200000 in
theorem forks_fn (htab : TabAt f) {n8 : UInt8} {p : Option Addr} {c : Nat} {xs : List A12} (hat : ListAt f p 8 A12.vals xs) (hh : ∀ x ∈ xs, x.Has f) (hxl : xs.length ≤ 9223372036854775807) (pick key : UInt8) :
    Fn Tryz.prog 7 [.int .u8 (n8.toNat : Nat), .slice p xs.length c, .int .u8 (pick.toNat : Nat), .int .u8 (key.toNat : Nat)] f F (Ret (.bool true) f F) := by
  have hfew := few12_fn f F (c := c) hat hxl
  cases hf : few12 xs with
  | false =>
    rw [hf] at hfew
    refine Fn.enter Tryz.func7 rfl Tryz.ntmps7 rfl (L := [(0, _), (1, _), (2, _), (3, _)]) ⟨rfl, rfl, rfl, rfl, trivial⟩ fun base => ?_
    repeat (first | ((first | apply H.move | apply H.assign); (iterate 3 exact rfl)) | (first | apply H.seq | apply H.region | apply H.nil | apply H.then_normal))
    refine H.callR rfl rfl rfl hfew ?_
    refine H.not (b := _) (c := _) rfl rfl rfl rfl ?_
    repeat (first | ((first | apply H.move | apply H.len_slice); (iterate 3 exact rfl)) | (first | apply H.seq | apply H.region | apply H.nil | apply H.then_normal) | (apply H.pass; (iterate 2 exact rfl)) | (apply H.pickT; (iterate 4 exact rfl)) | (apply H.cond_true; exact rfl))
    refine H.callR rfl rfl rfl (works12_fn f _ htab) ?_
    repeat (first | ((apply H.assign); (iterate 3 exact rfl)) | (first | apply H.nil | apply H.then_normal) | (first | apply H.ret | apply H.then_ret))
    exact H.ret1 rfl rfl (fun _ h => h) ⟨rfl, rfl, rfl⟩
  | true =>
    rw [hf] at hfew
    obtain ⟨hl100, hq20⟩ := few12_all hf
    by_cases h60 : xs.length ≤ 60
    · obtain ⟨n, hn8⟩ : ∃ n, n = 3 + 2 * (n8.toNat % 5) := ⟨_, rfl⟩
      have hn3 : 3 ≤ n ∧ n ≤ 11 := by omega
      have hacts := fun G => acts_fn f G hn8 (c := c) hat (fun x hx => ⟨hh x hx, hq20 x hx⟩) hl100
      have hinv : WInv n (worldOf n xs) := by have := worldOf_inv (n := n) (by omega) hn3.2 xs xs.length; rwa [List.take_length] at this
      have hwl : (worldOf n xs).all.length ≤ 60 := by have := worldOf_len n xs xs.length; rw [List.take_length] at this; omega
      generalize worldOf n xs = W at *
      have hpick := pick.toNat_lt
      have hkey := key.toNat_lt
      refine Fn.enter Tryz.func7 rfl Tryz.ntmps7 rfl (L := [(0, _), (1, _), (2, _), (3, _)]) ⟨rfl, rfl, rfl, rfl, trivial⟩ fun base => ?_
      repeat (first | ((first | apply H.move | apply H.assign); (iterate 3 exact rfl)) | (first | apply H.seq | apply H.region | apply H.nil | apply H.then_normal))
      refine H.callR rfl rfl rfl hfew ?_
      refine H.not (b := _) (c := _) rfl rfl rfl rfl ?_
      repeat (first | ((first | apply H.move | apply H.len_slice); (iterate 3 exact rfl)) | (first | apply H.seq | apply H.region | apply H.nil | apply H.then_normal) | ((apply H.cmp); (iterate 5 exact rfl)) | ((apply H.pickF); (iterate 4 exact rfl)) | (apply H.skip) | (apply H.cond_no; exact rfl; (omega)))
      refine H.call rfl rfl rfl (hacts _) fun v f' A' hr => ?_
      obtain ⟨g, wb, kb, ap, ac, l, rfl, hd, rfl, rfl, hwat⟩ := hr
      have le1 := Le.un f g
      generalize un f g = f1 at *
      have hlm := hwat.m
      have hll : l.length = W.all.length := by rw [← hlm, List.length_map]
      clear hacts hfew
      by_cases h0 : l.length = 0
      · repeat (first | ((first | apply H.move | apply H.assign | apply H.nilCheck | apply H.len_slice | apply H.len_string | apply H.cap_slice); (iterate 3 exact rfl)) | (apply H.fieldAddr; (iterate 3 exact rfl); exact inferInstance; exact rfl) | (apply H.load1; (iterate 3 exact rfl); apply Rd1.ofRow; (repeat (first | exact .here _ _ _ | apply At.there)); (iterate 2 exact rfl)) | (first | apply H.seq | apply H.region | apply H.nil | apply H.then_normal) | ((first | apply H.cmp | apply H.build); (iterate 5 exact rfl)) | ((first | (apply H.ar; (iterate 4 exact rfl)) | (apply H.conv_int; (iterate 2 exact rfl))); (first | (with_reducible apply wr_i64_s1; omega) | (with_reducible apply wr_i64_n1; omega) | (with_reducible apply wr_i64_nn; omega) | (with_reducible apply wr_i64; omega) | (with_reducible apply wr_u64; omega) | (with_reducible apply wr_u8; omega) | (with_reducible apply wr_u16; omega) | rfl); exact rfl) | (apply H.pass; (iterate 2 exact rfl)) | (apply H.pass0; exact rfl) | (apply H.pickT; (iterate 4 exact rfl)) | ((first | apply H.pickF | apply H.extract | apply H.not | apply H.makeFunc); (iterate 4 exact rfl)) | ((first | apply H.ptrNil | apply H.sliceNil); (iterate 5 exact rfl)) | (apply H.store1; (iterate 4 exact rfl); (repeat (first | exact .here _ _ _ | apply At.there)); (repeat (first | exact .here _ _ _ | apply SetV.there))) | (apply H.cond_true; exact rfl) | (apply H.cond_false; exact rfl) | (first | apply H.skip | apply H.ret | apply H.then_ret | apply H.then_exit | apply H.exit | apply H.block | apply H.in_normal | apply H.in_ret | apply H.in_hit | apply H.loop_ret | apply H.loop_exit) | (apply H.in_miss; exact rfl) | (apply H.gyes; (iterate 3 exact rfl); (first | assumption | omega)) | (apply H.gno; (iterate 3 exact rfl); (first | assumption | omega)) | (apply H.cond_yes; exact rfl; (first | assumption | omega)) | (apply H.cond_no; exact rfl; (first | assumption | omega)) | ((first | apply H.gtrue); (iterate 3 exact rfl); assumption) | (apply H.gfalse; (iterate 3 exact rfl); assumption) | (apply H.cond_t; exact rfl; assumption) | (apply H.cond_f; exact rfl; assumption))
        refine H.callR rfl rfl rfl (works12_fn f1 _ (tab_mono htab le1)) ?_
        repeat (first | ((apply H.assign); (iterate 3 exact rfl)) | (first | apply H.nil | apply H.then_normal) | (first | apply H.ret | apply H.then_ret))
        refine H.weakL le1 ?_
        refine H.drop (.here _ _) ?_
        exact H.ret1 rfl rfl (fun _ h => h) ⟨rfl, rfl, rfl⟩
      · obtain ⟨b, off, rfl, rdA⟩ := hwat.a.all MV.len (by decide) (by omega)
        obtain ⟨a, ha⟩ : ∃ a, a = pick.toNat % l.length := ⟨_, rfl⟩
        have hal : a < l.length := by rw [ha]; exact Nat.mod_lt _ (by omega)
        obtain ⟨y, hy⟩ : ∃ y, l[a]? = some y := ⟨_, List.getElem?_eq_getElem hal⟩
        have hym : W.all[a]? = some y.m := by rw [← hlm, List.getElem?_map, hy]; rfl
        have hyg := hwat.g y (List.mem_of_getElem? hy)
        have hl0 : ((l.length : Nat) : Int) ≠ 0 := by omega
        have hkb : 1 ≤ 1 + ((key.toNat : Nat) : Int) ∧ 1 + ((key.toNat : Nat) : Int) ≤ 4611686018427387904 := by omega
        have hog : (⟨y.m.with (bodO (1 + ((key.toNat : Nat) : Int)) 9), none, 0⟩ : MV).Good f1 := ⟨QAt.nil _ _, Nat.zero_le _, bodO_ok 9 hkb⟩
        have hsg := good_signed hog
        have htg := fun G => rtagged_fn f1 G (m := y.m.with (bodO (1 + ((key.toNat : Nat) : Int)) 9)) (q := none) (qc := 0) hog.1 (Nat.zero_le _)
        have hagain := fun i (h1 : a ≤ i) (h2 : i < W.all.length) => fork_again hinv.ok hym h1 h2 (bodO_may 9 hkb) rfl
        have hso : (y.m.with (bodO (1 + ((key.toNat : Nat) : Int)) 9)).signed.origin = y.m.origin := (Msg.signed_parts _).1
        have hsn : (y.m.with (bodO (1 + ((key.toNat : Nat) : Int)) 9)).signed.number = y.m.number := (Msg.signed_parts _).2.1
        have hsame : ∀ G, Fn Tryz.prog 30 [.agg ((y.m.with (bodO (1 + ((key.toNat : Nat) : Int)) 9)).signed.vals none 0).toArray, .agg y.vals.toArray] f1 G (Ret (.bool (Msg.eqB (y.m.with (bodO (1 + ((key.toNat : Nat) : Int)) 9)).signed y.m)) f1 G) := fun G => rsameM_fn f1 G hsg hyg
        repeat (first | ((first | apply H.move | apply H.assign | apply H.nilCheck | apply H.len_slice); (iterate 3 exact rfl)) | (apply H.fieldAddr; (iterate 3 exact rfl); exact inferInstance; exact rfl) | (apply H.load1; (iterate 3 exact rfl); apply Rd1.ofRow; (repeat (exact .here _ _ _)); (iterate 2 exact rfl)) | (first | apply H.seq | apply H.region | apply H.nil | apply H.then_normal) | ((apply H.cmp); (iterate 5 exact rfl)) | (apply H.skip) | (apply H.cond_no; exact rfl; (assumption)))
        refine H.callE rfl rfl rfl (lnew_fn f1 _ (fewz_odd hn8)) fun lb => ?_
        repeat (first | ((first | apply H.move | apply H.assign | apply H.nilCheck | apply H.len_slice); (iterate 3 exact rfl)) | (apply H.fieldAddr; (iterate 3 exact rfl); exact inferInstance; exact rfl) | (apply H.load1; (iterate 3 exact rfl); apply Rd1.ofRow; (repeat (first | exact .here _ _ _ | apply At.there)); (iterate 2 exact rfl)) | (first | apply H.seq | apply H.region | apply H.nil | apply H.then_normal) | ((apply H.cmp); (iterate 5 exact rfl)) | ((apply H.conv_int; (iterate 2 exact rfl)); (with_reducible apply wr_i64; omega); exact rfl) | ((first | apply H.pickF | apply H.extract); (iterate 4 exact rfl)) | ((apply H.ptrNil); (iterate 5 exact rfl)) | (apply H.cond_false; exact rfl) | (apply H.skip))
        refine H.rem (z := ((a : Nat) : Int)) rfl rfl rfl hl0 (tmod_nat (a := pick.toNat) (b := l.length) ha.symm) rfl ?_
        repeat (first | ((first | apply H.move | apply H.assign | apply H.nilCheck); (iterate 3 exact rfl)) | (apply H.fieldAddr; (iterate 3 exact rfl); exact inferInstance; exact rfl) | (apply H.load1; (iterate 3 exact rfl); apply Rd1.ofRow; (repeat (first | exact .here _ _ _ | apply At.there)); (iterate 2 exact rfl)) | (first | apply H.seq | apply H.region | apply H.nil | apply H.then_normal))
        refine H.index_slice (i := a) rfl rfl rfl rfl hal rfl ?_
        refine H.loadN (ls := y.vals) rfl rfl rfl (rdA _ _ _ _ (Le.refl _) hy) rfl rfl ?_
        refine H.alloc (ls := msgZ.vals none 0) rfl rfl rfl fun mb => ?_
        refine H.storeN (ls := msgZ.vals none 0) (vs := y.vals) (ls' := y.vals) rfl rfl rfl (allOne_mem rfl) rfl rfl (Nat.le_refl 121) (.here _ _ _) ?_
        repeat (first | (refine H.buildA (t := 40) (out := b32 (dig0 9)) rfl rfl rfl (by kernel_rfl) rfl ?_) | (refine H.build (t := 45) (out := (bodO (1 + ((key.toNat : Nat) : Int)) 9).vals none 0) rfl rfl rfl (by kernel_rfl) rfl ?_) | ((apply H.move); (iterate 3 exact rfl)) | (apply H.fieldAddr; (iterate 3 exact rfl); exact inferInstance; exact rfl) | (first | apply H.seq | apply H.region | apply H.nil | apply H.then_normal) | ((first | (apply H.ar; (iterate 4 exact rfl)) | (apply H.conv_int; (iterate 2 exact rfl))); (with_reducible apply wr_u64; omega); exact rfl))
        refine H.storeN (ls := y.vals) (vs := (bodO (1 + ((key.toNat : Nat) : Int)) 9).vals none 0) (ls' := (y.m.with (bodO (1 + ((key.toNat : Nat) : Int)) 9)).vals none 0) rfl rfl rfl (allOne_mem rfl) rfl (splice_body _ _ _ _ _ _) (show 13 + 76 ≤ 121 by decide) (.here _ _ _) ?_
        generalize (y.m.with (bodO (1 + ((key.toNat : Nat) : Int)) 9)) = o1 at *
        repeat ((first | apply H.seq | apply H.nil | apply H.then_normal))
        refine H.front (x := row wb _ _) (by repeat (first | exact .here _ _ | apply Pull.there)) ?_
        refine H.front (x := row mb _ _) (by repeat (first | exact .here _ _ | apply Pull.there)) ?_
        refine H.drawB (by kernel_rfl) (by decide +kernel) (by first | exact blind_fn | exact blind_seq blind_fn | exact blind_seq (blind_seq blind_fn) | (repeat (first | exact blind_fn | refine blind_seq ?_ | refine blind_block ?_ | refine blind_loop ?_))) (S := [_, _]) rfl ?_
        refine HB.quiet [(0, false), (2, false), (3, false), (4, false), (5, false), (6, false), (7, false), (8, false)] 2 (by kernel_rfl) ?_
        refine HQ.loadN (ls := o1.vals none 0) rfl rfl rfl (Rd.ofRow (.here _ _ _)) rfl rfl ?_
        repeat (first | ((first | apply HQ.move | apply HQ.nilCheck); (iterate 3 exact rfl)) | (apply HQ.fieldAddr; (iterate 3 exact rfl); exact inferInstance; exact rfl) | (apply HQ.load1; (iterate 3 exact rfl); apply Rd1.ofRow; (repeat (first | exact .here _ _ _ | apply At.there)); (iterate 2 exact rfl)))
        refine HQ.index_slice (i := a) rfl rfl rfl rfl hal rfl ?_
        refine HQ.loadN (ls := y.vals) rfl rfl rfl (rdA _ _ _ _ (Le.refl _) hy) rfl rfl ?_
        refine HQ.more rfl ?_
        refine HB.ev1 (i := 1) (by kernel_rfl) rfl ?_
        refine H.callR rfl rfl rfl (htg _) ?_
        generalize o1.signed = o2 at *
        repeat ((apply H.nil))
        refine H.on0 rfl ?_
        refine HB.ev1 (i := 9) (by kernel_rfl) rfl ?_
        refine H.callR rfl rfl rfl (hsame _) ?_
        repeat ((apply H.nil))
        refine H.on0 rfl ?_
        refine HB.done (by kernel_rfl) ?_
        have hLOK : LOK n W.all := fun j m hj => hinv.ok.next hj
        cases hsm : Msg.eqB o2 y.m with
        | true =>
          repeat (first | (first | apply H.seq | apply H.region | apply H.then_normal) | (apply H.cond_true; exact rfl))
          refine H.callR rfl rfl rfl (works12_fn f1 _ (tab_mono htab le1)) ?_
          repeat (first | ((apply H.assign); (iterate 3 exact rfl)) | (first | apply H.nil | apply H.then_normal) | (first | apply H.ret | apply H.then_ret))
          refine H.weakL le1 ?_
          refine H.drop (.here _ _) ?_
          refine H.drop (.here _ _) ?_
          refine H.drop (.here _ _) ?_
          exact H.ret1 rfl rfl (fun _ h => h) ⟨rfl, rfl, rfl⟩
        | false =>
          repeat (first | (first | apply H.seq | apply H.region | apply H.then_normal) | (apply H.cond_false; exact rfl) | (apply H.skip))
          refine H.loadN (ls := o1.vals none 0) rfl rfl rfl (Rd.ofRow (.here _ _ _)) rfl rfl ?_
          refine H.callR rfl rfl rfl (htg _) ?_
          refine H.storeN (ls := o1.vals none 0) (vs := o2.vals none 0) (ls' := o2.vals none 0) rfl rfl rfl (allOne_mem rfl) rfl rfl (Nat.le_refl 121) (.here _ _ _) ?_
          repeat (first | ((apply H.assign); (iterate 3 exact rfl)) | (first | apply H.seq | apply H.region | apply H.nil | apply H.then_normal) | (apply H.block))
          refine H.front (x := loreH _ _ _ _) (by repeat (first | exact .here _ _ | apply Pull.there)) ?_
          refine H.loop (ι := Nat × Frag × List MV) (fun s => [(14, .int .i64 (s.1 : Int)), (9, .pointer (some ⟨wb, 0, none⟩)), (10, .pointer (some ⟨lb, 0, none⟩)), (12, .int .i64 (a : Int)), (13, .pointer (some ⟨mb, 0, none⟩))]) (fun s => s.2.1)
            (fun s => loreH s.2.1 lb n s.2.2 :: row mb 47 (o2.vals none 0) :: row wb 34 (worldC kb n (some ⟨b, off, none⟩) l.length ac) :: F)
            (fun s => s.1 ≤ l.length ∧ Le f1 s.2.1 ∧ s.2.2.map MV.m = W.all.take s.1) (fun s => l.length - s.1) (0, f1, []) ⟨Nat.zero_le _, Le.refl f1, rfl⟩ ⟨rfl, rfl, rfl, rfl, rfl, trivial⟩ rfl rfl fun s hs => ?_
          obtain ⟨i, e, L⟩ := s
          obtain ⟨hi, hle, hL⟩ : i ≤ l.length ∧ Le f1 e ∧ L.map MV.m = W.all.take i := hs
          have hLl : L.length ≤ i := by
            have := congrArg List.length hL
            rw [List.length_map, List.length_take] at this
            omega
          show H _ _ _ [(14, .int .i64 (i : Int)), _, _, _, _] e (loreH e lb n L :: _ :: _ :: F) _
          by_cases hlt : i < l.length
          · obtain ⟨yi, hyi⟩ : ∃ yi, l[i]? = some yi := ⟨_, List.getElem?_eq_getElem hlt⟩
            have hyim : W.all[i]? = some yi.m := by rw [← hlm, List.getElem?_map, hyi]; rfl
            have hyig := (hwat.g yi (List.mem_of_getElem? hyi)).mono hle
            have hc0 : chk n (strm (L.map MV.m)) yi.m = 0 := by rw [hL]; exact hinv.ok.next hyim
            have hnx : W.all.take (i + 1) = W.all.take i ++ [yi.m] := take_snoc hyim
            repeat (first | ((first | apply H.move | apply H.nilCheck | apply H.len_slice); (iterate 3 exact rfl)) | (apply H.fieldAddr; (iterate 3 exact rfl); exact inferInstance; exact rfl) | (apply H.load1; (iterate 3 exact rfl); apply Rd1.ofRow; (repeat (first | exact .here _ _ _ | apply At.there)); (iterate 2 exact rfl)) | (first | apply H.seq | apply H.region | apply H.nil | apply H.then_normal) | ((apply H.cmp); (iterate 5 exact rfl)) | (first | apply H.skip | apply H.block) | (apply H.cond_yes; exact rfl; (omega)))
            refine H.index_slice (i := i) rfl rfl rfl rfl hlt rfl ?_
            refine H.loadN (ls := yi.vals) rfl rfl rfl (rdA _ _ _ _ hle hyi) rfl rfl ?_
            refine H.call (R := AddP e _ lb n L yi.m) rfl rfl rfl (ladd_fn e _ (tab_mono htab (le1.trans hle)) (Le.refl e) hyig (by omega)) fun v f' A' hr => ?_
            obtain ⟨g2, q2, c2, rfl, hd2, rfl, rfl⟩ := hr
            rw [hc0, if_pos rfl]
            have hle2 := hle.trans (Le.un e g2)
            generalize un e g2 = e2 at hle2 ⊢
            have hL2 : (L ++ [(⟨yi.m, q2, c2⟩ : MV)]).map MV.m = W.all.take (i + 1) := by rw [List.map_append, hL, hnx]; rfl
            generalize hLL : L ++ [(⟨yi.m, q2, c2⟩ : MV)] = L2 at hL2 ⊢
            have hL2l : L2.length ≤ i + 1 := by rw [← hLL, List.length_append]; show L.length + 1 ≤ _; omega
            repeat (first | ((apply H.move); (iterate 3 exact rfl)) | (first | apply H.seq | apply H.region | apply H.nil | apply H.then_normal) | ((apply H.cmp); (iterate 5 exact rfl)) | (apply H.cond_false; exact rfl) | (apply H.skip))
            by_cases hai : a ≤ i
            · have hc13 : chk n (strm (L2.map MV.m)) o2 = 13 := by rw [hL2]; exact hagain i hai (by omega)
              repeat (first | ((apply H.move); (iterate 3 exact rfl)) | (apply H.gyes; (iterate 3 exact rfl); (omega)))
              refine H.loadN (ls := o2.vals none 0) rfl rfl rfl (Rd.ofRow (.there _ (.here _ _ _))) rfl rfl ?_
              refine H.call (R := AddP e2 _ lb n L2 o2) rfl rfl rfl (ladd_fn e2 _ (tab_mono htab (le1.trans hle2)) (Le.refl e2) (x := ⟨o2, none, 0⟩) (hsg.mono hle2) (by omega)) fun v f' A' hr => ?_
              obtain ⟨g3, q3, c3, rfl, hd3, rfl, rfl⟩ := hr
              rw [hc13, if_neg (by decide)]
              have hle3 := hle2.trans (Le.un e2 g3)
              generalize un e2 g3 = e3 at hle3 ⊢
              repeat (first | ((first | apply H.move | apply H.assign); (iterate 3 exact rfl)) | (first | apply H.region | apply H.nil | apply H.then_normal) | ((apply H.cmp); (iterate 5 exact rfl)) | ((apply H.ar; (iterate 4 exact rfl)); (with_reducible apply wr_i64_n1; omega); exact rfl) | (apply H.pickT; (iterate 4 exact rfl)) | (apply H.cond_false; exact rfl) | (first | apply H.skip | apply H.in_normal))
              exact H.again (i + 1, e3, L2) ⟨by show i + 1 ≤ l.length; omega, hle3, hL2⟩ (by show l.length - (i + 1) < l.length - i; omega) ⟨rfl, rfl, rfl, rfl, rfl, trivial⟩ rfl rfl
            · repeat (first | ((first | apply H.move | apply H.assign | apply H.nilCheck | apply H.len_slice | apply H.len_string | apply H.cap_slice); (iterate 3 exact rfl)) | (apply H.fieldAddr; (iterate 3 exact rfl); exact inferInstance; exact rfl) | (apply H.load1; (iterate 3 exact rfl); apply Rd1.ofRow; (repeat (first | exact .here _ _ _ | apply At.there)); (iterate 2 exact rfl)) | (first | apply H.seq | apply H.region | apply H.nil | apply H.then_normal) | ((first | apply H.cmp | apply H.build); (iterate 5 exact rfl)) | ((first | (apply H.ar; (iterate 4 exact rfl)) | (apply H.conv_int; (iterate 2 exact rfl))); (first | (with_reducible apply wr_i64_s1; omega) | (with_reducible apply wr_i64_n1; omega) | (with_reducible apply wr_i64_nn; omega) | (with_reducible apply wr_i64; omega) | (with_reducible apply wr_u64; omega) | (with_reducible apply wr_u8; omega) | (with_reducible apply wr_u16; omega) | rfl); exact rfl) | (apply H.pass; (iterate 2 exact rfl)) | (apply H.pass0; exact rfl) | (apply H.pickT; (iterate 4 exact rfl)) | ((first | apply H.pickF | apply H.extract | apply H.not | apply H.makeFunc); (iterate 4 exact rfl)) | ((first | apply H.ptrNil | apply H.sliceNil); (iterate 5 exact rfl)) | (apply H.store1; (iterate 4 exact rfl); (repeat (first | exact .here _ _ _ | apply At.there)); (repeat (first | exact .here _ _ _ | apply SetV.there))) | (apply H.cond_true; exact rfl) | (apply H.cond_false; exact rfl) | (first | apply H.skip | apply H.ret | apply H.then_ret | apply H.then_exit | apply H.exit | apply H.block | apply H.in_normal | apply H.in_ret | apply H.in_hit | apply H.loop_ret | apply H.loop_exit) | (apply H.in_miss; exact rfl) | (apply H.gyes; (iterate 3 exact rfl); (first | assumption | omega)) | (apply H.gno; (iterate 3 exact rfl); (first | assumption | omega)) | (apply H.cond_yes; exact rfl; (first | assumption | omega)) | (apply H.cond_no; exact rfl; (first | assumption | omega)) | ((first | apply H.gtrue); (iterate 3 exact rfl); assumption) | (apply H.gfalse; (iterate 3 exact rfl); assumption) | (apply H.cond_t; exact rfl; assumption) | (apply H.cond_f; exact rfl; assumption))
              exact H.again (i + 1, e2, L2) ⟨by show i + 1 ≤ l.length; omega, hle2, hL2⟩ (by show l.length - (i + 1) < l.length - i; omega) ⟨rfl, rfl, rfl, rfl, rfl, trivial⟩ rfl rfl
          · have hil : i = W.all.length := by omega
            have hL : L.map MV.m = W.all := by rw [hL, hil, List.take_length]
            have hget : getM (L.map MV.m) o2.origin o2.number = (y.m, true) := by rw [hL, hso, hsn]; exact fork_get hinv.ok hLOK hym
            have hgt : ∀ G, Fn Tryz.prog 28 [.pointer (some ⟨lb, 0, none⟩), .int .i64 o2.origin, .int .u64 o2.number] e (loreH e lb n L :: G) (GetP e (loreH e lb n L :: G) (y.m, true)) := fun G => by
              have h := lget_fn e G (Le.refl e) (lb := lb) (n := n) (l := L) (og := o2.origin) (z := o2.number) (by rw [hsn, (hinv.ok a y.m hym).num]; omega)
              rw [hget] at h
              exact h
            repeat (first | ((first | apply H.move | apply H.nilCheck | apply H.len_slice); (iterate 3 exact rfl)) | (apply H.fieldAddr; (iterate 3 exact rfl); exact inferInstance; exact rfl) | (apply H.load1; (iterate 3 exact rfl); apply Rd1.ofRow; (repeat (first | exact .here _ _ _ | apply At.there)); (iterate 2 exact rfl)) | (first | apply H.seq | apply H.region | apply H.nil | apply H.then_normal) | ((apply H.cmp); (iterate 5 exact rfl)) | (first | apply H.then_exit | apply H.exit | apply H.in_hit | apply H.loop_exit) | (apply H.cond_no; exact rfl; (omega)))
            refine H.call rfl rfl rfl (hgt _) fun v f' A' hr => ?_
            obtain ⟨g4, z, rfl, hzm, hzg, hd4, rfl, rfl⟩ := hr
            have hle4 := hle.trans (Le.un e g4)
            generalize un e g4 = e4 at hle4 hzg ⊢
            have hsz : ∀ G, Fn Tryz.prog 30 [.agg z.vals.toArray, .agg y.vals.toArray] e4 G (Ret (.bool true) e4 G) := fun G => by
              have h := rsameM_fn e4 G hzg (hyg.mono hle4)
              rw [hzm, Msg.eqB_refl] at h
              exact h
            repeat (first | ((apply H.move); (iterate 3 exact rfl)) | ((apply H.extract); (iterate 4 exact rfl)))
            refine H.alloc (ls := msgZ.vals none 0) rfl rfl rfl fun zb => ?_
            refine H.storeN (ls := msgZ.vals none 0) (vs := z.vals) (ls' := z.vals) rfl rfl rfl (allOne_mem rfl) rfl rfl (Nat.le_refl 121) (.here _ _ _) ?_
            repeat (first | ((apply H.assign); (iterate 3 exact rfl)) | (first | apply H.seq | apply H.nil | apply H.then_normal))
            refine H.front (x := row wb _ _) (by repeat (first | exact .here _ _ | apply Pull.there)) ?_
            refine H.front (x := row zb _ _) (by repeat (first | exact .here _ _ | apply Pull.there)) ?_
            refine H.drawB (by kernel_rfl) (by decide +kernel) (by first | exact blind_fn | exact blind_seq blind_fn | exact blind_seq (blind_seq blind_fn) | (repeat (first | exact blind_fn | refine blind_seq ?_ | refine blind_block ?_ | refine blind_loop ?_))) (S := [_, _]) rfl ?_
            refine HB.quiet [(0, false), (1, false), (2, false), (3, false), (4, false), (5, false), (6, false), (7, false), (8, false), (9, false)] 6 (by kernel_rfl) ?_
            repeat (((apply HQ.move); (iterate 3 exact rfl)))
            refine HQ.loadN (ls := z.vals) rfl rfl rfl (Rd.ofRow (.here _ _ _)) rfl rfl ?_
            repeat (first | ((first | apply HQ.move | apply HQ.nilCheck); (iterate 3 exact rfl)) | (apply HQ.fieldAddr; (iterate 3 exact rfl); exact inferInstance; exact rfl) | (apply HQ.load1; (iterate 3 exact rfl); apply Rd1.ofRow; (repeat (first | exact .here _ _ _ | apply At.there)); (iterate 2 exact rfl)))
            refine HQ.index_slice (i := a) rfl rfl rfl rfl hal rfl ?_
            refine HQ.loadN (ls := y.vals) rfl rfl rfl (rdA _ _ _ _ hle4 hy) rfl rfl ?_
            refine HQ.more rfl ?_
            refine HB.ev1 (i := 10) (by kernel_rfl) rfl ?_
            refine H.callR rfl rfl rfl (hsz _) ?_
            repeat ((apply H.nil))
            refine H.on0 rfl ?_
            refine HB.quiet [(11, false), (12, false)] 3 (by kernel_rfl) ?_
            repeat (first | ((apply HQ.move); (iterate 3 exact rfl)) | (apply HQ.pickT; (iterate 4 exact rfl)))
            refine HQ.more rfl ?_
            refine HB.ev1 (i := 13) (by kernel_rfl) rfl ?_
            refine H.callR rfl rfl rfl (works12_fn e4 _ (tab_mono htab (le1.trans hle4))) ?_
            repeat ((apply H.nil))
            refine H.on0 rfl ?_
            refine HB.quiet [(14, false), (15, false)] 0 (by kernel_rfl) ?_
            repeat (first | ((apply HQ.assign); (iterate 3 exact rfl)) | (apply HQ.pickT; (iterate 4 exact rfl)))
            refine HQ.more rfl ?_
            refine HB.done (by kernel_rfl) ?_
            repeat (first | (apply H.then_normal) | (apply H.ret))
            refine H.weakL (le1.trans hle4) ?_
            refine H.drop (.here _ _) ?_
            refine H.drop (.here _ _) ?_
            refine H.drop (.here _ _) ?_
            refine H.drop (.here _ _) ?_
            exact H.ret1 rfl rfl (fun _ h => h) ⟨rfl, rfl, rfl⟩
    · skip
      refine Fn.enter Tryz.func7 rfl Tryz.ntmps7 rfl (L := [(0, _), (1, _), (2, _), (3, _)]) ⟨rfl, rfl, rfl, rfl, trivial⟩ fun base => ?_
      repeat (first | ((first | apply H.move | apply H.assign); (iterate 3 exact rfl)) | (first | apply H.seq | apply H.region | apply H.nil | apply H.then_normal))
      refine H.callR rfl rfl rfl hfew ?_
      refine H.not (b := _) (c := _) rfl rfl rfl rfl ?_
      repeat (first | ((first | apply H.move | apply H.len_slice); (iterate 3 exact rfl)) | (first | apply H.seq | apply H.region | apply H.nil | apply H.then_normal) | ((apply H.cmp); (iterate 5 exact rfl)) | ((apply H.pickF); (iterate 4 exact rfl)) | (apply H.cond_yes; exact rfl; (omega)))
      refine H.callR rfl rfl rfl (works12_fn f _ htab) ?_
      repeat (first | ((apply H.assign); (iterate 3 exact rfl)) | (first | apply H.nil | apply H.then_normal) | (first | apply H.ret | apply H.then_ret))
      exact H.ret1 rfl rfl (fun _ h => h) ⟨rfl, rfl, rfl⟩
end
end Go.Proofs.YtoigpgdmignaoaaGreatDoor

/- Layer 12: LoreTells. Condition: the table of the standard stands in the fragment. -/
namespace Go.Proofs.YtoigpgdmignaoaaGreatDoor
set_option linter.unusedSectionVars false
set_option linter.unusedSimpArgs false
set_option linter.unusedVariables false
open Go
theorem lore_up {f g : Frag} (h : Le f g) {lb n : Nat} {l : List MV} {A : List HP} : ∀ x, stars (loreH f lb n l :: A) x → stars (loreH g lb n l :: A) x :=
  fun _ ⟨h1, h2, hd, he, ha, hr⟩ => ⟨h1, h2, hd, he, loreH_mono h _ ha, hr⟩
/-- How many of the first ones k knows. -/
def kn12 (k : Nat → Int) (l : List Msg) : Nat := (l.filter fun m => decide (m.number ≤ k (orgI m))).length
theorem kn12_snoc (k : Nat → Int) (l : List Msg) (m : Msg) : kn12 k (l ++ [m]) = kn12 k l + (if m.number ≤ k (orgI m) then 1 else 0) := by
  unfold kn12
  rw [List.filter_append, List.length_append, List.filter_cons, List.filter_nil]
  by_cases h : m.number ≤ k (orgI m)
  · rw [if_pos h, if_pos (decide_eq_true h)]; rfl
  · rw [if_neg h, if_neg (by rw [decide_eq_false h]; decide)]; rfl
theorem kn12_le (k : Nat → Int) (l : List Msg) : kn12 k l ≤ l.length := List.length_filter_le _ _
/-- One more of a world: what b, that knows what k knows, has behind it. -/
theorem tells_step {n : Nat} {all : List Msg} {k : Nat → Int} {i : Nat} {m : Msg} (hW : WOK n all) (hk : Knw all k) (hm : all[i]? = some m) {S : Strm} (hS : S = uptoS all (minU k (all.take i))) :
    (m.number ≤ k (orgI m) → chk n S m = 0 ∧ addS S m = uptoS all (minU k (all.take (i + 1)))) ∧ (¬ m.number ≤ k (orgI m) → S = uptoS all (minU k (all.take (i + 1)))) := by
  have e := take_cons_drop hm
  have hnx := take_snoc hm
  have h := sub_step (n := n) (pre := all.take i) (post := all.drop (i + 1)) (m := m) (k := k) (by rw [← e]; exact hW) (by rw [← e]; exact hk)
  rw [← e, ← hnx] at h
  subst hS
  exact ⟨h.1, fun hn => by rw [h.2 hn]⟩
theorem uptoS_zero {all : List Msg} {k : Nat → Int} (h : ∀ i, 0 ≤ k i) : strm [] = uptoS all (minU k []) := by
  rw [minU_nil h]
  funext i
  show ([] : List Msg) = (strm all i).take (0 : Int).toNat
  rfl
theorem knownS_u {all : List Msg} {u : Nat → Int} (h : Knw all u) {S : Strm} (hS : S = uptoS all u) : knownS S = u := by
  subst hS
  funext i
  exact knownS_uptoS h i
/-- In the middle of a part that is told. -/
theorem tells_mid {n : Nat} {all : List Msg} (hW : WOK n all) {u : Nat → Int} (hu : Knw all u) {T rest : List Msg} (hT : unk u all = T ++ rest) {j : Nat} {m : Msg} (hm : T[j]? = some m) {S : Strm} (hS : S = uptoS all (afterU u (T.take j))) :
    chk n S m = 0 ∧ addS S m = uptoS all (afterU u (T.take (j + 1))) ∧ Knw all (afterU u (T.take (j + 1))) ∧ ∀ i, i < 11 → m.deps i ≤ afterU u (T.take (j + 1)) i := by
  have e := take_cons_drop hm
  obtain ⟨k1, k2⟩ := after_ok hW (T.take j) (m :: T.drop (j + 1) ++ rest) hu (by rw [hT]; rw [show T ++ rest = (T.take j ++ m :: T.drop (j + 1)) ++ rest by rw [← e]]; simp)
  obtain ⟨h1, h2, h3, h4, h5⟩ := unk_first hW k1 (m := m) (rest := T.drop (j + 1) ++ rest) k2
  have hnx : afterU u (T.take (j + 1)) = updF (afterU u (T.take j)) (orgI m) (afterU u (T.take j) (orgI m) + 1) := by
    rw [take_snoc hm, afterU_snoc]; rfl
  subst hS
  rw [hnx]
  refine ⟨h1, h2, h3, fun i hi => ?_⟩
  have := h5 i hi
  unfold updF
  split
  · rename_i h; rw [← h]; omega
  · exact this
section
variable (f : Frag) (F : List HP)
set_option maxRecDepth 20000 in
set_option maxHeartbeats 3200000 in
theorem tells_fn (htab : TabAt f) {n8 : UInt8} {p : Option Addr} {c : Nat} {xs : List A12} (hat : ListAt f p 8 A12.vals xs) (hh : ∀ x ∈ xs, x.Has f) (hxl : xs.length ≤ 9223372036854775807) (who part : UInt8) :
    Fn Tryz.prog 3 [.int .u8 (n8.toNat : Nat), .slice p xs.length c, .int .u8 (who.toNat : Nat), .int .u8 (part.toNat : Nat)] f F (Ret (.bool true) f F) := by
  have hfew := few12_fn f F (c := c) hat hxl
  cases hf : few12 xs with
  | false =>
    rw [hf] at hfew
    refine Fn.enter Tryz.func3 rfl Tryz.ntmps3 rfl (L := [(0, _), (1, _), (2, _), (3, _)]) ⟨rfl, rfl, rfl, rfl, trivial⟩ fun base => ?_
    repeat (first | ((first | apply H.move | apply H.assign); (iterate 3 exact rfl)) | (first | apply H.seq | apply H.region | apply H.nil | apply H.then_normal))
    refine H.callR rfl rfl rfl hfew ?_
    refine H.not (b := _) (c := _) rfl rfl rfl rfl ?_
    repeat (first | ((first | apply H.move | apply H.len_slice); (iterate 3 exact rfl)) | (first | apply H.seq | apply H.region | apply H.nil | apply H.then_normal) | (apply H.pass; (iterate 2 exact rfl)) | (apply H.pickT; (iterate 4 exact rfl)) | (apply H.cond_true; exact rfl))
    refine H.callR rfl rfl rfl (works12_fn f _ htab) ?_
    repeat (first | ((apply H.assign); (iterate 3 exact rfl)) | (first | apply H.nil | apply H.then_normal) | (first | apply H.ret | apply H.then_ret))
    exact H.ret1 rfl rfl (fun _ h => h) ⟨rfl, rfl, rfl⟩
  | true =>
    rw [hf] at hfew
    obtain ⟨hl100, hq20⟩ := few12_all hf
    by_cases h60 : xs.length ≤ 80
    · obtain ⟨n, hn8⟩ : ∃ n, n = 3 + 2 * (n8.toNat % 5) := ⟨_, rfl⟩
      have hn3 : 3 ≤ n ∧ n ≤ 11 := by omega
      have hn0 : ((n : Nat) : Int) ≠ 0 := by omega
      have hacts := fun G => acts_fn f G hn8 (c := c) hat (fun x hx => ⟨hh x hx, hq20 x hx⟩) hl100
      have hinv : WInv n (worldOf n xs) := by have := worldOf_inv (n := n) (by omega) hn3.2 xs xs.length; rwa [List.take_length] at this
      have hwl : (worldOf n xs).all.length ≤ 80 := by have := worldOf_len n xs xs.length; rw [List.take_length] at this; omega
      generalize worldOf n xs = W at *
      have hwho := who.toNat_lt
      have hpart := part.toNat_lt
      refine Fn.enter Tryz.func3 rfl Tryz.ntmps3 rfl (L := [(0, _), (1, _), (2, _), (3, _)]) ⟨rfl, rfl, rfl, rfl, trivial⟩ fun base => ?_
      repeat (first | ((first | apply H.move | apply H.assign); (iterate 3 exact rfl)) | (first | apply H.seq | apply H.region | apply H.nil | apply H.then_normal))
      refine H.callR rfl rfl rfl hfew ?_
      refine H.not (b := _) (c := _) rfl rfl rfl rfl ?_
      repeat (first | ((first | apply H.move | apply H.len_slice); (iterate 3 exact rfl)) | (first | apply H.seq | apply H.region | apply H.nil | apply H.then_normal) | ((apply H.cmp); (iterate 5 exact rfl)) | ((apply H.pickF); (iterate 4 exact rfl)) | (apply H.skip) | (apply H.cond_no; exact rfl; (omega)))
      refine H.call rfl rfl rfl (hacts _) fun v f' A' hr => ?_
      obtain ⟨g, wb, kb, ap, ac, l, rfl, hd, rfl, rfl, hwat⟩ := hr
      have le1 := Le.un f g
      generalize un f g = f1 at *
      have hlm := hwat.m
      have hll : l.length = W.all.length := by rw [← hlm, List.length_map]
      clear hacts hfew
      obtain ⟨o, ho⟩ : ∃ o, o = who.toNat % n := ⟨_, rfl⟩
      have hon : o < n := by rw [ho]; exact Nat.mod_lt _ (by omega)
      have hk := hinv.knw o hon
      have hrk := hwat.k.rd [row wb 34 (worldC kb n ap l.length ac)] hon
      generalize hkv : W.kv o = k at *
      repeat (first | ((first | apply H.move | apply H.assign | apply H.nilCheck | apply H.len_slice); (iterate 3 exact rfl)) | (apply H.fieldAddr; (iterate 3 exact rfl); exact inferInstance; exact rfl) | (apply H.load1; (iterate 3 exact rfl); apply Rd1.ofRow; (repeat (exact .here _ _ _)); (iterate 2 exact rfl)) | (first | apply H.seq | apply H.region | apply H.nil | apply H.then_normal))
      refine H.callE rfl rfl rfl (lnew_fn f1 _ (fewz_odd hn8)) fun la => ?_
      repeat (first | ((first | apply H.move | apply H.assign | apply H.nilCheck | apply H.len_slice); (iterate 3 exact rfl)) | (apply H.fieldAddr; (iterate 3 exact rfl); exact inferInstance; exact rfl) | (apply H.load1; (iterate 3 exact rfl); apply Rd1.ofRow; (repeat (first | exact .here _ _ _ | apply At.there)); (iterate 2 exact rfl)) | (first | apply H.seq | apply H.region | apply H.nil | apply H.then_normal) | ((apply H.extract); (iterate 4 exact rfl)))
      refine H.callE rfl rfl rfl (lnew_fn f1 _ (fewz_odd hn8)) fun lb => ?_
      repeat (first | ((first | apply H.move | apply H.assign); (iterate 3 exact rfl)) | (first | apply H.seq | apply H.region | apply H.nil | apply H.then_normal) | ((apply H.cmp); (iterate 5 exact rfl)) | ((first | apply H.pickF | apply H.extract); (iterate 4 exact rfl)) | ((apply H.ptrNil); (iterate 5 exact rfl)) | (apply H.cond_false; exact rfl) | (apply H.skip))
      refine H.front (x := row wb _ _) (by repeat (first | exact .here _ _ | apply Pull.there)) ?_
      refine H.drawB (by kernel_rfl) (by decide +kernel) (by first | exact blind_fn | exact blind_seq blind_fn | exact blind_seq (blind_seq blind_fn) | (repeat (first | exact blind_fn | refine blind_seq ?_ | refine blind_block ?_ | refine blind_loop ?_))) (S := [_]) rfl ?_
      refine HB.quiet [(0, false), (1, false), (2, false), (3, false), (4, false), (5, false), (6, false), (7, false), (8, false), (9, false), (10, false), (11, false), (12, false), (13, false)] 2 (by kernel_rfl) ?_
      repeat (first | ((first | apply HQ.move | apply HQ.nilCheck | apply HQ.len_slice); (iterate 3 exact rfl)) | (apply HQ.fieldAddr; (iterate 3 exact rfl); exact inferInstance; exact rfl) | (apply HQ.load1; (iterate 3 exact rfl); apply Rd1.ofRow; (repeat (exact .here _ _ _)); (iterate 2 exact rfl)) | ((apply HQ.conv_int; (iterate 2 exact rfl)); (with_reducible apply wr_i64; omega); exact rfl))
      refine HQ.rem (z := ((o : Nat) : Int)) rfl rfl rfl hn0 (tmod_nat (a := who.toNat) (b := n) ho.symm) rfl ?_
      refine HQ.index_slice (i := o) rfl rfl rfl rfl hon rfl ?_
      refine HQ.loadN (ls := v11 k) rfl rfl rfl (by rw [Nat.zero_add]; exact hrk) rfl rfl ?_
      refine HQ.more rfl ?_
      refine HB.ev1 (i := 14) (by kernel_rfl) rfl ?_
      refine H.alloc (ls := v11 fun _ => 0) rfl rfl rfl fun vb => ?_
      repeat ((apply H.nil))
      refine H.front (x := row wb _ _) (by repeat (first | exact .here _ _ | apply Pull.there)) ?_
      refine H.on0 rfl ?_
      refine HB.ev1 (i := 15) (by kernel_rfl) rfl ?_
      refine H.storeN (ls := v11 fun _ => 0) (vs := v11 k) (ls' := v11 k) rfl rfl rfl (allOne_mem rfl) rfl rfl (Nat.le_refl 11) (.there _ (.here _ _ _)) ?_
      repeat ((apply H.nil))
      refine H.on0 rfl ?_
      refine HB.done (by kernel_rfl) ?_
      repeat (first | ((apply H.assign); (iterate 3 exact rfl)) | (first | apply H.seq | apply H.region | apply H.nil | apply H.then_normal) | (apply H.block))
      refine H.front (x := row vb _ _) (by repeat (first | exact .here _ _ | apply Pull.there)) ?_
      refine H.front (x := loreH _ lb _ _) (by repeat (first | exact .here _ _ | apply Pull.there)) ?_
      refine H.front (x := loreH _ la _ _) (by repeat (first | exact .here _ _ | apply Pull.there)) ?_
      refine H.loop (ι := Nat × Frag × List MV × List MV) (fun s => [(15, .int .i64 (s.1 : Int)), (9, .pointer (some ⟨wb, 0, none⟩)), (10, .pointer (some ⟨la, 0, none⟩)), (12, .pointer (some ⟨lb, 0, none⟩)), (14, .pointer (some ⟨vb, 0, none⟩)), (3, .int .u8 (part.toNat : Nat))]) (fun s => s.2.1)
        (fun s => loreH s.2.1 la n s.2.2.1 :: loreH s.2.1 lb n s.2.2.2 :: row vb 37 (v11 k) :: row wb 34 (worldC kb n ap l.length ac) :: F)
        (fun s => s.1 ≤ l.length ∧ Le f1 s.2.1 ∧ s.2.2.1.map MV.m = W.all.take s.1 ∧ strm (s.2.2.2.map MV.m) = uptoS W.all (minU k (W.all.take s.1)) ∧ s.2.2.2.length = kn12 k (W.all.take s.1)) (fun s => l.length - s.1)
        (0, f1, [], []) ⟨Nat.zero_le _, Le.refl f1, rfl, uptoS_zero (fun i => (hk.le i).1), rfl⟩ ⟨rfl, rfl, rfl, rfl, rfl, rfl, trivial⟩ rfl rfl fun s hs => ?_
      obtain ⟨i, e, LA, LB⟩ := s
      obtain ⟨hi, hle, hA, hB, hBl⟩ : i ≤ l.length ∧ Le f1 e ∧ LA.map MV.m = W.all.take i ∧ strm (LB.map MV.m) = uptoS W.all (minU k (W.all.take i)) ∧ LB.length = kn12 k (W.all.take i) := hs
      show H _ _ _ [(15, .int .i64 (i : Int)), _, _, _, _, _] e (loreH e la n LA :: loreH e lb n LB :: _ :: _ :: F) _
      have hAl : LA.length ≤ i := by
        have := congrArg List.length hA
        rw [List.length_map, List.length_take] at this
        omega
      have hBl2 : LB.length ≤ i := by
        have := kn12_le k (W.all.take i)
        rw [List.length_take] at this
        omega
      by_cases hlt : i < l.length
      · obtain ⟨b, off, rfl, rdA⟩ := hwat.a.all MV.len (by decide) (by omega)
        obtain ⟨y, hy⟩ : ∃ y, l[i]? = some y := ⟨_, List.getElem?_eq_getElem hlt⟩
        have hym : W.all[i]? = some y.m := by rw [← hlm, List.getElem?_map, hy]; rfl
        have hyg := hwat.g y (List.mem_of_getElem? hy)
        have hca : chk n (strm (LA.map MV.m)) y.m = 0 := by rw [hA]; exact hinv.ok.next hym
        have hnx : W.all.take (i + 1) = W.all.take i ++ [y.m] := take_snoc hym
        have hst := tells_step hinv.ok hk hym hB
        have hkn := kn12_snoc k (W.all.take i) y.m
        rw [← hnx] at hkn
        have hmok := hinv.ok i y.m hym
        obtain ⟨ob, hob1, hob2⟩ : ∃ ob : Nat, orgI y.m = ob ∧ y.m.origin - 1 = (ob : Nat) := ⟨orgI y.m, rfl, by have := hmok.org; unfold orgI; omega⟩
        have hob : ob < 11 := by have := hmok.org; omega
        have horg := hmok.org
        rw [hob1] at hst hkn
        repeat (first | ((first | apply H.move | apply H.nilCheck | apply H.len_slice); (iterate 3 exact rfl)) | (apply H.fieldAddr; (iterate 3 exact rfl); exact inferInstance; exact rfl) | (apply H.load1; (iterate 3 exact rfl); apply Rd1.ofRow; (repeat (first | exact .here _ _ _ | apply At.there)); (iterate 2 exact rfl)) | (first | apply H.seq | apply H.region | apply H.nil | apply H.then_normal) | ((apply H.cmp); (iterate 5 exact rfl)) | (first | apply H.skip | apply H.block) | (apply H.cond_yes; exact rfl; (omega)))
        refine H.index_slice (i := i) rfl rfl rfl rfl hlt rfl ?_
        refine H.loadN (ls := y.vals) rfl rfl rfl (rdA _ _ _ _ hle hy) rfl rfl ?_
        refine H.alloc (ls := msgZ.vals none 0) rfl rfl rfl fun mb => ?_
        refine H.storeN (ls := msgZ.vals none 0) (vs := y.vals) (ls' := y.vals) rfl rfl rfl (allOne_mem rfl) rfl rfl (Nat.le_refl 121) (.here _ _ _) ?_
        repeat (first | ((apply H.move); (iterate 3 exact rfl)) | (first | apply H.seq | apply H.region | apply H.nil | apply H.then_normal))
        refine H.loadN (ls := y.vals) rfl rfl rfl (Rd.ofRow (.here _ _ _)) rfl rfl ?_
        refine H.front (x := loreH _ la _ _) (by repeat (first | exact .here _ _ | apply Pull.there)) ?_
        refine H.call (R := AddP e _ la n LA y.m) rfl rfl rfl (ladd_fn e _ (tab_mono htab (le1.trans hle)) (Le.refl e) (hyg.mono hle) (by omega)) fun v f' A' hr => ?_
        obtain ⟨g2, q2, c2, rfl, hd2, rfl, rfl⟩ := hr
        rw [hca, if_pos rfl]
        have hle2 := hle.trans (Le.un e g2)
        have hup := Le.un e g2
        generalize un e g2 = e2 at hle2 hup ⊢
        have hA2 : (LA ++ [(⟨y.m, q2, c2⟩ : MV)]).map MV.m = W.all.take (i + 1) := by rw [List.map_append, hA, hnx]; rfl
        generalize LA ++ [(⟨y.m, q2, c2⟩ : MV)] = LA2 at hA2 ⊢
        refine H.front (x := loreH _ lb _ _) (by repeat (first | exact .here _ _ | apply Pull.there)) ?_
        refine H.imp (lore_up hup) ?_
        repeat (first | (first | apply H.seq | apply H.nil | apply H.then_normal) | ((apply H.cmp); (iterate 5 exact rfl)) | (apply H.cond_false; exact rfl) | (apply H.skip))
        refine H.front (x := row vb _ _) (by repeat (first | exact .here _ _ | apply Pull.there)) ?_
        refine H.front (x := row mb _ _) (by repeat (first | exact .here _ _ | apply Pull.there)) ?_
        refine H.drawB (by kernel_rfl) (by decide +kernel) (by first | exact blind_fn | exact blind_seq blind_fn | exact blind_seq (blind_seq blind_fn) | (repeat (first | exact blind_fn | refine blind_seq ?_ | refine blind_block ?_ | refine blind_loop ?_))) (S := [_, _]) rfl ?_
        refine HB.quiet [(0, false), (1, false), (2, false), (3, false), (4, false), (5, false), (6, false), (7, false), (8, false), (9, false), (10, false)] 3 (by kernel_rfl) ?_
        repeat (first | (apply HQ.fieldAddr; (iterate 3 exact rfl); exact inferInstance; exact rfl) | (apply HQ.load1; (iterate 3 exact rfl); apply Rd1.ofRow; (repeat (exact .here _ _ _)); (iterate 2 exact rfl)) | ((apply HQ.ar; (iterate 4 exact rfl)); (with_reducible apply wr_i64; omega); exact rfl))
        refine HQ.index_array (i := ob) rfl rfl rfl hob2 hob rfl ?_
        refine HQ.load1 rfl rfl rfl (Rd1.of (Rd.ofRow (.there _ (.here _ _ _))) (by rw [Nat.mul_one]; exact v11_get k hob)) rfl ?_
        repeat (first | ((apply HQ.move); (iterate 3 exact rfl)) | ((apply HQ.cmp); (iterate 5 exact rfl)))
        by_cases hmk : y.m.number ≤ k ob
        · obtain ⟨hcb, hB2⟩ := hst.1 hmk
          rw [if_pos hmk] at hkn
          repeat (first | ((apply HQ.move); (iterate 3 exact rfl)) | (apply HQ.gyes; (iterate 3 exact rfl); (assumption)))
          refine HQ.loadN (ls := y.vals) rfl rfl rfl (Rd.ofRow (.here _ _ _)) rfl rfl ?_
          refine HQ.more rfl ?_
          refine HB.ev1 (i := 11) (by kernel_rfl) rfl ?_
          refine H.front (x := loreH _ lb _ _) (by repeat (first | exact .here _ _ | apply Pull.there)) ?_
          refine H.call (R := AddP e2 _ lb n LB y.m) rfl rfl rfl (ladd_fn e2 _ (tab_mono htab (le1.trans hle2)) (Le.refl e2) (hyg.mono hle2) (by omega)) fun v f' A' hr => ?_
          obtain ⟨g3, q3, c3, rfl, hd3, rfl, rfl⟩ := hr
          rw [hcb, if_pos rfl]
          have hle3 := hle2.trans (Le.un e2 g3)
          have hup3 := Le.un e2 g3
          generalize un e2 g3 = e3 at hle3 hup3 ⊢
          refine H.front (x := loreH _ la _ _) (by repeat (first | exact .here _ _ | apply Pull.there)) ?_
          refine H.imp (lore_up hup3) ?_
          have hB3 : strm ((LB ++ [(⟨y.m, q3, c3⟩ : MV)]).map MV.m) = uptoS W.all (minU k (W.all.take (i + 1))) := by
            rw [List.map_append, show [(⟨y.m, q3, c3⟩ : MV)].map MV.m = [y.m] from rfl, strm_snoc]; exact hB2
          have hB3l : (LB ++ [(⟨y.m, q3, c3⟩ : MV)]).length = kn12 k (W.all.take (i + 1)) := by rw [List.length_append, hkn, hBl]; rfl
          generalize LB ++ [(⟨y.m, q3, c3⟩ : MV)] = LB3 at hB3 hB3l ⊢
          repeat ((apply H.nil))
          refine H.front (x := row vb _ _) (by repeat (first | exact .here _ _ | apply Pull.there)) ?_
          refine H.front (x := row mb _ _) (by repeat (first | exact .here _ _ | apply Pull.there)) ?_
          refine H.on [] hup3 rfl ?_
          refine HB.quiet [(12, false), (13, false)] 0 (by kernel_rfl) ?_
          repeat (first | ((apply HQ.cmp); (iterate 5 exact rfl)) | (apply HQ.pickT; (iterate 4 exact rfl)))
          refine HQ.more rfl ?_
          refine HB.done (by kernel_rfl) ?_
          repeat (first | ((first | apply H.move | apply H.assign); (iterate 3 exact rfl)) | (first | apply H.region | apply H.nil | apply H.then_normal) | ((apply H.ar; (iterate 4 exact rfl)); (with_reducible apply wr_i64_n1; omega); exact rfl) | (apply H.cond_false; exact rfl) | (first | apply H.skip | apply H.in_normal))
          refine H.drop (x := row mb _ _) (by repeat (first | exact .here _ _ | apply Pull.there)) ?_
          refine H.front (x := loreH _ lb _ _) (by repeat (first | exact .here _ _ | apply Pull.there)) ?_
          refine H.front (x := loreH _ la _ _) (by repeat (first | exact .here _ _ | apply Pull.there)) ?_
          exact H.again (i + 1, e3, LA2, LB3) ⟨by show i + 1 ≤ l.length; omega, hle3, hA2, hB3, hB3l⟩ (by show l.length - (i + 1) < l.length - i; omega) ⟨rfl, rfl, rfl, rfl, rfl, rfl, trivial⟩ rfl rfl
        · have hB2 := hst.2 hmk
          rw [if_neg hmk] at hkn
          repeat (first | (apply HQ.pass; (iterate 2 exact rfl)) | (apply HQ.gno; (iterate 3 exact rfl); (assumption)))
          refine HQ.more rfl ?_
          refine HB.ev1 (i := 11) (by kernel_rfl) rfl ?_
          repeat (first | (apply H.nil) | (apply H.pass; (iterate 2 exact rfl)))
          refine H.on0 rfl ?_
          refine HB.quiet [(12, false), (13, false)] 0 (by kernel_rfl) ?_
          repeat (first | (apply HQ.pass; (iterate 2 exact rfl)) | ((apply HQ.pickF); (iterate 4 exact rfl)))
          refine HQ.more rfl ?_
          refine HB.done (by kernel_rfl) ?_
          repeat (first | ((first | apply H.move | apply H.assign); (iterate 3 exact rfl)) | (first | apply H.region | apply H.nil | apply H.then_normal) | ((apply H.ar; (iterate 4 exact rfl)); (with_reducible apply wr_i64_n1; omega); exact rfl) | (apply H.cond_false; exact rfl) | (first | apply H.skip | apply H.in_normal))
          refine H.drop (x := row mb _ _) (by repeat (first | exact .here _ _ | apply Pull.there)) ?_
          refine H.front (x := loreH _ lb _ _) (by repeat (first | exact .here _ _ | apply Pull.there)) ?_
          refine H.front (x := loreH _ la _ _) (by repeat (first | exact .here _ _ | apply Pull.there)) ?_
          exact H.again (i + 1, e2, LA2, LB) ⟨by show i + 1 ≤ l.length; omega, hle2, hA2, by show strm (LB.map MV.m) = _; rw [hB]; rw [hB] at hB2; exact hB2, by show LB.length = _; rw [hBl, hkn]; rfl⟩ (by show l.length - (i + 1) < l.length - i; omega) ⟨rfl, rfl, rfl, rfl, rfl, rfl, trivial⟩ rfl rfl
      · have hil : i = W.all.length := by omega
        rw [hil, List.take_length] at hA hB hBl
        rw [minU_all hk] at hB
        repeat (first | ((first | apply H.move | apply H.nilCheck | apply H.len_slice); (iterate 3 exact rfl)) | (apply H.fieldAddr; (iterate 3 exact rfl); exact inferInstance; exact rfl) | (apply H.load1; (iterate 3 exact rfl); apply Rd1.ofRow; (repeat (first | exact .here _ _ _ | apply At.there)); (iterate 2 exact rfl)) | (first | apply H.seq | apply H.region | apply H.nil | apply H.then_normal) | ((apply H.cmp); (iterate 5 exact rfl)) | (first | apply H.then_exit | apply H.exit | apply H.in_hit | apply H.loop_exit) | (apply H.cond_no; exact rfl; (omega)))
        have hkS : knownS (strm (LB.map MV.m)) = k := knownS_u hk hB
        have hknown : ∀ G, Fn Tryz.prog 20 [.pointer (some ⟨lb, 0, none⟩)] e (loreH e lb n LB :: G) (Ret (.agg (v11 k).toArray) e (loreH e lb n LB :: G)) := fun G => by
          have h := known_fn e G (fl := e) (lb := lb) (n := n) (l := LB)
          rw [hkS] at h
          exact h
        refine H.front (x := row vb _ _) (by repeat (first | exact .here _ _ | apply Pull.there)) ?_
        refine H.drawB (by kernel_rfl) (by decide +kernel) (by first | exact blind_fn | exact blind_seq blind_fn | exact blind_seq (blind_seq blind_fn) | (repeat (first | exact blind_fn | refine blind_seq ?_ | refine blind_block ?_ | refine blind_loop ?_))) (S := [_]) rfl ?_
        refine HB.quiet [(0, false), (2, false)] 2 (by kernel_rfl) ?_
        repeat (((apply HQ.move); (iterate 3 exact rfl)))
        refine HQ.loadN (ls := v11 k) rfl rfl rfl (Rd.ofRow (.here _ _ _)) rfl rfl ?_
        refine HQ.more rfl ?_
        refine HB.ev1 (i := 1) (by kernel_rfl) rfl ?_
        refine H.front (x := loreH _ lb _ _) (by repeat (first | exact .here _ _ | apply Pull.there)) ?_
        refine H.callR rfl rfl rfl (hknown _) ?_
        repeat ((apply H.nil))
        refine H.front (x := row vb _ _) (by repeat (first | exact .here _ _ | apply Pull.there)) ?_
        refine H.on0 rfl ?_
        refine HB.quiet [(3, false)] 0 (by kernel_rfl) ?_
        refine HQ.aggNe (xs := v11 k) (ys := v11 k) (D := 4) (b := false) rfl rfl rfl rfl (by kernel_rfl) (by kernel_rfl) (by kernel_rfl) (by kernel_rfl) (by decide) (by rw [eqC_refl (l := v11 k) rfl]; rfl) rfl ?_
        refine HQ.more rfl ?_
        refine HB.done (by kernel_rfl) ?_
        repeat (first | ((apply H.move); (iterate 3 exact rfl)) | (first | apply H.seq | apply H.region | apply H.then_normal) | ((apply H.conv_int; (iterate 2 exact rfl)); (with_reducible apply wr_i64; omega); exact rfl) | (apply H.cond_false; exact rfl) | (apply H.skip))
        refine H.rem (z := ((part.toNat % 20 : Nat) : Int)) rfl rfl rfl (by decide) (tmod_nat (b := 20) rfl) rfl ?_
        have hp20 : part.toNat % 20 < 20 := Nat.mod_lt _ (by decide)
        generalize part.toNat % 20 = pt at *
        have hBtot : LB.length + (unk k W.all).length = W.all.length := by
          have := unk_split k W.all
          unfold kn12 at hBl
          omega
        have hAl2 : LA.length = W.all.length := by rw [← hA, List.length_map]
        clear hknown hkS hrk hkv
        repeat (first | ((apply H.assign); (iterate 3 exact rfl)) | (first | apply H.seq | apply H.region | apply H.nil | apply H.then_normal) | ((apply H.ar; (iterate 4 exact rfl)); (with_reducible apply wr_i64; omega); exact rfl) | (apply H.block))
        refine H.drop (x := row vb _ _) (by repeat (first | exact .here _ _ | apply Pull.there)) ?_
        refine H.front (x := loreH _ lb _ _) (by repeat (first | exact .here _ _ | apply Pull.there)) ?_
        refine H.front (x := loreH _ la _ _) (by repeat (first | exact .here _ _ | apply Pull.there)) ?_
        refine H.loop (ι := Nat × Frag × List MV × (Nat → Int)) (fun s => [(18, .int .i64 (s.1 : Int)), (9, .pointer (some ⟨wb, 0, none⟩)), (10, .pointer (some ⟨la, 0, none⟩)), (12, .pointer (some ⟨lb, 0, none⟩)), (17, .int .i64 (1 + (pt : Int)))]) (fun s => s.2.1)
          (fun s => loreH s.2.1 la n LA :: loreH s.2.1 lb n s.2.2.1 :: row wb 34 (worldC kb n ap l.length ac) :: F)
          (fun s => s.1 ≤ l.length + 1 ∧ Le f1 s.2.1 ∧ Knw W.all s.2.2.2 ∧ strm (s.2.2.1.map MV.m) = uptoS W.all s.2.2.2 ∧ s.2.2.1.length + (unk s.2.2.2 W.all).length = W.all.length ∧ (unk s.2.2.2 W.all).length ≤ W.all.length - s.1) (fun s => l.length + 1 - s.1)
          (0, e, LB, k) ⟨Nat.zero_le _, hle, hk, hB, hBtot, by show (unk k W.all).length ≤ W.all.length - 0; omega⟩ ⟨rfl, rfl, rfl, rfl, rfl, trivial⟩ rfl rfl fun s hs => ?_
        clear hB hBl hBtot hBl2 hle hk
        obtain ⟨rd, e, LB, u⟩ := s
        obtain ⟨hrd, hle, hu, hB, hBtot, hleft⟩ : rd ≤ l.length + 1 ∧ Le f1 e ∧ Knw W.all u ∧ strm (LB.map MV.m) = uptoS W.all u ∧ LB.length + (unk u W.all).length = W.all.length ∧ (unk u W.all).length ≤ W.all.length - rd := hs
        show H _ _ _ [(18, .int .i64 (rd : Int)), _, _, _, _] e (loreH e la n LA :: loreH e lb n LB :: _ :: F) _
        have hkS : knownS (strm (LB.map MV.m)) = u := knownS_u hu hB
        have hknown : ∀ G, Fn Tryz.prog 20 [.pointer (some ⟨lb, 0, none⟩)] e (loreH e lb n LB :: G) (Ret (.agg (v11 u).toArray) e (loreH e lb n LB :: G)) := fun G => by
          have h := known_fn e G (fl := e) (lb := lb) (n := n) (l := LB)
          rw [hkS] at h
          exact h
        by_cases hlt : rd ≤ l.length
        · repeat (first | ((first | apply H.move | apply H.assign | apply H.nilCheck | apply H.len_slice | apply H.len_string | apply H.cap_slice); (iterate 3 exact rfl)) | (apply H.fieldAddr; (iterate 3 exact rfl); exact inferInstance; exact rfl) | (apply H.load1; (iterate 3 exact rfl); apply Rd1.ofRow; (repeat (first | exact .here _ _ _ | apply At.there)); (iterate 2 exact rfl)) | (first | apply H.seq | apply H.region | apply H.nil | apply H.then_normal) | ((first | apply H.cmp | apply H.build); (iterate 5 exact rfl)) | ((first | (apply H.ar; (iterate 4 exact rfl)) | (apply H.conv_int; (iterate 2 exact rfl))); (first | (with_reducible apply wr_i64_s1; omega) | (with_reducible apply wr_i64_n1; omega) | (with_reducible apply wr_i64_nn; omega) | (with_reducible apply wr_i64; omega) | (with_reducible apply wr_u64; omega) | (with_reducible apply wr_u8; omega) | (with_reducible apply wr_u16; omega) | rfl); exact rfl) | (apply H.pass; (iterate 2 exact rfl)) | (apply H.pass0; exact rfl) | (apply H.pickT; (iterate 4 exact rfl)) | ((first | apply H.pickF | apply H.extract | apply H.not | apply H.makeFunc); (iterate 4 exact rfl)) | ((first | apply H.ptrNil | apply H.sliceNil); (iterate 5 exact rfl)) | (apply H.store1; (iterate 4 exact rfl); (repeat (first | exact .here _ _ _ | apply At.there)); (repeat (first | exact .here _ _ _ | apply SetV.there))) | (apply H.cond_true; exact rfl) | (apply H.cond_false; exact rfl) | (first | apply H.skip | apply H.ret | apply H.then_ret | apply H.then_exit | apply H.exit | apply H.block | apply H.in_normal | apply H.in_ret | apply H.in_hit | apply H.loop_ret | apply H.loop_exit) | (apply H.in_miss; exact rfl) | (apply H.gyes; (iterate 3 exact rfl); (first | assumption | omega)) | (apply H.gno; (iterate 3 exact rfl); (first | assumption | omega)) | (apply H.cond_yes; exact rfl; (first | assumption | omega)) | (apply H.cond_no; exact rfl; (first | assumption | omega)) | ((first | apply H.gtrue); (iterate 3 exact rfl); assumption) | (apply H.gfalse; (iterate 3 exact rfl); assumption) | (apply H.cond_t; exact rfl; assumption) | (apply H.cond_f; exact rfl; assumption))
          refine H.front (x := loreH _ lb _ _) (by repeat (first | exact .here _ _ | apply Pull.there)) ?_
          refine H.callR rfl rfl rfl (hknown _) ?_
          repeat (((apply H.move); (iterate 3 exact rfl)))
          refine H.front (x := loreH _ la _ _) (by repeat (first | exact .here _ _ | apply Pull.there)) ?_
          refine H.call (R := SinceP e _ (sinceM u (1 + (pt : Int)) W.all)) rfl rfl rfl (by have h := lsince_fn e (loreH e lb n LB :: row wb 34 (worldC kb n ap l.length ac) :: F) (Le.refl e) (lb := la) (n := n) (l := LA) (v := u) (most := 1 + (pt : Int)); rw [hA] at h; exact h) fun v f' A' hr => ?_
          obtain ⟨g2, rp, rc, R, rfl, hR, hRg, hd2, rfl, rfl⟩ := hr
          have hle2 := hle.trans (Le.un e g2)
          have hup2 := Le.un e g2
          generalize un e g2 = e2 at hle2 hup2 hRg ⊢
          refine H.freeze (.here _ _) fun g3 hg3 hd3 => ?_
          have hRat : ListAt (un e2 g3) rp 121 MV.vals R := (slc_listAt MV.len hg3).mono (Le.right hd3)
          have hle3 := hle2.trans (Le.un e2 g3)
          have hup3 := hup2.trans (Le.un e2 g3)
          have hRg3 : ∀ y ∈ R, y.Good (un e2 g3) := fun y hy => (hRg y hy).mono (Le.un e2 g3)
          generalize un e2 g3 = e3 at hRat hle3 hup3 hRg3 ⊢
          refine H.imp (lore_up hup3) ?_
          refine H.front (x := loreH _ lb _ _) (by repeat (first | exact .here _ _ | apply Pull.there)) ?_
          refine H.imp (lore_up hup3) ?_
          have hTn : (1 + (pt : Int)).toNat = pt + 1 := by omega
          unfold sinceM at hR
          rw [hTn] at hR
          have hRlen : R.length = min (pt + 1) (unk u W.all).length := by
            have := congrArg List.length hR
            rwa [List.length_map, List.length_take] at this
          have hT : unk u W.all = R.map MV.m ++ (unk u W.all).drop (pt + 1) := by rw [hR, List.take_append_drop]
          have hrest : ((unk u W.all).drop (pt + 1)).length = (unk u W.all).length - (pt + 1) := List.length_drop ..
          generalize (unk u W.all).drop (pt + 1) = rest at hT hrest
          have hAft := after_ok hinv.ok (R.map MV.m) rest hu hT
          clear hknown hRg hg3 hd3 hd2
          repeat (first | ((first | apply H.move | apply H.assign | apply H.len_slice); (iterate 3 exact rfl)) | (first | apply H.seq | apply H.region | apply H.nil | apply H.then_normal) | ((apply H.cmp); (iterate 5 exact rfl)) | (first | apply H.skip | apply H.block) | (apply H.cond_no; exact rfl; (omega)))
          refine H.front (x := loreH _ la _ _) (by repeat (first | exact .here _ _ | apply Pull.there)) ?_
          refine H.loop (ι := Nat × Frag × List MV) (fun s => [(20, .int .i64 (s.1 : Int)), (19, .slice rp R.length rc), (18, .int .i64 (rd : Int)), (9, .pointer (some ⟨wb, 0, none⟩)), (10, .pointer (some ⟨la, 0, none⟩)), (12, .pointer (some ⟨lb, 0, none⟩)), (17, .int .i64 (1 + (pt : Int)))]) (fun s => s.2.1)
            (fun s => loreH s.2.1 la n LA :: loreH s.2.1 lb n s.2.2 :: row wb 34 (worldC kb n ap l.length ac) :: F)
            (fun s => s.1 ≤ R.length ∧ Le e3 s.2.1 ∧ strm (s.2.2.map MV.m) = uptoS W.all (afterU u ((R.map MV.m).take s.1)) ∧ s.2.2.length = LB.length + s.1) (fun s => R.length - s.1)
            (0, e3, LB) ⟨Nat.zero_le _, Le.refl e3, hB, rfl⟩ ⟨rfl, rfl, rfl, rfl, rfl, rfl, rfl, trivial⟩ rfl rfl fun s hs => ?_
          obtain ⟨j, e4, LC⟩ := s
          obtain ⟨hj, hle4, hC, hCl⟩ : j ≤ R.length ∧ Le e3 e4 ∧ strm (LC.map MV.m) = uptoS W.all (afterU u ((R.map MV.m).take j)) ∧ LC.length = LB.length + j := hs
          show H _ _ _ [(20, .int .i64 (j : Int)), _, _, _, _, _, _] e4 (loreH e4 la n LA :: loreH e4 lb n LC :: _ :: F) _
          by_cases hjl : j < R.length
          · obtain ⟨rb, roff, rfl, rdR⟩ := hRat.all MV.len (by decide) (by omega)
            obtain ⟨y, hy⟩ : ∃ y, R[j]? = some y := ⟨_, List.getElem?_eq_getElem hjl⟩
            have hyT : (R.map MV.m)[j]? = some y.m := by rw [List.getElem?_map, hy]; rfl
            have hyg := (hRg3 y (List.mem_of_getElem? hy)).mono hle4
            obtain ⟨hc0, hadd, hkw, hdep⟩ := tells_mid hinv.ok hu hT hyT hC
            repeat (first | ((first | apply H.move | apply H.len_slice); (iterate 3 exact rfl)) | (first | apply H.seq | apply H.region | apply H.nil | apply H.then_normal) | ((apply H.cmp); (iterate 5 exact rfl)) | (first | apply H.skip | apply H.block) | (apply H.cond_yes; exact rfl; (omega)))
            refine H.index_slice (i := j) rfl rfl rfl rfl hjl rfl ?_
            refine H.loadN (ls := y.vals) rfl rfl rfl (rdR _ _ _ _ hle4 hy) rfl rfl ?_
            refine H.front (x := loreH _ lb _ _) (by repeat (first | exact .here _ _ | apply Pull.there)) ?_
            refine H.call (R := AddP e4 _ lb n LC y.m) rfl rfl rfl (ladd_fn e4 _ (tab_mono htab (le1.trans (hle3.trans hle4))) (Le.refl e4) hyg (by omega)) fun v f' A' hr => ?_
            obtain ⟨g5, q5, c5, rfl, hd5, rfl, rfl⟩ := hr
            rw [hc0, if_pos rfl]
            have hle5 := hle4.trans (Le.un e4 g5)
            have hup5 := Le.un e4 g5
            generalize un e4 g5 = e5 at hle5 hup5 ⊢
            have hD : strm ((LC ++ [(⟨y.m, q5, c5⟩ : MV)]).map MV.m) = uptoS W.all (afterU u ((R.map MV.m).take (j + 1))) := by
              rw [List.map_append, show [(⟨y.m, q5, c5⟩ : MV)].map MV.m = [y.m] from rfl, strm_snoc]; exact hadd
            have hDl : (LC ++ [(⟨y.m, q5, c5⟩ : MV)]).length = LB.length + (j + 1) := by rw [List.length_append, hCl]; rfl
            generalize LC ++ [(⟨y.m, q5, c5⟩ : MV)] = LD at hD hDl ⊢
            refine H.front (x := loreH _ la _ _) (by repeat (first | exact .here _ _ | apply Pull.there)) ?_
            refine H.imp (lore_up hup5) ?_
            have hkD : knownS (strm (LD.map MV.m)) = afterU u ((R.map MV.m).take (j + 1)) := knownS_u hkw hD
            have hknown : ∀ G, Fn Tryz.prog 20 [.pointer (some ⟨lb, 0, none⟩)] e5 (loreH e5 lb n LD :: G) (Ret (.agg (v11 (afterU u ((R.map MV.m).take (j + 1)))).toArray) e5 (loreH e5 lb n LD :: G)) := fun G => by
              have h := known_fn e5 G (fl := e5) (lb := lb) (n := n) (l := LD)
              rw [hkD] at h
              exact h
            clear hadd hkw hC hc0 hkD
            have hrdd : ∀ A, Rd e5 A rb (roff + j * 121 + 2) (v11 y.m.deps) := fun A => by
              have h1 := rdR e5 A j y hle5 hy
              have e : y.vals = [.int .i64 y.m.origin, .int .u64 y.m.number] ++ v11 y.m.deps ++ (y.m.body.vals y.qp y.qc ++ b32 y.m.tag) := by unfold MV.vals Msg.vals; simp only [List.append_assoc]
              rw [e] at h1
              exact h1.sub rfl
            generalize hvj : afterU u ((R.map MV.m).take (j + 1)) = vj at hdep hknown
            repeat (first | ((apply H.move); (iterate 3 exact rfl)) | (first | apply H.seq | apply H.region | apply H.nil | apply H.then_normal) | ((apply H.cmp); (iterate 5 exact rfl)) | (apply H.cond_false; exact rfl) | (apply H.skip))
            refine H.front (x := loreH _ lb _ _) (by repeat (first | exact .here _ _ | apply Pull.there)) ?_
            refine H.callR rfl rfl rfl (hknown _) ?_
            refine H.alloc (ls := v11 fun _ => 0) rfl rfl rfl fun ub => ?_
            refine H.storeN (ls := v11 fun _ => 0) (vs := v11 vj) (ls' := v11 vj) rfl rfl rfl (allOne_mem rfl) rfl rfl (Nat.le_refl 11) (.here _ _ _) ?_
            repeat (first | ((apply H.assign); (iterate 3 exact rfl)) | (first | apply H.seq | apply H.region | apply H.nil | apply H.then_normal) | (apply H.block))
            refine H.loop (ι := Nat) (fun t => [(22, .int .i64 (t : Int)), (21, .pointer (some ⟨ub, 0, none⟩)), (20, .int .i64 (j : Int)), (19, .slice (some ⟨rb, roff, none⟩) R.length rc), (18, .int .i64 (rd : Int)), (9, .pointer (some ⟨wb, 0, none⟩)), (10, .pointer (some ⟨la, 0, none⟩)), (12, .pointer (some ⟨lb, 0, none⟩)), (17, .int .i64 (1 + (pt : Int)))]) (fun _ => e5)
              (fun _ => row ub 37 (v11 vj) :: loreH e5 lb n LD :: loreH e5 la n LA :: row wb 34 (worldC kb n ap l.length ac) :: F)
              (fun t => t ≤ 11) (fun t => 11 - t) 0 (Nat.zero_le _) ⟨rfl, rfl, rfl, rfl, rfl, rfl, rfl, rfl, rfl, trivial⟩ rfl rfl fun t ht => ?_
            have ht : t ≤ 11 := ht
            by_cases ht11 : t < 11
            · have hdt := hdep t ht11
              repeat (first | ((apply H.move); (iterate 3 exact rfl)) | (first | apply H.seq | apply H.region | apply H.nil | apply H.then_normal) | ((apply H.cmp); (iterate 5 exact rfl)) | (first | apply H.skip | apply H.block) | (apply H.cond_yes; exact rfl; (omega)))
              refine H.drawQ (by kernel_rfl) (by decide +kernel) (by first | exact blind_fn | exact blind_seq blind_fn | exact blind_seq (blind_seq blind_fn) | (repeat (first | exact blind_fn | refine blind_seq ?_ | refine blind_block ?_ | refine blind_loop ?_))) ?_
              repeat (((apply HQ.move); (iterate 3 exact rfl)))
              refine HQ.index_slice (i := j) rfl rfl rfl rfl hjl rfl ?_
              repeat ((apply HQ.fieldAddr; (iterate 3 exact rfl); exact inferInstance; exact rfl))
              refine HQ.index_array (i := t) rfl rfl rfl rfl ht11 rfl ?_
              refine HQ.load1 rfl rfl rfl (Rd1.of (hrdd _) (by rw [Nat.mul_one]; exact v11_get y.m.deps ht11)) rfl ?_
              repeat (((apply HQ.move); (iterate 3 exact rfl)))
              refine HQ.index_array (i := t) rfl rfl rfl rfl ht11 rfl ?_
              refine HQ.load1 rfl rfl rfl (Rd1.of (Rd.ofRow (.here _ _ _)) (by rw [Nat.mul_one]; exact v11_get vj ht11)) rfl ?_
              repeat (first | ((apply HQ.done0); exact rfl) | ((apply HQ.cmp); (iterate 5 exact rfl)))
              repeat (first | ((first | apply H.move | apply H.assign); (iterate 3 exact rfl)) | (first | apply H.region | apply H.nil | apply H.then_normal) | ((apply H.ar; (iterate 4 exact rfl)); (with_reducible apply wr_i64_n1; omega); exact rfl) | (first | apply H.skip | apply H.in_normal) | (apply H.cond_no; exact rfl; (omega)))
              exact H.again (t + 1) (by show t + 1 ≤ 11; omega) (by show 11 - (t + 1) < 11 - t; omega) ⟨rfl, rfl, rfl, rfl, rfl, rfl, rfl, rfl, rfl, trivial⟩ rfl rfl
            · repeat (first | ((first | apply H.move | apply H.assign | apply H.nilCheck | apply H.len_slice | apply H.len_string | apply H.cap_slice); (iterate 3 exact rfl)) | (apply H.fieldAddr; (iterate 3 exact rfl); exact inferInstance; exact rfl) | (apply H.load1; (iterate 3 exact rfl); apply Rd1.ofRow; (repeat (first | exact .here _ _ _ | apply At.there)); (iterate 2 exact rfl)) | (first | apply H.seq | apply H.region | apply H.nil | apply H.then_normal) | ((first | apply H.cmp | apply H.build); (iterate 5 exact rfl)) | ((first | (apply H.ar; (iterate 4 exact rfl)) | (apply H.conv_int; (iterate 2 exact rfl))); (first | (with_reducible apply wr_i64_s1; omega) | (with_reducible apply wr_i64_n1; omega) | (with_reducible apply wr_i64_nn; omega) | (with_reducible apply wr_i64; omega) | (with_reducible apply wr_u64; omega) | (with_reducible apply wr_u8; omega) | (with_reducible apply wr_u16; omega) | rfl); exact rfl) | (apply H.pass; (iterate 2 exact rfl)) | (apply H.pass0; exact rfl) | (apply H.pickT; (iterate 4 exact rfl)) | ((first | apply H.pickF | apply H.extract | apply H.not | apply H.makeFunc); (iterate 4 exact rfl)) | ((first | apply H.ptrNil | apply H.sliceNil); (iterate 5 exact rfl)) | (apply H.store1; (iterate 4 exact rfl); (repeat (first | exact .here _ _ _ | apply At.there)); (repeat (first | exact .here _ _ _ | apply SetV.there))) | (apply H.cond_true; exact rfl) | (apply H.cond_false; exact rfl) | (first | apply H.skip | apply H.ret | apply H.then_ret | apply H.then_exit | apply H.exit | apply H.block | apply H.in_normal | apply H.in_ret | apply H.in_hit | apply H.loop_ret | apply H.loop_exit) | (apply H.in_miss; exact rfl) | (apply H.gyes; (iterate 3 exact rfl); (first | assumption | omega)) | (apply H.gno; (iterate 3 exact rfl); (first | assumption | omega)) | (apply H.cond_yes; exact rfl; (first | assumption | omega)) | (apply H.cond_no; exact rfl; (first | assumption | omega)) | ((first | apply H.gtrue); (iterate 3 exact rfl); assumption) | (apply H.gfalse; (iterate 3 exact rfl); assumption) | (apply H.cond_t; exact rfl; assumption) | (apply H.cond_f; exact rfl; assumption))
              refine H.drop (.here _ _) ?_
              refine H.front (x := loreH _ la _ _) (by repeat (first | exact .here _ _ | apply Pull.there)) ?_
              exact H.again (j + 1, e5, LD) ⟨by show j + 1 ≤ R.length; omega, hle5, by show strm (LD.map MV.m) = uptoS W.all (afterU u ((R.map MV.m).take (j + 1))); exact hD, hDl⟩ (by show R.length - (j + 1) < R.length - j; omega) ⟨rfl, rfl, rfl, rfl, rfl, rfl, rfl, trivial⟩ rfl rfl
          · have hjR : j = R.length := by omega
            have e9 : (R.map MV.m).take j = R.map MV.m := by rw [hjR]; exact List.take_of_length_le (by rw [List.length_map]; exact Nat.le_refl _)
            rw [e9] at hC
            repeat (first | ((first | apply H.move | apply H.assign | apply H.len_slice); (iterate 3 exact rfl)) | (first | apply H.seq | apply H.region | apply H.nil | apply H.then_normal) | ((apply H.cmp); (iterate 5 exact rfl)) | ((apply H.ar; (iterate 4 exact rfl)); (with_reducible apply wr_i64_n1; omega); exact rfl) | (first | apply H.then_exit | apply H.exit | apply H.in_normal | apply H.in_hit | apply H.loop_exit) | (apply H.cond_no; exact rfl; (omega)))
            exact H.again (rd + 1, e4, LC, afterU u (R.map MV.m)) ⟨by show rd + 1 ≤ l.length + 1; omega, hle3.trans hle4, hAft.1, hC, by show LC.length + (unk (afterU u (R.map MV.m)) W.all).length = _; rw [hAft.2]; omega, by show (unk (afterU u (R.map MV.m)) W.all).length ≤ W.all.length - (rd + 1); rw [hAft.2]; omega⟩ (by show l.length + 1 - (rd + 1) < l.length + 1 - rd; omega) ⟨rfl, rfl, rfl, rfl, rfl, trivial⟩ rfl rfl
        · have hrd2 : rd = l.length + 1 := by omega
          have hun : unk u W.all = [] := List.eq_nil_of_length_eq_zero (by omega)
          have huc := fun i => unk_nil hinv.ok hu hun i
          rw [hun, List.length_nil, Nat.add_zero] at hBtot
          have hkA : v11 (knownS (strm (LA.map MV.m))) = v11 u := by
            refine v11_congr fun i _ => ?_
            rw [hA, huc i]; rfl
          repeat (first | ((first | apply H.move | apply H.nilCheck | apply H.len_slice); (iterate 3 exact rfl)) | (apply H.fieldAddr; (iterate 3 exact rfl); exact inferInstance; exact rfl) | (apply H.load1; (iterate 3 exact rfl); apply Rd1.ofRow; (repeat (first | exact .here _ _ _ | apply At.there)); (iterate 2 exact rfl)) | (first | apply H.seq | apply H.region | apply H.nil | apply H.then_normal) | ((apply H.cmp); (iterate 5 exact rfl)) | (first | apply H.then_exit | apply H.exit | apply H.in_hit | apply H.loop_exit) | (apply H.cond_no; exact rfl; (omega)))
          refine H.front (x := loreH _ lb _ _) (by repeat (first | exact .here _ _ | apply Pull.there)) ?_
          refine H.callR rfl rfl rfl (hknown _) ?_
          repeat (((apply H.move); (iterate 3 exact rfl)))
          refine H.front (x := loreH _ la _ _) (by repeat (first | exact .here _ _ | apply Pull.there)) ?_
          refine H.callR rfl rfl rfl (known_fn e _) ?_
          refine H.aggEq (xs := v11 u) (ys := v11 (knownS (strm (LA.map MV.m)))) (D := 4) (b := true) rfl rfl rfl rfl (by kernel_rfl) (by kernel_rfl) (by kernel_rfl) (by kernel_rfl) (by decide) (by rw [hkA]; exact eqC_refl rfl) rfl ?_
          repeat (((apply H.move); (iterate 3 exact rfl)))
          refine H.front (x := loreH _ lb _ _) (by repeat (first | exact .here _ _ | apply Pull.there)) ?_
          refine H.callR rfl rfl rfl (llen_fn e _) ?_
          repeat (((apply H.move); (iterate 3 exact rfl)))
          refine H.front (x := loreH _ la _ _) (by repeat (first | exact .here _ _ | apply Pull.there)) ?_
          refine H.callR rfl rfl rfl (llen_fn e _) ?_
          repeat (first | ((apply H.move); (iterate 3 exact rfl)) | ((apply H.cmp); (iterate 5 exact rfl)) | (apply H.pickT; (iterate 4 exact rfl)) | (apply H.gyes; (iterate 3 exact rfl); (omega)))
          refine H.callR rfl rfl rfl (works12_fn e _ (tab_mono htab (le1.trans hle))) ?_
          repeat (first | ((apply H.assign); (iterate 3 exact rfl)) | (first | apply H.nil | apply H.then_normal) | (apply H.pickT; (iterate 4 exact rfl)) | (apply H.ret))
          refine H.weakL (le1.trans hle) ?_
          refine H.drop (.here _ _) ?_
          refine H.drop (.here _ _) ?_
          refine H.drop (.here _ _) ?_
          exact H.ret1 rfl rfl (fun _ h => h) ⟨rfl, rfl, rfl⟩
    · skip
      refine Fn.enter Tryz.func3 rfl Tryz.ntmps3 rfl (L := [(0, _), (1, _), (2, _), (3, _)]) ⟨rfl, rfl, rfl, rfl, trivial⟩ fun base => ?_
      repeat (first | ((first | apply H.move | apply H.assign); (iterate 3 exact rfl)) | (first | apply H.seq | apply H.region | apply H.nil | apply H.then_normal))
      refine H.callR rfl rfl rfl hfew ?_
      refine H.not (b := _) (c := _) rfl rfl rfl rfl ?_
      repeat (first | ((first | apply H.move | apply H.len_slice); (iterate 3 exact rfl)) | (first | apply H.seq | apply H.region | apply H.nil | apply H.then_normal) | ((apply H.cmp); (iterate 5 exact rfl)) | ((apply H.pickF); (iterate 4 exact rfl)) | (apply H.cond_yes; exact rfl; (omega)))
      refine H.callR rfl rfl rfl (works12_fn f _ htab) ?_
      repeat (first | ((apply H.assign); (iterate 3 exact rfl)) | (first | apply H.nil | apply H.then_normal) | (first | apply H.ret | apply H.then_ret))
      exact H.ret1 rfl rfl (fun _ h => h) ⟨rfl, rfl, rfl⟩
end
end Go.Proofs.YtoigpgdmignaoaaGreatDoor

/- Layer 12: acts that a law is given. -/
namespace Go.Proofs.YtoigpgdmignaoaaGreatDoor
set_option linter.unusedSectionVars false
set_option linter.unusedSimpArgs false
set_option linter.unusedVariables false
open Go Go.ChangeShapes Go.WideShapes Go.RowKit Go.Deep
theorem Reads.bool {P : Program} {W : World} {t : TypeId} {cs : List Value} (ht : P.underlying t = some .bool) (h : Reads P W t cs) : ∃ b, cs = [.bool b] := by
  obtain ⟨H', enc, b, sp, hd, n, x, h⟩ := h
  obtain ⟨z, h1, _⟩ := DataW.trod_bool ht h
  exact ⟨z, h1⟩
theorem Reads.u8 {W : World} {cs : List Value} (h : Reads Tryz.prog W 5 cs) : ∃ x : UInt8, cs = [.int .u8 (x.toNat : Nat)] := by
  obtain ⟨x, _, e⟩ := reads_byte h
  exact ⟨x, e⟩
set_option maxHeartbeats 4000000 in
theorem reads_a12 {W : World} {cs : List Value} (h : Reads Tryz.prog W 113 cs) : ∃ x : A12, x.Has (memOf W) ∧ cs = x.vals := by
  obtain ⟨ps, rfl, hh⟩ := h.parts Tryz.underlying113 (by kernel_rfl)
  have h : AllReads Tryz.prog W [5, 5, 4, 5, 5, 5, 5, 55] ps := hh
  match ps, h with
  | [p0, p1, p2, p3, p4, p5, p6, p7], ⟨r0, r1, r2, r3, r4, r5, r6, r7, _⟩ =>
    obtain ⟨z0, rfl⟩ := r0.u8
    obtain ⟨z1, rfl⟩ := r1.u8
    obtain ⟨b2, rfl⟩ := r2.bool Tryz.underlying4
    obtain ⟨z3, rfl⟩ := r3.u8
    obtain ⟨z4, rfl⟩ := r4.u8
    obtain ⟨z5, rfl⟩ := r5.u8
    obtain ⟨z6, rfl⟩ := r6.u8
    obtain ⟨p, c, xs, rfl, _, _, _, hat⟩ := r7.list (sz := 1) Tryz.underlying55 (by kernel_rfl) (by decide) fun cs => reads_byte
    exact ⟨⟨z0, z1, b2, z3, z4, z5, z6, xs, p, c⟩, listAt_bat hat, rfl⟩
theorem ArgOk.u8 {W : World} {v : Value} (h : ArgOk Tryz.prog W 5 v) : ∃ x : UInt8, v = .int .u8 (x.toNat : Nat) := by
  obtain ⟨z, rfl, hz⟩ := h.int Tryz.underlying5
  exact ⟨UInt8.ofNat z.toNat, by rw [u8_back hz]⟩
theorem ArgOk.acts {W : World} {v : Value} (h : ArgOk Tryz.prog W 22 v) : ∃ (p : Option Addr) (c : Nat) (xs : List A12), v = .slice p xs.length c ∧ xs.length ≤ 9223372036854775807 ∧ (∀ x ∈ xs, x.Has (memOf W)) ∧ ListAt (memOf W) p 8 A12.vals xs := by
  obtain ⟨p, c, xs, rfl, h1, h2, hq, hat⟩ := h.list (sz := 8) Tryz.underlying22 (by kernel_rfl) (by decide) fun cs => reads_a12
  exact ⟨p, c, xs, rfl, by have : maxLen ≤ 9223372036854775807 := by decide
                           omega, hq, hat⟩
end Go.Proofs.YtoigpgdmignaoaaGreatDoor

/- Rows whose laws read the table of sha: what is given of the program, and what the row's condition says. -/
namespace Go.Proofs.YtoigpgdmignaoaaGreatDoor
set_option linter.unusedSectionVars false
set_option linter.unusedSimpArgs false
set_option linter.unusedVariables false
open Go Go.ChangeShapes Go.WideShapes Go.RowKit Go.Deep
theorem Tryz.own : ownKnob Tryz.prog.godebug = none := by kernel_rfl
theorem Tryz.laidOut : laidOutB Tryz.prog = true := by kernel_rfl
abbrev laidL : List (String × DataW Unit) := [("ratchet/sha.table", Rows.laid_ratchet_sha_table)]
theorem door_met (os : Os) (args : Array Value) : laidMetH Tryz.prog laidL ((World.doorLaid Tryz.prog 400 os).forCall (fun _ _ => 0) ⟨#[], args, []⟩).memory :=
  laidMetH_of_parts3 (fuel := 8) (laidMet_of_run' 8 (by kernel_rfl) (by kernel_rfl)) (by kernel_rfl) (by kernel_rfl)
theorem tab_eq : (Rows.laid_ratchet_sha_table : DataW Unit) = .agg ((Sha.k.map fun x => ((x.toNat : Nat) : Int)).map fun z => .lit (.int .u32 z)) := by kernel_rfl
theorem tab_of {W : World} (h : laidMetH Tryz.prog laidL W) : TabAt (memOf W) := by
  have h2 : laidMetH Tryz.prog [("ratchet/sha.table", .agg ((Sha.k.map fun x => ((x.toNat : Nat) : Int)).map fun z => .lit (.int .u32 z)))] W := by rw [← tab_eq]; exact h
  exact laid_ints h2 (by kernel_rfl) (by kernel_rfl) (t := 252) (e := 222) Tryz.underlying252 Tryz.underlying222 (by kernel_rfl)
end Go.Proofs.YtoigpgdmignaoaaGreatDoor
