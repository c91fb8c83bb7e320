/- Parts of the proof, one behind the other, each under its own heading. No conditions. -/
import Derived.Test.YtoigpgdmignaoaaGreatDoorZ07
import Derived.Test.YtoigpgdmignaoaaGreatDoorRows
import Derived.Test.YtoigpgdmignaoaaGreatDoorCards
import Derived.Test.YtoigpgdmignaoaaGreatDoorTie
/- Layer 12: LoreForks. Condition: the table of the standard stands in the fragment. -/
namespace Go.Proofs.YtoigpgdmignaoaaGreatDoor
set_option linter.unusedSectionVars false
set_option linter.unusedSimpArgs false
set_option linter.unusedVariables false
open Go
/-- A list that is not empty stands at one place. -/
theorem ListAt.all {α : Type} {f : Frag} {p : Option Addr} {sz : Nat} {vals : α → List Value} {l : List α} (hv : ∀ x, (vals x).length = sz) (h1 : 0 < sz) (h : ListAt f p sz vals l) (h0 : 0 < l.length) :
    ∃ b off, p = some ⟨b, off, none⟩ ∧ ∀ (g : Frag) A i x, Le f g → l[i]? = some x → Rd g A b (off + i * sz) (vals x) := by
  obtain ⟨x0, hx0⟩ : ∃ x0, l[0]? = some x0 := ⟨_, List.getElem?_eq_getElem h0⟩
  obtain ⟨b, off, cs, T, fr, rfl, hfb, _⟩ := h 0 x0 hx0
  refine ⟨b, off, rfl, fun g A i x hle hx => ?_⟩
  obtain ⟨b', off', cs', T', fr', e, hfb', hcs'⟩ := h i x hx
  cases e
  exact Rd.imm (hle _ _ hfb') hcs'
theorem fewz_odd {n8 : UInt8} {n : Nat} (h : n = 3 + 2 * (n8.toNat % 5)) : fewZ (n : Int) := by
  refine ⟨by omega, by omega, ?_⟩
  exact tmod_nat (a := n) (b := 2) (r := 1) (by omega)
theorem few12_all {l : List A12} (h : few12 l = true) : l.length ≤ 100 ∧ ∀ x ∈ l, x.q.length ≤ 20 := by
  unfold few12 at h
  simp only [Bool.and_eq_true, decide_eq_true_eq, List.all_eq_true] at h
  exact h
def bodO (k : Int) (c : UInt8) : Bod := ⟨6, 0, k, Req.zero, [], dig0 c⟩
theorem bodO_own (k : Int) (c : UInt8) : Bod.eqB (bodO k c).own (bodO k c) = true := by
  have e : (bodO k c).own = bodO k c := rfl
  rw [e]
  exact Bod.eqB_refl _
theorem bodO_may {k : Int} (c : UInt8) (hk : 1 ≤ k ∧ k ≤ 4611686018427387904) : (bodO k c).may = true := by
  unfold Bod.may
  have e2 : decide ((bodO k c).view < 1073741824) = true := rfl
  have e3 : (bodO k c).mayK (bodO k c).kind.toNat = true := decide_eq_true hk
  rw [bodO_own, e2, e3]
  rfl
theorem bodO_ok {k : Int} (c : UInt8) (hk : 1 ≤ k ∧ k ≤ 4611686018427387904) : (bodO k c).Ok := ⟨⟨by show (0 : Int) ≤ 0; decide, by show (0 : Int) ≤ _; decide⟩, ⟨by show 0 ≤ k; omega, by show k ≤ _; omega⟩, reqz_ok⟩
/-- The same but for the body. -/
def Msg.with (m : Msg) (b : Bod) : Msg := { m with body := b }
theorem with_may {m : Msg} {b : Bod} (hm : m.may = true) (hb : b.may = true) : (m.with b).may = true := by
  have ho : (m.with b).outer := (Msg.may_outer hm : m.outer)
  unfold Msg.may
  rw [decide_eq_true ho]
  exact hb
theorem splice_body (m : Msg) (p q : Option Addr) (c d : Nat) (b : Bod) : splice (m.vals p c) (0 + 13) (b.vals q d) = (m.with b).vals q d := by
  have h1 : m.vals p c = ([.int .i64 m.origin, .int .u64 m.number] ++ v11 m.deps) ++ (m.body.vals p c ++ b32 m.tag) := by unfold Msg.vals; simp only [List.append_assoc]
  have h2 : (m.with b).vals q d = ([.int .i64 m.origin, .int .u64 m.number] ++ v11 m.deps) ++ (b.vals q d ++ b32 m.tag) := by unfold Msg.with Msg.vals; simp only [List.append_assoc]
  rw [h1, h2]
  have l1 : ([.int .i64 m.origin, .int .u64 m.number] ++ v11 m.deps : List Value).length = 13 := rfl
  have l2 : (m.body.vals p c).length = 76 := rfl
  have l3 : (b.vals q d).length = 76 := rfl
  generalize ([.int .i64 m.origin, .int .u64 m.number] ++ v11 m.deps : List Value) = a at *
  generalize m.body.vals p c = u at *
  generalize b.vals q d = v at *
  unfold splice
  have e3 : 0 + 13 + v.length = a.length + u.length := by omega
  rw [e3, ← List.drop_drop, show 0 + 13 = a.length by omega, List.take_left, List.drop_left, List.drop_left, List.append_assoc]
/-- Where a message of a world stands. -/
theorem strm_atM {l : List Msg} {k : Nat} {y : Msg} (h : l[k]? = some y) : (strm l (orgI y))[cnt (l.take k) (orgI y)]? = some y := by
  have e := take_cons_drop h
  have h1 : strm l (orgI y) = strm (l.take k) (orgI y) ++ y :: strm (l.drop (k + 1)) (orgI y) := by
    rw [show strm l (orgI y) = strm (l.take k ++ y :: l.drop (k + 1)) (orgI y) by rw [← e]]
    unfold strm
    rw [List.filter_append, List.filter_cons, if_pos (by simp)]
  rw [h1]
  unfold cnt
  rw [List.getElem?_append_right (Nat.le_refl _), Nat.sub_self]
  rfl
theorem cnt_mono (l : List Msg) (i : Nat) {j k : Nat} (h : j ≤ k) : cnt (l.take j) i ≤ cnt (l.take k) i := by
  have e : l.take k = l.take j ++ (l.take k).drop j := by
    have := (List.take_append_drop j (l.take k)).symm
    rwa [List.take_take, Nat.min_eq_left h] at this
  rw [e, cnt_app]
  exact Nat.le_add_right _ _
/-- The second one of a number is not taken. -/
theorem fork_again {n : Nat} {all : List Msg} (hW : WOK n all) {a i : Nat} {y : Msg} (hy : all[a]? = some y) (hai : a ≤ i) (hi : i < all.length) {b : Bod} (hb : b.may = true) (hq : b.q = []) :
    chk n (strm (all.take (i + 1))) (y.with b).signed = 13 := by
  have hok := hW a y hy
  have hym : y.may = true := (fits_org hok.fits).2.2
  have hfit : fitsB n (y.with b).signed = true := by
    rw [fits_signed]
    have h := hok.fits
    unfold fitsB at h ⊢
    rw [with_may hym hb]
    simp only [Bool.and_eq_true] at h ⊢
    refine ⟨trivial, h.2.1, ?_, h.2.2.2⟩
    show b.q.all _ = true
    rw [hq]; rfl
  have hright := Msg.signed_isright (with_may hym hb)
  obtain ⟨e1, e2, _, _⟩ := (y.with b).signed_parts
  have horg : orgI (y.with b).signed = orgI y := by unfold orgI; rw [e1]; rfl
  have hnum : (y.with b).signed.number = y.number := e2
  unfold chk
  rw [if_neg (by rw [hfit]; decide), if_neg (by rw [hright]; decide), horg, hnum, if_pos]
  rw [hok.num]
  have h1 : cnt (all.take (a + 1)) (orgI y) = cnt (all.take a) (orgI y) + 1 := by rw [take_snoc hy, cnt_snoc, if_pos rfl]
  have h2 := cnt_mono all (orgI y) (show a + 1 ≤ i + 1 by omega)
  unfold cnt at h1 h2 ⊢
  omega
theorem fork_get {n : Nat} {all : List Msg} (hW : WOK n all) (hL : LOK n all) {a : Nat} {y : Msg} (hy : all[a]? = some y) : getM all y.origin y.number = (y, true) := by
  have hok := hW a y hy
  have ho : y.origin = ((orgI y + 1 : Nat) : Int) := by have := hok.org; unfold orgI; omega
  have hon : orgI y < n := by have := hok.org; unfold orgI; omega
  unfold getM
  rw [hok.num, ho, hL.find hon, strm_atM hy]
theorem WOK.may {n : Nat} {all : List Msg} (hW : WOK n all) {a : Nat} {y : Msg} (hy : all[a]? = some y) : y.may = true := (fits_org (hW a y hy).fits).2.2
/-- A world's messages are taken, so far. -/
theorem WOK.next {n : Nat} {all : List Msg} (hW : WOK n all) {i : Nat} {y : Msg} (hy : all[i]? = some y) : chk n (strm (all.take i)) y = 0 := (hW i y hy).chk
section
variable (f : Frag) (F : List HP)
set_option maxRecDepth 20000 in
set_option maxHeartbeats 3200000 in
theorem forks_fn (htab : TabAt f) {n8 : UInt8} {p : Option Addr} {c : Nat} {xs : List A12} (hat : ListAt f p 8 A12.vals xs) (hh : ∀ x ∈ xs, x.Has f) (hxl : xs.length ≤ 9223372036854775807) (pick key : UInt8) :
    Fn Tryz.prog 7 [.int .u8 (n8.toNat : Nat), .slice p xs.length c, .int .u8 (pick.toNat : Nat), .int .u8 (key.toNat : Nat)] f F (Ret (.bool true) f F) := by
  have hfew := few12_fn f F (c := c) hat hxl
  cases hf : few12 xs with
  | false =>
    rw [hf] at hfew
    refine Fn.enter Tryz.func7 rfl Tryz.ntmps7 rfl (L := [(0, _), (1, _), (2, _), (3, _)]) ⟨rfl, rfl, rfl, rfl, trivial⟩ fun base => ?_
    repeat (first | ((first | apply H.move | apply H.assign); (iterate 3 exact rfl)) | (first | apply H.seq | apply H.region | apply H.nil | apply H.then_normal))
    refine H.callR rfl rfl rfl hfew ?_
    refine H.not (b := _) (c := _) rfl rfl rfl rfl ?_
    repeat (first | ((first | apply H.move | apply H.len_slice); (iterate 3 exact rfl)) | (first | apply H.seq | apply H.region | apply H.nil | apply H.then_normal) | (apply H.pass; (iterate 2 exact rfl)) | (apply H.pickT; (iterate 4 exact rfl)) | (apply H.cond_true; exact rfl))
    refine H.callR rfl rfl rfl (works12_fn f _ htab) ?_
    repeat (first | ((apply H.assign); (iterate 3 exact rfl)) | (first | apply H.nil | apply H.then_normal) | (first | apply H.ret | apply H.then_ret))
    exact H.ret1 rfl rfl (fun _ h => h) ⟨rfl, rfl, rfl⟩
  | true =>
    rw [hf] at hfew
    obtain ⟨hl100, hq20⟩ := few12_all hf
    by_cases h60 : xs.length ≤ 60
    · obtain ⟨n, hn8⟩ : ∃ n, n = 3 + 2 * (n8.toNat % 5) := ⟨_, rfl⟩
      have hn3 : 3 ≤ n ∧ n ≤ 11 := by omega
      have hacts := fun G => acts_fn f G hn8 (c := c) hat (fun x hx => ⟨hh x hx, hq20 x hx⟩) hl100
      have hinv : WInv n (worldOf n xs) := by have := worldOf_inv (n := n) (by omega) hn3.2 xs xs.length; rwa [List.take_length] at this
      have hwl : (worldOf n xs).all.length ≤ 60 := by have := worldOf_len n xs xs.length; rw [List.take_length] at this; omega
      generalize worldOf n xs = W at *
      have hpick := pick.toNat_lt
      have hkey := key.toNat_lt
      refine Fn.enter Tryz.func7 rfl Tryz.ntmps7 rfl (L := [(0, _), (1, _), (2, _), (3, _)]) ⟨rfl, rfl, rfl, rfl, trivial⟩ fun base => ?_
      repeat (first | ((first | apply H.move | apply H.assign); (iterate 3 exact rfl)) | (first | apply H.seq | apply H.region | apply H.nil | apply H.then_normal))
      refine H.callR rfl rfl rfl hfew ?_
      refine H.not (b := _) (c := _) rfl rfl rfl rfl ?_
      repeat (first | ((first | apply H.move | apply H.len_slice); (iterate 3 exact rfl)) | (first | apply H.seq | apply H.region | apply H.nil | apply H.then_normal) | ((apply H.cmp); (iterate 5 exact rfl)) | ((apply H.pickF); (iterate 4 exact rfl)) | (apply H.skip) | (apply H.cond_no; exact rfl; (omega)))
      refine H.call rfl rfl rfl (hacts _) fun v f' A' hr => ?_
      obtain ⟨g, wb, kb, ap, ac, l, rfl, hd, rfl, rfl, hwat⟩ := hr
      have le1 := Le.un f g
      generalize un f g = f1 at *
      have hlm := hwat.m
      have hll : l.length = W.all.length := by rw [← hlm, List.length_map]
      clear hacts hfew
      by_cases h0 : l.length = 0
      · repeat (first | ((first | apply H.move | apply H.assign | apply H.nilCheck | apply H.len_slice | apply H.len_string | apply H.cap_slice); (iterate 3 exact rfl)) | (apply H.fieldAddr; (iterate 3 exact rfl); exact inferInstance; exact rfl) | (apply H.load1; (iterate 3 exact rfl); apply Rd1.ofRow; (repeat (first | exact .here _ _ _ | apply At.there)); (iterate 2 exact rfl)) | (first | apply H.seq | apply H.region | apply H.nil | apply H.then_normal) | ((first | apply H.cmp | apply H.build); (iterate 5 exact rfl)) | ((first | (apply H.ar; (iterate 4 exact rfl)) | (apply H.conv_int; (iterate 2 exact rfl))); (first | (with_reducible apply wr_i64_s1; omega) | (with_reducible apply wr_i64_n1; omega) | (with_reducible apply wr_i64_nn; omega) | (with_reducible apply wr_i64; omega) | (with_reducible apply wr_u64; omega) | (with_reducible apply wr_u8; omega) | (with_reducible apply wr_u16; omega) | rfl); exact rfl) | (apply H.pass; (iterate 2 exact rfl)) | (apply H.pass0; exact rfl) | (apply H.pickT; (iterate 4 exact rfl)) | ((first | apply H.pickF | apply H.extract | apply H.not | apply H.makeFunc); (iterate 4 exact rfl)) | ((first | apply H.ptrNil | apply H.sliceNil); (iterate 5 exact rfl)) | (apply H.store1; (iterate 4 exact rfl); (repeat (first | exact .here _ _ _ | apply At.there)); (repeat (first | exact .here _ _ _ | apply SetV.there))) | (apply H.cond_true; exact rfl) | (apply H.cond_false; exact rfl) | (first | apply H.skip | apply H.ret | apply H.then_ret | apply H.then_exit | apply H.exit | apply H.block | apply H.in_normal | apply H.in_ret | apply H.in_hit | apply H.loop_ret | apply H.loop_exit) | (apply H.in_miss; exact rfl) | (apply H.gyes; (iterate 3 exact rfl); (first | assumption | omega)) | (apply H.gno; (iterate 3 exact rfl); (first | assumption | omega)) | (apply H.cond_yes; exact rfl; (first | assumption | omega)) | (apply H.cond_no; exact rfl; (first | assumption | omega)) | ((first | apply H.gtrue); (iterate 3 exact rfl); assumption) | (apply H.gfalse; (iterate 3 exact rfl); assumption) | (apply H.cond_t; exact rfl; assumption) | (apply H.cond_f; exact rfl; assumption))
        refine H.callR rfl rfl rfl (works12_fn f1 _ (tab_mono htab le1)) ?_
        repeat (first | ((apply H.assign); (iterate 3 exact rfl)) | (first | apply H.nil | apply H.then_normal) | (first | apply H.ret | apply H.then_ret))
        refine H.weakL le1 ?_
        refine H.drop (.here _ _) ?_
        exact H.ret1 rfl rfl (fun _ h => h) ⟨rfl, rfl, rfl⟩
      · obtain ⟨b, off, rfl, rdA⟩ := hwat.a.all MV.len (by decide) (by omega)
        obtain ⟨a, ha⟩ : ∃ a, a = pick.toNat % l.length := ⟨_, rfl⟩
        have hal : a < l.length := by rw [ha]; exact Nat.mod_lt _ (by omega)
        obtain ⟨y, hy⟩ : ∃ y, l[a]? = some y := ⟨_, List.getElem?_eq_getElem hal⟩
        have hym : W.all[a]? = some y.m := by rw [← hlm, List.getElem?_map, hy]; rfl
        have hyg := hwat.g y (List.mem_of_getElem? hy)
        have hl0 : ((l.length : Nat) : Int) ≠ 0 := by omega
        have hkb : 1 ≤ 1 + ((key.toNat : Nat) : Int) ∧ 1 + ((key.toNat : Nat) : Int) ≤ 4611686018427387904 := by omega
        have hog : (⟨y.m.with (bodO (1 + ((key.toNat : Nat) : Int)) 9), none, 0⟩ : MV).Good f1 := ⟨QAt.nil _ _, Nat.zero_le _, bodO_ok 9 hkb⟩
        have hsg := good_signed hog
        have htg := fun G => rtagged_fn f1 G (m := y.m.with (bodO (1 + ((key.toNat : Nat) : Int)) 9)) (q := none) (qc := 0) hog.1 (Nat.zero_le _)
        have hagain := fun i (h1 : a ≤ i) (h2 : i < W.all.length) => fork_again hinv.ok hym h1 h2 (bodO_may 9 hkb) rfl
        have hso : (y.m.with (bodO (1 + ((key.toNat : Nat) : Int)) 9)).signed.origin = y.m.origin := (Msg.signed_parts _).1
        have hsn : (y.m.with (bodO (1 + ((key.toNat : Nat) : Int)) 9)).signed.number = y.m.number := (Msg.signed_parts _).2.1
        have hsame : ∀ G, Fn Tryz.prog 30 [.agg ((y.m.with (bodO (1 + ((key.toNat : Nat) : Int)) 9)).signed.vals none 0).toArray, .agg y.vals.toArray] f1 G (Ret (.bool (Msg.eqB (y.m.with (bodO (1 + ((key.toNat : Nat) : Int)) 9)).signed y.m)) f1 G) := fun G => rsameM_fn f1 G hsg hyg
        repeat (first | ((first | apply H.move | apply H.assign | apply H.nilCheck | apply H.len_slice); (iterate 3 exact rfl)) | (apply H.fieldAddr; (iterate 3 exact rfl); exact inferInstance; exact rfl) | (apply H.load1; (iterate 3 exact rfl); apply Rd1.ofRow; (repeat (exact .here _ _ _)); (iterate 2 exact rfl)) | (first | apply H.seq | apply H.region | apply H.nil | apply H.then_normal) | ((apply H.cmp); (iterate 5 exact rfl)) | (apply H.skip) | (apply H.cond_no; exact rfl; (assumption)))
        refine H.callE rfl rfl rfl (lnew_fn f1 _ (fewz_odd hn8)) fun lb => ?_
        repeat (first | ((first | apply H.move | apply H.assign | apply H.nilCheck | apply H.len_slice); (iterate 3 exact rfl)) | (apply H.fieldAddr; (iterate 3 exact rfl); exact inferInstance; exact rfl) | (apply H.load1; (iterate 3 exact rfl); apply Rd1.ofRow; (repeat (first | exact .here _ _ _ | apply At.there)); (iterate 2 exact rfl)) | (first | apply H.seq | apply H.region | apply H.nil | apply H.then_normal) | ((apply H.cmp); (iterate 5 exact rfl)) | ((apply H.conv_int; (iterate 2 exact rfl)); (with_reducible apply wr_i64; omega); exact rfl) | ((first | apply H.pickF | apply H.extract); (iterate 4 exact rfl)) | ((apply H.ptrNil); (iterate 5 exact rfl)) | (apply H.cond_false; exact rfl) | (apply H.skip))
        refine H.rem (z := ((a : Nat) : Int)) rfl rfl rfl hl0 (tmod_nat (a := pick.toNat) (b := l.length) ha.symm) rfl ?_
        repeat (first | ((first | apply H.move | apply H.assign | apply H.nilCheck); (iterate 3 exact rfl)) | (apply H.fieldAddr; (iterate 3 exact rfl); exact inferInstance; exact rfl) | (apply H.load1; (iterate 3 exact rfl); apply Rd1.ofRow; (repeat (first | exact .here _ _ _ | apply At.there)); (iterate 2 exact rfl)) | (first | apply H.seq | apply H.region | apply H.nil | apply H.then_normal))
        refine H.index_slice (i := a) rfl rfl rfl rfl hal rfl ?_
        refine H.loadN (ls := y.vals) rfl rfl rfl (rdA _ _ _ _ (Le.refl _) hy) rfl rfl ?_
        refine H.alloc (ls := msgZ.vals none 0) rfl rfl rfl fun mb => ?_
        refine H.storeN (ls := msgZ.vals none 0) (vs := y.vals) (ls' := y.vals) rfl rfl rfl (allOne_mem rfl) rfl rfl (Nat.le_refl 121) (.here _ _ _) ?_
        repeat (first | (refine H.buildA (t := 40) (out := b32 (dig0 9)) rfl rfl rfl (by kernel_rfl) rfl ?_) | (refine H.build (t := 45) (out := (bodO (1 + ((key.toNat : Nat) : Int)) 9).vals none 0) rfl rfl rfl (by kernel_rfl) rfl ?_) | ((apply H.move); (iterate 3 exact rfl)) | (apply H.fieldAddr; (iterate 3 exact rfl); exact inferInstance; exact rfl) | (first | apply H.seq | apply H.region | apply H.nil | apply H.then_normal) | ((first | (apply H.ar; (iterate 4 exact rfl)) | (apply H.conv_int; (iterate 2 exact rfl))); (with_reducible apply wr_u64; omega); exact rfl))
        refine H.storeN (ls := y.vals) (vs := (bodO (1 + ((key.toNat : Nat) : Int)) 9).vals none 0) (ls' := (y.m.with (bodO (1 + ((key.toNat : Nat) : Int)) 9)).vals none 0) rfl rfl rfl (allOne_mem rfl) rfl (splice_body _ _ _ _ _ _) (show 13 + 76 ≤ 121 by decide) (.here _ _ _) ?_
        generalize (y.m.with (bodO (1 + ((key.toNat : Nat) : Int)) 9)) = o1 at *
        repeat ((first | apply H.seq | apply H.nil | apply H.then_normal))
        refine H.front (x := row wb _ _) (by repeat (first | exact .here _ _ | apply Pull.there)) ?_
        refine H.front (x := row mb _ _) (by repeat (first | exact .here _ _ | apply Pull.there)) ?_
        refine H.drawB (by kernel_rfl) (by decide +kernel) (by first | exact blind_fn | exact blind_seq blind_fn | exact blind_seq (blind_seq blind_fn) | (repeat (first | exact blind_fn | refine blind_seq ?_ | refine blind_block ?_ | refine blind_loop ?_))) (S := [_, _]) rfl ?_
        refine HB.quiet [(0, false), (2, false), (3, false), (4, false), (5, false), (6, false), (7, false), (8, false)] 2 (by kernel_rfl) ?_
        refine HQ.loadN (ls := o1.vals none 0) rfl rfl rfl (Rd.ofRow (.here _ _ _)) rfl rfl ?_
        repeat (first | ((first | apply HQ.move | apply HQ.nilCheck); (iterate 3 exact rfl)) | (apply HQ.fieldAddr; (iterate 3 exact rfl); exact inferInstance; exact rfl) | (apply HQ.load1; (iterate 3 exact rfl); apply Rd1.ofRow; (repeat (first | exact .here _ _ _ | apply At.there)); (iterate 2 exact rfl)))
        refine HQ.index_slice (i := a) rfl rfl rfl rfl hal rfl ?_
        refine HQ.loadN (ls := y.vals) rfl rfl rfl (rdA _ _ _ _ (Le.refl _) hy) rfl rfl ?_
        refine HQ.more rfl ?_
        refine HB.ev1 (i := 1) (by kernel_rfl) rfl ?_
        refine H.callR rfl rfl rfl (htg _) ?_
        generalize o1.signed = o2 at *
        repeat ((apply H.nil))
        refine H.on0 rfl ?_
        refine HB.ev1 (i := 9) (by kernel_rfl) rfl ?_
        refine H.callR rfl rfl rfl (hsame _) ?_
        repeat ((apply H.nil))
        refine H.on0 rfl ?_
        refine HB.done (by kernel_rfl) ?_
        have hLOK : LOK n W.all := fun j m hj => hinv.ok.next hj
        cases hsm : Msg.eqB o2 y.m with
        | true =>
          repeat (first | (first | apply H.seq | apply H.region | apply H.then_normal) | (apply H.cond_true; exact rfl))
          refine H.callR rfl rfl rfl (works12_fn f1 _ (tab_mono htab le1)) ?_
          repeat (first | ((apply H.assign); (iterate 3 exact rfl)) | (first | apply H.nil | apply H.then_normal) | (first | apply H.ret | apply H.then_ret))
          refine H.weakL le1 ?_
          refine H.drop (.here _ _) ?_
          refine H.drop (.here _ _) ?_
          refine H.drop (.here _ _) ?_
          exact H.ret1 rfl rfl (fun _ h => h) ⟨rfl, rfl, rfl⟩
        | false =>
          repeat (first | (first | apply H.seq | apply H.region | apply H.then_normal) | (apply H.cond_false; exact rfl) | (apply H.skip))
          refine H.loadN (ls := o1.vals none 0) rfl rfl rfl (Rd.ofRow (.here _ _ _)) rfl rfl ?_
          refine H.callR rfl rfl rfl (htg _) ?_
          refine H.storeN (ls := o1.vals none 0) (vs := o2.vals none 0) (ls' := o2.vals none 0) rfl rfl rfl (allOne_mem rfl) rfl rfl (Nat.le_refl 121) (.here _ _ _) ?_
          repeat (first | ((apply H.assign); (iterate 3 exact rfl)) | (first | apply H.seq | apply H.region | apply H.nil | apply H.then_normal) | (apply H.block))
          refine H.front (x := loreH _ _ _ _) (by repeat (first | exact .here _ _ | apply Pull.there)) ?_
          refine H.loop (ι := Nat × Frag × List MV) (fun s => [(14, .int .i64 (s.1 : Int)), (9, .pointer (some ⟨wb, 0, none⟩)), (10, .pointer (some ⟨lb, 0, none⟩)), (12, .int .i64 (a : Int)), (13, .pointer (some ⟨mb, 0, none⟩))]) (fun s => s.2.1)
            (fun s => loreH s.2.1 lb n s.2.2 :: row mb 47 (o2.vals none 0) :: row wb 34 (worldC kb n (some ⟨b, off, none⟩) l.length ac) :: F)
            (fun s => s.1 ≤ l.length ∧ Le f1 s.2.1 ∧ s.2.2.map MV.m = W.all.take s.1) (fun s => l.length - s.1) (0, f1, []) ⟨Nat.zero_le _, Le.refl f1, rfl⟩ ⟨rfl, rfl, rfl, rfl, rfl, trivial⟩ rfl rfl fun s hs => ?_
          obtain ⟨i, e, L⟩ := s
          obtain ⟨hi, hle, hL⟩ : i ≤ l.length ∧ Le f1 e ∧ L.map MV.m = W.all.take i := hs
          have hLl : L.length ≤ i := by
            have := congrArg List.length hL
            rw [List.length_map, List.length_take] at this
            omega
          show H _ _ _ [(14, .int .i64 (i : Int)), _, _, _, _] e (loreH e lb n L :: _ :: _ :: F) _
          by_cases hlt : i < l.length
          · obtain ⟨yi, hyi⟩ : ∃ yi, l[i]? = some yi := ⟨_, List.getElem?_eq_getElem hlt⟩
            have hyim : W.all[i]? = some yi.m := by rw [← hlm, List.getElem?_map, hyi]; rfl
            have hyig := (hwat.g yi (List.mem_of_getElem? hyi)).mono hle
            have hc0 : chk n (strm (L.map MV.m)) yi.m = 0 := by rw [hL]; exact hinv.ok.next hyim
            have hnx : W.all.take (i + 1) = W.all.take i ++ [yi.m] := take_snoc hyim
            repeat (first | ((first | apply H.move | apply H.nilCheck | apply H.len_slice); (iterate 3 exact rfl)) | (apply H.fieldAddr; (iterate 3 exact rfl); exact inferInstance; exact rfl) | (apply H.load1; (iterate 3 exact rfl); apply Rd1.ofRow; (repeat (first | exact .here _ _ _ | apply At.there)); (iterate 2 exact rfl)) | (first | apply H.seq | apply H.region | apply H.nil | apply H.then_normal) | ((apply H.cmp); (iterate 5 exact rfl)) | (first | apply H.skip | apply H.block) | (apply H.cond_yes; exact rfl; (omega)))
            refine H.index_slice (i := i) rfl rfl rfl rfl hlt rfl ?_
            refine H.loadN (ls := yi.vals) rfl rfl rfl (rdA _ _ _ _ hle hyi) rfl rfl ?_
            refine H.call (R := AddP e _ lb n L yi.m) rfl rfl rfl (ladd_fn e _ (tab_mono htab (le1.trans hle)) (Le.refl e) hyig (by omega)) fun v f' A' hr => ?_
            obtain ⟨g2, q2, c2, rfl, hd2, rfl, rfl⟩ := hr
            rw [hc0, if_pos rfl]
            have hle2 := hle.trans (Le.un e g2)
            generalize un e g2 = e2 at hle2 ⊢
            have hL2 : (L ++ [(⟨yi.m, q2, c2⟩ : MV)]).map MV.m = W.all.take (i + 1) := by rw [List.map_append, hL, hnx]; rfl
            generalize hLL : L ++ [(⟨yi.m, q2, c2⟩ : MV)] = L2 at hL2 ⊢
            have hL2l : L2.length ≤ i + 1 := by rw [← hLL, List.length_append]; show L.length + 1 ≤ _; omega
            repeat (first | ((apply H.move); (iterate 3 exact rfl)) | (first | apply H.seq | apply H.region | apply H.nil | apply H.then_normal) | ((apply H.cmp); (iterate 5 exact rfl)) | (apply H.cond_false; exact rfl) | (apply H.skip))
            by_cases hai : a ≤ i
            · have hc13 : chk n (strm (L2.map MV.m)) o2 = 13 := by rw [hL2]; exact hagain i hai (by omega)
              repeat (first | ((apply H.move); (iterate 3 exact rfl)) | (apply H.gyes; (iterate 3 exact rfl); (omega)))
              refine H.loadN (ls := o2.vals none 0) rfl rfl rfl (Rd.ofRow (.there _ (.here _ _ _))) rfl rfl ?_
              refine H.call (R := AddP e2 _ lb n L2 o2) rfl rfl rfl (ladd_fn e2 _ (tab_mono htab (le1.trans hle2)) (Le.refl e2) (x := ⟨o2, none, 0⟩) (hsg.mono hle2) (by omega)) fun v f' A' hr => ?_
              obtain ⟨g3, q3, c3, rfl, hd3, rfl, rfl⟩ := hr
              rw [hc13, if_neg (by decide)]
              have hle3 := hle2.trans (Le.un e2 g3)
              generalize un e2 g3 = e3 at hle3 ⊢
              repeat (first | ((first | apply H.move | apply H.assign); (iterate 3 exact rfl)) | (first | apply H.region | apply H.nil | apply H.then_normal) | ((apply H.cmp); (iterate 5 exact rfl)) | ((apply H.ar; (iterate 4 exact rfl)); (with_reducible apply wr_i64_n1; omega); exact rfl) | (apply H.pickT; (iterate 4 exact rfl)) | (apply H.cond_false; exact rfl) | (first | apply H.skip | apply H.in_normal))
              exact H.again (i + 1, e3, L2) ⟨by show i + 1 ≤ l.length; omega, hle3, hL2⟩ (by show l.length - (i + 1) < l.length - i; omega) ⟨rfl, rfl, rfl, rfl, rfl, trivial⟩ rfl rfl
            · repeat (first | ((first | apply H.move | apply H.assign | apply H.nilCheck | apply H.len_slice | apply H.len_string | apply H.cap_slice); (iterate 3 exact rfl)) | (apply H.fieldAddr; (iterate 3 exact rfl); exact inferInstance; exact rfl) | (apply H.load1; (iterate 3 exact rfl); apply Rd1.ofRow; (repeat (first | exact .here _ _ _ | apply At.there)); (iterate 2 exact rfl)) | (first | apply H.seq | apply H.region | apply H.nil | apply H.then_normal) | ((first | apply H.cmp | apply H.build); (iterate 5 exact rfl)) | ((first | (apply H.ar; (iterate 4 exact rfl)) | (apply H.conv_int; (iterate 2 exact rfl))); (first | (with_reducible apply wr_i64_s1; omega) | (with_reducible apply wr_i64_n1; omega) | (with_reducible apply wr_i64_nn; omega) | (with_reducible apply wr_i64; omega) | (with_reducible apply wr_u64; omega) | (with_reducible apply wr_u8; omega) | (with_reducible apply wr_u16; omega) | rfl); exact rfl) | (apply H.pass; (iterate 2 exact rfl)) | (apply H.pass0; exact rfl) | (apply H.pickT; (iterate 4 exact rfl)) | ((first | apply H.pickF | apply H.extract | apply H.not | apply H.makeFunc); (iterate 4 exact rfl)) | ((first | apply H.ptrNil | apply H.sliceNil); (iterate 5 exact rfl)) | (apply H.store1; (iterate 4 exact rfl); (repeat (first | exact .here _ _ _ | apply At.there)); (repeat (first | exact .here _ _ _ | apply SetV.there))) | (apply H.cond_true; exact rfl) | (apply H.cond_false; exact rfl) | (first | apply H.skip | apply H.ret | apply H.then_ret | apply H.then_exit | apply H.exit | apply H.block | apply H.in_normal | apply H.in_ret | apply H.in_hit | apply H.loop_ret | apply H.loop_exit) | (apply H.in_miss; exact rfl) | (apply H.gyes; (iterate 3 exact rfl); (first | assumption | omega)) | (apply H.gno; (iterate 3 exact rfl); (first | assumption | omega)) | (apply H.cond_yes; exact rfl; (first | assumption | omega)) | (apply H.cond_no; exact rfl; (first | assumption | omega)) | ((first | apply H.gtrue); (iterate 3 exact rfl); assumption) | (apply H.gfalse; (iterate 3 exact rfl); assumption) | (apply H.cond_t; exact rfl; assumption) | (apply H.cond_f; exact rfl; assumption))
              exact H.again (i + 1, e2, L2) ⟨by show i + 1 ≤ l.length; omega, hle2, hL2⟩ (by show l.length - (i + 1) < l.length - i; omega) ⟨rfl, rfl, rfl, rfl, rfl, trivial⟩ rfl rfl
          · have hil : i = W.all.length := by omega
            have hL : L.map MV.m = W.all := by rw [hL, hil, List.take_length]
            have hget : getM (L.map MV.m) o2.origin o2.number = (y.m, true) := by rw [hL, hso, hsn]; exact fork_get hinv.ok hLOK hym
            have hgt : ∀ G, Fn Tryz.prog 28 [.pointer (some ⟨lb, 0, none⟩), .int .i64 o2.origin, .int .u64 o2.number] e (loreH e lb n L :: G) (GetP e (loreH e lb n L :: G) (y.m, true)) := fun G => by
              have h := lget_fn e G (Le.refl e) (lb := lb) (n := n) (l := L) (og := o2.origin) (z := o2.number) (by rw [hsn, (hinv.ok a y.m hym).num]; omega)
              rw [hget] at h
              exact h
            repeat (first | ((first | apply H.move | apply H.nilCheck | apply H.len_slice); (iterate 3 exact rfl)) | (apply H.fieldAddr; (iterate 3 exact rfl); exact inferInstance; exact rfl) | (apply H.load1; (iterate 3 exact rfl); apply Rd1.ofRow; (repeat (first | exact .here _ _ _ | apply At.there)); (iterate 2 exact rfl)) | (first | apply H.seq | apply H.region | apply H.nil | apply H.then_normal) | ((apply H.cmp); (iterate 5 exact rfl)) | (first | apply H.then_exit | apply H.exit | apply H.in_hit | apply H.loop_exit) | (apply H.cond_no; exact rfl; (omega)))
            refine H.call rfl rfl rfl (hgt _) fun v f' A' hr => ?_
            obtain ⟨g4, z, rfl, hzm, hzg, hd4, rfl, rfl⟩ := hr
            have hle4 := hle.trans (Le.un e g4)
            generalize un e g4 = e4 at hle4 hzg ⊢
            have hsz : ∀ G, Fn Tryz.prog 30 [.agg z.vals.toArray, .agg y.vals.toArray] e4 G (Ret (.bool true) e4 G) := fun G => by
              have h := rsameM_fn e4 G hzg (hyg.mono hle4)
              rw [hzm, Msg.eqB_refl] at h
              exact h
            repeat (first | ((apply H.move); (iterate 3 exact rfl)) | ((apply H.extract); (iterate 4 exact rfl)))
            refine H.alloc (ls := msgZ.vals none 0) rfl rfl rfl fun zb => ?_
            refine H.storeN (ls := msgZ.vals none 0) (vs := z.vals) (ls' := z.vals) rfl rfl rfl (allOne_mem rfl) rfl rfl (Nat.le_refl 121) (.here _ _ _) ?_
            repeat (first | ((apply H.assign); (iterate 3 exact rfl)) | (first | apply H.seq | apply H.nil | apply H.then_normal))
            refine H.front (x := row wb _ _) (by repeat (first | exact .here _ _ | apply Pull.there)) ?_
            refine H.front (x := row zb _ _) (by repeat (first | exact .here _ _ | apply Pull.there)) ?_
            refine H.drawB (by kernel_rfl) (by decide +kernel) (by first | exact blind_fn | exact blind_seq blind_fn | exact blind_seq (blind_seq blind_fn) | (repeat (first | exact blind_fn | refine blind_seq ?_ | refine blind_block ?_ | refine blind_loop ?_))) (S := [_, _]) rfl ?_
            refine HB.quiet [(0, false), (1, false), (2, false), (3, false), (4, false), (5, false), (6, false), (7, false), (8, false), (9, false)] 6 (by kernel_rfl) ?_
            repeat (((apply HQ.move); (iterate 3 exact rfl)))
            refine HQ.loadN (ls := z.vals) rfl rfl rfl (Rd.ofRow (.here _ _ _)) rfl rfl ?_
            repeat (first | ((first | apply HQ.move | apply HQ.nilCheck); (iterate 3 exact rfl)) | (apply HQ.fieldAddr; (iterate 3 exact rfl); exact inferInstance; exact rfl) | (apply HQ.load1; (iterate 3 exact rfl); apply Rd1.ofRow; (repeat (first | exact .here _ _ _ | apply At.there)); (iterate 2 exact rfl)))
            refine HQ.index_slice (i := a) rfl rfl rfl rfl hal rfl ?_
            refine HQ.loadN (ls := y.vals) rfl rfl rfl (rdA _ _ _ _ hle4 hy) rfl rfl ?_
            refine HQ.more rfl ?_
            refine HB.ev1 (i := 10) (by kernel_rfl) rfl ?_
            refine H.callR rfl rfl rfl (hsz _) ?_
            repeat ((apply H.nil))
            refine H.on0 rfl ?_
            refine HB.quiet [(11, false), (12, false)] 3 (by kernel_rfl) ?_
            repeat (first | ((apply HQ.move); (iterate 3 exact rfl)) | (apply HQ.pickT; (iterate 4 exact rfl)))
            refine HQ.more rfl ?_
            refine HB.ev1 (i := 13) (by kernel_rfl) rfl ?_
            refine H.callR rfl rfl rfl (works12_fn e4 _ (tab_mono htab (le1.trans hle4))) ?_
            repeat ((apply H.nil))
            refine H.on0 rfl ?_
            refine HB.quiet [(14, false), (15, false)] 0 (by kernel_rfl) ?_
            repeat (first | ((apply HQ.assign); (iterate 3 exact rfl)) | (apply HQ.pickT; (iterate 4 exact rfl)))
            refine HQ.more rfl ?_
            refine HB.done (by kernel_rfl) ?_
            repeat (first | (apply H.then_normal) | (apply H.ret))
            refine H.weakL (le1.trans hle4) ?_
            refine H.drop (.here _ _) ?_
            refine H.drop (.here _ _) ?_
            refine H.drop (.here _ _) ?_
            refine H.drop (.here _ _) ?_
            exact H.ret1 rfl rfl (fun _ h => h) ⟨rfl, rfl, rfl⟩
    · skip
      refine Fn.enter Tryz.func7 rfl Tryz.ntmps7 rfl (L := [(0, _), (1, _), (2, _), (3, _)]) ⟨rfl, rfl, rfl, rfl, trivial⟩ fun base => ?_
      repeat (first | ((first | apply H.move | apply H.assign); (iterate 3 exact rfl)) | (first | apply H.seq | apply H.region | apply H.nil | apply H.then_normal))
      refine H.callR rfl rfl rfl hfew ?_
      refine H.not (b := _) (c := _) rfl rfl rfl rfl ?_
      repeat (first | ((first | apply H.move | apply H.len_slice); (iterate 3 exact rfl)) | (first | apply H.seq | apply H.region | apply H.nil | apply H.then_normal) | ((apply H.cmp); (iterate 5 exact rfl)) | ((apply H.pickF); (iterate 4 exact rfl)) | (apply H.cond_yes; exact rfl; (omega)))
      refine H.callR rfl rfl rfl (works12_fn f _ htab) ?_
      repeat (first | ((apply H.assign); (iterate 3 exact rfl)) | (first | apply H.nil | apply H.then_normal) | (first | apply H.ret | apply H.then_ret))
      exact H.ret1 rfl rfl (fun _ h => h) ⟨rfl, rfl, rfl⟩
end
end Go.Proofs.YtoigpgdmignaoaaGreatDoor

/- Layers 7 and 8: the document's check of a number's tag, all of a message as bytes, whether its tag is right. -/
namespace Go.Proofs.YtoigpgdmignaoaaGreatDoor
set_option linter.unusedSectionVars false
set_option linter.unusedSimpArgs false
set_option linter.unusedVariables false
open Go
section
variable (f : Frag) (F : List HP)
set_option maxHeartbeats 1600000 in
theorem rcheck_fn {i n : Int} {r : Option Addr} {d : Nat} {b : List UInt8} {t : Nat → UInt8} (h1 : 1 ≤ i) (h2 : i ≤ 11) (h3 : 1 ≤ n) (h4 : n ≤ 65536) (hs : ∀ G, Src Tryz.prog f (G ++ F) (.slice r b.length d) 1 b.length (bytesV b)) (hl : b.length ≤ 1024) :
    Fn Tryz.prog 60 [.int .i64 i, .int .u64 n, .slice r b.length d, .agg (b32 t).toArray] f F (Ret (.bool (eq32 t (Sha.numbered i n b))) f F) := by
  refine Fn.enter Tryz.func60 rfl Tryz.ntmps60 rfl (L := [(0, _), (1, _), (2, _), (3, _)]) ⟨rfl, rfl, rfl, rfl, trivial⟩ fun base => ?_
  repeat ((first | apply H.seq | apply H.region))
  refine H.box (ls := b32 t) rfl rfl rfl rfl fun tb => ?_
  repeat (first | ((apply H.assign); (iterate 3 exact rfl)) | (first | apply H.seq | apply H.nil | apply H.then_normal))
  refine H.drawB (by kernel_rfl) (by decide +kernel) (by first | exact blind_fn | exact blind_seq blind_fn | exact blind_seq (blind_seq blind_fn) | (repeat (first | exact blind_fn | refine blind_seq ?_ | refine blind_block ?_ | refine blind_loop ?_))) (S := [_]) rfl ?_
  refine HB.quiet [(0, false), (1, false), (2, false), (3, false), (4, false), (5, false), (6, false), (7, false), (8, false), (9, false), (10, false), (11, false), (12, false), (13, false), (14, false), (15, false), (16, false), (17, false), (18, false), (19, false), (20, false), (21, false), (22, false), (23, false)] 4 (by kernel_rfl) ?_
  repeat (first | (refine HQ.loadN (ls := b32 t) rfl rfl rfl (Rd.ofRow (by repeat (first | exact .here _ _ _ | apply At.there))) rfl rfl ?_) | ((first | apply HQ.move | apply HQ.len_slice); (iterate 3 exact rfl)) | ((apply HQ.cmp); (iterate 5 exact rfl)) | (apply HQ.pickT; (iterate 4 exact rfl)) | (apply HQ.gyes; (iterate 3 exact rfl); (first | assumption | omega)))
  refine HQ.more rfl ?_
  refine HB.ev1 (i := 24) (by kernel_rfl) rfl ?_
  skip
  refine H.callR rfl rfl rfl (rnumbered_fn f _ h1 h2 (fun G => (hs (G ++ [_])).assoc) (by omega)) ?_
  generalize Sha.numbered i n b = u
  repeat ((apply H.nil))
  refine H.on0 rfl ?_
  refine HB.quiet [(25, false), (26, false), (27, false)] 0 (by kernel_rfl) ?_
  repeat (first | (refine HQ.aggEq (xs := b32 t) (ys := b32 u) (D := 4) rfl rfl rfl rfl (by kernel_rfl) (by kernel_rfl) (by kernel_rfl) (by kernel_rfl) (by decide) (show eqC (b32 t) (b32 u) = eq32 t u from rfl) rfl ?_) | ((apply HQ.assign); (iterate 3 exact rfl)) | (apply HQ.pickT; (iterate 4 exact rfl)))
  refine HQ.more rfl ?_
  refine HB.done (by kernel_rfl) ?_
  repeat (first | (apply H.then_normal) | (apply H.ret))
  refine H.drop (x := row tb _ _) (by repeat (first | exact .here _ _ | apply Pull.there)) ?_
  exact H.ret1 rfl rfl (fun _ h => h) ⟨rfl, rfl, rfl⟩
set_option maxHeartbeats 1600000 in
theorem rmright_fn {x : MV} (hx : x.Good f) : Fn Tryz.prog 24 [.agg x.vals.toArray] f F (Ret (.bool x.m.right) f F) := by
  have hmay := fun G => rmmay_fn f G hx
  unfold Msg.right
  by_cases hm : x.m.may = true
  · rw [hm] at hmay ⊢
    rw [Bool.true_and]
    have htg := fun G => rbytes_fn (m := x.m) (qc := x.qc) f G hx.1 (by have := hx.2.1; omega)
    unfold Msg.bytes at htg
    rw [if_pos hm] at htg
    have htl := Msg.tagged_max hm
    have hou := Msg.may_outer hm
    generalize x.m.tagged = tg at htg htl ⊢
    obtain ⟨o1, o2, o3, o4, _⟩ := hou
    refine Fn.enter Tryz.func24 rfl Tryz.ntmps24 rfl (L := [(0, _)]) ⟨rfl, trivial⟩ fun base => ?_
    repeat ((first | apply H.seq | apply H.region))
    refine H.box (ls := x.vals) rfl rfl rfl rfl fun mb => ?_
    repeat (first | ((apply H.assign); (iterate 3 exact rfl)) | (first | apply H.seq | apply H.nil | apply H.then_normal))
    refine H.drawB (by kernel_rfl) (by decide +kernel) (by first | exact blind_fn | exact blind_seq blind_fn | exact blind_seq (blind_seq blind_fn) | (repeat (first | exact blind_fn | refine blind_seq ?_ | refine blind_block ?_ | refine blind_loop ?_))) (S := [_]) rfl ?_
    refine HB.quiet [(0, false)] 13 (by kernel_rfl) ?_
    repeat ((refine HQ.loadN (ls := x.vals) rfl rfl rfl (Rd.ofRow (by repeat (first | exact .here _ _ _ | apply At.there))) rfl rfl ?_))
    refine HQ.more rfl ?_
    refine HB.ev1 (i := 1) (by kernel_rfl) rfl ?_
    refine H.callR rfl rfl rfl (hmay _) ?_
    repeat ((apply H.nil))
    refine H.on0 rfl ?_
    refine HB.quiet [(2, false), (3, false), (4, false), (5, false), (6, false), (7, false), (9, false), (10, false)] 4 (by kernel_rfl) ?_
    repeat (first | (refine HQ.loadN (ls := x.vals) rfl rfl rfl (Rd.ofRow (by repeat (first | exact .here _ _ _ | apply At.there))) rfl rfl ?_) | (refine HQ.loadN (ls := b32 x.m.tag) rfl rfl rfl (msg_tag (m := x.m) (q := x.qp) (qc := x.qc) (by repeat (first | exact .here _ _ _ | apply At.there))) rfl rfl ?_) | ((apply HQ.move); (iterate 3 exact rfl)) | (apply HQ.fieldAddr; (iterate 3 exact rfl); exact inferInstance; exact rfl) | (apply HQ.load1; (iterate 3 exact rfl); apply Rd1.ofRow; (repeat (exact .here _ _ _)); (iterate 2 exact rfl)))
    refine HQ.more rfl ?_
    refine HB.ev1 (i := 8) (by kernel_rfl) rfl ?_
    skip
    refine H.callE2 rfl rfl rfl (htg _) fun p1 c1 => ?_
    repeat ((apply H.nil))
    refine H.front (x := row mb _ _) (by repeat (first | exact .here _ _ | apply Pull.there)) ?_
    refine H.on0 rfl ?_
    refine HB.ev1 (i := 11) (by kernel_rfl) rfl ?_
    skip
    refine H.callR rfl rfl rfl (rcheck_fn f _ o1 o2 o3 o4 (fun G => Src.append (Src.slcS (by repeat (first | exact .here _ _ _ | apply At.there)) (by rw [bytesV_len]; exact (Nat.mul_one _).symm))) htl) ?_
    repeat ((apply H.nil))
    refine H.on0 rfl ?_
    refine HB.quiet [(12, false), (13, false)] 0 (by kernel_rfl) ?_
    repeat (first | ((apply HQ.assign); (iterate 3 exact rfl)) | (apply HQ.pickT; (iterate 4 exact rfl)))
    refine HQ.more rfl ?_
    refine HB.done (by kernel_rfl) ?_
    repeat (first | (apply H.then_normal) | (apply H.ret))
    refine H.drop (x := row mb _ _) (by repeat (first | exact .here _ _ | apply Pull.there)) ?_
    refine H.drop (x := slc p1 _ _ _ _ _) (by repeat (first | exact .here _ _ | apply Pull.there)) ?_
    exact H.ret1 rfl rfl (fun _ h => h) ⟨rfl, rfl, rfl⟩
  · rw [Bool.eq_false_iff.2 hm] at hmay ⊢
    rw [Bool.false_and]
    refine Fn.enter Tryz.func24 rfl Tryz.ntmps24 rfl (L := [(0, _)]) ⟨rfl, trivial⟩ fun base => ?_
    repeat ((first | apply H.seq | apply H.region))
    refine H.box (ls := x.vals) rfl rfl rfl rfl fun mb => ?_
    repeat (first | ((apply H.assign); (iterate 3 exact rfl)) | (first | apply H.seq | apply H.nil | apply H.then_normal))
    refine H.drawB (by kernel_rfl) (by decide +kernel) (by first | exact blind_fn | exact blind_seq blind_fn | exact blind_seq (blind_seq blind_fn) | (repeat (first | exact blind_fn | refine blind_seq ?_ | refine blind_block ?_ | refine blind_loop ?_))) (S := [_]) rfl ?_
    refine HB.quiet [(0, false)] 13 (by kernel_rfl) ?_
    repeat ((refine HQ.loadN (ls := x.vals) rfl rfl rfl (Rd.ofRow (by repeat (first | exact .here _ _ _ | apply At.there))) rfl rfl ?_))
    refine HQ.more rfl ?_
    refine HB.ev1 (i := 1) (by kernel_rfl) rfl ?_
    refine H.callR rfl rfl rfl (hmay _) ?_
    repeat ((apply H.nil))
    refine H.on0 rfl ?_
    refine HB.quiet [(2, false), (3, false), (4, false), (5, false), (6, false), (7, false), (9, false), (10, false)] 4 (by kernel_rfl) ?_
    repeat (first | ((apply HQ.move); (iterate 3 exact rfl)) | (apply HQ.pass; (iterate 2 exact rfl)))
    refine HQ.more rfl ?_
    refine HB.ev1 (i := 8) (by kernel_rfl) rfl ?_
    repeat (first | (apply H.nil) | (apply H.pass; (iterate 2 exact rfl)))
    refine H.on0 rfl ?_
    refine HB.ev1 (i := 11) (by kernel_rfl) rfl ?_
    repeat (first | (apply H.nil) | (apply H.pass; (iterate 2 exact rfl)))
    refine H.on0 rfl ?_
    refine HB.quiet [(12, false), (13, false)] 0 (by kernel_rfl) ?_
    repeat (first | ((apply HQ.assign); (iterate 3 exact rfl)) | ((apply HQ.pickF); (iterate 4 exact rfl)))
    refine HQ.more rfl ?_
    refine HB.done (by kernel_rfl) ?_
    repeat (first | (apply H.then_normal) | (apply H.ret))
    refine H.drop (x := row mb _ _) (by repeat (first | exact .here _ _ | apply Pull.there)) ?_
    exact H.ret1 rfl rfl (fun _ h => h) ⟨rfl, rfl, rfl⟩
end
end Go.Proofs.YtoigpgdmignaoaaGreatDoor

/- Layer 12: LoreTurned. Condition: the table of the standard stands in the fragment. -/
namespace Go.Proofs.YtoigpgdmignaoaaGreatDoor
set_option linter.unusedSectionVars false
set_option linter.unusedSimpArgs false
set_option linter.unusedVariables false
open Go
theorem msg_setdeps (m : Msg) (q : Option Addr) (qc : Nat) {k : Nat} (v : Int) (hk : k < 11) : SetV (m.vals q qc) (0 + 2 + k * 1) (.int .u64 v) (({ m with deps := updF m.deps k v } : Msg).vals q qc) := by
  have h := (v11_upd m.deps v hk).mid [.int .i64 m.origin, .int .u64 m.number] (m.body.vals q qc ++ b32 m.tag)
  rw [Nat.mul_one]
  have e1 : m.vals q qc = [.int .i64 m.origin, .int .u64 m.number] ++ v11 m.deps ++ (m.body.vals q qc ++ b32 m.tag) := by unfold Msg.vals; simp only [List.append_assoc]
  have e2 : ({ m with deps := updF m.deps k v } : Msg).vals q qc = [.int .i64 m.origin, .int .u64 m.number] ++ v11 (updF m.deps k v) ++ (m.body.vals q qc ++ b32 m.tag) := by unfold Msg.vals; simp only [List.append_assoc]
  rw [e1, e2]
  exact h
theorem shl1 {k : Nat} (h : k < 8) : shiftI .shl .u8 1 (k : Int) = some (((UInt8.ofNat (2 ^ k)).toNat : Nat) : Int) := by
  match k, h with
  | 0, _ => rfl
  | 1, _ => rfl
  | 2, _ => rfl
  | 3, _ => rfl
  | 4, _ => rfl
  | 5, _ => rfl
  | 6, _ => rfl
  | 7, _ => rfl
theorem tmod_lt {z : Int} {n : Nat} (h0 : 0 ≤ z) (hn : 0 < n) : ∃ r : Nat, r < n ∧ z.tmod (n : Int) = (r : Nat) := by
  obtain ⟨k, rfl⟩ := Int.eq_ofNat_of_zero_le h0
  exact ⟨k % n, Nat.mod_lt _ hn, tmod_nat rfl⟩
section
variable (f : Frag) (F : List HP)
set_option maxRecDepth 20000 in
set_option maxHeartbeats 3200000 in
theorem turned12_fn (htab : TabAt f) {n8 : UInt8} {p : Option Addr} {c : Nat} {xs : List A12} (hat : ListAt f p 8 A12.vals xs) (hh : ∀ x ∈ xs, x.Has f) (hxl : xs.length ≤ 9223372036854775807) (pick what by8 : UInt8) :
    Fn Tryz.prog 4 [.int .u8 (n8.toNat : Nat), .slice p xs.length c, .int .u8 (pick.toNat : Nat), .int .u8 (what.toNat : Nat), .int .u8 (by8.toNat : Nat)] f F (Ret (.bool true) f F) := by
  have hfew := few12_fn f F (c := c) hat hxl
  cases hf : few12 xs with
  | false =>
    rw [hf] at hfew
    refine Fn.enter Tryz.func4 rfl Tryz.ntmps4 rfl (L := [(0, _), (1, _), (2, _), (3, _), (4, _)]) ⟨rfl, rfl, rfl, rfl, rfl, trivial⟩ fun base => ?_
    repeat (first | ((first | apply H.move | apply H.assign); (iterate 3 exact rfl)) | (first | apply H.seq | apply H.region | apply H.nil | apply H.then_normal))
    refine H.callR rfl rfl rfl hfew ?_
    refine H.not (b := _) (c := _) rfl rfl rfl rfl ?_
    repeat (first | ((first | apply H.move | apply H.len_slice); (iterate 3 exact rfl)) | (first | apply H.seq | apply H.region | apply H.nil | apply H.then_normal) | (apply H.pass; (iterate 2 exact rfl)) | (apply H.pickT; (iterate 4 exact rfl)) | (apply H.cond_true; exact rfl))
    refine H.callR rfl rfl rfl (works12_fn f _ htab) ?_
    repeat (first | ((apply H.assign); (iterate 3 exact rfl)) | (first | apply H.nil | apply H.then_normal) | (first | apply H.ret | apply H.then_ret))
    exact H.ret1 rfl rfl (fun _ h => h) ⟨rfl, rfl, rfl⟩
  | true =>
    rw [hf] at hfew
    obtain ⟨hl100, hq20⟩ := few12_all hf
    by_cases h60 : xs.length ≤ 60
    · obtain ⟨n, hn8⟩ : ∃ n, n = 3 + 2 * (n8.toNat % 5) := ⟨_, rfl⟩
      have hn3 : 3 ≤ n ∧ n ≤ 11 := by omega
      have hn0 : ((n : Nat) : Int) ≠ 0 := by omega
      have hacts := fun G => acts_fn f G hn8 (c := c) hat (fun x hx => ⟨hh x hx, hq20 x hx⟩) hl100
      have hinv : WInv n (worldOf n xs) := by have := worldOf_inv (n := n) (by omega) hn3.2 xs xs.length; rwa [List.take_length] at this
      have hwl : (worldOf n xs).all.length ≤ 60 := by have := worldOf_len n xs xs.length; rw [List.take_length] at this; omega
      generalize worldOf n xs = W at *
      have hpick := pick.toNat_lt
      have hwhat := what.toNat_lt
      have hby := by8.toNat_lt
      refine Fn.enter Tryz.func4 rfl Tryz.ntmps4 rfl (L := [(0, _), (1, _), (2, _), (3, _), (4, _)]) ⟨rfl, rfl, rfl, rfl, rfl, trivial⟩ fun base => ?_
      repeat (first | ((first | apply H.move | apply H.assign); (iterate 3 exact rfl)) | (first | apply H.seq | apply H.region | apply H.nil | apply H.then_normal))
      refine H.callR rfl rfl rfl hfew ?_
      refine H.not (b := _) (c := _) rfl rfl rfl rfl ?_
      repeat (first | ((first | apply H.move | apply H.len_slice); (iterate 3 exact rfl)) | (first | apply H.seq | apply H.region | apply H.nil | apply H.then_normal) | ((apply H.cmp); (iterate 5 exact rfl)) | ((apply H.pickF); (iterate 4 exact rfl)) | (apply H.skip) | (apply H.cond_no; exact rfl; (omega)))
      refine H.call rfl rfl rfl (hacts _) fun v f' A' hr => ?_
      obtain ⟨g, wb, kb, ap, ac, l, rfl, hd, rfl, rfl, hwat⟩ := hr
      have le1 := Le.un f g
      generalize un f g = f1 at *
      have hlm := hwat.m
      have hll : l.length = W.all.length := by rw [← hlm, List.length_map]
      clear hacts hfew
      by_cases h0 : l.length = 0
      · repeat (first | ((first | apply H.move | apply H.assign | apply H.nilCheck | apply H.len_slice | apply H.len_string | apply H.cap_slice); (iterate 3 exact rfl)) | (apply H.fieldAddr; (iterate 3 exact rfl); exact inferInstance; exact rfl) | (apply H.load1; (iterate 3 exact rfl); apply Rd1.ofRow; (repeat (first | exact .here _ _ _ | apply At.there)); (iterate 2 exact rfl)) | (first | apply H.seq | apply H.region | apply H.nil | apply H.then_normal) | ((first | apply H.cmp | apply H.build); (iterate 5 exact rfl)) | ((first | (apply H.ar; (iterate 4 exact rfl)) | (apply H.conv_int; (iterate 2 exact rfl))); (first | (with_reducible apply wr_i64_s1; omega) | (with_reducible apply wr_i64_n1; omega) | (with_reducible apply wr_i64_nn; omega) | (with_reducible apply wr_i64; omega) | (with_reducible apply wr_u64; omega) | (with_reducible apply wr_u8; omega) | (with_reducible apply wr_u16; omega) | rfl); exact rfl) | (apply H.pass; (iterate 2 exact rfl)) | (apply H.pass0; exact rfl) | (apply H.pickT; (iterate 4 exact rfl)) | ((first | apply H.pickF | apply H.extract | apply H.not | apply H.makeFunc); (iterate 4 exact rfl)) | ((first | apply H.ptrNil | apply H.sliceNil); (iterate 5 exact rfl)) | (apply H.store1; (iterate 4 exact rfl); (repeat (first | exact .here _ _ _ | apply At.there)); (repeat (first | exact .here _ _ _ | apply SetV.there))) | (apply H.cond_true; exact rfl) | (apply H.cond_false; exact rfl) | (first | apply H.skip | apply H.ret | apply H.then_ret | apply H.then_exit | apply H.exit | apply H.block | apply H.in_normal | apply H.in_ret | apply H.in_hit | apply H.loop_ret | apply H.loop_exit) | (apply H.in_miss; exact rfl) | (apply H.gyes; (iterate 3 exact rfl); (first | assumption | omega)) | (apply H.gno; (iterate 3 exact rfl); (first | assumption | omega)) | (apply H.cond_yes; exact rfl; (first | assumption | omega)) | (apply H.cond_no; exact rfl; (first | assumption | omega)) | ((first | apply H.gtrue); (iterate 3 exact rfl); assumption) | (apply H.gfalse; (iterate 3 exact rfl); assumption) | (apply H.cond_t; exact rfl; assumption) | (apply H.cond_f; exact rfl; assumption))
        refine H.callR rfl rfl rfl (works12_fn f1 _ (tab_mono htab le1)) ?_
        repeat (first | ((apply H.assign); (iterate 3 exact rfl)) | (first | apply H.nil | apply H.then_normal) | (first | apply H.ret | apply H.then_ret))
        refine H.weakL le1 ?_
        refine H.drop (.here _ _) ?_
        exact H.ret1 rfl rfl (fun _ h => h) ⟨rfl, rfl, rfl⟩
      · obtain ⟨b, off, rfl, rdA⟩ := hwat.a.all MV.len (by decide) (by omega)
        obtain ⟨a, ha⟩ : ∃ a, a = pick.toNat % l.length := ⟨_, rfl⟩
        have hal : a < l.length := by rw [ha]; exact Nat.mod_lt _ (by omega)
        obtain ⟨y, hy⟩ : ∃ y, l[a]? = some y := ⟨_, List.getElem?_eq_getElem hal⟩
        have hym : W.all[a]? = some y.m := by rw [← hlm, List.getElem?_map, hy]; rfl
        have hyg := hwat.g y (List.mem_of_getElem? hy)
        have hl0 : ((l.length : Nat) : Int) ≠ 0 := by omega
        have hout := Msg.may_outer (hinv.ok.may hym)
        have hmok := hinv.ok a y.m hym
        have hview := (Bod.may_spec (Msg.may_body (hinv.ok.may hym))).2.1
        repeat (first | ((first | apply H.move | apply H.assign | apply H.nilCheck | apply H.len_slice); (iterate 3 exact rfl)) | (apply H.fieldAddr; (iterate 3 exact rfl); exact inferInstance; exact rfl) | (apply H.load1; (iterate 3 exact rfl); apply Rd1.ofRow; (repeat (exact .here _ _ _)); (iterate 2 exact rfl)) | (first | apply H.seq | apply H.region | apply H.nil | apply H.then_normal) | ((apply H.cmp); (iterate 5 exact rfl)) | (apply H.skip) | (apply H.cond_no; exact rfl; (assumption)))
        refine H.callE rfl rfl rfl (lnew_fn f1 _ (fewz_odd hn8)) fun lb => ?_
        repeat (first | ((first | apply H.move | apply H.assign | apply H.nilCheck | apply H.len_slice); (iterate 3 exact rfl)) | (apply H.fieldAddr; (iterate 3 exact rfl); exact inferInstance; exact rfl) | (apply H.load1; (iterate 3 exact rfl); apply Rd1.ofRow; (repeat (first | exact .here _ _ _ | apply At.there)); (iterate 2 exact rfl)) | (first | apply H.seq | apply H.region | apply H.nil | apply H.then_normal) | ((apply H.cmp); (iterate 5 exact rfl)) | ((apply H.conv_int; (iterate 2 exact rfl)); (with_reducible apply wr_i64; omega); exact rfl) | ((first | apply H.pickF | apply H.extract); (iterate 4 exact rfl)) | ((apply H.ptrNil); (iterate 5 exact rfl)) | (apply H.cond_false; exact rfl) | (apply H.skip))
        refine H.rem (z := ((a : Nat) : Int)) rfl rfl rfl hl0 (tmod_nat (a := pick.toNat) (b := l.length) ha.symm) rfl ?_
        repeat (first | ((apply H.assign); (iterate 3 exact rfl)) | (first | apply H.seq | apply H.region | apply H.nil | apply H.then_normal) | (apply H.block))
        refine H.loop (ι := Nat × Frag × List MV) (fun s => [(15, .int .i64 (s.1 : Int)), (11, .pointer (some ⟨wb, 0, none⟩)), (12, .pointer (some ⟨lb, 0, none⟩)), (14, .int .i64 (a : Int)), (3, .int .u8 (what.toNat : Nat)), (4, .int .u8 (by8.toNat : Nat))]) (fun s => s.2.1)
          (fun s => loreH s.2.1 lb n s.2.2 :: row wb 34 (worldC kb n (some ⟨b, off, none⟩) l.length ac) :: F)
          (fun s => s.1 ≤ a ∧ Le f1 s.2.1 ∧ s.2.2.map MV.m = W.all.take s.1) (fun s => a - s.1) (0, f1, []) ⟨Nat.zero_le _, Le.refl f1, rfl⟩ ⟨rfl, rfl, rfl, rfl, rfl, rfl, trivial⟩ rfl rfl fun s hs => ?_
        obtain ⟨i, e, L⟩ := s
        obtain ⟨hi, hle, hL⟩ : i ≤ a ∧ Le f1 e ∧ L.map MV.m = W.all.take i := hs
        have hLl : L.length ≤ i := by
          have := congrArg List.length hL
          rw [List.length_map, List.length_take] at this
          omega
        show H _ _ _ [(15, .int .i64 (i : Int)), _, _, _, _, _] e (loreH e lb n L :: _ :: F) _
        by_cases hlt : i < a
        · obtain ⟨yi, hyi⟩ : ∃ yi, l[i]? = some yi := ⟨_, List.getElem?_eq_getElem (by omega)⟩
          have hyim : W.all[i]? = some yi.m := by rw [← hlm, List.getElem?_map, hyi]; rfl
          have hyig := (hwat.g yi (List.mem_of_getElem? hyi)).mono hle
          have hc0 : chk n (strm (L.map MV.m)) yi.m = 0 := by rw [hL]; exact hinv.ok.next hyim
          have hnx : W.all.take (i + 1) = W.all.take i ++ [yi.m] := take_snoc hyim
          repeat (first | ((first | apply H.move | apply H.nilCheck); (iterate 3 exact rfl)) | (apply H.fieldAddr; (iterate 3 exact rfl); exact inferInstance; exact rfl) | (apply H.load1; (iterate 3 exact rfl); apply Rd1.ofRow; (repeat (first | exact .here _ _ _ | apply At.there)); (iterate 2 exact rfl)) | (first | apply H.seq | apply H.region | apply H.nil | apply H.then_normal) | ((apply H.cmp); (iterate 5 exact rfl)) | (first | apply H.skip | apply H.block) | (apply H.cond_yes; exact rfl; (omega)))
          refine H.index_slice (i := i) rfl rfl rfl rfl (by omega) rfl ?_
          refine H.loadN (ls := yi.vals) rfl rfl rfl (rdA _ _ _ _ hle hyi) rfl rfl ?_
          refine H.call (R := AddP e _ lb n L yi.m) rfl rfl rfl (ladd_fn e _ (tab_mono htab (le1.trans hle)) (Le.refl e) hyig (by omega)) fun v f' A' hr => ?_
          obtain ⟨g2, q2, c2, rfl, hd2, rfl, rfl⟩ := hr
          rw [hc0, if_pos rfl]
          have hle2 := hle.trans (Le.un e g2)
          generalize un e g2 = e2 at hle2 ⊢
          have hL2 : (L ++ [(⟨yi.m, q2, c2⟩ : MV)]).map MV.m = W.all.take (i + 1) := by rw [List.map_append, hL, hnx]; rfl
          repeat (first | ((first | apply H.move | apply H.assign); (iterate 3 exact rfl)) | (first | apply H.region | apply H.nil | apply H.then_normal) | ((apply H.cmp); (iterate 5 exact rfl)) | ((apply H.ar; (iterate 4 exact rfl)); (with_reducible apply wr_i64_n1; omega); exact rfl) | (apply H.cond_false; exact rfl) | (first | apply H.skip | apply H.in_normal))
          exact H.again (i + 1, e2, L ++ [⟨yi.m, q2, c2⟩]) ⟨by show i + 1 ≤ a; omega, hle2, hL2⟩ (by show a - (i + 1) < a - i; omega) ⟨rfl, rfl, rfl, rfl, rfl, rfl, trivial⟩ rfl rfl
        · have hia : i = a := by omega
          subst hia
          have hc0 : chk n (strm (L.map MV.m)) y.m = 0 := by rw [hL]; exact hinv.ok.next hym
          repeat (first | ((first | apply H.move | apply H.nilCheck); (iterate 3 exact rfl)) | (apply H.fieldAddr; (iterate 3 exact rfl); exact inferInstance; exact rfl) | (apply H.load1; (iterate 3 exact rfl); apply Rd1.ofRow; (repeat (first | exact .here _ _ _ | apply At.there)); (iterate 2 exact rfl)) | (first | apply H.seq | apply H.region | apply H.nil | apply H.then_normal) | ((apply H.cmp); (iterate 5 exact rfl)) | (first | apply H.then_exit | apply H.exit | apply H.in_hit | apply H.loop_exit) | (apply H.cond_no; exact rfl; (omega)))
          refine H.index_slice (i := i) rfl rfl rfl rfl hal rfl ?_
          refine H.loadN (ls := y.vals) rfl rfl rfl (rdA _ _ _ _ hle hy) rfl rfl ?_
          refine H.alloc (ls := msgZ.vals none 0) rfl rfl rfl fun mb => ?_
          refine H.storeN (ls := msgZ.vals none 0) (vs := y.vals) (ls' := y.vals) rfl rfl rfl (allOne_mem rfl) rfl rfl (Nat.le_refl 121) (.here _ _ _) ?_
          repeat (first | ((apply H.move); (iterate 3 exact rfl)) | (first | apply H.seq | apply H.region | apply H.nil | apply H.then_normal))
          refine H.rem (z := ((what.toNat % 5 : Nat) : Int)) rfl rfl rfl (by decide) (tmod_nat (b := 5) rfl) rfl ?_
          refine H.nil ?_
          refine H.then_normal ?_
          refine H.cut (ι := Msg) (fun _ => [(11, .pointer (some ⟨wb, 0, none⟩)), (12, .pointer (some ⟨lb, 0, none⟩)), (14, .int .i64 (i : Int)), (16, .pointer (some ⟨mb, 0, none⟩))]) (fun _ => e)
            (fun m => row mb 47 (m.vals y.qp y.qc) :: loreH e lb n L :: row wb 34 (worldC kb n (some ⟨b, off, none⟩) l.length ac) :: F)
            (fun m => (⟨m, y.qp, y.qc⟩ : MV).Good e) _ (fun m hmg => ?_) ?_
          · skip
            have htab2 := tab_mono htab (le1.trans hle)
            repeat (first | ((apply H.move); (iterate 3 exact rfl)) | (first | apply H.seq | apply H.region))
            refine H.loadN (ls := m.vals y.qp y.qc) rfl rfl rfl (Rd.ofRow (.here _ _ _)) rfl rfl ?_
            refine H.front (x := loreH _ _ _ _) (by repeat (first | exact .here _ _ | apply Pull.there)) ?_
            have hck : ∀ G, Fn Tryz.prog 23 [.pointer (some ⟨lb, 0, none⟩), .agg (m.vals y.qp y.qc).toArray] e (loreH e lb n L :: G) (Ret (.int .i64 (chk n (strm (L.map MV.m)) m)) e (loreH e lb n L :: G)) := fun G => lcheck_fn e G htab2 hmg
            have hrt : ∀ G, Fn Tryz.prog 24 [.agg (m.vals y.qp y.qc).toArray] e G (Ret (.bool m.right) e G) := fun G => rmright_fn e G hmg
            refine H.callR rfl rfl rfl (hck _) ?_
            repeat (first | ((apply H.assign); (iterate 3 exact rfl)) | (first | apply H.seq | apply H.region | apply H.nil | apply H.then_normal))
            refine H.loadN (ls := m.vals y.qp y.qc) rfl rfl rfl (Rd.ofRow (.there _ (.here _ _ _))) rfl rfl ?_
            refine H.callR rfl rfl rfl (hrt _) ?_
            cases hr : m.right with
            | true =>
              repeat (first | (first | apply H.seq | apply H.region | apply H.nil | apply H.then_normal) | (apply H.cond_true; exact rfl))
              refine H.callR rfl rfl rfl (works12_fn e _ htab2) ?_
              repeat (first | ((apply H.assign); (iterate 3 exact rfl)) | (first | apply H.nil | apply H.then_normal) | (first | apply H.ret | apply H.then_ret))
              refine H.weakL (le1.trans hle) ?_
              refine H.drop (.here _ _) ?_
              refine H.drop (.here _ _) ?_
              refine H.drop (.here _ _) ?_
              exact H.ret1 rfl rfl (fun _ h => h) ⟨rfl, rfl, rfl⟩
            | false =>
              have hne := chk_right (n := n) (S := strm (L.map MV.m)) hr
              have hadd := fun G => ladd_fn e G htab2 (Le.refl e) (lb := lb) (n := n) (l := L) (x := ⟨m, y.qp, y.qc⟩) hmg (by omega)
              have hadd2 : ∀ G, Fn Tryz.prog 19 [.pointer (some ⟨lb, 0, none⟩), .agg (m.vals y.qp y.qc).toArray] e (loreH e lb n L :: G) (fun v f' A' => ∃ g, v = .int .i64 (chk n (strm (L.map MV.m)) m) ∧ Dj e g ∧ f' = un e g ∧ A' = loreH f' lb n L :: G) := fun G => (hadd G).mono fun v f' A' hh => by
                obtain ⟨g, q, c, e1, e2, e3, e4⟩ := hh
                have hne2 : ¬ (chk n (strm (L.map MV.m)) (⟨m, y.qp, y.qc⟩ : MV).m = 0) := hne
                rw [if_neg hne2] at e4
                exact ⟨g, e1, e2, e3, e4⟩
              clear hadd hck hrt
              generalize chk n (strm (L.map MV.m)) m = z at *
              repeat (first | ((apply H.move); (iterate 3 exact rfl)) | (first | apply H.seq | apply H.region | apply H.nil | apply H.then_normal) | (apply H.cond_false; exact rfl) | (apply H.skip))
              refine H.callR rfl rfl rfl (known_fn e _) ?_
              refine H.alloc (ls := v11 fun _ => 0) rfl rfl rfl fun kb2 => ?_
              refine H.storeN (ls := v11 fun _ => 0) (vs := v11 (knownS (strm (L.map MV.m)))) (ls' := v11 (knownS (strm (L.map MV.m)))) rfl rfl rfl (allOne_mem rfl) rfl rfl (Nat.le_refl 11) (.here _ _ _) ?_
              repeat ((first | apply H.seq | apply H.nil | apply H.then_normal))
              refine H.front (x := row wb _ _) (by repeat (first | exact .here _ _ | apply Pull.there)) ?_
              refine H.front (x := row mb _ _) (by repeat (first | exact .here _ _ | apply Pull.there)) ?_
              refine H.front (x := row kb2 _ _) (by repeat (first | exact .here _ _ | apply Pull.there)) ?_
              refine H.drawB (by kernel_rfl) (by decide +kernel) (by first | exact blind_fn | exact blind_seq blind_fn | exact blind_seq (blind_seq blind_fn) | (repeat (first | exact blind_fn | refine blind_seq ?_ | refine blind_block ?_ | refine blind_loop ?_))) (S := [_, _, _]) rfl ?_
              refine HB.quiet [(0, false), (1, false), (2, false), (3, false), (4, false), (6, false)] 25 (by kernel_rfl) ?_
              repeat (first | ((apply HQ.move); (iterate 3 exact rfl)) | ((apply HQ.cmp); (iterate 5 exact rfl)) | (apply HQ.gyes; (iterate 3 exact rfl); (assumption)))
              refine HQ.loadN (ls := m.vals y.qp y.qc) rfl rfl rfl (Rd.ofRow (.there _ (.here _ _ _))) rfl rfl ?_
              repeat (((apply HQ.move); (iterate 3 exact rfl)))
              refine HQ.more rfl ?_
              refine HB.ev1 (i := 5) (by kernel_rfl) rfl ?_
              refine H.front (x := loreH _ _ _ _) (by repeat (first | exact .here _ _ | apply Pull.there)) ?_
              refine H.call rfl rfl rfl (hadd2 _) fun v f' A' hr2 => ?_
              obtain ⟨g2, rfl, hd2, rfl, rfl⟩ := hr2
              have hle2 := hle.trans (Le.un e g2)
              have hle3 := Le.un e g2
              generalize un e g2 = e2 at hle2 hle3 ⊢
              repeat ((apply H.nil))
              refine H.front (x := row wb _ _) (by repeat (first | exact .here _ _ | apply Pull.there)) ?_
              refine H.front (x := row mb _ _) (by repeat (first | exact .here _ _ | apply Pull.there)) ?_
              refine H.front (x := row kb2 _ _) (by repeat (first | exact .here _ _ | apply Pull.there)) ?_
              refine H.on [] hle3 rfl ?_
              refine HB.quiet [(7, false), (8, false), (9, false), (10, false), (12, false)] 19 (by kernel_rfl) ?_
              repeat (first | ((apply HQ.move); (iterate 3 exact rfl)) | ((apply HQ.cmp); (iterate 5 exact rfl)) | (apply HQ.pickT; (iterate 4 exact rfl)) | (apply HQ.gyes; (iterate 3 exact rfl); (omega)))
              refine HQ.loadN (ls := v11 (knownS (strm (L.map MV.m)))) rfl rfl rfl (Rd.ofRow (.here _ _ _)) rfl rfl ?_
              refine HQ.more rfl ?_
              refine HB.ev1 (i := 11) (by kernel_rfl) rfl ?_
              refine H.front (x := loreH _ _ _ _) (by repeat (first | exact .here _ _ | apply Pull.there)) ?_
              refine H.callR rfl rfl rfl (known_fn e2 _) ?_
              repeat ((apply H.nil))
              refine H.front (x := row wb _ _) (by repeat (first | exact .here _ _ | apply Pull.there)) ?_
              refine H.front (x := row mb _ _) (by repeat (first | exact .here _ _ | apply Pull.there)) ?_
              refine H.front (x := row kb2 _ _) (by repeat (first | exact .here _ _ | apply Pull.there)) ?_
              refine H.on0 rfl ?_
              refine HB.quiet [(13, false), (14, false), (15, false), (16, false), (17, false), (18, false), (19, false), (20, false), (21, false), (22, false), (23, false)] 7 (by kernel_rfl) ?_
              refine HQ.aggEq (xs := v11 (knownS (strm (L.map MV.m)))) (ys := v11 (knownS (strm (L.map MV.m)))) (D := 4) rfl rfl rfl rfl (by kernel_rfl) (by kernel_rfl) (by kernel_rfl) (by kernel_rfl) (by decide) (eqC_refl rfl) rfl ?_
              repeat (first | ((first | apply HQ.move | apply HQ.nilCheck); (iterate 3 exact rfl)) | (apply HQ.fieldAddr; (iterate 3 exact rfl); exact inferInstance; exact rfl) | (apply HQ.load1; (iterate 3 exact rfl); apply Rd1.ofRow; (repeat (first | exact .here _ _ _ | apply At.there)); (iterate 2 exact rfl)) | (apply HQ.pickT; (iterate 4 exact rfl)))
              refine HQ.index_slice (i := i) rfl rfl rfl rfl hal rfl ?_
              refine HQ.loadN (ls := y.vals) rfl rfl rfl (rdA _ _ _ _ hle2 hy) rfl rfl ?_
              refine HQ.more rfl ?_
              refine HB.ev1 (i := 24) (by kernel_rfl) rfl ?_
              refine H.front (x := loreH _ _ _ _) (by repeat (first | exact .here _ _ | apply Pull.there)) ?_
              refine H.call (R := AddP e2 _ lb n L y.m) rfl rfl rfl (ladd_fn e2 _ (tab_mono htab (le1.trans hle2)) (Le.refl e2) (hyg.mono hle2) (by omega)) fun v f' A' hr2 => ?_
              obtain ⟨g3, q3, c3, rfl, hd3, rfl, rfl⟩ := hr2
              rw [hc0, if_pos rfl]
              have hle4 := hle2.trans (Le.un e2 g3)
              have hle5 := Le.un e2 g3
              generalize un e2 g3 = e3 at hle4 hle5 ⊢
              repeat ((apply H.nil))
              refine H.front (x := row wb _ _) (by repeat (first | exact .here _ _ | apply Pull.there)) ?_
              refine H.front (x := row mb _ _) (by repeat (first | exact .here _ _ | apply Pull.there)) ?_
              refine H.front (x := row kb2 _ _) (by repeat (first | exact .here _ _ | apply Pull.there)) ?_
              refine H.on [] hle5 rfl ?_
              refine HB.quiet [(25, false), (26, false), (27, false)] 3 (by kernel_rfl) ?_
              repeat (first | ((apply HQ.move); (iterate 3 exact rfl)) | ((apply HQ.cmp); (iterate 5 exact rfl)) | (apply HQ.pickT; (iterate 4 exact rfl)))
              refine HQ.more rfl ?_
              refine HB.ev1 (i := 28) (by kernel_rfl) rfl ?_
              refine H.callR rfl rfl rfl (works12_fn e3 _ (tab_mono htab (le1.trans hle4))) ?_
              repeat ((apply H.nil))
              refine H.on0 rfl ?_
              refine HB.quiet [(29, false), (30, false)] 0 (by kernel_rfl) ?_
              repeat (first | ((apply HQ.assign); (iterate 3 exact rfl)) | (apply HQ.pickT; (iterate 4 exact rfl)))
              refine HQ.more rfl ?_
              refine HB.done (by kernel_rfl) ?_
              repeat (first | (apply H.then_normal) | (apply H.ret))
              refine H.weakL (le1.trans hle4) ?_
              refine H.drop (.here _ _) ?_
              refine H.drop (.here _ _) ?_
              refine H.drop (.here _ _) ?_
              refine H.drop (.here _ _) ?_
              exact H.ret1 rfl rfl (fun _ h => h) ⟨rfl, rfl, rfl⟩
          · skip
            obtain ⟨o1, o2, o3, o4, _, _⟩ := hout
            have hye : y.Good e := hyg.mono hle
            have hcases : what.toNat % 5 = 0 ∨ what.toNat % 5 = 1 ∨ what.toNat % 5 = 2 ∨ what.toNat % 5 = 3 ∨ what.toNat % 5 = 4 := by omega
            refine H.front (x := row wb _ _) (by repeat (first | exact .here _ _ | apply Pull.there)) ?_
            refine H.front (x := loreH _ _ _ _) (by repeat (first | exact .here _ _ | apply Pull.there)) ?_
            refine H.front (x := row mb _ _) (by repeat (first | exact .here _ _ | apply Pull.there)) ?_
            have hv0 := hye.2.2.1
            rcases hcases with hw | hw | hw | hw | hw
            · have hb4 : ((by8.toNat % 4 : Nat) : Int) ≤ 3 := by omega
              repeat (first | ((first | apply H.move | apply H.assign); (iterate 3 exact rfl)) | (apply H.fieldAddr; (iterate 3 exact rfl); exact inferInstance; exact rfl) | (apply H.load1; (iterate 3 exact rfl); apply Rd1.ofRow; (repeat (exact .here _ _ _)); (iterate 2 exact rfl)) | (first | apply H.seq | apply H.region | apply H.nil | apply H.then_normal) | ((apply H.cmp); (iterate 5 exact rfl)) | (apply H.block) | (apply H.cond_yes; exact rfl; (omega)))
              refine H.rem (z := ((by8.toNat % 4 : Nat) : Int)) rfl rfl rfl (by decide) (tmod_nat (b := 4) rfl) rfl ?_
              repeat (first | (apply H.fieldAddr; (iterate 3 exact rfl); exact inferInstance; exact rfl) | (apply H.nil) | ((first | (apply H.ar; (iterate 4 exact rfl)) | (apply H.conv_int; (iterate 2 exact rfl))); (with_reducible apply wr_u64; omega); exact rfl) | (apply H.store1; (iterate 4 exact rfl); (repeat (exact .here _ _ _)); (repeat (first | exact .here _ _ _ | apply SetV.there))) | (apply H.in_normal))
              exact H.meet ({ y.m with number := y.m.number + (1 + ((by8.toNat % 4 : Nat) : Int)) } : Msg) hye ⟨rfl, rfl, rfl, rfl, trivial⟩ rfl rfl
            · repeat (first | ((first | apply H.move | apply H.assign | apply H.nilCheck | apply H.len_slice | apply H.len_string | apply H.cap_slice); (iterate 3 exact rfl)) | (apply H.fieldAddr; (iterate 3 exact rfl); exact inferInstance; exact rfl) | (apply H.load1; (iterate 3 exact rfl); apply Rd1.ofRow; (repeat (first | exact .here _ _ _ | apply At.there)); (iterate 2 exact rfl)) | (first | apply H.seq | apply H.region | apply H.nil | apply H.then_normal) | ((first | apply H.cmp | apply H.build); (iterate 5 exact rfl)) | ((first | (apply H.ar; (iterate 4 exact rfl)) | (apply H.conv_int; (iterate 2 exact rfl))); (first | (with_reducible apply wr_i64_s1; omega) | (with_reducible apply wr_i64_n1; omega) | (with_reducible apply wr_i64_nn; omega) | (with_reducible apply wr_i64; omega) | (with_reducible apply wr_u64; omega) | (with_reducible apply wr_u8; omega) | (with_reducible apply wr_u16; omega) | rfl); exact rfl) | (apply H.pass; (iterate 2 exact rfl)) | (apply H.pass0; exact rfl) | (apply H.pickT; (iterate 4 exact rfl)) | ((first | apply H.pickF | apply H.extract | apply H.not | apply H.makeFunc); (iterate 4 exact rfl)) | ((first | apply H.ptrNil | apply H.sliceNil); (iterate 5 exact rfl)) | (apply H.store1; (iterate 4 exact rfl); (repeat (first | exact .here _ _ _ | apply At.there)); (repeat (first | exact .here _ _ _ | apply SetV.there))) | (apply H.cond_true; exact rfl) | (apply H.cond_false; exact rfl) | (first | apply H.skip | apply H.ret | apply H.then_ret | apply H.then_exit | apply H.exit | apply H.block | apply H.in_normal | apply H.in_ret | apply H.in_hit | apply H.loop_ret | apply H.loop_exit) | (apply H.in_miss; exact rfl) | (apply H.gyes; (iterate 3 exact rfl); (first | assumption | omega)) | (apply H.gno; (iterate 3 exact rfl); (first | assumption | omega)) | (apply H.cond_yes; exact rfl; (first | assumption | omega)) | (apply H.cond_no; exact rfl; (first | assumption | omega)) | ((first | apply H.gtrue); (iterate 3 exact rfl); assumption) | (apply H.gfalse; (iterate 3 exact rfl); assumption) | (apply H.cond_t; exact rfl; assumption) | (apply H.cond_f; exact rfl; assumption))
              exact H.meet ({ y.m with body := { y.m.body with view := y.m.body.view + (1 + ((by8.toNat : Nat) : Int)) } } : Msg) ⟨hye.1, hye.2.1, ⟨by show 0 ≤ y.m.body.view + (1 + ((by8.toNat : Nat) : Int)); omega, by show y.m.body.view + (1 + ((by8.toNat : Nat) : Int)) ≤ _; omega⟩, hye.2.2.2⟩ ⟨rfl, rfl, rfl, rfl, trivial⟩ rfl rfl
            · have hk : by8.toNat % 11 < 11 := Nat.mod_lt _ (by decide)
              have hdk := hmok.dep (by8.toNat % 11) hk
              have hcl := cnt_len (W.all.take i) (by8.toNat % 11)
              rw [List.length_take] at hcl
              repeat (first | ((first | apply H.move | apply H.assign); (iterate 3 exact rfl)) | (first | apply H.seq | apply H.region | apply H.nil | apply H.then_normal) | ((apply H.cmp); (iterate 5 exact rfl)) | ((apply H.conv_int; (iterate 2 exact rfl)); (with_reducible apply wr_i64; omega); exact rfl) | (apply H.block) | (apply H.cond_yes; exact rfl; (omega)) | (apply H.cond_no; exact rfl; (omega)))
              refine H.rem (z := ((by8.toNat % 11 : Nat) : Int)) rfl rfl rfl (by decide) (tmod_nat (b := 11) rfl) rfl ?_
              generalize by8.toNat % 11 = k at *
              repeat ((apply H.fieldAddr; (iterate 3 exact rfl); exact inferInstance; exact rfl))
              refine H.index_array (i := k) rfl rfl rfl rfl hk rfl ?_
              refine H.load1 rfl rfl rfl (by rw [Nat.mul_one]; exact Rd1.of (msg_deps (m := y.m) (q := y.qp) (qc := y.qc) (.here _ _ _)) (v11_get y.m.deps hk)) rfl ?_
              repeat (first | (apply H.fieldAddr; (iterate 3 exact rfl); exact inferInstance; exact rfl) | ((apply H.ar; (iterate 4 exact rfl)); (with_reducible apply wr_u64; omega); exact rfl))
              refine H.index_array (i := k) rfl rfl rfl rfl hk rfl ?_
              refine H.store1 (ls := y.vals) (ls' := ({ y.m with deps := updF y.m.deps k (y.m.deps k + 1) } : Msg).vals y.qp y.qc) rfl rfl rfl rfl (.here _ _ _) (msg_setdeps y.m y.qp y.qc _ hk) ?_
              repeat (first | (apply H.nil) | (apply H.in_normal))
              exact H.meet ({ y.m with deps := updF y.m.deps k (y.m.deps k + 1) } : Msg) hye ⟨rfl, rfl, rfl, rfl, trivial⟩ rfl rfl
            · have hk : by8.toNat % 32 < 32 := Nat.mod_lt _ (by decide)
              have hk8 : by8.toNat % 8 < 8 := Nat.mod_lt _ (by decide)
              repeat (first | ((first | apply H.move | apply H.assign); (iterate 3 exact rfl)) | (first | apply H.seq | apply H.region | apply H.nil | apply H.then_normal) | ((apply H.cmp); (iterate 5 exact rfl)) | ((apply H.conv_int; (iterate 2 exact rfl)); (with_reducible apply wr_i64; omega); exact rfl) | (apply H.block) | (apply H.cond_yes; exact rfl; (omega)) | (apply H.cond_no; exact rfl; (omega)))
              refine H.rem (z := ((by8.toNat % 32 : Nat) : Int)) rfl rfl rfl (by decide) (tmod_nat (b := 32) rfl) rfl ?_
              generalize by8.toNat % 32 = k at *
              repeat ((apply H.fieldAddr; (iterate 3 exact rfl); exact inferInstance; exact rfl))
              refine H.index_array (i := k) rfl rfl rfl rfl hk rfl ?_
              refine H.load1 rfl rfl rfl (by rw [Nat.mul_one]; exact Rd1.of (msg_tag (m := y.m) (q := y.qp) (qc := y.qc) (.here _ _ _)) (b32_get y.m.tag hk)) rfl ?_
              repeat (((apply H.move); (iterate 3 exact rfl)))
              refine H.rem (z := ((by8.toNat % 8 : Nat) : Int)) rfl rfl rfl (by decide) (tmod_nat (b := 8) rfl) rfl ?_
              refine H.shift rfl rfl rfl (shl1 hk8) (by omega) rfl rfl ?_
              refine H.bits (op := .xor) rfl rfl rfl (u8_xor _ _) rfl rfl ?_
              repeat ((apply H.fieldAddr; (iterate 3 exact rfl); exact inferInstance; exact rfl))
              refine H.index_array (i := k) rfl rfl rfl rfl hk rfl ?_
              refine H.store1 (ls := y.vals) (ls' := ({ y.m with tag := setT y.m.tag k (y.m.tag k ^^^ UInt8.ofNat (2 ^ (by8.toNat % 8))) } : Msg).vals y.qp y.qc) rfl rfl rfl rfl (.here _ _ _) (msg_settag y.m y.qp y.qc _ hk) ?_
              repeat (first | (apply H.nil) | (apply H.in_normal))
              exact H.meet ({ y.m with tag := setT y.m.tag k (y.m.tag k ^^^ UInt8.ofNat (2 ^ (by8.toNat % 8))) } : Msg) hye ⟨rfl, rfl, rfl, rfl, trivial⟩ rfl rfl
            · obtain ⟨r, hrn, hrz⟩ := tmod_lt (z := y.m.origin) (n := n) (by omega) (by omega)
              repeat (first | ((apply H.assign); (iterate 3 exact rfl)) | (first | apply H.seq | apply H.region | apply H.nil | apply H.then_normal) | ((apply H.cmp); (iterate 5 exact rfl)) | (apply H.block) | (apply H.cond_no; exact rfl; (omega)))
              refine H.front (x := row wb _ _) (by repeat (first | exact .here _ _ | apply Pull.there)) ?_
              refine H.front (x := row mb _ _) (by repeat (first | exact .here _ _ | apply Pull.there)) ?_
              refine H.drawC [0, 1, 2, 3, 4, 5, 6, 7, 8, 9] (by kernel_rfl) (by decide +kernel) (by first | exact blind_fn | exact blind_seq blind_fn | exact blind_seq (blind_seq blind_fn) | (repeat (first | exact blind_fn | refine blind_seq ?_ | refine blind_block ?_ | refine blind_loop ?_))) (S := [_, _]) rfl ?_
              refine HB.quiet [(0, false), (1, false), (2, false), (3, false), (4, false), (5, false), (6, false), (7, false), (8, false), (9, false)] 1 (by kernel_rfl) ?_
              repeat (first | ((first | apply HQ.move | apply HQ.nilCheck | apply HQ.len_slice); (iterate 3 exact rfl)) | (apply HQ.fieldAddr; (iterate 3 exact rfl); exact inferInstance; exact rfl) | (apply HQ.load1; (iterate 3 exact rfl); apply Rd1.ofRow; (repeat (first | exact .here _ _ _ | apply At.there)); (iterate 2 exact rfl)))
              refine HQ.rem (z := ((r : Nat) : Int)) rfl rfl rfl hn0 hrz rfl ?_
              repeat (first | (apply HQ.fieldAddr; (iterate 3 exact rfl); exact inferInstance; exact rfl) | ((apply HQ.ar; (iterate 4 exact rfl)); (with_reducible apply wr_i64; omega); exact rfl))
              refine HQ.more rfl ?_
              refine HB.next [] (by kernel_rfl) (S' := []) rfl ?_
              refine HB.ev1 (i := 10) (by kernel_rfl) rfl ?_
              refine H.store1 (ls := y.vals) (ls' := ({ y.m with origin := 1 + ((r : Nat) : Int) } : Msg).vals y.qp y.qc) rfl rfl rfl rfl (.here _ _ _) (.here _ _ _) ?_
              repeat ((apply H.nil))
              refine H.on0 rfl ?_
              refine HB.done (by kernel_rfl) ?_
              repeat ((apply H.in_normal))
              refine H.front (x := loreH _ _ _ _) (by repeat (first | exact .here _ _ | apply Pull.there)) ?_
              refine H.front (x := row mb _ _) (by repeat (first | exact .here _ _ | apply Pull.there)) ?_
              exact H.meet ({ y.m with origin := 1 + ((r : Nat) : Int) } : Msg) hye ⟨rfl, rfl, rfl, rfl, trivial⟩ rfl rfl
    · skip
      refine Fn.enter Tryz.func4 rfl Tryz.ntmps4 rfl (L := [(0, _), (1, _), (2, _), (3, _), (4, _)]) ⟨rfl, rfl, rfl, rfl, rfl, trivial⟩ fun base => ?_
      repeat (first | ((first | apply H.move | apply H.assign); (iterate 3 exact rfl)) | (first | apply H.seq | apply H.region | apply H.nil | apply H.then_normal))
      refine H.callR rfl rfl rfl hfew ?_
      refine H.not (b := _) (c := _) rfl rfl rfl rfl ?_
      repeat (first | ((first | apply H.move | apply H.len_slice); (iterate 3 exact rfl)) | (first | apply H.seq | apply H.region | apply H.nil | apply H.then_normal) | ((apply H.cmp); (iterate 5 exact rfl)) | ((apply H.pickF); (iterate 4 exact rfl)) | (apply H.cond_yes; exact rfl; (omega)))
      refine H.callR rfl rfl rfl (works12_fn f _ htab) ?_
      repeat (first | ((apply H.assign); (iterate 3 exact rfl)) | (first | apply H.nil | apply H.then_normal) | (first | apply H.ret | apply H.then_ret))
      exact H.ret1 rfl rfl (fun _ h => h) ⟨rfl, rfl, rfl⟩
end
end Go.Proofs.YtoigpgdmignaoaaGreatDoor

/- Layer 12: acts that a law is given. -/
namespace Go.Proofs.YtoigpgdmignaoaaGreatDoor
set_option linter.unusedSectionVars false
set_option linter.unusedSimpArgs false
set_option linter.unusedVariables false
open Go Go.ChangeShapes Go.WideShapes Go.RowKit Go.Deep
theorem Reads.bool {P : Program} {W : World} {t : TypeId} {cs : List Value} (ht : P.underlying t = some .bool) (h : Reads P W t cs) : ∃ b, cs = [.bool b] := by
  obtain ⟨H', enc, b, sp, hd, n, x, h⟩ := h
  obtain ⟨z, h1, _⟩ := DataW.trod_bool ht h
  exact ⟨z, h1⟩
theorem Reads.u8 {W : World} {cs : List Value} (h : Reads Tryz.prog W 5 cs) : ∃ x : UInt8, cs = [.int .u8 (x.toNat : Nat)] := by
  obtain ⟨x, _, e⟩ := reads_byte h
  exact ⟨x, e⟩
set_option maxHeartbeats 4000000 in
theorem reads_a12 {W : World} {cs : List Value} (h : Reads Tryz.prog W 113 cs) : ∃ x : A12, x.Has (memOf W) ∧ cs = x.vals := by
  obtain ⟨ps, rfl, hh⟩ := h.parts Tryz.underlying113 (by kernel_rfl)
  have h : AllReads Tryz.prog W [5, 5, 4, 5, 5, 5, 5, 55] ps := hh
  match ps, h with
  | [p0, p1, p2, p3, p4, p5, p6, p7], ⟨r0, r1, r2, r3, r4, r5, r6, r7, _⟩ =>
    obtain ⟨z0, rfl⟩ := r0.u8
    obtain ⟨z1, rfl⟩ := r1.u8
    obtain ⟨b2, rfl⟩ := r2.bool Tryz.underlying4
    obtain ⟨z3, rfl⟩ := r3.u8
    obtain ⟨z4, rfl⟩ := r4.u8
    obtain ⟨z5, rfl⟩ := r5.u8
    obtain ⟨z6, rfl⟩ := r6.u8
    obtain ⟨p, c, xs, rfl, _, _, _, hat⟩ := r7.list (sz := 1) Tryz.underlying55 (by kernel_rfl) (by decide) fun cs => reads_byte
    exact ⟨⟨z0, z1, b2, z3, z4, z5, z6, xs, p, c⟩, listAt_bat hat, rfl⟩
theorem ArgOk.u8 {W : World} {v : Value} (h : ArgOk Tryz.prog W 5 v) : ∃ x : UInt8, v = .int .u8 (x.toNat : Nat) := by
  obtain ⟨z, rfl, hz⟩ := h.int Tryz.underlying5
  exact ⟨UInt8.ofNat z.toNat, by rw [u8_back hz]⟩
theorem ArgOk.acts {W : World} {v : Value} (h : ArgOk Tryz.prog W 22 v) : ∃ (p : Option Addr) (c : Nat) (xs : List A12), v = .slice p xs.length c ∧ xs.length ≤ 9223372036854775807 ∧ (∀ x ∈ xs, x.Has (memOf W)) ∧ ListAt (memOf W) p 8 A12.vals xs := by
  obtain ⟨p, c, xs, rfl, h1, h2, hq, hat⟩ := h.list (sz := 8) Tryz.underlying22 (by kernel_rfl) (by decide) fun cs => reads_a12
  exact ⟨p, c, xs, rfl, by have : maxLen ≤ 9223372036854775807 := by decide
                           omega, hq, hat⟩
end Go.Proofs.YtoigpgdmignaoaaGreatDoor

/- Rows whose laws read the table of sha: what is given of the program, and what the row's condition says. -/
namespace Go.Proofs.YtoigpgdmignaoaaGreatDoor
set_option linter.unusedSectionVars false
set_option linter.unusedSimpArgs false
set_option linter.unusedVariables false
open Go Go.ChangeShapes Go.WideShapes Go.RowKit Go.Deep
theorem Tryz.own : ownKnob Tryz.prog.godebug = none := by kernel_rfl
theorem Tryz.laidOut : laidOutB Tryz.prog = true := by kernel_rfl
abbrev laidL : List (String × DataW Unit) := [("ratchet/sha.table", Rows.laid_ratchet_sha_table)]
theorem door_met (os : Os) (args : Array Value) : laidMetH Tryz.prog laidL ((World.doorLaid Tryz.prog 400 os).forCall (fun _ _ => 0) ⟨#[], args, []⟩).memory :=
  laidMetH_of_parts3 (fuel := 8) (laidMet_of_run' 8 (by kernel_rfl) (by kernel_rfl)) (by kernel_rfl) (by kernel_rfl)
theorem tab_eq : (Rows.laid_ratchet_sha_table : DataW Unit) = .agg ((Sha.k.map fun x => ((x.toNat : Nat) : Int)).map fun z => .lit (.int .u32 z)) := by kernel_rfl
theorem tab_of {W : World} (h : laidMetH Tryz.prog laidL W) : TabAt (memOf W) := by
  have h2 : laidMetH Tryz.prog [("ratchet/sha.table", .agg ((Sha.k.map fun x => ((x.toNat : Nat) : Int)).map fun z => .lit (.int .u32 z)))] W := by rw [← tab_eq]; exact h
  exact laid_ints h2 (by kernel_rfl) (by kernel_rfl) (t := 252) (e := 222) Tryz.underlying252 Tryz.underlying222 (by kernel_rfl)
end Go.Proofs.YtoigpgdmignaoaaGreatDoor
