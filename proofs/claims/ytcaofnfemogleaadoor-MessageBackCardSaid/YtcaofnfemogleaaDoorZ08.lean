/- Parts of the proof, one behind the other, each under its own heading. No conditions. -/
import Derived.Test.YtcaofnfemogleaaDoorZ07
import Derived.Test.YtcaofnfemogleaaDoorRows
import Derived.Test.YtcaofnfemogleaaDoorCards
import Derived.Test.YtcaofnfemogleaaDoorTie
/- Layer 8: MessageBack. Condition: the table of the standard stands in the fragment. -/
namespace Go.Proofs.YtcaofnfemogleaaDoor
set_option linter.unusedSectionVars false
set_option linter.unusedSimpArgs false
set_option linter.unusedVariables false
open Go
theorem H.weakF {P : Program} {base : World} {n : Nat} {L : Env} {f g : Frag} {A : List HP} {K : Kont} (h : Le f g) (k : H P base n L f A K) : H P base n L g A K := .mk fun a w hf s => k.out a w hf (s.weak h)
theorem bytesV_take (l : List UInt8) (k : Nat) : (bytesV l).take k = bytesV (l.take k) := by unfold bytesV; rw [List.map_take]
theorem Src.slcTakeB {P : Program} {f : Frag} {A A' : List HP} {p : Option Addr} {c c' : Nat} {T : TypeId} {B b : List UInt8} (h : At A (slc p B.length c T 1 (bytesV B)) A' (slc p B.length c T 1 (bytesV B))) {k : Nat} (hk : k ≤ B.length) (hb : b = B.take k) : Src P f A (.slice p b.length c') 1 b.length (bytesV b) := by
  have hl : b.length = k := by rw [hb, List.length_take]; omega
  have := Src.slcTake (P := P) (f := f) (c' := c') h hk (by rw [bytesV_len, Nat.mul_one])
  rw [Nat.mul_one, bytesV_take, ← hb, ← hl] at this
  exact this
theorem str_eq (a b : List UInt8) : ((⟨a.toArray⟩ : ByteArray).toList == (⟨b.toArray⟩ : ByteArray).toList) = decide (a = b) := by
  rw [ByteArray.toList_eq, ByteArray.toList_eq, Bool.eq_iff_iff, beq_iff_eq, decide_eq_true_eq]
theorem BAt.nil_of {f : Frag} {p : Option Addr} {l : List UInt8} (h : BAt f p l) (hp : p = none) : l = [] := by
  rcases h with h | ⟨b, off, cs, T, fr, h, _⟩
  · exact h
  · rw [hp] at h; cases h
section
variable (f : Frag) (F : List HP)
def FewC (x : MV) (b : Bool) : Prop := ∀ f F, Fn Tryd.prog 7 [.agg x.vals.toArray] f F (Ret (.bool b) f F)
set_option maxHeartbeats 3200000 in
set_option maxRecDepth 20000 in
theorem back_few (htab : TabAt f) {x o : MV} {fm fo : Bool} (hfm : FewC x fm) (hfo : FewC o fo) {rp : Option Addr} {rc : Nat} {raw : List UInt8} {cn : Nat} (h : ¬ (fm = true ∧ fo = true ∧ raw.length ≤ 4096)) :
    Fn Tryd.prog 4 [.agg x.vals.toArray, .agg o.vals.toArray, .slice rp raw.length rc, .int .u16 (cn : Nat)] f F (Ret (.bool true) f F) := by
  cases fm with
  | false =>
    refine Fn.enter Tryd.func4 rfl Tryd.ntmps4 rfl (L := [(0, _), (1, _), (2, _), (3, _)]) ⟨rfl, rfl, rfl, rfl, trivial⟩ fun base => ?_
    repeat ((first | apply H.seq | apply H.region))
    refine H.box (ls := x.vals) rfl rfl rfl rfl fun mb => ?_
    refine H.box (ls := o.vals) rfl rfl rfl rfl fun ob => ?_
    repeat (first | ((apply H.assign); (iterate 3 exact rfl)) | (first | apply H.seq | apply H.region | apply H.nil | apply H.then_normal))
    refine H.loadN (ls := x.vals) rfl rfl rfl (Rd.ofRow (.there _ (.here _ _ _))) rfl rfl ?_
    refine H.callR rfl rfl rfl (hfm _ _) ?_
    refine H.not (b := false) (c := true) rfl rfl rfl rfl ?_
    repeat (first | ((first | apply H.move | apply H.len_slice); (iterate 3 exact rfl)) | (first | apply H.seq | apply H.region | apply H.nil | apply H.then_normal) | (apply H.pass; (iterate 2 exact rfl)) | (apply H.pickT; (iterate 4 exact rfl)) | (apply H.cond_true; exact rfl))
    refine H.callR rfl rfl rfl (works08_fn f _ htab) ?_
    repeat (first | ((apply H.assign); (iterate 3 exact rfl)) | (first | apply H.nil | apply H.then_normal) | (first | apply H.ret | apply H.then_ret))
    repeat refine H.drop (.here _ _) ?_
    exact H.ret1 rfl rfl (fun _ h => h) ⟨rfl, rfl, rfl⟩
  | true =>
    cases fo with
    | false =>
      refine Fn.enter Tryd.func4 rfl Tryd.ntmps4 rfl (L := [(0, _), (1, _), (2, _), (3, _)]) ⟨rfl, rfl, rfl, rfl, trivial⟩ fun base => ?_
      repeat ((first | apply H.seq | apply H.region))
      refine H.box (ls := x.vals) rfl rfl rfl rfl fun mb => ?_
      refine H.box (ls := o.vals) rfl rfl rfl rfl fun ob => ?_
      repeat (first | ((apply H.assign); (iterate 3 exact rfl)) | (first | apply H.seq | apply H.region | apply H.nil | apply H.then_normal))
      refine H.loadN (ls := x.vals) rfl rfl rfl (Rd.ofRow (.there _ (.here _ _ _))) rfl rfl ?_
      refine H.callR rfl rfl rfl (hfm _ _) ?_
      refine H.not (b := true) (c := false) rfl rfl rfl rfl ?_
      repeat (((apply H.move); (iterate 3 exact rfl)))
      refine H.loadN (ls := o.vals) rfl rfl rfl (Rd.ofRow (.here _ _ _)) rfl rfl ?_
      refine H.callR rfl rfl rfl (hfo _ _) ?_
      refine H.not (b := false) (c := true) rfl rfl rfl rfl ?_
      repeat (first | ((first | apply H.move | apply H.len_slice); (iterate 3 exact rfl)) | (first | apply H.seq | apply H.region | apply H.nil | apply H.then_normal) | (apply H.pass; (iterate 2 exact rfl)) | (apply H.pickT; (iterate 4 exact rfl)) | ((apply H.pickF); (iterate 4 exact rfl)) | (apply H.cond_true; exact rfl))
      refine H.callR rfl rfl rfl (works08_fn f _ htab) ?_
      repeat (first | ((apply H.assign); (iterate 3 exact rfl)) | (first | apply H.nil | apply H.then_normal) | (first | apply H.ret | apply H.then_ret))
      repeat refine H.drop (.here _ _) ?_
      exact H.ret1 rfl rfl (fun _ h => h) ⟨rfl, rfl, rfl⟩
    | true =>
      have hrl : ¬ (raw.length ≤ 4096) := fun h2 => h ⟨rfl, rfl, h2⟩
      refine Fn.enter Tryd.func4 rfl Tryd.ntmps4 rfl (L := [(0, _), (1, _), (2, _), (3, _)]) ⟨rfl, rfl, rfl, rfl, trivial⟩ fun base => ?_
      repeat ((first | apply H.seq | apply H.region))
      refine H.box (ls := x.vals) rfl rfl rfl rfl fun mb => ?_
      refine H.box (ls := o.vals) rfl rfl rfl rfl fun ob => ?_
      repeat (first | ((apply H.assign); (iterate 3 exact rfl)) | (first | apply H.seq | apply H.region | apply H.nil | apply H.then_normal))
      refine H.loadN (ls := x.vals) rfl rfl rfl (Rd.ofRow (.there _ (.here _ _ _))) rfl rfl ?_
      refine H.callR rfl rfl rfl (hfm _ _) ?_
      refine H.not (b := true) (c := false) rfl rfl rfl rfl ?_
      repeat (((apply H.move); (iterate 3 exact rfl)))
      refine H.loadN (ls := o.vals) rfl rfl rfl (Rd.ofRow (.here _ _ _)) rfl rfl ?_
      refine H.callR rfl rfl rfl (hfo _ _) ?_
      refine H.not (b := true) (c := false) rfl rfl rfl rfl ?_
      repeat (first | ((first | apply H.move | apply H.len_slice); (iterate 3 exact rfl)) | (first | apply H.seq | apply H.region | apply H.nil | apply H.then_normal) | ((apply H.cmp); (iterate 5 exact rfl)) | ((apply H.pickF); (iterate 4 exact rfl)) | (apply H.cond_yes; exact rfl; (omega)))
      refine H.callR rfl rfl rfl (works08_fn f _ htab) ?_
      repeat (first | ((apply H.assign); (iterate 3 exact rfl)) | (first | apply H.nil | apply H.then_normal) | (first | apply H.ret | apply H.then_ret))
      repeat refine H.drop (.here _ _) ?_
      exact H.ret1 rfl rfl (fun _ h => h) ⟨rfl, rfl, rfl⟩
set_option maxHeartbeats 3200000 in
set_option maxRecDepth 20000 in
theorem back_no (htab : TabAt f) {x o : MV} (hfm : FewC x true) (hfo : FewC o true) {rp : Option Addr} {rc : Nat} {raw : List UInt8} (hraw : BAt f rp raw) {cn : Nat} (hrl : raw.length ≤ 4096) {B : List UInt8}
    (hmay : ∀ G, Fn Tryd.prog 10 [.agg x.vals.toArray] f G (Ret (.bool false) f G)) (hput : ∀ G, Fn Tryd.prog 14 [.agg x.vals.toArray] f G (BytesR B f G)) (hE : getE B = 5) (hB0 : B.length = 0)
    (hb1 : (!(false == decide ((0 : Int) < (B.length : Nat)))) = false) (hb2 : (!(decide ((0 : Int) < (B.length : Nat)) == decide ((5 : Int) = 0))) = false) :
    Fn Tryd.prog 4 [.agg x.vals.toArray, .agg o.vals.toArray, .slice rp raw.length rc, .int .u16 (cn : Nat)] f F (Ret (.bool true) f F) := by
  have hrn := hraw.nil_of
  refine Fn.enter Tryd.func4 rfl Tryd.ntmps4 rfl (L := [(0, _), (1, _), (2, _), (3, _)]) ⟨rfl, rfl, rfl, rfl, trivial⟩ fun base => ?_
  repeat ((first | apply H.seq | apply H.region))
  refine H.box (ls := x.vals) rfl rfl rfl rfl fun mb => ?_
  refine H.box (ls := o.vals) rfl rfl rfl rfl fun ob => ?_
  repeat (first | ((apply H.assign); (iterate 3 exact rfl)) | (first | apply H.seq | apply H.region | apply H.nil | apply H.then_normal))
  refine H.loadN (ls := x.vals) rfl rfl rfl (Rd.ofRow (.there _ (.here _ _ _))) rfl rfl ?_
  refine H.callR rfl rfl rfl (hfm _ _) ?_
  refine H.not (b := true) (c := false) rfl rfl rfl rfl ?_
  repeat (((apply H.move); (iterate 3 exact rfl)))
  refine H.loadN (ls := o.vals) rfl rfl rfl (Rd.ofRow (.here _ _ _)) rfl rfl ?_
  refine H.callR rfl rfl rfl (hfo _ _) ?_
  refine H.not (b := true) (c := false) rfl rfl rfl rfl ?_
  repeat (first | ((first | apply H.move | apply H.len_slice); (iterate 3 exact rfl)) | (first | apply H.seq | apply H.region | apply H.nil | apply H.then_normal) | ((apply H.cmp); (iterate 5 exact rfl)) | ((apply H.pickF); (iterate 4 exact rfl)) | (apply H.skip) | (apply H.cond_no; exact rfl; (omega)))
  refine H.loadN (ls := x.vals) rfl rfl rfl (Rd.ofRow (.there _ (.here _ _ _))) rfl rfl ?_
  refine H.callE2 rfl rfl rfl (hput _) fun p1 c1 => ?_
  refine H.slc_none (.here _ _ _) fun hp1 => ?_
  repeat (first | ((first | apply H.move | apply H.assign); (iterate 3 exact rfl)) | (first | apply H.seq | apply H.region | apply H.nil | apply H.then_normal))
  refine H.callE rfl rfl rfl (mget_fn f _ (b := B) (fun G => Src.append (Src.slcS (by repeat (first | exact .here _ _ _ | apply At.there)) (by rw [bytesV_len]; exact (Nat.mul_one _).symm))) (fun h => List.eq_nil_of_length_eq_zero (hp1 h)) (by omega)) fun j => ?_
  rw [hE]
  generalize getR B = xr
  repeat (first | ((apply H.move); (iterate 3 exact rfl)) | ((apply H.extract); (iterate 4 exact rfl)))
  refine H.alloc (ls := msg0.vals none 0) rfl rfl rfl fun xb => ?_
  refine H.storeN (ls := msg0.vals none 0) (vs := xr.vals j.1 j.2) (ls' := xr.vals j.1 j.2) rfl rfl rfl (allOne_mem rfl) rfl (splice_all rfl) (by rw [Msg.vals_len, Msg.vals_len]; decide) (by repeat (first | exact .here _ _ _ | apply At.there)) ?_
  repeat (first | ((apply H.assign); (iterate 3 exact rfl)) | (first | apply H.seq | apply H.region | apply H.nil | apply H.then_normal))
  refine H.loadN (ls := x.vals) rfl rfl rfl (Rd.ofRow (.there _ (.there _ (.there _ (.there _ (.here _ _ _)))))) rfl rfl ?_
  refine H.callR rfl rfl rfl (hmay _) ?_
  repeat (first | ((first | apply H.move | apply H.len_slice); (iterate 3 exact rfl)) | ((apply H.cmp); (iterate 5 exact rfl)))
  refine H.bne (b := false) rfl rfl rfl rfl hb1 rfl ?_
  repeat (first | ((first | apply H.move | apply H.len_slice); (iterate 3 exact rfl)) | ((apply H.cmp); (iterate 5 exact rfl)))
  refine H.bne (b := false) rfl rfl rfl rfl hb2 rfl ?_
  repeat (first | ((first | apply H.move | apply H.len_slice); (iterate 3 exact rfl)) | (first | apply H.seq | apply H.region | apply H.nil | apply H.then_normal) | ((apply H.cmp); (iterate 5 exact rfl)) | (apply H.pass; (iterate 2 exact rfl)) | ((apply H.pickF); (iterate 4 exact rfl)) | (apply H.cond_false; exact rfl) | (apply H.skip) | (apply H.cond_no; exact rfl; (omega)))
  repeat refine H.drop (.here _ _) ?_
  refine H.callE rfl rfl rfl (mget_fn f _ (b := raw) (fun G => hraw.src) hrn (by omega)) fun jr => ?_
  rcases getE_cases raw with hre | hre
  · have hrpb := (get_ok hre).2
    have hrq := getR_ok raw
    rw [hre]
    generalize getR raw = z at hrpb hrq ⊢
    repeat (first | ((apply H.move); (iterate 3 exact rfl)) | ((apply H.extract); (iterate 4 exact rfl)))
    refine H.alloc (ls := msg0.vals none 0) rfl rfl rfl fun zb => ?_
    refine H.storeN (ls := msg0.vals none 0) (vs := z.vals jr.1 jr.2) (ls' := z.vals jr.1 jr.2) rfl rfl rfl (allOne_mem rfl) rfl (splice_all rfl) (by rw [Msg.vals_len, Msg.vals_len]; decide) (by repeat (first | exact .here _ _ _ | apply At.there)) ?_
    repeat (first | ((first | apply H.move | apply H.assign); (iterate 3 exact rfl)) | (first | apply H.seq | apply H.region | apply H.nil | apply H.then_normal) | ((apply H.cmp); (iterate 5 exact rfl)) | (apply H.cond_false; exact rfl) | (apply H.skip))
    refine H.freeze (x := qs _ _ _) (by repeat (first | exact .here _ _ | apply Pull.there)) fun gz hgz hdz => ?_
    have hz : (⟨z, jr.1, jr.2⟩ : MV).Good (un f gz) := ⟨qs_qat hgz hdz, by have := hrq.2; show z.body.q.length ≤ _; omega, hrq.1⟩
    have hpz := fun G => mput_fn (un f gz) G hz
    rw [show (⟨z, jr.1, jr.2⟩ : MV).m.putB = raw from hrpb] at hpz
    have hrw := BAt.mono (Le.un f gz) hraw
    have hwz := fun G => works08_fn (un f gz) G (IntsAt.mono (Le.un f gz) htab)
    refine H.drawB (by kernel_rfl) (by decide +kernel) (by first | exact blind_fn | exact blind_seq blind_fn | exact blind_seq (blind_seq blind_fn) | (repeat (first | exact blind_fn | refine blind_seq ?_ | refine blind_block ?_ | refine blind_loop ?_))) (S := [_]) rfl ?_
    refine HB.quiet [(0, false), (3, false), (4, false)] 7 (by kernel_rfl) ?_
    repeat (first | (refine HQ.loadN (ls := z.vals jr.1 jr.2) rfl rfl rfl (Rd.ofRow (by repeat (first | exact .here _ _ _ | apply At.there))) rfl rfl ?_) | (refine HQ.convBS rfl rfl hrw.src hrn rfl ?_) | ((apply HQ.move); (iterate 3 exact rfl)))
    refine HQ.more rfl ?_
    refine HB.ev1 (i := 1) (by kernel_rfl) rfl ?_
    skip
    refine H.callE2 rfl rfl rfl (hpz _) fun p1 c1 => ?_
    repeat ((apply H.nil))
    refine H.slc_none (.here _ _ _) fun hp1 => ?_
    refine H.front (x := row zb _ _) (by repeat (first | exact .here _ _ | apply Pull.there)) ?_
    refine H.on [_] (Le.refl _) rfl ?_
    refine HB.quiet [(2, false), (5, false), (6, false)] 3 (by kernel_rfl) ?_
    repeat (first | (refine HQ.convBS rfl rfl (Src.slcS (by repeat (first | exact .here _ _ _ | apply At.there)) (by rw [bytesV_len]; exact (Nat.mul_one _).symm)) (fun h => List.eq_nil_of_length_eq_zero (hp1 h)) rfl ?_) | (refine HQ.streq (c := true) rfl rfl rfl rfl (beq_self_eq_true _) rfl ?_) | ((apply HQ.move); (iterate 3 exact rfl)))
    refine HQ.more rfl ?_
    refine HB.ev1 (i := 7) (by kernel_rfl) rfl ?_
    skip
    refine H.callR rfl rfl rfl (hwz _) ?_
    repeat ((apply H.nil))
    refine H.on0 rfl ?_
    refine HB.quiet [(8, false), (9, false)] 0 (by kernel_rfl) ?_
    repeat (first | ((apply HQ.assign); (iterate 3 exact rfl)) | (apply HQ.pickT; (iterate 4 exact rfl)))
    refine HQ.more rfl ?_
    refine HB.done (by kernel_rfl) ?_
    repeat (first | (apply H.then_normal) | (apply H.ret))
    refine H.weakF (Le.un f gz) ?_
    repeat refine H.drop (.here _ _) ?_
    exact H.ret1 rfl rfl (fun _ h => h) ⟨rfl, rfl, rfl⟩
  · rw [hre]
    generalize getR raw = z
    repeat (first | ((apply H.move); (iterate 3 exact rfl)) | ((apply H.extract); (iterate 4 exact rfl)))
    refine H.alloc (ls := msg0.vals none 0) rfl rfl rfl fun zb => ?_
    refine H.storeN (ls := msg0.vals none 0) (vs := z.vals jr.1 jr.2) (ls' := z.vals jr.1 jr.2) rfl rfl rfl (allOne_mem rfl) rfl (splice_all rfl) (by rw [Msg.vals_len, Msg.vals_len]; decide) (by repeat (first | exact .here _ _ _ | apply At.there)) ?_
    repeat (first | ((first | apply H.move | apply H.assign); (iterate 3 exact rfl)) | (first | apply H.seq | apply H.region | apply H.nil | apply H.then_normal) | ((apply H.cmp); (iterate 5 exact rfl)) | (apply H.cond_true; exact rfl) | (apply H.gyes; (iterate 3 exact rfl); (omega)))
    refine H.callR rfl rfl rfl (works08_fn f _ htab) ?_
    repeat (first | ((apply H.assign); (iterate 3 exact rfl)) | (first | apply H.nil | apply H.then_normal) | (apply H.pickT; (iterate 4 exact rfl)) | (first | apply H.ret | apply H.then_ret))
    repeat refine H.drop (.here _ _) ?_
    exact H.ret1 rfl rfl (fun _ h => h) ⟨rfl, rfl, rfl⟩
set_option maxHeartbeats 3200000 in
set_option maxRecDepth 20000 in
theorem back_yes (htab : TabAt f) {x o : MV} (hfm : FewC x true) (hfo : FewC o true) {rp : Option Addr} {rc : Nat} {raw : List UInt8} (hraw : BAt f rp raw) {cn : Nat} (hcn : cn ≤ 65535) (hrl : raw.length ≤ 4096) {B Bk B2 TG OB : List UInt8} {xr yr : Msg}
    (hg : x.Good f) (hgo : o.Good f) (hmo : x.m.may = true) (hput : ∀ G, Fn Tryd.prog 14 [.agg x.vals.toArray] f G (BytesR B f G)) (hby : ∀ G, Fn Tryd.prog 12 [.agg x.vals.toArray] f G (BytesR TG f G))
    (hputo : ∀ G, Fn Tryd.prog 14 [.agg o.vals.toArray] f G (BytesR OB f G))
    (hE : getE B = 0) (hxr : getR B = xr) (hrq : xr.body.Ok ∧ xr.body.q.length ≤ 1000) (hS : Msg.eqB xr x.m = true) (hTG : 1 ≤ TG.length ∧ TG.length ≤ 1024) (hBl : B.length = TG.length + 40)
    (hBk : Bk = B.take (cn % B.length)) (hcut : getE Bk = 5) (hB2 : bytesV B ++ bytesV [0] = bytesV B2) (hB2l : B.length + 1 = B2.length) (hmore : getE B2 = 5)
    (hofE : ofE x.m.origin x.m.number TG x.m.tag = 0) (hofR : ofR x.m.origin x.m.number TG x.m.tag = yr) (hyq : yr.body.Ok ∧ yr.body.q.length ≤ 1000) (hyS : Msg.eqB yr x.m = true)
    (hso : o.m.may = true → decide (OB = B) = Msg.eqB o.m x.m) :
    Fn Tryd.prog 4 [.agg x.vals.toArray, .agg o.vals.toArray, .slice rp raw.length rc, .int .u16 (cn : Nat)] f F (Ret (.bool true) f F) := by
  have hrn := hraw.nil_of
  have hmd : cn % B.length < B.length := Nat.mod_lt _ (by omega)
  have hBkl : Bk.length = cn % B.length := by rw [hBk, List.length_take]; omega
  have hmayo := fun G => mmay_fn f G hgo
  have hsmo := fun G => rsameM_fn f G hgo hg
  refine Fn.enter Tryd.func4 rfl Tryd.ntmps4 rfl (L := [(0, _), (1, _), (2, _), (3, _)]) ⟨rfl, rfl, rfl, rfl, trivial⟩ fun base => ?_
  repeat ((first | apply H.seq | apply H.region))
  refine H.box (ls := x.vals) rfl rfl rfl rfl fun mb => ?_
  refine H.box (ls := o.vals) rfl rfl rfl rfl fun ob => ?_
  repeat (first | ((apply H.assign); (iterate 3 exact rfl)) | (first | apply H.seq | apply H.region | apply H.nil | apply H.then_normal))
  refine H.loadN (ls := x.vals) rfl rfl rfl (Rd.ofRow (.there _ (.here _ _ _))) rfl rfl ?_
  refine H.callR rfl rfl rfl (hfm _ _) ?_
  refine H.not (b := true) (c := false) rfl rfl rfl rfl ?_
  repeat (((apply H.move); (iterate 3 exact rfl)))
  refine H.loadN (ls := o.vals) rfl rfl rfl (Rd.ofRow (.here _ _ _)) rfl rfl ?_
  refine H.callR rfl rfl rfl (hfo _ _) ?_
  refine H.not (b := true) (c := false) rfl rfl rfl rfl ?_
  repeat (first | ((first | apply H.move | apply H.len_slice); (iterate 3 exact rfl)) | (first | apply H.seq | apply H.region | apply H.nil | apply H.then_normal) | ((apply H.cmp); (iterate 5 exact rfl)) | ((apply H.pickF); (iterate 4 exact rfl)) | (apply H.skip) | (apply H.cond_no; exact rfl; (omega)))
  refine H.loadN (ls := x.vals) rfl rfl rfl (Rd.ofRow (.there _ (.here _ _ _))) rfl rfl ?_
  refine H.callE2 rfl rfl rfl (hput _) fun p1 c1 => ?_
  refine H.slc_some (.here _ _ _) (by omega) fun bb hp1 => ?_
  subst hp1
  refine H.slc_cap (.here _ _ _) fun hc1 _ _ => ?_
  repeat (first | ((first | apply H.move | apply H.assign); (iterate 3 exact rfl)) | (first | apply H.seq | apply H.region | apply H.nil | apply H.then_normal))
  refine H.callE rfl rfl rfl (mget_fn f _ (b := B) (fun G => Src.append (Src.slcS (by repeat (first | exact .here _ _ _ | apply At.there)) (by rw [bytesV_len]; exact (Nat.mul_one _).symm))) (fun h => by cases h) (by omega)) fun j => ?_
  rw [hE, hxr]
  repeat (first | ((apply H.move); (iterate 3 exact rfl)) | ((apply H.extract); (iterate 4 exact rfl)))
  refine H.alloc (ls := msg0.vals none 0) rfl rfl rfl fun xb => ?_
  refine H.storeN (ls := msg0.vals none 0) (vs := xr.vals j.1 j.2) (ls' := xr.vals j.1 j.2) rfl rfl rfl (allOne_mem rfl) rfl (splice_all rfl) (by rw [Msg.vals_len, Msg.vals_len]; decide) (by repeat (first | exact .here _ _ _ | apply At.there)) ?_
  refine H.freeze (x := qs _ _ _) (by repeat (first | exact .here _ _ | apply Pull.there)) fun g1 hg1 hd1 => ?_
  have hxg : (⟨xr, j.1, j.2⟩ : MV).Good (un f g1) := ⟨qs_qat hg1 hd1, by have := hrq.2; show xr.body.q.length ≤ _; omega, hrq.1⟩
  have hs1 := fun G => rsameM_fn (un f g1) G hxg (hg.mono (Le.un f g1))
  rw [show Msg.eqB (⟨xr, j.1, j.2⟩ : MV).m x.m = true from hS] at hs1
  have hmay1 := fun G => mmay_fn (un f g1) G (hg.mono (Le.un f g1))
  rw [hmo] at hmay1
  have hb1 : (!(true == decide ((0 : Int) < (B.length : Nat)))) = false := by rw [decide_eq_true (by omega)]; rfl
  have hb2 : (!(decide ((0 : Int) < (B.length : Nat)) == decide ((0 : Int) = 0))) = false := by rw [decide_eq_true (by omega)]; rfl
  repeat (first | ((apply H.assign); (iterate 3 exact rfl)) | (first | apply H.seq | apply H.region | apply H.nil | apply H.then_normal))
  refine H.loadN (ls := x.vals) rfl rfl rfl (Rd.ofRow (.there _ (.there _ (.there _ (.here _ _ _))))) rfl rfl ?_
  refine H.callR rfl rfl rfl (hmay1 _) ?_
  repeat (first | ((first | apply H.move | apply H.len_slice); (iterate 3 exact rfl)) | ((apply H.cmp); (iterate 5 exact rfl)))
  refine H.bne (b := false) rfl rfl rfl rfl hb1 rfl ?_
  repeat (first | ((first | apply H.move | apply H.len_slice); (iterate 3 exact rfl)) | ((apply H.cmp); (iterate 5 exact rfl)))
  refine H.bne (b := false) rfl rfl rfl rfl hb2 rfl ?_
  clear hb1 hb2
  repeat (first | ((apply H.move); (iterate 3 exact rfl)) | ((apply H.cmp); (iterate 5 exact rfl)) | ((apply H.pickF); (iterate 4 exact rfl)) | (apply H.gyes; (iterate 3 exact rfl); (omega)))
  refine H.loadN (ls := xr.vals j.1 j.2) rfl rfl rfl (Rd.ofRow (.here _ _ _)) rfl rfl ?_
  refine H.loadN (ls := x.vals) rfl rfl rfl (Rd.ofRow (.there _ (.there _ (.there _ (.here _ _ _))))) rfl rfl ?_
  refine H.callR rfl rfl rfl (hs1 _) ?_
  refine H.weakF (Le.un f g1) ?_
  refine H.drop (.here _ _) ?_
  refine H.not (b := true) (c := false) rfl rfl rfl rfl ?_
  clear hs1 hmay1 hxg
  repeat (first | ((first | apply H.move | apply H.len_slice); (iterate 3 exact rfl)) | (first | apply H.seq | apply H.region | apply H.nil | apply H.then_normal) | ((apply H.cmp); (iterate 5 exact rfl)) | ((apply H.conv_int; (iterate 2 exact rfl)); (with_reducible apply wr_i64; omega); exact rfl) | (apply H.pickT; (iterate 4 exact rfl)) | ((apply H.pickF); (iterate 4 exact rfl)) | (apply H.cond_false; exact rfl) | (apply H.skip) | (apply H.cond_yes; exact rfl; (omega)))
  refine H.rem (z := ((cn % B.length : Nat) : Int)) rfl rfl rfl (by omega) rfl rfl ?_
  refine H.sliceTo (hv := cn % B.length) rfl rfl rfl rfl (by omega) rfl ?_
  refine H.know (d := 76) (u := .slice (some ⟨bb, 0, none⟩) Bk.length c1) rfl (by rw [hBkl]) ?_
  refine H.callE rfl rfl rfl (mget_fn f _ (b := Bk) (fun G => Src.append (Src.slcTakeB (.here _ _ _) (k := cn % B.length) (by omega) hBk)) (fun h => by cases h) (by omega)) fun j1 => ?_
  rw [hcut]
  generalize getR Bk = zr
  repeat (first | ((apply H.move); (iterate 3 exact rfl)) | ((apply H.extract); (iterate 4 exact rfl)))
  refine H.alloc (ls := msg0.vals none 0) rfl rfl rfl fun zb1 => ?_
  refine H.storeN (ls := msg0.vals none 0) (vs := zr.vals j1.1 j1.2) (ls' := zr.vals j1.1 j1.2) rfl rfl rfl (allOne_mem rfl) rfl (splice_all rfl) (by rw [Msg.vals_len, Msg.vals_len]; decide) (by repeat (first | exact .here _ _ _ | apply At.there)) ?_
  repeat (first | ((apply H.assign); (iterate 3 exact rfl)) | (first | apply H.seq | apply H.region | apply H.nil | apply H.then_normal))
  refine H.drop (x := row zb1 _ _) (by repeat (first | exact .here _ _ | apply Pull.there)) ?_
  refine H.drop (x := qs _ _ _) (by repeat (first | exact .here _ _ | apply Pull.there)) ?_
  refine H.buildSlice (out := []) rfl rfl rfl rfl (by decide) (by decide) rfl rfl fun eb => ?_
  refine H.asSlc (k := 0) (sz := 1) rfl (by decide) ?_
  repeat (((apply H.move); (iterate 3 exact rfl)))
  refine H.append (sz := 1) (xs := []) (news := bytesV B) (m := B.length) rfl rfl rfl rfl rfl (fun p' c' => .here _ _ _) (Src.slcS (.there _ (.here _ _ _)) (by rw [bytesV_len]; exact (Nat.mul_one _).symm)) (bytesV_one _) rfl (by omega) (by omega) fun p3 c3 => ?_
  rw [show 0 + B.length = B.length from Nat.zero_add _, List.nil_append]
  skip
  refine H.buildSlice (out := bytesV [0]) rfl rfl rfl rfl (by decide) (by decide) rfl rfl fun eb2 => ?_
  refine H.append (sz := 1) (xs := bytesV B) (news := bytesV [0]) (m := 1) rfl rfl rfl rfl rfl (fun p' c' => .there _ (.here _ _ _)) (Src.slice (Rd.ofRow (.here _ _ _)) rfl) (allOne_mem rfl) rfl (by omega) (by omega) fun p4 c4 => ?_
  rw [hB2, hB2l]
  refine H.drop (.here _ _) ?_
  refine H.slc_some (.here _ _ _) (by omega) fun b4 hp4 => ?_
  subst hp4
  skip
  refine H.callE rfl rfl rfl (mget_fn f _ (b := B2) (fun G => Src.append (Src.slcS (.here _ _ _) (by rw [bytesV_len]; exact (Nat.mul_one _).symm))) (fun h => by cases h) (by omega)) fun j1 => ?_
  rw [hmore]
  generalize getR B2 = zr
  repeat (first | ((apply H.move); (iterate 3 exact rfl)) | ((apply H.extract); (iterate 4 exact rfl)))
  refine H.alloc (ls := msg0.vals none 0) rfl rfl rfl fun zb1 => ?_
  refine H.storeN (ls := msg0.vals none 0) (vs := zr.vals j1.1 j1.2) (ls' := zr.vals j1.1 j1.2) rfl rfl rfl (allOne_mem rfl) rfl (splice_all rfl) (by rw [Msg.vals_len, Msg.vals_len]; decide) (by repeat (first | exact .here _ _ _ | apply At.there)) ?_
  repeat (first | ((apply H.assign); (iterate 3 exact rfl)) | (first | apply H.seq | apply H.region | apply H.nil | apply H.then_normal))
  refine H.drop (x := row zb1 _ _) (by repeat (first | exact .here _ _ | apply Pull.there)) ?_
  refine H.drop (x := qs _ _ _) (by repeat (first | exact .here _ _ | apply Pull.there)) ?_
  refine H.drop (.here _ _) ?_
  skip
  refine H.loadN (ls := x.vals) rfl rfl rfl (Rd.ofRow (.there _ (.there _ (.here _ _ _)))) rfl rfl ?_
  refine H.callE2 rfl rfl rfl (hby _) fun p5 c5 => ?_
  refine H.slc_some (.here _ _ _) (by omega) fun b5 hp5 => ?_
  subst hp5
  repeat (first | ((first | apply H.move | apply H.assign); (iterate 3 exact rfl)) | (apply H.fieldAddr; (iterate 3 exact rfl); exact inferInstance; exact rfl) | (apply H.load1; (iterate 3 exact rfl); apply Rd1.ofRow; (repeat (first | exact .here _ _ _ | apply At.there)); (iterate 2 exact rfl)) | (first | apply H.seq | apply H.region | apply H.nil | apply H.then_normal))
  refine H.loadN (ls := b32 x.m.tag) rfl rfl rfl (msg_tag (m := x.m) (q := x.qp) (qc := x.qc) (by repeat (first | exact .here _ _ _ | apply At.there))) rfl rfl ?_
  refine H.freeze (.here _ _) fun g2 hg2 hd2 => ?_
  refine H.callE rfl rfl rfl (mof_fn (un f g2) _ (i := x.m.origin) (n := x.m.number) (t := x.m.tag) (b := TG) (slc_bat _ hg2 hd2) (fun h => by cases h) (by omega)) fun j2 => ?_
  rw [hofE, hofR]
  refine H.weakF (Le.un f g2) ?_
  clear hg2 hd2
  repeat (first | ((apply H.move); (iterate 3 exact rfl)) | ((apply H.extract); (iterate 4 exact rfl)))
  refine H.alloc (ls := msg0.vals none 0) rfl rfl rfl fun yb => ?_
  refine H.storeN (ls := msg0.vals none 0) (vs := yr.vals j2.1 j2.2) (ls' := yr.vals j2.1 j2.2) rfl rfl rfl (allOne_mem rfl) rfl (splice_all rfl) (by rw [Msg.vals_len, Msg.vals_len]; decide) (by repeat (first | exact .here _ _ _ | apply At.there)) ?_
  refine H.freeze (x := qs _ _ _) (by repeat (first | exact .here _ _ | apply Pull.there)) fun g1 hg1 hd1 => ?_
  have hyg : (⟨yr, j2.1, j2.2⟩ : MV).Good (un f g1) := ⟨qs_qat hg1 hd1, by have := hyq.2; show yr.body.q.length ≤ _; omega, hyq.1⟩
  have hs1 := fun G => rsameM_fn (un f g1) G hyg (hg.mono (Le.un f g1))
  rw [show Msg.eqB (⟨yr, j2.1, j2.2⟩ : MV).m x.m = true from hyS] at hs1
  repeat (first | ((first | apply H.move | apply H.assign | apply H.len_slice); (iterate 3 exact rfl)) | (first | apply H.seq | apply H.region | apply H.nil | apply H.then_normal) | ((apply H.cmp); (iterate 5 exact rfl)) | ((apply H.pickF); (iterate 4 exact rfl)) | (apply H.gno; (iterate 3 exact rfl); (omega)))
  refine H.loadN (ls := yr.vals j2.1 j2.2) rfl rfl rfl (Rd.ofRow (.here _ _ _)) rfl rfl ?_
  refine H.loadN (ls := x.vals) rfl rfl rfl (Rd.ofRow (by repeat (first | exact .here _ _ _ | apply At.there))) rfl rfl ?_
  refine H.callR rfl rfl rfl (hs1 _) ?_
  refine H.weakF (Le.un f g1) ?_
  refine H.drop (.here _ _) ?_
  refine H.not (b := true) (c := false) rfl rfl rfl rfl ?_
  clear hs1 hyg
  repeat (first | (first | apply H.seq | apply H.nil | apply H.then_normal) | ((apply H.pickF); (iterate 4 exact rfl)) | (apply H.cond_false; exact rfl) | (apply H.skip))
  refine H.front (x := slc _ _ _ _ _ _) (by repeat (first | exact .here _ _ | apply Pull.there)) ?_
  refine H.front (x := row mb _ _) (by repeat (first | exact .here _ _ | apply Pull.there)) ?_
  refine H.front (x := row ob _ _) (by repeat (first | exact .here _ _ | apply Pull.there)) ?_
  refine H.drawB (by kernel_rfl) (by decide +kernel) (by first | exact blind_fn | exact blind_seq blind_fn | exact blind_seq (blind_seq blind_fn) | (repeat (first | exact blind_fn | refine blind_seq ?_ | refine blind_block ?_ | refine blind_loop ?_))) (S := [_, _, _]) rfl ?_
  refine HB.quiet [(0, false)] 13 (by kernel_rfl) ?_
  refine HQ.loadN (ls := o.vals) rfl rfl rfl (Rd.ofRow (.here _ _ _)) rfl rfl ?_
  refine HQ.more rfl ?_
  refine HB.ev1 (i := 1) (by kernel_rfl) rfl ?_
  refine H.callR rfl rfl rfl (hmayo _) ?_
  by_cases hmy : o.m.may = true
  · have hso := hso hmy
    rw [hmy]
    repeat ((apply H.nil))
    refine H.on0 rfl ?_
    refine HB.quiet [(2, false), (3, false), (6, false), (7, false), (9, false), (10, false)] 6 (by kernel_rfl) ?_
    repeat (((apply HQ.move); (iterate 3 exact rfl)))
    refine HQ.loadN (ls := o.vals) rfl rfl rfl (Rd.ofRow (.here _ _ _)) rfl rfl ?_
    repeat (((apply HQ.move); (iterate 3 exact rfl)))
    refine HQ.convBS rfl rfl (Src.slcS (.there _ (.there _ (.here _ _ _))) (by rw [bytesV_len]; exact (Nat.mul_one _).symm)) (fun h => by cases h) rfl ?_
    skip
    refine HQ.loadN (ls := o.vals) rfl rfl rfl (Rd.ofRow (.here _ _ _)) rfl rfl ?_
    refine HQ.loadN (ls := x.vals) rfl rfl rfl (Rd.ofRow (.there _ (.here _ _ _))) rfl rfl ?_
    refine HQ.more rfl ?_
    refine HB.ev1 (i := 4) (by kernel_rfl) rfl ?_
    skip
    refine H.callE2 rfl rfl rfl (hputo _) fun p6 c6 => ?_
    repeat ((apply H.nil))
    refine H.slc_none (.here _ _ _) fun hp6 => ?_
    refine H.front (.there _ (.there _ (.there _ (.here _ _)))) ?_
    refine H.front (.there _ (.there _ (.there _ (.here _ _)))) ?_
    refine H.front (.there _ (.there _ (.there _ (.here _ _)))) ?_
    refine H.on [_] (Le.refl _) rfl ?_
    refine HB.quiet [(5, false), (8, false)] 3 (by kernel_rfl) ?_
    refine HQ.convBS rfl rfl (Src.slcS (.there _ (.there _ (.there _ (.here _ _ _)))) (by rw [bytesV_len]; exact (Nat.mul_one _).symm)) (fun h => List.eq_nil_of_length_eq_zero (hp6 h)) rfl ?_
    refine HQ.streq (c := Msg.eqB o.m x.m) rfl rfl rfl rfl ((str_eq _ _).trans hso) rfl ?_
    refine HQ.more rfl ?_
    refine HB.ev1 (i := 11) (by kernel_rfl) rfl ?_
    skip
    refine H.callR rfl rfl rfl (hsmo _) ?_
    generalize Msg.eqB o.m x.m = sm
    repeat ((apply H.nil))
    refine H.on0 rfl ?_
    refine HB.quiet [(12, false), (13, false)] 0 (by kernel_rfl) ?_
    refine HQ.bne (b := false) rfl rfl rfl rfl (by cases sm <;> rfl) rfl ?_
    repeat ((apply HQ.pickT; (iterate 4 exact rfl)))
    refine HQ.more rfl ?_
    refine HB.done (by kernel_rfl) ?_
    repeat (first | ((apply H.move); (iterate 3 exact rfl)) | (first | apply H.seq | apply H.region | apply H.then_normal) | (apply H.cond_false; exact rfl) | (apply H.skip))
    repeat refine H.drop (.here _ _) ?_
    refine H.callE rfl rfl rfl (mget_fn f _ (b := raw) (fun G => hraw.src) hrn (by omega)) fun jr => ?_
    rcases getE_cases raw with hre | hre
    · have hrpb := (get_ok hre).2
      have hrq := getR_ok raw
      rw [hre]
      generalize getR raw = z at hrpb hrq ⊢
      repeat (first | ((apply H.move); (iterate 3 exact rfl)) | ((apply H.extract); (iterate 4 exact rfl)))
      refine H.alloc (ls := msg0.vals none 0) rfl rfl rfl fun zb => ?_
      refine H.storeN (ls := msg0.vals none 0) (vs := z.vals jr.1 jr.2) (ls' := z.vals jr.1 jr.2) rfl rfl rfl (allOne_mem rfl) rfl (splice_all rfl) (by rw [Msg.vals_len, Msg.vals_len]; decide) (by repeat (first | exact .here _ _ _ | apply At.there)) ?_
      repeat (first | ((first | apply H.move | apply H.assign); (iterate 3 exact rfl)) | (first | apply H.seq | apply H.region | apply H.nil | apply H.then_normal) | ((apply H.cmp); (iterate 5 exact rfl)) | (apply H.cond_false; exact rfl) | (apply H.skip))
      refine H.freeze (x := qs _ _ _) (by repeat (first | exact .here _ _ | apply Pull.there)) fun gz hgz hdz => ?_
      have hz : (⟨z, jr.1, jr.2⟩ : MV).Good (un f gz) := ⟨qs_qat hgz hdz, by have := hrq.2; show z.body.q.length ≤ _; omega, hrq.1⟩
      have hpz := fun G => mput_fn (un f gz) G hz
      rw [show (⟨z, jr.1, jr.2⟩ : MV).m.putB = raw from hrpb] at hpz
      have hrw := BAt.mono (Le.un f gz) hraw
      have hwz := fun G => works08_fn (un f gz) G (IntsAt.mono (Le.un f gz) htab)
      refine H.drawB (by kernel_rfl) (by decide +kernel) (by first | exact blind_fn | exact blind_seq blind_fn | exact blind_seq (blind_seq blind_fn) | (repeat (first | exact blind_fn | refine blind_seq ?_ | refine blind_block ?_ | refine blind_loop ?_))) (S := [_]) rfl ?_
      refine HB.quiet [(0, false), (3, false), (4, false)] 7 (by kernel_rfl) ?_
      repeat (first | (refine HQ.loadN (ls := z.vals jr.1 jr.2) rfl rfl rfl (Rd.ofRow (by repeat (first | exact .here _ _ _ | apply At.there))) rfl rfl ?_) | (refine HQ.convBS rfl rfl hrw.src hrn rfl ?_) | ((apply HQ.move); (iterate 3 exact rfl)))
      refine HQ.more rfl ?_
      refine HB.ev1 (i := 1) (by kernel_rfl) rfl ?_
      skip
      refine H.callE2 rfl rfl rfl (hpz _) fun p1 c1 => ?_
      repeat ((apply H.nil))
      refine H.slc_none (.here _ _ _) fun hp1 => ?_
      refine H.front (x := row zb _ _) (by repeat (first | exact .here _ _ | apply Pull.there)) ?_
      refine H.on [_] (Le.refl _) rfl ?_
      refine HB.quiet [(2, false), (5, false), (6, false)] 3 (by kernel_rfl) ?_
      repeat (first | (refine HQ.convBS rfl rfl (Src.slcS (by repeat (first | exact .here _ _ _ | apply At.there)) (by rw [bytesV_len]; exact (Nat.mul_one _).symm)) (fun h => List.eq_nil_of_length_eq_zero (hp1 h)) rfl ?_) | (refine HQ.streq (c := true) rfl rfl rfl rfl (beq_self_eq_true _) rfl ?_) | ((apply HQ.move); (iterate 3 exact rfl)))
      refine HQ.more rfl ?_
      refine HB.ev1 (i := 7) (by kernel_rfl) rfl ?_
      skip
      refine H.callR rfl rfl rfl (hwz _) ?_
      repeat ((apply H.nil))
      refine H.on0 rfl ?_
      refine HB.quiet [(8, false), (9, false)] 0 (by kernel_rfl) ?_
      repeat (first | ((apply HQ.assign); (iterate 3 exact rfl)) | (apply HQ.pickT; (iterate 4 exact rfl)))
      refine HQ.more rfl ?_
      refine HB.done (by kernel_rfl) ?_
      repeat (first | (apply H.then_normal) | (apply H.ret))
      refine H.weakF (Le.un f gz) ?_
      repeat refine H.drop (.here _ _) ?_
      exact H.ret1 rfl rfl (fun _ h => h) ⟨rfl, rfl, rfl⟩
    · rw [hre]
      generalize getR raw = z
      repeat (first | ((apply H.move); (iterate 3 exact rfl)) | ((apply H.extract); (iterate 4 exact rfl)))
      refine H.alloc (ls := msg0.vals none 0) rfl rfl rfl fun zb => ?_
      refine H.storeN (ls := msg0.vals none 0) (vs := z.vals jr.1 jr.2) (ls' := z.vals jr.1 jr.2) rfl rfl rfl (allOne_mem rfl) rfl (splice_all rfl) (by rw [Msg.vals_len, Msg.vals_len]; decide) (by repeat (first | exact .here _ _ _ | apply At.there)) ?_
      repeat (first | ((first | apply H.move | apply H.assign); (iterate 3 exact rfl)) | (first | apply H.seq | apply H.region | apply H.nil | apply H.then_normal) | ((apply H.cmp); (iterate 5 exact rfl)) | (apply H.cond_true; exact rfl) | (apply H.gyes; (iterate 3 exact rfl); (omega)))
      refine H.callR rfl rfl rfl (works08_fn f _ htab) ?_
      repeat (first | ((apply H.assign); (iterate 3 exact rfl)) | (first | apply H.nil | apply H.then_normal) | (apply H.pickT; (iterate 4 exact rfl)) | (first | apply H.ret | apply H.then_ret))
      repeat refine H.drop (.here _ _) ?_
      exact H.ret1 rfl rfl (fun _ h => h) ⟨rfl, rfl, rfl⟩
  · rw [Bool.eq_false_iff.2 hmy]
    repeat ((apply H.nil))
    refine H.on0 rfl ?_
    refine HB.quiet [(2, false), (3, false), (6, false), (7, false), (9, false), (10, false)] 6 (by kernel_rfl) ?_
    repeat (first | ((apply HQ.move); (iterate 3 exact rfl)) | (apply HQ.pass; (iterate 2 exact rfl)))
    refine HQ.more rfl ?_
    refine HB.ev1 (i := 4) (by kernel_rfl) rfl ?_
    repeat (first | (apply H.nil) | (apply H.pass; (iterate 2 exact rfl)))
    refine H.on0 rfl ?_
    refine HB.quiet [(5, false), (8, false)] 3 (by kernel_rfl) ?_
    repeat ((apply HQ.pass; (iterate 2 exact rfl)))
    refine HQ.more rfl ?_
    refine HB.ev1 (i := 11) (by kernel_rfl) rfl ?_
    repeat (first | (apply H.nil) | (apply H.pass; (iterate 2 exact rfl)))
    refine H.on0 rfl ?_
    refine HB.quiet [(12, false), (13, false)] 0 (by kernel_rfl) ?_
    repeat (first | (apply HQ.pass; (iterate 2 exact rfl)) | ((apply HQ.pickF); (iterate 4 exact rfl)))
    refine HQ.more rfl ?_
    refine HB.done (by kernel_rfl) ?_
    repeat (first | ((apply H.move); (iterate 3 exact rfl)) | (first | apply H.seq | apply H.region | apply H.then_normal) | (apply H.cond_false; exact rfl) | (apply H.skip))
    repeat refine H.drop (.here _ _) ?_
    refine H.callE rfl rfl rfl (mget_fn f _ (b := raw) (fun G => hraw.src) hrn (by omega)) fun jr => ?_
    rcases getE_cases raw with hre | hre
    · have hrpb := (get_ok hre).2
      have hrq := getR_ok raw
      rw [hre]
      generalize getR raw = z at hrpb hrq ⊢
      repeat (first | ((apply H.move); (iterate 3 exact rfl)) | ((apply H.extract); (iterate 4 exact rfl)))
      refine H.alloc (ls := msg0.vals none 0) rfl rfl rfl fun zb => ?_
      refine H.storeN (ls := msg0.vals none 0) (vs := z.vals jr.1 jr.2) (ls' := z.vals jr.1 jr.2) rfl rfl rfl (allOne_mem rfl) rfl (splice_all rfl) (by rw [Msg.vals_len, Msg.vals_len]; decide) (by repeat (first | exact .here _ _ _ | apply At.there)) ?_
      repeat (first | ((first | apply H.move | apply H.assign); (iterate 3 exact rfl)) | (first | apply H.seq | apply H.region | apply H.nil | apply H.then_normal) | ((apply H.cmp); (iterate 5 exact rfl)) | (apply H.cond_false; exact rfl) | (apply H.skip))
      refine H.freeze (x := qs _ _ _) (by repeat (first | exact .here _ _ | apply Pull.there)) fun gz hgz hdz => ?_
      have hz : (⟨z, jr.1, jr.2⟩ : MV).Good (un f gz) := ⟨qs_qat hgz hdz, by have := hrq.2; show z.body.q.length ≤ _; omega, hrq.1⟩
      have hpz := fun G => mput_fn (un f gz) G hz
      rw [show (⟨z, jr.1, jr.2⟩ : MV).m.putB = raw from hrpb] at hpz
      have hrw := BAt.mono (Le.un f gz) hraw
      have hwz := fun G => works08_fn (un f gz) G (IntsAt.mono (Le.un f gz) htab)
      refine H.drawB (by kernel_rfl) (by decide +kernel) (by first | exact blind_fn | exact blind_seq blind_fn | exact blind_seq (blind_seq blind_fn) | (repeat (first | exact blind_fn | refine blind_seq ?_ | refine blind_block ?_ | refine blind_loop ?_))) (S := [_]) rfl ?_
      refine HB.quiet [(0, false), (3, false), (4, false)] 7 (by kernel_rfl) ?_
      repeat (first | (refine HQ.loadN (ls := z.vals jr.1 jr.2) rfl rfl rfl (Rd.ofRow (by repeat (first | exact .here _ _ _ | apply At.there))) rfl rfl ?_) | (refine HQ.convBS rfl rfl hrw.src hrn rfl ?_) | ((apply HQ.move); (iterate 3 exact rfl)))
      refine HQ.more rfl ?_
      refine HB.ev1 (i := 1) (by kernel_rfl) rfl ?_
      skip
      refine H.callE2 rfl rfl rfl (hpz _) fun p1 c1 => ?_
      repeat ((apply H.nil))
      refine H.slc_none (.here _ _ _) fun hp1 => ?_
      refine H.front (x := row zb _ _) (by repeat (first | exact .here _ _ | apply Pull.there)) ?_
      refine H.on [_] (Le.refl _) rfl ?_
      refine HB.quiet [(2, false), (5, false), (6, false)] 3 (by kernel_rfl) ?_
      repeat (first | (refine HQ.convBS rfl rfl (Src.slcS (by repeat (first | exact .here _ _ _ | apply At.there)) (by rw [bytesV_len]; exact (Nat.mul_one _).symm)) (fun h => List.eq_nil_of_length_eq_zero (hp1 h)) rfl ?_) | (refine HQ.streq (c := true) rfl rfl rfl rfl (beq_self_eq_true _) rfl ?_) | ((apply HQ.move); (iterate 3 exact rfl)))
      refine HQ.more rfl ?_
      refine HB.ev1 (i := 7) (by kernel_rfl) rfl ?_
      skip
      refine H.callR rfl rfl rfl (hwz _) ?_
      repeat ((apply H.nil))
      refine H.on0 rfl ?_
      refine HB.quiet [(8, false), (9, false)] 0 (by kernel_rfl) ?_
      repeat (first | ((apply HQ.assign); (iterate 3 exact rfl)) | (apply HQ.pickT; (iterate 4 exact rfl)))
      refine HQ.more rfl ?_
      refine HB.done (by kernel_rfl) ?_
      repeat (first | (apply H.then_normal) | (apply H.ret))
      refine H.weakF (Le.un f gz) ?_
      repeat refine H.drop (.here _ _) ?_
      exact H.ret1 rfl rfl (fun _ h => h) ⟨rfl, rfl, rfl⟩
    · rw [hre]
      generalize getR raw = z
      repeat (first | ((apply H.move); (iterate 3 exact rfl)) | ((apply H.extract); (iterate 4 exact rfl)))
      refine H.alloc (ls := msg0.vals none 0) rfl rfl rfl fun zb => ?_
      refine H.storeN (ls := msg0.vals none 0) (vs := z.vals jr.1 jr.2) (ls' := z.vals jr.1 jr.2) rfl rfl rfl (allOne_mem rfl) rfl (splice_all rfl) (by rw [Msg.vals_len, Msg.vals_len]; decide) (by repeat (first | exact .here _ _ _ | apply At.there)) ?_
      repeat (first | ((first | apply H.move | apply H.assign); (iterate 3 exact rfl)) | (first | apply H.seq | apply H.region | apply H.nil | apply H.then_normal) | ((apply H.cmp); (iterate 5 exact rfl)) | (apply H.cond_true; exact rfl) | (apply H.gyes; (iterate 3 exact rfl); (omega)))
      refine H.callR rfl rfl rfl (works08_fn f _ htab) ?_
      repeat (first | ((apply H.assign); (iterate 3 exact rfl)) | (first | apply H.nil | apply H.then_normal) | (apply H.pickT; (iterate 4 exact rfl)) | (first | apply H.ret | apply H.then_ret))
      repeat refine H.drop (.here _ _) ?_
      exact H.ret1 rfl rfl (fun _ h => h) ⟨rfl, rfl, rfl⟩
set_option maxRecDepth 20000 in
theorem back_fn (htab : TabAt f) {x o : MV} (hx : x.Has f) (hxt : x.m.Typ) (ho : o.Has f) (hot : o.m.Typ) {rp : Option Addr} {rc : Nat} {raw : List UInt8} (hraw : BAt f rp raw) {cn : Nat} (hcn : cn ≤ 65535) :
    Fn Tryd.prog 4 [.agg x.vals.toArray, .agg o.vals.toArray, .slice rp raw.length rc, .int .u16 (cn : Nat)] f F (Ret (.bool true) f F) := by
  obtain ⟨fm, hfmq, hfm⟩ := few08_fn x
  obtain ⟨fo, hfoq, hfo⟩ := few08_fn o
  by_cases hall : fm = true ∧ fo = true ∧ raw.length ≤ 4096
  · obtain ⟨rfl, rfl, hrl⟩ := hall
    have hxq := hfmq rfl
    have hoq := hfoq rfl
    have hg : x.Good f := ⟨hx.1, by omega, hx.2⟩
    have hgo : o.Good f := ⟨ho.1, by omega, ho.2⟩
    have hmay := fun G => mmay_fn f G hg
    have hput := fun G => mput_fn f G hg
    by_cases hm : x.m.may = true
    · have hby := fun G => mbytes_fn f G hg
      rw [Msg.bytes_may hm] at hby
      obtain ⟨hofE, hofR, hofS⟩ := of_same hm hxt
      have hyq := msgOf_ok x.m.number x.m.tagged x.m.tag
      have hpo := fun G => mput_fn f G hgo
      have hE := ((get_back hxt).1).2 hm
      have hS := (get_back hxt).2 hm
      have hq := getR_ok x.m.putB
      have hT : 1 ≤ x.m.tagged.length ∧ x.m.tagged.length ≤ 1024 := ⟨tagged_pos _, Msg.tagged_max hm⟩
      have hl := putB_len hm
      have hcut : getE (x.m.putB.take (cn % x.m.putB.length)) = 5 := get_cut hm hxt (Nat.mod_lt _ (by omega))
      have hmore : getE (x.m.putB ++ [0]) = 5 := get_more hm hxt 0
      have hbe : bytesV x.m.putB ++ bytesV [0] = bytesV (x.m.putB ++ [0]) := (bytesV_append _ _).symm
      have hbl : x.m.putB.length + 1 = (x.m.putB ++ [0]).length := by rw [List.length_append]; rfl
      have hso : o.m.may = true → decide (o.m.putB = x.m.putB) = Msg.eqB o.m x.m := fun h => by rw [Bool.eq_iff_iff, decide_eq_true_eq]; exact put_same h hot hm hxt
      generalize x.m.putB ++ [0] = B2 at hmore hbe hbl
      generalize msgOf x.m.number x.m.tagged x.m.tag = yr at hofR hofS hyq
      generalize hBk : x.m.putB.take (cn % x.m.putB.length) = Bk at hcut
      generalize hxr : getR x.m.putB = xr at hS hq
      generalize x.m.putB = B at hput hE hl hbe hbl hBk hxr hso
      generalize x.m.tagged = TG at hby hofE hofR hT hl
      generalize o.m.putB = OB at hpo hso
      exact back_yes f F htab hfm hfo hraw hcn hrl hg hgo hm hput hby hpo hE hxr hq hS hT hl hBk.symm hcut hbe hbl hmore hofE hofR hyq hofS hso
    · have hB : x.m.putB = [] := by unfold Msg.putB; rw [if_neg hm]
      rw [Bool.eq_false_iff.2 hm] at hmay
      rw [hB] at hput
      exact back_no f F htab hfm hfo hraw hrl hmay hput getE_nil rfl rfl rfl
  · exact back_few f F htab hfm hfo hall
end
end Go.Proofs.YtcaofnfemogleaaDoor

/- Layer 8: bytes that a law is given. -/
namespace Go.Proofs.YtcaofnfemogleaaDoor
set_option linter.unusedSectionVars false
set_option linter.unusedSimpArgs false
set_option linter.unusedVariables false
open Go Go.ChangeShapes Go.WideShapes Go.RowKit Go.Deep
theorem reads_byte {W : World} {cs : List Value} (h : Reads Tryd.prog W 5 cs) : ∃ x : UInt8, True ∧ cs = [.int .u8 (x.toNat : Nat)] := by
  obtain ⟨z, rfl, hz⟩ := h.int Tryd.underlying5
  exact ⟨UInt8.ofNat z.toNat, trivial, by rw [u8_back hz]⟩
theorem listAt_bat {f : Frag} {p : Option Addr} {l : List UInt8} (h : ListAt f p 1 (fun x : UInt8 => [Value.int .u8 (x.toNat : Nat)]) l) : BAt f p l := by
  cases l with
  | nil => exact .inl rfl
  | cons x0 r =>
    obtain ⟨b, off, cs, T, fr, h1, h2, _⟩ := h 0 x0 rfl
    refine .inr ⟨b, off, cs, T, fr, h1, h2, fun i hi => ?_⟩
    have hx : (x0 :: r)[i]? = some (x0 :: r)[i] := List.getElem?_eq_getElem hi
    obtain ⟨b', off', cs', T', fr', g1, g2, g3⟩ := h i _ hx
    rw [h1] at g1
    cases g1
    rw [h2] at g2
    cases g2
    have h3 := g3 0 (show 0 < 1 by decide)
    rw [Nat.mul_one, Nat.add_zero] at h3
    rw [h3]
    unfold bytesV
    rw [List.getElem?_map, hx]
    rfl
theorem ArgOk.bytes {W : World} {v : Value} {t : TypeId} (ht : Tryd.prog.underlying t = some (.slice 5)) (h : ArgOk Tryd.prog W t v) : ∃ (p : Option Addr) (c : Nat) (l : List UInt8), v = .slice p l.length c ∧ l.length ≤ maxLen ∧ BAt (memOf W) p l := by
  obtain ⟨p, c, xs, rfl, h1, h2, _, hat⟩ := h.list (sz := 1) ht (by kernel_rfl) (by decide) fun cs => reads_byte
  exact ⟨p, c, xs, rfl, Nat.le_trans h1 h2, listAt_bat hat⟩
theorem ArgOk.bool {P : Program} {W : World} {v : Value} {t : TypeId} (ht : P.underlying t = some .bool) (h : ArgOk P W t v) : ∃ b, v = .bool b := by
  obtain ⟨⟨_, h1⟩, _⟩ := h
  exact okWide_bool ht h1
end Go.Proofs.YtcaofnfemogleaaDoor

/- Rows whose laws read the table of sha: what is given of the program, and what the row's condition says. -/
namespace Go.Proofs.YtcaofnfemogleaaDoor
set_option linter.unusedSectionVars false
set_option linter.unusedSimpArgs false
set_option linter.unusedVariables false
open Go Go.ChangeShapes Go.WideShapes Go.RowKit Go.Deep
theorem Tryd.own : ownKnob Tryd.prog.godebug = none := by kernel_rfl
theorem Tryd.laidOut : laidOutB Tryd.prog = true := by kernel_rfl
abbrev laidL : List (String × DataW Unit) := [("ratchet/sha.table", Rows.laid_ratchet_sha_table)]
theorem door_met (os : Os) (args : Array Value) : laidMetH Tryd.prog laidL ((World.doorLaid Tryd.prog 400 os).forCall (fun _ _ => 0) ⟨#[], args, []⟩).memory :=
  laidMetH_of_parts3 (fuel := 8) (laidMet_of_run' 8 (by kernel_rfl) (by kernel_rfl)) (by kernel_rfl) (by kernel_rfl)
theorem tab_eq : (Rows.laid_ratchet_sha_table : DataW Unit) = .agg ((Sha.k.map fun x => ((x.toNat : Nat) : Int)).map fun z => .lit (.int .u32 z)) := by kernel_rfl
theorem tab_of {W : World} (h : laidMetH Tryd.prog laidL W) : TabAt (memOf W) := by
  have h2 : laidMetH Tryd.prog [("ratchet/sha.table", .agg ((Sha.k.map fun x => ((x.toNat : Nat) : Int)).map fun z => .lit (.int .u32 z)))] W := by rw [← tab_eq]; exact h
  exact laid_ints h2 (by kernel_rfl) (by kernel_rfl) (t := 108) (e := 101) Tryd.underlying108 Tryd.underlying101 (by kernel_rfl)
end Go.Proofs.YtcaofnfemogleaaDoor
