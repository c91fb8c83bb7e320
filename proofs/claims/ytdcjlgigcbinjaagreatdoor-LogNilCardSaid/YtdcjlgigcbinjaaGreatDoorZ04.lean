/- Parts of the proof, one behind the other, each under its own heading. No conditions. -/
import Derived.Test.YtdcjlgigcbinjaaGreatDoorZ03
set_option linter.unusedSectionVars false
set_option linter.unusedSimpArgs false
set_option linter.unusedVariables false
/- Layer 8, messages: may a body be? -/
namespace Go.Proofs.YtdcjlgigcbinjaaGreatDoor
open Go
theorem BAt.mono {f g : Frag} (h : Le f g) {p : Option Addr} {l : List UInt8} (hb : BAt f p l) : BAt g p l := by
 rcases hb with rfl | ⟨b, off, cs, T, fr, h1, h2, h3⟩
 ·exact .inl rfl
 ·exact .inr ⟨b, off, cs, T, fr, h1, h _ _ h2, h3⟩
theorem QAt.mono {f g : Frag} (h : Le f g) {p : Option Addr} {l : List (Int × Int)} (hb : QAt f p l) : QAt g p l := fun i x hx => by
 obtain ⟨b, off, cs, T, fr, h1, h2, h3⟩ := hb i x hx
 exact ⟨b, off, cs, T, fr, h1, h _ _ h2, h3⟩
theorem flat_pair_get : ∀ (q : List (Int × Int)) (i : Nat) (x : Int × Int), q[i]? = some x → ∀ j, j < (pairV x).length → (q.flatMap pairV)[i * 2 + j]? = (pairV x)[j]?
 | [], i, x, h, j, hj => by simp at h
 | y :: q, 0, x, h, j, hj => by
  simp at h; subst h
  rw [List.flatMap_cons, Nat.zero_mul, Nat.zero_add, List.getElem?_append_left hj]
 | y :: q, i + 1, x, h, j, hj => by
  rw [List.flatMap_cons, List.getElem?_append_right (by show (2 : Nat) ≤ _; omega)]
  rw [show (i + 1) * 2 + j - (pairV y).length = i * 2 + j by show (i + 1) * 2 + j - 2 = _; omega]
  exact flat_pair_get q i x (by simpa using h) j hj
theorem qs_qat {f g : Frag} {p : Option Addr} {c : Nat} {q : List (Int × Int)} (h : qs p c q g) (hd : Dj f g) : QAt (un f g) p q := fun i x hx => by
 obtain ⟨_, _, h3⟩ := h
 have hi : i < q.length := by
  rcases Nat.lt_or_ge i q.length with h | h
  ·exact h
  ·simp [List.getElem?_eq_none h] at hx
 rcases h3 with ⟨h0, _, _⟩ | ⟨b, sp, rfl, h4, h5, rfl⟩
 ·omega
 ·refine ⟨b, 0, (q.flatMap pairV ++ sp).toArray, 88, (0, 0), rfl, ?_, fun j hj => ?_⟩
  ·show (f b).or (sing b _ b) = _
   have : f b = none := by
    rcases hd b with h | h
    ·exact h
    ·simp [sing] at h
   rw [this]
   simp [sing]
  ·rw [Nat.zero_add]
   simp only [List.getElem?_toArray]
   have h6 := flat_pair_get q i x hx j hj
   rw [List.getElem?_append_left ?_, h6]
   rcases Nat.lt_or_ge (i * 2 + j) (q.flatMap pairV).length with h | h
   ·exact h
   ·rw [List.getElem?_eq_none h] at h6
    rw [List.getElem?_eq_getElem hj] at h6
    cases h6
def Bod.back (x : Bod) (kind : Nat) : Bod := ((⟨x.putK kind, false⟩ : Cs).bodyK 32 128 x.kind kind).1
def Bod.mayP (x : Bod) (kind : Nat) : Bool := decide (x.view < 1073741824) && (x.mayK kind && (decide (x.q.length ≤ 11) && Bod.eqB x (x.back kind)))
section
variable (f : Frag) (F : List HP)
theorem flat_pairB_len : ∀ q : List (Int × Int), (q.flatMap pairB).length = 9 * q.length
 | [] => rfl
 | p :: q => by
  rw [List.flatMap_cons, List.length_append, flat_pairB_len q]
  show (be 8 p.2).length + 1 + 9 * q.length = 9 * (q.length + 1)
  rw [be_len]; omega
theorem putK_len (x : Bod) (kind : Nat) (hm : x.mayK kind = true) (hq : x.q.length ≤ 11) : 0 < (x.putK kind).length ∧ (x.putK kind).length ≤ 2000 := by
 match kind, hm with
 | 1, hm =>
  obtain ⟨_, _, _, _, ⟨k1, k2⟩, k3, k4⟩ := of_decide_eq_true hm
  show 0 < (be 8 x.view ++ x.req.bytes ++ b32L x.req.tag).length ∧ (be 8 x.view ++ x.req.bytes ++ b32L x.req.tag).length ≤ 2000
  rw [List.length_append, List.length_append, be_len, Req.bytes_len]
  show 0 < 8 + _ + 32 ∧ 8 + _ + 32 ≤ 2000
  omega
 | 2, _ => simp [Bod.putK, be_len]
 | 3, _ => simp [Bod.putK, be_len]
 | 4, _ =>
  show 0 < (be 8 x.view ++ [b8 x.q.length] ++ x.q.flatMap pairB).length ∧ (be 8 x.view ++ [b8 x.q.length] ++ x.q.flatMap pairB).length ≤ 2000
  rw [List.length_append, List.length_append, be_len, flat_pairB_len]
  show 0 < 8 + 1 + _ ∧ 8 + 1 + _ ≤ 2000
  omega
 | 5, _ => simp [Bod.putK, be_len]
 | 6, _ => simp [Bod.putK, be_len, b32L]
theorem body_fn {x : Bod} {q : Option Addr} {qc : Nat} (kind : Nat) (hk : x.kind.toNat = kind) (f1 f2 f3 : FuncId) [Fun Tryz.prog f1] [Fun Tryz.prog f2] [Fun Tryz.prog f3] (hput : PutC f1 kind) (hget : GetC f2 kind) (hmay : MayC f3 kind)
  (hcod : getKV codecsM (kind : Int) = some (codecV f1 f2 f3)) (hq : QAt f q x.q) (hl : x.q.length ≤ 1000000000) :
  Fn Tryz.prog 73 [.agg (x.vals q qc).toArray] f F (Ret (.bool (x.mayP kind)) f F) := by
 refine Fn.enter Tryz.func73 rfl Tryz.ntmps73 rfl (L := [(0, _)]) ⟨rfl, trivial⟩ fun base => ?_
 refine gA ?_
 refine H.box (ls := x.vals q qc) rfl rfl rfl rfl fun xb => ?_
 refine gU ?_
 have hz : ∀ z, (getKV codecsM (kind : Int)).getD z = codecV f1 f2 f3 := fun z => by rw [hcod]; rfl
 have hi : (getKV codecsM (kind : Int)).isSome = true := by rw [hcod]; rfl
 have hkv : Value.int .u8 (x.kind.toNat : Nat) = encU8 (kind : Int) := by rw [hk]; rfl
 refine H.cut (ι := Nat) (fun i => [(1, .pointer (some ⟨xb, 0, none⟩)), (3, .pointer (some ⟨i, 0, none⟩)), (4, .bool true)]) (fun _ => f) (fun i => row i 202 (codecCells f1 f2 f3) :: row xb 52 (x.vals q qc) :: F) (fun _ => True) _ (fun i _ => ?_) ?_
 ·by_cases h1 : x.view < 1073741824
  ·by_cases h2 : x.mayK kind = true
   ·have hm : ∀ A, Fn Tryz.prog f3 [.agg (x.vals q qc).toArray] f A (Ret (.bool true) f A) := fun A => by have := hmay f A x q qc hq hl; rwa [h2] at this
    by_cases h3 : x.q.length ≤ 11
    ·skip
     repeat (first | ((first | apply H.Ah | apply H.Bg); (iterate 3 exact rfl)) | (apply H.Ao; (iterate 3 exact rfl); exact inferInstance; exact rfl) | (apply H.Ag; (iterate 3 exact rfl); apply Rd1.ofRow; (repeat (first | exact .here _ _ _ | apply At.there)); (iterate 2 exact rfl)) | (first | apply H.seq | apply H.Al | apply H.nil | apply H.Am) | ((first | apply H.cmp | apply H.Bc); (iterate 5 exact rfl)) | ((first | apply H.Aw | apply H.not); (iterate 4 exact rfl)) | (apply H.Bh) | (apply H.gno; (iterate 3 exact rfl); (omega)) | (apply H.Ca; exact rfl; (omega)) | (refine H.Aj (ls := x.vals q qc) rfl rfl rfl (Rd.ofRow (by repeat constructor)) rfl rfl ?_) | (refine H.callVR (fs := []) (cs := []) (vs := [.agg (x.vals q qc).toArray]) rfl rfl rfl rfl (hm _) ?_))
     refine H.Av (ls := (Bod.zero 0).vals none 0) rfl rfl rfl fun yb => ?_
     refine H.Ap (ls := (Bod.zero 0).vals none 0) (vs := (Bod.zero x.kind).vals none 0) (ls' := (Bod.zero x.kind).vals none 0) rfl rfl rfl (zae rfl) rfl rfl (Nat.le_refl 76) (by repeat constructor) ?_
     refine gA ?_
     refine H.Aa (.there _ (.there _ (.here _ _))) ?_
     refine H.Aa (.there _ (.there _ (.here _ _))) ?_
     refine H.Ay (by kernel_rfl) (by decide +kernel) (by repeat (first | exact zab | refine zaa ?_ | refine zac ?_ | refine zad ?_)) (S := [_, _]) rfl ?_
     refine HB.Af [(0, false), (1, false), (2, false), (3, false), (4, false)] 3 (by kernel_rfl) ?_
     refine gJ ?_
     refine HQ.Aj (ls := x.vals q qc) rfl rfl rfl (Rd.ofRow (by repeat constructor)) rfl rfl ?_
     refine HQ.Ae rfl ?_
     refine HB.ev1 (i := 5) (by kernel_rfl) rfl ?_
     refine H.callVE2 (fs := []) (cs := []) (vs := [.slice none 0 0, .agg (x.vals q qc).toArray]) rfl rfl rfl rfl (hput f _ x q qc none 0 [] Src.nil (fun _ => rfl) hq h2 h3 (by decide)) fun p1 c1 => ?_
     have hb := putK_len x kind h2 h3
     rw [List.nil_append]
     generalize hbs : x.putK kind = bs at hb ⊢
     have hbk : x.back kind = ((⟨bs, false⟩ : Cs).bodyK 32 128 x.kind kind).1 := by rw [← hbs]; rfl
     refine gA ?_
     refine H.Aa (.there _ (.there _ (.here _ _))) ?_
     refine H.Aa (.there _ (.there _ (.here _ _))) ?_
     refine H.on0 rfl ?_
     refine HB.ev1 (i := 6) (by kernel_rfl) rfl ?_
     refine H.Ce (.there _ (.there _ (.here _ _ _))) hb.1 fun b1 hp => ?_
     subst hp
     refine H.call rfl rfl rfl (octNew_fn f _ (Src.slcS (.there _ (.there _ (.here _ _ _))) (by rw [zaf]; exact (Nat.mul_one _).symm)) (fun h => by cases h) (by omega)) fun v f' A' hr => ?_
     obtain ⟨g1, cb, p2, c2, rfl, hg1, hd1, rfl, rfl⟩ := hr
     refine gA ?_
     refine H.Aa (.there _ (.there _ (.here _ _))) ?_
     refine H.Aa (.there _ (.there _ (.here _ _))) ?_
     refine H.on [] (Le.un _ _) rfl ?_
     refine HB.ev1 (i := 7) (by kernel_rfl) rfl ?_
     have e : row yb 52 ((Bod.zero x.kind).vals none 0) = bodAt yb 52 [] [] (Bod.zero x.kind) none 0 := by unfold bodAt; rw [List.append_nil]; rfl
     refine H.Aa (.there _ (.there _ (.there _ (.there _ (.here _ _))))) ?_
     refine H.Aa (.there _ (.there _ (.there _ (.here _ _)))) ?_
     rw [e]
     refine H.callVE (fs := []) (cs := []) (vs := [.pointer (some ⟨cb, 0, none⟩), .pointer (some ⟨yb, 0, none⟩)]) rfl rfl rfl rfl (hget (un f g1) _ cb ⟨bs, false⟩ yb 52 [] [] x.kind (by show bs.length ≤ _; omega)) fun i2 => ?_
     rw [← hbk]
     generalize ((⟨bs, false⟩ : Cs).bodyK 32 128 x.kind kind).2 = s2
     refine gA ?_
     refine H.Aa (.there _ (.there _ (.there _ (.there _ (.here _ _))))) ?_
     refine H.Aa (.there _ (.there _ (.there _ (.there _ (.here _ _))))) ?_
     refine H.on0 rfl ?_
     refine HB.Aq (by kernel_rfl) ?_
     refine H.freeze (.there _ (.there _ (.there _ (.there _ (.here _ _))))) fun g2 hg2 hd2 => ?_
     have hq2 : QAt (un (un f g1) g2) q x.q := (hq.mono (Le.un f g1)).mono (Le.un _ g2)
     have hy2 : QAt (un (un f g1) g2) i2.1 (x.back kind).q := qs_qat hg2 hd2
     refine gA ?_
     refine H.Aj (ls := x.vals q qc) rfl rfl rfl (Rd.ofRow (by repeat constructor)) rfl rfl ?_
     refine H.Aj (ls := (x.back kind).vals i2.1 i2.2) rfl rfl rfl (bodAt_rd (pre := []) (post := []) (by repeat constructor)) rfl rfl ?_
     refine H.Ad rfl rfl rfl (same_fn _ _ hq2 hy2 hl) ?_
     refine ga ?_
     refine H.thaw hg2 hd2 ?_
     refine H.Ab (.here _ _) ?_
     refine H.thaw hg1 hd1 ?_
     repeat refine H.Ab (.here _ _) ?_
     refine H.Ac rfl rfl (fun _ h => h) ⟨?_, rfl, rfl⟩
     simp [Bod.mayP, h1, h2, h3]
    ·skip
     repeat (first | ((first | apply H.Ah | apply H.Ak | apply H.Bg); (iterate 3 exact rfl)) | (apply H.Ao; (iterate 3 exact rfl); exact inferInstance; exact rfl) | (apply H.Ag; (iterate 3 exact rfl); apply Rd1.ofRow; (repeat (first | exact .here _ _ _ | apply At.there)); (iterate 2 exact rfl)) | (first | apply H.seq | apply H.Al | apply H.nil | apply H.Am) | ((apply H.cmp); (iterate 5 exact rfl)) | ((first | apply H.Aw | apply H.not); (iterate 4 exact rfl)) | (first | apply H.ret | apply H.Bu) | (apply H.gno; (iterate 3 exact rfl); (omega)) | (apply H.Br; exact rfl; (omega)) | (refine H.Aj (ls := x.vals q qc) rfl rfl rfl (Rd.ofRow (by repeat constructor)) rfl rfl ?_) | (refine H.callVR (fs := []) (cs := []) (vs := [.agg (x.vals q qc).toArray]) rfl rfl rfl rfl (hm _) ?_))
     refine H.Ab (.here _ _) ?_
     refine H.Ab (.here _ _) ?_
     refine H.Ac rfl rfl (fun _ h => h) ⟨?_, rfl, rfl⟩
     simp [Bod.mayP, *]
   ·have hm : ∀ A, Fn Tryz.prog f3 [.agg (x.vals q qc).toArray] f A (Ret (.bool false) f A) := fun A => by have := hmay f A x q qc hq hl; rwa [Bool.eq_false_iff.2 h2] at this
    repeat (first | ((first | apply H.Ah | apply H.Ak | apply H.Bg); (iterate 3 exact rfl)) | (apply H.Ao; (iterate 3 exact rfl); exact inferInstance; exact rfl) | (apply H.Ag; (iterate 3 exact rfl); apply Rd1.ofRow; (repeat (first | exact .here _ _ _ | apply At.there)); (iterate 2 exact rfl)) | (first | apply H.seq | apply H.Al | apply H.nil | apply H.Am) | ((apply H.cmp); (iterate 5 exact rfl)) | (apply H.Bl; (iterate 2 exact rfl)) | (apply H.Be; (iterate 4 exact rfl)) | ((first | apply H.Aw | apply H.not); (iterate 4 exact rfl)) | (apply H.Ch; exact rfl) | (first | apply H.ret | apply H.Bu) | (apply H.gno; (iterate 3 exact rfl); (omega)) | (refine H.Aj (ls := x.vals q qc) rfl rfl rfl (Rd.ofRow (by repeat constructor)) rfl rfl ?_) | (refine H.callVR (fs := []) (cs := []) (vs := [.agg (x.vals q qc).toArray]) rfl rfl rfl rfl (hm _) ?_))
    refine H.Ab (.here _ _) ?_
    refine H.Ab (.here _ _) ?_
    refine H.Ac rfl rfl (fun _ h => h) ⟨?_, rfl, rfl⟩
    simp [Bod.mayP, *]
  ·have hm : ∀ A, Fn Tryz.prog f3 [.agg (x.vals q qc).toArray] f A (Ret (.bool (x.mayK kind)) f A) := fun A => hmay f A x q qc hq hl
   refine gZ ?_
   refine H.Ab (.here _ _) ?_
   refine H.Ab (.here _ _) ?_
   refine H.Ac rfl rfl (fun _ h => h) ⟨?_, rfl, rfl⟩
   simp [Bod.mayP, *]
 ·refine H.Ay (by kernel_rfl) (by decide +kernel) (by repeat (first | exact zab | refine zaa ?_ | refine zac ?_ | refine zad ?_)) (S := [_]) rfl ?_
  refine HB.Af [(1, false), (2, false)] 8 (by kernel_rfl) ?_
  refine gJ ?_
  refine HQ.Ae rfl ?_
  refine HB.ev2 (i := 0) (j := 7) (by kernel_rfl) rfl rfl ?_ ?_
  ·refine H.callE rfl rfl rfl (codecs_fn f _) fun mb => ?_
   refine gA ?_
   refine H.Aa (.there _ (.here _ _)) ?_
   refine H.on [_] (Le.refl _) rfl ?_
   refine HB.Af [(3, false), (4, false), (5, false), (6, false)] 3 (by kernel_rfl) ?_
   refine HQ.lookup2 (enc := encU8) (k := (kind : Int)) rfl rfl rfl (by repeat constructor) hkv (hz _) hi rfl ?_
   refine gO ?_
   refine HQ.Ae rfl ?_
   refine HB.ev1 (i := 7) (by kernel_rfl) rfl ?_
   refine H.Av (ls := [.nilFunc, .nilFunc, .nilFunc]) rfl rfl rfl fun vb => ?_
   refine gA ?_
   refine H.Aa (.there _ (.there _ (.here _ _))) ?_
   refine H.Aa (.there _ (.there _ (.here _ _))) ?_
   refine H.on0 rfl ?_
   refine HB.ev1 (i := 8) (by kernel_rfl) rfl ?_
   refine H.Ap (ls := [.nilFunc, .nilFunc, .nilFunc]) (vs := codecCells f1 f2 f3) (ls' := codecCells f1 f2 f3) rfl rfl rfl (zae rfl) rfl rfl (Nat.le_refl 3) (by repeat constructor) ?_
   refine gA ?_
   refine H.on0 rfl ?_
   refine HB.Af [(9, false)] 0 (by kernel_rfl) ?_
   refine gB ?_
   refine HQ.Ae rfl ?_
   refine HB.Aq (by kernel_rfl) ?_
   refine H.Ab (.there _ (.here _ _)) ?_
   refine H.Aa (.there _ (.here _ _)) ?_
   exact H.meet vb trivial ⟨rfl, rfl, rfl, trivial⟩ rfl rfl
  ·refine H.Av (ls := [.nilFunc, .nilFunc, .nilFunc]) rfl rfl rfl fun vb => ?_
   refine gA ?_
   refine H.Aa (.there _ (.here _ _)) ?_
   refine H.on0 rfl ?_
   refine HB.ev1 (i := 0) (by kernel_rfl) rfl ?_
   refine H.callE rfl rfl rfl (codecs_fn f _) fun mb => ?_
   refine gA ?_
   refine H.Aa (.there _ (.here _ _)) ?_
   refine H.on [_] (Le.refl _) rfl ?_
   refine HB.Af [(3, false), (4, false), (5, false), (6, false)] 2 (by kernel_rfl) ?_
   refine HQ.lookup2 (enc := encU8) (k := (kind : Int)) rfl rfl rfl (by repeat constructor) hkv (hz _) hi rfl ?_
   refine gO ?_
   refine HQ.Ae rfl ?_
   refine HB.ev1 (i := 8) (by kernel_rfl) rfl ?_
   refine H.Ap (ls := [.nilFunc, .nilFunc, .nilFunc]) (vs := codecCells f1 f2 f3) (ls' := codecCells f1 f2 f3) rfl rfl rfl (zae rfl) rfl rfl (Nat.le_refl 3) (by repeat constructor) ?_
   refine gA ?_
   refine H.on0 rfl ?_
   refine HB.Af [(9, false)] 0 (by kernel_rfl) ?_
   refine gB ?_
   refine HQ.Ae rfl ?_
   refine HB.Aq (by kernel_rfl) ?_
   refine H.Ab (.there _ (.here _ _)) ?_
   refine H.Aa (.there _ (.here _ _)) ?_
   exact H.meet vb trivial ⟨rfl, rfl, rfl, trivial⟩ rfl rfl
end
theorem v11_get (d : Nat → Int) {i : Nat} (h : i < 11) : (v11 d)[i]? = some (.int .u64 (d i)) := by
 match i, h with
 | 0, _ => rfl
 | 1, _ => rfl
 | 2, _ => rfl
 | 3, _ => rfl
 | 4, _ => rfl
 | 5, _ => rfl
 | 6, _ => rfl
 | 7, _ => rfl
 | 8, _ => rfl
 | 9, _ => rfl
 | 10, _ => rfl
def maxTo (d : Nat → Int) : Nat → Int
 | 0 => d 0
 | i + 1 => if maxTo d i < d (i + 1) then d (i + 1) else maxTo d i
theorem maxTo_le (d : Nat → Int) (B : Int) : ∀ n, maxTo d n ≤ B ↔ ∀ i, i ≤ n → d i ≤ B
 | 0 => ⟨fun h i hi => by rw [show i = 0 by omega]; exact h, fun h => h 0 (Nat.le_refl _)⟩
 | n + 1 => by
  have ih := maxTo_le d B n
  unfold maxTo
  constructor
  ·intro h i hi
   by_cases e : i = n + 1
   ·subst e; split at h <;> omega
   ·exact ih.1 (by split at h <;> omega) i (by omega)
  ·intro h
   have h1 := ih.2 fun i hi => h i (by omega)
   have h2 := h (n + 1) (Nat.le_refl _)
   split <;> omega
theorem zbc {f : Frag} {A A' : List HP} {mb : Nat} {T : TypeId} {m : Msg} {q : Option Addr} {qc : Nat} (h : At A (row mb T (m.vals q qc)) A' (row mb T (m.vals q qc))) : Rd f A mb (0 + 2) (v11 m.deps) := by
 have h1 := Rd.ofRow (f := f) h
 have e : m.vals q qc = [.int .i64 m.origin, .int .u64 m.number] ++ v11 m.deps ++ (m.body.vals q qc ++ b32 m.tag) := by unfold Msg.vals; simp only [List.append_assoc]
 rw [e] at h1
 exact h1.sub rfl
theorem msg_body {f : Frag} {A A' : List HP} {mb : Nat} {T : TypeId} {m : Msg} {q : Option Addr} {qc : Nat} (h : At A (row mb T (m.vals q qc)) A' (row mb T (m.vals q qc))) : Rd f A mb (0 + 13) (m.body.vals q qc) := by
 have h1 := Rd.ofRow (f := f) h
 have e : m.vals q qc = ([.int .i64 m.origin, .int .u64 m.number] ++ v11 m.deps) ++ m.body.vals q qc ++ b32 m.tag := rfl
 rw [e] at h1
 exact h1.sub rfl
section
variable (f : Frag) (F : List HP)
theorem max_fn {b off : Nat} {d : Nat → Int} (hr : Rd f F b off (v11 d)) :
  Fn Tryz.prog 72 [.slice (some ⟨b, off, none⟩) 11 11] f F (Ret (.int .u64 (maxTo d 10)) f F) := by
 refine Fn.enter Tryz.func72 rfl Tryz.ntmps72 rfl (L := [(0, _)]) ⟨rfl, trivial⟩ fun base => ?_
 refine gH ?_
 refine H.index1 (i := 0) rfl rfl rfl rfl (by decide) rfl ?_
 refine H.Ag rfl rfl rfl (.of hr (i := 0) rfl) rfl ?_
 refine ga ?_
 refine H.Ax (ι := Nat) (fun i => [(4, .int .i64 ((i + 1 : Nat) : Int)), (3, .int .u64 (maxTo d i)), (0, .slice (some ⟨b, off, none⟩) 11 11)]) (fun _ => f) (fun _ => F) (fun i => i ≤ 10) (fun i => 10 - i) 0 (Nat.zero_le _) ⟨rfl, rfl, rfl, trivial⟩ rfl rfl fun i hi => ?_
 have hi : i ≤ 10 := hi
 by_cases hlt : i < 10
 ·refine gG ?_
  refine H.index1 (i := i + 1) rfl rfl rfl rfl (by omega) rfl ?_
  refine H.Ag rfl rfl rfl (.of hr (v11_get d (by omega))) rfl ?_
  refine H.max2 (z := maxTo d (i + 1)) rfl rfl rfl rfl rfl ?_
  refine gK ?_
  exact H.Au (i + 1) (by show i + 1 ≤ 10; omega) (by show 10 - (i + 1) < 10 - i; omega) ⟨rfl, rfl, rfl, trivial⟩ rfl rfl
 ·have : i = 10 := by omega
  subst this
  refine gH ?_
  exact H.Ac rfl rfl (fun _ h => h) ⟨rfl, rfl, rfl⟩
theorem body_none {x : Bod} {q : Option Addr} {qc : Nat} (hcod : getKV codecsM (x.kind.toNat : Int) = none) :
  Fn Tryz.prog 73 [.agg (x.vals q qc).toArray] f F (Ret (.bool false) f F) := by
 refine Fn.enter Tryz.func73 rfl Tryz.ntmps73 rfl (L := [(0, _)]) ⟨rfl, trivial⟩ fun base => ?_
 refine gA ?_
 refine H.box (ls := x.vals q qc) rfl rfl rfl rfl fun xb => ?_
 refine gU ?_
 have hz : (getKV codecsM (x.kind.toNat : Int)).getD (.agg ([.nilFunc, .nilFunc, .nilFunc] : List Value).toArray) = .agg ([.nilFunc, .nilFunc, .nilFunc] : List Value).toArray := by rw [hcod]; rfl
 have hi : (getKV codecsM (x.kind.toNat : Int)).isSome = false := by rw [hcod]; rfl
 refine H.cut (ι := Nat) (fun i => [(1, .pointer (some ⟨xb, 0, none⟩)), (3, .pointer (some ⟨i, 0, none⟩)), (4, .bool false)]) (fun _ => f) (fun i => row i 202 [.nilFunc, .nilFunc, .nilFunc] :: row xb 52 (x.vals q qc) :: F) (fun _ => True) _ (fun i _ => ?_) ?_
 ·refine gW ?_
  repeat refine H.Ab (.here _ _) ?_
  exact H.Ac rfl rfl (fun _ h => h) ⟨rfl, rfl, rfl⟩
 ·refine H.Ay (by kernel_rfl) (by decide +kernel) (by repeat (first | exact zab | refine zaa ?_ | refine zac ?_ | refine zad ?_)) (S := [_]) rfl ?_
  refine HB.Af [(1, false), (2, false)] 8 (by kernel_rfl) ?_
  refine gJ ?_
  refine HQ.Ae rfl ?_
  refine HB.ev2 (i := 0) (j := 7) (by kernel_rfl) rfl rfl ?_ ?_
  ·refine H.callE rfl rfl rfl (codecs_fn f _) fun mb => ?_
   refine gA ?_
   refine H.Aa (.there _ (.here _ _)) ?_
   refine H.on [_] (Le.refl _) rfl ?_
   refine HB.Af [(3, false), (4, false), (5, false), (6, false)] 3 (by kernel_rfl) ?_
   refine HQ.lookup2 (enc := encU8) (k := (x.kind.toNat : Int)) rfl rfl rfl (by repeat constructor) rfl hz hi rfl ?_
   refine gO ?_
   refine HQ.Ae rfl ?_
   refine HB.ev1 (i := 7) (by kernel_rfl) rfl ?_
   refine H.Av (ls := [.nilFunc, .nilFunc, .nilFunc]) rfl rfl rfl fun vb => ?_
   refine gA ?_
   refine H.Aa (.there _ (.there _ (.here _ _))) ?_
   refine H.Aa (.there _ (.there _ (.here _ _))) ?_
   refine H.on0 rfl ?_
   refine HB.ev1 (i := 8) (by kernel_rfl) rfl ?_
   refine H.Ap (ls := [.nilFunc, .nilFunc, .nilFunc]) (vs := [.nilFunc, .nilFunc, .nilFunc]) (ls' := [.nilFunc, .nilFunc, .nilFunc]) rfl rfl rfl (zae rfl) rfl rfl (Nat.le_refl 3) (by repeat constructor) ?_
   refine gA ?_
   refine H.on0 rfl ?_
   refine HB.Af [(9, false)] 0 (by kernel_rfl) ?_
   refine gB ?_
   refine HQ.Ae rfl ?_
   refine HB.Aq (by kernel_rfl) ?_
   refine H.Ab (.there _ (.here _ _)) ?_
   refine H.Aa (.there _ (.here _ _)) ?_
   exact H.meet vb trivial ⟨rfl, rfl, rfl, trivial⟩ rfl rfl
  ·refine H.Av (ls := [.nilFunc, .nilFunc, .nilFunc]) rfl rfl rfl fun vb => ?_
   refine gA ?_
   refine H.Aa (.there _ (.here _ _)) ?_
   refine H.on0 rfl ?_
   refine HB.ev1 (i := 0) (by kernel_rfl) rfl ?_
   refine H.callE rfl rfl rfl (codecs_fn f _) fun mb => ?_
   refine gA ?_
   refine H.Aa (.there _ (.here _ _)) ?_
   refine H.on [_] (Le.refl _) rfl ?_
   refine HB.Af [(3, false), (4, false), (5, false), (6, false)] 2 (by kernel_rfl) ?_
   refine HQ.lookup2 (enc := encU8) (k := (x.kind.toNat : Int)) rfl rfl rfl (by repeat constructor) rfl hz hi rfl ?_
   refine gO ?_
   refine HQ.Ae rfl ?_
   refine HB.ev1 (i := 8) (by kernel_rfl) rfl ?_
   refine H.Ap (ls := [.nilFunc, .nilFunc, .nilFunc]) (vs := [.nilFunc, .nilFunc, .nilFunc]) (ls' := [.nilFunc, .nilFunc, .nilFunc]) rfl rfl rfl (zae rfl) rfl rfl (Nat.le_refl 3) (by repeat constructor) ?_
   refine gA ?_
   refine H.on0 rfl ?_
   refine HB.Af [(9, false)] 0 (by kernel_rfl) ?_
   refine gB ?_
   refine HQ.Ae rfl ?_
   refine HB.Aq (by kernel_rfl) ?_
   refine H.Ab (.there _ (.here _ _)) ?_
   refine H.Aa (.there _ (.here _ _)) ?_
   exact H.meet vb trivial ⟨rfl, rfl, rfl, trivial⟩ rfl rfl
def Bod.mayB (x : Bod) : Bool := decide (1 ≤ x.kind.toNat ∧ x.kind.toNat ≤ 6) && x.mayP x.kind.toNat
theorem bodyP_fn {x : Bod} {q : Option Addr} {qc : Nat} (hq : QAt f q x.q) (hl : x.q.length ≤ 1000000000) :
  Fn Tryz.prog 73 [.agg (x.vals q qc).toArray] f F (Ret (.bool x.mayB) f F) := by
 unfold Bod.mayB
 generalize hk : x.kind.toNat = kind
 match kind, hk with
 | 1, hk => exact body_fn f F 1 hk _ _ _ put1 get1 may1 (by rfl) hq hl
 | 2, hk => exact body_fn f F 2 hk _ _ _ put2 get2 may2 (by rfl) hq hl
 | 3, hk => exact body_fn f F 3 hk _ _ _ put3 get3 may3 (by rfl) hq hl
 | 4, hk => exact body_fn f F 4 hk _ _ _ put4 get4 may4 (by rfl) hq hl
 | 5, hk => exact body_fn f F 5 hk _ _ _ put5 get5 may5 (by rfl) hq hl
 | 6, hk => exact body_fn f F 6 hk _ _ _ put6 get6 may6 (by rfl) hq hl
 | 0, hk =>
  rw [decide_eq_false (by omega), Bool.false_and]
  exact body_none f F (by rw [hk]; rfl)
 | k + 7, hk =>
  rw [decide_eq_false (by omega), Bool.false_and]
  refine body_none f F ?_
  rw [hk]
  refine (getKV_none codecsM _).2 ?_
  simp only [codecsM, List.map_cons, List.map_nil, List.mem_cons, List.not_mem_nil, or_false]
  omega
def Msg.outer (m : Msg) : Prop := 1 ≤ m.origin ∧ m.origin ≤ 11 ∧ 1 ≤ m.number ∧ m.number ≤ 65536 ∧ m.deps (m.origin.toNat - 1) = m.number - 1 ∧ maxTo m.deps 10 ≤ 65536
instance (m : Msg) : Decidable m.outer := by unfold Msg.outer; infer_instance
theorem may_fn {m : Msg} {q : Option Addr} {qc : Nat} (hq : QAt f q m.body.q) (hl : m.body.q.length ≤ 1000000000) :
  Fn Tryz.prog 46 [.agg (m.vals q qc).toArray] f F (Ret (.bool (decide m.outer && m.body.mayB)) f F) := by
 by_cases h1 : 1 ≤ m.origin
 ·skip
  by_cases h2 : m.origin ≤ 11
  ·skip
   by_cases h3 : 1 ≤ m.number
   ·skip
    by_cases h4 : m.number ≤ 65536
    ·skip
     by_cases h5 : m.deps (m.origin.toNat - 1) = m.number - 1
     ·skip
      by_cases h6 : maxTo m.deps 10 ≤ 65536
      ·skip
       try simp only [Bool.not_eq_true] at *
       refine Fn.enter Tryz.func46 rfl Tryz.ntmps46 rfl (L := [(0, _)]) ⟨rfl, trivial⟩ fun base => ?_
       refine gA ?_
       refine H.box (ls := m.vals q qc) rfl rfl rfl rfl fun mb => ?_
       refine gU ?_
       refine H.Bp (by kernel_rfl) (by decide +kernel) (by repeat (first | exact zab | refine zaa ?_ | refine zac ?_ | refine zad ?_)) ?_
       repeat (first | ((apply HQ.Ah); (iterate 3 exact rfl)) | (apply HQ.Ao; (iterate 3 exact rfl); exact inferInstance; exact rfl) | (apply HQ.Ag; (iterate 3 exact rfl); apply Rd1.ofRow; (repeat (exact .here _ _ _)); (iterate 2 exact rfl)) | ((apply HQ.done0); exact rfl) | ((apply HQ.cmp); (iterate 5 exact rfl)) | ((apply HQ.ar; (iterate 4 exact rfl)); (first | (with_reducible apply wr_i64; omega) | (with_reducible apply wr_u64; omega)); exact rfl) | ((apply HQ.Aw); (iterate 4 exact rfl)) | (apply HQ.gno; (iterate 3 exact rfl); (omega)) | (refine HQ.Ba (i := (m.origin.toNat - 1)) rfl rfl rfl (by omega) (by omega) rfl ?_) | (refine HQ.Ag rfl rfl rfl (.of (zbc (by repeat constructor)) (by rw [Nat.mul_one]; exact v11_get m.deps (by omega))) rfl ?_))
       repeat (first | ((first | apply H.Ah | apply H.Ak); (iterate 3 exact rfl)) | (apply H.Ao; (iterate 3 exact rfl); exact inferInstance; exact rfl) | (first | apply H.seq | apply H.Al | apply H.nil | apply H.Am) | ((apply H.cmp); (iterate 5 exact rfl)) | (apply H.Be; (iterate 4 exact rfl)) | (first | apply H.Bh | apply H.ret) | (apply H.Bk; (iterate 3 exact rfl); (assumption)) | (apply H.Ca; exact rfl; (omega)) | (refine H.Cd (lo := none) (hi := none) (mx := none) (lv := 0) (hv := 11) (mv := 11) rfl rfl rfl rfl rfl (fun h => by cases h) (by decide) (by decide) (by decide) rfl ?_) | (refine H.Ad rfl rfl rfl (max_fn f _ (off := 0 + 2) (d := m.deps) (zbc (by repeat constructor))) ?_) | (refine H.Aj (ls := m.body.vals q qc) rfl rfl rfl (msg_body (by repeat constructor)) rfl rfl ?_) | (refine H.Ad rfl rfl rfl (bodyP_fn f _ hq hl) ?_))
       refine H.Ab (.here _ _) ?_
       refine H.Ac rfl rfl (fun _ h => h) ⟨?_, rfl, rfl⟩
       simp [Msg.outer, *]
      ·skip
       try simp only [Bool.not_eq_true] at *
       refine Fn.enter Tryz.func46 rfl Tryz.ntmps46 rfl (L := [(0, _)]) ⟨rfl, trivial⟩ fun base => ?_
       refine gA ?_
       refine H.box (ls := m.vals q qc) rfl rfl rfl rfl fun mb => ?_
       refine gU ?_
       refine H.Bp (by kernel_rfl) (by decide +kernel) (by repeat (first | exact zab | refine zaa ?_ | refine zac ?_ | refine zad ?_)) ?_
       repeat (first | ((apply HQ.Ah); (iterate 3 exact rfl)) | (apply HQ.Ao; (iterate 3 exact rfl); exact inferInstance; exact rfl) | (apply HQ.Ag; (iterate 3 exact rfl); apply Rd1.ofRow; (repeat (exact .here _ _ _)); (iterate 2 exact rfl)) | ((apply HQ.done0); exact rfl) | ((apply HQ.cmp); (iterate 5 exact rfl)) | ((apply HQ.ar; (iterate 4 exact rfl)); (first | (with_reducible apply wr_i64; omega) | (with_reducible apply wr_u64; omega)); exact rfl) | ((apply HQ.Aw); (iterate 4 exact rfl)) | (apply HQ.gno; (iterate 3 exact rfl); (omega)) | (refine HQ.Ba (i := (m.origin.toNat - 1)) rfl rfl rfl (by omega) (by omega) rfl ?_) | (refine HQ.Ag rfl rfl rfl (.of (zbc (by repeat constructor)) (by rw [Nat.mul_one]; exact v11_get m.deps (by omega))) rfl ?_))
       repeat (first | ((first | apply H.Ah | apply H.Ak); (iterate 3 exact rfl)) | (apply H.Ao; (iterate 3 exact rfl); exact inferInstance; exact rfl) | (first | apply H.seq | apply H.Al | apply H.nil | apply H.Am) | ((apply H.cmp); (iterate 5 exact rfl)) | (apply H.Bl; (iterate 2 exact rfl)) | ((apply H.Aw); (iterate 4 exact rfl)) | (first | apply H.Bh | apply H.ret) | (apply H.gno; (iterate 3 exact rfl); (assumption)) | (apply H.Ca; exact rfl; (omega)) | (refine H.Cd (lo := none) (hi := none) (mx := none) (lv := 0) (hv := 11) (mv := 11) rfl rfl rfl rfl rfl (fun h => by cases h) (by decide) (by decide) (by decide) rfl ?_) | (refine H.Ad rfl rfl rfl (max_fn f _ (off := 0 + 2) (d := m.deps) (zbc (by repeat constructor))) ?_))
       refine H.Ab (.here _ _) ?_
       refine H.Ac rfl rfl (fun _ h => h) ⟨?_, rfl, rfl⟩
       simp [Msg.outer, *]
     ·skip
      try simp only [Bool.not_eq_true] at *
      refine Fn.enter Tryz.func46 rfl Tryz.ntmps46 rfl (L := [(0, _)]) ⟨rfl, trivial⟩ fun base => ?_
      refine gA ?_
      refine H.box (ls := m.vals q qc) rfl rfl rfl rfl fun mb => ?_
      refine gU ?_
      refine H.Bp (by kernel_rfl) (by decide +kernel) (by repeat (first | exact zab | refine zaa ?_ | refine zac ?_ | refine zad ?_)) ?_
      repeat (first | ((apply HQ.Ah); (iterate 3 exact rfl)) | (apply HQ.Ao; (iterate 3 exact rfl); exact inferInstance; exact rfl) | (apply HQ.Ag; (iterate 3 exact rfl); apply Rd1.ofRow; (repeat (exact .here _ _ _)); (iterate 2 exact rfl)) | ((apply HQ.done0); exact rfl) | ((apply HQ.cmp); (iterate 5 exact rfl)) | ((apply HQ.ar; (iterate 4 exact rfl)); (first | (with_reducible apply wr_i64; omega) | (with_reducible apply wr_u64; omega)); exact rfl) | ((apply HQ.Aw); (iterate 4 exact rfl)) | (apply HQ.gno; (iterate 3 exact rfl); (omega)) | (refine HQ.Ba (i := (m.origin.toNat - 1)) rfl rfl rfl (by omega) (by omega) rfl ?_) | (refine HQ.Ag rfl rfl rfl (.of (zbc (by repeat constructor)) (by rw [Nat.mul_one]; exact v11_get m.deps (by omega))) rfl ?_))
      refine gG ?_
      refine H.Ab (.here _ _) ?_
      refine H.Ac rfl rfl (fun _ h => h) ⟨?_, rfl, rfl⟩
      simp [Msg.outer, *]
    ·skip
     try simp only [Bool.not_eq_true] at *
     refine Fn.enter Tryz.func46 rfl Tryz.ntmps46 rfl (L := [(0, _)]) ⟨rfl, trivial⟩ fun base => ?_
     refine gA ?_
     refine H.box (ls := m.vals q qc) rfl rfl rfl rfl fun mb => ?_
     refine gU ?_
     refine H.Bp (by kernel_rfl) (by decide +kernel) (by repeat (first | exact zab | refine zaa ?_ | refine zac ?_ | refine zad ?_)) ?_
     refine gc ?_
     refine gD ?_
     refine H.Ab (.here _ _) ?_
     refine H.Ac rfl rfl (fun _ h => h) ⟨?_, rfl, rfl⟩
     simp [Msg.outer, *]
   ·skip
    try simp only [Bool.not_eq_true] at *
    refine Fn.enter Tryz.func46 rfl Tryz.ntmps46 rfl (L := [(0, _)]) ⟨rfl, trivial⟩ fun base => ?_
    refine gA ?_
    refine H.box (ls := m.vals q qc) rfl rfl rfl rfl fun mb => ?_
    refine gU ?_
    refine H.Bp (by kernel_rfl) (by decide +kernel) (by repeat (first | exact zab | refine zaa ?_ | refine zac ?_ | refine zad ?_)) ?_
    refine gc ?_
    refine gD ?_
    refine H.Ab (.here _ _) ?_
    refine H.Ac rfl rfl (fun _ h => h) ⟨?_, rfl, rfl⟩
    simp [Msg.outer, *]
  ·skip
   try simp only [Bool.not_eq_true] at *
   refine Fn.enter Tryz.func46 rfl Tryz.ntmps46 rfl (L := [(0, _)]) ⟨rfl, trivial⟩ fun base => ?_
   refine gA ?_
   refine H.box (ls := m.vals q qc) rfl rfl rfl rfl fun mb => ?_
   refine gU ?_
   refine H.Bp (by kernel_rfl) (by decide +kernel) (by repeat (first | exact zab | refine zaa ?_ | refine zac ?_ | refine zad ?_)) ?_
   refine gc ?_
   refine gD ?_
   refine H.Ab (.here _ _) ?_
   refine H.Ac rfl rfl (fun _ h => h) ⟨?_, rfl, rfl⟩
   simp [Msg.outer, *]
 ·skip
  try simp only [Bool.not_eq_true] at *
  refine Fn.enter Tryz.func46 rfl Tryz.ntmps46 rfl (L := [(0, _)]) ⟨rfl, trivial⟩ fun base => ?_
  refine gA ?_
  refine H.box (ls := m.vals q qc) rfl rfl rfl rfl fun mb => ?_
  refine gU ?_
  refine H.Bp (by kernel_rfl) (by decide +kernel) (by repeat (first | exact zab | refine zaa ?_ | refine zac ?_ | refine zad ?_)) ?_
  refine gc ?_
  refine gD ?_
  refine H.Ab (.here _ _) ?_
  refine H.Ac rfl rfl (fun _ h => h) ⟨?_, rfl, rfl⟩
  simp [Msg.outer, *]
end
section
variable (f : Frag) (F : List HP)
theorem rpairs_fn {p r : Option Addr} {c d : Nat} {l m : List (Int × Int)} (hp : QAt f p l) (hr : QAt f r m) (hl : l.length ≤ 1000000000) :
  Fn Tryz.prog 155 [.slice p l.length c, .slice r m.length d] f F (Ret (.bool (decide (l = m))) f F) := by
 by_cases hlen : (l.length : Int) = m.length
 ·have hlen' : l.length = m.length := by omega
  refine Fn.enter Tryz.func155 rfl Tryz.ntmps155 rfl (L := [(0, _), (1, _)]) ⟨rfl, rfl, trivial⟩ fun base => ?_
  refine gV ?_
  rw [decide_eq_false (by omega)]
  skip
  refine H.Ax (ι := Nat) (fun i => [(5, .int .i64 (i : Int)), (0, .slice p l.length c), (1, .slice r m.length d)]) (fun _ => f) (fun _ => F) (fun i => i ≤ l.length ∧ l.take i = m.take i) (fun i => l.length - i) 0 ⟨Nat.zero_le _, rfl⟩ ⟨rfl, rfl, rfl, trivial⟩ rfl rfl fun i hi => ?_
  obtain ⟨hi, htk⟩ : i ≤ l.length ∧ l.take i = m.take i := hi
  by_cases hlt : i < l.length
  ·have hx : l[i]? = some l[i] := List.getElem?_eq_getElem hlt
   have hy : m[i]? = some (m[i]'(by omega)) := List.getElem?_eq_getElem (by omega)
   generalize l[i] = x at hx
   generalize m[i]'(by omega) = y at hy
   obtain ⟨b, off, cs, T, fr, rfl, hfb, hcs⟩ := hp i x hx
   obtain ⟨b2, off2, cs2, T2, fr2, rfl, hfb2, hcs2⟩ := hr i y hy
   have rd : ∀ A, Rd f A b (off + i * 2) (pairV x) := fun A => Rd.imm hfb hcs
   have rd2 : ∀ A, Rd f A b2 (off2 + i * 2) (pairV y) := fun A => Rd.imm hfb2 hcs2
   refine gG ?_
   refine H.Bp (by kernel_rfl) (by decide +kernel) (by repeat (first | exact zab | refine zaa ?_ | refine zac ?_ | refine zad ?_)) ?_
   refine gB ?_
   refine HQ.Bt rfl rfl rfl rfl hlt rfl ?_
   refine HQ.Aj (ls := pairV x) rfl rfl rfl (rd _) rfl rfl ?_
   refine gB ?_
   refine HQ.Bt rfl rfl rfl rfl (by omega) rfl ?_
   refine HQ.Aj (ls := pairV y) rfl rfl rfl (rd2 _) rfl rfl ?_
   refine HQ.aggNe (D := 4) (b := !decide (x = y)) rfl rfl rfl rfl (by kernel_rfl) (by kernel_rfl) (by kernel_rfl) (by kernel_rfl) (by decide) (by rw [eqC_pair]) rfl ?_
   by_cases hxy : x = y
   ·rw [decide_eq_true hxy]
    refine gT ?_
    refine gR ?_
    exact H.Au (i + 1) ⟨by show i + 1 ≤ l.length; omega, take_eq_succ htk hx hy hxy⟩ (by show l.length - (i + 1) < l.length - i; omega) ⟨rfl, rfl, rfl, trivial⟩ rfl rfl
   ·rw [decide_eq_false hxy]
    refine gT ?_
    refine gD ?_
    refine H.Ac rfl rfl (fun _ h => h) ⟨?_, rfl, rfl⟩
    rw [decide_eq_false]
    rintro rfl
    rw [hx] at hy
    exact hxy (Option.some.inj hy)
  ·have : i = l.length := by omega
   subst this
   refine gV ?_
   refine H.Ac rfl rfl (fun _ h => h) ⟨?_, rfl, rfl⟩
   rw [decide_eq_true]
   rwa [List.take_length, hlen', List.take_length] at htk
 ·refine Fn.enter Tryz.func155 rfl Tryz.ntmps155 rfl (L := [(0, _), (1, _)]) ⟨rfl, rfl, trivial⟩ fun base => ?_
  refine gG ?_
  refine H.Ac rfl rfl (fun _ h => h) ⟨?_, rfl, rfl⟩
  rw [decide_eq_false]
  rintro rfl
  exact hlen rfl
theorem rsame_fn {a b : Bod} {p r : Option Addr} {c d : Nat} (hp : QAt f p a.q) (hr : QAt f r b.q) (hl : a.q.length ≤ 1000000000) :
  Fn Tryz.prog 106 [.agg (a.vals p c).toArray, .agg (b.vals r d).toArray] f F (Ret (.bool (Bod.eqB a b)) f F) := by
 by_cases h1 : (a.kind.toNat : Int) = b.kind.toNat
 ·skip
  by_cases h2 : a.view = b.view
  ·skip
   by_cases h3 : a.k = b.k
   ·skip
    by_cases h4 : eqC a.req.vals b.req.vals = true
    ·skip
     by_cases h5 : a.q = b.q
     ·skip
      try simp only [Bool.not_eq_true] at *
      refine Fn.enter Tryz.func106 rfl Tryz.ntmps106 rfl (L := [(0, _), (1, _)]) ⟨rfl, rfl, trivial⟩ fun base => ?_
      repeat (first | ((first | apply H.Ah | apply H.Ak); (iterate 3 exact rfl)) | (apply H.Ao; (iterate 3 exact rfl); exact inferInstance; exact rfl) | (apply H.Ag; (iterate 3 exact rfl); apply Rd1.ofRow; (repeat (first | exact .here _ _ _ | apply At.there)); (iterate 2 exact rfl)) | (first | apply H.seq | apply H.Al | apply H.nil | apply H.Am) | ((apply H.cmp); (iterate 5 exact rfl)) | (apply H.Be; (iterate 4 exact rfl)) | (apply H.ret) | (apply H.Bk; (iterate 3 exact rfl); (assumption)) | ((apply H.gtrue); (iterate 3 exact rfl); assumption) | (refine H.box (ls := a.vals p c) rfl rfl rfl rfl fun ab => ?_) | (refine H.box (ls := b.vals r d) rfl rfl rfl rfl fun bb => ?_) | (refine H.Aj (ls := a.req.vals) rfl rfl rfl (zar (by repeat constructor)) rfl rfl ?_) | (refine H.Aj (ls := b.req.vals) rfl rfl rfl (zar (by repeat constructor)) rfl rfl ?_) | (refine H.aggEq (xs := a.req.vals) (ys := b.req.vals) (D := 4) rfl rfl rfl rfl (by kernel_rfl) (by kernel_rfl) (by kernel_rfl) (by kernel_rfl) (by decide) rfl rfl ?_) | (refine H.Ad rfl rfl rfl (rpairs_fn f _ hp hr hl) ?_) | (refine H.Aj (ls := bytesV (b32L a.dig)) rfl rfl rfl (row_dig (by repeat constructor)) rfl rfl ?_) | (refine H.Aj (ls := bytesV (b32L b.dig)) rfl rfl rfl (row_dig (by repeat constructor)) rfl rfl ?_) | (refine H.aggEq (xs := bytesV (b32L a.dig)) (ys := bytesV (b32L b.dig)) (b := eqC (b32 a.dig) (b32 b.dig)) (D := 4) rfl rfl rfl rfl (by kernel_rfl) (by kernel_rfl) (by kernel_rfl) (by kernel_rfl) (by decide) rfl rfl ?_))
      refine H.Ab (.here _ _) ?_
      refine H.Ab (.here _ _) ?_
      refine H.Ac rfl rfl (fun _ h => h) ⟨?_, rfl, rfl⟩
      simp [Bod.eqB, *]
     ·skip
      try simp only [Bool.not_eq_true] at *
      refine Fn.enter Tryz.func106 rfl Tryz.ntmps106 rfl (L := [(0, _), (1, _)]) ⟨rfl, rfl, trivial⟩ fun base => ?_
      repeat (first | ((first | apply H.Ah | apply H.Ak); (iterate 3 exact rfl)) | (apply H.Ao; (iterate 3 exact rfl); exact inferInstance; exact rfl) | (apply H.Ag; (iterate 3 exact rfl); apply Rd1.ofRow; (repeat (first | exact .here _ _ _ | apply At.there)); (iterate 2 exact rfl)) | (first | apply H.seq | apply H.Al | apply H.nil | apply H.Am) | ((apply H.cmp); (iterate 5 exact rfl)) | (apply H.Bl; (iterate 2 exact rfl)) | (apply H.Be; (iterate 4 exact rfl)) | ((apply H.Aw); (iterate 4 exact rfl)) | (apply H.ret) | (apply H.Bk; (iterate 3 exact rfl); (assumption)) | (apply H.gno; (iterate 3 exact rfl); (assumption)) | ((apply H.gtrue); (iterate 3 exact rfl); assumption) | (refine H.box (ls := a.vals p c) rfl rfl rfl rfl fun ab => ?_) | (refine H.box (ls := b.vals r d) rfl rfl rfl rfl fun bb => ?_) | (refine H.Aj (ls := a.req.vals) rfl rfl rfl (zar (by repeat constructor)) rfl rfl ?_) | (refine H.Aj (ls := b.req.vals) rfl rfl rfl (zar (by repeat constructor)) rfl rfl ?_) | (refine H.aggEq (xs := a.req.vals) (ys := b.req.vals) (D := 4) rfl rfl rfl rfl (by kernel_rfl) (by kernel_rfl) (by kernel_rfl) (by kernel_rfl) (by decide) rfl rfl ?_) | (refine H.Ad rfl rfl rfl (rpairs_fn f _ hp hr hl) ?_))
      refine H.Ab (.here _ _) ?_
      refine H.Ab (.here _ _) ?_
      refine H.Ac rfl rfl (fun _ h => h) ⟨?_, rfl, rfl⟩
      simp [Bod.eqB, *]
    ·skip
     try simp only [Bool.not_eq_true] at *
     refine Fn.enter Tryz.func106 rfl Tryz.ntmps106 rfl (L := [(0, _), (1, _)]) ⟨rfl, rfl, trivial⟩ fun base => ?_
     repeat (first | ((first | apply H.Ah | apply H.Ak); (iterate 3 exact rfl)) | (apply H.Ao; (iterate 3 exact rfl); exact inferInstance; exact rfl) | (apply H.Ag; (iterate 3 exact rfl); apply Rd1.ofRow; (repeat (first | exact .here _ _ _ | apply At.there)); (iterate 2 exact rfl)) | (first | apply H.seq | apply H.Al | apply H.nil | apply H.Am) | ((apply H.cmp); (iterate 5 exact rfl)) | (apply H.Bl; (iterate 2 exact rfl)) | (apply H.Be; (iterate 4 exact rfl)) | ((apply H.Aw); (iterate 4 exact rfl)) | (apply H.ret) | (apply H.Bk; (iterate 3 exact rfl); (assumption)) | (apply H.gfalse; (iterate 3 exact rfl); assumption) | (refine H.box (ls := a.vals p c) rfl rfl rfl rfl fun ab => ?_) | (refine H.box (ls := b.vals r d) rfl rfl rfl rfl fun bb => ?_) | (refine H.Aj (ls := a.req.vals) rfl rfl rfl (zar (by repeat constructor)) rfl rfl ?_) | (refine H.Aj (ls := b.req.vals) rfl rfl rfl (zar (by repeat constructor)) rfl rfl ?_) | (refine H.aggEq (xs := a.req.vals) (ys := b.req.vals) (D := 4) rfl rfl rfl rfl (by kernel_rfl) (by kernel_rfl) (by kernel_rfl) (by kernel_rfl) (by decide) rfl rfl ?_))
     refine H.Ab (.here _ _) ?_
     refine H.Ab (.here _ _) ?_
     refine H.Ac rfl rfl (fun _ h => h) ⟨?_, rfl, rfl⟩
     simp [Bod.eqB, *]
   ·skip
    try simp only [Bool.not_eq_true] at *
    refine Fn.enter Tryz.func106 rfl Tryz.ntmps106 rfl (L := [(0, _), (1, _)]) ⟨rfl, rfl, trivial⟩ fun base => ?_
    repeat (first | ((first | apply H.Ah | apply H.Ak); (iterate 3 exact rfl)) | (apply H.Ao; (iterate 3 exact rfl); exact inferInstance; exact rfl) | (apply H.Ag; (iterate 3 exact rfl); apply Rd1.ofRow; (repeat (first | exact .here _ _ _ | apply At.there)); (iterate 2 exact rfl)) | (first | apply H.seq | apply H.Al | apply H.nil | apply H.Am) | ((apply H.cmp); (iterate 5 exact rfl)) | (apply H.Bl; (iterate 2 exact rfl)) | (apply H.Be; (iterate 4 exact rfl)) | ((apply H.Aw); (iterate 4 exact rfl)) | (apply H.ret) | (apply H.Bk; (iterate 3 exact rfl); (assumption)) | (apply H.gno; (iterate 3 exact rfl); (assumption)) | (refine H.box (ls := a.vals p c) rfl rfl rfl rfl fun ab => ?_) | (refine H.box (ls := b.vals r d) rfl rfl rfl rfl fun bb => ?_))
    refine H.Ab (.here _ _) ?_
    refine H.Ab (.here _ _) ?_
    refine H.Ac rfl rfl (fun _ h => h) ⟨?_, rfl, rfl⟩
    simp [Bod.eqB, *]
  ·skip
   try simp only [Bool.not_eq_true] at *
   refine Fn.enter Tryz.func106 rfl Tryz.ntmps106 rfl (L := [(0, _), (1, _)]) ⟨rfl, rfl, trivial⟩ fun base => ?_
   repeat (first | ((first | apply H.Ah | apply H.Ak); (iterate 3 exact rfl)) | (apply H.Ao; (iterate 3 exact rfl); exact inferInstance; exact rfl) | (apply H.Ag; (iterate 3 exact rfl); apply Rd1.ofRow; (repeat (first | exact .here _ _ _ | apply At.there)); (iterate 2 exact rfl)) | (first | apply H.seq | apply H.Al | apply H.nil | apply H.Am) | ((apply H.cmp); (iterate 5 exact rfl)) | (apply H.Bl; (iterate 2 exact rfl)) | (apply H.Be; (iterate 4 exact rfl)) | ((apply H.Aw); (iterate 4 exact rfl)) | (apply H.ret) | (apply H.Bk; (iterate 3 exact rfl); (assumption)) | (apply H.gno; (iterate 3 exact rfl); (assumption)) | (refine H.box (ls := a.vals p c) rfl rfl rfl rfl fun ab => ?_) | (refine H.box (ls := b.vals r d) rfl rfl rfl rfl fun bb => ?_))
   refine H.Ab (.here _ _) ?_
   refine H.Ab (.here _ _) ?_
   refine H.Ac rfl rfl (fun _ h => h) ⟨?_, rfl, rfl⟩
   simp [Bod.eqB, *]
 ·skip
  try simp only [Bool.not_eq_true] at *
  refine Fn.enter Tryz.func106 rfl Tryz.ntmps106 rfl (L := [(0, _), (1, _)]) ⟨rfl, rfl, trivial⟩ fun base => ?_
  repeat (first | ((first | apply H.Ah | apply H.Ak); (iterate 3 exact rfl)) | (apply H.Ao; (iterate 3 exact rfl); exact inferInstance; exact rfl) | (apply H.Ag; (iterate 3 exact rfl); apply Rd1.ofRow; (repeat (first | exact .here _ _ _ | apply At.there)); (iterate 2 exact rfl)) | (first | apply H.seq | apply H.Al | apply H.nil | apply H.Am) | ((apply H.cmp); (iterate 5 exact rfl)) | (apply H.Bl; (iterate 2 exact rfl)) | ((apply H.Aw); (iterate 4 exact rfl)) | (apply H.ret) | (apply H.gno; (iterate 3 exact rfl); (assumption)) | (refine H.box (ls := a.vals p c) rfl rfl rfl rfl fun ab => ?_) | (refine H.box (ls := b.vals r d) rfl rfl rfl rfl fun bb => ?_))
  refine H.Ab (.here _ _) ?_
  refine H.Ab (.here _ _) ?_
  refine H.Ac rfl rfl (fun _ h => h) ⟨?_, rfl, rfl⟩
  simp [Bod.eqB, *]
theorem splice_dig (x : Bod) : splice (({ Bod.zero x.kind with k := x.k } : Bod).vals none 0) (0 + 44) (b32 x.dig) = (x.ownK 6).vals none 0 := by
 have e : ({ Bod.zero x.kind with k := x.k } : Bod).vals none 0 = ([.int .u8 (x.kind.toNat : Nat), .int .u64 0, .int .u64 x.k] ++ Req.zero.vals ++ [.slice none 0 0]) ++ b32 noTag := rfl
 have e2 : (x.ownK 6).vals none 0 = ([.int .u8 (x.kind.toNat : Nat), .int .u64 0, .int .u64 x.k] ++ Req.zero.vals ++ [.slice none 0 0]) ++ b32 x.dig := rfl
 rw [e, e2]
 generalize hp : ([.int .u8 (x.kind.toNat : Nat), .int .u64 0, .int .u64 x.k] ++ Req.zero.vals ++ [.slice none 0 0] : List Value) = p
 have hl : p.length = 44 := by rw [← hp]; rfl
 unfold splice
 rw [Nat.zero_add, ← hl, List.take_left, List.drop_eq_nil_of_le (by rw [List.length_append]; exact Nat.le_refl _), List.append_nil]
theorem own_fn1 {x : Bod} {q : Option Addr} {qc : Nat} (hk : x.kind.toNat = 1) : Fn Tryz.prog 107 [.agg (x.vals q qc).toArray] f F (Ret (.agg ((x.ownK 1).vals none 0).toArray) f F) := by
 refine Fn.enter Tryz.func107 rfl Tryz.ntmps107 rfl (L := [(0, _)]) ⟨rfl, trivial⟩ fun base => ?_
 repeat (first | ((apply H.Ak); (iterate 3 exact rfl)) | (apply H.Ao; (iterate 3 exact rfl); exact inferInstance; exact rfl) | (apply H.Ag; (iterate 3 exact rfl); apply Rd1.ofRow; (repeat (first | exact .here _ _ _ | apply At.there)); (iterate 2 exact rfl)) | (first | apply H.seq | apply H.Al | apply H.nil | apply H.Am) | ((first | apply H.cmp | apply H.Bc); (iterate 5 exact rfl)) | (apply H.Bi; (iterate 4 exact rfl); (repeat (exact .here _ _ _)); (repeat (first | exact .here _ _ _ | apply SetV.there))) | (first | apply H.Bb | apply H.Bo) | (apply H.Br; exact rfl; (omega)) | (refine H.box (ls := x.vals q qc) rfl rfl rfl rfl fun xb => ?_) | (refine H.Av (ls := (Bod.zero 0).vals none 0) rfl rfl rfl fun _ => ?_) | (refine H.Ap (ls := (Bod.zero 0).vals none 0) (vs := (Bod.zero x.kind).vals none 0) (ls' := (Bod.zero x.kind).vals none 0) rfl rfl rfl (zae rfl) rfl rfl (Nat.le_refl 76) (by repeat constructor) ?_) | (refine H.Aj (ls := x.req.vals) rfl rfl rfl (zar (by repeat constructor)) rfl rfl ?_) | (refine H.Ap (ls := ({ Bod.zero x.kind with view := x.view } : Bod).vals none 0) (vs := x.req.vals) (ls' := (x.ownK 1).vals none 0) rfl rfl rfl (zae rfl) rfl rfl (show 3 + 40 ≤ 76 by decide) (by repeat constructor) ?_))
 refine H.Aj (ls := (x.ownK 1).vals none 0) rfl rfl rfl (Rd.ofRow (by repeat constructor)) rfl rfl ?_
 refine H.Ap (ls := (Bod.zero 0).vals none 0) (vs := (x.ownK 1).vals none 0) (ls' := (x.ownK 1).vals none 0) rfl rfl rfl (zae rfl) rfl rfl (Nat.le_refl 76) (by repeat constructor) ?_
 refine ga ?_
 refine H.Ab (.here _ _) ?_
 refine H.Ab (.there _ (.here _ _)) ?_
 exact H.retD rfl rfl rfl (Rd.ofRow (by repeat constructor)) rfl (fun _ s => s.drop (.here _ _)) ⟨rfl, rfl, rfl⟩
theorem own_fn2 {x : Bod} {q : Option Addr} {qc : Nat} (hk : x.kind.toNat = 2) : Fn Tryz.prog 107 [.agg (x.vals q qc).toArray] f F (Ret (.agg ((x.ownK 2).vals none 0).toArray) f F) := by
 refine Fn.enter Tryz.func107 rfl Tryz.ntmps107 rfl (L := [(0, _)]) ⟨rfl, trivial⟩ fun base => ?_
 repeat (first | ((apply H.Ak); (iterate 3 exact rfl)) | (apply H.Ao; (iterate 3 exact rfl); exact inferInstance; exact rfl) | (apply H.Ag; (iterate 3 exact rfl); apply Rd1.ofRow; (repeat (first | exact .here _ _ _ | apply At.there)); (iterate 2 exact rfl)) | (first | apply H.seq | apply H.Al | apply H.nil | apply H.Am) | ((first | apply H.cmp | apply H.Bc); (iterate 5 exact rfl)) | (apply H.Bi; (iterate 4 exact rfl); (repeat (exact .here _ _ _)); (repeat (first | exact .here _ _ _ | apply SetV.there))) | (first | apply H.Bb | apply H.Bo) | (apply H.Br; exact rfl; (omega)) | (apply H.Ca; exact rfl; (omega)) | (refine H.box (ls := x.vals q qc) rfl rfl rfl rfl fun xb => ?_) | (refine H.Av (ls := (Bod.zero 0).vals none 0) rfl rfl rfl fun _ => ?_) | (refine H.Ap (ls := (Bod.zero 0).vals none 0) (vs := (Bod.zero x.kind).vals none 0) (ls' := (Bod.zero x.kind).vals none 0) rfl rfl rfl (zae rfl) rfl rfl (Nat.le_refl 76) (by repeat constructor) ?_))
 refine H.Aj (ls := (x.ownK 2).vals none 0) rfl rfl rfl (Rd.ofRow (by repeat constructor)) rfl rfl ?_
 refine H.Ap (ls := (Bod.zero 0).vals none 0) (vs := (x.ownK 2).vals none 0) (ls' := (x.ownK 2).vals none 0) rfl rfl rfl (zae rfl) rfl rfl (Nat.le_refl 76) (by repeat constructor) ?_
 refine ga ?_
 refine H.Ab (.here _ _) ?_
 refine H.Ab (.there _ (.here _ _)) ?_
 exact H.retD rfl rfl rfl (Rd.ofRow (by repeat constructor)) rfl (fun _ s => s.drop (.here _ _)) ⟨rfl, rfl, rfl⟩
theorem own_fn3 {x : Bod} {q : Option Addr} {qc : Nat} (hk : x.kind.toNat = 3) : Fn Tryz.prog 107 [.agg (x.vals q qc).toArray] f F (Ret (.agg ((x.ownK 3).vals none 0).toArray) f F) := by
 refine Fn.enter Tryz.func107 rfl Tryz.ntmps107 rfl (L := [(0, _)]) ⟨rfl, trivial⟩ fun base => ?_
 repeat (first | ((apply H.Ak); (iterate 3 exact rfl)) | (apply H.Ao; (iterate 3 exact rfl); exact inferInstance; exact rfl) | (apply H.Ag; (iterate 3 exact rfl); apply Rd1.ofRow; (repeat (first | exact .here _ _ _ | apply At.there)); (iterate 2 exact rfl)) | (first | apply H.seq | apply H.Al | apply H.nil | apply H.Am) | ((first | apply H.cmp | apply H.Bc); (iterate 5 exact rfl)) | (apply H.Bi; (iterate 4 exact rfl); (repeat (exact .here _ _ _)); (repeat (first | exact .here _ _ _ | apply SetV.there))) | (first | apply H.Bh | apply H.Bb | apply H.Bo) | (apply H.Br; exact rfl; (omega)) | (apply H.Ca; exact rfl; (omega)) | (refine H.box (ls := x.vals q qc) rfl rfl rfl rfl fun xb => ?_) | (refine H.Av (ls := (Bod.zero 0).vals none 0) rfl rfl rfl fun _ => ?_) | (refine H.Ap (ls := (Bod.zero 0).vals none 0) (vs := (Bod.zero x.kind).vals none 0) (ls' := (Bod.zero x.kind).vals none 0) rfl rfl rfl (zae rfl) rfl rfl (Nat.le_refl 76) (by repeat constructor) ?_))
 refine H.Aj (ls := (x.ownK 3).vals none 0) rfl rfl rfl (Rd.ofRow (by repeat constructor)) rfl rfl ?_
 refine H.Ap (ls := (Bod.zero 0).vals none 0) (vs := (x.ownK 3).vals none 0) (ls' := (x.ownK 3).vals none 0) rfl rfl rfl (zae rfl) rfl rfl (Nat.le_refl 76) (by repeat constructor) ?_
 refine ga ?_
 refine H.Ab (.here _ _) ?_
 refine H.Ab (.there _ (.here _ _)) ?_
 exact H.retD rfl rfl rfl (Rd.ofRow (by repeat constructor)) rfl (fun _ s => s.drop (.here _ _)) ⟨rfl, rfl, rfl⟩
theorem own_fn4 {x : Bod} {q : Option Addr} {qc : Nat} (hk : x.kind.toNat = 4) : Fn Tryz.prog 107 [.agg (x.vals q qc).toArray] f F (Ret (.agg ((x.ownK 4).vals q qc).toArray) f F) := by
 refine Fn.enter Tryz.func107 rfl Tryz.ntmps107 rfl (L := [(0, _)]) ⟨rfl, trivial⟩ fun base => ?_
 repeat (first | ((apply H.Ak); (iterate 3 exact rfl)) | (apply H.Ao; (iterate 3 exact rfl); exact inferInstance; exact rfl) | (apply H.Ag; (iterate 3 exact rfl); apply Rd1.ofRow; (repeat (first | exact .here _ _ _ | apply At.there)); (iterate 2 exact rfl)) | (first | apply H.seq | apply H.Al | apply H.nil | apply H.Am) | ((first | apply H.cmp | apply H.Bc); (iterate 5 exact rfl)) | (apply H.Bi; (iterate 4 exact rfl); (repeat (exact .here _ _ _)); (repeat (first | exact .here _ _ _ | apply SetV.there))) | (first | apply H.Bb | apply H.Bo) | (apply H.Br; exact rfl; (omega)) | (apply H.Ca; exact rfl; (omega)) | (refine H.box (ls := x.vals q qc) rfl rfl rfl rfl fun xb => ?_) | (refine H.Av (ls := (Bod.zero 0).vals none 0) rfl rfl rfl fun _ => ?_) | (refine H.Ap (ls := (Bod.zero 0).vals none 0) (vs := (Bod.zero x.kind).vals none 0) (ls' := (Bod.zero x.kind).vals none 0) rfl rfl rfl (zae rfl) rfl rfl (Nat.le_refl 76) (by repeat constructor) ?_))
 refine H.Aj (ls := (x.ownK 4).vals q qc) rfl rfl rfl (Rd.ofRow (by repeat constructor)) rfl rfl ?_
 refine H.Ap (ls := (Bod.zero 0).vals none 0) (vs := (x.ownK 4).vals q qc) (ls' := (x.ownK 4).vals q qc) rfl rfl rfl (zae rfl) rfl rfl (Nat.le_refl 76) (by repeat constructor) ?_
 refine ga ?_
 refine H.Ab (.here _ _) ?_
 refine H.Ab (.there _ (.here _ _)) ?_
 exact H.retD rfl rfl rfl (Rd.ofRow (by repeat constructor)) rfl (fun _ s => s.drop (.here _ _)) ⟨rfl, rfl, rfl⟩
theorem own_fn5 {x : Bod} {q : Option Addr} {qc : Nat} (hk : x.kind.toNat = 5) : Fn Tryz.prog 107 [.agg (x.vals q qc).toArray] f F (Ret (.agg ((x.ownK 5).vals none 0).toArray) f F) := by
 refine Fn.enter Tryz.func107 rfl Tryz.ntmps107 rfl (L := [(0, _)]) ⟨rfl, trivial⟩ fun base => ?_
 repeat (first | ((apply H.Ak); (iterate 3 exact rfl)) | (apply H.Ao; (iterate 3 exact rfl); exact inferInstance; exact rfl) | (apply H.Ag; (iterate 3 exact rfl); apply Rd1.ofRow; (repeat (first | exact .here _ _ _ | apply At.there)); (iterate 2 exact rfl)) | (first | apply H.seq | apply H.Al | apply H.nil | apply H.Am) | ((first | apply H.cmp | apply H.Bc); (iterate 5 exact rfl)) | (apply H.Bi; (iterate 4 exact rfl); (repeat (exact .here _ _ _)); (repeat (first | exact .here _ _ _ | apply SetV.there))) | (first | apply H.Bb | apply H.Bo) | (apply H.Br; exact rfl; (omega)) | (apply H.Ca; exact rfl; (omega)) | (refine H.box (ls := x.vals q qc) rfl rfl rfl rfl fun xb => ?_) | (refine H.Av (ls := (Bod.zero 0).vals none 0) rfl rfl rfl fun _ => ?_) | (refine H.Ap (ls := (Bod.zero 0).vals none 0) (vs := (Bod.zero x.kind).vals none 0) (ls' := (Bod.zero x.kind).vals none 0) rfl rfl rfl (zae rfl) rfl rfl (Nat.le_refl 76) (by repeat constructor) ?_))
 refine H.Aj (ls := (x.ownK 5).vals none 0) rfl rfl rfl (Rd.ofRow (by repeat constructor)) rfl rfl ?_
 refine H.Ap (ls := (Bod.zero 0).vals none 0) (vs := (x.ownK 5).vals none 0) (ls' := (x.ownK 5).vals none 0) rfl rfl rfl (zae rfl) rfl rfl (Nat.le_refl 76) (by repeat constructor) ?_
 refine ga ?_
 refine H.Ab (.here _ _) ?_
 refine H.Ab (.there _ (.here _ _)) ?_
 exact H.retD rfl rfl rfl (Rd.ofRow (by repeat constructor)) rfl (fun _ s => s.drop (.here _ _)) ⟨rfl, rfl, rfl⟩
theorem own_fn6 {x : Bod} {q : Option Addr} {qc : Nat} (hk : x.kind.toNat = 6) : Fn Tryz.prog 107 [.agg (x.vals q qc).toArray] f F (Ret (.agg ((x.ownK 6).vals none 0).toArray) f F) := by
 refine Fn.enter Tryz.func107 rfl Tryz.ntmps107 rfl (L := [(0, _)]) ⟨rfl, trivial⟩ fun base => ?_
 repeat (first | ((apply H.Ak); (iterate 3 exact rfl)) | (apply H.Ao; (iterate 3 exact rfl); exact inferInstance; exact rfl) | (apply H.Ag; (iterate 3 exact rfl); apply Rd1.ofRow; (repeat (first | exact .here _ _ _ | apply At.there)); (iterate 2 exact rfl)) | (first | apply H.seq | apply H.Al | apply H.nil | apply H.Am) | ((first | apply H.cmp | apply H.Bc); (iterate 5 exact rfl)) | (apply H.Bi; (iterate 4 exact rfl); (repeat (exact .here _ _ _)); (repeat (first | exact .here _ _ _ | apply SetV.there))) | (first | apply H.Bb | apply H.Bo) | (apply H.Br; exact rfl; (omega)) | (apply H.Ca; exact rfl; (omega)) | (refine H.box (ls := x.vals q qc) rfl rfl rfl rfl fun xb => ?_) | (refine H.Av (ls := (Bod.zero 0).vals none 0) rfl rfl rfl fun _ => ?_) | (refine H.Ap (ls := (Bod.zero 0).vals none 0) (vs := (Bod.zero x.kind).vals none 0) (ls' := (Bod.zero x.kind).vals none 0) rfl rfl rfl (zae rfl) rfl rfl (Nat.le_refl 76) (by repeat constructor) ?_) | (refine H.Aj (ls := b32 x.dig) rfl rfl rfl (row_dig (by repeat constructor)) rfl rfl ?_) | (refine H.Ap (ls := ({ Bod.zero x.kind with k := x.k } : Bod).vals none 0) (vs := b32 x.dig) (ls' := (x.ownK 6).vals none 0) rfl rfl rfl (zah (b32L x.dig)) rfl (splice_dig x) (show 44 + 32 ≤ 76 by decide) (by repeat constructor) ?_))
 refine H.Aj (ls := (x.ownK 6).vals none 0) rfl rfl rfl (Rd.ofRow (by repeat constructor)) rfl rfl ?_
 refine H.Ap (ls := (Bod.zero 0).vals none 0) (vs := (x.ownK 6).vals none 0) (ls' := (x.ownK 6).vals none 0) rfl rfl rfl (zae rfl) rfl rfl (Nat.le_refl 76) (by repeat constructor) ?_
 refine ga ?_
 refine H.Ab (.here _ _) ?_
 refine H.Ab (.there _ (.here _ _)) ?_
 exact H.retD rfl rfl rfl (Rd.ofRow (by repeat constructor)) rfl (fun _ s => s.drop (.here _ _)) ⟨rfl, rfl, rfl⟩
theorem own_fn0 {x : Bod} {q : Option Addr} {qc : Nat} (hk : x.kind.toNat = 0 ∨ 7 ≤ x.kind.toNat) : Fn Tryz.prog 107 [.agg (x.vals q qc).toArray] f F (Ret (.agg ((x.ownK 7).vals none 0).toArray) f F) := by
 refine Fn.enter Tryz.func107 rfl Tryz.ntmps107 rfl (L := [(0, _)]) ⟨rfl, trivial⟩ fun base => ?_
 repeat (first | ((apply H.Ak); (iterate 3 exact rfl)) | (apply H.Ao; (iterate 3 exact rfl); exact inferInstance; exact rfl) | (apply H.Ag; (iterate 3 exact rfl); apply Rd1.ofRow; (repeat (first | exact .here _ _ _ | apply At.there)); (iterate 2 exact rfl)) | (first | apply H.seq | apply H.Al | apply H.nil | apply H.Am) | ((first | apply H.cmp | apply H.Bc); (iterate 5 exact rfl)) | (first | apply H.Bh | apply H.Bb | apply H.Bo) | (apply H.Ca; exact rfl; (omega)) | (refine H.box (ls := x.vals q qc) rfl rfl rfl rfl fun xb => ?_) | (refine H.Av (ls := (Bod.zero 0).vals none 0) rfl rfl rfl fun _ => ?_) | (refine H.Ap (ls := (Bod.zero 0).vals none 0) (vs := (Bod.zero x.kind).vals none 0) (ls' := (Bod.zero x.kind).vals none 0) rfl rfl rfl (zae rfl) rfl rfl (Nat.le_refl 76) (by repeat constructor) ?_))
 refine H.Aj (ls := (x.ownK 7).vals none 0) rfl rfl rfl (Rd.ofRow (by repeat constructor)) rfl rfl ?_
 refine H.Ap (ls := (Bod.zero 0).vals none 0) (vs := (x.ownK 7).vals none 0) (ls' := (x.ownK 7).vals none 0) rfl rfl rfl (zae rfl) rfl rfl (Nat.le_refl 76) (by repeat constructor) ?_
 refine ga ?_
 refine H.Ab (.here _ _) ?_
 refine H.Ab (.there _ (.here _ _)) ?_
 exact H.retD rfl rfl rfl (Rd.ofRow (by repeat constructor)) rfl (fun _ s => s.drop (.here _ _)) ⟨rfl, rfl, rfl⟩
theorem own_fn {x : Bod} {q : Option Addr} {qc : Nat} (hq : QAt f q x.q) : Fn Tryz.prog 107 [.agg (x.vals q qc).toArray] f F
  (RetP (fun i : Option Addr × Nat => QAt f i.1 x.own.q) (fun i => .agg (x.own.vals i.1 i.2).toArray) f (fun _ => F)) := by
 have fin : ∀ (k : Nat) (q' : Option Addr) (qc' : Nat), x.own = x.ownK k → QAt f q' (x.ownK k).q → Fn Tryz.prog 107 [.agg (x.vals q qc).toArray] f F (Ret (.agg ((x.ownK k).vals q' qc').toArray) f F) →
   Fn Tryz.prog 107 [.agg (x.vals q qc).toArray] f F (RetP (fun i : Option Addr × Nat => QAt f i.1 x.own.q) (fun i => .agg (x.own.vals i.1 i.2).toArray) f (fun _ => F)) := fun k q' qc' e hq' h =>
  h.mono fun v f' A' hr => by
   obtain ⟨rfl, rfl, rfl⟩ := hr
   exact ⟨(q', qc'), by rw [e]; exact hq', by rw [e], rfl, rfl⟩
 generalize hk : x.kind.toNat = kind
 match kind, hk with
 | 1, hk => exact fin 1 none 0 (by unfold Bod.own; rw [hk]) (QAt.nil _ _) (own_fn1 f F hk)
 | 2, hk => exact fin 2 none 0 (by unfold Bod.own; rw [hk]) (QAt.nil _ _) (own_fn2 f F hk)
 | 3, hk => exact fin 3 none 0 (by unfold Bod.own; rw [hk]) (QAt.nil _ _) (own_fn3 f F hk)
 | 4, hk => exact fin 4 q qc (by unfold Bod.own; rw [hk]) hq (own_fn4 f F hk)
 | 5, hk => exact fin 5 none 0 (by unfold Bod.own; rw [hk]) (QAt.nil _ _) (own_fn5 f F hk)
 | 6, hk => exact fin 6 none 0 (by unfold Bod.own; rw [hk]) (QAt.nil _ _) (own_fn6 f F hk)
 | 0, hk => exact fin 7 none 0 (by unfold Bod.own; rw [hk]; rfl) (QAt.nil _ _) (own_fn0 f F (.inl hk))
 | k + 7, hk => exact fin 7 none 0 (by unfold Bod.own; rw [hk]; rfl) (QAt.nil _ _) (own_fn0 f F (.inr (by omega)))
end
section
variable (f : Frag) (F : List HP)
theorem rasked_fn (r : Req) : Fn Tryz.prog 108 [.agg r.vals.toArray] f F (Ret (.bool (decide r.asked)) f F) := by
 by_cases h1 : 1 ≤ r.client
 ·by_cases h2 : r.client ≤ 8
  ·by_cases h3 : 1 ≤ r.time
   ·by_cases h4 : r.time ≤ 4611686018427387904
    ·by_cases h5 : r.key.size ≤ 32
     ·by_cases h6 : r.to.size ≤ 32
      ·by_cases h7 : r.val.size ≤ 128
       ·skip
        refine Fn.enter Tryz.func108 rfl Tryz.ntmps108 rfl (L := [(0, _)]) ⟨rfl, trivial⟩ fun base => ?_
        repeat (first | ((first | apply H.Ah | apply H.Ak | apply H.Bm); (iterate 3 exact rfl)) | (apply H.Ao; (iterate 3 exact rfl); exact inferInstance; exact rfl) | (apply H.Ag; (iterate 3 exact rfl); apply Rd1.ofRow; (repeat (exact .here _ _ _)); (iterate 2 exact rfl)) | (first | apply H.seq | apply H.Al | apply H.nil | apply H.Am) | ((apply H.cmp); (iterate 5 exact rfl)) | (apply H.Be; (iterate 4 exact rfl)) | (apply H.ret) | (apply H.Bk; (iterate 3 exact rfl); (first | assumption | omega)) | (refine H.box (ls := r.vals) rfl rfl rfl rfl fun xb => ?_))
        refine H.Ab (.here _ _) ?_
        refine H.Ac rfl rfl (fun _ h => h) ⟨?_, rfl, rfl⟩
        congr 1
        apply decide_eq_decide.2
        unfold Req.asked
        omega
       ·skip
        refine Fn.enter Tryz.func108 rfl Tryz.ntmps108 rfl (L := [(0, _)]) ⟨rfl, trivial⟩ fun base => ?_
        repeat (first | ((first | apply H.Ah | apply H.Ak | apply H.Bm); (iterate 3 exact rfl)) | (apply H.Ao; (iterate 3 exact rfl); exact inferInstance; exact rfl) | (apply H.Ag; (iterate 3 exact rfl); apply Rd1.ofRow; (repeat (exact .here _ _ _)); (iterate 2 exact rfl)) | (first | apply H.seq | apply H.Al | apply H.nil | apply H.Am) | ((apply H.cmp); (iterate 5 exact rfl)) | (apply H.Bl; (iterate 2 exact rfl)) | (apply H.Be; (iterate 4 exact rfl)) | ((apply H.Aw); (iterate 4 exact rfl)) | (apply H.ret) | (apply H.Bk; (iterate 3 exact rfl); (first | assumption | omega)) | (apply H.gno; (iterate 3 exact rfl); (omega)) | (refine H.box (ls := r.vals) rfl rfl rfl rfl fun xb => ?_))
        refine H.Ab (.here _ _) ?_
        refine H.Ac rfl rfl (fun _ h => h) ⟨?_, rfl, rfl⟩
        rw [decide_eq_false]
        unfold Req.asked
        omega
      ·skip
       refine Fn.enter Tryz.func108 rfl Tryz.ntmps108 rfl (L := [(0, _)]) ⟨rfl, trivial⟩ fun base => ?_
       repeat (first | ((first | apply H.Ah | apply H.Ak | apply H.Bm); (iterate 3 exact rfl)) | (apply H.Ao; (iterate 3 exact rfl); exact inferInstance; exact rfl) | (apply H.Ag; (iterate 3 exact rfl); apply Rd1.ofRow; (repeat (exact .here _ _ _)); (iterate 2 exact rfl)) | (first | apply H.seq | apply H.Al | apply H.nil | apply H.Am) | ((apply H.cmp); (iterate 5 exact rfl)) | (apply H.Bl; (iterate 2 exact rfl)) | (apply H.Be; (iterate 4 exact rfl)) | ((apply H.Aw); (iterate 4 exact rfl)) | (apply H.ret) | (apply H.Bk; (iterate 3 exact rfl); (first | assumption | omega)) | (apply H.gno; (iterate 3 exact rfl); (omega)) | (refine H.box (ls := r.vals) rfl rfl rfl rfl fun xb => ?_))
       refine H.Ab (.here _ _) ?_
       refine H.Ac rfl rfl (fun _ h => h) ⟨?_, rfl, rfl⟩
       rw [decide_eq_false]
       unfold Req.asked
       omega
     ·skip
      refine Fn.enter Tryz.func108 rfl Tryz.ntmps108 rfl (L := [(0, _)]) ⟨rfl, trivial⟩ fun base => ?_
      repeat (first | ((first | apply H.Ah | apply H.Ak | apply H.Bm); (iterate 3 exact rfl)) | (apply H.Ao; (iterate 3 exact rfl); exact inferInstance; exact rfl) | (apply H.Ag; (iterate 3 exact rfl); apply Rd1.ofRow; (repeat (exact .here _ _ _)); (iterate 2 exact rfl)) | (first | apply H.seq | apply H.Al | apply H.nil | apply H.Am) | ((apply H.cmp); (iterate 5 exact rfl)) | (apply H.Bl; (iterate 2 exact rfl)) | (apply H.Be; (iterate 4 exact rfl)) | ((apply H.Aw); (iterate 4 exact rfl)) | (apply H.ret) | (apply H.Bk; (iterate 3 exact rfl); (assumption)) | (apply H.gno; (iterate 3 exact rfl); (omega)) | (refine H.box (ls := r.vals) rfl rfl rfl rfl fun xb => ?_))
      refine H.Ab (.here _ _) ?_
      refine H.Ac rfl rfl (fun _ h => h) ⟨?_, rfl, rfl⟩
      rw [decide_eq_false]
      unfold Req.asked
      omega
    ·skip
     refine Fn.enter Tryz.func108 rfl Tryz.ntmps108 rfl (L := [(0, _)]) ⟨rfl, trivial⟩ fun base => ?_
     repeat (first | ((first | apply H.Ah | apply H.Ak | apply H.Bm); (iterate 3 exact rfl)) | (apply H.Ao; (iterate 3 exact rfl); exact inferInstance; exact rfl) | (apply H.Ag; (iterate 3 exact rfl); apply Rd1.ofRow; (repeat (exact .here _ _ _)); (iterate 2 exact rfl)) | (first | apply H.seq | apply H.Al | apply H.nil | apply H.Am) | ((apply H.cmp); (iterate 5 exact rfl)) | (apply H.Bl; (iterate 2 exact rfl)) | (apply H.Be; (iterate 4 exact rfl)) | ((apply H.Aw); (iterate 4 exact rfl)) | (apply H.ret) | (apply H.Bk; (iterate 3 exact rfl); (assumption)) | (apply H.gno; (iterate 3 exact rfl); (assumption)) | (refine H.box (ls := r.vals) rfl rfl rfl rfl fun xb => ?_))
     refine H.Ab (.here _ _) ?_
     refine H.Ac rfl rfl (fun _ h => h) ⟨?_, rfl, rfl⟩
     rw [decide_eq_false]
     unfold Req.asked
     omega
   ·skip
    refine Fn.enter Tryz.func108 rfl Tryz.ntmps108 rfl (L := [(0, _)]) ⟨rfl, trivial⟩ fun base => ?_
    repeat (first | ((first | apply H.Ah | apply H.Ak | apply H.Bm); (iterate 3 exact rfl)) | (apply H.Ao; (iterate 3 exact rfl); exact inferInstance; exact rfl) | (apply H.Ag; (iterate 3 exact rfl); apply Rd1.ofRow; (repeat (exact .here _ _ _)); (iterate 2 exact rfl)) | (first | apply H.seq | apply H.Al | apply H.nil | apply H.Am) | ((apply H.cmp); (iterate 5 exact rfl)) | (apply H.Bl; (iterate 2 exact rfl)) | (apply H.Be; (iterate 4 exact rfl)) | ((apply H.Aw); (iterate 4 exact rfl)) | (apply H.ret) | (apply H.Bk; (iterate 3 exact rfl); (assumption)) | (apply H.gno; (iterate 3 exact rfl); (assumption)) | (refine H.box (ls := r.vals) rfl rfl rfl rfl fun xb => ?_))
    refine H.Ab (.here _ _) ?_
    refine H.Ac rfl rfl (fun _ h => h) ⟨?_, rfl, rfl⟩
    rw [decide_eq_false]
    unfold Req.asked
    omega
  ·skip
   refine Fn.enter Tryz.func108 rfl Tryz.ntmps108 rfl (L := [(0, _)]) ⟨rfl, trivial⟩ fun base => ?_
   repeat (first | ((first | apply H.Ah | apply H.Ak | apply H.Bm); (iterate 3 exact rfl)) | (apply H.Ao; (iterate 3 exact rfl); exact inferInstance; exact rfl) | (apply H.Ag; (iterate 3 exact rfl); apply Rd1.ofRow; (repeat (exact .here _ _ _)); (iterate 2 exact rfl)) | (first | apply H.seq | apply H.Al | apply H.nil | apply H.Am) | ((apply H.cmp); (iterate 5 exact rfl)) | (apply H.Bl; (iterate 2 exact rfl)) | (apply H.Be; (iterate 4 exact rfl)) | ((apply H.Aw); (iterate 4 exact rfl)) | (apply H.ret) | (apply H.Bk; (iterate 3 exact rfl); (assumption)) | (apply H.gno; (iterate 3 exact rfl); (assumption)) | (refine H.box (ls := r.vals) rfl rfl rfl rfl fun xb => ?_))
   refine H.Ab (.here _ _) ?_
   refine H.Ac rfl rfl (fun _ h => h) ⟨?_, rfl, rfl⟩
   rw [decide_eq_false]
   unfold Req.asked
   omega
 ·skip
  refine Fn.enter Tryz.func108 rfl Tryz.ntmps108 rfl (L := [(0, _)]) ⟨rfl, trivial⟩ fun base => ?_
  repeat (first | ((first | apply H.Ah | apply H.Ak | apply H.Bm); (iterate 3 exact rfl)) | (apply H.Ao; (iterate 3 exact rfl); exact inferInstance; exact rfl) | (apply H.Ag; (iterate 3 exact rfl); apply Rd1.ofRow; (repeat (exact .here _ _ _)); (iterate 2 exact rfl)) | (first | apply H.seq | apply H.Al | apply H.nil | apply H.Am) | ((apply H.cmp); (iterate 5 exact rfl)) | (apply H.Bl; (iterate 2 exact rfl)) | ((apply H.Aw); (iterate 4 exact rfl)) | (apply H.ret) | (apply H.gno; (iterate 3 exact rfl); (assumption)) | (refine H.box (ls := r.vals) rfl rfl rfl rfl fun xb => ?_))
  refine H.Ab (.here _ _) ?_
  refine H.Ac rfl rfl (fun _ h => h) ⟨?_, rfl, rfl⟩
  rw [decide_eq_false]
  unfold Req.asked
  omega
def wq (q : List (Int × Int)) : Nat → Int
 | 0 => 0
 | j + 1 => (q.getD j (0, 0)).1
theorem quo_loop {x : Bod} (i : Nat) (hi : i < x.q.length) (w : Int) : quo w (x.q.drop i) = if x.q[i].1 ≤ w ∨ 11 < x.q[i].1 ∨ x.q[i].2 < 1 ∨ 65536 < x.q[i].2 then false else quo x.q[i].1 (x.q.drop (i + 1)) := by
 rw [List.drop_eq_getElem_cons hi]; rfl
theorem rbody4_fn {x : Bod} {q : Option Addr} {qc : Nat} (hq : QAt f q x.q) (hl : x.q.length ≤ 1000000000) (hk : x.kind.toNat = 4) (hs : Bod.eqB x.own x = true) (hv : x.view < 1073741824) :
    Fn Tryz.prog 74 [.agg (x.vals q qc).toArray] f F (Ret (.bool x.may) f F) := by
  unfold Bod.may
  rw [hk]
  refine Fn.enter Tryz.func74 rfl Tryz.ntmps74 rfl (L := [(0, _)]) ⟨rfl, trivial⟩ fun base => ?_
  refine gA ?_
  refine H.box (ls := x.vals q qc) rfl rfl rfl rfl fun xb => ?_
  refine gU ?_
  refine H.Ay (by kernel_rfl) (by decide +kernel) (by repeat (first | exact zab | refine zaa ?_ | refine zac ?_ | refine zad ?_)) (S := [_]) rfl ?_
  refine HB.Af [(0, false), (2, false)] 8 (by kernel_rfl) ?_
  refine HQ.Aj (ls := x.vals q qc) rfl rfl rfl (Rd.ofRow (by repeat constructor)) rfl rfl ?_
  refine HQ.Aj (ls := x.vals q qc) rfl rfl rfl (Rd.ofRow (by repeat constructor)) rfl rfl ?_
  refine HQ.Ae rfl ?_
  refine HB.ev1 (i := 1) (by kernel_rfl) rfl ?_
  refine H.callP rfl rfl rfl (own_fn f _ hq) fun i hqo => ?_
  refine gA ?_
  refine H.on0 rfl ?_
  refine HB.ev1 (i := 3) (by kernel_rfl) rfl ?_
  have hlo : x.own.q.length ≤ 1000000000 := by
    have : x.own.q = x.q ∨ x.own.q = [] := by
      unfold Bod.own
      match x.kind.toNat with
      | 0 => exact .inr rfl
      | 1 => exact .inr rfl
      | 2 => exact .inr rfl
      | 3 => exact .inr rfl
      | 4 => exact .inl rfl
      | 5 => exact .inr rfl
      | 6 => exact .inr rfl
      | k + 7 => exact .inr rfl
    rcases this with h | h <;> rw [h]
    · exact hl
    · exact Nat.zero_le _
  refine H.Ad rfl rfl rfl (rsame_fn f _ hqo hq hlo) ?_
  refine gA ?_
  refine H.on0 rfl ?_
  refine HB.Af [(4, false), (5, false), (6, false), (7, false), (8, false), (9, false)] 0 (by kernel_rfl) ?_
  have hn : (!true) = false := rfl
  rw [hs, decide_eq_true hv, Bool.true_and, Bool.true_and]
  refine gT ?_
  refine HQ.Ae rfl ?_
  refine HB.Aq (by kernel_rfl) ?_
  refine gF ?_
  refine H.Ax (ι := Nat) (fun i => [(3, .int .i64 (i : Int)), (1, .pointer (some ⟨xb, 0, none⟩))]) (fun _ => f) (fun _ => row xb 52 (x.vals q qc) :: F) (fun i => i ≤ x.q.length ∧ quo 0 x.q = quo (wq x.q i) (x.q.drop i) ∧ (0 < i → 1 ≤ wq x.q i)) (fun i => x.q.length - i) 0 ⟨Nat.zero_le _, rfl, fun h => absurd h (Nat.lt_irrefl _)⟩ ⟨rfl, rfl, trivial⟩ rfl rfl fun i hi => ?_
  obtain ⟨hi, hw, hwp⟩ : i ≤ x.q.length ∧ quo 0 x.q = quo (wq x.q i) (x.q.drop i) ∧ (0 < i → 1 ≤ wq x.q i) := hi
  by_cases hlt : i < x.q.length
  · have hx : x.q[i]? = some x.q[i] := List.getElem?_eq_getElem hlt
    have hquo := quo_loop i hlt (wq x.q i)
    have hwz : wq x.q (i + 1) = x.q[i].1 := by show (x.q.getD i (0, 0)).1 = _; rw [List.getD_eq_getElem?_getD, hx]; rfl
    generalize x.q[i] = z at hx hquo hwz
    obtain ⟨b, off, cs, T, fr, hqb, hfb, hcs⟩ := hq i z hx
    have hq' := hq
    subst hqb
    have rd : ∀ A, Rd f A b (off + i * 2) (pairV z) := fun A => Rd.imm hfb hcs
    refine gF ?_
    refine H.Bt rfl rfl rfl rfl hlt rfl ?_
    refine H.Aj (ls := pairV z) rfl rfl rfl (rd _) rfl rfl ?_
    refine H.Av rfl rfl rfl fun pb => ?_
    refine H.Ap (ls := [.int .i64 0, .int .u64 0]) (vs := pairV z) (ls' := pairV z) rfl rfl rfl (zae rfl) rfl rfl (Nat.le_refl 2) (by repeat constructor) ?_
    refine gA ?_
    refine H.Bp (by kernel_rfl) (by decide +kernel) (by repeat (first | exact zab | refine zaa ?_ | refine zac ?_ | refine zad ?_)) ?_
    by_cases hi0 : i = 0
    · have hw0 : wq x.q i = 0 := by rw [hi0]; rfl
      rw [hw0] at hquo hw
      have j : Nat := 0
      have rd2 := rd
      by_cases h1 : 1 ≤ z.1
      · skip
        by_cases h2 : z.1 ≤ 11
        · skip
          by_cases h4 : 1 ≤ z.2
          · skip
            by_cases h5 : z.2 ≤ 65536
            · skip
              refine gc ?_
              refine gQ ?_
              refine H.Ab (.here _ _) ?_
              first
                | exact H.Au (i + 1) ⟨by show i + 1 ≤ x.q.length; omega, by show quo 0 x.q = _; rw [hw, hquo, if_neg (by omega), ← hwz], by show 0 < i + 1 → 1 ≤ wq x.q (i + 1); rw [hwz]; omega⟩ (by show x.q.length - (i + 1) < x.q.length - i; omega) ⟨rfl, rfl, trivial⟩ rfl rfl
                | (refine H.Ab (.here _ _) ?_
                   refine H.Ac rfl rfl (fun _ h => h) ⟨?_, rfl, rfl⟩
                   rw [show x.mayK 4 = (decide (1 ≤ x.view) && (quo 0 x.q && decide (0 < x.q.length))) from rfl, hw, hquo, if_pos (by omega)]
                   simp)
            · skip
              refine gc ?_
              refine gG ?_
              refine H.Ab (.here _ _) ?_
              first
                | exact H.Au (i + 1) ⟨by show i + 1 ≤ x.q.length; omega, by show quo 0 x.q = _; rw [hw, hquo, if_neg (by omega), ← hwz], by show 0 < i + 1 → 1 ≤ wq x.q (i + 1); rw [hwz]; omega⟩ (by show x.q.length - (i + 1) < x.q.length - i; omega) ⟨rfl, rfl, trivial⟩ rfl rfl
                | (refine H.Ab (.here _ _) ?_
                   refine H.Ac rfl rfl (fun _ h => h) ⟨?_, rfl, rfl⟩
                   rw [show x.mayK 4 = (decide (1 ≤ x.view) && (quo 0 x.q && decide (0 < x.q.length))) from rfl, hw, hquo, if_pos (by omega)]
                   simp)
          · skip
            refine gc ?_
            refine gD ?_
            refine H.Ab (.here _ _) ?_
            first
              | exact H.Au (i + 1) ⟨by show i + 1 ≤ x.q.length; omega, by show quo 0 x.q = _; rw [hw, hquo, if_neg (by omega), ← hwz], by show 0 < i + 1 → 1 ≤ wq x.q (i + 1); rw [hwz]; omega⟩ (by show x.q.length - (i + 1) < x.q.length - i; omega) ⟨rfl, rfl, trivial⟩ rfl rfl
              | (refine H.Ab (.here _ _) ?_
                 refine H.Ac rfl rfl (fun _ h => h) ⟨?_, rfl, rfl⟩
                 rw [show x.mayK 4 = (decide (1 ≤ x.view) && (quo 0 x.q && decide (0 < x.q.length))) from rfl, hw, hquo, if_pos (by omega)]
                 simp)
        · skip
          refine gc ?_
          refine gD ?_
          refine H.Ab (.here _ _) ?_
          first
            | exact H.Au (i + 1) ⟨by show i + 1 ≤ x.q.length; omega, by show quo 0 x.q = _; rw [hw, hquo, if_neg (by omega), ← hwz], by show 0 < i + 1 → 1 ≤ wq x.q (i + 1); rw [hwz]; omega⟩ (by show x.q.length - (i + 1) < x.q.length - i; omega) ⟨rfl, rfl, trivial⟩ rfl rfl
            | (refine H.Ab (.here _ _) ?_
               refine H.Ac rfl rfl (fun _ h => h) ⟨?_, rfl, rfl⟩
               rw [show x.mayK 4 = (decide (1 ≤ x.view) && (quo 0 x.q && decide (0 < x.q.length))) from rfl, hw, hquo, if_pos (by omega)]
               simp)
      · skip
        refine gc ?_
        refine gD ?_
        refine H.Ab (.here _ _) ?_
        first
          | exact H.Au (i + 1) ⟨by show i + 1 ≤ x.q.length; omega, by show quo 0 x.q = _; rw [hw, hquo, if_neg (by omega), ← hwz], by show 0 < i + 1 → 1 ≤ wq x.q (i + 1); rw [hwz]; omega⟩ (by show x.q.length - (i + 1) < x.q.length - i; omega) ⟨rfl, rfl, trivial⟩ rfl rfl
          | (refine H.Ab (.here _ _) ?_
             refine H.Ac rfl rfl (fun _ h => h) ⟨?_, rfl, rfl⟩
             rw [show x.mayK 4 = (decide (1 ≤ x.view) && (quo 0 x.q && decide (0 < x.q.length))) from rfl, hw, hquo, if_pos (by omega)]
             simp)
    · obtain ⟨j, hj⟩ : ∃ j, i = j + 1 := ⟨i - 1, by omega⟩
      obtain ⟨y, hy⟩ : ∃ y, x.q[j]? = some y := ⟨x.q[j]'(by omega), List.getElem?_eq_getElem (by omega)⟩
      have hwj0 : wq x.q (j + 1) = y.1 := by show (x.q.getD j (0, 0)).1 = _; rw [List.getD_eq_getElem?_getD, hy]; rfl
      have hwj : wq x.q i = y.1 := by rw [← hwj0, hj]
      have hwp := hwp (by omega)
      rw [hwj] at hquo hwp hw
      obtain ⟨b2, off2, cs2, T2, fr2, hqb2, hfb2, hcs2⟩ := hq j y hy
      have rd2 : ∀ A, Rd f A b2 (off2 + j * 2) (pairV y) := fun A => Rd.imm hfb2 hcs2
      cases hqb2
      by_cases h1 : 1 ≤ z.1
      · skip
        by_cases h2 : z.1 ≤ 11
        · skip
          by_cases h3 : y.1 < z.1
          · skip
            by_cases h4 : 1 ≤ z.2
            · skip
              by_cases h5 : z.2 ≤ 65536
              · skip
                repeat (first | ((apply HQ.Ah); (iterate 3 exact rfl)) | (apply HQ.Ao; (iterate 3 exact rfl); exact inferInstance; exact rfl) | (apply HQ.Ag; (iterate 3 exact rfl); apply Rd1.ofRow; (repeat (first | exact .here _ _ _ | apply At.there)); (iterate 2 exact rfl)) | ((apply HQ.done0); exact rfl) | ((apply HQ.cmp); (iterate 5 exact rfl)) | ((apply HQ.ar; (iterate 4 exact rfl)); (with_reducible apply wr_i64; omega); exact rfl) | (apply HQ.Be; (iterate 4 exact rfl)) | ((apply HQ.Aw); (iterate 4 exact rfl)) | (apply HQ.Bk; (iterate 3 exact rfl); (omega)) | (apply HQ.gno; (iterate 3 exact rfl); (omega)) | (refine HQ.Bt (i := j) rfl rfl rfl (by omega) (by omega) rfl ?_) | (refine HQ.Ag rfl rfl rfl (.of (rd2 _) (i := 0) rfl) rfl ?_))
                refine gQ ?_
                refine H.Ab (.here _ _) ?_
                first
                  | exact H.Au (i + 1) ⟨by show i + 1 ≤ x.q.length; omega, by show quo 0 x.q = _; rw [hw, hquo, if_neg (by omega), ← hwz], by show 0 < i + 1 → 1 ≤ wq x.q (i + 1); rw [hwz]; omega⟩ (by show x.q.length - (i + 1) < x.q.length - i; omega) ⟨rfl, rfl, trivial⟩ rfl rfl
                  | (refine H.Ab (.here _ _) ?_
                     refine H.Ac rfl rfl (fun _ h => h) ⟨?_, rfl, rfl⟩
                     rw [show x.mayK 4 = (decide (1 ≤ x.view) && (quo 0 x.q && decide (0 < x.q.length))) from rfl, hw, hquo, if_pos (by omega)]
                     simp)
              · skip
                repeat (first | ((apply HQ.Ah); (iterate 3 exact rfl)) | (apply HQ.Ao; (iterate 3 exact rfl); exact inferInstance; exact rfl) | (apply HQ.Ag; (iterate 3 exact rfl); apply Rd1.ofRow; (repeat (first | exact .here _ _ _ | apply At.there)); (iterate 2 exact rfl)) | ((apply HQ.done0); exact rfl) | ((apply HQ.cmp); (iterate 5 exact rfl)) | ((apply HQ.ar; (iterate 4 exact rfl)); (with_reducible apply wr_i64; omega); exact rfl) | (apply HQ.Be; (iterate 4 exact rfl)) | ((apply HQ.Aw); (iterate 4 exact rfl)) | (apply HQ.Bk; (iterate 3 exact rfl); (omega)) | (apply HQ.gno; (iterate 3 exact rfl); (omega)) | (refine HQ.Bt (i := j) rfl rfl rfl (by omega) (by omega) rfl ?_) | (refine HQ.Ag rfl rfl rfl (.of (rd2 _) (i := 0) rfl) rfl ?_))
                refine gG ?_
                refine H.Ab (.here _ _) ?_
                first
                  | exact H.Au (i + 1) ⟨by show i + 1 ≤ x.q.length; omega, by show quo 0 x.q = _; rw [hw, hquo, if_neg (by omega), ← hwz], by show 0 < i + 1 → 1 ≤ wq x.q (i + 1); rw [hwz]; omega⟩ (by show x.q.length - (i + 1) < x.q.length - i; omega) ⟨rfl, rfl, trivial⟩ rfl rfl
                  | (refine H.Ab (.here _ _) ?_
                     refine H.Ac rfl rfl (fun _ h => h) ⟨?_, rfl, rfl⟩
                     rw [show x.mayK 4 = (decide (1 ≤ x.view) && (quo 0 x.q && decide (0 < x.q.length))) from rfl, hw, hquo, if_pos (by omega)]
                     simp)
            · skip
              repeat (first | ((apply HQ.Ah); (iterate 3 exact rfl)) | (apply HQ.Ao; (iterate 3 exact rfl); exact inferInstance; exact rfl) | (apply HQ.Ag; (iterate 3 exact rfl); apply Rd1.ofRow; (repeat (first | exact .here _ _ _ | apply At.there)); (iterate 2 exact rfl)) | ((apply HQ.done0); exact rfl) | ((apply HQ.cmp); (iterate 5 exact rfl)) | ((apply HQ.ar; (iterate 4 exact rfl)); (with_reducible apply wr_i64; omega); exact rfl) | (apply HQ.Bl; (iterate 2 exact rfl)) | (apply HQ.Be; (iterate 4 exact rfl)) | ((apply HQ.Aw); (iterate 4 exact rfl)) | (apply HQ.Bk; (iterate 3 exact rfl); (omega)) | (apply HQ.gno; (iterate 3 exact rfl); (omega)) | (refine HQ.Bt (i := j) rfl rfl rfl (by omega) (by omega) rfl ?_) | (refine HQ.Ag rfl rfl rfl (.of (rd2 _) (i := 0) rfl) rfl ?_))
              refine gD ?_
              refine H.Ab (.here _ _) ?_
              first
                | exact H.Au (i + 1) ⟨by show i + 1 ≤ x.q.length; omega, by show quo 0 x.q = _; rw [hw, hquo, if_neg (by omega), ← hwz], by show 0 < i + 1 → 1 ≤ wq x.q (i + 1); rw [hwz]; omega⟩ (by show x.q.length - (i + 1) < x.q.length - i; omega) ⟨rfl, rfl, trivial⟩ rfl rfl
                | (refine H.Ab (.here _ _) ?_
                   refine H.Ac rfl rfl (fun _ h => h) ⟨?_, rfl, rfl⟩
                   rw [show x.mayK 4 = (decide (1 ≤ x.view) && (quo 0 x.q && decide (0 < x.q.length))) from rfl, hw, hquo, if_pos (by omega)]
                   simp)
          · skip
            repeat (first | ((apply HQ.Ah); (iterate 3 exact rfl)) | (apply HQ.Ao; (iterate 3 exact rfl); exact inferInstance; exact rfl) | (apply HQ.Ag; (iterate 3 exact rfl); apply Rd1.ofRow; (repeat (first | exact .here _ _ _ | apply At.there)); (iterate 2 exact rfl)) | ((apply HQ.done0); exact rfl) | ((apply HQ.cmp); (iterate 5 exact rfl)) | ((apply HQ.ar; (iterate 4 exact rfl)); (with_reducible apply wr_i64; omega); exact rfl) | (apply HQ.Bl; (iterate 2 exact rfl)) | (apply HQ.Be; (iterate 4 exact rfl)) | ((apply HQ.Aw); (iterate 4 exact rfl)) | (apply HQ.Bk; (iterate 3 exact rfl); (omega)) | (apply HQ.gno; (iterate 3 exact rfl); (omega)) | (refine HQ.Bt (i := j) rfl rfl rfl (by omega) (by omega) rfl ?_) | (refine HQ.Ag rfl rfl rfl (.of (rd2 _) (i := 0) rfl) rfl ?_))
            refine gD ?_
            refine H.Ab (.here _ _) ?_
            first
              | exact H.Au (i + 1) ⟨by show i + 1 ≤ x.q.length; omega, by show quo 0 x.q = _; rw [hw, hquo, if_neg (by omega), ← hwz], by show 0 < i + 1 → 1 ≤ wq x.q (i + 1); rw [hwz]; omega⟩ (by show x.q.length - (i + 1) < x.q.length - i; omega) ⟨rfl, rfl, trivial⟩ rfl rfl
              | (refine H.Ab (.here _ _) ?_
                 refine H.Ac rfl rfl (fun _ h => h) ⟨?_, rfl, rfl⟩
                 rw [show x.mayK 4 = (decide (1 ≤ x.view) && (quo 0 x.q && decide (0 < x.q.length))) from rfl, hw, hquo, if_pos (by omega)]
                 simp)
        · skip
          refine gc ?_
          refine gD ?_
          refine H.Ab (.here _ _) ?_
          first
            | exact H.Au (i + 1) ⟨by show i + 1 ≤ x.q.length; omega, by show quo 0 x.q = _; rw [hw, hquo, if_neg (by omega), ← hwz], by show 0 < i + 1 → 1 ≤ wq x.q (i + 1); rw [hwz]; omega⟩ (by show x.q.length - (i + 1) < x.q.length - i; omega) ⟨rfl, rfl, trivial⟩ rfl rfl
            | (refine H.Ab (.here _ _) ?_
               refine H.Ac rfl rfl (fun _ h => h) ⟨?_, rfl, rfl⟩
               rw [show x.mayK 4 = (decide (1 ≤ x.view) && (quo 0 x.q && decide (0 < x.q.length))) from rfl, hw, hquo, if_pos (by omega)]
               simp)
      · skip
        refine gc ?_
        refine gD ?_
        refine H.Ab (.here _ _) ?_
        first
          | exact H.Au (i + 1) ⟨by show i + 1 ≤ x.q.length; omega, by show quo 0 x.q = _; rw [hw, hquo, if_neg (by omega), ← hwz], by show 0 < i + 1 → 1 ≤ wq x.q (i + 1); rw [hwz]; omega⟩ (by show x.q.length - (i + 1) < x.q.length - i; omega) ⟨rfl, rfl, trivial⟩ rfl rfl
          | (refine H.Ab (.here _ _) ?_
             refine H.Ac rfl rfl (fun _ h => h) ⟨?_, rfl, rfl⟩
             rw [show x.mayK 4 = (decide (1 ≤ x.view) && (quo 0 x.q && decide (0 < x.q.length))) from rfl, hw, hquo, if_pos (by omega)]
             simp)
  · have hiq : i = x.q.length := by omega
    subst hiq
    rw [List.drop_length] at hw
    by_cases h1 : 1 ≤ x.view
    · skip
      refine gY ?_
      refine H.Ab (.here _ _) ?_
      refine H.Ac rfl rfl (fun _ h => h) ⟨?_, rfl, rfl⟩
      rw [show x.mayK 4 = (decide (1 ≤ x.view) && (quo 0 x.q && decide (0 < x.q.length))) from rfl, hw, decide_eq_true h1]
      simp [quo]
      omega
    · skip
      refine gY ?_
      refine H.Ab (.here _ _) ?_
      refine H.Ac rfl rfl (fun _ h => h) ⟨?_, rfl, rfl⟩
      rw [show x.mayK 4 = (decide (1 ≤ x.view) && (quo 0 x.q && decide (0 < x.q.length))) from rfl, decide_eq_false h1]
      rfl
theorem rbody0_fn {x : Bod} {q : Option Addr} {qc : Nat} (hq : QAt f q x.q) (hl : x.q.length ≤ 1000000000) (h4 : ¬ (x.kind.toNat = 4 ∧ Bod.eqB x.own x = true ∧ x.view < 1073741824)) :
  Fn Tryz.prog 74 [.agg (x.vals q qc).toArray] f F (Ret (.bool x.may) f F) := by
 unfold Bod.may
 refine Fn.enter Tryz.func74 rfl Tryz.ntmps74 rfl (L := [(0, _)]) ⟨rfl, trivial⟩ fun base => ?_
 refine gA ?_
 refine H.box (ls := x.vals q qc) rfl rfl rfl rfl fun xb => ?_
 refine gU ?_
 refine H.Ay (by kernel_rfl) (by decide +kernel) (by repeat (first | exact zab | refine zaa ?_ | refine zac ?_ | refine zad ?_)) (S := [_]) rfl ?_
 refine HB.Af [(0, false), (2, false)] 8 (by kernel_rfl) ?_
 refine HQ.Aj (ls := x.vals q qc) rfl rfl rfl (Rd.ofRow (by repeat constructor)) rfl rfl ?_
 refine HQ.Aj (ls := x.vals q qc) rfl rfl rfl (Rd.ofRow (by repeat constructor)) rfl rfl ?_
 refine HQ.Ae rfl ?_
 refine HB.ev1 (i := 1) (by kernel_rfl) rfl ?_
 refine H.callP rfl rfl rfl (own_fn f _ hq) fun i hqo => ?_
 refine gA ?_
 refine H.on0 rfl ?_
 refine HB.ev1 (i := 3) (by kernel_rfl) rfl ?_
 have hlo : x.own.q.length ≤ 1000000000 := by
  have : x.own.q = x.q ∨ x.own.q = [] := by
   unfold Bod.own
   match x.kind.toNat with
   | 0 => exact .inr rfl
   | 1 => exact .inr rfl
   | 2 => exact .inr rfl
   | 3 => exact .inr rfl
   | 4 => exact .inl rfl
   | 5 => exact .inr rfl
   | 6 => exact .inr rfl
   | k + 7 => exact .inr rfl
  rcases this with h | h <;> rw [h]
  ·exact hl
  ·exact Nat.zero_le _
 refine H.Ad rfl rfl rfl (rsame_fn f _ hqo hq hlo) ?_
 refine gA ?_
 refine H.on0 rfl ?_
 refine HB.Af [(4, false), (5, false), (6, false), (7, false), (8, false), (9, false)] 0 (by kernel_rfl) ?_
 generalize hs : Bod.eqB x.own x = sm
 cases sm with
 | false =>
  have hn : (!false) = true := rfl
  refine gO ?_
  refine HQ.Ae rfl ?_
  refine HB.Aq (by kernel_rfl) ?_
  refine gD ?_
  refine H.Ab (.here _ _) ?_
  exact H.Ac rfl rfl (fun _ h => h) ⟨rfl, rfl, rfl⟩
 | true =>
  have hn : (!true) = false := rfl
  by_cases hv : x.view < 1073741824
  ·rw [decide_eq_true hv, Bool.true_and, Bool.true_and]
   refine gT ?_
   refine HQ.Ae rfl ?_
   refine HB.Aq (by kernel_rfl) ?_
   generalize hk : x.kind.toNat = kind
   match kind, hk with
   | 0, hk =>
    refine gF ?_
    refine H.Ab (.here _ _) ?_
    refine H.Ac rfl rfl (fun _ h => h) ⟨?_, rfl, rfl⟩
    simp [Bod.mayK, *]
   | 1, hk =>
    repeat (first | ((apply H.Ak); (iterate 3 exact rfl)) | (apply H.Ao; (iterate 3 exact rfl); exact inferInstance; exact rfl) | (apply H.Ag; (iterate 3 exact rfl); apply Rd1.ofRow; (repeat (exact .here _ _ _)); (iterate 2 exact rfl)) | (first | apply H.seq | apply H.Al | apply H.nil | apply H.Am) | ((apply H.cmp); (iterate 5 exact rfl)) | (first | apply H.Bh | apply H.ret | apply H.Bu | apply H.Bb | apply H.Bv) | (apply H.Br; exact rfl; (omega)) | (apply H.Ca; exact rfl; (omega)) | (refine H.Aj (ls := x.req.vals) rfl rfl rfl (zar (by repeat constructor)) rfl rfl ?_) | (refine H.Ad rfl rfl rfl (rasked_fn f _ x.req) ?_))
    refine H.Ab (.here _ _) ?_
    refine H.Ac rfl rfl (fun _ h => h) ⟨?_, rfl, rfl⟩
    simp [Bod.mayK, *]
   | 2, hk =>
    by_cases h1 : 1 ≤ x.k
    ·skip
     refine gY ?_
     refine H.Ab (.here _ _) ?_
     refine H.Ac rfl rfl (fun _ h => h) ⟨?_, rfl, rfl⟩
     simp [Bod.mayK, *]
    ·skip
     refine gY ?_
     refine H.Ab (.here _ _) ?_
     refine H.Ac rfl rfl (fun _ h => h) ⟨?_, rfl, rfl⟩
     simp [Bod.mayK, *]
   | 3, hk =>
    refine gF ?_
    refine H.Ab (.here _ _) ?_
    refine H.Ac rfl rfl (fun _ h => h) ⟨?_, rfl, rfl⟩
    simp [Bod.mayK, *]
   | 5, hk =>
    refine gF ?_
    refine H.Ab (.here _ _) ?_
    refine H.Ac rfl rfl (fun _ h => h) ⟨?_, rfl, rfl⟩
    simp [Bod.mayK, *]
   | 6, hk =>
    by_cases h1 : 1 ≤ x.k
    ·skip
     refine gY ?_
     refine H.Ab (.here _ _) ?_
     refine H.Ac rfl rfl (fun _ h => h) ⟨?_, rfl, rfl⟩
     simp [Bod.mayK, *]
    ·skip
     refine gY ?_
     refine H.Ab (.here _ _) ?_
     refine H.Ac rfl rfl (fun _ h => h) ⟨?_, rfl, rfl⟩
     simp [Bod.mayK, *]
   | k + 7, hk =>
    refine gF ?_
    refine H.Ab (.here _ _) ?_
    refine H.Ac rfl rfl (fun _ h => h) ⟨?_, rfl, rfl⟩
    simp [Bod.mayK, *]
   | 4, hk => exact absurd ⟨hk, hs, hv⟩ h4
  ·rw [decide_eq_false hv]
   refine gT ?_
   refine HQ.Ae rfl ?_
   refine HB.Aq (by kernel_rfl) ?_
   refine gG ?_
   refine H.Ab (.here _ _) ?_
   exact H.Ac rfl rfl (fun _ h => h) ⟨rfl, rfl, rfl⟩
theorem rbody_fn {x : Bod} {q : Option Addr} {qc : Nat} (hq : QAt f q x.q) (hl : x.q.length ≤ 1000000000) :
  Fn Tryz.prog 74 [.agg (x.vals q qc).toArray] f F (Ret (.bool x.may) f F) := by
 by_cases h4 : x.kind.toNat = 4 ∧ Bod.eqB x.own x = true ∧ x.view < 1073741824
 ·exact rbody4_fn f F hq hl h4.1 h4.2.1 h4.2.2
 ·exact rbody0_fn f F hq hl h4
end
section
variable (f : Frag) (F : List HP)
theorem rmay_fn {m : Msg} {q : Option Addr} {qc : Nat} (hq : QAt f q m.body.q) (hl : m.body.q.length ≤ 1000000000) :
  Fn Tryz.prog 47 [.agg (m.vals q qc).toArray] f F (Ret (.bool (decide m.outer && m.body.may)) f F) := by
 by_cases h1 : 1 ≤ m.origin
 ·by_cases h2 : m.origin ≤ 11
  ·by_cases h3 : 1 ≤ m.number
   ·by_cases h4 : m.number ≤ 65536
    ·by_cases h5 : m.deps (m.origin.toNat - 1) = m.number - 1
     ·skip
      refine Fn.enter Tryz.func47 rfl Tryz.ntmps47 rfl (L := [(0, _)]) ⟨rfl, trivial⟩ fun base => ?_
      refine gA ?_
      refine H.box (ls := m.vals q qc) rfl rfl rfl rfl fun mb => ?_
      refine gU ?_
      refine H.Bp (by kernel_rfl) (by decide +kernel) (by repeat (first | exact zab | refine zaa ?_ | refine zac ?_ | refine zad ?_)) ?_
      repeat (first | ((apply HQ.Ah); (iterate 3 exact rfl)) | (apply HQ.Ao; (iterate 3 exact rfl); exact inferInstance; exact rfl) | (apply HQ.Ag; (iterate 3 exact rfl); apply Rd1.ofRow; (repeat (exact .here _ _ _)); (iterate 2 exact rfl)) | ((apply HQ.done0); exact rfl) | ((apply HQ.cmp); (iterate 5 exact rfl)) | ((apply HQ.ar; (iterate 4 exact rfl)); (first | (with_reducible apply wr_i64; omega) | (with_reducible apply wr_u64; omega)); exact rfl) | ((apply HQ.Aw); (iterate 4 exact rfl)) | (apply HQ.gno; (iterate 3 exact rfl); (omega)) | (refine HQ.Ba (i := (m.origin.toNat - 1)) rfl rfl rfl (by omega) (by omega) rfl ?_) | (refine HQ.Ag rfl rfl rfl (.of (zbc (by repeat constructor)) (by rw [Nat.mul_one]; exact v11_get m.deps (by omega))) rfl ?_))
      refine gV ?_
      refine H.Ax (ι := Nat) (fun i => [(3, .int .i64 (i : Int)), (1, .pointer (some ⟨mb, 0, none⟩))]) (fun _ => f) (fun _ => row mb 54 (m.vals q qc) :: F) (fun i => i ≤ 11 ∧ ∀ j, j < i → m.deps j ≤ 65536) (fun i => 11 - i) 0 ⟨Nat.zero_le _, fun j hj => absurd hj (Nat.not_lt_zero j)⟩ ⟨rfl, rfl, trivial⟩ rfl rfl fun i hi => ?_
      obtain ⟨hi, hle⟩ : i ≤ 11 ∧ ∀ j, j < i → m.deps j ≤ 65536 := hi
      by_cases hlt : i < 11
      ·refine gF ?_
       refine H.Ba (i := i) rfl rfl rfl rfl hlt rfl ?_
       refine H.Ag rfl rfl rfl (.of (zbc (by repeat constructor)) (by rw [Nat.mul_one]; exact v11_get m.deps hlt)) rfl ?_
       by_cases h6 : m.deps i ≤ 65536
       ·refine gQ ?_
        exact H.Au (i + 1) ⟨by show i + 1 ≤ 11; omega, fun j hj => by
         by_cases e : j = i
         ·rw [e]; exact h6
         ·exact hle j (by have : j < i + 1 := hj; omega)⟩ (by show 11 - (i + 1) < 11 - i; omega) ⟨rfl, rfl, trivial⟩ rfl rfl
       ·refine gG ?_
        refine H.Ab (.here _ _) ?_
        refine H.Ac rfl rfl (fun _ h => h) ⟨?_, rfl, rfl⟩
        rw [decide_eq_false (fun h => h6 ((maxTo_le m.deps 65536 10).1 h.2.2.2.2.2 i (by omega)))]
        rfl
      ·have hi11 : i = 11 := by omega
       subst hi11
       have h7 : m.outer := ⟨h1, h2, h3, h4, h5, (maxTo_le m.deps 65536 10).2 fun j hj => hle j (by omega)⟩
       rw [decide_eq_true h7, Bool.true_and]
       refine gS ?_
       refine H.Aj (ls := m.body.vals q qc) rfl rfl rfl (msg_body (by repeat constructor)) rfl rfl ?_
       refine H.Ad rfl rfl rfl (rbody_fn f _ hq hl) ?_
       refine ga ?_
       refine H.Ab (.here _ _) ?_
       exact H.Ac rfl rfl (fun _ h => h) ⟨rfl, rfl, rfl⟩
     ·skip
      refine Fn.enter Tryz.func47 rfl Tryz.ntmps47 rfl (L := [(0, _)]) ⟨rfl, trivial⟩ fun base => ?_
      refine gA ?_
      refine H.box (ls := m.vals q qc) rfl rfl rfl rfl fun mb => ?_
      refine gU ?_
      refine H.Bp (by kernel_rfl) (by decide +kernel) (by repeat (first | exact zab | refine zaa ?_ | refine zac ?_ | refine zad ?_)) ?_
      repeat (first | ((apply HQ.Ah); (iterate 3 exact rfl)) | (apply HQ.Ao; (iterate 3 exact rfl); exact inferInstance; exact rfl) | (apply HQ.Ag; (iterate 3 exact rfl); apply Rd1.ofRow; (repeat (exact .here _ _ _)); (iterate 2 exact rfl)) | ((apply HQ.done0); exact rfl) | ((apply HQ.cmp); (iterate 5 exact rfl)) | ((apply HQ.ar; (iterate 4 exact rfl)); (first | (with_reducible apply wr_i64; omega) | (with_reducible apply wr_u64; omega)); exact rfl) | ((apply HQ.Aw); (iterate 4 exact rfl)) | (apply HQ.gno; (iterate 3 exact rfl); (omega)) | (refine HQ.Ba (i := (m.origin.toNat - 1)) rfl rfl rfl (by omega) (by omega) rfl ?_) | (refine HQ.Ag rfl rfl rfl (.of (zbc (by repeat constructor)) (by rw [Nat.mul_one]; exact v11_get m.deps (by omega))) rfl ?_))
      refine gG ?_
      refine H.Ab (.here _ _) ?_
      refine H.Ac rfl rfl (fun _ h => h) ⟨?_, rfl, rfl⟩
      simp [Msg.outer, *]
    ·skip
     refine Fn.enter Tryz.func47 rfl Tryz.ntmps47 rfl (L := [(0, _)]) ⟨rfl, trivial⟩ fun base => ?_
     refine gA ?_
     refine H.box (ls := m.vals q qc) rfl rfl rfl rfl fun mb => ?_
     refine gU ?_
     refine H.Bp (by kernel_rfl) (by decide +kernel) (by repeat (first | exact zab | refine zaa ?_ | refine zac ?_ | refine zad ?_)) ?_
     refine gc ?_
     refine gD ?_
     refine H.Ab (.here _ _) ?_
     refine H.Ac rfl rfl (fun _ h => h) ⟨?_, rfl, rfl⟩
     simp [Msg.outer, *]
   ·skip
    refine Fn.enter Tryz.func47 rfl Tryz.ntmps47 rfl (L := [(0, _)]) ⟨rfl, trivial⟩ fun base => ?_
    refine gA ?_
    refine H.box (ls := m.vals q qc) rfl rfl rfl rfl fun mb => ?_
    refine gU ?_
    refine H.Bp (by kernel_rfl) (by decide +kernel) (by repeat (first | exact zab | refine zaa ?_ | refine zac ?_ | refine zad ?_)) ?_
    refine gc ?_
    refine gD ?_
    refine H.Ab (.here _ _) ?_
    refine H.Ac rfl rfl (fun _ h => h) ⟨?_, rfl, rfl⟩
    simp [Msg.outer, *]
  ·skip
   refine Fn.enter Tryz.func47 rfl Tryz.ntmps47 rfl (L := [(0, _)]) ⟨rfl, trivial⟩ fun base => ?_
   refine gA ?_
   refine H.box (ls := m.vals q qc) rfl rfl rfl rfl fun mb => ?_
   refine gU ?_
   refine H.Bp (by kernel_rfl) (by decide +kernel) (by repeat (first | exact zab | refine zaa ?_ | refine zac ?_ | refine zad ?_)) ?_
   refine gc ?_
   refine gD ?_
   refine H.Ab (.here _ _) ?_
   refine H.Ac rfl rfl (fun _ h => h) ⟨?_, rfl, rfl⟩
   simp [Msg.outer, *]
 ·skip
  refine Fn.enter Tryz.func47 rfl Tryz.ntmps47 rfl (L := [(0, _)]) ⟨rfl, trivial⟩ fun base => ?_
  refine gA ?_
  refine H.box (ls := m.vals q qc) rfl rfl rfl rfl fun mb => ?_
  refine gU ?_
  refine H.Bp (by kernel_rfl) (by decide +kernel) (by repeat (first | exact zab | refine zaa ?_ | refine zac ?_ | refine zad ?_)) ?_
  refine gc ?_
  refine gD ?_
  refine H.Ab (.here _ _) ?_
  refine H.Ac rfl rfl (fun _ h => h) ⟨?_, rfl, rfl⟩
  simp [Msg.outer, *]
end
def depsB (d : Nat → Int) : Nat → List UInt8
 | 0 => []
 | i + 1 => depsB d i ++ be 8 (d i)
theorem depsB_len (d : Nat → Int) : ∀ n, (depsB d n).length = 8 * n
 | 0 => rfl
 | n + 1 => by simp only [depsB, List.length_append, be_len, depsB_len d n]; omega
def Msg.tagged (m : Msg) : List UInt8 := [b8 m.origin] ++ depsB m.deps 11 ++ [m.body.kind] ++ m.body.put
def Msg.may (m : Msg) : Bool := decide m.outer && m.body.may
def Msg.bytes (m : Msg) : List UInt8 := if m.may = true then m.tagged else []
theorem H.asSlc {P : Program} {base : World} {n : Nat} {L : Env} {f : Frag} {A : List HP} {K : Kont} {b k sz : Nat} {T : TypeId} {ls : List Value} (hl : ls.length = k * sz) (hk : k ≤ 9223372036854775807)
  (h : H P base n L f (slc (some ⟨b, 0, none⟩) k k T sz ls :: A) K) : H P base n L f (row b T ls :: A) K :=
 H.imp (A' := slc (some ⟨b, 0, none⟩) k k T sz ls :: A) (fun x ⟨m1, m2, d, e, a, r⟩ => ⟨m1, m2, d, e, row_slc hl hk a, r⟩) h
theorem b8_small {z : Int} (h : 0 ≤ z ∧ z < 256) : ((b8 z).toNat : Int) = z := by
 unfold b8
 rw [UInt8.toNat_ofNat']
 omega
theorem quo_len : ∀ (q : List (Int × Int)) (w : Int), w ≤ 11 → quo w q = true → (q.length : Int) ≤ 11 - w
 | [], w, hw, _ => by simp; omega
 | p :: r, w, hw, h => by
  unfold quo at h
  split at h
  ·cases h
  ·have ih := quo_len r p.1 (by omega) h
   rw [List.length_cons]; omega
theorem Bod.may_spec {x : Bod} (h : x.may = true) : Bod.eqB x.own x = true ∧ x.view < 1073741824 ∧ x.mayK x.kind.toNat = true := by
 unfold Bod.may at h
 simp only [Bool.and_eq_true, decide_eq_true_eq] at h
 exact ⟨h.1.1, h.1.2, h.2⟩
theorem Bod.eqB_q {a b : Bod} (h : Bod.eqB a b = true) : a.q = b.q := by
 unfold Bod.eqB at h
 simp only [Bool.and_eq_true, decide_eq_true_eq] at h
 exact h.1.2
theorem Bod.may_q {x : Bod} (h : x.may = true) : x.q.length ≤ 11 := by
 obtain ⟨h1, h2, h3⟩ := Bod.may_spec h
 have h4 := Bod.eqB_q h1
 unfold Bod.own at h4
 generalize hk : x.kind.toNat = k at h3 h4
 match k, h3, h4 with
 | 0, h3, _ => exact absurd h3 (by simp [Bod.mayK])
 | 1, _, h4 => have h4 : [] = x.q := h4; rw [← h4]; exact Nat.zero_le _
 | 2, _, h4 => have h4 : [] = x.q := h4; rw [← h4]; exact Nat.zero_le _
 | 3, _, h4 => have h4 : [] = x.q := h4; rw [← h4]; exact Nat.zero_le _
 | 5, _, h4 => have h4 : [] = x.q := h4; rw [← h4]; exact Nat.zero_le _
 | 6, _, h4 => have h4 : [] = x.q := h4; rw [← h4]; exact Nat.zero_le _
 | k + 7, h3, _ => exact absurd h3 (by simp [Bod.mayK])
 | 4, h3, _ =>
  simp only [Bod.mayK, Bool.and_eq_true, decide_eq_true_eq] at h3
  have := quo_len x.q 0 (by omega) h3.2.1
  omega
theorem Msg.may_body {m : Msg} (h : m.may = true) : m.body.may = true := by
 unfold Msg.may at h
 simp only [Bool.and_eq_true] at h
 exact h.2
section
variable (f : Frag) (F : List HP)
theorem rbytes_fn {m : Msg} {q : Option Addr} {qc : Nat} (hq : QAt f q m.body.q) (hl : m.body.q.length ≤ 1000000000) :
  Fn Tryz.prog 69 [.agg (m.vals q qc).toArray] f F (BytesR m.bytes f F) := by
 have hmay := fun G => rmay_fn (m := m) (qc := qc) f G hq hl
 unfold Msg.bytes
 have e0 : m.may = (decide m.outer && m.body.may) := rfl
 rw [← e0] at hmay
 by_cases hm : m.may = true
 ·rw [if_pos hm]
  rw [hm] at hmay
  refine Fn.enter Tryz.func69 rfl Tryz.ntmps69 rfl (L := [(0, _)]) ⟨rfl, trivial⟩ fun base => ?_
  refine gA ?_
  refine H.box (ls := m.vals q qc) rfl rfl rfl rfl fun mb => ?_
  refine gU ?_
  refine H.Aj (ls := m.vals q qc) rfl rfl rfl (Rd.ofRow (by repeat constructor)) rfl rfl ?_
  refine H.Ad rfl rfl rfl (hmay _) ?_
  refine gN ?_
  rw [u8_b8]
  refine H.Bd (out := bytesV [b8 m.origin]) rfl rfl rfl rfl (by decide) (by decide) rfl rfl fun tb => ?_
  refine H.asSlc (k := 1) (sz := 1) rfl (by decide) ?_
  refine ga ?_
  generalize hB0 : [b8 m.origin] = B0
  have hB0l : B0.length = 1 := by rw [← hB0]; rfl
  refine H.Aa (.there _ (.here _ _)) ?_
  refine H.Ax (ι := Nat × Option Addr × Nat) (fun i => [(4, .int .i64 (i.1 : Int)), (3, .slice i.2.1 (B0 ++ depsB m.deps i.1).length i.2.2), (1, .pointer (some ⟨mb, 0, none⟩))]) (fun _ => f)
   (fun i => row mb 54 (m.vals q qc) :: slc i.2.1 (B0 ++ depsB m.deps i.1).length i.2.2 5 1 (bytesV (B0 ++ depsB m.deps i.1)) :: F) (fun i => i.1 ≤ 11) (fun i => 11 - i.1) (0, some ⟨tb, 0, none⟩, 1) (Nat.zero_le _) ⟨rfl, ?_, rfl, trivial⟩ rfl ?_ fun i hi => ?_
  ·show some (Value.slice _ 1 1) = some (Value.slice _ (B0 ++ []).length 1)
   rw [List.append_nil, hB0l]
  ·show _ = _ :: slc _ (B0 ++ []).length 1 _ 1 (bytesV (B0 ++ [])) :: F
   rw [List.append_nil, hB0l]
  ·obtain ⟨i, p', c'⟩ := i
   have hi : i ≤ 11 := hi
   show H _ _ _ [(4, .int .i64 (i : Int)), (3, .slice p' (B0 ++ depsB m.deps i).length c'), _] _ (_ :: slc p' (B0 ++ depsB m.deps i).length c' _ 1 (bytesV (B0 ++ depsB m.deps i)) :: F) _
   have hal : (B0 ++ depsB m.deps i).length = 1 + 8 * i := by rw [List.length_append, depsB_len, hB0l]
   by_cases hlt : i < 11
   ·have e1 : B0 ++ depsB m.deps (i + 1) = (B0 ++ depsB m.deps i) ++ be 8 (m.deps i) := by simp only [depsB, List.append_assoc]
    generalize B0 ++ depsB m.deps i = acc at hal e1 ⊢
    refine gF ?_
    refine H.Ba (i := i) rfl rfl rfl rfl hlt rfl ?_
    refine H.Ag rfl rfl rfl (.of (zbc (by repeat constructor)) (by rw [Nat.mul_one]; exact v11_get m.deps hlt)) rfl ?_
    refine H.Ar rfl rfl rfl (zau (l := acc) f _ (Src.slcS (by repeat constructor) (by rw [zaf]; exact (Nat.mul_one _).symm)) (by omega)) fun p1 c1 => ?_
    refine gK ?_
    refine H.Ab (x := slc p' _ c' _ _ _) (by repeat constructor) ?_
    refine H.Aa (.there _ (.here _ _)) ?_
    refine H.Au (i + 1, p1, c1) (by show i + 1 ≤ 11; omega) (by show 11 - (i + 1) < 11 - i; omega) ⟨rfl, ?_, rfl, trivial⟩ rfl ?_
    ·show some _ = some (Value.slice p1 (B0 ++ depsB m.deps (i + 1)).length c1)
     rw [e1]
    ·show _ = _ :: slc p1 (B0 ++ depsB m.deps (i + 1)).length c1 _ 1 (bytesV (B0 ++ depsB m.deps (i + 1))) :: F
     rw [e1]
   ·have hi11 : i = 11 := by omega
    subst hi11
    generalize hacc : B0 ++ depsB m.deps 11 = acc at hal ⊢
    refine gS ?_
    refine H.Aj (ls := m.body.vals q qc) rfl rfl rfl (msg_body (by repeat constructor)) rfl rfl ?_
    refine H.Av (ls := (Bod.zero 0).vals none 0) rfl rfl rfl fun yb => ?_
    refine H.Ap (ls := (Bod.zero 0).vals none 0) (vs := m.body.vals q qc) (ls' := m.body.vals q qc) rfl rfl rfl (zae rfl) rfl rfl (Nat.le_refl 76) (by repeat constructor) ?_
    refine gM ?_
    refine H.Bd (out := bytesV [m.body.kind]) rfl rfl rfl rfl (by decide) (by decide) rfl rfl fun tb => ?_
    refine H.Bf (m := 1) (xs := bytesV acc) rfl rfl rfl rfl rfl (fun p' c' => (by repeat constructor)) (Src.slice (Rd.ofRow (by repeat constructor)) rfl) (zah _) rfl (by omega) (by omega) fun p2 c2 => ?_
    refine gE ?_
    refine H.Ab (x := row tb _ _) (by repeat constructor) ?_
    have e2 : (acc ++ [m.body.kind]).length = acc.length + 1 := by rw [List.length_append]; rfl
    have e3 : bytesV (acc ++ [m.body.kind]) = bytesV acc ++ bytesV [m.body.kind] := zag _ _
    show H _ _ _ ((33, _) :: (32, _) :: (31, _) :: (3, .slice p2 (acc.length + 1) c2) :: _) _ (_ :: _ :: slc p2 (acc.length + 1) c2 _ 1 (bytesV acc ++ bytesV [m.body.kind]) :: F) _
    rw [← e2, ← e3]
    have htag : m.tagged = (acc ++ [m.body.kind]) ++ m.body.putK m.body.kind.toNat := by rw [← hacc, ← hB0]; rfl
    rw [htag]
    have hal2 : (acc ++ [m.body.kind]).length = 90 := by omega
    generalize acc ++ [m.body.kind] = l0 at hal2 ⊢
    have hbm := Bod.may_spec (Msg.may_body hm)
    have hql := Bod.may_q (Msg.may_body hm)
    have hmk := hbm.2.2
    generalize hk : m.body.kind.toNat = kind at hmk
    match kind, hk, hmk with
    | 0, hk, hmk => exact absurd hmk (by simp [Bod.mayK])
    | k + 7, hk, hmk => exact absurd hmk (by simp [Bod.mayK])
    | 2, hk, hmk =>
     refine gL ?_
     refine H.Ar rfl rfl rfl (zau (l := l0) f _ (Src.slcS (by repeat constructor) (by rw [zaf]; exact (Nat.mul_one _).symm)) (by omega)) fun p3 c3 => ?_
     refine H.Ab (x := slc p2 _ c2 _ _ _) (by repeat constructor) ?_
     have e4 : (l0 ++ be 8 m.body.view).length = 98 := by rw [List.length_append, be_len, hal2]
     generalize hl1 : l0 ++ be 8 m.body.view = l1 at e4
     refine gF ?_
     refine H.Ar rfl rfl rfl (zau (l := l1) f _ (Src.slcS (by repeat constructor) (by rw [zaf]; exact (Nat.mul_one _).symm)) (by omega)) fun p4 c4 => ?_
     refine H.Ab (x := slc p3 _ c3 _ _ _) (by repeat constructor) ?_
     refine ga ?_
     refine H.Ab (x := row yb _ _) (by repeat constructor) ?_
     refine H.Ab (x := row mb _ _) (by repeat constructor) ?_
     have e9 : l0 ++ m.body.putK 2 = l1 ++ be 8 m.body.k := by rw [← hl1]; simp only [Bod.putK, List.append_assoc]
     exact H.Ac rfl rfl (fun _ h => h) ⟨p4, c4, by rw [e9], rfl, by rw [e9]⟩
    | 3, hk, hmk =>
     refine gL ?_
     refine H.Ar rfl rfl rfl (zau (l := l0) f _ (Src.slcS (by repeat constructor) (by rw [zaf]; exact (Nat.mul_one _).symm)) (by omega)) fun p3 c3 => ?_
     refine H.Ab (x := slc p2 _ c2 _ _ _) (by repeat constructor) ?_
     refine gF ?_
     refine H.Ab (x := row yb _ _) (by repeat constructor) ?_
     refine H.Ab (x := row mb _ _) (by repeat constructor) ?_
     exact H.Ac rfl rfl (fun _ h => h) ⟨p3, c3, rfl, rfl, rfl⟩
    | 5, hk, hmk =>
     refine gL ?_
     refine H.Ar rfl rfl rfl (zau (l := l0) f _ (Src.slcS (by repeat constructor) (by rw [zaf]; exact (Nat.mul_one _).symm)) (by omega)) fun p3 c3 => ?_
     refine H.Ab (x := slc p2 _ c2 _ _ _) (by repeat constructor) ?_
     refine gF ?_
     refine H.Ab (x := row yb _ _) (by repeat constructor) ?_
     refine H.Ab (x := row mb _ _) (by repeat constructor) ?_
     exact H.Ac rfl rfl (fun _ h => h) ⟨p3, c3, rfl, rfl, rfl⟩
    | 6, hk, hmk =>
     refine gP ?_
     refine H.Ay (by kernel_rfl) (by decide +kernel) (by repeat (first | exact zab | refine zaa ?_ | refine zac ?_ | refine zad ?_)) (S := [_]) rfl ?_
     refine HB.Af [(0, false), (1, false), (2, false), (4, false), (5, false)] 3 (by kernel_rfl) ?_
     refine gJ ?_
     refine HQ.Cd (lo := none) (hi := none) (mx := none) (lv := 0) (hv := 32) (mv := 32) rfl rfl rfl rfl rfl (fun h => by cases h) (by decide) (by decide) (by decide) rfl ?_
     refine HQ.Ae rfl ?_
     refine HB.ev1 (i := 3) (by kernel_rfl) rfl ?_
     refine H.Ar rfl rfl rfl (zau (l := l0) f _ (Src.slcS (by repeat constructor) (by rw [zaf]; exact (Nat.mul_one _).symm)) (by omega)) fun p3 c3 => ?_
     refine gA ?_
     refine H.Ab (x := slc p2 _ c2 _ _ _) (by repeat constructor) ?_
     refine H.Aa (x := row yb _ _) (by repeat constructor) ?_
     refine H.on0 rfl ?_
     have e4 : (l0 ++ be 8 m.body.k).length = 98 := by rw [List.length_append, be_len, hal2]
     generalize hl1 : l0 ++ be 8 m.body.k = l1 at e4
     refine HB.ev1 (i := 6) (by kernel_rfl) rfl ?_
     refine H.Bf (m := 32) (xs := bytesV l1) rfl rfl rfl rfl rfl (fun p' c' => (by repeat constructor)) (Src.slice (row_dig (by repeat constructor)) rfl) (zah _) rfl (by omega) (by omega) fun p4 c4 => ?_
     refine gA ?_
     refine H.on0 rfl ?_
     refine HB.Af [(7, false)] 0 (by kernel_rfl) ?_
     refine gB ?_
     refine HQ.Ae rfl ?_
     refine HB.Aq (by kernel_rfl) ?_
     refine ga ?_
     refine H.Ab (x := row yb _ _) (by repeat constructor) ?_
     refine H.Ab (x := row mb _ _) (by repeat constructor) ?_
     have e9 : l0 ++ m.body.putK 6 = l1 ++ b32L m.body.dig := by rw [← hl1]; simp only [Bod.putK, List.append_assoc]
     exact H.Ac rfl rfl (fun _ h => h) ⟨p4, c4, by rw [e9, List.length_append]; rfl, rfl, by rw [e9, List.length_append, zag]; rfl⟩
    | 1, hk, hmk =>
     have ha : m.body.req.asked := of_decide_eq_true hmk
     have hrl : m.body.req.bytes.length ≤ 1000 := by
      obtain ⟨_, _, _, _, ⟨k1, k2⟩, k3, k4⟩ := ha
      rw [Req.bytes_len]; omega
     refine gL ?_
     refine H.Ar rfl rfl rfl (zau (l := l0) f _ (Src.slcS (by repeat constructor) (by rw [zaf]; exact (Nat.mul_one _).symm)) (by omega)) fun p3 c3 => ?_
     refine H.Ab (x := slc p2 _ c2 _ _ _) (by repeat constructor) ?_
     have e4 : (l0 ++ be 8 m.body.view).length = 98 := by rw [List.length_append, be_len, hal2]
     generalize hl1 : l0 ++ be 8 m.body.view = l1 at e4
     refine gF ?_
     refine H.Aa (x := row yb _ _) (by repeat constructor) ?_
     refine H.Ay (by kernel_rfl) (by decide +kernel) (by repeat (first | exact zab | refine zaa ?_ | refine zac ?_ | refine zad ?_)) (S := [_]) rfl ?_
     refine HB.Af [(0, false), (1, false), (2, false), (4, false), (5, false), (6, false)] 3 (by kernel_rfl) ?_
     refine gJ ?_
     refine HQ.Aj (ls := m.body.req.vals) rfl rfl rfl (zar (by repeat constructor)) rfl rfl ?_
     refine gJ ?_
     refine HQ.Cd (lo := none) (hi := none) (mx := none) (lv := 0) (hv := 32) (mv := 32) rfl rfl rfl rfl rfl (fun h => by cases h) (by decide) (by decide) (by decide) rfl ?_
     refine HQ.Ae rfl ?_
     refine HB.ev1 (i := 3) (by kernel_rfl) rfl ?_
     refine H.Aa (x := slc p3 _ c3 _ _ _) (by repeat constructor) ?_
     refine H.Ar rfl rfl rfl (rrequest_fn (l := l1) f _ m.body.req ha (by omega)) fun p4 c4 => ?_
     have e5 : (l1 ++ m.body.req.bytes).length = l1.length + m.body.req.bytes.length := List.length_append
     generalize hl2 : l1 ++ m.body.req.bytes = l2 at e5
     refine gA ?_
     refine H.Aa (x := row yb _ _) (by repeat constructor) ?_
     refine H.on0 rfl ?_
     refine HB.ev1 (i := 7) (by kernel_rfl) rfl ?_
     refine H.Bf (m := 32) (xs := bytesV l2) rfl rfl rfl rfl rfl (fun p' c' => (by repeat constructor)) (Src.slice (row_rtag (by repeat constructor)) rfl) (zah _) rfl (by omega) (by omega) fun p5 c5 => ?_
     refine gA ?_
     refine H.on0 rfl ?_
     refine HB.Af [(8, false)] 0 (by kernel_rfl) ?_
     refine gB ?_
     refine HQ.Ae rfl ?_
     refine HB.Aq (by kernel_rfl) ?_
     refine ga ?_
     refine H.Ab (x := row yb _ _) (by repeat constructor) ?_
     refine H.Ab (x := row mb _ _) (by repeat constructor) ?_
     have e9 : l0 ++ m.body.putK 1 = l2 ++ b32L m.body.req.tag := by rw [← hl2, ← hl1]; simp only [Bod.putK, List.append_assoc]
     exact H.Ac rfl rfl (fun _ h => h) ⟨p5, c5, by rw [e9, List.length_append]; rfl, rfl, by rw [e9, List.length_append, zag]; rfl⟩
    | 4, hk, hmk =>
     refine gL ?_
     refine H.Ar rfl rfl rfl (zau (l := l0) f _ (Src.slcS (by repeat constructor) (by rw [zaf]; exact (Nat.mul_one _).symm)) (by omega)) fun p3 c3 => ?_
     refine H.Ab (x := slc p2 _ c2 _ _ _) (by repeat constructor) ?_
     have e4 : (l0 ++ be 8 m.body.view).length = 98 := by rw [List.length_append, be_len, hal2]
     generalize hl1 : l0 ++ be 8 m.body.view = l1 at e4
     refine gP ?_
     have hlv : Value.int .u8 ((m.body.q.length : Nat) : Int) = .int .u8 ((b8 m.body.q.length).toNat : Int) := by rw [b8_small (by omega)]
     refine H.know (d := 62) rfl hlv ?_
     refine H.Bd (out := bytesV [b8 m.body.q.length]) rfl rfl rfl rfl (by decide) (by decide) rfl rfl fun tb => ?_
     refine H.Bf (m := 1) (xs := bytesV l1) rfl rfl rfl rfl rfl (fun p' c' => (by repeat constructor)) (Src.slice (Rd.ofRow (.here _ _ _)) rfl) (zah _) rfl (by omega) (by omega) fun p4 c4 => ?_
     refine ga ?_
     refine H.Ab (x := row tb _ _) (by repeat constructor) ?_
     have e5 : (l1 ++ [b8 m.body.q.length]).length = l1.length + 1 := by rw [List.length_append]; rfl
     have e6 : bytesV (l1 ++ [b8 m.body.q.length]) = bytesV l1 ++ bytesV [b8 m.body.q.length] := zag _ _
     generalize hl2 : l1 ++ [b8 m.body.q.length] = l2 at e5 e6
     refine H.Aa (x := row mb _ _) (by repeat constructor) ?_
     refine H.Aa (x := row yb _ _) (by repeat constructor) ?_
     refine H.Ax (ι := Nat × Option Addr × Nat) (fun i => [(6, .int .i64 (i.1 : Int)), (3, .slice i.2.1 (l2 ++ (m.body.q.take i.1).flatMap pairB).length i.2.2), (5, .pointer (some ⟨yb, 0, none⟩))]) (fun _ => f)
      (fun i => row yb 52 (m.body.vals q qc) :: row mb 54 (m.vals q qc) :: slc i.2.1 (l2 ++ (m.body.q.take i.1).flatMap pairB).length i.2.2 5 1 (bytesV (l2 ++ (m.body.q.take i.1).flatMap pairB)) :: F)
      (fun i => i.1 ≤ m.body.q.length ∧ (l2 ++ (m.body.q.take i.1).flatMap pairB).length = 99 + 9 * i.1) (fun i => m.body.q.length - i.1) (0, p4, c4) ⟨Nat.zero_le _, by show (l2 ++ []).length = 99; rw [List.append_nil]; omega⟩ ⟨rfl, ?_, rfl, trivial⟩ rfl ?_ fun i hi => ?_
     ·show some (Value.slice p4 (l1.length + 1) c4) = some (Value.slice p4 (l2 ++ []).length c4)
      rw [List.append_nil, e5]
     ·show _ = _ :: _ :: slc p4 (l2 ++ []).length c4 _ 1 (bytesV (l2 ++ [])) :: F
      rw [List.append_nil, e5, e6]
      rfl
     ·obtain ⟨i, p', c'⟩ := i
      obtain ⟨hi, hlen⟩ : i ≤ m.body.q.length ∧ (l2 ++ (m.body.q.take i).flatMap pairB).length = 99 + 9 * i := hi
      show H _ _ _ [(6, .int .i64 (i : Int)), (3, .slice p' (l2 ++ (m.body.q.take i).flatMap pairB).length c'), _] _ (_ :: _ :: slc p' (l2 ++ (m.body.q.take i).flatMap pairB).length c' _ 1 (bytesV (l2 ++ (m.body.q.take i).flatMap pairB)) :: F) _
      generalize hac : l2 ++ (m.body.q.take i).flatMap pairB = ac at hlen
      by_cases hlt : i < m.body.q.length
      ·obtain ⟨pr, hx⟩ : ∃ pr, m.body.q[i]? = some pr := ⟨m.body.q[i], List.getElem?_eq_getElem hlt⟩
       have e7 : l2 ++ (m.body.q.take (i + 1)).flatMap pairB = ac ++ [b8 pr.1] ++ be 8 pr.2 := by
        rw [List.take_add_one, hx, ← hac]; simp [pairB]
       obtain ⟨b, off, cs, T, fr, rfl, hfb, hcs⟩ := hq i pr hx
       have rd : ∀ A, Rd f A b (off + i * 2) (pairV pr) := fun A => Rd.imm hfb hcs
       clear hcs hfb
       refine gF ?_
       refine H.Ay (by kernel_rfl) (by decide +kernel) (by repeat (first | exact zab | refine zaa ?_ | refine zac ?_ | refine zad ?_)) (S := [_]) rfl ?_
       refine HB.Af [(0, false), (1, false), (2, false), (3, false), (4, false), (5, false), (6, false), (7, false), (10, false), (11, false), (12, false), (13, false), (14, false), (15, false)] 4 (by kernel_rfl) ?_
       refine gJ ?_
       refine HQ.Bt rfl rfl rfl rfl hlt rfl ?_
       refine gJ ?_
       refine HQ.Ag rfl rfl rfl (.of (rd _) (i := 0) rfl) rfl ?_
       refine gT ?_
       rw [u8_b8]
       refine HQ.Bt rfl rfl rfl rfl hlt rfl ?_
       refine gJ ?_
       refine HQ.Ag rfl rfl rfl (.of (rd _) (i := 1) rfl) rfl ?_
       refine HQ.Ae rfl ?_
       refine HB.ev1 (i := 8) (by kernel_rfl) rfl ?_
       refine H.Bd (out := bytesV [b8 pr.1]) rfl rfl rfl rfl (by decide) (by decide) rfl rfl fun tb => ?_
       refine gA ?_
       refine H.Aa (x := row yb _ _) (by repeat constructor) ?_
       refine H.on0 rfl ?_
       refine HB.ev1 (i := 9) (by kernel_rfl) rfl ?_
       refine H.Bf (m := 1) (xs := bytesV ac) rfl rfl rfl rfl rfl (fun p' c' => (by repeat constructor)) (Src.slice (Rd.ofRow (.there _ (.here _ _ _))) rfl) (zah _) rfl (by omega) (by omega) fun p5 c5 => ?_
       refine gA ?_
       refine H.Ab (x := row tb _ _) (by repeat constructor) ?_
       refine H.on0 rfl ?_
       refine HB.ev1 (i := 16) (by kernel_rfl) rfl ?_
       have f0 : (ac ++ [b8 pr.1]).length = ac.length + 1 := by rw [List.length_append]; rfl
       have f1 : bytesV (ac ++ [b8 pr.1]) = bytesV ac ++ bytesV [b8 pr.1] := zag _ _
       generalize ac ++ [b8 pr.1] = l4 at f0 f1 e7
       show H _ _ _ _ _ (row _ _ _ :: row _ _ _ :: slc p5 (ac.length + 1) c5 _ _ (bytesV ac ++ bytesV [b8 pr.1]) :: F) _
       rw [← f0, ← f1]
       refine H.Ar rfl rfl rfl (zau (l := l4) f _ (Src.slcS (by repeat constructor) (by rw [zaf]; exact (Nat.mul_one _).symm)) (by omega)) fun p6 c6 => ?_
       refine gA ?_
       refine H.Ab (x := slc p5 _ c5 _ _ _) (by repeat constructor) ?_
       refine H.Aa (x := row mb _ _) (by repeat constructor) ?_
       refine H.Aa (x := row yb _ _) (by repeat constructor) ?_
       refine H.on0 rfl ?_
       refine HB.Af [(17, false)] 0 (by kernel_rfl) ?_
       refine gB ?_
       refine HQ.Ae rfl ?_
       refine HB.Aq (by kernel_rfl) ?_
       refine gK ?_
       refine H.Au (i + 1, p6, c6) ⟨by show i + 1 ≤ m.body.q.length; omega, ?_⟩ (by show m.body.q.length - (i + 1) < m.body.q.length - i; omega) ⟨rfl, ?_, rfl, trivial⟩ rfl ?_
       ·show (l2 ++ (m.body.q.take (i + 1)).flatMap pairB).length = 99 + 9 * (i + 1)
        rw [e7, List.length_append, be_len]; omega
       ·show some _ = some (Value.slice p6 (l2 ++ (m.body.q.take (i + 1)).flatMap pairB).length c6)
        rw [e7]
       ·show _ = _ :: _ :: slc p6 (l2 ++ (m.body.q.take (i + 1)).flatMap pairB).length c6 _ 1 (bytesV (l2 ++ (m.body.q.take (i + 1)).flatMap pairB)) :: F
        rw [e7]
        rfl
      ·have hiq : i = m.body.q.length := by omega
       rw [hiq, List.take_length] at hac
       refine gF ?_
       refine H.Ab (x := row yb _ _) (by repeat constructor) ?_
       refine H.Ab (x := row mb _ _) (by repeat constructor) ?_
       have e9 : l0 ++ m.body.putK 4 = ac := by rw [← hac, ← hl2, ← hl1]; simp only [Bod.putK, List.append_assoc]
       exact H.Ac rfl rfl (fun _ h => h) ⟨p', c', by rw [e9], rfl, by rw [e9]⟩
 ·rw [if_neg hm]
  rw [Bool.eq_false_iff.2 hm] at hmay
  refine Fn.enter Tryz.func69 rfl Tryz.ntmps69 rfl (L := [(0, _)]) ⟨rfl, trivial⟩ fun base => ?_
  refine gA ?_
  refine H.box (ls := m.vals q qc) rfl rfl rfl rfl fun mb => ?_
  refine gU ?_
  refine H.Aj (ls := m.vals q qc) rfl rfl rfl (Rd.ofRow (by repeat constructor)) rfl rfl ?_
  refine H.Ad rfl rfl rfl (hmay _) ?_
  refine gR ?_
  refine H.Ab (.here _ _) ?_
  refine H.slc0 5 1 ?_
  exact H.Ac rfl rfl (fun _ h => h) ⟨none, 0, rfl, rfl, rfl⟩
end
theorem b32_get (t : Nat → UInt8) {i : Nat} (h : i < 32) : (b32 t)[i]? = some (.int .u8 ((t i).toNat : Nat)) := by
 match i, h with
 | 0, _ => rfl
 | 1, _ => rfl
 | 2, _ => rfl
 | 3, _ => rfl
 | 4, _ => rfl
 | 5, _ => rfl
 | 6, _ => rfl
 | 7, _ => rfl
 | 8, _ => rfl
 | 9, _ => rfl
 | 10, _ => rfl
 | 11, _ => rfl
 | 12, _ => rfl
 | 13, _ => rfl
 | 14, _ => rfl
 | 15, _ => rfl
 | 16, _ => rfl
 | 17, _ => rfl
 | 18, _ => rfl
 | 19, _ => rfl
 | 20, _ => rfl
 | 21, _ => rfl
 | 22, _ => rfl
 | 23, _ => rfl
 | 24, _ => rfl
 | 25, _ => rfl
 | 26, _ => rfl
 | 27, _ => rfl
 | 28, _ => rfl
 | 29, _ => rfl
 | 30, _ => rfl
 | 31, _ => rfl
 | n + 32, h => exact absurd h (by omega)
theorem tmod64 (n m : Nat) : ((n : Int)).tmod (m : Int) = ((n % m : Nat) : Int) := rfl
theorem tdiv64 (n m : Nat) : ((n : Int)).tdiv (m : Int) = ((n / m : Nat) : Int) := rfl
namespace Sha
theorem padded_len (b : List UInt8) : (padded b).length = b.length + 1 + padZ b.length + 8 := by
 unfold padded
 simp only [List.length_append, List.length_cons, List.length_nil, List.length_replicate, be_len]
theorem padded_mod (b : List UInt8) : (padded b).length % 64 = 0 := by
 rw [padded_len]; unfold padZ; omega
theorem pad_not {n i : Nat} (h : i < padZ n) : (n + 1 + i) % 64 ≠ 56 := by
 unfold padZ at h; omega
theorem pad_is (n : Nat) : (n + 1 + padZ n) % 64 = 56 := by
 unfold padZ; omega
theorem chunk_get (P : List UInt8) {j i : Nat} (hi : i < 64) : ((P.drop (64 * j)).take 64).getD i 0 = P.getD (64 * j + i) 0 := by
 rw [List.getD_eq_getElem?_getD, List.getElem?_take, if_pos hi, List.getElem?_drop, ← List.getD_eq_getElem?_getD]
end Sha
section
variable (f : Frag) (F : List HP)
def zb (n : Nat) : List Value := List.replicate n (.int .u8 0)
set_option maxHeartbeats 800000 in
theorem rsum_fn {p : Option Addr} {c : Nat} {b : List UInt8} (hs : Src Tryz.prog f F (.slice p b.length c) 1 b.length (bytesV b)) (hl : b.length ≤ 1000000000) :
  Fn Tryz.prog 16 [.slice p b.length c] f F (Ret (.agg (b32 (Sha.sum b)).toArray) f F) := by
 refine Fn.enter Tryz.func16 rfl Tryz.ntmps16 rfl (L := [(0, _)]) ⟨rfl, trivial⟩ fun base => ?_
 refine gA ?_
 refine H.Av (ls := zb 32) rfl rfl rfl fun ob => ?_
 refine gA ?_
 refine H.Bd rfl rfl rfl rfl (by decide) (by decide) rfl rfl fun eb => ?_
 refine H.asSlc (k := 0) (sz := 1) rfl (by decide) ?_
 refine gU ?_
 refine H.Bf (xs := []) rfl rfl rfl rfl rfl (fun p' c' => .here _ _ _) hs.cons.cons (zah b) rfl (by omega) (by omega) fun p1 c1 => ?_
 rw [Nat.zero_add, List.nil_append]
 refine H.Bd (out := bytesV [0x80]) rfl rfl rfl rfl (by decide) (by decide) rfl rfl fun tb => ?_
 refine H.Bf (m := 1) (xs := bytesV b) rfl rfl rfl rfl rfl (fun p' c' => (by repeat constructor)) (Src.slice (Rd.ofRow (.here _ _ _)) rfl) (zah _) rfl (by omega) (by omega) fun p2 c2 => ?_
 refine H.Ab (x := row tb _ _) (by repeat constructor) ?_
 refine ga ?_
 have e1 : (b ++ [0x80]).length = b.length + 1 := by rw [List.length_append]; rfl
 have e2 : bytesV (b ++ [0x80]) = bytesV b ++ bytesV [0x80] := zag _ _
 refine H.Ax (ι := Nat × Option Addr × Nat) (fun i => [(3, .slice i.2.1 (b ++ [0x80] ++ List.replicate i.1 0).length i.2.2), (0, .slice p b.length c), (2, .pointer (some ⟨ob, 0, none⟩))]) (fun _ => f)
  (fun i => slc i.2.1 (b ++ [0x80] ++ List.replicate i.1 0).length i.2.2 5 1 (bytesV (b ++ [0x80] ++ List.replicate i.1 0)) :: row ob 47 (zb 32) :: F) (fun i => i.1 ≤ Sha.padZ b.length) (fun i => Sha.padZ b.length - i.1) (0, p2, c2) (Nat.zero_le _) ⟨?_, rfl, rfl, trivial⟩ rfl ?_ fun i hi => ?_
 ·show some (Value.slice p2 (b.length + 1) c2) = some (Value.slice p2 (b ++ [0x80] ++ []).length c2)
  rw [List.append_nil, e1]
 ·show _ = slc p2 (b ++ [0x80] ++ []).length c2 _ 1 (bytesV (b ++ [0x80] ++ [])) :: _
  rw [List.append_nil, e1, e2]
  rfl
 obtain ⟨i, p', c'⟩ := i
 have hi : i ≤ Sha.padZ b.length := hi
 have hpz : Sha.padZ b.length < 64 := Nat.mod_lt _ (by decide)
 show H _ _ _ [(3, .slice p' (b ++ [0x80] ++ List.replicate i 0).length c'), _, _] _ (slc p' (b ++ [0x80] ++ List.replicate i 0).length c' _ 1 (bytesV (b ++ [0x80] ++ List.replicate i 0)) :: _) _
 have hal : (b ++ [0x80] ++ List.replicate i 0).length = b.length + 1 + i := by rw [List.length_append, e1, List.length_replicate]
 by_cases hlt : i < Sha.padZ b.length
 ·have hnot := Sha.pad_not hlt
  have e3 : b ++ [0x80] ++ List.replicate (i + 1) 0 = (b ++ [0x80] ++ List.replicate i 0) ++ [0] := by rw [List.replicate_succ', ← List.append_assoc]
  generalize b ++ [0x80] ++ List.replicate i 0 = acc at hal e3 ⊢
  refine gU ?_
  refine H.rem rfl rfl rfl (by decide) (tmod64 acc.length 64) rfl ?_
  refine gG ?_
  refine H.Bd (out := bytesV [0]) rfl rfl rfl rfl (by decide) (by decide) rfl rfl fun tb => ?_
  refine H.Bf (m := 1) (xs := bytesV acc) rfl rfl rfl rfl rfl (fun p' c' => (by repeat constructor)) (Src.slice (Rd.ofRow (.here _ _ _)) rfl) (zah _) rfl (by omega) (by omega) fun p3 c3 => ?_
  refine H.Ab (x := row tb _ _) (by repeat constructor) ?_
  refine ga ?_
  refine H.Au (i + 1, p3, c3) (by show i + 1 ≤ _; omega) (by show Sha.padZ b.length - (i + 1) < Sha.padZ b.length - i; omega) ⟨?_, rfl, rfl, trivial⟩ rfl ?_
  ·show some (Value.slice p3 (acc.length + 1) c3) = some (Value.slice p3 (b ++ [0x80] ++ List.replicate (i + 1) 0).length c3)
   rw [e3, List.length_append]; rfl
  ·show _ = slc p3 (b ++ [0x80] ++ List.replicate (i + 1) 0).length c3 _ 1 (bytesV (b ++ [0x80] ++ List.replicate (i + 1) 0)) :: _
   rw [e3, List.length_append, zag]; rfl
 ·have hip : i = Sha.padZ b.length := by omega
  subst hip
  have his := Sha.pad_is b.length
  have hpad : Sha.padded b = (b ++ [0x80] ++ List.replicate (Sha.padZ b.length) 0) ++ be 8 ((b.length * 8 : Nat) : Int) := rfl
  have hplen := Sha.padded_len b
  have hpmod := Sha.padded_mod b
  unfold Sha.sum
  generalize Sha.padded b = P at hpad hplen hpmod ⊢
  generalize b ++ [0x80] ++ List.replicate (Sha.padZ b.length) 0 = acc at hal hpad ⊢
  refine gU ?_
  refine H.rem rfl rfl rfl (by decide) (tmod64 acc.length 64) rfl ?_
  refine gQ ?_
  generalize hN : ((b.length * 8 : Nat) : Int) = N at hpad
  refine H.know (d := 4) (u := .int .u64 N) rfl (congrArg (Value.int .u64) (by omega)) ?_
  refine H.Ax (ι := Nat × Option Addr × Nat) (fun i => [(5, .int .i64 (7 - (i.1 : Int))), (3, .slice i.2.1 (acc ++ beTop 8 N i.1).length i.2.2), (4, .int .u64 N), (2, .pointer (some ⟨ob, 0, none⟩))]) (fun _ => f)
   (fun i => slc i.2.1 (acc ++ beTop 8 N i.1).length i.2.2 5 1 (bytesV (acc ++ beTop 8 N i.1)) :: row ob 47 (zb 32) :: F) (fun i => i.1 ≤ 8) (fun i => 8 - i.1) (0, p', c') (Nat.zero_le _) ⟨rfl, ?_, rfl, rfl, trivial⟩ rfl ?_ fun i hi => ?_
  ·show some (Value.slice p' acc.length c') = some (Value.slice p' (acc ++ []).length c')
   rw [List.append_nil]
  ·show _ = slc p' (acc ++ []).length c' _ 1 (bytesV (acc ++ [])) :: _
   rw [List.append_nil]
  obtain ⟨i, p', c'⟩ := i
  have hi : i ≤ 8 := hi
  show H _ _ _ [(5, .int .i64 (7 - (i : Int))), (3, .slice p' (acc ++ beTop 8 N i).length c'), _, _] _ (slc p' (acc ++ beTop 8 N i).length c' _ 1 (bytesV (acc ++ beTop 8 N i)) :: _) _
  have hcl : (acc ++ beTop 8 N i).length = acc.length + i := by rw [List.length_append, beTop_len]
  by_cases hlt : i < 8
  ·have hexp : min (8 * (7 - (i : Int))).toNat IntKind.u64.bits = 8 * (8 - 1 - i) := by simp only [IntKind.bits]; omega
   have hsh : N.fdiv (2 ^ (min (8 * (7 - (i : Int))).toNat IntKind.u64.bits)) = N.fdiv (2 ^ (8 * (8 - 1 - i))) := by rw [hexp]
   have e3 : acc ++ beTop 8 N (i + 1) = (acc ++ beTop 8 N i) ++ [byteAt N (8 - 1 - i)] := by simp only [beTop, List.append_assoc]
   generalize acc ++ beTop 8 N i = ac at hcl e3 ⊢
   refine gQ ?_
   refine H.shift rfl rfl rfl rfl (by omega) hsh rfl ?_
   refine H.Bn rfl rfl (byteAt_wrap N (8 - 1 - i)) rfl ?_
   refine H.Bd (out := bytesV [byteAt N (8 - 1 - i)]) rfl rfl rfl rfl (by decide) (by decide) rfl rfl fun tb => ?_
   refine H.Bf (m := 1) (xs := bytesV ac) rfl rfl rfl rfl rfl (fun p' c' => (by repeat constructor)) (Src.slice (Rd.ofRow (.here _ _ _)) rfl) (zah _) rfl (by omega) (by omega) fun p3 c3 => ?_
   refine H.Ab (x := row tb _ _) (by repeat constructor) ?_
   refine gK ?_
   refine H.know (d := 5) (u := .int .i64 (7 - ((i + 1 : Nat) : Int))) rfl (congrArg (Value.int .i64) (by omega)) ?_
   refine H.Au (i + 1, p3, c3) (by show i + 1 ≤ 8; omega) (by show 8 - (i + 1) < 8 - i; omega) ⟨rfl, ?_, rfl, rfl, trivial⟩ rfl ?_
   ·show some (Value.slice p3 (ac.length + 1) c3) = some (Value.slice p3 (acc ++ beTop 8 N (i + 1)).length c3)
    rw [e3, List.length_append]; rfl
   ·show _ = slc p3 (acc ++ beTop 8 N (i + 1)).length c3 _ 1 (bytesV (acc ++ beTop 8 N (i + 1))) :: _
    rw [e3, List.length_append, zag]; rfl
  ·have hi8 : i = 8 := by omega
   subst hi8
   have hP : acc ++ beTop 8 N 8 = P := hpad.symm
   rw [hP]
   refine gH ?_
   refine H.Ad rfl rfl rfl (start_fn f _) ?_
   refine H.Av (ls := List.replicate 8 (.int .u32 0)) rfl rfl rfl fun hb => ?_
   refine H.Ap (ls := List.replicate 8 (.int .u32 0)) (vs := Sha.start.vals) (ls' := Sha.start.vals) rfl rfl rfl (zae rfl) rfl rfl (Nat.le_refl 8) (by repeat constructor) ?_
   refine ga ?_
   have hPl : P.length ≤ 2000000000 := by omega
   obtain ⟨nb, hnb⟩ : ∃ nb, P.length = 64 * nb := ⟨P.length / 64, by omega⟩
   have hdiv : P.length / 64 = nb := by omega
   rw [hdiv]
   refine H.Ce (.there _ (.here _ _ _)) (by omega) fun pb hp => ?_
   subst hp
   refine H.Ax (ι := Nat) (fun j => [(7, .int .i64 ((64 * j : Nat) : Int)), (3, .slice (some ⟨pb, 0, none⟩) P.length c'), (6, .pointer (some ⟨hb, 0, none⟩)), (2, .pointer (some ⟨ob, 0, none⟩))]) (fun _ => f)
    (fun j => row hb 108 (Sha.blocks Sha.start P j).vals :: slc (some ⟨pb, 0, none⟩) P.length c' 5 1 (bytesV P) :: row ob 47 (zb 32) :: F) (fun j => j ≤ nb) (fun j => nb - j) 0 (Nat.zero_le _) ⟨rfl, rfl, rfl, rfl, trivial⟩ rfl rfl fun j hj => ?_
   have hj : j ≤ nb := hj
   by_cases hlt : j < nb
   ·have hbk : Sha.blocks Sha.start P (j + 1) = Sha.block (Sha.blocks Sha.start P j) ((P.drop (64 * j)).take 64) := rfl
    have hcg : ∀ i, i < 64 → ((P.drop (64 * j)).take 64).getD i 0 = P.getD (64 * j + i) 0 := fun i hi => Sha.chunk_get P hi
    have hcl : ((P.drop (64 * j)).take 64).length = 64 := by rw [List.length_take, List.length_drop]; omega
    generalize (P.drop (64 * j)).take 64 = ch at hbk hcg hcl
    show H _ _ _ _ _ (row hb _ (Sha.blocks Sha.start P j).vals :: _) _
    generalize Sha.blocks Sha.start P j = sj at hbk ⊢
    refine gG ?_
    refine H.Av (ls := (bytesV ch).take 0 ++ (zb 64).drop 0) rfl rfl rfl fun ib => ?_
    refine ga ?_
    refine H.Ax (ι := Nat) (fun i => [(9, .int .i64 (i : Int)), (8, .pointer (some ⟨ib, 0, none⟩)), (7, .int .i64 ((64 * j : Nat) : Int)), (3, .slice (some ⟨pb, 0, none⟩) P.length c'), (6, .pointer (some ⟨hb, 0, none⟩)), (2, .pointer (some ⟨ob, 0, none⟩))]) (fun _ => f)
     (fun i => row ib 110 ((bytesV ch).take i ++ (zb 64).drop i) :: row hb 108 sj.vals :: slc (some ⟨pb, 0, none⟩) P.length c' 5 1 (bytesV P) :: row ob 47 (zb 32) :: F) (fun i => i ≤ 64) (fun i => 64 - i) 0 (Nat.zero_le _) ⟨rfl, rfl, rfl, rfl, rfl, rfl, trivial⟩ rfl rfl fun i hi => ?_
    have hi : i ≤ 64 := hi
    by_cases hli : i < 64
    ·have hset : SetV ((bytesV ch).take i ++ (zb 64).drop i) i (.int .u8 ((P.getD (64 * j + i) 0).toNat : Nat)) ((bytesV ch).take (i + 1) ++ (zb 64).drop (i + 1)) := by
      rw [← hcg i hli]
      exact fill_set (zay (by omega)) (by rw [zaf, hcl]; rfl)
     refine gQ ?_
     refine H.index1 (i := 64 * j + i) rfl rfl rfl (by omega) (by omega) rfl ?_
     refine H.Ag rfl rfl rfl (.of (Rd.ofSlc (.there _ (.there _ (.here _ _ _))) (by omega)) (zay (by omega))) rfl ?_
     refine H.Ba (i := i) rfl rfl rfl rfl hli rfl ?_
     refine H.Bi (ls' := (bytesV ch).take (i + 1) ++ (zb 64).drop (i + 1)) rfl rfl rfl rfl (by repeat constructor) (by rw [Nat.mul_one, Nat.zero_add]; exact hset) ?_
     refine gK ?_
     exact H.Au (i + 1) (by show i + 1 ≤ 64; omega) (by show 64 - (i + 1) < 64 - i; omega) ⟨rfl, rfl, rfl, rfl, rfl, rfl, trivial⟩ rfl rfl
    ·have hi64 : i = 64 := by omega
     subst hi64
     have hfull : (bytesV ch).take 64 ++ (zb 64).drop 64 = bytesV ch := by
      rw [List.take_of_length_le (by rw [zaf, hcl]; exact Nat.le_refl _)]
      show bytesV ch ++ [] = _
      rw [List.append_nil]
     rw [hfull]
     refine gH ?_
     refine H.Aj (ls := sj.vals) rfl rfl rfl (Rd.ofRow (by repeat constructor)) rfl rfl ?_
     refine H.Aj (ls := bytesV ch) rfl rfl rfl (Rd.ofRow (by repeat constructor)) (by rw [zaf, hcl]) rfl ?_
     refine H.Ad rfl rfl rfl (block_fn f _ hcl) ?_
     refine H.Ap (ls := sj.vals) (vs := (Sha.block sj ch).vals) (ls' := (Sha.block sj ch).vals) rfl rfl rfl (zae rfl) rfl rfl (Nat.le_refl 8) (by repeat constructor) ?_
     refine gK ?_
     refine H.Ab (x := row ib _ _) (by repeat constructor) ?_
     refine H.know (d := 7) (u := .int .i64 ((64 * (j + 1) : Nat) : Int)) rfl (congrArg (Value.int .i64) (by omega)) ?_
     exact H.Au (j + 1) (by show j + 1 ≤ nb; omega) (by show nb - (j + 1) < nb - j; omega) ⟨rfl, rfl, rfl, rfl, trivial⟩ rfl (by rw [hbk])
   ·have hjn : j = nb := by omega
    subst hjn
    generalize Sha.blocks Sha.start P j = sj
    refine gV ?_
    refine H.Av (ls := (b32 sj.out).take 0 ++ (zb 32).drop 0) rfl rfl rfl fun rb => ?_
    refine ga ?_
    refine H.Ax (ι := Nat) (fun i => [(11, .int .i64 (i : Int)), (10, .pointer (some ⟨rb, 0, none⟩)), (6, .pointer (some ⟨hb, 0, none⟩)), (2, .pointer (some ⟨ob, 0, none⟩))]) (fun _ => f)
     (fun i => row rb 47 ((b32 sj.out).take i ++ (zb 32).drop i) :: row hb 108 sj.vals :: slc (some ⟨pb, 0, none⟩) P.length c' 5 1 (bytesV P) :: row ob 47 (zb 32) :: F) (fun i => i ≤ 32) (fun i => 32 - i) 0 (Nat.zero_le _) ⟨rfl, rfl, rfl, rfl, trivial⟩ rfl rfl fun i hi => ?_
    have hi : i ≤ 32 := hi
    by_cases hli : i < 32
    ·have hset : SetV ((b32 sj.out).take i ++ (zb 32).drop i) i (.int .u8 ((sj.out i).toNat : Nat)) ((b32 sj.out).take (i + 1) ++ (zb 32).drop (i + 1)) := fill_set (b32_get _ hli) rfl
     have hgv := Sha.S8.get_vals sj (i := i / 4) (by omega)
     unfold Sha.S8.out at hset
     refine gG ?_
     refine H.quo rfl rfl rfl (by decide) (z := ((i / 4 : Nat) : Int)) (by rw [show (4 : Int) = ((4 : Nat) : Int) from rfl, tdiv64, wr_i64 (by omega)]) rfl ?_
     refine H.Ba (i := i / 4) rfl rfl rfl rfl (by omega) rfl ?_
     refine H.Ag rfl rfl rfl (.of (Rd.ofRow (by repeat constructor)) (by rw [Nat.mul_one]; exact hgv)) rfl ?_
     refine gU ?_
     refine H.rem rfl rfl rfl (by decide) (tmod64 i 4) rfl ?_
     refine gK ?_
     refine H.know (d := 76) (u := .int .u64 ((24 - 8 * (i % 4) : Nat) : Int)) rfl (congrArg (Value.int .u64) (by omega)) ?_
     refine H.shift rfl rfl rfl (u32_shr _ _ (by omega)) (by omega) rfl rfl ?_
     refine H.Bn rfl rfl (u8_ofU32 _) rfl ?_
     refine H.Ba (i := i) rfl rfl rfl rfl hli rfl ?_
     refine H.Bi (ls' := (b32 sj.out).take (i + 1) ++ (zb 32).drop (i + 1)) rfl rfl rfl rfl (by repeat constructor) (by rw [Nat.mul_one, Nat.zero_add]; exact hset) ?_
     refine gK ?_
     exact H.Au (i + 1) (by show i + 1 ≤ 32; omega) (by show 32 - (i + 1) < 32 - i; omega) ⟨rfl, rfl, rfl, rfl, trivial⟩ rfl rfl
    ·have hi32 : i = 32 := by omega
     subst hi32
     refine gH ?_
     refine H.Aj (ls := b32 sj.out) rfl rfl rfl (Rd.ofRow (by repeat constructor)) rfl rfl ?_
     refine H.Ap (ls := zb 32) (vs := b32 sj.out) (ls' := b32 sj.out) rfl rfl rfl (zae rfl) rfl rfl (Nat.le_refl 32) (by repeat constructor) ?_
     refine ga ?_
     refine H.Ab (.here _ _) ?_
     refine H.Ab (.here _ _) ?_
     refine H.Ab (.here _ _) ?_
     exact H.retD rfl rfl rfl (Rd.ofRow (by repeat constructor)) rfl (fun _ s => s.drop (.here _ _)) ⟨rfl, rfl, rfl⟩
end
theorem Fn.frozen {P : Program} {fid : FuncId} {args : List Value} {f : Frag} {F F' : List HP} {x : HP} {v : Value} (h : ∀ g, x g → Dj f g → Fn P fid args (un f g) F (Ret v (un f g) F')) : Fn P fid args f (x :: F) (Ret v f (x :: F')) := fun base w s => by
 obtain ⟨g, hx, hd, s'⟩ := s.freeze (.here F x)
 refine (h g hx hd base w s').mono ?_
 rintro e w' ⟨u, f', A', rfl, ⟨rfl, rfl, rfl⟩, s2⟩
 exact ⟨_, f, _, rfl, ⟨rfl, rfl, rfl⟩, s2.thaw hx hd⟩
theorem row_bat {f g : Frag} {b : Nat} {T : TypeId} {l : List UInt8} (h : row b T (bytesV l) g) (hd : Dj f g) : BAt (un f g) (some ⟨b, 0, none⟩) l := by
 have hg : g = sing b (.cells (bytesV l).toArray T (0, 0)) := h
 refine .inr ⟨b, 0, (bytesV l).toArray, T, (0, 0), rfl, ?_, fun i hi => by simp⟩
 have : f b = none := by
  rcases hd b with h | h
  ·exact h
  ·rw [hg] at h
   simp [sing] at h
 unfold un
 rw [this, hg]
 simp [sing]
theorem fill_splice {a z : List Value} {i k : Nat} (hz : z.length = a.length) (h : i + k ≤ a.length) : splice (a.take i ++ z.drop i) i ((a.drop i).take k) = a.take (i + k) ++ z.drop (i + k) := by
 have hl : (a.take i).length = i := by rw [List.length_take]; omega
 have hk : ((a.drop i).take k).length = k := by rw [List.length_take, List.length_drop]; omega
 have d1 : (a.take i ++ z.drop i).drop (i + k) = z.drop (i + k) := by
  rw [List.drop_append, hl, @List.drop_eq_nil_of_le _ (a.take i) (i + k) (by rw [hl]; omega), List.nil_append, List.drop_drop]
  congr 1
  omega
 have t1 : (a.take i ++ z.drop i).take i = a.take i := by rw [List.take_append_of_le_length (by omega), List.take_of_length_le (by omega)]
 unfold splice
 rw [hk, t1, d1, List.take_add]
theorem padZ_lt (n : Nat) : Sha.padZ n < 64 := by unfold Sha.padZ; omega
theorem splice_all {ls vs : List Value} (h : vs.length = ls.length) : splice ls 0 vs = vs := by
 unfold splice
 rw [List.take_zero, List.nil_append, Nat.zero_add, h, List.drop_length, List.append_nil]
theorem hRow_one (s : Sha.S8) (part : List UInt8) (n all : Nat) : ∀ v ∈ hRow s part n all, one v = true := fun v hv => by
 unfold hRow at hv
 rw [List.mem_append, List.mem_append] at hv
 rcases hv with (hv | hv) | hv
 ·exact zae (l := s.vals) rfl v hv
 ·exact zah part v hv
 ·exact zae (l := [.int .i64 (n : Nat), .int .u64 (all : Nat)]) rfl v hv
def endB (b : List UInt8) (j : Nat) : List UInt8 := b ++ [0x80] ++ List.replicate j 0
theorem endB_len (b : List UInt8) (j : Nat) : (endB b j).length = b.length + 1 + j := by
 unfold endB
 rw [List.length_append, List.length_append, List.length_replicate]
 rfl
theorem endB_succ (b : List UInt8) (j : Nat) : endB b j ++ [0] = endB b (j + 1) := by
 unfold endB
 rw [List.append_assoc, List.replicate_succ']
theorem HSt.n_eq {b : List UInt8} {s : Sha.S8} {part : List UInt8} {n : Nat} (h : HSt b s part n) : n = b.length % 64 := by
 obtain ⟨⟨q, h1, _, _⟩, h4, _⟩ := h
 omega
theorem HSt.s_eq {b : List UInt8} {s : Sha.S8} {part : List UInt8} {n : Nat} (h : HSt b s part n) : s = Sha.blocks Sha.start b (b.length / 64) := by
 obtain ⟨⟨q, h1, h2, _⟩, h4, _⟩ := h
 rw [h2]
 congr 1
 omega
def four (x : UInt32) : List UInt8 := [(x >>> (UInt32.ofNat 24)).toUInt8, (x >>> (UInt32.ofNat 16)).toUInt8, (x >>> (UInt32.ofNat 8)).toUInt8, x.toUInt8]
theorem shr0 (x : UInt32) : x >>> (UInt32.ofNat 0) = x := by
 apply UInt32.toBitVec_inj.1
 simp
theorem four_out (s : Sha.S8) {i : Nat} (h : i < 8) : four (s.get i) = ((b32L s.out).drop (4 * i)).take 4 := by
 match i, h with
 | 0, _ => show _ = [s.out 0, s.out 1, s.out 2, s.out 3]; unfold four Sha.S8.out; rw [show (24 - 8 * (3 % 4)) = 0 from rfl, shr0]
 | 1, _ => show _ = [s.out 4, s.out 5, s.out 6, s.out 7]; unfold four Sha.S8.out; rw [show (24 - 8 * (7 % 4)) = 0 from rfl, shr0]
 | 2, _ => show _ = [s.out 8, s.out 9, s.out 10, s.out 11]; unfold four Sha.S8.out; rw [show (24 - 8 * (11 % 4)) = 0 from rfl, shr0]
 | 3, _ => show _ = [s.out 12, s.out 13, s.out 14, s.out 15]; unfold four Sha.S8.out; rw [show (24 - 8 * (15 % 4)) = 0 from rfl, shr0]
 | 4, _ => show _ = [s.out 16, s.out 17, s.out 18, s.out 19]; unfold four Sha.S8.out; rw [show (24 - 8 * (19 % 4)) = 0 from rfl, shr0]
 | 5, _ => show _ = [s.out 20, s.out 21, s.out 22, s.out 23]; unfold four Sha.S8.out; rw [show (24 - 8 * (23 % 4)) = 0 from rfl, shr0]
 | 6, _ => show _ = [s.out 24, s.out 25, s.out 26, s.out 27]; unfold four Sha.S8.out; rw [show (24 - 8 * (27 % 4)) = 0 from rfl, shr0]
 | 7, _ => show _ = [s.out 28, s.out 29, s.out 30, s.out 31]; unfold four Sha.S8.out; rw [show (24 - 8 * (31 % 4)) = 0 from rfl, shr0]
def outRow (t : Nat → UInt8) (i : Nat) : List Value := (bytesV (b32L t)).take i ++ (List.replicate 32 (.int .u8 0)).drop i
theorem outRow_splice (s : Sha.S8) {i : Nat} (h : i < 8) : splice (outRow s.out (4 * i)) (4 * i) (bytesV (four (s.get i))) = outRow s.out (4 * (i + 1)) := by
 rw [four_out s h]
 unfold outRow
 have e : bytesV (((b32L s.out).drop (4 * i)).take 4) = ((bytesV (b32L s.out)).drop (4 * i)).take 4 := by unfold bytesV; rw [List.map_take, List.map_drop]
 rw [e, fill_splice (by rw [List.length_replicate]; rfl) (by show 4 * i + 4 ≤ 32; omega), show 4 * (i + 1) = 4 * i + 4 by omega]
section
variable (f : Frag) (F : List HP)
theorem swriteO_fn (htab : TabAt f) {hb cb : Nat} {T : TypeId} {b c : List UInt8} {cap : Nat} (hcap : c.length ≤ cap) (hl : b.length + c.length ≤ 1000000000000) : Fn Tryz.prog 76 [.pointer (some ⟨hb, 0, none⟩), .slice (some ⟨cb, 0, none⟩) c.length cap] f (row cb T (bytesV c) :: hashH hb b :: F) (Ret (.tuple #[]) f (row cb T (bytesV c) :: hashH hb (b ++ c) :: F)) :=
 Fn.frozen fun g hg hd => swrite_fn (un f g) F (IntsAt.mono (Le.un f g) htab) (row_bat hg hd) hcap hl
set_option maxRecDepth 20000 in
set_option maxHeartbeats 1600000 in
theorem hsum_fn (htab : TabAt f) {hb : Nat} {b : List UInt8} (hl : b.length ≤ 1000000000) : Fn Tryz.prog 77 [.pointer (some ⟨hb, 0, none⟩)] f (hashH hb b :: F) (Ret (.agg (b32 (Sha.sum b)).toArray) f (hashH hb b :: F)) := by
 have e1 : IntKind.u64.wrap (((b.length : Nat) : Int) * 8) = ((b.length * 8 : Nat) : Int) := by rw [wr_u64 (by omega)]; omega
 have hpad := padZ_lt b.length
 refine Fn.enter Tryz.func77 rfl Tryz.ntmps77 rfl (L := [(0, _)]) ⟨rfl, trivial⟩ fun base => ?_
 refine gA ?_
 refine H.Av (ls := outRow (Sha.sum b) 0) rfl rfl rfl fun ob => ?_
 refine gA ?_
 refine H.callE rfl rfl rfl (snew_fn f _) fun eb => ?_
 refine gW ?_
 refine H.unpack fun i0 hi0 => ?_
 obtain ⟨s1, part1, n1⟩ := i0
 have hi0 : HSt [] s1 part1 n1 := hi0
 refine H.Aa (x := hashH hb b) (by repeat constructor) ?_
 refine H.unpack fun i1 hi1 => ?_
 obtain ⟨s0, part0, n0⟩ := i1
 have hi1 : HSt b s0 part0 n0 := hi1
 show H _ _ _ _ _ (row hb _ (hRow s0 part0 n0 b.length) :: _) _
 refine H.Aj (ls := hRow s0 part0 n0 b.length) rfl rfl rfl (Rd.ofRow (by repeat constructor)) (hRow_len _ _ _ _ hi1.len) rfl ?_
 refine H.imp (hashH_fold hi1) ?_
 refine H.Aa (x := row ob _ _) (by repeat constructor) ?_
 refine H.Aa (x := row eb _ _) (by repeat constructor) ?_
 show H _ _ _ _ _ (row eb _ (hRow s1 part1 n1 0) :: _) _
 refine gU ?_
 refine H.Ap (ls := hRow s1 part1 n1 0) (vs := hRow s0 part0 n0 b.length) (ls' := hRow s0 part0 n0 b.length) rfl rfl rfl (hRow_one _ _ _ _) (hRow_len _ _ _ _ hi1.len) (splice_all (by rw [hRow_len _ _ _ _ hi1.len, hRow_len _ _ _ _ hi0.len])) (by rw [hRow_len _ _ _ _ hi1.len, hRow_len _ _ _ _ hi0.len]; decide) (by repeat constructor) ?_
 repeat (first | (refine H.Ag rfl rfl rfl (.at0 (Rd.ofRow (by repeat constructor)) (hRow_all s0 part0 n0 b.length hi1.len)) rfl ?_) | (apply H.ar; (iterate 4 exact rfl); exact e1; exact rfl) | ((first | apply H.Ah | apply H.Ak | apply H.Az); (iterate 3 exact rfl)) | (apply H.Ao; (iterate 3 exact rfl); exact inferInstance; exact rfl) | (first | apply H.seq | apply H.Al | apply H.nil | apply H.Am))
 refine H.Aa (x := row eb _ _) (by repeat constructor) ?_
 refine H.imp (hashH_fold hi1) ?_
 refine H.Bd (out := bytesV [0x80]) rfl rfl rfl rfl (by decide) (by decide) rfl rfl fun cb => ?_
 refine H.Ad rfl rfl rfl (swriteO_fn f _ htab (c := [0x80]) (Nat.le_refl 1) (by show b.length + 1 ≤ _; omega)) ?_
 refine H.Ab (.here _ _) ?_
 clear hi0 hi1
 refine ga ?_
 refine H.Ax (ι := Nat) (fun j => [(3, .pointer (some ⟨eb, 0, none⟩)), (2, .pointer (some ⟨ob, 0, none⟩)), (4, .int .u64 ((b.length * 8 : Nat) : Int))]) (fun _ => f)
  (fun j => hashH eb (endB b j) :: row ob 47 (outRow (Sha.sum b) 0) :: hashH hb b :: F) (fun j => j ≤ Sha.padZ b.length) (fun j => Sha.padZ b.length - j) 0 (Nat.zero_le _) ⟨rfl, rfl, rfl, trivial⟩ rfl (by rw [show endB b 0 = b ++ [0x80] from List.append_nil _]) fun j hj => ?_
 have hj : j ≤ Sha.padZ b.length := hj
 refine H.unpack fun i1 hi1 => ?_
 obtain ⟨s0, part0, n0⟩ := i1
 have hi1 : HSt (endB b j) s0 part0 n0 := hi1
 have hn := hi1.n_eq
 rw [endB_len] at hn
 show H _ _ _ _ _ (row eb _ (hRow s0 part0 n0 (endB b j).length) :: _) _
 by_cases hlt : j < Sha.padZ b.length
 ·have hne : n0 ≠ 56 := by rw [hn]; exact Sha.pad_not hlt
  repeat (first | (refine H.Ag rfl rfl rfl (.at0 (Rd.ofRow (by repeat constructor)) (hRow_n s0 part0 n0 _ hi1.len)) rfl ?_) | ((first | apply H.Ah | apply H.Az); (iterate 3 exact rfl)) | (apply H.Ao; (iterate 3 exact rfl); exact inferInstance; exact rfl) | (first | apply H.seq | apply H.Al | apply H.nil | apply H.Am) | ((apply H.cmp); (iterate 5 exact rfl)) | (first | apply H.Bh | apply H.Bb) | (apply H.Br; exact rfl; (omega)))
  refine H.imp (hashH_fold hi1) ?_
  refine H.Bd (out := bytesV [0]) rfl rfl rfl rfl (by decide) (by decide) rfl rfl fun cb => ?_
  refine H.Ad rfl rfl rfl (swriteO_fn f _ htab (c := [0]) (Nat.le_refl 1) (by rw [endB_len]; show b.length + 1 + j + 1 ≤ _; omega)) ?_
  refine H.Ab (.here _ _) ?_
  refine ga ?_
  exact H.Au (j + 1) (by show j + 1 ≤ _; omega) (by show Sha.padZ b.length - (j + 1) < Sha.padZ b.length - j; omega) ⟨rfl, rfl, rfl, trivial⟩ rfl (by rw [endB_succ]; rfl)
 ·have hjp : j = Sha.padZ b.length := by omega
  have hne : n0 = 56 := by rw [hn, hjp]; exact Sha.pad_is _
  repeat (first | (refine H.Ag rfl rfl rfl (.at0 (Rd.ofRow (by repeat constructor)) (hRow_n s0 part0 n0 _ hi1.len)) rfl ?_) | ((first | apply H.Ah | apply H.Ak | apply H.Az); (iterate 3 exact rfl)) | (apply H.Ao; (iterate 3 exact rfl); exact inferInstance; exact rfl) | (first | apply H.seq | apply H.Al | apply H.nil | apply H.Am) | ((apply H.cmp); (iterate 5 exact rfl)) | (first | apply H.By | apply H.exit | apply H.Bb | apply H.Bz | apply H.Bw) | (apply H.Ca; exact rfl; (omega)))
  refine H.imp (hashH_fold hi1) ?_
  rw [hjp]
  clear hi1 hn hne hlt hj hjp
  have hel := endB_len b (Sha.padZ b.length)
  refine H.Ax (ι := Nat) (fun i => [(5, .int .i64 (7 - (i : Int))), (3, .pointer (some ⟨eb, 0, none⟩)), (2, .pointer (some ⟨ob, 0, none⟩)), (4, .int .u64 ((b.length * 8 : Nat) : Int))]) (fun _ => f)
   (fun i => hashH eb (endB b (Sha.padZ b.length) ++ beTop 8 ((b.length * 8 : Nat) : Int) i) :: row ob 47 (outRow (Sha.sum b) 0) :: hashH hb b :: F) (fun i => i ≤ 8) (fun i => 8 - i) 0 (Nat.zero_le _) ⟨rfl, rfl, rfl, rfl, trivial⟩ rfl (by rw [show beTop 8 ((b.length * 8 : Nat) : Int) 0 = [] from rfl, List.append_nil]; rfl) fun i hi => ?_
  have hi : i ≤ 8 := hi
  show H _ _ _ ((5, .int .i64 (7 - (i : Int))) :: _) _ _ _
  generalize hbits : ((b.length * 8 : Nat) : Int) = nb at *
  by_cases hlt : i < 8
  ·have e2 : IntKind.i64.wrap (8 * (7 - (i : Int))) = 8 * (7 - (i : Int)) := wr_i64 (by omega)
   have hexp : min (8 * (7 - (i : Int))).toNat IntKind.u64.bits = 8 * (8 - 1 - i) := by simp only [IntKind.bits]; omega
   have hsh : nb.fdiv (2 ^ (min (8 * (7 - (i : Int))).toNat IntKind.u64.bits)) = nb.fdiv (2 ^ (8 * (8 - 1 - i))) := by rw [hexp]
   repeat (first | (apply H.ar; (iterate 4 exact rfl); exact e2; exact rfl) | ((apply H.Ah); (iterate 3 exact rfl)) | (first | apply H.seq | apply H.Al | apply H.nil | apply H.Am) | ((apply H.cmp); (iterate 5 exact rfl)) | (first | apply H.Bh | apply H.Bb) | (apply H.Br; exact rfl; (omega)))
   refine H.shift rfl rfl rfl rfl (by omega) hsh rfl ?_
   refine H.Bn rfl rfl (byteAt_wrap nb (8 - 1 - i)) rfl ?_
   refine H.Bd (out := bytesV [byteAt nb (8 - 1 - i)]) rfl rfl rfl rfl (by decide) (by decide) rfl rfl fun cb => ?_
   refine H.Ad rfl rfl rfl (swriteO_fn f _ htab (c := [byteAt nb (8 - 1 - i)]) (Nat.le_refl 1) (by rw [List.length_append, hel, beTop_len]; show _ + 1 ≤ _; omega)) ?_
   refine H.Ab (.here _ _) ?_
   refine gK ?_
   refine H.know (d := 5) (u := .int .i64 (7 - ((i + 1 : Nat) : Int))) rfl (congrArg (Value.int .i64) (by omega)) ?_
   exact H.Au (i + 1) (by show i + 1 ≤ 8; omega) (by show 8 - (i + 1) < 8 - i; omega) ⟨rfl, rfl, rfl, rfl, trivial⟩ rfl (by show _ = hashH eb (endB b (Sha.padZ b.length) ++ (beTop 8 nb i ++ [byteAt nb (8 - 1 - i)])) :: _; rw [List.append_assoc])
  ·have hi8 : i = 8 := by omega
   subst hi8
   refine gS ?_
   refine H.unpack fun i1 hi1 => ?_
   obtain ⟨s0, part0, n0⟩ := i1
   have hi1 : HSt (endB b (Sha.padZ b.length) ++ beTop 8 nb 8) s0 part0 n0 := hi1
   have hpd : endB b (Sha.padZ b.length) ++ beTop 8 nb 8 = Sha.padded b := by rw [← hbits]; rfl
   have hs := hi1.s_eq
   rw [hpd] at hs
   have hsum : Sha.sum b = s0.out := by rw [hs]; rfl
   rw [hsum]
   show H _ _ _ _ _ (row eb _ (hRow s0 part0 n0 _) :: _) _
   repeat (first | (refine H.Aj (ls := s0.vals) rfl rfl rfl (hRow_rds (by repeat constructor)) rfl rfl ?_) | ((apply H.Ah); (iterate 3 exact rfl)) | (first | apply H.nil | apply H.Am) | (apply H.Bb))
   clear hs hsum hpd hi1
   refine H.Ab (x := row eb _ _) (by repeat constructor) ?_
   refine H.Ax (ι := Nat) (fun i => [(48, .int .i64 (i : Int)), (47, .agg s0.vals.toArray), (2, .pointer (some ⟨ob, 0, none⟩))]) (fun _ => f)
    (fun i => row ob 47 (outRow s0.out (4 * i)) :: hashH hb b :: F) (fun i => i ≤ 8) (fun i => 8 - i) 0 (Nat.zero_le _) ⟨rfl, rfl, rfl, trivial⟩ rfl rfl fun i hi => ?_
   have hi : i ≤ 8 := hi
   by_cases hlt : i < 8
   ·have hg2 := Sha.S8.get_vals s0 hlt
    have hset := outRow_splice s0 hlt
    have e4 : IntKind.i64.wrap (4 * (i : Int)) = ((4 * i : Nat) : Int) := by rw [wr_i64 (by omega)]; omega
    show H _ _ _ _ _ (row ob _ (outRow s0.out (4 * i)) :: _) _
    generalize s0.get i = x at hg2 hset
    repeat (first | (apply H.ar; (iterate 4 exact rfl); exact e4; exact rfl) | ((first | apply H.Ah | apply H.Ak); (iterate 3 exact rfl)) | (first | apply H.seq | apply H.Al | apply H.nil | apply H.Am) | ((apply H.cmp); (iterate 5 exact rfl)) | (first | apply H.Bh | apply H.Bb) | (apply H.Br; exact rfl; (omega)) | (apply H.indexV (i := i); (iterate 4 exact rfl); exact hlt; exact rfl; exact hg2; exact rfl))
    refine H.Cd (lo := some (.tmp 53)) (mx := none) (hi := none) (lv := 4 * i) (hv := 32) (mv := 32) rfl rfl ⟨_, _, rfl, rfl⟩ rfl rfl (fun h => by cases h) (by omega) (by omega) (by decide) rfl ?_
    rw [slP_ne (by omega)]
    refine gU ?_
    refine H.shift (op := .shr) rfl rfl rfl (u32_shr x 24 (by decide)) (by decide) rfl rfl ?_
    refine H.Bn rfl rfl (u8_ofU32 _) rfl ?_
    refine gU ?_
    refine H.shift (op := .shr) rfl rfl rfl (u32_shr x 16 (by decide)) (by decide) rfl rfl ?_
    refine H.Bn rfl rfl (u8_ofU32 _) rfl ?_
    refine gU ?_
    refine H.shift (op := .shr) rfl rfl rfl (u32_shr x 8 (by decide)) (by decide) rfl rfl ?_
    refine H.Bn rfl rfl (u8_ofU32 _) rfl ?_
    repeat (first | (refine H.Bn rfl rfl (u8_ofU32 x) rfl ?_) | ((apply H.Ah); (iterate 3 exact rfl)))
    refine H.Bd (out := bytesV (four x)) rfl rfl rfl rfl (by decide) (by decide) rfl rfl fun cb => ?_
    refine H.copy (k0 := 4) (m := 4) (cs := bytesV (four x)) (ls := outRow s0.out (4 * i)) (ls' := outRow s0.out (4 * (i + 1))) rfl rfl rfl rfl
     (Src.slice (P := Tryz.prog) (f := f) (A := [row cb 5 (bytesV (four x))]) (sz := 1) (m := 4) (Rd.ofRow (by repeat constructor)) rfl).len (Nat.min_eq_left (by omega)) (Src.slice (m := 4) (Rd.ofRow (by repeat constructor)) rfl).copy
     (by rw [show 0 + 4 * i * 1 = 4 * i by omega]; exact hset) (by show 0 + 4 * i * 1 + 4 ≤ _; unfold outRow; rw [List.length_append, List.length_take, List.length_drop, List.length_replicate]; show _ ≤ min _ 32 + _; omega) (zah _) (by repeat constructor) ?_
    refine gK ?_
    refine H.Ab (x := row cb _ _) (by repeat constructor) ?_
    exact H.Au (i + 1) (by show i + 1 ≤ 8; omega) (by show 8 - (i + 1) < 8 - i; omega) ⟨rfl, rfl, rfl, trivial⟩ rfl rfl
   ·have hi8 : i = 8 := by omega
    subst hi8
    refine gH ?_
    refine H.Aj (ls := b32 s0.out) rfl rfl rfl (Rd.ofRow (by repeat constructor)) rfl rfl ?_
    refine H.Ap (ls := b32 s0.out) (vs := b32 s0.out) (ls' := b32 s0.out) rfl rfl rfl (zae rfl) rfl rfl (Nat.le_refl 32) (by repeat constructor) ?_
    refine ga ?_
    exact H.retD rfl rfl rfl (Rd.ofRow (by repeat constructor)) rfl (fun _ s => s.drop (.here _ _)) ⟨rfl, rfl, rfl⟩
end
theorem u8_bv (x : UInt8) : BitVec.ofInt 8 (x.toNat : Int) = x.toBitVec := by
 simp [BitVec.ofInt_natCast]
theorem u8_wrapN (x : UInt8) : IntKind.u8.wrap ((x.toNat : Nat) : Int) = (x.toNat : Int) := by
 have := x.toNat_lt
 rw [wr_u8 (by omega)]
theorem u8_xor (x y : UInt8) : bitsI .xor .u8 (x.toNat : Int) (y.toNat : Int) = some (((x ^^^ y).toNat : Nat) : Int) := by
 have e : (BitVec.ofInt 8 (x.toNat : Int) ^^^ BitVec.ofInt 8 (y.toNat : Int)).toNat = (x ^^^ y).toNat := by rw [u8_bv, u8_bv]; rfl
 show some (IntKind.u8.wrap ((BitVec.ofInt 8 (x.toNat : Int) ^^^ BitVec.ofInt 8 (y.toNat : Int)).toNat : Int)) = _
 rw [e, u8_wrapN]
namespace Sha
def full (key : List UInt8) : List UInt8 := key ++ List.replicate (64 - key.length) 0
def turn (key : List UInt8) (t : UInt8) : List UInt8 := (full key).map (· ^^^ t)
def hmac (key b : List UInt8) : Nat → UInt8 := sum (turn key 0x5c ++ b32L (sum (turn key 0x36 ++ b)))
def word32 (word : List UInt8) (i : Int) : List UInt8 := b32L (sum (word ++ be 8 i))
def replicaW : List UInt8 := [114, 97, 116, 99, 104, 101, 116, 32, 114, 101, 112, 108, 105, 99, 97]
def numbered (i n : Int) (b : List UInt8) : Nat → UInt8 := hmac (word32 replicaW i) (be 8 n ++ b)
theorem full_len {key : List UInt8} (h : key.length ≤ 64) : (full key).length = 64 := by
 unfold full; rw [List.length_append, List.length_replicate]; omega
theorem turn_len {key : List UInt8} (h : key.length ≤ 64) (t : UInt8) : (turn key t).length = 64 := by
 unfold turn; rw [List.length_map, full_len h]
end Sha
section
variable (f : Frag) (F : List HP)
theorem with_fn {p : Option Addr} {c : Nat} {key : List UInt8} {t : UInt8} (hs : Src Tryz.prog f F (.slice p key.length c) 1 key.length (bytesV key)) (hl : key.length ≤ 64) :
  Fn Tryz.prog 128 [.slice p key.length c, .int .u8 (t.toNat : Nat)] f F (BytesR (Sha.turn key t) f F) := by
 refine Fn.enter Tryz.func128 rfl Tryz.ntmps128 rfl (L := [(0, _), (1, _)]) ⟨rfl, rfl, trivial⟩ fun base => ?_
 refine gU ?_
 refine H.Bd rfl rfl rfl rfl (by decide) (by decide) rfl rfl fun eb => ?_
 refine H.asSlc (k := 0) (sz := 1) rfl (by decide) ?_
 refine gU ?_
 refine H.Bf (xs := []) rfl rfl rfl rfl rfl (fun p' c' => .here _ _ _) hs.cons (zah key) rfl (by omega) (by omega) fun p1 c1 => ?_
 rw [Nat.zero_add, List.nil_append]
 refine gV ?_
 refine H.Ax (ι := Nat × Option Addr × Nat) (fun i => [(5, .slice i.2.1 (key ++ List.replicate i.1 0).length i.2.2), (1, .int .u8 (t.toNat : Nat))]) (fun _ => f)
  (fun i => slc i.2.1 (key ++ List.replicate i.1 0).length i.2.2 5 1 (bytesV (key ++ List.replicate i.1 0)) :: F) (fun i => i.1 ≤ 64 - key.length) (fun i => 64 - key.length - i.1) (0, p1, c1) (Nat.zero_le _) ⟨?_, rfl, trivial⟩ rfl ?_ fun i hi => ?_
 ·show some (Value.slice p1 key.length c1) = some (Value.slice p1 (key ++ []).length c1)
  rw [List.append_nil]
 ·show _ = slc p1 (key ++ []).length c1 _ 1 (bytesV (key ++ [])) :: F
  rw [List.append_nil]
 obtain ⟨i, p', c'⟩ := i
 have hi : i ≤ 64 - key.length := hi
 show H _ _ _ [(5, .slice p' (key ++ List.replicate i 0).length c'), _] _ (slc p' (key ++ List.replicate i 0).length c' _ 1 (bytesV (key ++ List.replicate i 0)) :: _) _
 have hal : (key ++ List.replicate i 0).length = key.length + i := by rw [List.length_append, List.length_replicate]
 by_cases hlt : i < 64 - key.length
 ·have e3 : key ++ List.replicate (i + 1) 0 = (key ++ List.replicate i 0) ++ [0] := by rw [List.replicate_succ', ← List.append_assoc]
  generalize key ++ List.replicate i 0 = acc at hal e3 ⊢
  refine gG ?_
  refine H.Bd (out := bytesV [0]) rfl rfl rfl rfl (by decide) (by decide) rfl rfl fun tb => ?_
  refine H.Bf (m := 1) (xs := bytesV acc) rfl rfl rfl rfl rfl (fun p' c' => (by repeat constructor)) (Src.slice (Rd.ofRow (.here _ _ _)) rfl) (zah _) rfl (by omega) (by omega) fun p3 c3 => ?_
  refine H.Ab (x := row tb _ _) (by repeat constructor) ?_
  refine ga ?_
  refine H.Au (i + 1, p3, c3) (by show i + 1 ≤ _; omega) (by show 64 - key.length - (i + 1) < 64 - key.length - i; omega) ⟨?_, rfl, trivial⟩ rfl ?_
  ·show some (Value.slice p3 (acc.length + 1) c3) = some (Value.slice p3 (key ++ List.replicate (i + 1) 0).length c3)
   rw [e3, List.length_append]; rfl
  ·show _ = slc p3 (key ++ List.replicate (i + 1) 0).length c3 _ 1 (bytesV (key ++ List.replicate (i + 1) 0)) :: _
   rw [e3, List.length_append, zag]; rfl
 ·have hip : i = 64 - key.length := by omega
  subst hip
  have hfl := Sha.full_len hl
  have htl := Sha.turn_len hl t
  have hget : ∀ i, i < 64 → (Sha.turn key t).getD i 0 = (Sha.full key).getD i 0 ^^^ t := fun i hi => by
   unfold Sha.turn
   rw [List.getD_eq_getElem?_getD, List.getElem?_map, List.getElem?_eq_getElem (by rw [hfl]; exact hi), List.getD_eq_getElem?_getD, List.getElem?_eq_getElem (by rw [hfl]; exact hi)]
   rfl
  have hfk : key ++ List.replicate (64 - key.length) 0 = Sha.full key := rfl
  rw [hfk] at hal ⊢
  generalize Sha.full key = K at hfl hget hal ⊢
  generalize Sha.turn key t = T at htl hget ⊢
  refine gV ?_
  refine H.Ce (.here _ _ _) (by omega) fun kb hp => ?_
  subst hp
  refine H.Ax (ι := Nat) (fun i => [(7, .int .i64 (i : Int)), (5, .slice (some ⟨kb, 0, none⟩) K.length c'), (1, .int .u8 (t.toNat : Nat))]) (fun _ => f)
   (fun i => slc (some ⟨kb, 0, none⟩) K.length c' 5 1 ((bytesV T).take i ++ (bytesV K).drop i) :: F) (fun i => i ≤ 64) (fun i => 64 - i) 0 (Nat.zero_le _) ⟨rfl, rfl, rfl, trivial⟩ rfl rfl fun i hi => ?_
  have hi : i ≤ 64 := hi
  have hTK : (bytesV T).length = (bytesV K).length := by rw [zaf, zaf, hfl, htl]
  by_cases hli : i < 64
  ·have hset : SetV ((bytesV T).take i ++ (bytesV K).drop i) i (.int .u8 ((K.getD i 0 ^^^ t).toNat : Nat)) ((bytesV T).take (i + 1) ++ (bytesV K).drop (i + 1)) := by
    rw [← hget i hli]
    exact fill_set (zay (by omega)) hTK
   have hg : ((bytesV T).take i ++ (bytesV K).drop i)[i]? = some (.int .u8 ((K.getD i 0).toNat : Nat)) := fill_get2 (Nat.le_refl _) hTK (zay (by omega))
   show H _ _ _ _ _ (slc _ _ _ _ _ ((bytesV T).take i ++ (bytesV K).drop i) :: _) _
   refine gG ?_
   refine H.index1 (i := i) rfl rfl rfl rfl (by omega) rfl ?_
   refine H.Ag rfl rfl rfl (.of (Rd.ofSlc (.here _ _ _) (by omega)) hg) rfl ?_
   refine gU ?_
   refine H.Bj rfl rfl rfl (u8_xor _ _) rfl rfl ?_
   refine H.index1 (i := i) rfl rfl rfl rfl (by omega) rfl ?_
   refine H.store_slc (xs' := (bytesV T).take (i + 1) ++ (bytesV K).drop (i + 1)) rfl rfl rfl rfl (.here _ _ _) (by rw [Nat.zero_add]; exact hset) ?_
   refine gK ?_
   exact H.Au (i + 1) (by show i + 1 ≤ 64; omega) (by show 64 - (i + 1) < 64 - i; omega) ⟨rfl, rfl, rfl, trivial⟩ rfl rfl
  ·have hi64 : i = 64 := by omega
   subst hi64
   have hfull : (bytesV T).take 64 ++ (bytesV K).drop 64 = bytesV T := by
    rw [List.take_of_length_le (by rw [zaf, htl]; exact Nat.le_refl _), List.drop_eq_nil_of_le (by rw [zaf, hfl]; exact Nat.le_refl _), List.append_nil]
   rw [hfull]
   have hKT : K.length = T.length := by omega
   rw [hKT]
   refine gH ?_
   exact H.Ac rfl rfl (fun _ h => h) ⟨_, c', rfl, rfl, rfl⟩
theorem hmac_fn {p r : Option Addr} {c d : Nat} {key b : List UInt8} (hs : ∀ G, Src Tryz.prog f (G ++ F) (.slice p key.length c) 1 key.length (bytesV key)) (hs2 : ∀ G, Src Tryz.prog f (G ++ F) (.slice r b.length d) 1 b.length (bytesV b)) (hl : key.length ≤ 64) (hl2 : b.length ≤ 100000000) :
  Fn Tryz.prog 99 [.slice p key.length c, .slice r b.length d] f F (Ret (.agg (b32 (Sha.hmac key b)).toArray) f F) := by
 refine Fn.enter Tryz.func99 rfl Tryz.ntmps99 rfl (L := [(0, _), (1, _)]) ⟨rfl, rfl, trivial⟩ fun base => ?_
 refine gA ?_
 refine H.Av (ls := zb 32) rfl rfl rfl fun ob => ?_
 refine gU ?_
 refine H.Ar rfl rfl rfl (with_fn (t := 0x36) f _ (hs [_]) hl) fun p1 c1 => ?_
 have h1 := Sha.turn_len hl 0x36
 generalize hT : Sha.turn key 0x36 = T at h1
 refine gU ?_
 refine H.Bf (xs := bytesV T) rfl rfl rfl rfl rfl (fun p' c' => .here _ _ _) (hs2 [_, _]) (zah b) rfl (by omega) (by omega) fun p2 c2 => ?_
 have e1 : (T ++ b).length = T.length + b.length := List.length_append
 have e2 : bytesV (T ++ b) = bytesV T ++ bytesV b := zag _ _
 rw [← e1, ← e2]
 refine H.Ad rfl rfl rfl (rsum_fn f _ (b := T ++ b) (Src.slcS (.here _ _ _) (by rw [zaf]; exact (Nat.mul_one _).symm)) (by omega)) ?_
 refine H.Ab (.here _ _) ?_
 refine H.Av (ls := zb 32) rfl rfl rfl fun ib => ?_
 refine H.Ap (ls := zb 32) (vs := b32 (Sha.sum (T ++ b))) (ls' := b32 (Sha.sum (T ++ b))) rfl rfl rfl (zae rfl) rfl rfl (Nat.le_refl 32) (by repeat constructor) ?_
 generalize hin : Sha.sum (T ++ b) = inn
 refine gA ?_
 refine H.Ay (by kernel_rfl) (by decide +kernel) (by repeat (first | exact zab | refine zaa ?_ | refine zac ?_ | refine zad ?_)) (S := [_]) rfl ?_
 refine HB.Af [(0, false), (2, false)] 4 (by kernel_rfl) ?_
 refine gB ?_
 refine HQ.Cd (lo := none) (hi := none) (mx := none) (lv := 0) (hv := 32) (mv := 32) rfl rfl rfl rfl rfl (fun h => by cases h) (by decide) (by decide) (by decide) rfl ?_
 refine HQ.Ae rfl ?_
 refine HB.ev1 (i := 1) (by kernel_rfl) rfl ?_
 refine H.Ar rfl rfl rfl (with_fn (t := 0x5c) f _ (hs [_, _]) hl) fun p3 c3 => ?_
 have h2 := Sha.turn_len hl 0x5c
 generalize hT2 : Sha.turn key 0x5c = T2 at h2
 refine gA ?_
 refine H.Aa (x := row ib _ _) (by repeat constructor) ?_
 refine H.on0 rfl ?_
 refine HB.ev1 (i := 3) (by kernel_rfl) rfl ?_
 refine H.Bf (xs := bytesV T2) (m := 32) (news := bytesV (b32L inn)) rfl rfl rfl rfl rfl (fun p' c' => (by repeat constructor)) (Src.slice (Rd.ofRow (.here _ _ _)) rfl) (zah _) rfl (by omega) (by omega) fun p4 c4 => ?_
 refine gA ?_
 refine H.on0 rfl ?_
 refine HB.ev1 (i := 4) (by kernel_rfl) rfl ?_
 have e3 : (T2 ++ b32L inn).length = T2.length + 32 := by rw [List.length_append]; rfl
 have e4 : bytesV (T2 ++ b32L inn) = bytesV T2 ++ bytesV (b32L inn) := zag _ _
 have hfin : Sha.hmac key b = Sha.sum (T2 ++ b32L inn) := by unfold Sha.hmac; rw [hT, hT2, hin]
 rw [hfin]
 generalize T2 ++ b32L inn = l4 at e3 e4 ⊢
 rw [← e3, ← e4]
 refine H.Ad rfl rfl rfl (rsum_fn f _ (b := l4) (Src.slcS (by repeat constructor) (by rw [zaf]; exact (Nat.mul_one _).symm)) (by omega)) ?_
 refine gA ?_
 refine H.on0 rfl ?_
 refine HB.ev1 (i := 5) (by kernel_rfl) rfl ?_
 refine H.Ap (ls := zb 32) (vs := b32 (Sha.sum l4)) (ls' := b32 (Sha.sum l4)) rfl rfl rfl (zae rfl) rfl rfl (Nat.le_refl 32) (by repeat constructor) ?_
 refine gA ?_
 refine H.on0 rfl ?_
 refine HB.Aq (by kernel_rfl) ?_
 refine ga ?_
 refine H.Ab (.here _ _) ?_
 refine H.Ab (x := slc _ _ _ _ _ _) (by repeat constructor) ?_
 exact H.retD rfl rfl rfl (Rd.ofRow (by repeat constructor)) rfl (fun _ s => s.drop (.here _ _)) ⟨rfl, rfl, rfl⟩
end
def Msg.signed (m : Msg) : Msg := if m.may = true then { m with tag := Sha.numbered m.origin m.number m.tagged } else m
theorem Msg.tagged_len {m : Msg} (h : m.may = true) : m.tagged.length ≤ 3000 := by
 have h1 := Bod.may_spec (Msg.may_body h)
 have h2 := Bod.may_q (Msg.may_body h)
 have h3 := (putK_len m.body m.body.kind.toNat h1.2.2 h2).2
 unfold Msg.tagged Bod.put
 simp only [List.length_append, List.length_cons, List.length_nil, depsB_len]
 omega
section
variable (f : Frag) (F : List HP)
theorem rkey_fn {w : ByteArray} {i most : Int} (h1 : 1 ≤ i) (h2 : i ≤ most) (h3 : most ≤ 1000) (hw : w.size ≤ 1000) :
  Fn Tryz.prog 129 [.string w, .int .i64 i, .int .i64 most] f F (BytesR (Sha.word32 w.data.toList i) f F) := by
 have hwl := zap w
 refine Fn.enter Tryz.func129 rfl Tryz.ntmps129 rfl (L := [(0, _), (1, _), (2, _)]) ⟨rfl, rfl, rfl, trivial⟩ fun base => ?_
 refine gY ?_
 refine H.convSB rfl rfl rfl fun sb sc => ?_
 refine gK ?_
 have hs : Src Tryz.prog f (strRow sb w sc 5 :: F) (.slice (some ⟨sb, 0, none⟩) w.data.toList.length sc) 1 w.data.toList.length (bytesV w.data.toList) := by
  rw [hwl]; exact Src.strRow (.here _ _ _)
 have hfn := zau (n := i) f _ hs (by omega)
 rw [hwl] at hfn
 refine H.Ar rfl rfl rfl hfn fun p1 c1 => ?_
 have e1 : (w.data.toList ++ be 8 i).length ≤ 2000 := by rw [List.length_append, be_len, hwl]; omega
 unfold Sha.word32
 generalize w.data.toList ++ be 8 i = l1 at e1
 refine H.Ad rfl rfl rfl (rsum_fn f _ (b := l1) (Src.slcS (.here _ _ _) (by rw [zaf]; exact (Nat.mul_one _).symm)) (by omega)) ?_
 refine H.Ab (.here _ _) ?_
 refine H.Ab (.here _ _) ?_
 refine H.Av (ls := zb 32) rfl rfl rfl fun db => ?_
 refine H.Ap (ls := zb 32) (vs := b32 (Sha.sum l1)) (ls' := b32 (Sha.sum l1)) rfl rfl rfl (zae rfl) rfl rfl (Nat.le_refl 32) (by repeat constructor) ?_
 generalize Sha.sum l1 = d
 refine gA ?_
 refine H.Bd rfl rfl rfl rfl (by decide) (by decide) rfl rfl fun eb => ?_
 refine H.asSlc (k := 0) (sz := 1) rfl (by decide) ?_
 refine H.Cd (lo := none) (hi := none) (mx := none) (lv := 0) (hv := 32) (mv := 32) rfl rfl rfl rfl rfl (fun h => by cases h) (by decide) (by decide) (by decide) rfl ?_
 refine H.Bf (xs := []) (m := 32) (news := bytesV (b32L d)) rfl rfl rfl rfl rfl (fun p' c' => .here _ _ _) (Src.slice (Rd.ofRow (.there _ (.here _ _ _))) rfl) (zah _) rfl (by omega) (by omega) fun p4 c4 => ?_
 refine ga ?_
 refine H.Ab (x := row db _ _) (by repeat constructor) ?_
 exact H.Ac rfl rfl (fun _ h => h) ⟨p4, c4, rfl, rfl, rfl⟩
theorem rreplica_fn {i : Int} (h1 : 1 ≤ i) (h2 : i ≤ 11) : Fn Tryz.prog 100 [.int .i64 i] f F (BytesR (Sha.word32 Sha.replicaW i) f F) := by
 refine Fn.enter Tryz.func100 rfl Tryz.ntmps100 rfl (L := [(0, _)]) ⟨rfl, trivial⟩ fun base => ?_
 refine gU ?_
 refine H.Ar rfl rfl rfl (rkey_fn (w := ⟨#[114, 97, 116, 99, 104, 101, 116, 32, 114, 101, 112, 108, 105, 99, 97]⟩) f _ h1 h2 (by decide) (by decide)) fun p1 c1 => ?_
 refine ga ?_
 exact H.Ac rfl rfl (fun _ h => h) ⟨p1, c1, rfl, rfl, rfl⟩
theorem rnumbered_fn {i n : Int} {r : Option Addr} {d : Nat} {b : List UInt8} (h1 : 1 ≤ i) (h2 : i ≤ 11) (hs : ∀ G, Src Tryz.prog f (G ++ F) (.slice r b.length d) 1 b.length (bytesV b)) (hl : b.length ≤ 10000000) :
  Fn Tryz.prog 68 [.int .i64 i, .int .u64 n, .slice r b.length d] f F (Ret (.agg (b32 (Sha.numbered i n b)).toArray) f F) := by
 refine Fn.enter Tryz.func68 rfl Tryz.ntmps68 rfl (L := [(0, _), (1, _), (2, _)]) ⟨rfl, rfl, rfl, trivial⟩ fun base => ?_
 refine gA ?_
 refine H.Av (ls := zb 32) rfl rfl rfl fun ob => ?_
 refine gU ?_
 refine H.Ar rfl rfl rfl (rreplica_fn f _ h1 h2) fun p1 c1 => ?_
 refine gU ?_
 refine H.Ar rfl rfl rfl (zau (l := []) (n := n) f _ Src.nil (by decide)) fun p2 c2 => ?_
 rw [List.nil_append]
 have h8 := be_len 8 n
 refine gU ?_
 refine H.Bf (xs := bytesV (be 8 n)) rfl rfl rfl rfl rfl (fun p' c' => .here _ _ _) (hs [_, _, _]) (zah b) rfl (by omega) (by omega) fun p3 c3 => ?_
 have e1 : (be 8 n ++ b).length = (be 8 n).length + b.length := List.length_append
 have e2 : bytesV (be 8 n ++ b) = bytesV (be 8 n) ++ bytesV b := zag _ _
 unfold Sha.numbered
 have hk : (Sha.word32 Sha.replicaW i).length = 32 := rfl
 generalize Sha.word32 Sha.replicaW i = key at hk ⊢
 generalize be 8 n ++ b = l1 at e1 e2 ⊢
 rw [← e1, ← e2]
 refine H.Ad rfl rfl rfl (hmac_fn f _ (key := key) (b := l1) (fun G => Src.append (Src.slcS (.there _ (.here _ _ _)) (by rw [zaf]; exact (Nat.mul_one _).symm))) (fun G => Src.append (Src.slcS (.here _ _ _) (by rw [zaf]; exact (Nat.mul_one _).symm))) (by omega) (by omega)) ?_
 refine H.Ab (.here _ _) ?_
 refine H.Ab (.here _ _) ?_
 refine H.Ap (ls := zb 32) (vs := b32 (Sha.hmac key l1)) (ls' := b32 (Sha.hmac key l1)) rfl rfl rfl (zae rfl) rfl rfl (Nat.le_refl 32) (by repeat constructor) ?_
 refine ga ?_
 exact H.retD rfl rfl rfl (Rd.ofRow (by repeat constructor)) rfl (fun _ s => s.drop (.here _ _)) ⟨rfl, rfl, rfl⟩
theorem splice_tag (m : Msg) (q : Option Addr) (qc : Nat) (t : Nat → UInt8) : splice (m.vals q qc) (0 + 89) (b32 t) = ({ m with tag := t } : Msg).vals q qc := by
 unfold Msg.vals
 generalize hp : ([.int .i64 m.origin, .int .u64 m.number] ++ v11 m.deps ++ m.body.vals q qc : List Value) = p
 have hl : p.length = 89 := by rw [← hp]; rfl
 unfold splice
 rw [Nat.zero_add, ← hl, List.take_left, List.drop_eq_nil_of_le (by rw [List.length_append]; exact Nat.le_refl _), List.append_nil]
theorem rtagged_fn {m : Msg} {q : Option Addr} {qc : Nat} (hq : QAt f q m.body.q) (hl : m.body.q.length ≤ 1000000000) :
  Fn Tryz.prog 43 [.agg (m.vals q qc).toArray] f F (Ret (.agg (m.signed.vals q qc).toArray) f F) := by
 have hmay := fun G => rmay_fn (m := m) (qc := qc) f G hq hl
 have e0 : m.may = (decide m.outer && m.body.may) := rfl
 rw [← e0] at hmay
 unfold Msg.signed
 by_cases hm : m.may = true
 ·rw [if_pos hm]
  have hbl := Msg.tagged_len hm
  have hout : m.outer := by
   unfold Msg.may at hm
   simp only [Bool.and_eq_true, decide_eq_true_eq] at hm
   exact hm.1
  have hby : ∀ G, Fn Tryz.prog 69 [.agg (m.vals q qc).toArray] f G (BytesR m.tagged f G) := fun G => by
   have := rbytes_fn (m := m) (qc := qc) f G hq hl
   unfold Msg.bytes at this
   rwa [if_pos hm] at this
  rw [hm] at hmay
  refine Fn.enter Tryz.func43 rfl Tryz.ntmps43 rfl (L := [(0, _)]) ⟨rfl, trivial⟩ fun base => ?_
  refine gA ?_
  refine H.box (ls := m.vals q qc) rfl rfl rfl rfl fun mb => ?_
  refine H.Av (ls := (⟨0, 0, fun _ => 0, Bod.zero 0, noTag⟩ : Msg).vals none 0) rfl rfl rfl fun ob => ?_
  refine gA ?_
  refine H.Aj (ls := m.vals q qc) rfl rfl rfl (Rd.ofRow (by repeat constructor)) rfl rfl ?_
  refine H.Ad rfl rfl rfl (hmay _) ?_
  refine gD ?_
  refine H.Aa (x := row mb _ _) (by repeat constructor) ?_
  refine H.drawC [0, 1, 2, 3, 4, 5, 6] (by kernel_rfl) (by decide +kernel) (by repeat (first | exact zab | refine zaa ?_ | refine zac ?_ | refine zad ?_)) (S := [_]) rfl ?_
  refine HB.Af [(0, false), (1, false), (2, false), (3, false), (4, false)] 4 (by kernel_rfl) ?_
  refine gJ ?_
  refine HQ.Aj (ls := m.vals q qc) rfl rfl rfl (Rd.ofRow (by repeat constructor)) rfl rfl ?_
  refine HQ.Ae rfl ?_
  refine HB.ev1 (i := 5) (by kernel_rfl) rfl ?_
  refine H.Ar rfl rfl rfl (hby _) fun p1 c1 => ?_
  generalize m.tagged = tg at hbl ⊢
  refine gA ?_
  refine H.Aa (x := row mb _ _) (by repeat constructor) ?_
  refine H.on0 rfl ?_
  refine HB.ev1 (i := 6) (by kernel_rfl) rfl ?_
  refine H.Ad rfl rfl rfl (rnumbered_fn f _ hout.1 hout.2.1 (b := tg) (fun G => Src.append (Src.slcS (.there _ (.here _ _ _)) (by rw [zaf]; exact (Nat.mul_one _).symm))) (by omega)) ?_
  refine gA ?_
  refine H.on0 rfl ?_
  refine HB.next [] (by kernel_rfl) (S' := []) rfl ?_
  refine HB.Af [(7, false)] 1 (by kernel_rfl) ?_
  refine gJ ?_
  refine HQ.Ae rfl ?_
  refine HB.ev1 (i := 8) (by kernel_rfl) rfl ?_
  generalize Sha.numbered m.origin m.number tg = t
  refine H.Ap (ls := m.vals q qc) (vs := b32 t) (ls' := ({ m with tag := t } : Msg).vals q qc) rfl rfl rfl (zae rfl) rfl (splice_tag m q qc t) (show 89 + 32 ≤ 121 by decide) (by repeat constructor) ?_
  refine gA ?_
  refine H.on0 rfl ?_
  refine HB.Aq (by kernel_rfl) ?_
  refine gA ?_
  refine H.Aj (ls := ({ m with tag := t } : Msg).vals q qc) rfl rfl rfl (Rd.ofRow (by repeat constructor)) rfl rfl ?_
  refine H.Ap (ls := (⟨0, 0, fun _ => 0, Bod.zero 0, noTag⟩ : Msg).vals none 0) (vs := ({ m with tag := t } : Msg).vals q qc) (ls' := ({ m with tag := t } : Msg).vals q qc) rfl rfl rfl (zae rfl) rfl rfl (Nat.le_refl 121) (by repeat constructor) ?_
  refine ga ?_
  refine H.Ab (x := row mb _ _) (by repeat constructor) ?_
  refine H.Ab (x := slc _ _ _ _ _ _) (by repeat constructor) ?_
  exact H.retD rfl rfl rfl (Rd.ofRow (by repeat constructor)) rfl (fun _ s => s.drop (.here _ _)) ⟨rfl, rfl, rfl⟩
 ·rw [if_neg hm]
  rw [Bool.eq_false_iff.2 hm] at hmay
  refine Fn.enter Tryz.func43 rfl Tryz.ntmps43 rfl (L := [(0, _)]) ⟨rfl, trivial⟩ fun base => ?_
  refine gA ?_
  refine H.box (ls := m.vals q qc) rfl rfl rfl rfl fun mb => ?_
  refine H.Av (ls := (⟨0, 0, fun _ => 0, Bod.zero 0, noTag⟩ : Msg).vals none 0) rfl rfl rfl fun ob => ?_
  refine gA ?_
  refine H.Aj (ls := m.vals q qc) rfl rfl rfl (Rd.ofRow (by repeat constructor)) rfl rfl ?_
  refine H.Ad rfl rfl rfl (hmay _) ?_
  refine gR ?_
  refine H.Aj (ls := m.vals q qc) rfl rfl rfl (Rd.ofRow (by repeat constructor)) rfl rfl ?_
  refine H.Ap (ls := (⟨0, 0, fun _ => 0, Bod.zero 0, noTag⟩ : Msg).vals none 0) (vs := m.vals q qc) (ls' := m.vals q qc) rfl rfl rfl (zae rfl) rfl rfl (Nat.le_refl 121) (by repeat constructor) ?_
  refine ga ?_
  refine H.Ab (x := row mb _ _) (by repeat constructor) ?_
  exact H.retD rfl rfl rfl (Rd.ofRow (by repeat constructor)) rfl (fun _ s => s.drop (.here _ _)) ⟨rfl, rfl, rfl⟩
end
end Go.Proofs.YtdcjlgigcbinjaaGreatDoor
