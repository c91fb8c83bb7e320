/- Parts of the proof, one behind the other, each under its own heading. No conditions. -/
import Derived.Test.YtoigpgdmignaoaaGreatDoorZ07
import Derived.Test.YtoigpgdmignaoaaGreatDoorRows
import Derived.Test.YtoigpgdmignaoaaGreatDoorCards
import Derived.Test.YtoigpgdmignaoaaGreatDoorTie
set_option linter.unusedSectionVars false
set_option linter.unusedSimpArgs false
set_option linter.unusedVariables false
/- Layer 12: the document's worlds: few acts; what an act says. No condition. -/
namespace Go.Proofs.YtoigpgdmignaoaaGreatDoor
open Go
def bodS (v : Int) (p : Option Addr) (m c : Nat) : List Value := [.int .u8 4, .int .u64 v, .int .u64 0] ++ Req.zero.vals ++ [.slice p m c] ++ b32 noTag
theorem bodS_eq (v : Int) (q : List (Int × Int)) (p : Option Addr) (c : Nat) : ({ Bod.zero 4 with view := v, q := q } : Bod).vals p c = bodS v p q.length c := rfl
theorem bodS_set (v : Int) (p p' : Option Addr) (m m' c c' : Nat) : SetV (bodS v p m c) 43 (.slice p' m' c') (bodS v p' m' c') := by
  have e : bodS v p' m' c' = (bodS v p m c).set 43 (.slice p' m' c') := rfl
  rw [e]
  exact SetV.mk _ (show 43 < 76 by decide)
def bodV (k : UInt8) (v : Int) : Bod := ⟨k, v, 0, Req.zero, [], noTag⟩
theorem tmod_nat {a b r : Nat} (h : a % b = r) : ((a : Nat) : Int).tmod ((b : Nat) : Int) = (r : Nat) := by rw [← h, Int.ofNat_tmod]
def BodP (f : Frag) (F : List HP) (b : Bod) : Value → Frag → List HP → Prop := fun v f' A' =>
  ∃ (g : Frag) (p : Option Addr) (c : Nat), v = .agg (b.vals p c).toArray ∧ QAt (un f g) p b.q ∧ Dj f g ∧ f' = un f g ∧ A' = F
theorem top_more {n r : Nat} {x : A12} (h1 : 1 ≤ r) (h : r < x.top n) : r + 1 ≤ n ∧ r + 1 ≤ x.q.length := by
  unfold A12.top at h
  split at h
  · omega
  · split at h <;> omega
theorem top_end {n r : Nat} {x : A12} (hn : 1 ≤ n) (h : r = x.top n) : ¬ (r + 1 ≤ n ∧ r + 1 ≤ x.q.length) := by
  unfold A12.top at h
  split at h
  · omega
  · split at h <;> omega
theorem qTo_next (x : A12) {r : Nat} (h1 : 1 ≤ r) : x.qTo (r + 1) = x.qTo r ++ [(((r + 1 : Nat) : Int), 1 + (((x.q.getD r 0).toNat % 8 : Nat) : Int))] := by
  obtain ⟨k, rfl⟩ : ∃ k, r = k + 1 := ⟨r - 1, by omega⟩
  rfl
section
variable (f : Frag) (F : List HP)
theorem few12_fn {p : Option Addr} {c : Nat} {l : List A12} (hat : ListAt f p 8 A12.vals l) (hl : l.length ≤ 9223372036854775807) : Fn Tryz.prog 15 [.slice p l.length c] f F (Ret (.bool (few12 l)) f F) := by
  by_cases h30 : l.length ≤ 100
  · refine Fn.enter Tryz.func15 rfl Tryz.ntmps15 rfl (L := [(0, _)]) ⟨rfl, trivial⟩ fun base => ?_
    repeat (first | ((first | apply H.move | apply H.assign | apply H.len_slice); (iterate 3 exact rfl)) | (first | apply H.seq | apply H.region | apply H.nil | apply H.then_normal) | ((apply H.cmp); (iterate 5 exact rfl)) | (first | apply H.skip | apply H.block) | (apply H.cond_no; exact rfl; (omega)))
    refine H.loop (ι := Nat) (fun i => [(3, .int .i64 (i : Int)), (0, .slice p l.length c)]) (fun _ => f) (fun _ => F) (fun i => i ≤ l.length ∧ ∀ j x, j < i → l[j]? = some x → x.q.length ≤ 20) (fun i => l.length - i) 0 ⟨Nat.zero_le _, fun j x hj => by omega⟩ ⟨rfl, rfl, trivial⟩ rfl rfl fun i hi => ?_
    obtain ⟨hi, hb⟩ : i ≤ l.length ∧ ∀ j x, j < i → l[j]? = some x → x.q.length ≤ 20 := hi
    by_cases hlt : i < l.length
    · have hx : l[i]? = some l[i] := List.getElem?_eq_getElem hlt
      generalize l[i] = x at hx
      obtain ⟨b, off, cs, T, fr, rfl, hfb, hcs⟩ := hat i x hx
      have rd : ∀ A, Rd f A b (off + i * 8) x.vals := fun A => Rd.imm hfb hcs
      by_cases hq : x.q.length ≤ 20
      · repeat (first | ((first | apply H.move | apply H.len_slice); (iterate 3 exact rfl)) | (first | apply H.seq | apply H.region | apply H.nil | apply H.then_normal) | ((apply H.cmp); (iterate 5 exact rfl)) | (first | apply H.skip | apply H.block) | (apply H.cond_yes; exact rfl; (omega)))
        refine H.index_slice rfl rfl rfl rfl hlt rfl ?_
        repeat ((apply H.fieldAddr; (iterate 3 exact rfl); exact inferInstance; exact rfl))
        refine H.load1 rfl rfl rfl (Rd1.of (i := 7) (rd _) rfl) rfl ?_
        repeat (first | ((first | apply H.move | apply H.assign | apply H.len_slice); (iterate 3 exact rfl)) | (first | apply H.region | apply H.nil | apply H.then_normal) | ((apply H.cmp); (iterate 5 exact rfl)) | ((apply H.ar; (iterate 4 exact rfl)); (with_reducible apply wr_i64_n1; omega); exact rfl) | (first | apply H.skip | apply H.in_normal) | (apply H.cond_no; exact rfl; (omega)))
        refine H.again (i + 1) ⟨by show i + 1 ≤ l.length; omega, fun j y hj hy => ?_⟩ (by show l.length - (i + 1) < l.length - i; omega) ⟨rfl, rfl, trivial⟩ rfl rfl
        by_cases e : j = i
        · subst e; rw [hx] at hy; cases hy; exact hq
        · exact hb j y (by omega) hy
      · repeat (first | ((first | apply H.move | apply H.len_slice); (iterate 3 exact rfl)) | (first | apply H.seq | apply H.region | apply H.nil | apply H.then_normal) | ((apply H.cmp); (iterate 5 exact rfl)) | (first | apply H.skip | apply H.block) | (apply H.cond_yes; exact rfl; (omega)))
        refine H.index_slice rfl rfl rfl rfl hlt rfl ?_
        repeat ((apply H.fieldAddr; (iterate 3 exact rfl); exact inferInstance; exact rfl))
        refine H.load1 rfl rfl rfl (Rd1.of (i := 7) (rd _) rfl) rfl ?_
        repeat (first | ((first | apply H.assign | apply H.len_slice); (iterate 3 exact rfl)) | (first | apply H.seq | apply H.region | apply H.nil | apply H.then_normal) | ((apply H.cmp); (iterate 5 exact rfl)) | (first | apply H.ret | apply H.then_ret | apply H.in_ret | apply H.loop_ret) | (apply H.cond_yes; exact rfl; (omega)))
        refine H.ret1 rfl rfl (fun _ h => h) ⟨?_, rfl, rfl⟩
        have : few12 l = false := by
          unfold few12
          rw [Bool.and_eq_false_iff]
          refine .inr (List.all_eq_false.2 ⟨x, List.mem_of_getElem? hx, by rw [decide_eq_false hq]; decide⟩)
        rw [this]
    · repeat (first | ((first | apply H.move | apply H.assign | apply H.len_slice); (iterate 3 exact rfl)) | (first | apply H.seq | apply H.region | apply H.nil | apply H.then_normal) | ((apply H.cmp); (iterate 5 exact rfl)) | (first | apply H.ret | apply H.then_exit | apply H.exit | apply H.in_hit | apply H.loop_exit) | (apply H.cond_no; exact rfl; (omega)))
      refine H.ret1 rfl rfl (fun _ h => h) ⟨?_, rfl, rfl⟩
      have : few12 l = true := by
        unfold few12
        rw [decide_eq_true h30, Bool.true_and, List.all_eq_true]
        intro x hx
        obtain ⟨j, hj⟩ := List.getElem?_of_mem hx
        have hjl : j < l.length := by
          rcases Nat.lt_or_ge j l.length with h1 | h1
          · exact h1
          · rw [List.getElem?_eq_none h1] at hj; cases hj
        exact decide_eq_true (hb j x (by omega) hj)
      rw [this]
  · refine Fn.enter Tryz.func15 rfl Tryz.ntmps15 rfl (L := [(0, _)]) ⟨rfl, trivial⟩ fun base => ?_
    repeat (first | ((first | apply H.move | apply H.assign | apply H.len_slice); (iterate 3 exact rfl)) | (first | apply H.seq | apply H.region | apply H.nil | apply H.then_normal) | ((apply H.cmp); (iterate 5 exact rfl)) | (first | apply H.ret | apply H.then_ret) | (apply H.cond_yes; exact rfl; (omega)))
    refine H.ret1 rfl rfl (fun _ h => h) ⟨?_, rfl, rfl⟩
    have : few12 l = false := by unfold few12; rw [decide_eq_false h30]; rfl
    rw [this]
set_option maxHeartbeats 1600000 in
theorem abody_fn {n : Nat} (hn : 1 ≤ n ∧ n ≤ 11) {x : A12} (hx : x.Has f) (hl : x.q.length ≤ 20) :
    Fn Tryz.prog 53 [.agg x.vals.toArray, .int .i64 (n : Int)] f F (BodP f F (x.bod n)) := by
  have hk := x.k.toNat_lt
  have hvm : ((x.view.toNat % 6 : Nat) : Int) ≤ 5 := by omega
  have hkm : ((x.k.toNat % 6 : Nat) : Int) ≤ 5 := by omega
  have hcm : ((x.client.toNat % 3 : Nat) : Int) ≤ 2 := by omega
  have hcases : x.kind.toNat % 6 = 0 ∨ x.kind.toNat % 6 = 1 ∨ x.kind.toNat % 6 = 2 ∨ x.kind.toNat % 6 = 3 ∨ x.kind.toNat % 6 = 4 ∨ x.kind.toNat % 6 = 5 := by omega
  unfold A12.bod
  rcases hcases with h | h | h | h | h | h
  · have hk6 : ((x.kind.toNat : Nat) : Int).tmod 6 = 0 := tmod_nat (b := 6) h
    rw [h]
    show Fn _ _ _ f F (BodP f F (⟨1, 1 + ((x.view.toNat % 6 : Nat) : Int), 0, x.req.signed, [], noTag⟩ : Bod))
    refine Fn.enter Tryz.func53 rfl Tryz.ntmps53 rfl (L := [(0, _), (1, _)]) ⟨rfl, rfl, trivial⟩ fun base => ?_
    repeat ((first | apply H.seq | apply H.region))
    refine H.box (ls := x.vals) rfl rfl rfl rfl fun xb => ?_
    refine H.alloc (ls := (Bod.zero 0).vals none 0) rfl rfl rfl fun ob => ?_
    repeat (first | (apply H.fieldAddr; (iterate 3 exact rfl); exact inferInstance; exact rfl) | (apply H.load1; (iterate 3 exact rfl); apply Rd1.ofRow; (repeat (first | exact .here _ _ _ | apply At.there)); (iterate 2 exact rfl)) | (first | apply H.seq | apply H.region | apply H.nil | apply H.then_normal))
    refine H.rem rfl rfl rfl (by decide) hk6 rfl ?_
    repeat (first | (apply H.fieldAddr; (iterate 3 exact rfl); exact inferInstance; exact rfl) | (apply H.load1; (iterate 3 exact rfl); apply Rd1.ofRow; (repeat (first | exact .here _ _ _ | apply At.there)); (iterate 2 exact rfl)) | ((apply H.ar; (iterate 4 exact rfl)); (with_reducible apply wr_u8; omega); exact rfl))
    refine H.rem (z := ((x.view.toNat % 6 : Nat) : Int)) rfl rfl rfl (by decide) (by rw [Int.ofNat_tmod]; rfl) rfl ?_
    repeat (first | (refine H.build (t := 45) (out := (bodV 1 (1 + ((x.view.toNat % 6 : Nat) : Int))).vals none 0) rfl rfl rfl (by kernel_rfl) rfl ?_) | ((first | (apply H.ar; (iterate 4 exact rfl)) | (apply H.conv_int; (iterate 2 exact rfl))); (with_reducible apply wr_u64; omega); exact rfl))
    refine H.alloc (ls := (Bod.zero 0).vals none 0) rfl rfl rfl fun bb => ?_
    refine H.storeN (ls := (Bod.zero 0).vals none 0) (vs := (bodV 1 (1 + ((x.view.toNat % 6 : Nat) : Int))).vals none 0) (ls' := (bodV 1 (1 + ((x.view.toNat % 6 : Nat) : Int))).vals none 0) rfl rfl rfl (allOne_mem rfl) rfl rfl (Nat.le_refl 76) (.here _ _ _) ?_
    have hsg := fun G => rsigned_fn f G x.req
    generalize x.req.signed = r at hsg ⊢
    repeat (first | ((apply H.assign); (iterate 3 exact rfl)) | (apply H.fieldAddr; (iterate 3 exact rfl); exact inferInstance; exact rfl) | (apply H.load1; (iterate 3 exact rfl); apply Rd1.ofRow; (repeat (first | exact .here _ _ _ | apply At.there)); (iterate 2 exact rfl)) | (first | apply H.seq | apply H.region | apply H.nil | apply H.then_normal) | ((apply H.cmp); (iterate 5 exact rfl)) | (apply H.cond_true; exact rfl) | (apply H.block))
    refine H.rem (z := ((x.client.toNat % 3 : Nat) : Int)) rfl rfl rfl (by decide) (tmod_nat (b := 3) rfl) rfl ?_
    repeat (first | (refine H.build (t := 42) (out := x.req.vals) rfl rfl rfl (by kernel_rfl) rfl ?_) | (apply H.fieldAddr; (iterate 3 exact rfl); exact inferInstance; exact rfl) | (apply H.load1; (iterate 3 exact rfl); apply Rd1.ofRow; (repeat (first | exact .here _ _ _ | apply At.there)); (iterate 2 exact rfl)) | ((first | apply H.cmp | apply H.build); (iterate 5 exact rfl)) | ((first | (apply H.ar; (iterate 4 exact rfl)) | (apply H.conv_int; (iterate 2 exact rfl))); (first | (with_reducible apply wr_i64; omega) | (with_reducible apply wr_u64; omega)); exact rfl))
    refine H.callR rfl rfl rfl (hsg _) ?_
    repeat ((apply H.fieldAddr; (iterate 3 exact rfl); exact inferInstance; exact rfl))
    refine H.storeN (ls := (bodV 1 (1 + ((x.view.toNat % 6 : Nat) : Int))).vals none 0) (vs := r.vals) (ls' := (⟨1, 1 + ((x.view.toNat % 6 : Nat) : Int), 0, r, [], noTag⟩ : Bod).vals none 0) rfl rfl rfl (allOne_mem rfl) rfl rfl (show 3 + 40 ≤ 76 by decide) (.here _ _ _) ?_
    repeat (first | (first | apply H.seq | apply H.region | apply H.nil | apply H.then_normal) | (apply H.in_normal))
    refine H.loadN (ls := (⟨1, 1 + ((x.view.toNat % 6 : Nat) : Int), 0, r, [], noTag⟩ : Bod).vals none 0) rfl rfl rfl (Rd.ofRow (by repeat (first | exact .here _ _ _ | apply At.there))) rfl rfl ?_
    refine H.storeN (ls := (Bod.zero 0).vals none 0) (vs := (⟨1, 1 + ((x.view.toNat % 6 : Nat) : Int), 0, r, [], noTag⟩ : Bod).vals none 0) (ls' := (⟨1, 1 + ((x.view.toNat % 6 : Nat) : Int), 0, r, [], noTag⟩ : Bod).vals none 0) rfl rfl rfl (allOne_mem rfl) rfl rfl (Nat.le_refl 76) (by repeat (first | exact .here _ _ _ | apply At.there)) ?_
    repeat (first | (first | apply H.nil | apply H.then_normal) | (apply H.ret))
    refine H.drop (x := row bb _ _) (by repeat (first | exact .here _ _ | apply Pull.there)) ?_
    refine H.drop (x := row xb _ _) (by repeat (first | exact .here _ _ | apply Pull.there)) ?_
    refine H.front (x := row ob _ _) (by repeat (first | exact .here _ _ | apply Pull.there)) ?_
    exact H.retD (ls := (⟨1, 1 + ((x.view.toNat % 6 : Nat) : Int), 0, r, [], noTag⟩ : Bod).vals none 0) rfl rfl rfl (Rd.ofRow (.here _ _ _)) rfl (fun _ s => s.drop (.here _ _)) ⟨nil0, none, 0, rfl, QAt.nil _ _, Dj.nil _, (un_nil _).symm, rfl⟩
  · have hk6 : ((x.kind.toNat : Nat) : Int).tmod 6 = 1 := tmod_nat (b := 6) h
    rw [h]
    show Fn _ _ _ f F (BodP f F (⟨2, 1 + ((x.view.toNat % 6 : Nat) : Int), 1 + ((x.k.toNat % 6 : Nat) : Int), Req.zero, [], noTag⟩ : Bod))
    refine Fn.enter Tryz.func53 rfl Tryz.ntmps53 rfl (L := [(0, _), (1, _)]) ⟨rfl, rfl, trivial⟩ fun base => ?_
    repeat ((first | apply H.seq | apply H.region))
    refine H.box (ls := x.vals) rfl rfl rfl rfl fun xb => ?_
    refine H.alloc (ls := (Bod.zero 0).vals none 0) rfl rfl rfl fun ob => ?_
    repeat (first | (apply H.fieldAddr; (iterate 3 exact rfl); exact inferInstance; exact rfl) | (apply H.load1; (iterate 3 exact rfl); apply Rd1.ofRow; (repeat (first | exact .here _ _ _ | apply At.there)); (iterate 2 exact rfl)) | (first | apply H.seq | apply H.region | apply H.nil | apply H.then_normal))
    refine H.rem rfl rfl rfl (by decide) hk6 rfl ?_
    repeat (first | (apply H.fieldAddr; (iterate 3 exact rfl); exact inferInstance; exact rfl) | (apply H.load1; (iterate 3 exact rfl); apply Rd1.ofRow; (repeat (first | exact .here _ _ _ | apply At.there)); (iterate 2 exact rfl)) | ((apply H.ar; (iterate 4 exact rfl)); (with_reducible apply wr_u8; omega); exact rfl))
    refine H.rem (z := ((x.view.toNat % 6 : Nat) : Int)) rfl rfl rfl (by decide) (by rw [Int.ofNat_tmod]; rfl) rfl ?_
    repeat (first | (refine H.build (t := 45) (out := (bodV 2 (1 + ((x.view.toNat % 6 : Nat) : Int))).vals none 0) rfl rfl rfl (by kernel_rfl) rfl ?_) | ((first | (apply H.ar; (iterate 4 exact rfl)) | (apply H.conv_int; (iterate 2 exact rfl))); (with_reducible apply wr_u64; omega); exact rfl))
    refine H.alloc (ls := (Bod.zero 0).vals none 0) rfl rfl rfl fun bb => ?_
    refine H.storeN (ls := (Bod.zero 0).vals none 0) (vs := (bodV 2 (1 + ((x.view.toNat % 6 : Nat) : Int))).vals none 0) (ls' := (bodV 2 (1 + ((x.view.toNat % 6 : Nat) : Int))).vals none 0) rfl rfl rfl (allOne_mem rfl) rfl rfl (Nat.le_refl 76) (.here _ _ _) ?_
    repeat (first | ((apply H.assign); (iterate 3 exact rfl)) | (apply H.fieldAddr; (iterate 3 exact rfl); exact inferInstance; exact rfl) | (apply H.load1; (iterate 3 exact rfl); apply Rd1.ofRow; (repeat (first | exact .here _ _ _ | apply At.there)); (iterate 2 exact rfl)) | (first | apply H.seq | apply H.region | apply H.nil | apply H.then_normal) | ((apply H.cmp); (iterate 5 exact rfl)) | (apply H.cond_true; exact rfl) | (apply H.cond_false; exact rfl) | (apply H.block))
    refine H.rem (z := ((x.k.toNat % 6 : Nat) : Int)) rfl rfl rfl (by decide) (tmod_nat (b := 6) rfl) rfl ?_
    repeat (first | (apply H.fieldAddr; (iterate 3 exact rfl); exact inferInstance; exact rfl) | (first | apply H.seq | apply H.region | apply H.nil | apply H.then_normal) | ((first | (apply H.ar; (iterate 4 exact rfl)) | (apply H.conv_int; (iterate 2 exact rfl))); (with_reducible apply wr_u64; omega); exact rfl) | (apply H.store1; (iterate 4 exact rfl); (repeat (exact .here _ _ _)); (repeat (first | exact .here _ _ _ | apply SetV.there))) | (apply H.in_normal))
    refine H.loadN (ls := (⟨2, 1 + ((x.view.toNat % 6 : Nat) : Int), 1 + ((x.k.toNat % 6 : Nat) : Int), Req.zero, [], noTag⟩ : Bod).vals none 0) rfl rfl rfl (Rd.ofRow (by repeat (first | exact .here _ _ _ | apply At.there))) rfl rfl ?_
    refine H.storeN (ls := (Bod.zero 0).vals none 0) (vs := (⟨2, 1 + ((x.view.toNat % 6 : Nat) : Int), 1 + ((x.k.toNat % 6 : Nat) : Int), Req.zero, [], noTag⟩ : Bod).vals none 0) (ls' := (⟨2, 1 + ((x.view.toNat % 6 : Nat) : Int), 1 + ((x.k.toNat % 6 : Nat) : Int), Req.zero, [], noTag⟩ : Bod).vals none 0) rfl rfl rfl (allOne_mem rfl) rfl rfl (Nat.le_refl 76) (by repeat (first | exact .here _ _ _ | apply At.there)) ?_
    repeat (first | (first | apply H.nil | apply H.then_normal) | (apply H.ret))
    refine H.drop (x := row bb _ _) (by repeat (first | exact .here _ _ | apply Pull.there)) ?_
    refine H.drop (x := row xb _ _) (by repeat (first | exact .here _ _ | apply Pull.there)) ?_
    refine H.front (x := row ob _ _) (by repeat (first | exact .here _ _ | apply Pull.there)) ?_
    exact H.retD (ls := (⟨2, 1 + ((x.view.toNat % 6 : Nat) : Int), 1 + ((x.k.toNat % 6 : Nat) : Int), Req.zero, [], noTag⟩ : Bod).vals none 0) rfl rfl rfl (Rd.ofRow (.here _ _ _)) rfl (fun _ s => s.drop (.here _ _)) ⟨nil0, none, 0, rfl, QAt.nil _ _, Dj.nil _, (un_nil _).symm, rfl⟩
  · have hk6 : ((x.kind.toNat : Nat) : Int).tmod 6 = 2 := tmod_nat (b := 6) h
    rw [h]
    show Fn _ _ _ f F (BodP f F (bodV 3 (1 + ((x.view.toNat % 6 : Nat) : Int))))
    refine Fn.enter Tryz.func53 rfl Tryz.ntmps53 rfl (L := [(0, _), (1, _)]) ⟨rfl, rfl, trivial⟩ fun base => ?_
    repeat ((first | apply H.seq | apply H.region))
    refine H.box (ls := x.vals) rfl rfl rfl rfl fun xb => ?_
    refine H.alloc (ls := (Bod.zero 0).vals none 0) rfl rfl rfl fun ob => ?_
    repeat (first | (apply H.fieldAddr; (iterate 3 exact rfl); exact inferInstance; exact rfl) | (apply H.load1; (iterate 3 exact rfl); apply Rd1.ofRow; (repeat (first | exact .here _ _ _ | apply At.there)); (iterate 2 exact rfl)) | (first | apply H.seq | apply H.region | apply H.nil | apply H.then_normal))
    refine H.rem rfl rfl rfl (by decide) hk6 rfl ?_
    repeat (first | (apply H.fieldAddr; (iterate 3 exact rfl); exact inferInstance; exact rfl) | (apply H.load1; (iterate 3 exact rfl); apply Rd1.ofRow; (repeat (first | exact .here _ _ _ | apply At.there)); (iterate 2 exact rfl)) | ((apply H.ar; (iterate 4 exact rfl)); (with_reducible apply wr_u8; omega); exact rfl))
    refine H.rem (z := ((x.view.toNat % 6 : Nat) : Int)) rfl rfl rfl (by decide) (by rw [Int.ofNat_tmod]; rfl) rfl ?_
    repeat (first | (refine H.build (t := 45) (out := (bodV 3 (1 + ((x.view.toNat % 6 : Nat) : Int))).vals none 0) rfl rfl rfl (by kernel_rfl) rfl ?_) | ((first | (apply H.ar; (iterate 4 exact rfl)) | (apply H.conv_int; (iterate 2 exact rfl))); (with_reducible apply wr_u64; omega); exact rfl))
    refine H.alloc (ls := (Bod.zero 0).vals none 0) rfl rfl rfl fun bb => ?_
    refine H.storeN (ls := (Bod.zero 0).vals none 0) (vs := (bodV 3 (1 + ((x.view.toNat % 6 : Nat) : Int))).vals none 0) (ls' := (bodV 3 (1 + ((x.view.toNat % 6 : Nat) : Int))).vals none 0) rfl rfl rfl (allOne_mem rfl) rfl rfl (Nat.le_refl 76) (.here _ _ _) ?_
    repeat (first | ((apply H.assign); (iterate 3 exact rfl)) | (apply H.fieldAddr; (iterate 3 exact rfl); exact inferInstance; exact rfl) | (apply H.load1; (iterate 3 exact rfl); apply Rd1.ofRow; (repeat (exact .here _ _ _)); (iterate 2 exact rfl)) | (first | apply H.seq | apply H.region | apply H.nil | apply H.then_normal) | ((apply H.cmp); (iterate 5 exact rfl)) | (apply H.cond_false; exact rfl) | (first | apply H.skip | apply H.block | apply H.in_normal))
    refine H.loadN (ls := (bodV 3 (1 + ((x.view.toNat % 6 : Nat) : Int))).vals none 0) rfl rfl rfl (Rd.ofRow (by repeat (first | exact .here _ _ _ | apply At.there))) rfl rfl ?_
    refine H.storeN (ls := (Bod.zero 0).vals none 0) (vs := (bodV 3 (1 + ((x.view.toNat % 6 : Nat) : Int))).vals none 0) (ls' := (bodV 3 (1 + ((x.view.toNat % 6 : Nat) : Int))).vals none 0) rfl rfl rfl (allOne_mem rfl) rfl rfl (Nat.le_refl 76) (by repeat (first | exact .here _ _ _ | apply At.there)) ?_
    repeat (first | (first | apply H.nil | apply H.then_normal) | (apply H.ret))
    refine H.drop (x := row bb _ _) (by repeat (first | exact .here _ _ | apply Pull.there)) ?_
    refine H.drop (x := row xb _ _) (by repeat (first | exact .here _ _ | apply Pull.there)) ?_
    refine H.front (x := row ob _ _) (by repeat (first | exact .here _ _ | apply Pull.there)) ?_
    exact H.retD (ls := (bodV 3 (1 + ((x.view.toNat % 6 : Nat) : Int))).vals none 0) rfl rfl rfl (Rd.ofRow (.here _ _ _)) rfl (fun _ s => s.drop (.here _ _)) ⟨nil0, none, 0, rfl, QAt.nil _ _, Dj.nil _, (un_nil _).symm, rfl⟩
  · have hk6 : ((x.kind.toNat : Nat) : Int).tmod 6 = 3 := tmod_nat (b := 6) h
    rw [h]
    show Fn _ _ _ f F (BodP f F (⟨4, 1 + ((x.view.toNat % 6 : Nat) : Int), 0, Req.zero, x.qTo (x.top n), noTag⟩ : Bod))
    refine Fn.enter Tryz.func53 rfl Tryz.ntmps53 rfl (L := [(0, _), (1, _)]) ⟨rfl, rfl, trivial⟩ fun base => ?_
    repeat ((first | apply H.seq | apply H.region))
    refine H.box (ls := x.vals) rfl rfl rfl rfl fun xb => ?_
    refine H.alloc (ls := (Bod.zero 0).vals none 0) rfl rfl rfl fun ob => ?_
    repeat (first | (apply H.fieldAddr; (iterate 3 exact rfl); exact inferInstance; exact rfl) | (apply H.load1; (iterate 3 exact rfl); apply Rd1.ofRow; (repeat (first | exact .here _ _ _ | apply At.there)); (iterate 2 exact rfl)) | (first | apply H.seq | apply H.region | apply H.nil | apply H.then_normal))
    refine H.rem rfl rfl rfl (by decide) hk6 rfl ?_
    repeat (first | (apply H.fieldAddr; (iterate 3 exact rfl); exact inferInstance; exact rfl) | (apply H.load1; (iterate 3 exact rfl); apply Rd1.ofRow; (repeat (first | exact .here _ _ _ | apply At.there)); (iterate 2 exact rfl)) | ((apply H.ar; (iterate 4 exact rfl)); (with_reducible apply wr_u8; omega); exact rfl))
    refine H.rem (z := ((x.view.toNat % 6 : Nat) : Int)) rfl rfl rfl (by decide) (by rw [Int.ofNat_tmod]; rfl) rfl ?_
    repeat (first | (refine H.build (t := 45) (out := (bodV 4 (1 + ((x.view.toNat % 6 : Nat) : Int))).vals none 0) rfl rfl rfl (by kernel_rfl) rfl ?_) | ((first | (apply H.ar; (iterate 4 exact rfl)) | (apply H.conv_int; (iterate 2 exact rfl))); (with_reducible apply wr_u64; omega); exact rfl))
    refine H.alloc (ls := (Bod.zero 0).vals none 0) rfl rfl rfl fun bb => ?_
    refine H.storeN (ls := (Bod.zero 0).vals none 0) (vs := (bodV 4 (1 + ((x.view.toNat % 6 : Nat) : Int))).vals none 0) (ls' := (bodV 4 (1 + ((x.view.toNat % 6 : Nat) : Int))).vals none 0) rfl rfl rfl (allOne_mem rfl) rfl rfl (Nat.le_refl 76) (.here _ _ _) ?_
    repeat (first | ((apply H.assign); (iterate 3 exact rfl)) | (apply H.fieldAddr; (iterate 3 exact rfl); exact inferInstance; exact rfl) | (apply H.load1; (iterate 3 exact rfl); apply Rd1.ofRow; (repeat (first | exact .here _ _ _ | apply At.there)); (iterate 2 exact rfl)) | (first | apply H.seq | apply H.region | apply H.nil | apply H.then_normal) | ((apply H.cmp); (iterate 5 exact rfl)) | (apply H.cond_true; exact rfl) | (apply H.cond_false; exact rfl) | (apply H.block))
    refine H.rem (z := ((x.k.toNat % 6 : Nat) : Int)) rfl rfl rfl (by decide) (tmod_nat (b := 6) rfl) rfl ?_
    repeat (first | (refine H.build (t := 61) (out := pairV (1, 1 + ((x.k.toNat % 6 : Nat) : Int))) rfl rfl rfl (by kernel_rfl) rfl ?_) | ((first | (apply H.ar; (iterate 4 exact rfl)) | (apply H.conv_int; (iterate 2 exact rfl))); (with_reducible apply wr_u64; omega); exact rfl))
    refine H.buildSlice (out := pairV (1, 1 + ((x.k.toNat % 6 : Nat) : Int))) rfl rfl rfl rfl (by decide) (by decide) rfl rfl fun eb => ?_
    refine H.asSlc (k := 1) (sz := 2) rfl (by decide) ?_
    repeat (first | (refine H.store1 (ls := bodS (1 + ((x.view.toNat % 6 : Nat) : Int)) none 0 0) (ls' := bodS (1 + ((x.view.toNat % 6 : Nat) : Int)) (some ⟨eb, 0, none⟩) 1 1) rfl rfl rfl rfl (.there _ (.here _ _ _)) (bodS_set _ _ _ _ _ _ _) ?_) | ((apply H.assign); (iterate 3 exact rfl)) | (apply H.fieldAddr; (iterate 3 exact rfl); exact inferInstance; exact rfl) | (first | apply H.seq | apply H.region | apply H.nil | apply H.then_normal) | (apply H.block))
    have htl := x.top_le (n := n) hn.1
    refine H.loop (ι := Nat × Option Addr × Nat) (fun s => [(6, .int .i64 ((s.1 + 1 : Nat) : Int)), (1, .int .i64 (n : Int)), (2, .pointer (some ⟨xb, 0, none⟩)), (5, .pointer (some ⟨bb, 0, none⟩)), (4, .pointer (some ⟨ob, 0, none⟩))]) (fun _ => f)
      (fun s => slc s.2.1 s.1 s.2.2 61 2 ((x.qTo s.1).flatMap pairV) :: row bb 45 (bodS (1 + ((x.view.toNat % 6 : Nat) : Int)) s.2.1 s.1 s.2.2) :: row ob 45 ((Bod.zero 0).vals none 0) :: row xb 113 x.vals :: F)
      (fun s => 1 ≤ s.1 ∧ s.1 ≤ x.top n) (fun s => x.top n - s.1) (1, some ⟨eb, 0, none⟩, 1) ⟨Nat.le_refl 1, htl.1⟩ ⟨rfl, rfl, rfl, rfl, rfl, trivial⟩ rfl rfl fun s hs => ?_
    obtain ⟨r, p, c⟩ := s
    obtain ⟨hr1, hrt⟩ : 1 ≤ r ∧ r ≤ x.top n := hs
    show H _ _ _ [(6, .int .i64 ((r + 1 : Nat) : Int)), _, _, _, _] f (slc p r c _ 2 ((x.qTo r).flatMap pairV) :: row bb _ (bodS (1 + ((x.view.toNat % 6 : Nat) : Int)) p r c) :: _ :: _ :: F) _
    by_cases hlt : r < x.top n
    · obtain ⟨hrn, hrl⟩ := top_more hr1 hlt
      rcases hx with hx | ⟨b, off, cs, T, fr, hqp, hfb, hcs⟩
      · rw [hx] at hrl; exact absurd hrl (by simp)
      · have hrd : ∀ A, Rd f A b off (bytesV x.q) := fun A => Rd.imm hfb fun i hi => by rw [bytesV_len] at hi; exact hcs i hi
        have hby : (bytesV x.q)[r]? = some (.int .u8 ((x.q.getD r 0).toNat : Nat)) := by
          unfold bytesV
          rw [List.getElem?_map, List.getElem?_eq_getElem (by omega), List.getD_eq_getElem?_getD, List.getElem?_eq_getElem (by omega)]
          rfl
        have hnx := qTo_next x hr1
        have hpv : (x.qTo (r + 1)).flatMap pairV = (x.qTo r).flatMap pairV ++ pairV (((r + 1 : Nat) : Int), 1 + (((x.q.getD r 0).toNat % 8 : Nat) : Int)) := by
          rw [hnx, List.flatMap_append]
          rfl
        have hbm : (((x.q.getD r 0).toNat % 8 : Nat) : Int) ≤ 7 := by omega
        generalize x.q.getD r 0 = qr at *
        have hxv : x.vals = [.int .u8 (x.who.toNat : Nat), .int .u8 (x.other.toNat : Nat), .bool x.meet, .int .u8 (x.kind.toNat : Nat), .int .u8 (x.view.toNat : Nat), .int .u8 (x.k.toNat : Nat), .int .u8 (x.client.toNat : Nat), .slice (some ⟨b, off, none⟩) x.q.length x.qc] := by unfold A12.vals; rw [hqp]
        rw [hxv]
        repeat (first | ((first | apply H.move | apply H.len_slice); (iterate 3 exact rfl)) | (apply H.fieldAddr; (iterate 3 exact rfl); exact inferInstance; exact rfl) | (apply H.load1; (iterate 3 exact rfl); apply Rd1.ofRow; (repeat (first | exact .here _ _ _ | apply At.there)); (iterate 2 exact rfl)) | (first | apply H.seq | apply H.region | apply H.nil | apply H.then_normal) | ((apply H.cmp); (iterate 5 exact rfl)) | (apply H.pickT; (iterate 4 exact rfl)) | (first | apply H.skip | apply H.block) | (apply H.gyes; (iterate 3 exact rfl); (omega)) | (apply H.cond_yes; exact rfl; (omega)))
        refine H.front (x := row xb _ _) (by repeat (first | exact .here _ _ | apply Pull.there)) ?_
        refine H.front (x := row bb _ _) (by repeat (first | exact .here _ _ | apply Pull.there)) ?_
        refine H.drawC [0, 1, 2, 3, 4, 5, 6, 7, 8, 9, 10, 11, 12, 13, 14] (by kernel_rfl) (by decide +kernel) (by repeat (first | exact blind_fn | refine blind_seq ?_ | refine blind_block ?_ | refine blind_loop ?_)) (S := [_, _]) rfl ?_
        refine HB.quiet [(0, false), (1, false), (2, false), (3, false), (4, false), (5, false), (6, false), (7, false), (8, false), (9, false), (10, false), (11, false), (12, false)] 4 (by kernel_rfl) ?_
        repeat (first | ((apply HQ.move); (iterate 3 exact rfl)) | (apply HQ.fieldAddr; (iterate 3 exact rfl); exact inferInstance; exact rfl) | (apply HQ.load1; (iterate 3 exact rfl); apply Rd1.ofRow; (repeat (first | exact .here _ _ _ | apply At.there)); (iterate 2 exact rfl)) | ((apply HQ.ar; (iterate 4 exact rfl)); (with_reducible apply wr_i64_s1; omega); exact rfl))
        refine HQ.index1 (i := r) rfl rfl rfl (by omega) (by omega) rfl ?_
        refine HQ.load1 rfl rfl rfl (Rd1.of (hrd _) hby) rfl ?_
        refine HQ.rem (z := ((qr.toNat % 8 : Nat) : Int)) rfl rfl rfl (by decide) (tmod_nat (b := 8) rfl) rfl ?_
        repeat (first | (refine HQ.build (t := 61) (out := pairV (((r + 1 : Nat) : Int), 1 + ((qr.toNat % 8 : Nat) : Int))) rfl rfl rfl rfl rfl ?_) | ((first | (apply HQ.ar; (iterate 4 exact rfl)) | (apply HQ.conv_int; (iterate 2 exact rfl))); (with_reducible apply wr_u64; omega); exact rfl))
        refine HQ.more rfl ?_
        refine HB.ev1 (i := 13) (by kernel_rfl) rfl ?_
        refine H.buildSlice (out := pairV (((r + 1 : Nat) : Int), 1 + ((qr.toNat % 8 : Nat) : Int))) rfl rfl rfl rfl (by decide) (by decide) rfl rfl fun e2 => ?_
        repeat ((apply H.nil))
        refine H.front (x := row xb _ _) (by repeat (first | exact .here _ _ | apply Pull.there)) ?_
        refine H.front (x := row bb _ _) (by repeat (first | exact .here _ _ | apply Pull.there)) ?_
        refine H.on0 rfl ?_
        refine HB.ev1 (i := 14) (by kernel_rfl) rfl ?_
        refine H.append (p := p) (n0 := r) (c := c) (xs := (x.qTo r).flatMap pairV) (m := 1) (news := pairV (((r + 1 : Nat) : Int), 1 + ((qr.toNat % 8 : Nat) : Int))) rfl rfl rfl rfl rfl (fun p' c' => (by repeat (first | exact .here _ _ _ | apply At.there))) (Src.slice (Rd.ofRow (by repeat (first | exact .here _ _ _ | apply At.there))) rfl) (allOne_mem rfl) rfl (by omega) (by omega) fun p2 c2 => ?_
        repeat ((apply H.nil))
        refine H.drop (x := row e2 _ _) (by repeat (first | exact .here _ _ | apply Pull.there)) ?_
        refine H.on0 rfl ?_
        refine HB.next [] (by kernel_rfl) (S' := []) rfl ?_
        refine HB.quiet [(15, false)] 1 (by kernel_rfl) ?_
        repeat ((apply HQ.fieldAddr; (iterate 3 exact rfl); exact inferInstance; exact rfl))
        refine HQ.more rfl ?_
        refine HB.ev1 (i := 16) (by kernel_rfl) rfl ?_
        refine H.store1 (ls := bodS (1 + ((x.view.toNat % 6 : Nat) : Int)) p r c) (ls' := bodS (1 + ((x.view.toNat % 6 : Nat) : Int)) p2 (r + 1) c2) rfl rfl rfl rfl (.here _ _ _) (bodS_set _ _ _ _ _ _ _) ?_
        repeat ((apply H.nil))
        refine H.on0 rfl ?_
        refine HB.done (by kernel_rfl) ?_
        repeat (first | ((first | apply H.move | apply H.assign); (iterate 3 exact rfl)) | (first | apply H.region | apply H.nil | apply H.then_normal) | ((apply H.ar; (iterate 4 exact rfl)); (with_reducible apply wr_i64_n1; omega); exact rfl) | (apply H.in_normal))
        rw [← hxv]
        refine H.front (x := row ob _ _) (by repeat (first | exact .here _ _ | apply Pull.there)) ?_
        refine H.front (x := row bb _ _) (by repeat (first | exact .here _ _ | apply Pull.there)) ?_
        refine H.front (x := slc p2 _ c2 _ _ _) (by repeat (first | exact .here _ _ | apply Pull.there)) ?_
        refine H.again (r + 1, p2, c2) ⟨by show 1 ≤ r + 1; omega, hlt⟩ (by show x.top n - (r + 1) < x.top n - r; omega) ⟨rfl, rfl, rfl, rfl, rfl, trivial⟩ rfl ?_
        show slc p2 (r + 1) c2 _ 2 ((x.qTo r).flatMap pairV ++ pairV _) :: _ = slc p2 (r + 1) c2 _ 2 ((x.qTo (r + 1)).flatMap pairV) :: _
        rw [hpv]
    · have hrt : r = x.top n := by omega
      have hte := top_end hn.1 hrt
      have hval : bodS (1 + ((x.view.toNat % 6 : Nat) : Int)) p r c = (⟨4, (1 + ((x.view.toNat % 6 : Nat) : Int)), 0, Req.zero, x.qTo (x.top n), noTag⟩ : Bod).vals p c := by
        rw [hrt]
        have := bodS_eq (1 + ((x.view.toNat % 6 : Nat) : Int)) (x.qTo (x.top n)) p c
        rw [x.qTo_len] at this
        exact this.symm
      rw [hval]
      by_cases hn2 : r + 1 ≤ n
      · have hq2 : ¬ (r + 1 ≤ x.q.length) := fun e => hte ⟨hn2, e⟩
        repeat (first | ((first | apply H.move | apply H.len_slice); (iterate 3 exact rfl)) | (apply H.fieldAddr; (iterate 3 exact rfl); exact inferInstance; exact rfl) | (apply H.load1; (iterate 3 exact rfl); apply Rd1.ofRow; (repeat (first | exact .here _ _ _ | apply At.there)); (iterate 2 exact rfl)) | (first | apply H.seq | apply H.region | apply H.nil | apply H.then_normal) | ((apply H.cmp); (iterate 5 exact rfl)) | (apply H.pickT; (iterate 4 exact rfl)) | (first | apply H.then_exit | apply H.exit | apply H.in_normal | apply H.in_hit | apply H.loop_exit) | (apply H.gyes; (iterate 3 exact rfl); (omega)) | (apply H.cond_no; exact rfl; (omega)))
        refine H.loadN (ls := (⟨4, (1 + ((x.view.toNat % 6 : Nat) : Int)), 0, Req.zero, x.qTo (x.top n), noTag⟩ : Bod).vals p c) rfl rfl rfl (Rd.ofRow (by repeat (first | exact .here _ _ _ | apply At.there))) rfl rfl ?_
        refine H.storeN (ls := (Bod.zero 0).vals none 0) (vs := (⟨4, (1 + ((x.view.toNat % 6 : Nat) : Int)), 0, Req.zero, x.qTo (x.top n), noTag⟩ : Bod).vals p c) (ls' := (⟨4, (1 + ((x.view.toNat % 6 : Nat) : Int)), 0, Req.zero, x.qTo (x.top n), noTag⟩ : Bod).vals p c) rfl rfl rfl (allOne_mem rfl) rfl rfl (Nat.le_refl 76) (by repeat (first | exact .here _ _ _ | apply At.there)) ?_
        repeat (first | (first | apply H.nil | apply H.then_normal) | (apply H.ret))
        refine H.drop (x := row bb _ _) (by repeat (first | exact .here _ _ | apply Pull.there)) ?_
        refine H.drop (x := row xb _ _) (by repeat (first | exact .here _ _ | apply Pull.there)) ?_
        refine H.freeze (x := slc p _ c _ _ _) (by repeat (first | exact .here _ _ | apply Pull.there)) fun g hg hd => ?_
        have hg' : qs p c (x.qTo (x.top n)) g := by unfold qs; rw [x.qTo_len, ← hrt]; exact hg
        refine H.retD (ls := (⟨4, (1 + ((x.view.toNat % 6 : Nat) : Int)), 0, Req.zero, x.qTo (x.top n), noTag⟩ : Bod).vals p c) rfl rfl rfl (Rd.ofRow (.here _ _ _)) rfl (fun _ s => s.drop (.here _ _)) ⟨g, p, c, rfl, qs_qat hg' hd, hd, rfl, rfl⟩
      · skip
        repeat (first | ((first | apply H.move | apply H.len_slice); (iterate 3 exact rfl)) | (first | apply H.seq | apply H.region | apply H.nil | apply H.then_normal) | ((apply H.cmp); (iterate 5 exact rfl)) | (apply H.pass; (iterate 2 exact rfl)) | ((apply H.pickF); (iterate 4 exact rfl)) | (apply H.cond_false; exact rfl) | (first | apply H.then_exit | apply H.exit | apply H.in_normal | apply H.in_hit | apply H.loop_exit) | (apply H.gno; (iterate 3 exact rfl); (omega)))
        refine H.loadN (ls := (⟨4, (1 + ((x.view.toNat % 6 : Nat) : Int)), 0, Req.zero, x.qTo (x.top n), noTag⟩ : Bod).vals p c) rfl rfl rfl (Rd.ofRow (by repeat (first | exact .here _ _ _ | apply At.there))) rfl rfl ?_
        refine H.storeN (ls := (Bod.zero 0).vals none 0) (vs := (⟨4, (1 + ((x.view.toNat % 6 : Nat) : Int)), 0, Req.zero, x.qTo (x.top n), noTag⟩ : Bod).vals p c) (ls' := (⟨4, (1 + ((x.view.toNat % 6 : Nat) : Int)), 0, Req.zero, x.qTo (x.top n), noTag⟩ : Bod).vals p c) rfl rfl rfl (allOne_mem rfl) rfl rfl (Nat.le_refl 76) (by repeat (first | exact .here _ _ _ | apply At.there)) ?_
        repeat (first | (first | apply H.nil | apply H.then_normal) | (apply H.ret))
        refine H.drop (x := row bb _ _) (by repeat (first | exact .here _ _ | apply Pull.there)) ?_
        refine H.drop (x := row xb _ _) (by repeat (first | exact .here _ _ | apply Pull.there)) ?_
        refine H.freeze (x := slc p _ c _ _ _) (by repeat (first | exact .here _ _ | apply Pull.there)) fun g hg hd => ?_
        have hg' : qs p c (x.qTo (x.top n)) g := by unfold qs; rw [x.qTo_len, ← hrt]; exact hg
        refine H.retD (ls := (⟨4, (1 + ((x.view.toNat % 6 : Nat) : Int)), 0, Req.zero, x.qTo (x.top n), noTag⟩ : Bod).vals p c) rfl rfl rfl (Rd.ofRow (.here _ _ _)) rfl (fun _ s => s.drop (.here _ _)) ⟨g, p, c, rfl, qs_qat hg' hd, hd, rfl, rfl⟩
  · have hk6 : ((x.kind.toNat : Nat) : Int).tmod 6 = 4 := tmod_nat (b := 6) h
    rw [h]
    show Fn _ _ _ f F (BodP f F (bodV 5 (1 + ((x.view.toNat % 6 : Nat) : Int))))
    refine Fn.enter Tryz.func53 rfl Tryz.ntmps53 rfl (L := [(0, _), (1, _)]) ⟨rfl, rfl, trivial⟩ fun base => ?_
    repeat ((first | apply H.seq | apply H.region))
    refine H.box (ls := x.vals) rfl rfl rfl rfl fun xb => ?_
    refine H.alloc (ls := (Bod.zero 0).vals none 0) rfl rfl rfl fun ob => ?_
    repeat (first | (apply H.fieldAddr; (iterate 3 exact rfl); exact inferInstance; exact rfl) | (apply H.load1; (iterate 3 exact rfl); apply Rd1.ofRow; (repeat (first | exact .here _ _ _ | apply At.there)); (iterate 2 exact rfl)) | (first | apply H.seq | apply H.region | apply H.nil | apply H.then_normal))
    refine H.rem rfl rfl rfl (by decide) hk6 rfl ?_
    repeat (first | (apply H.fieldAddr; (iterate 3 exact rfl); exact inferInstance; exact rfl) | (apply H.load1; (iterate 3 exact rfl); apply Rd1.ofRow; (repeat (first | exact .here _ _ _ | apply At.there)); (iterate 2 exact rfl)) | ((apply H.ar; (iterate 4 exact rfl)); (with_reducible apply wr_u8; omega); exact rfl))
    refine H.rem (z := ((x.view.toNat % 6 : Nat) : Int)) rfl rfl rfl (by decide) (by rw [Int.ofNat_tmod]; rfl) rfl ?_
    repeat (first | (refine H.build (t := 45) (out := (bodV 5 (1 + ((x.view.toNat % 6 : Nat) : Int))).vals none 0) rfl rfl rfl (by kernel_rfl) rfl ?_) | ((first | (apply H.ar; (iterate 4 exact rfl)) | (apply H.conv_int; (iterate 2 exact rfl))); (with_reducible apply wr_u64; omega); exact rfl))
    refine H.alloc (ls := (Bod.zero 0).vals none 0) rfl rfl rfl fun bb => ?_
    refine H.storeN (ls := (Bod.zero 0).vals none 0) (vs := (bodV 5 (1 + ((x.view.toNat % 6 : Nat) : Int))).vals none 0) (ls' := (bodV 5 (1 + ((x.view.toNat % 6 : Nat) : Int))).vals none 0) rfl rfl rfl (allOne_mem rfl) rfl rfl (Nat.le_refl 76) (.here _ _ _) ?_
    repeat (first | ((apply H.assign); (iterate 3 exact rfl)) | (apply H.fieldAddr; (iterate 3 exact rfl); exact inferInstance; exact rfl) | (apply H.load1; (iterate 3 exact rfl); apply Rd1.ofRow; (repeat (exact .here _ _ _)); (iterate 2 exact rfl)) | (first | apply H.seq | apply H.region | apply H.nil | apply H.then_normal) | ((apply H.cmp); (iterate 5 exact rfl)) | (apply H.cond_false; exact rfl) | (first | apply H.skip | apply H.block | apply H.in_normal))
    refine H.loadN (ls := (bodV 5 (1 + ((x.view.toNat % 6 : Nat) : Int))).vals none 0) rfl rfl rfl (Rd.ofRow (by repeat (first | exact .here _ _ _ | apply At.there))) rfl rfl ?_
    refine H.storeN (ls := (Bod.zero 0).vals none 0) (vs := (bodV 5 (1 + ((x.view.toNat % 6 : Nat) : Int))).vals none 0) (ls' := (bodV 5 (1 + ((x.view.toNat % 6 : Nat) : Int))).vals none 0) rfl rfl rfl (allOne_mem rfl) rfl rfl (Nat.le_refl 76) (by repeat (first | exact .here _ _ _ | apply At.there)) ?_
    repeat (first | (first | apply H.nil | apply H.then_normal) | (apply H.ret))
    refine H.drop (x := row bb _ _) (by repeat (first | exact .here _ _ | apply Pull.there)) ?_
    refine H.drop (x := row xb _ _) (by repeat (first | exact .here _ _ | apply Pull.there)) ?_
    refine H.front (x := row ob _ _) (by repeat (first | exact .here _ _ | apply Pull.there)) ?_
    exact H.retD (ls := (bodV 5 (1 + ((x.view.toNat % 6 : Nat) : Int))).vals none 0) rfl rfl rfl (Rd.ofRow (.here _ _ _)) rfl (fun _ s => s.drop (.here _ _)) ⟨nil0, none, 0, rfl, QAt.nil _ _, Dj.nil _, (un_nil _).symm, rfl⟩
  · have hk6 : ((x.kind.toNat : Nat) : Int).tmod 6 = 5 := tmod_nat (b := 6) h
    rw [h]
    show Fn _ _ _ f F (BodP f F (⟨6, 0, 1 + ((x.k.toNat : Nat) : Int), Req.zero, [], dig0 x.client⟩ : Bod))
    refine Fn.enter Tryz.func53 rfl Tryz.ntmps53 rfl (L := [(0, _), (1, _)]) ⟨rfl, rfl, trivial⟩ fun base => ?_
    repeat ((first | apply H.seq | apply H.region))
    refine H.box (ls := x.vals) rfl rfl rfl rfl fun xb => ?_
    refine H.alloc (ls := (Bod.zero 0).vals none 0) rfl rfl rfl fun ob => ?_
    repeat (first | (apply H.fieldAddr; (iterate 3 exact rfl); exact inferInstance; exact rfl) | (apply H.load1; (iterate 3 exact rfl); apply Rd1.ofRow; (repeat (first | exact .here _ _ _ | apply At.there)); (iterate 2 exact rfl)) | (first | apply H.seq | apply H.region | apply H.nil | apply H.then_normal))
    refine H.rem rfl rfl rfl (by decide) hk6 rfl ?_
    repeat (first | (apply H.fieldAddr; (iterate 3 exact rfl); exact inferInstance; exact rfl) | (apply H.load1; (iterate 3 exact rfl); apply Rd1.ofRow; (repeat (first | exact .here _ _ _ | apply At.there)); (iterate 2 exact rfl)) | ((apply H.ar; (iterate 4 exact rfl)); (with_reducible apply wr_u8; omega); exact rfl))
    refine H.rem (z := ((x.view.toNat % 6 : Nat) : Int)) rfl rfl rfl (by decide) (by rw [Int.ofNat_tmod]; rfl) rfl ?_
    repeat (first | (refine H.build (t := 45) (out := (bodV 6 (1 + ((x.view.toNat % 6 : Nat) : Int))).vals none 0) rfl rfl rfl (by kernel_rfl) rfl ?_) | ((first | (apply H.ar; (iterate 4 exact rfl)) | (apply H.conv_int; (iterate 2 exact rfl))); (with_reducible apply wr_u64; omega); exact rfl))
    refine H.alloc (ls := (Bod.zero 0).vals none 0) rfl rfl rfl fun bb => ?_
    refine H.storeN (ls := (Bod.zero 0).vals none 0) (vs := (bodV 6 (1 + ((x.view.toNat % 6 : Nat) : Int))).vals none 0) (ls' := (bodV 6 (1 + ((x.view.toNat % 6 : Nat) : Int))).vals none 0) rfl rfl rfl (allOne_mem rfl) rfl rfl (Nat.le_refl 76) (.here _ _ _) ?_
    repeat (first | ((apply H.assign); (iterate 3 exact rfl)) | (apply H.fieldAddr; (iterate 3 exact rfl); exact inferInstance; exact rfl) | (apply H.load1; (iterate 3 exact rfl); apply Rd1.ofRow; (repeat (first | exact .here _ _ _ | apply At.there)); (iterate 2 exact rfl)) | (first | apply H.seq | apply H.region | apply H.nil | apply H.then_normal) | ((apply H.cmp); (iterate 5 exact rfl)) | ((first | (apply H.ar; (iterate 4 exact rfl)) | (apply H.conv_int; (iterate 2 exact rfl))); (with_reducible apply wr_u64; omega); exact rfl) | (apply H.store1; (iterate 4 exact rfl); (repeat (exact .here _ _ _)); (repeat (first | exact .here _ _ _ | apply SetV.there))) | (apply H.cond_true; exact rfl) | (apply H.cond_false; exact rfl) | (apply H.block))
    refine H.index_array (i := 0) rfl rfl rfl rfl (by decide) rfl ?_
    repeat (first | (first | apply H.seq | apply H.region | apply H.nil | apply H.then_normal) | (apply H.store1; (iterate 4 exact rfl); (repeat (exact .here _ _ _)); (repeat (first | exact .here _ _ _ | apply SetV.there))) | (apply H.in_normal))
    refine H.loadN (ls := (⟨6, 0, 1 + ((x.k.toNat : Nat) : Int), Req.zero, [], dig0 x.client⟩ : Bod).vals none 0) rfl rfl rfl (Rd.ofRow (by repeat (first | exact .here _ _ _ | apply At.there))) rfl rfl ?_
    refine H.storeN (ls := (Bod.zero 0).vals none 0) (vs := (⟨6, 0, 1 + ((x.k.toNat : Nat) : Int), Req.zero, [], dig0 x.client⟩ : Bod).vals none 0) (ls' := (⟨6, 0, 1 + ((x.k.toNat : Nat) : Int), Req.zero, [], dig0 x.client⟩ : Bod).vals none 0) rfl rfl rfl (allOne_mem rfl) rfl rfl (Nat.le_refl 76) (by repeat (first | exact .here _ _ _ | apply At.there)) ?_
    repeat (first | (first | apply H.nil | apply H.then_normal) | (apply H.ret))
    refine H.drop (x := row bb _ _) (by repeat (first | exact .here _ _ | apply Pull.there)) ?_
    refine H.drop (x := row xb _ _) (by repeat (first | exact .here _ _ | apply Pull.there)) ?_
    refine H.front (x := row ob _ _) (by repeat (first | exact .here _ _ | apply Pull.there)) ?_
    exact H.retD (ls := (⟨6, 0, 1 + ((x.k.toNat : Nat) : Int), Req.zero, [], dig0 x.client⟩ : Bod).vals none 0) rfl rfl rfl (Rd.ofRow (.here _ _ _)) rfl (fun _ s => s.drop (.here _ _)) ⟨nil0, none, 0, rfl, QAt.nil _ _, Dj.nil _, (un_nil _).symm, rfl⟩
end
end Go.Proofs.YtoigpgdmignaoaaGreatDoor

/- Layer 12: the document's worlds: what Acts makes. No condition. -/
namespace Go.Proofs.YtoigpgdmignaoaaGreatDoor
open Go
def worldC (kb n : Nat) (ap : Option Addr) (m ac : Nat) : List Value := [.slice (some ⟨kb, 0, none⟩) n n, .slice ap m ac]
structure WAt (f : Frag) (n : Nat) (W : W12) (kb : Nat) (ap : Option Addr) (l : List MV) : Prop where
  k : KAt f kb n W.kv
  a : ListAt f ap 121 MV.vals l
  g : ∀ x ∈ l, x.Good f
  m : l.map MV.m = W.all
def ActsP (f : Frag) (F : List HP) (n : Nat) (W : W12) : Value → Frag → List HP → Prop := fun v f' A' =>
  ∃ (g : Frag) (wb kb : Nat) (ap : Option Addr) (ac : Nat) (l : List MV), v = .pointer (some ⟨wb, 0, none⟩) ∧ Dj f g ∧ f' = un f g ∧ A' = row wb 34 (worldC kb n ap l.length ac) :: F ∧ WAt f' n W kb ap l
def raised (kv : Nat → Nat → Int) (o j i : Nat) : Nat → Nat → Int := updF kv o fun t => if t < i then maxV (kv o) (kv j) t else kv o t
theorem raised_zero (kv : Nat → Nat → Int) (o j : Nat) : raised kv o j 0 = kv := by
  unfold raised
  have : (fun t => if t < 0 then maxV (kv o) (kv j) t else kv o t) = kv o := by funext t; rw [if_neg (by omega)]
  rw [this, updF_self]
theorem raised_o (kv : Nat → Nat → Int) (o j i : Nat) : raised kv o j i o i = kv o i := by
  unfold raised
  rw [updF_same]
  show (if i < i then _ else _) = _
  rw [if_neg (by omega)]
theorem raised_j (kv : Nat → Nat → Int) (o j i : Nat) : raised kv o j i j i = kv j i := by
  by_cases e : j = o
  · subst e; exact raised_o kv j j i
  · unfold raised; rw [updF_ne _ _ e]
theorem raised_next (kv : Nat → Nat → Int) (o j i : Nat) : updF (raised kv o j i) o (updF (raised kv o j i o) i (maxV (kv o) (kv j) i)) = raised kv o j (i + 1) := by
  unfold raised
  rw [updF_same, updF_updF]
  congr 1
  funext t
  show (if t = i then _ else if t < i then _ else _) = if t < i + 1 then _ else _
  by_cases e : t = i
  · subst e; rw [if_pos rfl, if_pos (by omega)]
  · rw [if_neg e]
    by_cases h : t < i
    · rw [if_pos h, if_pos (by omega)]
    · rw [if_neg h, if_neg (by omega)]
theorem raised_end {n o j : Nat} (W : W12) : kRow n (raised W.kv o j 11) = kRow n (W.meet o j).kv := kRow_congr fun r _ i hi => by
  show raised W.kv o j 11 r i = updF W.kv o (maxV (W.kv o) (W.kv j)) r i
  unfold raised
  by_cases e : r = o
  · subst e; rw [updF_same, updF_same, if_pos hi]
  · rw [updF_ne _ _ e, updF_ne _ _ e]
theorem A12.Has.mono {f g : Frag} (h : Le f g) {x : A12} (hx : x.Has f) : x.Has g := by
  rcases hx with e | ⟨b, off, cs, T, fr, h1, h2, h3⟩
  · exact .inl e
  · exact .inr ⟨b, off, cs, T, fr, h1, h _ _ h2, h3⟩
def A12.zero : A12 := ⟨0, 0, false, 0, 0, 0, 0, [], none, 0⟩
section
variable (f : Frag) (F : List HP)
set_option maxRecDepth 20000 in
set_option maxHeartbeats 3200000 in
theorem acts_fn {n8 : UInt8} {n : Nat} (hn8 : n = 3 + 2 * (n8.toNat % 5)) {p : Option Addr} {c : Nat} {xs : List A12} (hat : ListAt f p 8 A12.vals xs) (hh : ∀ x ∈ xs, x.Has f ∧ x.q.length ≤ 20) (hl : xs.length ≤ 100) :
    Fn Tryz.prog 17 [.int .u8 (n8.toNat : Nat), .slice p xs.length c] f F (ActsP f F n (worldOf n xs)) := by
  have hn3 : 3 ≤ n ∧ n ≤ 11 := by omega
  have hodd := fun G => rodd_fn f G n8
  rw [← hn8] at hodd
  have hn0 : ((n : Nat) : Int) ≠ 0 := by omega
  refine Fn.enter Tryz.func17 rfl Tryz.ntmps17 rfl (L := [(0, _), (1, _)]) ⟨rfl, rfl, trivial⟩ fun base => ?_
  repeat (first | ((first | apply H.move | apply H.assign); (iterate 3 exact rfl)) | (first | apply H.seq | apply H.region | apply H.nil | apply H.then_normal))
  refine H.callR rfl rfl rfl (hodd _) ?_
  refine H.makeS (m := n) (zs := v11 fun _ => 0) rfl rfl rfl rfl rfl rfl rfl (by decide) (by omega) (by omega) rfl fun kb => ?_
  rw [kRow_zero]
  repeat ((refine H.build (t := 34) (out := worldC kb n none 0 0) rfl rfl rfl (by kernel_rfl) rfl ?_))
  refine H.box (ls := worldC kb n none 0 0) rfl rfl rfl rfl fun wb => ?_
  repeat (first | ((apply H.assign); (iterate 3 exact rfl)) | (first | apply H.seq | apply H.region | apply H.nil | apply H.then_normal) | (apply H.block))
  refine H.slc0 47 121 ?_
  refine H.front (x := row kb _ _) (by repeat (first | exact .here _ _ | apply Pull.there)) ?_
  refine H.front (x := row wb _ _) (by repeat (first | exact .here _ _ | apply Pull.there)) ?_
  refine H.loop (ι := Nat × Frag × List MV × Option Addr × Nat) (fun s => [(6, .int .i64 (s.1 : Int)), (1, .slice p xs.length c), (5, .pointer (some ⟨wb, 0, none⟩))]) (fun s => un f s.2.1)
    (fun s => row wb 34 (worldC kb n s.2.2.2.1 s.2.2.1.length s.2.2.2.2) :: row kb 37 (kRow n (worldOf n (xs.take s.1)).kv) :: slc s.2.2.2.1 s.2.2.1.length s.2.2.2.2 47 121 (s.2.2.1.flatMap MV.vals) :: F)
    (fun s => s.1 ≤ xs.length ∧ s.2.2.1.map MV.m = (worldOf n (xs.take s.1)).all ∧ (∀ y ∈ s.2.2.1, y.Good (un f s.2.1)) ∧ Dj f s.2.1) (fun s => xs.length - s.1)
    (0, nil0, [], none, 0) ⟨Nat.zero_le _, rfl, (fun y hy => by cases hy), Dj.nil f⟩ ⟨rfl, rfl, rfl, trivial⟩ (un_nil f).symm rfl fun s hs => ?_
  obtain ⟨k, G, l, ap, ac⟩ := s
  obtain ⟨hk, hm, hg, hdj⟩ : k ≤ xs.length ∧ l.map MV.m = (worldOf n (xs.take k)).all ∧ (∀ y ∈ l, y.Good (un f G)) ∧ Dj f G := hs
  show H _ _ _ [(6, .int .i64 (k : Int)), _, _] (un f G) (row wb _ (worldC kb n ap l.length ac) :: row kb _ (kRow n (worldOf n (xs.take k)).kv) :: slc ap l.length ac _ 121 (l.flatMap MV.vals) :: F) _
  have hinv := worldOf_inv (n := n) (by omega) hn3.2 xs k
  have hwl := worldOf_len n xs k
  have hll : l.length ≤ 100 := by
    have := congrArg List.length hm
    rw [List.length_map] at this
    omega
  by_cases hlt : k < xs.length
  · obtain ⟨x, hx⟩ : ∃ x, xs[k]? = some x := ⟨_, List.getElem?_eq_getElem hlt⟩
    have hnext : worldOf n (xs.take (k + 1)) = (worldOf n (xs.take k)).act n x := by rw [take_snoc hx, worldOf_snoc]
    obtain ⟨hxa, hxq⟩ := hh x (List.mem_of_getElem? hx)
    obtain ⟨b, off, cs, T, fr, rfl, hfb, hcs⟩ := hat k x hx
    have rd : ∀ A, Rd (un f G) A b (off + k * 8) x.vals := fun A => Rd.imm (Le.un f G b _ hfb) hcs
    clear hcs hfb
    generalize hW : worldOf n (xs.take k) = W at *
    have ho : x.who.toNat % n < n := Nat.mod_lt _ (by omega)
    have hkv := hinv.kv_le ho
    have hrem := tmod_nat (a := x.who.toNat) (b := n) rfl
    have hwho := x.who.toNat_lt
    have hoth := x.other.toNat_lt
    have hj : x.other.toNat % n < n := Nat.mod_lt _ (by omega)
    repeat (first | ((first | apply H.move | apply H.len_slice); (iterate 3 exact rfl)) | (first | apply H.seq | apply H.region | apply H.nil | apply H.then_normal) | ((apply H.cmp); (iterate 5 exact rfl)) | (first | apply H.skip | apply H.block) | (apply H.cond_yes; exact rfl; (omega)))
    refine H.index_slice (i := k) rfl rfl rfl rfl hlt rfl ?_
    refine H.loadN (ls := x.vals) rfl rfl rfl (rd _) rfl rfl ?_
    refine H.alloc (ls := A12.zero.vals) rfl rfl rfl fun xb => ?_
    refine H.storeN (ls := A12.zero.vals) (vs := x.vals) (ls' := x.vals) rfl rfl rfl (allOne_mem rfl) rfl rfl (Nat.le_refl 8) (.here _ _ _) ?_
    repeat ((first | apply H.seq | apply H.nil | apply H.then_normal))
    refine H.drawQ (by kernel_rfl) (by decide +kernel) (by repeat (first | exact blind_fn | refine blind_seq ?_ | refine blind_block ?_ | refine blind_loop ?_)) ?_
    repeat (first | (refine HQ.rem (z := ((x.who.toNat % n : Nat) : Int)) rfl rfl rfl hn0 hrem rfl ?_) | ((first | apply HQ.move | apply HQ.assign | apply HQ.nilCheck | apply HQ.len_slice); (iterate 3 exact rfl)) | (apply HQ.fieldAddr; (iterate 3 exact rfl); exact inferInstance; exact rfl) | (apply HQ.load1; (iterate 3 exact rfl); apply Rd1.ofRow; (repeat (first | exact .here _ _ _ | apply At.there)); (iterate 2 exact rfl)) | ((apply HQ.done0); exact rfl) | ((apply HQ.conv_int; (iterate 2 exact rfl)); (with_reducible apply wr_i64; omega); exact rfl))
    repeat (first | (apply H.fieldAddr; (iterate 3 exact rfl); exact inferInstance; exact rfl) | (apply H.load1; (iterate 3 exact rfl); apply Rd1.ofRow; (repeat (exact .here _ _ _)); (iterate 2 exact rfl)) | (first | apply H.seq | apply H.region | apply H.nil | apply H.then_normal))
    cases hmt : x.meet with
    | true =>
      unfold W12.act at hnext
      rw [if_pos hmt] at hnext
      repeat (first | (apply H.seq) | (apply H.cond_true; exact rfl))
      generalize hoe : x.who.toNat % n = o at *
      refine H.drawQ (by kernel_rfl) (by decide +kernel) (by repeat (first | exact blind_fn | refine blind_seq ?_ | refine blind_block ?_ | refine blind_loop ?_)) ?_
      repeat (first | (refine HQ.rem (z := ((x.other.toNat % n : Nat) : Int)) rfl rfl rfl hn0 (tmod_nat (a := x.other.toNat) (b := n) rfl) rfl ?_) | ((first | apply HQ.move | apply HQ.assign | apply HQ.nilCheck | apply HQ.len_slice); (iterate 3 exact rfl)) | (apply HQ.fieldAddr; (iterate 3 exact rfl); exact inferInstance; exact rfl) | (apply HQ.load1; (iterate 3 exact rfl); apply Rd1.ofRow; (repeat (first | exact .here _ _ _ | apply At.there)); (iterate 2 exact rfl)) | ((apply HQ.done0); exact rfl) | ((apply HQ.conv_int; (iterate 2 exact rfl)); (with_reducible apply wr_i64; omega); exact rfl))
      repeat (first | ((apply H.assign); (iterate 3 exact rfl)) | (first | apply H.seq | apply H.region | apply H.nil | apply H.then_normal) | (apply H.block))
      generalize hje : x.other.toNat % n = j at *
      refine H.front (x := row kb _ _) (by repeat (first | exact .here _ _ | apply Pull.there)) ?_
      refine H.front (x := row wb _ _) (by repeat (first | exact .here _ _ | apply Pull.there)) ?_
      refine H.loop (ι := Nat) (fun i => [(10, .int .i64 (i : Int)), (8, .int .i64 (o : Int)), (9, .int .i64 (j : Int)), (5, .pointer (some ⟨wb, 0, none⟩)), (6, .int .i64 (k : Int)), (1, .slice (some ⟨b, off, none⟩) xs.length c)]) (fun _ => un f G)
        (fun i => row wb 34 (worldC kb n ap l.length ac) :: row kb 37 (kRow n (raised W.kv o j i)) :: row xb 113 x.vals :: slc ap l.length ac 47 121 (l.flatMap MV.vals) :: F)
        (fun i => i ≤ 11) (fun i => 11 - i) 0 (Nat.zero_le _) ⟨rfl, rfl, rfl, rfl, rfl, rfl, trivial⟩ rfl (by rw [raised_zero]) fun i hi => ?_
      have hi : i ≤ 11 := hi
      by_cases hi11 : i < 11
      · have hro := raised_o W.kv o j i
        have hrj := raised_j W.kv o j i
        have hrn := raised_next W.kv o j i
        have hg1 := kRow_get (kv := raised W.kv o j i) ho hi11
        have hg2 := kRow_get (kv := raised W.kv o j i) hj hi11
        rw [hro] at hg1
        rw [hrj] at hg2
        have hset := kRow_set (kv := raised W.kv o j i) (maxV (W.kv o) (W.kv j) i) ho hi11
        rw [hrn] at hset
        repeat (first | ((apply H.move); (iterate 3 exact rfl)) | (first | apply H.seq | apply H.region | apply H.nil | apply H.then_normal) | ((apply H.cmp); (iterate 5 exact rfl)) | (first | apply H.skip | apply H.block) | (apply H.cond_yes; exact rfl; (omega)))
        refine H.drawC [0, 1, 2, 3, 4, 5, 6, 7, 8, 9, 10, 11, 12, 13, 14, 15, 16, 17, 18, 19, 20, 21, 22, 23, 24, 25, 26] (by kernel_rfl) (by decide +kernel) (by repeat (first | exact blind_fn | refine blind_seq ?_ | refine blind_block ?_ | refine blind_loop ?_)) (S := [_, _]) rfl ?_
        refine HB.quiet [(0, false), (1, false), (2, false), (3, false), (4, false), (5, false), (6, false), (7, false), (8, false), (9, false), (10, false), (11, false), (12, false), (13, false), (14, false), (15, false), (16, false), (17, false), (18, false), (19, false), (20, false), (21, false), (22, false), (23, false), (24, false), (25, false), (26, false)] 1 (by kernel_rfl) ?_
        repeat (first | ((first | apply HQ.move | apply HQ.nilCheck); (iterate 3 exact rfl)) | (apply HQ.fieldAddr; (iterate 3 exact rfl); exact inferInstance; exact rfl) | (apply HQ.load1; (iterate 3 exact rfl); apply Rd1.ofRow; (repeat (exact .here _ _ _)); (iterate 2 exact rfl)))
        refine HQ.index_slice (i := o) rfl rfl rfl rfl ho rfl ?_
        refine HQ.index_array (i := i) rfl rfl rfl rfl hi11 rfl ?_
        refine HQ.load1 rfl rfl rfl (.at0 (Rd.ofRow (.there _ (.here _ _ _))) (by rw [Nat.zero_add, Nat.mul_one]; exact hg1)) rfl ?_
        repeat (first | ((first | apply HQ.move | apply HQ.nilCheck); (iterate 3 exact rfl)) | (apply HQ.fieldAddr; (iterate 3 exact rfl); exact inferInstance; exact rfl) | (apply HQ.load1; (iterate 3 exact rfl); apply Rd1.ofRow; (repeat (exact .here _ _ _)); (iterate 2 exact rfl)))
        refine HQ.index_slice (i := j) rfl rfl rfl rfl hj rfl ?_
        refine HQ.index_array (i := i) rfl rfl rfl rfl hi11 rfl ?_
        refine HQ.load1 rfl rfl rfl (.at0 (Rd.ofRow (.there _ (.here _ _ _))) (by rw [Nat.zero_add, Nat.mul_one]; exact hg2)) rfl ?_
        refine HQ.max2 (z := maxV (W.kv o) (W.kv j) i) rfl rfl rfl rfl rfl ?_
        refine HQ.index_slice (i := o) rfl rfl rfl rfl ho rfl ?_
        refine HQ.index_array (i := i) rfl rfl rfl rfl hi11 rfl ?_
        refine HQ.more rfl ?_
        refine HB.next [] (by kernel_rfl) (S' := []) rfl ?_
        refine HB.ev1 (i := 27) (by kernel_rfl) rfl ?_
        refine H.store1 (v := .int .u64 (maxV (W.kv o) (W.kv j) i)) (ls := kRow n (raised W.kv o j i)) (ls' := kRow n (raised W.kv o j (i + 1))) rfl rfl rfl rfl (.there _ (.here _ _ _)) (by rw [Nat.zero_add, Nat.mul_one]; exact hset) ?_
        repeat ((apply H.nil))
        refine H.on0 rfl ?_
        refine HB.done (by kernel_rfl) ?_
        repeat (first | ((first | apply H.move | apply H.assign); (iterate 3 exact rfl)) | (first | apply H.region | apply H.nil | apply H.then_normal) | ((apply H.ar; (iterate 4 exact rfl)); (with_reducible apply wr_i64_n1; omega); exact rfl) | (apply H.in_normal))
        refine H.again (i + 1) (by show i + 1 ≤ 11; omega) (by show 11 - (i + 1) < 11 - i; omega) ⟨rfl, rfl, rfl, rfl, rfl, rfl, trivial⟩ rfl rfl
      · have e : i = 11 := by omega
        subst e
        rw [raised_end]
        repeat (first | ((first | apply H.move | apply H.assign); (iterate 3 exact rfl)) | (first | apply H.seq | apply H.region | apply H.nil | apply H.then_normal) | ((apply H.cmp); (iterate 5 exact rfl)) | ((apply H.ar; (iterate 4 exact rfl)); (with_reducible apply wr_i64_n1; omega); exact rfl) | (apply H.cond_false; exact rfl) | (first | apply H.then_exit | apply H.exit | apply H.in_hit | apply H.loop_exit))
        refine H.drop (x := row xb _ _) (by repeat (first | exact .here _ _ | apply Pull.there)) ?_
        refine H.again (k + 1, G, l, ap, ac) ⟨by show k + 1 ≤ xs.length; omega, by show l.map MV.m = _; rw [hnext]; exact hm, hg, hdj⟩ (by show xs.length - (k + 1) < xs.length - k; omega) ⟨rfl, rfl, rfl, trivial⟩ rfl ?_
        show _ :: _ :: _ = _ :: row kb _ (kRow n (worldOf n (xs.take (k + 1))).kv) :: _
        rw [hnext]
    | false =>
      unfold W12.act at hnext
      rw [if_neg (by rw [hmt]; decide)] at hnext
      repeat (first | (first | apply H.seq | apply H.then_normal) | (apply H.cond_false; exact rfl) | (apply H.skip))
      generalize hoe : x.who.toNat % n = o at *
      refine H.front (x := row kb _ _) (by repeat (first | exact .here _ _ | apply Pull.there)) ?_
      refine H.front (x := row wb _ _) (by repeat (first | exact .here _ _ | apply Pull.there)) ?_
      refine H.front (x := row xb _ _) (by repeat (first | exact .here _ _ | apply Pull.there)) ?_
      have hxa2 : x.Has (un f G) := A12.Has.mono (Le.un f G) hxa
      have hgk0 := kRow_get (kv := W.kv) ho (show o < 11 by omega)
      refine H.drawB (by kernel_rfl) (by decide +kernel) (by repeat (first | exact blind_fn | refine blind_seq ?_ | refine blind_block ?_ | refine blind_loop ?_)) (S := [_, _, _]) rfl ?_
      refine HB.quiet [(0, false), (1, false), (2, false), (3, false), (4, false), (5, false), (6, false), (7, false), (8, false), (9, false), (10, false), (11, false), (12, false), (13, false), (14, false), (15, false), (16, false), (17, false), (18, false), (19, false), (20, false), (21, false), (22, false), (23, false), (24, false)] 4 (by kernel_rfl) ?_
      have hko := hkv o
      repeat (first | ((first | apply HQ.move | apply HQ.nilCheck); (iterate 3 exact rfl)) | (apply HQ.fieldAddr; (iterate 3 exact rfl); exact inferInstance; exact rfl) | (apply HQ.load1; (iterate 3 exact rfl); apply Rd1.ofRow; (repeat (first | exact .here _ _ _ | apply At.there)); (iterate 2 exact rfl)) | ((apply HQ.ar; (iterate 4 exact rfl)); (with_reducible apply wr_i64_n1; omega); exact rfl))
      refine HQ.index_slice (i := o) rfl rfl rfl rfl ho rfl ?_
      refine HQ.index_array (i := o) rfl rfl rfl rfl (by omega) rfl ?_
      refine HQ.load1 rfl rfl rfl (.at0 (Rd.ofRow (.there _ (.there _ (.here _ _ _)))) (by rw [Nat.zero_add, Nat.mul_one]; exact hgk0)) rfl ?_
      repeat (first | ((first | apply HQ.move | apply HQ.nilCheck); (iterate 3 exact rfl)) | (apply HQ.fieldAddr; (iterate 3 exact rfl); exact inferInstance; exact rfl) | (apply HQ.load1; (iterate 3 exact rfl); apply Rd1.ofRow; (repeat (first | exact .here _ _ _ | apply At.there)); (iterate 2 exact rfl)) | ((apply HQ.ar; (iterate 4 exact rfl)); (with_reducible apply wr_u64; omega); exact rfl))
      refine HQ.index_slice (i := o) rfl rfl rfl rfl ho rfl ?_
      refine HQ.loadN (ls := v11 (W.kv o)) rfl rfl rfl (by rw [Nat.zero_add]; exact Rd.kRow (Rd.ofRow (.there _ (.there _ (.here _ _ _)))) ho) rfl rfl ?_
      refine HQ.loadN (ls := x.vals) rfl rfl rfl (Rd.ofRow (.here _ _ _)) rfl rfl ?_
      repeat (first | ((first | apply HQ.move | apply HQ.nilCheck | apply HQ.len_slice); (iterate 3 exact rfl)) | (apply HQ.fieldAddr; (iterate 3 exact rfl); exact inferInstance; exact rfl) | (apply HQ.load1; (iterate 3 exact rfl); apply Rd1.ofRow; (repeat (first | exact .here _ _ _ | apply At.there)); (iterate 2 exact rfl)))
      refine HQ.more rfl ?_
      refine HB.ev2 (i := 25) (j := 27) (by kernel_rfl) rfl rfl ?_ ?_
      · refine H.call rfl rfl rfl (abody_fn (un f G) _ (n := n) ⟨by omega, by omega⟩ hxa2 hxq) fun v f' A' hr => ?_
        obtain ⟨g, qp, qc, rfl, hqat, hd, rfl, rfl⟩ := hr
        have hgood : (⟨W.next n o x, qp, qc⟩ : MV).Good (un (un f G) g) := ⟨hqat, by have := (x.bod_q (n := n) (by omega)).1; show (x.bod n).q.length ≤ _; omega, x.bod_ok n⟩
        have hmsg := good_signed hgood
        have hmay : ∀ H, Fn Tryz.prog 54 [.agg ((W.next n o x).vals qp qc).toArray] (un (un f G) g) H (Ret (.bool (W.next n o x).may) (un (un f G) g) H) := fun H => rmay_fn (un (un f G) g) H hgood.1 (by have := hgood.2.1; show (W.next n o x).body.q.length ≤ _; have h2 : (W.next n o x).body.q.length ≤ 1000000 := this; omega)
        have hsg := fun H => rtagged_fn (un (un f G) g) H (m := W.next n o x) (q := qp) (qc := qc) hgood.1 (by have h2 : (W.next n o x).body.q.length ≤ 1000000 := hgood.2.1; omega)
        repeat ((apply H.nil))
        refine H.on [] (Le.un _ g) rfl ?_
        refine HB.quiet [(26, false)] 2 (by kernel_rfl) ?_
        refine HQ.build (t := 47) (out := (W.next n o x).vals qp qc) rfl rfl rfl (by kernel_rfl) rfl ?_
        refine HQ.more rfl ?_
        refine HB.ev1 (i := 27) (by kernel_rfl) rfl ?_
        refine H.alloc (ls := msgZ.vals none 0) rfl rfl rfl fun mb => ?_
        repeat ((apply H.nil))
        refine H.front (x := row kb _ _) (by repeat (first | exact .here _ _ | apply Pull.there)) ?_
        refine H.front (x := row wb _ _) (by repeat (first | exact .here _ _ | apply Pull.there)) ?_
        refine H.front (x := row xb _ _) (by repeat (first | exact .here _ _ | apply Pull.there)) ?_
        refine H.on0 rfl ?_
        refine HB.ev1 (i := 28) (by kernel_rfl) rfl ?_
        refine H.storeN (ls := msgZ.vals none 0) (vs := (W.next n o x).vals qp qc) (ls' := (W.next n o x).vals qp qc) rfl rfl rfl (allOne_mem rfl) rfl rfl (Nat.le_refl 121) (by repeat (first | exact .here _ _ _ | apply At.there)) ?_
        repeat ((apply H.nil))
        refine H.on0 rfl ?_
        refine HB.done (by kernel_rfl) ?_
        repeat ((first | apply H.seq | apply H.region | apply H.then_normal))
        refine H.loadN (ls := (W.next n o x).vals qp qc) rfl rfl rfl (Rd.ofRow (by repeat (first | exact .here _ _ _ | apply At.there))) rfl rfl ?_
        cases hmy : (W.next n o x).may with
        | false =>
          rw [hmy] at hmay
          rw [if_neg (by rw [hmy]; decide)] at hnext
          refine H.callR rfl rfl rfl (hmay _) ?_
          repeat (first | ((first | apply H.move | apply H.assign); (iterate 3 exact rfl)) | (first | apply H.region | apply H.nil | apply H.then_normal) | ((apply H.ar; (iterate 4 exact rfl)); (with_reducible apply wr_i64_n1; omega); exact rfl) | (apply H.cond_false; exact rfl) | (first | apply H.skip | apply H.in_normal))
          refine H.drop (x := row mb _ _) (by repeat (first | exact .here _ _ | apply Pull.there)) ?_
          refine H.drop (x := row xb _ _) (by repeat (first | exact .here _ _ | apply Pull.there)) ?_
          refine H.front (x := slc ap _ ac _ _ _) (by repeat (first | exact .here _ _ | apply Pull.there)) ?_
          refine H.front (x := row kb _ _) (by repeat (first | exact .here _ _ | apply Pull.there)) ?_
          refine H.front (x := row wb _ _) (by repeat (first | exact .here _ _ | apply Pull.there)) ?_
          refine H.again (k + 1, un G g, l, ap, ac) ⟨by show k + 1 ≤ xs.length; omega, by show l.map MV.m = _; rw [hnext]; exact hm, fun y hy => by show y.Good (un f (un G g)); rw [← un_assoc]; exact (hg y hy).mono (Le.un _ g), Dj.un3' hdj hd⟩ (by show xs.length - (k + 1) < xs.length - k; omega) ⟨rfl, rfl, rfl, trivial⟩ (un_assoc _ _ _) ?_
          show _ :: _ :: _ = _ :: row kb _ (kRow n (worldOf n (xs.take (k + 1))).kv) :: _
          rw [hnext]
        | true =>
          rw [hmy] at hmay
          rw [if_pos hmy] at hnext
          refine H.callR rfl rfl rfl (hmay _) ?_
          repeat (first | (first | apply H.seq | apply H.nil | apply H.then_normal) | (apply H.cond_true; exact rfl))
          refine H.front (x := row wb _ _) (by repeat (first | exact .here _ _ | apply Pull.there)) ?_
          refine H.front (x := row mb _ _) (by repeat (first | exact .here _ _ | apply Pull.there)) ?_
          refine H.drawC [0, 1, 2, 3, 4, 5, 6, 7, 8] (by kernel_rfl) (by decide +kernel) (by repeat (first | exact blind_fn | refine blind_seq ?_ | refine blind_block ?_ | refine blind_loop ?_)) (S := [_, _]) rfl ?_
          refine HB.quiet [(0, false), (1, false), (2, false), (3, false), (4, false), (5, false)] 6 (by kernel_rfl) ?_
          repeat (first | ((first | apply HQ.move | apply HQ.nilCheck); (iterate 3 exact rfl)) | (apply HQ.fieldAddr; (iterate 3 exact rfl); exact inferInstance; exact rfl) | (apply HQ.load1; (iterate 3 exact rfl); apply Rd1.ofRow; (repeat (first | exact .here _ _ _ | apply At.there)); (iterate 2 exact rfl)))
          refine HQ.loadN (ls := (W.next n o x).vals qp qc) rfl rfl rfl (Rd.ofRow (.here _ _ _)) rfl rfl ?_
          refine HQ.more rfl ?_
          refine HB.ev1 (i := 6) (by kernel_rfl) rfl ?_
          refine H.callR rfl rfl rfl (hsg _) ?_
          generalize hms : (W.next n o x).signed = ms at *
          repeat ((apply H.nil))
          refine H.on0 rfl ?_
          refine HB.ev1 (i := 7) (by kernel_rfl) rfl ?_
          refine H.buildSlice (out := ms.vals qp qc) rfl rfl rfl rfl (by decide) (by decide) rfl rfl fun eb => ?_
          repeat ((apply H.nil))
          refine H.front (x := row wb _ _) (by repeat (first | exact .here _ _ | apply Pull.there)) ?_
          refine H.front (x := row mb _ _) (by repeat (first | exact .here _ _ | apply Pull.there)) ?_
          refine H.on0 rfl ?_
          refine HB.ev1 (i := 8) (by kernel_rfl) rfl ?_
          refine H.append (p := ap) (n0 := l.length) (c := ac) (xs := l.flatMap MV.vals) (m := 1) (news := ms.vals qp qc) rfl rfl rfl rfl rfl (fun p' c' => (by repeat (first | exact .here _ _ _ | apply At.there))) (Src.slice (Rd.ofRow (by repeat (first | exact .here _ _ _ | apply At.there))) rfl) (allOne_mem rfl) rfl (by omega) (by omega) fun ap2 ac2 => ?_
          repeat ((apply H.nil))
          refine H.drop (x := row eb _ _) (by repeat (first | exact .here _ _ | apply Pull.there)) ?_
          refine H.on0 rfl ?_
          refine HB.next [] (by kernel_rfl) (S' := []) rfl ?_
          refine HB.quiet [(9, false), (10, false)] 1 (by kernel_rfl) ?_
          repeat (first | ((apply HQ.nilCheck); (iterate 3 exact rfl)) | (apply HQ.fieldAddr; (iterate 3 exact rfl); exact inferInstance; exact rfl))
          refine HQ.more rfl ?_
          refine HB.ev1 (i := 11) (by kernel_rfl) rfl ?_
          refine H.store1 (ls := worldC kb n ap l.length ac) (ls' := worldC kb n ap2 (l.length + 1) ac2) rfl rfl rfl rfl (.there _ (.here _ _ _)) (.there _ (.here _ _ _)) ?_
          repeat ((apply H.nil))
          refine H.on0 rfl ?_
          refine HB.done (by kernel_rfl) ?_
          repeat ((apply H.then_normal))
          have hgk := kRow_get (kv := W.kv) ho (show o < 11 by omega)
          have hset := kRow_set (kv := W.kv) (W.kv o o + 1) ho (show o < 11 by omega)
          refine H.front (x := row kb _ _) (by repeat (first | exact .here _ _ | apply Pull.there)) ?_
          refine H.front (x := row wb _ _) (by repeat (first | exact .here _ _ | apply Pull.there)) ?_
          refine H.drawC [0, 1, 2, 3, 4, 5, 6, 7, 8, 9, 10, 11] (by kernel_rfl) (by decide +kernel) (by repeat (first | exact blind_fn | refine blind_seq ?_ | refine blind_block ?_ | refine blind_loop ?_)) (S := [_, _]) rfl ?_
          refine HB.quiet [(0, false), (1, false), (2, false), (3, false), (4, false), (5, false), (6, false), (7, false), (8, false), (9, false), (10, false), (11, false)] 1 (by kernel_rfl) ?_
          repeat (first | ((first | apply HQ.move | apply HQ.nilCheck); (iterate 3 exact rfl)) | (apply HQ.fieldAddr; (iterate 3 exact rfl); exact inferInstance; exact rfl) | (apply HQ.load1; (iterate 3 exact rfl); apply Rd1.ofRow; (repeat (exact .here _ _ _)); (iterate 2 exact rfl)))
          refine HQ.index_slice (i := o) rfl rfl rfl rfl ho rfl ?_
          refine HQ.index_array (i := o) rfl rfl rfl rfl (by omega) rfl ?_
          refine HQ.load1 rfl rfl rfl (.at0 (Rd.ofRow (.there _ (.here _ _ _))) (by rw [Nat.zero_add, Nat.mul_one]; exact hgk)) rfl ?_
          repeat (((apply HQ.ar; (iterate 4 exact rfl)); (with_reducible apply wr_u64; omega); exact rfl))
          refine HQ.index_slice (i := o) rfl rfl rfl rfl ho rfl ?_
          refine HQ.index_array (i := o) rfl rfl rfl rfl (by omega) rfl ?_
          refine HQ.more rfl ?_
          refine HB.next [] (by kernel_rfl) (S' := []) rfl ?_
          refine HB.ev1 (i := 12) (by kernel_rfl) rfl ?_
          refine H.store1 (v := .int .u64 (W.kv o o + 1)) (ls := kRow n W.kv) (ls' := kRow n (W.say o ms).kv) rfl rfl rfl rfl (.there _ (.here _ _ _)) (by rw [Nat.zero_add, Nat.mul_one]; exact hset) ?_
          repeat ((apply H.nil))
          refine H.on0 rfl ?_
          refine HB.done (by kernel_rfl) ?_
          repeat (first | ((first | apply H.move | apply H.assign); (iterate 3 exact rfl)) | (first | apply H.region | apply H.nil | apply H.then_normal) | ((apply H.ar; (iterate 4 exact rfl)); (with_reducible apply wr_i64_n1; omega); exact rfl) | (apply H.in_normal))
          refine H.drop (x := row mb _ _) (by repeat (first | exact .here _ _ | apply Pull.there)) ?_
          refine H.drop (x := row xb _ _) (by repeat (first | exact .here _ _ | apply Pull.there)) ?_
          refine H.front (x := slc ap2 _ ac2 _ _ _) (by repeat (first | exact .here _ _ | apply Pull.there)) ?_
          refine H.front (x := row kb _ _) (by repeat (first | exact .here _ _ | apply Pull.there)) ?_
          refine H.front (x := row wb _ _) (by repeat (first | exact .here _ _ | apply Pull.there)) ?_
          refine H.again (k + 1, un G g, l ++ [⟨ms, qp, qc⟩], ap2, ac2) ⟨by show k + 1 ≤ xs.length; omega, by show (l ++ [(⟨ms, qp, qc⟩ : MV)]).map MV.m = _; rw [hnext, List.map_append, hm]; rfl, fun y hy => ?_, Dj.un3' hdj hd⟩ (by show xs.length - (k + 1) < xs.length - k; omega) ⟨rfl, rfl, rfl, trivial⟩ (un_assoc _ _ _) ?_
          · show y.Good (un f (un G g))
            rw [← un_assoc]
            have hy : y ∈ l ++ [(⟨ms, qp, qc⟩ : MV)] := hy
            rcases List.mem_append.1 hy with hy | hy
            · exact (hg y hy).mono (Le.un _ g)
            · rw [List.mem_singleton] at hy; subst hy; exact hmsg
          · show row wb _ (worldC kb n ap2 (l.length + 1) ac2) :: _ :: slc ap2 (l.length + 1) ac2 _ 121 (l.flatMap MV.vals ++ (⟨ms, qp, qc⟩ : MV).vals) :: F = row wb _ (worldC kb n ap2 (l ++ [(⟨ms, qp, qc⟩ : MV)]).length ac2) :: row kb _ (kRow n (worldOf n (xs.take (k + 1))).kv) :: slc ap2 (l ++ [(⟨ms, qp, qc⟩ : MV)]).length ac2 _ 121 ((l ++ [(⟨ms, qp, qc⟩ : MV)]).flatMap MV.vals) :: F
            rw [slc_snoc, hnext, List.length_append]
            rfl
      · refine H.alloc (ls := msgZ.vals none 0) rfl rfl rfl fun mb => ?_
        repeat ((apply H.nil))
        refine H.front (x := row kb _ _) (by repeat (first | exact .here _ _ | apply Pull.there)) ?_
        refine H.front (x := row wb _ _) (by repeat (first | exact .here _ _ | apply Pull.there)) ?_
        refine H.front (x := row xb _ _) (by repeat (first | exact .here _ _ | apply Pull.there)) ?_
        refine H.on0 rfl ?_
        refine HB.ev1 (i := 25) (by kernel_rfl) rfl ?_
        refine H.call rfl rfl rfl (abody_fn (un f G) _ (n := n) ⟨by omega, by omega⟩ hxa2 hxq) fun v f' A' hr => ?_
        obtain ⟨g, qp, qc, rfl, hqat, hd, rfl, rfl⟩ := hr
        have hgood : (⟨W.next n o x, qp, qc⟩ : MV).Good (un (un f G) g) := ⟨hqat, by have := (x.bod_q (n := n) (by omega)).1; show (x.bod n).q.length ≤ _; omega, x.bod_ok n⟩
        have hmsg := good_signed hgood
        have hmay : ∀ H, Fn Tryz.prog 54 [.agg ((W.next n o x).vals qp qc).toArray] (un (un f G) g) H (Ret (.bool (W.next n o x).may) (un (un f G) g) H) := fun H => rmay_fn (un (un f G) g) H hgood.1 (by have := hgood.2.1; show (W.next n o x).body.q.length ≤ _; have h2 : (W.next n o x).body.q.length ≤ 1000000 := this; omega)
        have hsg := fun H => rtagged_fn (un (un f G) g) H (m := W.next n o x) (q := qp) (qc := qc) hgood.1 (by have h2 : (W.next n o x).body.q.length ≤ 1000000 := hgood.2.1; omega)
        repeat ((apply H.nil))
        refine H.on [] (Le.un _ g) rfl ?_
        refine HB.quiet [(26, false)] 1 (by kernel_rfl) ?_
        refine HQ.build (t := 47) (out := (W.next n o x).vals qp qc) rfl rfl rfl (by kernel_rfl) rfl ?_
        refine HQ.more rfl ?_
        refine HB.ev1 (i := 28) (by kernel_rfl) rfl ?_
        refine H.storeN (ls := msgZ.vals none 0) (vs := (W.next n o x).vals qp qc) (ls' := (W.next n o x).vals qp qc) rfl rfl rfl (allOne_mem rfl) rfl rfl (Nat.le_refl 121) (by repeat (first | exact .here _ _ _ | apply At.there)) ?_
        repeat ((apply H.nil))
        refine H.on0 rfl ?_
        refine HB.done (by kernel_rfl) ?_
        repeat ((first | apply H.seq | apply H.region | apply H.then_normal))
        refine H.loadN (ls := (W.next n o x).vals qp qc) rfl rfl rfl (Rd.ofRow (by repeat (first | exact .here _ _ _ | apply At.there))) rfl rfl ?_
        cases hmy : (W.next n o x).may with
        | false =>
          rw [hmy] at hmay
          rw [if_neg (by rw [hmy]; decide)] at hnext
          refine H.callR rfl rfl rfl (hmay _) ?_
          repeat (first | ((first | apply H.move | apply H.assign); (iterate 3 exact rfl)) | (first | apply H.region | apply H.nil | apply H.then_normal) | ((apply H.ar; (iterate 4 exact rfl)); (with_reducible apply wr_i64_n1; omega); exact rfl) | (apply H.cond_false; exact rfl) | (first | apply H.skip | apply H.in_normal))
          refine H.drop (x := row mb _ _) (by repeat (first | exact .here _ _ | apply Pull.there)) ?_
          refine H.drop (x := row xb _ _) (by repeat (first | exact .here _ _ | apply Pull.there)) ?_
          refine H.front (x := slc ap _ ac _ _ _) (by repeat (first | exact .here _ _ | apply Pull.there)) ?_
          refine H.front (x := row kb _ _) (by repeat (first | exact .here _ _ | apply Pull.there)) ?_
          refine H.front (x := row wb _ _) (by repeat (first | exact .here _ _ | apply Pull.there)) ?_
          refine H.again (k + 1, un G g, l, ap, ac) ⟨by show k + 1 ≤ xs.length; omega, by show l.map MV.m = _; rw [hnext]; exact hm, fun y hy => by show y.Good (un f (un G g)); rw [← un_assoc]; exact (hg y hy).mono (Le.un _ g), Dj.un3' hdj hd⟩ (by show xs.length - (k + 1) < xs.length - k; omega) ⟨rfl, rfl, rfl, trivial⟩ (un_assoc _ _ _) ?_
          show _ :: _ :: _ = _ :: row kb _ (kRow n (worldOf n (xs.take (k + 1))).kv) :: _
          rw [hnext]
        | true =>
          rw [hmy] at hmay
          rw [if_pos hmy] at hnext
          refine H.callR rfl rfl rfl (hmay _) ?_
          repeat (first | (first | apply H.seq | apply H.nil | apply H.then_normal) | (apply H.cond_true; exact rfl))
          refine H.front (x := row wb _ _) (by repeat (first | exact .here _ _ | apply Pull.there)) ?_
          refine H.front (x := row mb _ _) (by repeat (first | exact .here _ _ | apply Pull.there)) ?_
          refine H.drawC [0, 1, 2, 3, 4, 5, 6, 7, 8] (by kernel_rfl) (by decide +kernel) (by repeat (first | exact blind_fn | refine blind_seq ?_ | refine blind_block ?_ | refine blind_loop ?_)) (S := [_, _]) rfl ?_
          refine HB.quiet [(0, false), (1, false), (2, false), (3, false), (4, false), (5, false)] 6 (by kernel_rfl) ?_
          repeat (first | ((first | apply HQ.move | apply HQ.nilCheck); (iterate 3 exact rfl)) | (apply HQ.fieldAddr; (iterate 3 exact rfl); exact inferInstance; exact rfl) | (apply HQ.load1; (iterate 3 exact rfl); apply Rd1.ofRow; (repeat (first | exact .here _ _ _ | apply At.there)); (iterate 2 exact rfl)))
          refine HQ.loadN (ls := (W.next n o x).vals qp qc) rfl rfl rfl (Rd.ofRow (.here _ _ _)) rfl rfl ?_
          refine HQ.more rfl ?_
          refine HB.ev1 (i := 6) (by kernel_rfl) rfl ?_
          refine H.callR rfl rfl rfl (hsg _) ?_
          generalize hms : (W.next n o x).signed = ms at *
          repeat ((apply H.nil))
          refine H.on0 rfl ?_
          refine HB.ev1 (i := 7) (by kernel_rfl) rfl ?_
          refine H.buildSlice (out := ms.vals qp qc) rfl rfl rfl rfl (by decide) (by decide) rfl rfl fun eb => ?_
          repeat ((apply H.nil))
          refine H.front (x := row wb _ _) (by repeat (first | exact .here _ _ | apply Pull.there)) ?_
          refine H.front (x := row mb _ _) (by repeat (first | exact .here _ _ | apply Pull.there)) ?_
          refine H.on0 rfl ?_
          refine HB.ev1 (i := 8) (by kernel_rfl) rfl ?_
          refine H.append (p := ap) (n0 := l.length) (c := ac) (xs := l.flatMap MV.vals) (m := 1) (news := ms.vals qp qc) rfl rfl rfl rfl rfl (fun p' c' => (by repeat (first | exact .here _ _ _ | apply At.there))) (Src.slice (Rd.ofRow (by repeat (first | exact .here _ _ _ | apply At.there))) rfl) (allOne_mem rfl) rfl (by omega) (by omega) fun ap2 ac2 => ?_
          repeat ((apply H.nil))
          refine H.drop (x := row eb _ _) (by repeat (first | exact .here _ _ | apply Pull.there)) ?_
          refine H.on0 rfl ?_
          refine HB.next [] (by kernel_rfl) (S' := []) rfl ?_
          refine HB.quiet [(9, false), (10, false)] 1 (by kernel_rfl) ?_
          repeat (first | ((apply HQ.nilCheck); (iterate 3 exact rfl)) | (apply HQ.fieldAddr; (iterate 3 exact rfl); exact inferInstance; exact rfl))
          refine HQ.more rfl ?_
          refine HB.ev1 (i := 11) (by kernel_rfl) rfl ?_
          refine H.store1 (ls := worldC kb n ap l.length ac) (ls' := worldC kb n ap2 (l.length + 1) ac2) rfl rfl rfl rfl (.there _ (.here _ _ _)) (.there _ (.here _ _ _)) ?_
          repeat ((apply H.nil))
          refine H.on0 rfl ?_
          refine HB.done (by kernel_rfl) ?_
          repeat ((apply H.then_normal))
          have hgk := kRow_get (kv := W.kv) ho (show o < 11 by omega)
          have hset := kRow_set (kv := W.kv) (W.kv o o + 1) ho (show o < 11 by omega)
          refine H.front (x := row kb _ _) (by repeat (first | exact .here _ _ | apply Pull.there)) ?_
          refine H.front (x := row wb _ _) (by repeat (first | exact .here _ _ | apply Pull.there)) ?_
          refine H.drawC [0, 1, 2, 3, 4, 5, 6, 7, 8, 9, 10, 11] (by kernel_rfl) (by decide +kernel) (by repeat (first | exact blind_fn | refine blind_seq ?_ | refine blind_block ?_ | refine blind_loop ?_)) (S := [_, _]) rfl ?_
          refine HB.quiet [(0, false), (1, false), (2, false), (3, false), (4, false), (5, false), (6, false), (7, false), (8, false), (9, false), (10, false), (11, false)] 1 (by kernel_rfl) ?_
          repeat (first | ((first | apply HQ.move | apply HQ.nilCheck); (iterate 3 exact rfl)) | (apply HQ.fieldAddr; (iterate 3 exact rfl); exact inferInstance; exact rfl) | (apply HQ.load1; (iterate 3 exact rfl); apply Rd1.ofRow; (repeat (exact .here _ _ _)); (iterate 2 exact rfl)))
          refine HQ.index_slice (i := o) rfl rfl rfl rfl ho rfl ?_
          refine HQ.index_array (i := o) rfl rfl rfl rfl (by omega) rfl ?_
          refine HQ.load1 rfl rfl rfl (.at0 (Rd.ofRow (.there _ (.here _ _ _))) (by rw [Nat.zero_add, Nat.mul_one]; exact hgk)) rfl ?_
          repeat (((apply HQ.ar; (iterate 4 exact rfl)); (with_reducible apply wr_u64; omega); exact rfl))
          refine HQ.index_slice (i := o) rfl rfl rfl rfl ho rfl ?_
          refine HQ.index_array (i := o) rfl rfl rfl rfl (by omega) rfl ?_
          refine HQ.more rfl ?_
          refine HB.next [] (by kernel_rfl) (S' := []) rfl ?_
          refine HB.ev1 (i := 12) (by kernel_rfl) rfl ?_
          refine H.store1 (v := .int .u64 (W.kv o o + 1)) (ls := kRow n W.kv) (ls' := kRow n (W.say o ms).kv) rfl rfl rfl rfl (.there _ (.here _ _ _)) (by rw [Nat.zero_add, Nat.mul_one]; exact hset) ?_
          repeat ((apply H.nil))
          refine H.on0 rfl ?_
          refine HB.done (by kernel_rfl) ?_
          repeat (first | ((first | apply H.move | apply H.assign); (iterate 3 exact rfl)) | (first | apply H.region | apply H.nil | apply H.then_normal) | ((apply H.ar; (iterate 4 exact rfl)); (with_reducible apply wr_i64_n1; omega); exact rfl) | (apply H.in_normal))
          refine H.drop (x := row mb _ _) (by repeat (first | exact .here _ _ | apply Pull.there)) ?_
          refine H.drop (x := row xb _ _) (by repeat (first | exact .here _ _ | apply Pull.there)) ?_
          refine H.front (x := slc ap2 _ ac2 _ _ _) (by repeat (first | exact .here _ _ | apply Pull.there)) ?_
          refine H.front (x := row kb _ _) (by repeat (first | exact .here _ _ | apply Pull.there)) ?_
          refine H.front (x := row wb _ _) (by repeat (first | exact .here _ _ | apply Pull.there)) ?_
          refine H.again (k + 1, un G g, l ++ [⟨ms, qp, qc⟩], ap2, ac2) ⟨by show k + 1 ≤ xs.length; omega, by show (l ++ [(⟨ms, qp, qc⟩ : MV)]).map MV.m = _; rw [hnext, List.map_append, hm]; rfl, fun y hy => ?_, Dj.un3' hdj hd⟩ (by show xs.length - (k + 1) < xs.length - k; omega) ⟨rfl, rfl, rfl, trivial⟩ (un_assoc _ _ _) ?_
          · show y.Good (un f (un G g))
            rw [← un_assoc]
            have hy : y ∈ l ++ [(⟨ms, qp, qc⟩ : MV)] := hy
            rcases List.mem_append.1 hy with hy | hy
            · exact (hg y hy).mono (Le.un _ g)
            · rw [List.mem_singleton] at hy; subst hy; exact hmsg
          · show row wb _ (worldC kb n ap2 (l.length + 1) ac2) :: _ :: slc ap2 (l.length + 1) ac2 _ 121 (l.flatMap MV.vals ++ (⟨ms, qp, qc⟩ : MV).vals) :: F = row wb _ (worldC kb n ap2 (l ++ [(⟨ms, qp, qc⟩ : MV)]).length ac2) :: row kb _ (kRow n (worldOf n (xs.take (k + 1))).kv) :: slc ap2 (l ++ [(⟨ms, qp, qc⟩ : MV)]).length ac2 _ 121 ((l ++ [(⟨ms, qp, qc⟩ : MV)]).flatMap MV.vals) :: F
            rw [slc_snoc, hnext, List.length_append]
            rfl
  · have e : k = xs.length := by omega
    subst e
    repeat (first | ((first | apply H.move | apply H.assign | apply H.len_slice); (iterate 3 exact rfl)) | (first | apply H.seq | apply H.region | apply H.nil | apply H.then_normal) | ((apply H.cmp); (iterate 5 exact rfl)) | (first | apply H.ret | apply H.then_exit | apply H.exit | apply H.in_hit | apply H.loop_exit) | (apply H.cond_no; exact rfl; (omega)))
    rw [show xs.take xs.length = xs from List.take_length] at hm ⊢
    refine H.freeze (x := row kb _ _) (by repeat (first | exact .here _ _ | apply Pull.there)) fun g1 hg1 hd1 => ?_
    refine H.freeze (x := slc ap _ ac _ _ _) (by repeat (first | exact .here _ _ | apply Pull.there)) fun g2 hg2 hd2 => ?_
    have e3 : un (un (un f G) g1) g2 = un f (un (un G g1) g2) := by rw [un_assoc, un_assoc, un_assoc]
    have hd3 : Dj f (un (un G g1) g2) := by
      have h1 := Dj.un3' hdj hd1
      rw [un_assoc] at hd2
      exact Dj.un3' h1 hd2
    refine H.ret1 rfl rfl (fun _ h => h) ⟨un (un G g1) g2, wb, kb, ap, ac, l, rfl, hd3, e3, rfl, ?_⟩
    have hle1 : Le (un f G) (un (un (un f G) g1) g2) := (Le.un _ g1).trans (Le.un _ g2)
    exact ⟨(KAt.of hg1 hd1).mono (Le.un _ g2), (slc_listAt MV.len hg2).mono (Le.right hd2), fun y hy => (hg y hy).mono hle1, hm⟩
end
end Go.Proofs.YtoigpgdmignaoaaGreatDoor

/- Layer 12: LoreForks. Condition: the table of the standard stands in the fragment. -/
namespace Go.Proofs.YtoigpgdmignaoaaGreatDoor
open Go
theorem ListAt.all {α : Type} {f : Frag} {p : Option Addr} {sz : Nat} {vals : α → List Value} {l : List α} (hv : ∀ x, (vals x).length = sz) (h1 : 0 < sz) (h : ListAt f p sz vals l) (h0 : 0 < l.length) :
    ∃ b off, p = some ⟨b, off, none⟩ ∧ ∀ (g : Frag) A i x, Le f g → l[i]? = some x → Rd g A b (off + i * sz) (vals x) := by
  obtain ⟨x0, hx0⟩ : ∃ x0, l[0]? = some x0 := ⟨_, List.getElem?_eq_getElem h0⟩
  obtain ⟨b, off, cs, T, fr, rfl, hfb, _⟩ := h 0 x0 hx0
  refine ⟨b, off, rfl, fun g A i x hle hx => ?_⟩
  obtain ⟨b', off', cs', T', fr', e, hfb', hcs'⟩ := h i x hx
  cases e
  exact Rd.imm (hle _ _ hfb') hcs'
theorem fewz_odd {n8 : UInt8} {n : Nat} (h : n = 3 + 2 * (n8.toNat % 5)) : fewZ (n : Int) := by
  refine ⟨by omega, by omega, ?_⟩
  exact tmod_nat (a := n) (b := 2) (r := 1) (by omega)
theorem few12_all {l : List A12} (h : few12 l = true) : l.length ≤ 100 ∧ ∀ x ∈ l, x.q.length ≤ 20 := by
  unfold few12 at h
  simp only [Bool.and_eq_true, decide_eq_true_eq, List.all_eq_true] at h
  exact h
section
variable (f : Frag) (F : List HP)
end
end Go.Proofs.YtoigpgdmignaoaaGreatDoor

/- Layer 12: LoreTells. Condition: the table of the standard stands in the fragment. -/
namespace Go.Proofs.YtoigpgdmignaoaaGreatDoor
open Go
theorem lore_up {f g : Frag} (h : Le f g) {lb n : Nat} {l : List MV} {A : List HP} : ∀ x, stars (loreH f lb n l :: A) x → stars (loreH g lb n l :: A) x :=
  fun _ ⟨h1, h2, hd, he, ha, hr⟩ => ⟨h1, h2, hd, he, loreH_mono h _ ha, hr⟩
section
variable (f : Frag) (F : List HP)
end
end Go.Proofs.YtoigpgdmignaoaaGreatDoor

/- The engine, part o: a whole element of an owned slice is turned. No program in sight; no conditions. -/
namespace Go.Proofs.YtoigpgdmignaoaaGreatDoor
open Go
theorem flat_splice {α : Type} {vals : α → List Value} {sz : Nat} (hv : ∀ x, (vals x).length = sz) {xs : List α} {i : Nat} (z : α) (hi : i < xs.length) (sp : List Value) :
    splice (xs.flatMap vals ++ sp) (i * sz) (vals z) = (xs.set i z).flatMap vals ++ sp := by
  have hx : xs[i]? = some xs[i] := List.getElem?_eq_getElem hi
  have hl : ((xs.take i).flatMap vals).length = i * sz := by rw [flat_len hv, List.length_take, Nat.min_eq_left (by omega)]
  have h2 : (xs.set i z)[i]? = some z := by rw [List.getElem?_set_self hi]
  have e1 : (xs.set i z).take i = xs.take i := by rw [List.take_set_of_le (Nat.le_refl _)]
  have e2 : (xs.set i z).drop (i + 1) = xs.drop (i + 1) := by rw [List.drop_set_of_lt (by omega)]
  rw [flat_split xs hx, flat_split (xs.set i z) h2, e1, e2]
  generalize (xs.take i).flatMap vals = pre at hl
  unfold splice
  have e3 : pre ++ vals xs[i] ++ (xs.drop (i + 1)).flatMap vals ++ sp = pre ++ (vals xs[i] ++ ((xs.drop (i + 1)).flatMap vals ++ sp)) := by simp
  rw [e3, ← hl, List.take_left, hv z, ← hv xs[i], ← List.drop_drop, List.drop_left, List.drop_left]
  simp
section
variable {P : Program} {base : World} {n : Nat} {L : Env} {f : Frag} {A : List HP} {q : Post} {l rest : List Oper} {ty : TypeId} {pos : String} {af : Array Edge} {gd : Option (Nat × Bool)}
theorem H.storeE {α : Type} {vals : α → List Value} {sz : Nat} {t : TypeId} {x y : Operand} {b n0 c : Nat} {T : TypeId} {xs : List α} {i : Nat} {z : α} {A' : List HP} [hs : Siz P t sz] (hv : ∀ x, (vals x).length = sz) (h0 : 0 < sz) (hone : ∀ v ∈ vals z, one v = true) (hw : want? l L gd = true)
    (hx : ev? L x = some (.pointer (some ⟨b, i * sz, none⟩))) (hy : ev? L y = some (.agg (vals z).toArray)) (hi : i < xs.length)
    (hA : At A (slc (some ⟨b, 0, none⟩) n0 c T sz (xs.flatMap vals)) A' (slc (some ⟨b, 0, none⟩) n0 c T sz ((xs.set i z).flatMap vals)))
    (k : H P base n L f A' (.ops l rest q)) : H P base n L f A (.ops l (⟨none, .store t x y, ty, pos, af, gd⟩ :: rest) q) :=
  H.opS hw (fun a w hfr s => by
    obtain ⟨hl, hc, h3⟩ := s.slc_at hA
    have hn : xs.length = n0 := by
      rw [flat_len hv] at hl
      exact Nat.eq_of_mul_eq_mul_right h0 hl
    rcases h3 with ⟨e, _⟩ | ⟨b', sp, e, hnc, hcs, hb⟩
    · omega
    · cases e
      have hle : i * sz + (vals z).length ≤ (xs.flatMap vals ++ sp).length := by
        rw [List.length_append, flat_len hv, hv]
        have : (i + 1) * sz ≤ xs.length * sz := Nat.mul_le_mul_right _ hi
        rw [Nat.add_mul] at this
        omega
      have h1 := run_storeCells (P := P) (off := i * sz) (vals z) (xs.flatMap vals ++ sp) 0 w hb hone hle
      have hne : vals z ≠ [] := by intro h; have := hv z; rw [h] at this; simp at this; omega
      rw [if_neg hne, Nat.add_zero, flat_splice hv z hi] at h1
      refine ⟨World.putRow' w b T ((xs.set i z).flatMap vals ++ sp), ?_, s.turnRow hA (b := b) (o' := .cells ((xs.set i z).flatMap vals ++ sp).toArray T (0, 0)) ?_ rfl rfl rfl ?_ ?_⟩
      · simp only [execOp, hfr.eval hx, hfr.eval hy, Instr.storeAt, Instr.sureAddr, storeVar, Value.cells, Sem.run_bind, Sem.run_pure, Result.andThen_ok, hs.run, List.size_toArray, hv]
        simp [h1]
      · rintro m1 ⟨_, _, h⟩
        rcases h with ⟨h, _⟩ | ⟨b', sp', h, _, hcs', rfl⟩
        · omega
        · cases h; exact ⟨_, rfl⟩
      · rfl
      · have e4 : ((xs.set i z).flatMap vals).length = (xs.flatMap vals).length := by rw [flat_len hv, flat_len hv, List.length_set]
        refine ⟨by rw [e4]; exact hl, hc, .inr ⟨b, sp, rfl, hnc, ?_, rfl⟩⟩
        rw [List.length_append, e4, ← List.length_append]
        exact hcs) k
end
end Go.Proofs.YtoigpgdmignaoaaGreatDoor

/- Layer 12: LorePlays. Condition: the table of the standard stands in the fragment. -/
namespace Go.Proofs.YtoigpgdmignaoaaGreatDoor
open Go
structure MV.Fine (f : Frag) (x : MV) : Prop where
  g : x.Good f
  p : Pos x.m
theorem un_swap' {e m g : Frag} (h1 : Dj e m) (h2 : Dj (un e m) g) : un (un e m) g = un (un e g) m ∧ Dj (un e g) m := by
  have h3 := Dj.un_left.1 h2
  refine ⟨?_, Dj.un_left.2 ⟨h1, h3.2.symm⟩⟩
  rw [un_assoc, un_assoc, un_comm h3.2]
theorem chk_len {l : List MV} {m : Msg} {y z : MV} {M : List MV} (h : l.map MV.m = M.map MV.m) (hy : y.m = m) (hz : z.m = m) (c : Int) : (if c = 0 then l ++ [y] else l).map MV.m = (if c = 0 then M ++ [z] else M).map MV.m := by
  split
  · rw [List.map_append, List.map_append, h]
    show _ ++ [y.m] = _ ++ [z.m]
    rw [hy, hz]
  · exact h
theorem since_all {n : Nat} {l : List Msg} (h : LOK n l) (hl : l.length ≤ 1000) : sinceM (fun _ => 0) 1000 l = l := by
  have e : unk (fun _ => 0) l = l := by
    unfold unk
    rw [List.filter_eq_self]
    intro x hx
    obtain ⟨q, hq⟩ := strm_mem hx
    have := h.numA hq
    rw [decide_eq_true_eq]
    show (0 : Int) < x.number
    omega
  unfold sinceM
  rw [e]
  exact List.take_of_length_le (by show l.length ≤ 1000; exact hl)
section
variable (f : Frag) (F : List HP)
set_option maxRecDepth 20000 in
set_option maxHeartbeats 6400000 in
theorem plays12_fn (htab : TabAt f) {n8 : UInt8} {p : Option Addr} {c : Nat} {xs : List A12} (hat : ListAt f p 8 A12.vals xs) (hh : ∀ x ∈ xs, x.Has f) (hxl : xs.length ≤ 9223372036854775807)
    {op : Option Addr} {oc : Nat} {ord : List UInt8} (hord : BAt f op ord) (hol : ord.length ≤ 9223372036854775807) {wp : Option Addr} {wc : Nat} {raw : List MV} (hraw : ListAt f wp 121 MV.vals raw) (hrh : ∀ x ∈ raw, x.Has f ∧ Pos x.m) (hrl : raw.length ≤ 9223372036854775807) {v : Nat → Int} {most : Int} :
    Fn Tryz.prog 5 [.int .u8 (n8.toNat : Nat), .slice p xs.length c, .slice op ord.length oc, .slice wp raw.length wc, .agg (v11 v).toArray, .int .i64 most] f F (Ret (.bool true) f F) := by
  have hfew := fun G => few12_fn f G (c := c) hat hxl
  have hfm := fun G => few12m_fn f G (c := wc) hraw hrl
  cases hf : few12 xs with
  | false =>
    rw [hf] at hfew
    refine Fn.enter Tryz.func5 rfl Tryz.ntmps5 rfl (L := [(0, _), (1, _), (2, _), (3, _), (4, _), (5, _)]) ⟨rfl, rfl, rfl, rfl, rfl, rfl, trivial⟩ fun base => ?_
    repeat ((first | apply H.seq | apply H.region))
    refine H.box (ls := v11 v) rfl rfl rfl rfl fun vb => ?_
    repeat (first | ((first | apply H.move | apply H.assign); (iterate 3 exact rfl)) | (first | apply H.seq | apply H.region | apply H.nil | apply H.then_normal))
    refine H.callR rfl rfl rfl (hfew _) ?_
    refine H.not (b := _) (c := _) rfl rfl rfl rfl ?_
    repeat (first | ((first | apply H.move | apply H.len_slice); (iterate 3 exact rfl)) | (first | apply H.seq | apply H.region | apply H.nil | apply H.then_normal) | (apply H.pass; (iterate 2 exact rfl)) | (apply H.pickT; (iterate 4 exact rfl)) | (apply H.cond_true; exact rfl))
    refine H.callR rfl rfl rfl (works12_fn f _ htab) ?_
    repeat (first | ((apply H.assign); (iterate 3 exact rfl)) | (first | apply H.nil | apply H.then_normal) | (first | apply H.ret | apply H.then_ret))
    refine H.drop (.here _ _) ?_
    exact H.ret1 rfl rfl (fun _ h => h) ⟨rfl, rfl, rfl⟩
  | true =>
    rw [hf] at hfew
    obtain ⟨hl100, hq20⟩ := few12_all hf
    by_cases h150 : ord.length ≤ 150
    · cases hfm2 : fewM raw with
      | false =>
        rw [hfm2] at hfm
        refine Fn.enter Tryz.func5 rfl Tryz.ntmps5 rfl (L := [(0, _), (1, _), (2, _), (3, _), (4, _), (5, _)]) ⟨rfl, rfl, rfl, rfl, rfl, rfl, trivial⟩ fun base => ?_
        repeat ((first | apply H.seq | apply H.region))
        refine H.box (ls := v11 v) rfl rfl rfl rfl fun vb => ?_
        repeat (first | ((first | apply H.move | apply H.assign); (iterate 3 exact rfl)) | (first | apply H.seq | apply H.region | apply H.nil | apply H.then_normal))
        refine H.callR rfl rfl rfl (hfew _) ?_
        refine H.not (b := _) (c := _) rfl rfl rfl rfl ?_
        repeat (first | ((first | apply H.move | apply H.len_slice); (iterate 3 exact rfl)) | ((apply H.cmp); (iterate 5 exact rfl)) | ((apply H.pickF); (iterate 4 exact rfl)) | (apply H.gno; (iterate 3 exact rfl); (omega)))
        refine H.callR rfl rfl rfl (hfm _) ?_
        refine H.not (b := _) (c := _) rfl rfl rfl rfl ?_
        repeat (first | (first | apply H.seq | apply H.region | apply H.nil | apply H.then_normal) | ((apply H.pickF); (iterate 4 exact rfl)) | (apply H.cond_true; exact rfl))
        refine H.callR rfl rfl rfl (works12_fn f _ htab) ?_
        repeat (first | ((apply H.assign); (iterate 3 exact rfl)) | (first | apply H.nil | apply H.then_normal) | (first | apply H.ret | apply H.then_ret))
        refine H.drop (.here _ _) ?_
        exact H.ret1 rfl rfl (fun _ h => h) ⟨rfl, rfl, rfl⟩
      | true =>
        rw [hfm2] at hfm
        obtain ⟨n, hn8⟩ : ∃ n, n = 3 + 2 * (n8.toNat % 5) := ⟨_, rfl⟩
        have hn3 : 3 ≤ n ∧ n ≤ 11 := by omega
        have hacts := fun G => acts_fn f G hn8 (c := c) hat (fun x hx => ⟨hh x hx, hq20 x hx⟩) hl100
        have hinv : WInv n (worldOf n xs) := by have := worldOf_inv (n := n) (by omega) hn3.2 xs xs.length; rwa [List.take_length] at this
        have hwl : (worldOf n xs).all.length ≤ 100 := by have := worldOf_len n xs xs.length; rw [List.take_length] at this; omega
        generalize worldOf n xs = W at *
        have hrf : raw.length ≤ 30 ∧ ∀ x ∈ raw, x.m.body.q.length ≤ 20 := by
          unfold fewM at hfm2
          simp only [Bool.and_eq_true, decide_eq_true_eq, List.all_eq_true] at hfm2
          exact hfm2
        have hrg : ∀ x ∈ raw, x.Fine f := fun x hx => ⟨good_few (hrh x hx).1 (hrf.2 x hx), (hrh x hx).2⟩
        refine Fn.enter Tryz.func5 rfl Tryz.ntmps5 rfl (L := [(0, _), (1, _), (2, _), (3, _), (4, _), (5, _)]) ⟨rfl, rfl, rfl, rfl, rfl, rfl, trivial⟩ fun base => ?_
        repeat ((first | apply H.seq | apply H.region))
        refine H.box (ls := v11 v) rfl rfl rfl rfl fun vb => ?_
        repeat (first | ((first | apply H.move | apply H.assign); (iterate 3 exact rfl)) | (first | apply H.seq | apply H.region | apply H.nil | apply H.then_normal))
        refine H.callR rfl rfl rfl (hfew _) ?_
        refine H.not (b := _) (c := _) rfl rfl rfl rfl ?_
        repeat (first | ((first | apply H.move | apply H.len_slice); (iterate 3 exact rfl)) | ((apply H.cmp); (iterate 5 exact rfl)) | ((apply H.pickF); (iterate 4 exact rfl)) | (apply H.gno; (iterate 3 exact rfl); (omega)))
        refine H.callR rfl rfl rfl (hfm _) ?_
        refine H.not (b := _) (c := _) rfl rfl rfl rfl ?_
        repeat (first | ((apply H.move); (iterate 3 exact rfl)) | (first | apply H.seq | apply H.region | apply H.nil | apply H.then_normal) | ((apply H.pickF); (iterate 4 exact rfl)) | (apply H.cond_false; exact rfl) | (apply H.skip))
        refine H.call rfl rfl rfl (hacts _) fun v' f' A' hr => ?_
        obtain ⟨g, wb, kb, ap, ac, l, rfl, hd, rfl, rfl, hwat⟩ := hr
        have le1 := Le.un f g
        generalize un f g = f1 at *
        have hlm := hwat.m
        have hll : l.length = W.all.length := by rw [← hlm, List.length_map]
        clear hacts hfew hfm
        repeat (first | ((apply H.assign); (iterate 3 exact rfl)) | (first | apply H.seq | apply H.region | apply H.nil | apply H.then_normal))
        refine H.buildSlice (out := []) rfl rfl rfl rfl (by decide) (by decide) rfl rfl fun eb => ?_
        refine H.asSlc (k := 0) (sz := 121) rfl (by decide) ?_
        repeat (first | ((first | apply H.move | apply H.nilCheck); (iterate 3 exact rfl)) | (apply H.fieldAddr; (iterate 3 exact rfl); exact inferInstance; exact rfl) | (apply H.load1; (iterate 3 exact rfl); apply Rd1.ofRow; (repeat (first | exact .here _ _ _ | apply At.there)); (iterate 2 exact rfl)))
        refine H.append (xs := []) (m := l.length) (news := l.flatMap MV.vals) rfl rfl rfl rfl rfl (fun p' c' => .here _ _ _) (hwat.a.src MV.len (by decide)) (MVs_one l) rfl (by omega) (by omega) fun bp bc => ?_
        rw [Nat.zero_add, List.nil_append]
        repeat (((apply H.move); (iterate 3 exact rfl)))
        refine H.append (xs := l.flatMap MV.vals) (m := raw.length) (news := raw.flatMap MV.vals) rfl rfl rfl rfl rfl (fun p' c' => .here _ _ _) ((hraw.mono le1).src MV.len (by decide)) (MVs_one raw) rfl (by omega) (by omega) fun dp dc => ?_
        rw [show l.length + raw.length = (l ++ raw).length from List.length_append.symm, show l.flatMap MV.vals ++ raw.flatMap MV.vals = (l ++ raw).flatMap MV.vals from List.flatMap_append.symm]
        refine H.freeze (.here _ _) fun ga hga hda => ?_
        have hall : ListAt (un f1 ga) dp 121 MV.vals (l ++ raw) := (slc_listAt MV.len hga).mono (Le.right hda)
        have le2 := le1.trans (Le.un f1 ga)
        have hfine : ∀ x ∈ l ++ raw, x.Fine (un f1 ga) := fun x hx => by
          rcases List.mem_append.1 hx with hx | hx
          · refine ⟨(hwat.g x hx).mono (Le.un f1 ga), ?_⟩
            obtain ⟨j, hj⟩ := List.getElem?_of_mem hx
            have hjm : W.all[j]? = some x.m := by rw [← hlm, List.getElem?_map, hj]; rfl
            exact fun i hi => ((hinv.ok j x.m hjm).dep i hi).1
          · exact ⟨(hrg x hx).g.mono le2, (hrg x hx).p⟩
        have hallen : (l ++ raw).length ≤ 130 := by rw [List.length_append]; omega
        generalize un f1 ga = f2 at *
        generalize l ++ raw = all at *
        clear hwat hinv hda hga hd
        repeat (first | ((first | apply H.move | apply H.assign | apply H.nilCheck | apply H.len_slice); (iterate 3 exact rfl)) | (apply H.fieldAddr; (iterate 3 exact rfl); exact inferInstance; exact rfl) | (apply H.load1; (iterate 3 exact rfl); apply Rd1.ofRow; (repeat (exact .here _ _ _)); (iterate 2 exact rfl)) | (first | apply H.seq | apply H.region | apply H.nil | apply H.then_normal))
        refine H.callE rfl rfl rfl (lnew_fn f2 _ (fewz_odd hn8)) fun la => ?_
        repeat (first | ((first | apply H.move | apply H.assign | apply H.nilCheck | apply H.len_slice); (iterate 3 exact rfl)) | (apply H.fieldAddr; (iterate 3 exact rfl); exact inferInstance; exact rfl) | (apply H.load1; (iterate 3 exact rfl); apply Rd1.ofRow; (repeat (first | exact .here _ _ _ | apply At.there)); (iterate 2 exact rfl)) | (first | apply H.seq | apply H.region | apply H.nil | apply H.then_normal) | ((apply H.extract); (iterate 4 exact rfl)))
        refine H.callE rfl rfl rfl (rlnew_fn f2 _ (fewz_odd hn8)) fun rb => ?_
        repeat (first | ((first | apply H.move | apply H.assign); (iterate 3 exact rfl)) | (first | apply H.seq | apply H.region | apply H.nil | apply H.then_normal) | ((apply H.cmp); (iterate 5 exact rfl)) | ((first | apply H.pickF | apply H.extract); (iterate 4 exact rfl)) | ((apply H.ptrNil); (iterate 5 exact rfl)) | (apply H.cond_false; exact rfl) | (first | apply H.skip | apply H.block))
        refine H.front (x := row vb _ _) (by repeat (first | exact .here _ _ | apply Pull.there)) ?_
        refine H.front (x := refL _ _ _ _) (by repeat (first | exact .here _ _ | apply Pull.there)) ?_
        refine H.front (x := loreH _ _ _ _) (by repeat (first | exact .here _ _ | apply Pull.there)) ?_
        refine H.loop (ι := Nat × Frag × List MV × List MV) (fun s => [(19, .int .i64 (s.1 : Int)), (2, .slice op ord.length oc), (14, .slice dp all.length dc), (15, .pointer (some ⟨la, 0, none⟩)), (17, .pointer (some ⟨rb, 0, none⟩)), (10, .pointer (some ⟨vb, 0, none⟩)), (5, .int .i64 most)]) (fun s => s.2.1)
          (fun s => loreH s.2.1 la n s.2.2.1 :: refL s.2.1 rb n s.2.2.2 :: row vb 37 (v11 v) :: row wb 34 (worldC kb n ap l.length ac) :: F)
          (fun s => s.1 ≤ ord.length ∧ Le f2 s.2.1 ∧ s.2.2.1.map MV.m = s.2.2.2.map MV.m ∧ s.2.2.1.length ≤ s.1) (fun s => ord.length - s.1) (0, f2, [], []) ⟨Nat.zero_le _, Le.refl f2, rfl, Nat.le_refl 0⟩ ⟨rfl, rfl, rfl, rfl, rfl, rfl, rfl, trivial⟩ rfl rfl fun s hs => ?_
        obtain ⟨i, e, L, M⟩ := s
        obtain ⟨hi, hle, hLM, hLl⟩ : i ≤ ord.length ∧ Le f2 e ∧ L.map MV.m = M.map MV.m ∧ L.length ≤ i := hs
        have hLMl : L.length = M.length := by have := congrArg List.length hLM; rwa [List.length_map, List.length_map] at this
        have hfe : Le f e := le2.trans hle
        show H _ _ _ [(19, .int .i64 (i : Int)), _, _, _, _, _, _] e (loreH e la n L :: refL e rb n M :: _ :: _ :: F) _
        by_cases hlt : i < ord.length
        · by_cases hal : 0 < all.length
          · skip
            rcases hord with e0 | ⟨b, off, cs, T, fr, rfl, hfb, hcs⟩
            · rw [e0] at hlt; exact absurd hlt (by simp)
            · have hrdo : ∀ A, Rd e A b off (bytesV ord) := fun A => Rd.imm (hfe b _ hfb) fun j hj => by rw [bytesV_len] at hj; exact hcs j hj
              obtain ⟨w8, hw8⟩ : ∃ w8, ord[i]? = some w8 := ⟨_, List.getElem?_eq_getElem hlt⟩
              have hby : (bytesV ord)[i]? = some (.int .u8 (w8.toNat : Nat)) := by unfold bytesV; rw [List.getElem?_map, hw8]; rfl
              obtain ⟨k, hke⟩ : ∃ k, k = w8.toNat % all.length := ⟨_, rfl⟩
              have hk : k < all.length := by rw [hke]; exact Nat.mod_lt _ hal
              have hw8l := w8.toNat_lt
              obtain ⟨y, hy⟩ : ∃ y, all[k]? = some y := ⟨_, List.getElem?_eq_getElem hk⟩
              have hyf := hfine y (List.mem_of_getElem? hy)
              have hyg : y.Good e := hyf.g.mono hle
              have hql := hyg.2.1
              obtain ⟨ab, aoff, rfl, rdA⟩ := hall.all MV.len (by decide) hal
              repeat (first | ((first | apply H.move | apply H.len_slice); (iterate 3 exact rfl)) | (first | apply H.seq | apply H.region | apply H.nil | apply H.then_normal) | ((apply H.cmp); (iterate 5 exact rfl)) | (apply H.pickT; (iterate 4 exact rfl)) | (first | apply H.skip | apply H.block) | (apply H.gyes; (iterate 3 exact rfl); (omega)) | (apply H.cond_yes; exact rfl; (omega)))
              refine H.index1 (i := i) rfl rfl rfl rfl hlt rfl ?_
              refine H.load1 rfl rfl rfl (Rd1.of (hrdo _) hby) rfl ?_
              repeat (first | ((first | apply H.move | apply H.len_slice); (iterate 3 exact rfl)) | ((apply H.conv_int; (iterate 2 exact rfl)); (with_reducible apply wr_i64; omega); exact rfl))
              refine H.rem (z := ((k : Nat) : Int)) rfl rfl rfl (by omega) (tmod_nat (a := w8.toNat) (b := all.length) hke.symm) rfl ?_
              refine H.index_slice (i := k) rfl rfl rfl rfl hk rfl ?_
              refine H.loadN (ls := y.vals) rfl rfl rfl (rdA _ _ _ _ hle hy) rfl rfl ?_
              refine H.alloc (ls := msgZ.vals none 0) rfl rfl rfl fun mb => ?_
              refine H.storeN (ls := msgZ.vals none 0) (vs := y.vals) (ls' := y.vals) rfl rfl rfl (allOne_mem rfl) rfl rfl (Nat.le_refl 121) (.here _ _ _) ?_
              repeat ((first | apply H.seq | apply H.region | apply H.nil | apply H.then_normal))
              refine H.loadN (ls := y.vals) rfl rfl rfl (Rd.ofRow (.here _ _ _)) rfl rfl ?_
              refine H.alloc (ls := msgZ.vals none 0) rfl rfl rfl fun ob => ?_
              refine H.storeN (ls := msgZ.vals none 0) (vs := y.vals) (ls' := y.vals) rfl rfl rfl (allOne_mem rfl) rfl rfl (Nat.le_refl 121) (.here _ _ _) ?_
              repeat ((first | apply H.seq | apply H.region | apply H.nil | apply H.then_normal))
              refine H.buildSlice (out := []) rfl rfl rfl rfl (by decide) (by decide) rfl rfl fun qb => ?_
              refine H.asSlc (k := 0) (sz := 2) rfl (by decide) ?_
              refine H.front (x := row ob _ _) (by repeat (first | exact .here _ _ | apply Pull.there)) ?_
              refine H.front (x := slc _ _ _ _ _ _) (by repeat (first | exact .here _ _ | apply Pull.there)) ?_
              repeat (first | (apply H.fieldAddr; (iterate 3 exact rfl); exact inferInstance; exact rfl) | (apply H.load1; (iterate 3 exact rfl); apply Rd1.ofRow; (repeat (first | exact .here _ _ _ | apply At.there)); (iterate 2 exact rfl)))
              have hqat : ListAt e y.qp 2 pairV y.m.body.q := hyg.1
              refine H.append (xs := []) (m := y.m.body.q.length) (news := y.m.body.q.flatMap pairV) rfl rfl rfl rfl rfl (fun p' c' => .here _ _ _) (ListAt.src (vals := pairV) (fun _ => rfl) (by decide) hqat) (pairsV_one _) rfl (by omega) (by omega) fun qp2 qc2 => ?_
              rw [Nat.zero_add, List.nil_append]
              repeat (first | ((apply H.move); (iterate 3 exact rfl)) | (apply H.fieldAddr; (iterate 3 exact rfl); exact inferInstance; exact rfl) | (first | apply H.seq | apply H.region | apply H.nil | apply H.then_normal) | (apply H.store1; (iterate 4 exact rfl); (repeat (first | exact .here _ _ _ | apply At.there)); (repeat (first | exact .here _ _ _ | apply SetV.there))))
              refine H.freeze (.here _ _) fun gq hgq hdq => ?_
              have hgq' : qs qp2 qc2 y.m.body.q gq := hgq
              have hog : (⟨y.m, qp2, qc2⟩ : MV).Good (un e gq) := ⟨qs_qat hgq' hdq, hyg.2⟩
              have hfq : Le f (un e gq) := hfe.trans (Le.un e gq)
              have hck : ∀ G, Fn Tryz.prog 23 [.pointer (some ⟨la, 0, none⟩), .agg (y.m.vals qp2 qc2).toArray] (un e gq) (loreH e la n L :: G) (Ret (.int .i64 (chk n (strm (L.map MV.m)) y.m)) (un e gq) (loreH e la n L :: G)) := fun G => lcheck_fn (un e gq) G (tab_mono htab hfq) (x := ⟨y.m, qp2, qc2⟩) hog
              refine H.loadN (ls := y.m.vals qp2 qc2) rfl rfl rfl (Rd.ofRow (.here _ _ _)) rfl rfl ?_
              refine H.front (x := loreH _ _ _ _) (by repeat (first | exact .here _ _ | apply Pull.there)) ?_
              refine H.callR rfl rfl rfl (hck _) ?_
              repeat (first | ((first | apply H.move | apply H.assign); (iterate 3 exact rfl)) | (first | apply H.seq | apply H.region | apply H.nil | apply H.then_normal))
              refine H.loadN (ls := y.m.vals qp2 qc2) rfl rfl rfl (Rd.ofRow (.there _ (.here _ _ _))) rfl rfl ?_
              refine H.call (R := AddQ (un e gq) _ e la n L y.m) rfl rfl rfl (laddQ_fn (un e gq) _ (tab_mono htab hfq) (Le.un e gq) (x := ⟨y.m, qp2, qc2⟩) hog (by omega)) fun v' f' A' hr => ?_
              obtain ⟨g2, q3, c3, rfl, hd2, rfl, rfl⟩ := hr
              obtain ⟨hsw, hdsw⟩ := un_swap' hdq hd2
              rw [hsw]
              refine H.thaw hgq hdsw ?_
              have hle2 := hle.trans (Le.un e g2)
              have hup := Le.un e g2
              have hfe2 := hfe.trans (Le.un e g2)
              clear hdsw hd2 hog hck hfq hsw hgq' hgq hdq
              generalize un e g2 = e2 at hle2 hup hfe2 ⊢
              have hz2 : chk n (strm (M.map MV.m)) y.m = chk n (strm (L.map MV.m)) y.m := by rw [hLM]
              have hradd : ∀ G, Fn Tryz.prog 27 [.pointer (some ⟨rb, 0, none⟩), .agg y.vals.toArray] e2 (refL e rb n M :: G) (Ret (.int .i64 (chk n (strm (L.map MV.m)) y.m)) e2 (refL e rb n (if chk n (strm (L.map MV.m)) y.m = 0 then M ++ [y] else M) :: G)) := fun G => by
                have h := rladd_fn e2 G hup (rb := rb) (n := n) (l := M) hyg hyf.p (by omega)
                rw [hz2] at h
                exact h
              clear hz2
              have hLM2 : (if chk n (strm (L.map MV.m)) y.m = 0 then L ++ [⟨y.m, q3, c3⟩] else L).map MV.m = (if chk n (strm (L.map MV.m)) y.m = 0 then M ++ [y] else M).map MV.m := chk_len (y := (⟨y.m, q3, c3⟩ : MV)) (z := y) (m := y.m) hLM rfl rfl _
              have hLl2 : (if chk n (strm (L.map MV.m)) y.m = 0 then L ++ [⟨y.m, q3, c3⟩] else L).length ≤ i + 1 := by
                split
                · rw [List.length_append]; show L.length + 1 ≤ _; omega
                · omega
              generalize (if chk n (strm (L.map MV.m)) y.m = 0 then L ++ [(⟨y.m, q3, c3⟩ : MV)] else L) = L2 at hLM2 hLl2 ⊢
              generalize (if chk n (strm (L.map MV.m)) y.m = 0 then M ++ [y] else M) = M2 at hLM2 hradd ⊢
              generalize chk n (strm (L.map MV.m)) y.m = z at hradd ⊢
              have hll2 : L2.length = M2.length := by have := congrArg List.length hLM2; rwa [List.length_map, List.length_map] at this
              repeat (first | ((first | apply H.move | apply H.assign); (iterate 3 exact rfl)) | (first | apply H.seq | apply H.region | apply H.nil | apply H.then_normal))
              refine H.loadN (ls := y.vals) rfl rfl rfl (Rd.ofRow (by repeat (first | exact .here _ _ _ | apply At.there))) rfl rfl ?_
              refine H.front (x := refL _ _ _ _) (by repeat (first | exact .here _ _ | apply Pull.there)) ?_
              refine H.callR rfl rfl rfl (hradd _) ?_
              refine H.imp (ref_up hup) ?_
              repeat (first | ((apply H.assign); (iterate 3 exact rfl)) | (first | apply H.seq | apply H.region | apply H.nil | apply H.then_normal) | (apply H.block))
              refine H.front (x := loreH _ _ _ _) (by repeat (first | exact .here _ _ | apply Pull.there)) ?_
              refine H.front (x := row mb _ _) (by repeat (first | exact .here _ _ | apply Pull.there)) ?_
              refine H.front (x := row ob _ _) (by repeat (first | exact .here _ _ | apply Pull.there)) ?_
              refine H.front (x := slc qp2 _ qc2 _ _ _) (by repeat (first | exact .here _ _ | apply Pull.there)) ?_
              refine H.loop (ι := Nat × List (Int × Int)) (fun s => [(25, .int .i64 (s.1 : Int)), (21, .pointer (some ⟨ob, 0, none⟩)), (20, .pointer (some ⟨mb, 0, none⟩)), (22, .int .i64 z), (23, .int .i64 z), (24, .int .i64 z), (19, .int .i64 (i : Int)), (2, .slice (some ⟨b, off, none⟩) ord.length oc), (14, .slice (some ⟨ab, aoff, none⟩) all.length dc), (15, .pointer (some ⟨la, 0, none⟩)), (17, .pointer (some ⟨rb, 0, none⟩)), (10, .pointer (some ⟨vb, 0, none⟩)), (5, .int .i64 most)]) (fun _ => e2)
                (fun s => slc qp2 y.m.body.q.length qc2 61 2 (s.2.flatMap pairV) :: row ob 47 (y.m.vals qp2 qc2) :: row mb 47 y.vals :: loreH e2 la n L2 :: refL e2 rb n M2 :: row vb 37 (v11 v) :: row wb 34 (worldC kb n ap l.length ac) :: F)
                (fun s => s.1 ≤ y.m.body.q.length ∧ s.2.length = y.m.body.q.length) (fun s => y.m.body.q.length - s.1) (0, y.m.body.q) ⟨Nat.zero_le _, rfl⟩ ⟨rfl, rfl, rfl, rfl, rfl, rfl, rfl, rfl, rfl, rfl, rfl, rfl, rfl, trivial⟩ rfl rfl fun s hs => ?_
              obtain ⟨kk, q2⟩ := s
              obtain ⟨hkk, hq2⟩ : kk ≤ y.m.body.q.length ∧ q2.length = y.m.body.q.length := hs
              by_cases hkl : kk < y.m.body.q.length
              · refine H.slc_some (.here _ _ _) (by omega) fun sb hsb => ?_
                subst hsb
                repeat (first | (refine H.build (t := 61) (out := pairV (0, 0)) rfl rfl rfl (by kernel_rfl) rfl ?_) | ((first | apply H.move | apply H.len_slice); (iterate 3 exact rfl)) | (apply H.fieldAddr; (iterate 3 exact rfl); exact inferInstance; exact rfl) | (apply H.load1; (iterate 3 exact rfl); apply Rd1.ofRow; (repeat (first | exact .here _ _ _ | apply At.there)); (iterate 2 exact rfl)) | (first | apply H.seq | apply H.region | apply H.nil | apply H.then_normal) | ((apply H.cmp); (iterate 5 exact rfl)) | (first | apply H.skip | apply H.block) | (apply H.cond_yes; exact rfl; (omega)))
                refine H.index0 rfl rfl rfl rfl hkl rfl ?_
                refine H.storeE (vals := pairV) (xs := q2) (i := kk) (z := (0, 0)) (fun _ => rfl) (by decide) (allOne_mem rfl) rfl rfl rfl (by omega) (.here _ _ _) ?_
                repeat (first | ((first | apply H.move | apply H.assign); (iterate 3 exact rfl)) | (first | apply H.region | apply H.nil | apply H.then_normal) | ((apply H.ar; (iterate 4 exact rfl)); (with_reducible apply wr_i64_n1; omega); exact rfl) | (apply H.in_normal))
                exact H.again (kk + 1, q2.set kk (0, 0)) ⟨by show kk + 1 ≤ y.m.body.q.length; omega, by show (q2.set kk (0, 0)).length = _; rw [List.length_set]; exact hq2⟩ (by show y.m.body.q.length - (kk + 1) < y.m.body.q.length - kk; omega) ⟨rfl, rfl, rfl, rfl, rfl, rfl, rfl, rfl, rfl, rfl, rfl, rfl, rfl, trivial⟩ rfl rfl
              · repeat (first | ((first | apply H.move | apply H.len_slice); (iterate 3 exact rfl)) | (apply H.fieldAddr; (iterate 3 exact rfl); exact inferInstance; exact rfl) | (apply H.load1; (iterate 3 exact rfl); apply Rd1.ofRow; (repeat (first | exact .here _ _ _ | apply At.there)); (iterate 2 exact rfl)) | (first | apply H.seq | apply H.region | apply H.nil | apply H.then_normal) | ((apply H.cmp); (iterate 5 exact rfl)) | (first | apply H.then_exit | apply H.exit | apply H.in_hit | apply H.loop_exit) | (apply H.cond_no; exact rfl; (omega)))
                refine H.drop (.here _ _) ?_
                refine H.drop (.here _ _) ?_
                refine H.front (x := refL _ _ _ _) (by repeat (first | exact .here _ _ | apply Pull.there)) ?_
                refine H.unpack fun ri hri => ?_
                obtain ⟨rp2, rc2⟩ := ri
                have hkn : ∀ G, Fn Tryz.prog 20 [.pointer (some ⟨la, 0, none⟩)] e2 (loreH e2 la n L2 :: G) (Ret (.agg (v11 (knownS (strm (M2.map MV.m)))).toArray) e2 (loreH e2 la n L2 :: G)) := fun G => by
                  have h := known_fn e2 G (fl := e2) (lb := la) (n := n) (l := L2)
                  rw [hLM2] at h
                  exact h
                refine H.front (x := row rb _ _) (by repeat (first | exact .here _ _ | apply Pull.there)) ?_
                refine H.drawB (by kernel_rfl) (by decide +kernel) (by repeat (first | exact blind_fn | refine blind_seq ?_ | refine blind_block ?_ | refine blind_loop ?_)) (S := [_]) rfl ?_
                refine HB.quiet [(0, false), (1, false), (2, false), (3, false), (4, false), (5, false), (6, false), (7, false), (8, false), (9, false), (11, false), (12, false), (13, false), (14, false)] 13 (by kernel_rfl) ?_
                repeat (first | ((first | apply HQ.move | apply HQ.nilCheck); (iterate 3 exact rfl)) | (apply HQ.fieldAddr; (iterate 3 exact rfl); exact inferInstance; exact rfl) | ((apply HQ.cmp); (iterate 5 exact rfl)) | ((apply HQ.pickF); (iterate 4 exact rfl)) | (apply HQ.gno; (iterate 3 exact rfl); (omega)))
                refine HQ.loadN (ls := v11 (knownS (strm (M2.map MV.m)))) rfl rfl rfl (refC_deps (.here _ _ _)) rfl rfl ?_
                refine HQ.more rfl ?_
                refine HB.ev1 (i := 10) (by kernel_rfl) rfl ?_
                refine H.front (x := loreH _ _ _ _) (by repeat (first | exact .here _ _ | apply Pull.there)) ?_
                refine H.callR rfl rfl rfl (hkn _) ?_
                repeat ((apply H.nil))
                refine H.front (x := row rb _ _) (by repeat (first | exact .here _ _ | apply Pull.there)) ?_
                refine H.on0 rfl ?_
                refine HB.quiet [(15, false), (16, false), (17, false), (18, false), (20, false), (21, false), (22, false), (23, false), (24, false)] 3 (by kernel_rfl) ?_
                refine HQ.aggNe (xs := v11 (knownS (strm (M2.map MV.m)))) (ys := v11 (knownS (strm (M2.map MV.m)))) (D := 4) (b := false) rfl rfl rfl rfl (by kernel_rfl) (by kernel_rfl) (by kernel_rfl) (by kernel_rfl) (by decide) (by rw [eqC_refl (l := v11 (knownS (strm (M2.map MV.m)))) rfl]; rfl) rfl ?_
                repeat (first | ((first | apply HQ.move | apply HQ.nilCheck | apply HQ.len_slice); (iterate 3 exact rfl)) | (apply HQ.fieldAddr; (iterate 3 exact rfl); exact inferInstance; exact rfl) | (apply HQ.load1; (iterate 3 exact rfl); apply Rd1.ofRow; (repeat (exact .here _ _ _)); (iterate 2 exact rfl)) | ((apply HQ.pickF); (iterate 4 exact rfl)))
                refine HQ.more rfl ?_
                refine HB.ev1 (i := 19) (by kernel_rfl) rfl ?_
                refine H.front (x := loreH _ _ _ _) (by repeat (first | exact .here _ _ | apply Pull.there)) ?_
                refine H.callR rfl rfl rfl (llen_fn e2 _) ?_
                repeat ((apply H.nil))
                refine H.front (x := row rb _ _) (by repeat (first | exact .here _ _ | apply Pull.there)) ?_
                refine H.on0 rfl ?_
                refine HB.quiet [(25, false), (26, false)] 0 (by kernel_rfl) ?_
                repeat (first | ((apply HQ.cmp); (iterate 5 exact rfl)) | ((apply HQ.pickF); (iterate 4 exact rfl)))
                refine HQ.more rfl ?_
                refine HB.done (by kernel_rfl) ?_
                repeat (first | ((apply H.move); (iterate 3 exact rfl)) | (apply H.fieldAddr; (iterate 3 exact rfl); exact inferInstance; exact rfl) | (apply H.load1; (iterate 3 exact rfl); apply Rd1.ofRow; (repeat (first | exact .here _ _ _ | apply At.there)); (iterate 2 exact rfl)) | (first | apply H.seq | apply H.region | apply H.then_normal) | (apply H.skip) | (apply H.cond_no; exact rfl; (omega)))
                refine H.front (x := slc rp2 _ rc2 _ _ _) (by repeat (first | exact .here _ _ | apply Pull.there)) ?_
                refine H.front (x := row rb _ _) (by repeat (first | exact .here _ _ | apply Pull.there)) ?_
                refine H.imp (refL_fold (rp2, rc2) hri) ?_
                have hget : ∀ G, Fn Tryz.prog 28 [.pointer (some ⟨la, 0, none⟩), .int .i64 y.m.origin, .int .u64 y.m.number] e2 (loreH e2 la n L2 :: G) (GetP e2 (loreH e2 la n L2 :: G) (getM (M2.map MV.m) y.m.origin y.m.number)) := fun G => by
                  have h := lgetA_fn e2 G (Le.refl e2) (lb := la) (n := n) (l := L2) (og := y.m.origin) (z := y.m.number)
                  rw [hLM2] at h
                  exact h
                have hrget := fun f G (hle : Le e2 f) => rlget_fn f G hle (rb := rb) (n := n) (l := M2) (og := y.m.origin) (z := y.m.number)
                generalize getM (M2.map MV.m) y.m.origin y.m.number = r at hget hrget
                refine H.front (x := loreH _ _ _ _) (by repeat (first | exact .here _ _ | apply Pull.there)) ?_
                refine H.front (x := row mb _ _) (by repeat (first | exact .here _ _ | apply Pull.there)) ?_
                skip
                refine H.front (x := loreH _ _ _ _) (by repeat (first | exact .here _ _ | apply Pull.there)) ?_
                refine H.call rfl rfl rfl (hget _) fun v' f' A' hr => ?_
                obtain ⟨g4, z1, rfl, hzm, hzg, hd4, rfl, rfl⟩ := hr
                have hle4 := hle2.trans (Le.un e2 g4)
                have hup4 := Le.un e2 g4
                generalize un e2 g4 = e4 at hle4 hup4 hzg ⊢
                repeat (first | ((apply H.move); (iterate 3 exact rfl)) | ((apply H.extract); (iterate 4 exact rfl)))
                refine H.alloc (ls := msgZ.vals none 0) rfl rfl rfl fun gb => ?_
                refine H.storeN (ls := msgZ.vals none 0) (vs := z1.vals) (ls' := z1.vals) rfl rfl rfl (allOne_mem rfl) rfl rfl (Nat.le_refl 121) (.here _ _ _) ?_
                refine H.front (x := row mb _ _) (by repeat (first | exact .here _ _ | apply Pull.there)) ?_
                repeat (first | ((first | apply H.move | apply H.assign); (iterate 3 exact rfl)) | (apply H.fieldAddr; (iterate 3 exact rfl); exact inferInstance; exact rfl) | (apply H.load1; (iterate 3 exact rfl); apply Rd1.ofRow; (repeat (exact .here _ _ _)); (iterate 2 exact rfl)) | (first | apply H.seq | apply H.region | apply H.nil | apply H.then_normal))
                refine H.front (x := refL _ _ _ _) (by repeat (first | exact .here _ _ | apply Pull.there)) ?_
                refine H.call rfl rfl rfl (hrget e4 _ hup4) fun v' f' A' hr => ?_
                obtain ⟨z2, rfl, hzm2, hzg2, hff, rfl⟩ := hr
                rw [hff]
                have hsz : ∀ G, Fn Tryz.prog 30 [.agg z1.vals.toArray, .agg z2.vals.toArray] e4 G (Ret (.bool true) e4 G) := fun G => by
                  have h := rsameM_fn e4 G hzg hzg2
                  rw [hzm, hzm2, Msg.eqB_refl] at h
                  exact h
                repeat (first | ((apply H.move); (iterate 3 exact rfl)) | ((apply H.extract); (iterate 4 exact rfl)))
                refine H.alloc (ls := msgZ.vals none 0) rfl rfl rfl fun gb2 => ?_
                refine H.storeN (ls := msgZ.vals none 0) (vs := z2.vals) (ls' := z2.vals) rfl rfl rfl (allOne_mem rfl) rfl rfl (Nat.le_refl 121) (.here _ _ _) ?_
                repeat (first | ((first | apply H.move | apply H.assign); (iterate 3 exact rfl)) | (first | apply H.seq | apply H.region | apply H.nil | apply H.then_normal))
                refine H.bne (b := false) rfl rfl rfl rfl (by cases r.2 <;> rfl) rfl ?_
                refine H.front (x := row gb _ _) (by repeat (first | exact .here _ _ | apply Pull.there)) ?_
                refine H.front (x := row gb2 _ _) (by repeat (first | exact .here _ _ | apply Pull.there)) ?_
                repeat (((apply H.move); (iterate 3 exact rfl)))
                refine H.loadN (ls := z1.vals) rfl rfl rfl (Rd.ofRow (.there _ (.here _ _ _))) rfl rfl ?_
                refine H.loadN (ls := z2.vals) rfl rfl rfl (Rd.ofRow (.here _ _ _)) rfl rfl ?_
                refine H.callR rfl rfl rfl (hsz _) ?_
                refine H.not (b := true) (c := false) rfl rfl rfl rfl ?_
                repeat (first | ((first | apply H.move | apply H.assign); (iterate 3 exact rfl)) | (first | apply H.region | apply H.nil | apply H.then_normal) | ((apply H.ar; (iterate 4 exact rfl)); (with_reducible apply wr_i64_n1; omega); exact rfl) | ((apply H.pickF); (iterate 4 exact rfl)) | (apply H.cond_false; exact rfl) | (first | apply H.skip | apply H.in_normal))
                refine H.drop (.here _ _) ?_
                refine H.drop (.here _ _) ?_
                refine H.drop (x := row mb _ _) (by repeat (first | exact .here _ _ | apply Pull.there)) ?_
                refine H.front (x := refL _ _ _ _) (by repeat (first | exact .here _ _ | apply Pull.there)) ?_
                refine H.imp (ref_up hup4) ?_
                refine H.front (x := loreH _ _ _ _) (by repeat (first | exact .here _ _ | apply Pull.there)) ?_
                refine H.imp (lore_up hup4) ?_
                exact H.again (i + 1, e4, L2, M2) ⟨by show i + 1 ≤ ord.length; omega, hle4, hLM2, hLl2⟩ (by show ord.length - (i + 1) < ord.length - i; omega) ⟨rfl, rfl, rfl, rfl, rfl, rfl, rfl, trivial⟩ rfl rfl
          · skip
            repeat (first | ((first | apply H.move | apply H.len_slice); (iterate 3 exact rfl)) | (first | apply H.seq | apply H.region | apply H.nil | apply H.then_normal) | ((apply H.cmp); (iterate 5 exact rfl)) | (apply H.pickT; (iterate 4 exact rfl)) | (first | apply H.then_exit | apply H.exit | apply H.in_hit | apply H.loop_exit) | (apply H.gyes; (iterate 3 exact rfl); (omega)) | (apply H.cond_no; exact rfl; (omega)))
            refine H.front (x := refL _ _ _ _) (by repeat (first | exact .here _ _ | apply Pull.there)) ?_
            refine H.unpack fun ri hri => ?_
            obtain ⟨rp2, rc2⟩ := ri
            have hMl : M.length ≤ 150 := by have := congrArg List.length hLM; rw [List.length_map, List.length_map] at this; omega
            have hsa : sinceM (fun _ => 0) 1000 (M.map MV.m) = M.map MV.m := since_all hri.2.2.1 (by rw [List.length_map]; omega)
            have hs1 : ∀ G, Fn Tryz.prog 21 [.pointer (some ⟨la, 0, none⟩), .agg (v11 v).toArray, .int .i64 most] e (loreH e la n L :: G) (SinceP e (loreH e la n L :: G) (sinceM v most (M.map MV.m))) := fun G => by
              have h := lsince_fn e G (Le.refl e) (lb := la) (n := n) (l := L) (v := v) (most := most)
              rw [hLM] at h
              exact h
            refine H.front (x := row rb _ _) (by repeat (first | exact .here _ _ | apply Pull.there)) ?_
            refine H.front (x := row vb _ _) (by repeat (first | exact .here _ _ | apply Pull.there)) ?_
            refine H.drawB (by kernel_rfl) (by decide +kernel) (by repeat (first | exact blind_fn | refine blind_seq ?_ | refine blind_block ?_ | refine blind_loop ?_)) (S := [_, _]) rfl ?_
            refine HB.quiet [(0, false), (1, false), (2, false), (4, false), (5, false), (6, false)] 17 (by kernel_rfl) ?_
            repeat (first | (refine HQ.loadN (ls := v11 v) rfl rfl rfl (Rd.ofRow (.here _ _ _)) rfl rfl ?_) | ((apply HQ.move); (iterate 3 exact rfl)))
            refine HQ.more rfl ?_
            refine HB.ev1 (i := 3) (by kernel_rfl) rfl ?_
            refine H.front (x := loreH _ _ _ _) (by repeat (first | exact .here _ _ | apply Pull.there)) ?_
            refine H.call rfl rfl rfl (hs1 _) fun v' f' A' hr => ?_
            obtain ⟨g1, p1, c1, R1, rfl, hR1, hR1g, hd1, rfl, rfl⟩ := hr
            have hup1 := Le.un e g1
            have hfe1 := hfe.trans (Le.un e g1)
            generalize un e g1 = e1 at hup1 hfe1 hR1g ⊢
            repeat ((apply H.nil))
            refine H.front (x := row rb _ _) (by repeat (first | exact .here _ _ | apply Pull.there)) ?_
            refine H.front (x := row vb _ _) (by repeat (first | exact .here _ _ | apply Pull.there)) ?_
            refine H.on [] hup1 rfl ?_
            refine HB.ev1 (i := 7) (by kernel_rfl) rfl ?_
            refine H.front (x := slc rp2 _ rc2 _ _ _) (by repeat (first | exact .here _ _ | apply Pull.there)) ?_
            refine H.front (x := row rb _ _) (by repeat (first | exact .here _ _ | apply Pull.there)) ?_
            refine H.call rfl rfl rfl (rlsinceO_fn e1 _ hup1 hri (v := v) (most := most)) fun v' f' A' hr => ?_
            obtain ⟨p2, c2, R2, rfl, hR2, hR2g, hff, rfl⟩ := hr
            rw [hff]
            repeat ((apply H.nil))
            refine H.front (x := row rb _ _) (by repeat (first | exact .here _ _ | apply Pull.there)) ?_
            refine H.front (x := row vb _ _) (by repeat (first | exact .here _ _ | apply Pull.there)) ?_
            refine H.on0 rfl ?_
            refine HB.ev1 (i := 8) (by kernel_rfl) rfl ?_
            refine H.freeze (x := msL p1 c1 R1) (by repeat (first | exact .here _ _ | apply Pull.there)) fun h1 hh1 hj1 => ?_
            refine H.freeze (x := msL p2 c2 R2) (by repeat (first | exact .here _ _ | apply Pull.there)) fun h2 hh2 hj2 => ?_
            have hl1 : R1.length ≤ 1000000 := by
              have h1 := congrArg List.length hR1
              rw [List.length_map] at h1
              have h2 : (sinceM v most (M.map MV.m)).length ≤ (M.map MV.m).length := by
                unfold sinceM unk
                rw [List.length_take]; exact Nat.le_trans (Nat.min_le_right _ _) (List.length_filter_le _ _)
              rw [List.length_map] at h2
              omega
            have hle7 := (Le.un e1 h1).trans (Le.un (un e1 h1) h2)
            refine H.callR rfl rfl rfl (rsameL_fn (un (un e1 h1) h2) _ (((slc_listAt MV.len hh1).mono (Le.right hj1)).mono (Le.un _ h2)) ((slc_listAt MV.len hh2).mono (Le.right hj2)) (fun y hy => (hR1g y hy).mono hle7) (fun y hy => (hR2g y hy).mono hle7) (hR1.trans hR2.symm) hl1) ?_
            refine H.weakL hle7 ?_
            repeat ((apply H.nil))
            refine H.on0 rfl ?_
            refine HB.quiet [(9, false), (10, false), (11, false), (13, false), (14, false), (15, false), (16, false)] 7 (by kernel_rfl) ?_
            repeat (first | (refine HQ.buildA (t := 37) (out := v11 fun _ => 0) rfl rfl rfl (by kernel_rfl) rfl ?_) | ((first | apply HQ.move | apply HQ.nilCheck); (iterate 3 exact rfl)) | (apply HQ.fieldAddr; (iterate 3 exact rfl); exact inferInstance; exact rfl) | (apply HQ.load1; (iterate 3 exact rfl); apply Rd1.ofRow; (repeat (first | exact .here _ _ _ | apply At.there)); (iterate 2 exact rfl)))
            refine HQ.more rfl ?_
            refine HB.ev1 (i := 12) (by kernel_rfl) rfl ?_
            refine H.front (x := loreH _ _ _ _) (by repeat (first | exact .here _ _ | apply Pull.there)) ?_
            refine H.call rfl rfl rfl (lsince_fn e1 _ hup1 (v := fun _ => 0) (most := 1000)) fun v' f' A' hr => ?_
            obtain ⟨g3, p3, c3, R3, rfl, hR3, hR3g, hd3, rfl, rfl⟩ := hr
            rw [hLM, hsa] at hR3
            have hup3 := Le.un e1 g3
            have hfe3 := hfe1.trans (Le.un e1 g3)
            generalize un e1 g3 = e3 at hup3 hfe3 hR3g ⊢
            repeat ((apply H.nil))
            refine H.front (x := row rb _ _) (by repeat (first | exact .here _ _ | apply Pull.there)) ?_
            refine H.front (x := row vb _ _) (by repeat (first | exact .here _ _ | apply Pull.there)) ?_
            refine H.on [] hup3 rfl ?_
            refine HB.ev1 (i := 17) (by kernel_rfl) rfl ?_
            refine H.freeze (x := msL p3 c3 R3) (by repeat (first | exact .here _ _ | apply Pull.there)) fun h3 hh3 hj3 => ?_
            refine H.freeze (x := slc rp2 _ rc2 _ _ _) (by repeat (first | exact .here _ _ | apply Pull.there)) fun h4 hh4 hj4 => ?_
            have hl3 : R3.length ≤ 1000000 := by
              have h1 := congrArg List.length hR3
              rw [List.length_map, List.length_map] at h1
              omega
            have hle8 := (Le.un e3 h3).trans (Le.un (un e3 h3) h4)
            refine H.callR rfl rfl rfl (rsameL_fn (un (un e3 h3) h4) _ (((slc_listAt MV.len hh3).mono (Le.right hj3)).mono (Le.un _ h4)) ((slc_listAt MV.len hh4).mono (Le.right hj4)) (fun y hy => (hR3g y hy).mono hle8) (fun y hy => (hri.1 y hy).mono ((hup1.trans hup3).trans hle8)) hR3 hl3) ?_
            refine H.weakL hle8 ?_
            repeat ((apply H.nil))
            refine H.on0 rfl ?_
            refine HB.quiet [(18, false), (19, false)] 3 (by kernel_rfl) ?_
            repeat (first | ((apply HQ.move); (iterate 3 exact rfl)) | (apply HQ.pickT; (iterate 4 exact rfl)))
            refine HQ.more rfl ?_
            refine HB.ev1 (i := 20) (by kernel_rfl) rfl ?_
            refine H.callR rfl rfl rfl (works12_fn e3 _ (tab_mono htab hfe3)) ?_
            repeat ((apply H.nil))
            refine H.on0 rfl ?_
            refine HB.quiet [(21, false), (22, false)] 0 (by kernel_rfl) ?_
            repeat (first | ((apply HQ.assign); (iterate 3 exact rfl)) | (apply HQ.pickT; (iterate 4 exact rfl)))
            refine HQ.more rfl ?_
            refine HB.done (by kernel_rfl) ?_
            repeat (first | (apply H.then_normal) | (apply H.ret))
            refine H.weakL hfe3 ?_
            refine H.drop (.here _ _) ?_
            refine H.drop (.here _ _) ?_
            refine H.drop (.here _ _) ?_
            refine H.drop (.here _ _) ?_
            exact H.ret1 rfl rfl (fun _ h => h) ⟨rfl, rfl, rfl⟩
        · skip
          repeat (first | ((first | apply H.move | apply H.len_slice); (iterate 3 exact rfl)) | (first | apply H.seq | apply H.region | apply H.nil | apply H.then_normal) | ((apply H.cmp); (iterate 5 exact rfl)) | (apply H.pass; (iterate 2 exact rfl)) | ((apply H.pickF); (iterate 4 exact rfl)) | (apply H.cond_false; exact rfl) | (first | apply H.then_exit | apply H.exit | apply H.in_hit | apply H.loop_exit) | (apply H.gno; (iterate 3 exact rfl); (omega)))
          refine H.front (x := refL _ _ _ _) (by repeat (first | exact .here _ _ | apply Pull.there)) ?_
          refine H.unpack fun ri hri => ?_
          obtain ⟨rp2, rc2⟩ := ri
          have hMl : M.length ≤ 150 := by have := congrArg List.length hLM; rw [List.length_map, List.length_map] at this; omega
          have hsa : sinceM (fun _ => 0) 1000 (M.map MV.m) = M.map MV.m := since_all hri.2.2.1 (by rw [List.length_map]; omega)
          have hs1 : ∀ G, Fn Tryz.prog 21 [.pointer (some ⟨la, 0, none⟩), .agg (v11 v).toArray, .int .i64 most] e (loreH e la n L :: G) (SinceP e (loreH e la n L :: G) (sinceM v most (M.map MV.m))) := fun G => by
            have h := lsince_fn e G (Le.refl e) (lb := la) (n := n) (l := L) (v := v) (most := most)
            rw [hLM] at h
            exact h
          refine H.front (x := row rb _ _) (by repeat (first | exact .here _ _ | apply Pull.there)) ?_
          refine H.front (x := row vb _ _) (by repeat (first | exact .here _ _ | apply Pull.there)) ?_
          refine H.drawB (by kernel_rfl) (by decide +kernel) (by repeat (first | exact blind_fn | refine blind_seq ?_ | refine blind_block ?_ | refine blind_loop ?_)) (S := [_, _]) rfl ?_
          refine HB.quiet [(0, false), (1, false), (2, false), (4, false), (5, false), (6, false)] 17 (by kernel_rfl) ?_
          repeat (first | (refine HQ.loadN (ls := v11 v) rfl rfl rfl (Rd.ofRow (.here _ _ _)) rfl rfl ?_) | ((apply HQ.move); (iterate 3 exact rfl)))
          refine HQ.more rfl ?_
          refine HB.ev1 (i := 3) (by kernel_rfl) rfl ?_
          refine H.front (x := loreH _ _ _ _) (by repeat (first | exact .here _ _ | apply Pull.there)) ?_
          refine H.call rfl rfl rfl (hs1 _) fun v' f' A' hr => ?_
          obtain ⟨g1, p1, c1, R1, rfl, hR1, hR1g, hd1, rfl, rfl⟩ := hr
          have hup1 := Le.un e g1
          have hfe1 := hfe.trans (Le.un e g1)
          generalize un e g1 = e1 at hup1 hfe1 hR1g ⊢
          repeat ((apply H.nil))
          refine H.front (x := row rb _ _) (by repeat (first | exact .here _ _ | apply Pull.there)) ?_
          refine H.front (x := row vb _ _) (by repeat (first | exact .here _ _ | apply Pull.there)) ?_
          refine H.on [] hup1 rfl ?_
          refine HB.ev1 (i := 7) (by kernel_rfl) rfl ?_
          refine H.front (x := slc rp2 _ rc2 _ _ _) (by repeat (first | exact .here _ _ | apply Pull.there)) ?_
          refine H.front (x := row rb _ _) (by repeat (first | exact .here _ _ | apply Pull.there)) ?_
          refine H.call rfl rfl rfl (rlsinceO_fn e1 _ hup1 hri (v := v) (most := most)) fun v' f' A' hr => ?_
          obtain ⟨p2, c2, R2, rfl, hR2, hR2g, hff, rfl⟩ := hr
          rw [hff]
          repeat ((apply H.nil))
          refine H.front (x := row rb _ _) (by repeat (first | exact .here _ _ | apply Pull.there)) ?_
          refine H.front (x := row vb _ _) (by repeat (first | exact .here _ _ | apply Pull.there)) ?_
          refine H.on0 rfl ?_
          refine HB.ev1 (i := 8) (by kernel_rfl) rfl ?_
          refine H.freeze (x := msL p1 c1 R1) (by repeat (first | exact .here _ _ | apply Pull.there)) fun h1 hh1 hj1 => ?_
          refine H.freeze (x := msL p2 c2 R2) (by repeat (first | exact .here _ _ | apply Pull.there)) fun h2 hh2 hj2 => ?_
          have hl1 : R1.length ≤ 1000000 := by
            have h1 := congrArg List.length hR1
            rw [List.length_map] at h1
            have h2 : (sinceM v most (M.map MV.m)).length ≤ (M.map MV.m).length := by
              unfold sinceM unk
              rw [List.length_take]; exact Nat.le_trans (Nat.min_le_right _ _) (List.length_filter_le _ _)
            rw [List.length_map] at h2
            omega
          have hle7 := (Le.un e1 h1).trans (Le.un (un e1 h1) h2)
          refine H.callR rfl rfl rfl (rsameL_fn (un (un e1 h1) h2) _ (((slc_listAt MV.len hh1).mono (Le.right hj1)).mono (Le.un _ h2)) ((slc_listAt MV.len hh2).mono (Le.right hj2)) (fun y hy => (hR1g y hy).mono hle7) (fun y hy => (hR2g y hy).mono hle7) (hR1.trans hR2.symm) hl1) ?_
          refine H.weakL hle7 ?_
          repeat ((apply H.nil))
          refine H.on0 rfl ?_
          refine HB.quiet [(9, false), (10, false), (11, false), (13, false), (14, false), (15, false), (16, false)] 7 (by kernel_rfl) ?_
          repeat (first | (refine HQ.buildA (t := 37) (out := v11 fun _ => 0) rfl rfl rfl (by kernel_rfl) rfl ?_) | ((first | apply HQ.move | apply HQ.nilCheck); (iterate 3 exact rfl)) | (apply HQ.fieldAddr; (iterate 3 exact rfl); exact inferInstance; exact rfl) | (apply HQ.load1; (iterate 3 exact rfl); apply Rd1.ofRow; (repeat (first | exact .here _ _ _ | apply At.there)); (iterate 2 exact rfl)))
          refine HQ.more rfl ?_
          refine HB.ev1 (i := 12) (by kernel_rfl) rfl ?_
          refine H.front (x := loreH _ _ _ _) (by repeat (first | exact .here _ _ | apply Pull.there)) ?_
          refine H.call rfl rfl rfl (lsince_fn e1 _ hup1 (v := fun _ => 0) (most := 1000)) fun v' f' A' hr => ?_
          obtain ⟨g3, p3, c3, R3, rfl, hR3, hR3g, hd3, rfl, rfl⟩ := hr
          rw [hLM, hsa] at hR3
          have hup3 := Le.un e1 g3
          have hfe3 := hfe1.trans (Le.un e1 g3)
          generalize un e1 g3 = e3 at hup3 hfe3 hR3g ⊢
          repeat ((apply H.nil))
          refine H.front (x := row rb _ _) (by repeat (first | exact .here _ _ | apply Pull.there)) ?_
          refine H.front (x := row vb _ _) (by repeat (first | exact .here _ _ | apply Pull.there)) ?_
          refine H.on [] hup3 rfl ?_
          refine HB.ev1 (i := 17) (by kernel_rfl) rfl ?_
          refine H.freeze (x := msL p3 c3 R3) (by repeat (first | exact .here _ _ | apply Pull.there)) fun h3 hh3 hj3 => ?_
          refine H.freeze (x := slc rp2 _ rc2 _ _ _) (by repeat (first | exact .here _ _ | apply Pull.there)) fun h4 hh4 hj4 => ?_
          have hl3 : R3.length ≤ 1000000 := by
            have h1 := congrArg List.length hR3
            rw [List.length_map, List.length_map] at h1
            omega
          have hle8 := (Le.un e3 h3).trans (Le.un (un e3 h3) h4)
          refine H.callR rfl rfl rfl (rsameL_fn (un (un e3 h3) h4) _ (((slc_listAt MV.len hh3).mono (Le.right hj3)).mono (Le.un _ h4)) ((slc_listAt MV.len hh4).mono (Le.right hj4)) (fun y hy => (hR3g y hy).mono hle8) (fun y hy => (hri.1 y hy).mono ((hup1.trans hup3).trans hle8)) hR3 hl3) ?_
          refine H.weakL hle8 ?_
          repeat ((apply H.nil))
          refine H.on0 rfl ?_
          refine HB.quiet [(18, false), (19, false)] 3 (by kernel_rfl) ?_
          repeat (first | ((apply HQ.move); (iterate 3 exact rfl)) | (apply HQ.pickT; (iterate 4 exact rfl)))
          refine HQ.more rfl ?_
          refine HB.ev1 (i := 20) (by kernel_rfl) rfl ?_
          refine H.callR rfl rfl rfl (works12_fn e3 _ (tab_mono htab hfe3)) ?_
          repeat ((apply H.nil))
          refine H.on0 rfl ?_
          refine HB.quiet [(21, false), (22, false)] 0 (by kernel_rfl) ?_
          repeat (first | ((apply HQ.assign); (iterate 3 exact rfl)) | (apply HQ.pickT; (iterate 4 exact rfl)))
          refine HQ.more rfl ?_
          refine HB.done (by kernel_rfl) ?_
          repeat (first | (apply H.then_normal) | (apply H.ret))
          refine H.weakL hfe3 ?_
          refine H.drop (.here _ _) ?_
          refine H.drop (.here _ _) ?_
          refine H.drop (.here _ _) ?_
          refine H.drop (.here _ _) ?_
          exact H.ret1 rfl rfl (fun _ h => h) ⟨rfl, rfl, rfl⟩
    · skip
      refine Fn.enter Tryz.func5 rfl Tryz.ntmps5 rfl (L := [(0, _), (1, _), (2, _), (3, _), (4, _), (5, _)]) ⟨rfl, rfl, rfl, rfl, rfl, rfl, trivial⟩ fun base => ?_
      repeat ((first | apply H.seq | apply H.region))
      refine H.box (ls := v11 v) rfl rfl rfl rfl fun vb => ?_
      repeat (first | ((first | apply H.move | apply H.assign); (iterate 3 exact rfl)) | (first | apply H.seq | apply H.region | apply H.nil | apply H.then_normal))
      refine H.callR rfl rfl rfl (hfew _) ?_
      refine H.not (b := _) (c := _) rfl rfl rfl rfl ?_
      repeat (first | ((first | apply H.move | apply H.len_slice); (iterate 3 exact rfl)) | (first | apply H.seq | apply H.region | apply H.nil | apply H.then_normal) | ((apply H.cmp); (iterate 5 exact rfl)) | (apply H.pass; (iterate 2 exact rfl)) | (apply H.pickT; (iterate 4 exact rfl)) | ((apply H.pickF); (iterate 4 exact rfl)) | (apply H.cond_true; exact rfl) | (apply H.gyes; (iterate 3 exact rfl); (omega)))
      refine H.callR rfl rfl rfl (works12_fn f _ htab) ?_
      repeat (first | ((apply H.assign); (iterate 3 exact rfl)) | (first | apply H.nil | apply H.then_normal) | (first | apply H.ret | apply H.then_ret))
      refine H.drop (.here _ _) ?_
      exact H.ret1 rfl rfl (fun _ h => h) ⟨rfl, rfl, rfl⟩
end
end Go.Proofs.YtoigpgdmignaoaaGreatDoor

/- Layer 12: acts that a law is given. -/
namespace Go.Proofs.YtoigpgdmignaoaaGreatDoor
open Go Go.ChangeShapes Go.WideShapes Go.RowKit Go.Deep
theorem Reads.bool {P : Program} {W : World} {t : TypeId} {cs : List Value} (ht : P.underlying t = some .bool) (h : Reads P W t cs) : ∃ b, cs = [.bool b] := by
  obtain ⟨H', enc, b, sp, hd, n, x, h⟩ := h
  obtain ⟨z, h1, _⟩ := DataW.trod_bool ht h
  exact ⟨z, h1⟩
theorem Reads.u8 {W : World} {cs : List Value} (h : Reads Tryz.prog W 5 cs) : ∃ x : UInt8, cs = [.int .u8 (x.toNat : Nat)] := by
  obtain ⟨x, _, e⟩ := reads_byte h
  exact ⟨x, e⟩
set_option maxHeartbeats 4000000 in
theorem reads_a12 {W : World} {cs : List Value} (h : Reads Tryz.prog W 113 cs) : ∃ x : A12, x.Has (memOf W) ∧ cs = x.vals := by
  obtain ⟨ps, rfl, hh⟩ := h.parts Tryz.underlying113 (by kernel_rfl)
  have h : AllReads Tryz.prog W [5, 5, 4, 5, 5, 5, 5, 55] ps := hh
  match ps, h with
  | [p0, p1, p2, p3, p4, p5, p6, p7], ⟨r0, r1, r2, r3, r4, r5, r6, r7, _⟩ =>
    obtain ⟨z0, rfl⟩ := r0.u8
    obtain ⟨z1, rfl⟩ := r1.u8
    obtain ⟨b2, rfl⟩ := r2.bool Tryz.underlying4
    obtain ⟨z3, rfl⟩ := r3.u8
    obtain ⟨z4, rfl⟩ := r4.u8
    obtain ⟨z5, rfl⟩ := r5.u8
    obtain ⟨z6, rfl⟩ := r6.u8
    obtain ⟨p, c, xs, rfl, _, _, _, hat⟩ := r7.list (sz := 1) Tryz.underlying55 (by kernel_rfl) (by decide) fun cs => reads_byte
    exact ⟨⟨z0, z1, b2, z3, z4, z5, z6, xs, p, c⟩, listAt_bat hat, rfl⟩
theorem ArgOk.u8 {W : World} {v : Value} (h : ArgOk Tryz.prog W 5 v) : ∃ x : UInt8, v = .int .u8 (x.toNat : Nat) := by
  obtain ⟨z, rfl, hz⟩ := h.int Tryz.underlying5
  exact ⟨UInt8.ofNat z.toNat, by rw [u8_back hz]⟩
theorem ArgOk.acts {W : World} {v : Value} (h : ArgOk Tryz.prog W 22 v) : ∃ (p : Option Addr) (c : Nat) (xs : List A12), v = .slice p xs.length c ∧ xs.length ≤ 9223372036854775807 ∧ (∀ x ∈ xs, x.Has (memOf W)) ∧ ListAt (memOf W) p 8 A12.vals xs := by
  obtain ⟨p, c, xs, rfl, h1, h2, hq, hat⟩ := h.list (sz := 8) Tryz.underlying22 (by kernel_rfl) (by decide) fun cs => reads_a12
  exact ⟨p, c, xs, rfl, by have : maxLen ≤ 9223372036854775807 := by decide
                           omega, hq, hat⟩
set_option maxRecDepth 20000 in
theorem argOk_vec {W : World} {v : Value} (h : ArgOk Tryz.prog W 37 v) : ∃ d : Nat → Int, v = .agg (v11 d).toArray := by
  obtain ⟨⟨b, h1⟩, h2⟩ := h
  obtain ⟨cs, rfl⟩ := okWide_arr Tryz.underlying37 h1
  obtain ⟨d, hd⟩ := reads_vec h2
  have hd : cs.toList = v11 d := hd
  exact ⟨d, by rw [← hd, Array.toArray_toList]⟩
end Go.Proofs.YtoigpgdmignaoaaGreatDoor

/- Rows whose laws read the table of sha: what is given of the program, and what the row's condition says. -/
namespace Go.Proofs.YtoigpgdmignaoaaGreatDoor
open Go Go.ChangeShapes Go.WideShapes Go.RowKit Go.Deep
theorem Tryz.own : ownKnob Tryz.prog.godebug = none := by kernel_rfl
theorem Tryz.laidOut : laidOutB Tryz.prog = true := by kernel_rfl
abbrev laidL : List (String × DataW Unit) := [("ratchet/sha.table", Rows.laid_ratchet_sha_table)]
theorem door_met (os : Os) (args : Array Value) : laidMetH Tryz.prog laidL ((World.doorLaid Tryz.prog 400 os).forCall (fun _ _ => 0) ⟨#[], args, []⟩).memory :=
  laidMetH_of_parts3 (fuel := 8) (laidMet_of_run' 8 (by kernel_rfl) (by kernel_rfl)) (by kernel_rfl) (by kernel_rfl)
theorem tab_eq : (Rows.laid_ratchet_sha_table : DataW Unit) = .agg ((Sha.k.map fun x => ((x.toNat : Nat) : Int)).map fun z => .lit (.int .u32 z)) := by kernel_rfl
theorem tab_of {W : World} (h : laidMetH Tryz.prog laidL W) : TabAt (memOf W) := by
  have h2 : laidMetH Tryz.prog [("ratchet/sha.table", .agg ((Sha.k.map fun x => ((x.toNat : Nat) : Int)).map fun z => .lit (.int .u32 z)))] W := by rw [← tab_eq]; exact h
  exact laid_ints h2 (by kernel_rfl) (by kernel_rfl) (t := 252) (e := 222) Tryz.underlying252 Tryz.underlying222 (by kernel_rfl)
end Go.Proofs.YtoigpgdmignaoaaGreatDoor
