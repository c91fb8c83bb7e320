/- Parts of the proof, one behind the other, each under its own heading. No conditions. -/
import Derived.Test.YtoigpgdmignaoaaGreatDoorZ06
import Derived.Test.YtoigpgdmignaoaaGreatDoorRows
import Derived.Test.YtoigpgdmignaoaaGreatDoorCards
import Derived.Test.YtoigpgdmignaoaaGreatDoorTie
set_option linter.unusedSectionVars false
set_option linter.unusedSimpArgs false
set_option linter.unusedVariables false
/- Layer 12: a message in memory of its own; a message is taken. Condition: the table of the standard stands in the fragment. -/
namespace Go.Proofs.YtoigpgdmignaoaaGreatDoor
open Go
theorem ListAt.none_nil {α : Type} {f : Frag} {sz : Nat} {vals : α → List Value} {p : Option Addr} {xs : List α} (h : ListAt f p sz vals xs) (hp : p = none) : xs = [] := by
  cases xs with
  | nil => rfl
  | cons x r =>
    obtain ⟨b, off, cs, T, fr, h1, _⟩ := h 0 x rfl
    rw [hp] at h1; cases h1
def loreC (n : Nat) (g : Nat → Value) (s : Value) : List Value := [.int .i64 (n : Int)] ++ c11 g ++ [s]
theorem loreC_last (n : Nat) (g : Nat → Value) (s v : Value) : SetV (loreC n g s) 12 v (loreC n g v) := by
  have e : loreC n g v = (loreC n g s).set 12 v := rfl
  rw [e]
  exact SetV.mk v (show 12 < 13 by decide)
theorem loreC_mid (n : Nat) (g : Nat → Value) (s v : Value) {o : Nat} (h : o < 11) : SetV (loreC n g s) (1 + o) v (loreC n (updF g o v) s) :=
  SetV.mid' (c11_set g v h) [.int .i64 (n : Int)] [s]
theorem loreC_str (n : Nat) (g : Nat → Value) (s : Value) {o : Nat} (h : o < 11) : (loreC n g s)[1 + o]? = some (g o) := by
  unfold loreC
  rw [List.append_assoc, List.getElem?_append_right (by show 1 ≤ 1 + o; omega), show 1 + o - [Value.int .i64 (n : Int)].length = o by show 1 + o - 1 = o; omega, List.getElem?_append_left (by show o < 11; exact h), c11_get _ h]
theorem c11_congr {g g' : Nat → Value} (h : ∀ k, k < 11 → g k = g' k) : c11 g = c11 g' := by
  unfold c11
  rw [h 0 (by decide), h 1 (by decide), h 2 (by decide), h 3 (by decide), h 4 (by decide), h 5 (by decide), h 6 (by decide), h 7 (by decide), h 8 (by decide), h 9 (by decide), h 10 (by decide)]
theorem lore_after {F : List HP} {lb n o : Nat} {l : List MV} {i : LP} {f' : Frag} {x : MV} {p2 po2 : Option Addr} {c2 co2 : Nat} (hoo : orgI x.m = o) (h : loreφ f' n (l ++ [x])) :
    ∀ y, stars (row lb 120 (loreC n (updF (fun k => .slice (i.P k) (strmV l k).length (i.C k)) o (.slice p2 ((strmV l o).length + 1) c2)) (.slice po2 (l.length + 1) co2)) ::
      fam (updF (strH l i) o (slc p2 ((strmV l o).length + 1) c2 47 121 ((strmV l o).flatMap MV.vals ++ x.vals))) 11 ::
      slc po2 (l.length + 1) co2 123 2 ((placesOf (l.map MV.m)).flatMap placeV ++ placeV (o, (strmV l o).length)) :: F) y → stars (loreH f' lb n (l ++ [x]) :: F) y := by
  have hcnt : cnt (l.map MV.m) o = (strmV l o).length := (strmV_len l o).symm
  have e1 : loreC n (updF (fun k => .slice (i.P k) (strmV l k).length (i.C k)) o (.slice p2 ((strmV l o).length + 1) c2)) (.slice po2 (l.length + 1) co2) = loreCells n (l ++ [x]) ⟨updF i.P o p2, updF i.C o c2, po2, co2⟩ := by
    unfold loreC loreCells
    rw [c11_congr (g' := fun k => .slice ((updF i.P o p2) k) (strmV (l ++ [x]) k).length ((updF i.C o c2) k)) fun k _ => ?_, List.length_append]
    · rfl
    · rw [strmV_snoc, hoo]
      by_cases e : k = o
      · subst e; rw [updF_same, updF_same, updF_same, if_pos rfl, List.length_append]; rfl
      · rw [updF_ne _ _ e, updF_ne _ _ e, updF_ne _ _ e, if_neg e]
  have e2 : fam (updF (strH l i) o (slc p2 ((strmV l o).length + 1) c2 47 121 ((strmV l o).flatMap MV.vals ++ x.vals))) 11 = fam (strH (l ++ [x]) ⟨updF i.P o p2, updF i.C o c2, po2, co2⟩) 11 := by
    unfold fam
    rw [rngH_congr 11 fun k _ => ?_]
    unfold strH
    rw [strmV_snoc, hoo]
    by_cases e : k = o
    · subst e
      show updF _ k _ k = slc (updF i.P k p2 k) _ (updF i.C k c2 k) _ _ _
      rw [updF_same, updF_same, updF_same, if_pos rfl, List.length_append, List.flatMap_append]
      show _ = slc p2 _ c2 _ _ (_ ++ (x.vals ++ []))
      rw [List.append_nil]; rfl
    · show updF _ o _ k = slc (updF i.P o p2 k) _ (updF i.C o c2 k) _ _ _
      rw [updF_ne _ _ e, updF_ne _ _ e, updF_ne _ _ e, if_neg e]
  have e3 : slc po2 (l.length + 1) co2 123 2 ((placesOf (l.map MV.m)).flatMap placeV ++ placeV (o, (strmV l o).length)) = ordH (l ++ [x]) ⟨updF i.P o p2, updF i.C o c2, po2, co2⟩ := by
    unfold ordH
    have hpl := placesOf_snoc (l.map MV.m) x.m
    rw [hoo, hcnt] at hpl
    rw [List.map_append, show [x].map MV.m = [x.m] from rfl, hpl, List.flatMap_append, List.length_append]
    rfl
  rw [e1, e2, e3]
  exact lore_fold _ h
theorem loreφ_snoc {f f' : Frag} (hle : Le f f') {n : Nat} {l : List MV} {x : MV} (h : loreφ f n l) (hl : l.length < 100000) (hc : chk n (strm (l.map MV.m)) x.m = 0) (hx : x.Good f') : loreφ f' n (l ++ [x]) := by
  refine ⟨fun y hy => ?_, ?_, ?_, h.2.2.2⟩
  · rcases List.mem_append.1 hy with hy | hy
    · exact (h.1 y hy).mono hle
    · rw [List.mem_singleton] at hy; subst hy; exact hx
  · rw [List.length_append]; show l.length + 1 ≤ _; omega
  · rw [List.map_append]; exact h.2.2.1.snoc hc
def msgZ : Msg := ⟨0, 0, fun _ => 0, Bod.zero 0, noTag⟩
theorem qs_qat0 {g : Frag} {p : Option Addr} {c : Nat} {q : List (Int × Int)} (h : qs p c q g) : QAt g p q := slc_listAt (vals := pairV) (fun _ => rfl) h
section
variable (f : Frag) (F : List HP)
theorem cloneQ_fn {p : Option Addr} {c : Nat} {l : List (Int × Int)} (h : QAt f p l) (hl : l.length ≤ 1000000) :
    Fn Tryz.prog 70 [.slice p l.length c] f F (fun v f' A' => ∃ p c, v = .slice p l.length c ∧ f' = f ∧ A' = qs p c l :: F) := by
  have h' : ListAt f p 2 pairV l := h
  have hs := ListAt.src (P := Tryz.prog) (A := F) (c := c) (sz := 2) (vals := pairV) (fun _ => rfl) (by decide) h'
  cases p with
  | none =>
    have := h'.none_nil rfl
    subst this
    refine Fn.enter Tryz.func70 rfl Tryz.ntmps70 rfl (L := [(0, _)]) ⟨rfl, trivial⟩ fun base => ?_
    repeat (first | ((first | apply H.move | apply H.assign); (iterate 3 exact rfl)) | (first | apply H.seq | apply H.region | apply H.nil | apply H.then_normal) | ((apply H.sliceNil); (iterate 5 exact rfl)) | (apply H.cond_true; exact rfl) | (first | apply H.ret | apply H.then_ret))
    refine H.slc0 61 2 ?_
    exact H.ret1 rfl rfl (fun _ h => h) ⟨none, 0, rfl, rfl, rfl⟩
  | some a =>
    refine Fn.enter Tryz.func70 rfl Tryz.ntmps70 rfl (L := [(0, _)]) ⟨rfl, trivial⟩ fun base => ?_
    repeat (first | ((first | apply H.move | apply H.assign); (iterate 3 exact rfl)) | (first | apply H.seq | apply H.region | apply H.nil | apply H.then_normal) | ((apply H.sliceNil); (iterate 5 exact rfl)) | (apply H.cond_false; exact rfl) | (apply H.skip))
    refine H.buildSlice rfl rfl rfl rfl (by decide) (by decide) rfl rfl fun eb => ?_
    refine H.asSlc (k := 0) (sz := 2) rfl (by decide) ?_
    repeat (((apply H.move); (iterate 3 exact rfl)))
    refine H.append (xs := []) rfl rfl rfl rfl rfl (fun p' c' => .here _ _ _) hs.cons (pairsV_one l) rfl (by omega) (by omega) fun p' c' => ?_
    rw [Nat.zero_add]
    repeat (first | ((apply H.assign); (iterate 3 exact rfl)) | (first | apply H.nil | apply H.then_normal) | (apply H.ret))
    exact H.ret1 rfl rfl (fun _ h => h) ⟨p', c', rfl, rfl, rfl⟩
theorem lown_fn {x : MV} (hx : x.Good f) : Fn Tryz.prog 56 [.agg x.vals.toArray] f F (fun v f' A' => ∃ p c, v = .agg (x.m.vals p c).toArray ∧ f' = f ∧ A' = qs p c x.m.body.q :: F) := by
  refine Fn.enter Tryz.func56 rfl Tryz.ntmps56 rfl (L := [(0, _)]) ⟨rfl, trivial⟩ fun base => ?_
  repeat ((first | apply H.seq | apply H.region))
  refine H.box (ls := x.vals) rfl rfl rfl rfl fun mb => ?_
  refine H.alloc (ls := msgZ.vals none 0) rfl rfl rfl fun ob => ?_
  repeat (first | (apply H.fieldAddr; (iterate 3 exact rfl); exact inferInstance; exact rfl) | (apply H.load1; (iterate 3 exact rfl); apply Rd1.ofRow; (repeat (first | exact .here _ _ _ | apply At.there)); (iterate 2 exact rfl)) | (first | apply H.seq | apply H.region | apply H.nil | apply H.then_normal))
  refine H.callE2 rfl rfl rfl (cloneQ_fn f _ hx.1 hx.2.1) fun qp qc => ?_
  repeat (first | (apply H.fieldAddr; (iterate 3 exact rfl); exact inferInstance; exact rfl) | (first | apply H.seq | apply H.region | apply H.nil | apply H.then_normal) | (apply H.store1; (iterate 4 exact rfl); (repeat (first | exact .here _ _ _ | apply At.there)); (repeat (first | exact .here _ _ _ | apply SetV.there))))
  refine H.loadN (ls := x.m.vals qp qc) rfl rfl rfl (Rd.ofRow (by repeat (first | exact .here _ _ _ | apply At.there))) rfl rfl ?_
  refine H.storeN (ls := msgZ.vals none 0) (vs := x.m.vals qp qc) (ls' := x.m.vals qp qc) rfl rfl rfl (allOne_mem rfl) rfl rfl (Nat.le_refl 121) (by repeat (first | exact .here _ _ _ | apply At.there)) ?_
  repeat (first | (first | apply H.nil | apply H.then_normal) | (apply H.ret))
  refine H.drop (x := row mb _ _) (by repeat (first | exact .here _ _ | apply Pull.there)) ?_
  refine H.front (x := row ob _ _) (by repeat (first | exact .here _ _ | apply Pull.there)) ?_
  exact H.retD rfl rfl rfl (Rd.ofRow (.here _ _ _)) rfl (fun _ s => s.drop (.here _ _)) ⟨qp, qc, rfl, rfl, rfl⟩
def AddP (f : Frag) (F : List HP) (lb n : Nat) (l : List MV) (m : Msg) : Value → Frag → List HP → Prop := fun v f' A' =>
  ∃ (g : Frag) (qp : Option Addr) (qc : Nat), v = .int .i64 (chk n (strm (l.map MV.m)) m) ∧ Dj f g ∧ f' = un f g ∧ A' = loreH f' lb n (if chk n (strm (l.map MV.m)) m = 0 then l ++ [⟨m, qp, qc⟩] else l) :: F
def AddQ (f : Frag) (F : List HP) (fl : Frag) (lb n : Nat) (l : List MV) (m : Msg) : Value → Frag → List HP → Prop := fun v f' A' =>
  ∃ (g : Frag) (qp : Option Addr) (qc : Nat), v = .int .i64 (chk n (strm (l.map MV.m)) m) ∧ Dj f g ∧ f' = un f g ∧ A' = loreH (un fl g) lb n (if chk n (strm (l.map MV.m)) m = 0 then l ++ [⟨m, qp, qc⟩] else l) :: F
theorem Dj.le {f g h : Frag} (h1 : Le f g) (h2 : Dj g h) : Dj f h := fun k => by
  rcases h2 k with e | e
  · cases hf : f k with
    | none => exact .inl rfl
    | some o => rw [h1 k o hf] at e; cases e
  · exact .inr e
set_option maxHeartbeats 3200000 in
theorem laddQ_fn (htab : TabAt f) {fl : Frag} (hfl : Le fl f) {lb n : Nat} {l : List MV} {x : MV} (hx : x.Good f) (hlen : l.length < 100000) :
    Fn Tryz.prog 19 [.pointer (some ⟨lb, 0, none⟩), .agg x.vals.toArray] f (loreH fl lb n l :: F) (AddQ f F fl lb n l x.m) := by
  by_cases hc : chk n (strm (l.map MV.m)) x.m = 0
  · obtain ⟨z1, z2, z3, _, _⟩ := chk_zero hc
    refine Fn.unpack fun i0 hi0 => ?_
    refine Fn.imp (lore_fold i0 hi0) ?_
    have hn := hi0.2.2.2
    obtain ⟨o, hoo, hoz, hon, ho11, ho1, ho2⟩ := fits_at z1 hn
    rw [hoo, strm_lenV] at z3
    have hsub : IntKind.i64.wrap (x.m.origin - 1) = ((o : Nat) : Int) := by rw [hoz]; exact wr_i64 (by omega)
    have hsl := strmV_le l o
    have hcnt : cnt (l.map MV.m) o = (strmV l o).length := strm_lenV l o
    refine Fn.enter Tryz.func19 rfl Tryz.ntmps19 rfl (L := [(0, _), (1, _)]) ⟨rfl, rfl, trivial⟩ fun base => ?_
    repeat ((first | apply H.seq | apply H.region))
    refine H.box (ls := x.vals) rfl rfl rfl rfl fun mb => ?_
    repeat (first | ((first | apply H.move | apply H.assign); (iterate 3 exact rfl)) | (first | apply H.seq | apply H.region | apply H.nil | apply H.then_normal))
    refine H.loadN (ls := x.vals) rfl rfl rfl (Rd.ofRow (.here _ _ _)) rfl rfl ?_
    refine H.front (x := loreH _ _ _ _) (by repeat (first | exact .here _ _ | apply Pull.there)) ?_
    refine H.callR rfl rfl rfl (lcheck_fn f _ htab hx) ?_
    repeat (first | ((first | apply H.move | apply H.assign); (iterate 3 exact rfl)) | (first | apply H.seq | apply H.region | apply H.nil | apply H.then_normal) | ((apply H.cmp); (iterate 5 exact rfl)) | (apply H.skip) | (apply H.cond_no; exact rfl; (omega)))
    rw [hc]
    skip
    refine H.loreOpen fun i hi => ?_
    unfold ordH
    have hstr := loreCells_str n l i ho11
    refine H.front (x := row mb _ _) (by repeat (first | exact .here _ _ | apply Pull.there)) ?_
    refine H.drawQ (by kernel_rfl) (by decide +kernel) (by repeat (first | exact blind_fn | refine blind_seq ?_ | refine blind_block ?_ | refine blind_loop ?_)) ?_
    repeat (first | ((first | apply HQ.move | apply HQ.nilCheck); (iterate 3 exact rfl)) | (apply HQ.fieldAddr; (iterate 3 exact rfl); exact inferInstance; exact rfl) | (apply HQ.load1; (iterate 3 exact rfl); apply Rd1.ofRow; (repeat (exact .here _ _ _)); (iterate 2 exact rfl)) | ((apply HQ.ar; (iterate 4 exact rfl)); (with_reducible apply wr_i64; omega); exact rfl))
    refine HQ.index_array (i := o) rfl rfl rfl hoz ho11 rfl ?_
    repeat (first | ((apply HQ.assign); (iterate 3 exact rfl)) | ((apply HQ.done0); exact rfl))
    repeat ((first | apply H.seq | apply H.then_normal))
    refine H.drawC [0, 1, 2, 3, 4, 5, 6, 7, 8, 9, 10, 11, 12, 13, 14] (by kernel_rfl) (by decide +kernel) (by repeat (first | exact blind_fn | refine blind_seq ?_ | refine blind_block ?_ | refine blind_loop ?_)) (S := [_, _]) rfl ?_
    refine HB.quiet [(0, false), (1, false), (2, false), (3, false), (4, false), (5, false), (6, false), (7, false), (8, false), (9, false), (10, false), (11, false), (12, false)] 5 (by kernel_rfl) ?_
    repeat (first | (apply HQ.ar; (iterate 4 exact rfl); exact hsub; exact rfl) | (refine HQ.load1 rfl rfl rfl (Rd1.at0 (Rd.ofRow (.there _ (.here _ _ _))) (by rw [Nat.mul_one, Nat.zero_add]; exact hstr)) rfl ?_) | ((first | apply HQ.move | apply HQ.nilCheck | apply HQ.len_slice); (iterate 3 exact rfl)) | (apply HQ.fieldAddr; (iterate 3 exact rfl); exact inferInstance; exact rfl) | (apply HQ.load1; (iterate 3 exact rfl); apply Rd1.ofRow; (repeat (first | exact .here _ _ _ | apply At.there)); (iterate 2 exact rfl)) | ((apply HQ.build); (iterate 5 exact rfl)))
    refine HQ.more rfl ?_
    refine HB.ev1 (i := 13) (by kernel_rfl) rfl ?_
    refine H.buildSlice (out := placeV (o, (strmV l o).length)) rfl rfl rfl rfl (by decide) (by decide) rfl rfl fun eb => ?_
    repeat ((apply H.nil))
    refine H.front (x := row lb _ _) (by repeat (first | exact .here _ _ | apply Pull.there)) ?_
    refine H.front (x := row mb _ _) (by repeat (first | exact .here _ _ | apply Pull.there)) ?_
    refine H.on0 rfl ?_
    refine HB.ev1 (i := 14) (by kernel_rfl) rfl ?_
    have hpll : (placesOf (l.map MV.m)).length = l.length := by unfold placesOf; rw [placesFrom_len, List.length_map]
    refine H.append (xs := (placesOf (l.map MV.m)).flatMap placeV) (m := 1) (news := placeV (o, (strmV l o).length)) rfl rfl rfl rfl rfl (fun p' c' => (by repeat (first | exact .here _ _ _ | apply At.there))) (Src.slice (Rd.ofRow (by repeat (first | exact .here _ _ _ | apply At.there))) rfl) (allOne_mem rfl) rfl (by omega) (by omega) fun po2 co2 => ?_
    repeat ((apply H.nil))
    refine H.drop (x := row eb _ _) (by repeat (first | exact .here _ _ | apply Pull.there)) ?_
    refine H.on0 rfl ?_
    refine HB.next [] (by kernel_rfl) (S' := []) rfl ?_
    refine HB.quiet [(15, false), (16, false)] 1 (by kernel_rfl) ?_
    repeat (first | ((apply HQ.nilCheck); (iterate 3 exact rfl)) | (apply HQ.fieldAddr; (iterate 3 exact rfl); exact inferInstance; exact rfl))
    refine HQ.more rfl ?_
    refine HB.ev1 (i := 17) (by kernel_rfl) rfl ?_
    refine H.store1 (ls := loreC n (fun k => .slice (i.P k) (strmV l k).length (i.C k)) (.slice i.po l.length i.co)) (ls' := loreC n (fun k => .slice (i.P k) (strmV l k).length (i.C k)) (.slice po2 (l.length + 1) co2)) rfl rfl rfl rfl (.there _ (.here _ _ _)) (loreC_last _ _ _ _) ?_
    repeat ((apply H.nil))
    refine H.on0 rfl ?_
    refine HB.done (by kernel_rfl) ?_
    repeat ((first | apply H.seq | apply H.then_normal))
    refine H.drawC [0, 1, 2, 3, 4, 5, 6, 7] (by kernel_rfl) (by decide +kernel) (by repeat (first | exact blind_fn | refine blind_seq ?_ | refine blind_block ?_ | refine blind_loop ?_)) (S := [_, _]) rfl ?_
    refine HB.quiet [(0, false), (1, false), (2, false), (3, false), (4, false)] 5 (by kernel_rfl) ?_
    have hstr2 := loreC_str n (fun k => .slice (i.P k) (strmV l k).length (i.C k)) (.slice po2 (l.length + 1) co2) ho11
    repeat (first | (refine HQ.load1 rfl rfl rfl (Rd1.at0 (Rd.ofRow (.there _ (.here _ _ _))) (by rw [Nat.mul_one, Nat.zero_add]; exact hstr2)) rfl ?_) | (refine HQ.loadN (ls := x.vals) rfl rfl rfl (Rd.ofRow (.here _ _ _)) rfl rfl ?_) | ((first | apply HQ.move | apply HQ.nilCheck); (iterate 3 exact rfl)))
    refine HQ.more rfl ?_
    refine HB.ev1 (i := 5) (by kernel_rfl) rfl ?_
    refine H.callE2 rfl rfl rfl (lown_fn f _ hx) fun qp qc => ?_
    repeat ((apply H.nil))
    refine H.freeze (.here _ _) fun g hg hd => ?_
    refine H.on [] (Le.un f g) rfl ?_
    refine HB.ev1 (i := 6) (by kernel_rfl) rfl ?_
    refine H.buildSlice (out := x.m.vals qp qc) rfl rfl rfl rfl (by decide) (by decide) rfl rfl fun eb => ?_
    repeat ((apply H.nil))
    refine H.front (x := row lb _ _) (by repeat (first | exact .here _ _ | apply Pull.there)) ?_
    refine H.front (x := row mb _ _) (by repeat (first | exact .here _ _ | apply Pull.there)) ?_
    refine H.on0 rfl ?_
    refine HB.ev1 (i := 7) (by kernel_rfl) rfl ?_
    refine H.front (x := fam (strH l i) 11) (by repeat (first | exact .here _ _ | apply Pull.there)) ?_
    refine H.famPull ho11 ?_
    unfold strH
    refine H.append (xs := (strmV l o).flatMap MV.vals) (m := 1) (news := x.m.vals qp qc) rfl rfl rfl rfl rfl (fun p' c' => .here _ _ _) (Src.slice (Rd.ofRow (by repeat (first | exact .here _ _ _ | apply At.there))) rfl) (allOne_mem rfl) rfl (by omega) (by omega) fun p2 c2 => ?_
    repeat ((apply H.nil))
    refine H.drop (x := row eb _ _) (by repeat (first | exact .here _ _ | apply Pull.there)) ?_
    refine H.famPut ho11 ?_
    refine H.front (x := row lb _ _) (by repeat (first | exact .here _ _ | apply Pull.there)) ?_
    refine H.front (x := row mb _ _) (by repeat (first | exact .here _ _ | apply Pull.there)) ?_
    refine H.on0 rfl ?_
    refine HB.next [] (by kernel_rfl) (S' := []) rfl ?_
    refine HB.quiet [(8, false)] 1 (by kernel_rfl) ?_
    repeat (((apply HQ.nilCheck); (iterate 3 exact rfl)))
    refine HQ.more rfl ?_
    refine HB.ev1 (i := 9) (by kernel_rfl) rfl ?_
    refine H.store1 (ls := loreC n (fun k => .slice (i.P k) (strmV l k).length (i.C k)) (.slice po2 (l.length + 1) co2)) (ls' := loreC n (updF (fun k => .slice (i.P k) (strmV l k).length (i.C k)) o (.slice p2 ((strmV l o).length + 1) c2)) (.slice po2 (l.length + 1) co2)) rfl rfl rfl rfl (.there _ (.here _ _ _)) (by rw [Nat.mul_one, Nat.zero_add]; exact loreC_mid _ _ _ _ ho11) ?_
    repeat ((apply H.nil))
    refine H.on0 rfl ?_
    refine HB.done (by kernel_rfl) ?_
    repeat (first | ((apply H.assign); (iterate 3 exact rfl)) | (first | apply H.seq | apply H.region | apply H.nil | apply H.then_normal) | (apply H.ret))
    refine H.drop (x := row mb _ _) (by repeat (first | exact .here _ _ | apply Pull.there)) ?_
    have hxg : (⟨x.m, qp, qc⟩ : MV).Good (un fl g) := ⟨QAt.mono (Le.right (Dj.le hfl hd)) (qs_qat0 hg), hx.2⟩
    refine H.imp (lore_after (x := ⟨x.m, qp, qc⟩) hoo (loreφ_snoc (Le.un fl g) hi hlen hc hxg)) ?_
    refine H.ret1 rfl rfl (fun _ h => h) ⟨g, qp, qc, ?_, hd, rfl, ?_⟩
    · rw [hc]
    · rw [if_pos hc]; rfl
  · have hA : Fn Tryz.prog 19 [.pointer (some ⟨lb, 0, none⟩), .agg x.vals.toArray] f (loreH fl lb n l :: F) (Ret (.int .i64 (chk n (strm (l.map MV.m)) x.m)) f (loreH fl lb n l :: F)) := by
      refine Fn.enter Tryz.func19 rfl Tryz.ntmps19 rfl (L := [(0, _), (1, _)]) ⟨rfl, rfl, trivial⟩ fun base => ?_
      repeat ((first | apply H.seq | apply H.region))
      refine H.box (ls := x.vals) rfl rfl rfl rfl fun mb => ?_
      repeat (first | ((first | apply H.move | apply H.assign); (iterate 3 exact rfl)) | (first | apply H.seq | apply H.region | apply H.nil | apply H.then_normal))
      refine H.loadN (ls := x.vals) rfl rfl rfl (Rd.ofRow (.here _ _ _)) rfl rfl ?_
      refine H.front (x := loreH _ _ _ _) (by repeat (first | exact .here _ _ | apply Pull.there)) ?_
      refine H.callR rfl rfl rfl (lcheck_fn f _ htab hx) ?_
      repeat (first | ((first | apply H.move | apply H.assign); (iterate 3 exact rfl)) | (first | apply H.seq | apply H.region | apply H.nil | apply H.then_normal) | ((apply H.cmp); (iterate 5 exact rfl)) | (first | apply H.ret | apply H.then_ret) | (apply H.cond_yes; exact rfl; (assumption)))
      refine H.drop (x := row mb _ _) (by repeat (first | exact .here _ _ | apply Pull.there)) ?_
      exact H.ret1 rfl rfl (fun _ h => h) ⟨rfl, rfl, rfl⟩
    refine Fn.monoA hA ?_
    rintro v f' A' ⟨rfl, rfl, rfl⟩
    refine ⟨_, ⟨nil0, none, 0, rfl, Dj.nil _, (un_nil _).symm, rfl⟩, ?_⟩
    rw [if_neg hc]
    rintro y ⟨h1, h2, h3, h4, h5, h6⟩
    exact ⟨h1, h2, h3, h4, loreH_mono (Le.un fl nil0) _ h5, h6⟩
theorem ladd_fn (htab : TabAt f) {fl : Frag} (hfl : Le fl f) {lb n : Nat} {l : List MV} {x : MV} (hx : x.Good f) (hlen : l.length < 100000) :
    Fn Tryz.prog 19 [.pointer (some ⟨lb, 0, none⟩), .agg x.vals.toArray] f (loreH fl lb n l :: F) (AddP f F lb n l x.m) := by
  refine Fn.monoA (laddQ_fn f F htab hfl hx hlen) ?_
  rintro v f' A' ⟨g, qp, qc, e1, e2, rfl, rfl⟩
  refine ⟨_, ⟨g, qp, qc, e1, e2, rfl, rfl⟩, ?_⟩
  rintro y ⟨h1, h2, h3, h4, h5, h6⟩
  refine ⟨h1, h2, h3, h4, loreH_mono (fun k o hk => ?_) _ h5, h6⟩
  unfold un at hk ⊢
  cases hfk : fl k with
  | none =>
    rw [hfk] at hk
    rcases e2 k with e | e
    · rw [e]; exact hk
    · have hk2 : g k = some o := hk
      rw [e] at hk2; cases hk2
  | some o' =>
    rw [hfk] at hk
    rw [hfl k o' hfk]
    exact hk
end
end Go.Proofs.YtoigpgdmignaoaaGreatDoor

/- Layer 13: the program's Put. Condition: the table of the standard stands in the fragment. -/
namespace Go.Proofs.YtoigpgdmignaoaaGreatDoor
open Go
def PutP (f : Frag) (F : List HP) (wb : Nat) (ws : List MV) (m : Msg) (c : Int) : Value → Frag → List HP → Prop := fun v f' A' =>
  ∃ (g : Frag) (z : Int) (ws' : List MV), PutR c (ws.map MV.m) m z (ws'.map MV.m) ∧ ws'.length ≤ ws.length + 1 ∧ Dj f g ∧ v = .int .i64 z ∧ f' = un f g ∧ A' = waitH f' wb ws' :: F
theorem open_fits {n : Nat} {S : Strm} {m : Msg} (h : openZ (chk n S m) = true) : fitsB n m = true := by
  cases hf : fitsB n m with
  | true => rfl
  | false =>
    unfold chk at h
    rw [if_pos hf] at h
    cases h
theorem fits_num {n : Nat} {m : Msg} (h : fitsB n m = true) : 0 ≤ m.number := by
  have := Msg.may_outer (fits_org h).2.2
  unfold Msg.outer at this
  omega
theorem perm_del {ws : List Msg} (hu : KU ws) {t : Msg} (ht : t ∈ ws) : (t :: ws.filter fun x => !decide (keyM t = keyM x)).Perm ws := by
  induction ws with
  | nil => cases ht
  | cons a r ih =>
    have h' := List.nodup_cons.1 (show ((a :: r).map keyM).Nodup from hu)
    by_cases e : keyM t = keyM a
    · have hta : t = a := KU.same (ws := a :: r) hu ht (by simp) e
      subst hta
      rw [List.filter_cons, if_neg (by simp)]
      have : (r.filter fun x => !decide (keyM t = keyM x)) = r := by
        rw [List.filter_eq_self]
        intro x hx
        have : ¬ keyM t = keyM x := fun h2 => h'.1 (by show keyM t ∈ r.map keyM; rw [h2]; exact List.mem_map_of_mem hx)
        rw [decide_eq_false this]; rfl
      rw [this]
    · rw [List.filter_cons, if_pos (by rw [decide_eq_false e]; rfl)]
      have hr : t ∈ r := by
        rcases List.mem_cons.1 ht with h | h
        · exact absurd (by rw [h]) e
        · exact h
      exact (List.Perm.swap a t _).trans ((ih h'.2 hr).cons a)
theorem map_filt (ws : List MV) (k : Nm) : (ws.filter fun x => !decide (k = keyM x.m)).map MV.m = (ws.map MV.m).filter fun x => !decide (k = keyM x) := by
  rw [List.filter_map]; rfl
section
variable (f : Frag) (F : List HP)
theorem wput_nil (x : MV) (lp : Option Addr) : Fn Tryz.prog 39 [.pointer none, .pointer lp, .agg x.vals.toArray] f F (Ret (.int .i64 2) f F) := by
  refine Fn.enter Tryz.func39 rfl Tryz.ntmps39 rfl (L := [(0, _), (1, _), (2, _)]) ⟨rfl, rfl, rfl, trivial⟩ fun base => ?_
  repeat ((first | apply H.seq | apply H.region))
  refine H.box (ls := x.vals) rfl rfl rfl rfl fun mb => ?_
  repeat (first | ((first | apply H.move | apply H.assign); (iterate 3 exact rfl)) | (first | apply H.seq | apply H.region | apply H.nil | apply H.then_normal) | (apply H.pass; (iterate 2 exact rfl)) | (apply H.pickT; (iterate 4 exact rfl)) | ((apply H.ptrNil); (iterate 5 exact rfl)) | (apply H.cond_true; exact rfl) | (first | apply H.ret | apply H.then_ret))
  refine H.drop (.here _ _) ?_
  exact H.ret1 rfl rfl (fun _ h => h) ⟨rfl, rfl, rfl⟩
theorem wput_nol (x : MV) (wp : Addr) : Fn Tryz.prog 39 [.pointer (some wp), .pointer none, .agg x.vals.toArray] f F (Ret (.int .i64 2) f F) := by
  refine Fn.enter Tryz.func39 rfl Tryz.ntmps39 rfl (L := [(0, _), (1, _), (2, _)]) ⟨rfl, rfl, rfl, trivial⟩ fun base => ?_
  repeat ((first | apply H.seq | apply H.region))
  refine H.box (ls := x.vals) rfl rfl rfl rfl fun mb => ?_
  repeat (first | ((first | apply H.move | apply H.assign); (iterate 3 exact rfl)) | (first | apply H.seq | apply H.region | apply H.nil | apply H.then_normal) | ((apply H.pickF); (iterate 4 exact rfl)) | ((apply H.ptrNil); (iterate 5 exact rfl)) | (apply H.cond_true; exact rfl) | (first | apply H.ret | apply H.then_ret))
  refine H.drop (.here _ _) ?_
  exact H.ret1 rfl rfl (fun _ h => h) ⟨rfl, rfl, rfl⟩
set_option maxRecDepth 20000 in
set_option maxHeartbeats 1600000 in
theorem wput_fn (htab : TabAt f) {e el : Frag} (he : Le e f) {wb lb n : Nat} {ws l : List MV} {x : MV} (hx : x.Good f) (hlen : ws.length < 100000) :
    Fn Tryz.prog 39 [.pointer (some ⟨wb, 0, none⟩), .pointer (some ⟨lb, 0, none⟩), .agg x.vals.toArray] f (waitH e wb ws :: loreH el lb n l :: F) (PutP f (loreH el lb n l :: F) wb ws x.m (chk n (strm (l.map MV.m)) x.m)) := by
  refine Fn.unpack fun b hb => ?_
  have hck : ∀ G, Fn Tryz.prog 23 [.pointer (some ⟨lb, 0, none⟩), .agg x.vals.toArray] f (loreH el lb n l :: G) (Ret (.int .i64 (chk n (strm (l.map MV.m)) x.m)) f (loreH el lb n l :: G)) := fun G => lcheck_fn f G htab hx
  have hfit : openZ (chk n (strm (l.map MV.m)) x.m) = true → 0 ≤ x.m.number := fun h => fits_num (open_fits h)
  generalize chk n (strm (l.map MV.m)) x.m = c at *
  have hbf := hb.mono he
  cases ho : openZ c with
  | false =>
    refine Fn.enter Tryz.func39 rfl Tryz.ntmps39 rfl (L := [(0, _), (1, _), (2, _)]) ⟨rfl, rfl, rfl, trivial⟩ fun base => ?_
    repeat ((first | apply H.seq | apply H.region))
    refine H.box (ls := x.vals) rfl rfl rfl rfl fun mb => ?_
    repeat (first | ((first | apply H.move | apply H.assign); (iterate 3 exact rfl)) | (first | apply H.seq | apply H.region | apply H.nil | apply H.then_normal) | ((apply H.pickF); (iterate 4 exact rfl)) | ((apply H.ptrNil); (iterate 5 exact rfl)) | (apply H.cond_false; exact rfl) | (apply H.skip))
    refine H.loadN (ls := x.vals) rfl rfl rfl (Rd.ofRow (.here _ _ _)) rfl rfl ?_
    refine H.front (x := loreH _ _ _ _) (by repeat (first | exact .here _ _ | apply Pull.there)) ?_
    refine H.callR rfl rfl rfl (hck _) ?_
    repeat (first | ((first | apply H.move | apply H.assign); (iterate 3 exact rfl)) | (first | apply H.seq | apply H.region | apply H.nil | apply H.then_normal))
    refine H.callR rfl rfl rfl (wopen_fn f _) ?_
    refine H.not (b := _) (c := _) rfl rfl rfl rfl ?_
    rw [ho]
    repeat (first | ((first | apply H.move | apply H.assign); (iterate 3 exact rfl)) | (first | apply H.seq | apply H.region | apply H.nil | apply H.then_normal) | (apply H.cond_true; exact rfl) | (first | apply H.ret | apply H.then_ret))
    refine H.drop (x := row mb _ _) (by repeat (first | exact .here _ _ | apply Pull.there)) ?_
    refine H.front (x := loreH _ _ _ _) (by repeat (first | exact .here _ _ | apply Pull.there)) ?_
    refine H.front (x := mp _ _ _) (by repeat (first | exact .here _ _ | apply Pull.there)) ?_
    refine H.front (x := row wb _ _) (by repeat (first | exact .here _ _ | apply Pull.there)) ?_
    refine H.imp (wait_fold b hbf) ?_
    exact H.ret1 rfl rfl (fun _ h => h) ⟨nil0, c, ws, .shut ho _ (List.Perm.refl _), by omega, Dj.nil _, rfl, (un_nil _).symm, rfl⟩
  | true =>
    have hnum := hfit ho
    by_cases hin : keyM x.m ∈ (ws.map MV.m).map keyM
    · obtain ⟨ym, hym, hyk⟩ := List.mem_map.1 hin
      obtain ⟨y, hy, rfl⟩ := List.mem_map.1 hym
      have hget : getKV (ws.map entV) (keyM x.m) = some (.agg y.vals.toArray) := getKV_mem (by rw [ent_keys]; exact hb.ku) (by rw [← hyk]; exact List.mem_map_of_mem hy)
      have hg1 : (getKV (ws.map entV) (keyM x.m)).getD (.agg (msgZ.vals none 0).toArray) = .agg y.vals.toArray := by rw [hget]; rfl
      have hg2 : (getKV (ws.map entV) (keyM x.m)).isSome = true := by rw [hget]; rfl
      refine Fn.enter Tryz.func39 rfl Tryz.ntmps39 rfl (L := [(0, _), (1, _), (2, _)]) ⟨rfl, rfl, rfl, trivial⟩ fun base => ?_
      repeat ((first | apply H.seq | apply H.region))
      refine H.box (ls := x.vals) rfl rfl rfl rfl fun mb => ?_
      repeat (first | ((first | apply H.move | apply H.assign); (iterate 3 exact rfl)) | (first | apply H.seq | apply H.region | apply H.nil | apply H.then_normal) | ((apply H.pickF); (iterate 4 exact rfl)) | ((apply H.ptrNil); (iterate 5 exact rfl)) | (apply H.cond_false; exact rfl) | (apply H.skip))
      refine H.loadN (ls := x.vals) rfl rfl rfl (Rd.ofRow (.here _ _ _)) rfl rfl ?_
      refine H.front (x := loreH _ _ _ _) (by repeat (first | exact .here _ _ | apply Pull.there)) ?_
      refine H.callR rfl rfl rfl (hck _) ?_
      repeat (first | ((first | apply H.move | apply H.assign); (iterate 3 exact rfl)) | (first | apply H.seq | apply H.region | apply H.nil | apply H.then_normal))
      refine H.callR rfl rfl rfl (wopen_fn f _) ?_
      refine H.not (b := _) (c := _) rfl rfl rfl rfl ?_
      rw [ho]
      repeat (first | (apply H.fieldAddr; (iterate 3 exact rfl); exact inferInstance; exact rfl) | (apply H.load1; (iterate 3 exact rfl); apply Rd1.ofRow; (repeat (first | exact .here _ _ _ | apply At.there)); (iterate 2 exact rfl)) | (first | apply H.seq | apply H.region | apply H.nil | apply H.then_normal) | ((apply H.build); (iterate 5 exact rfl)) | (apply H.cond_false; exact rfl) | (apply H.skip))
      skip
      refine H.alloc (ls := nmV (0, 0)) rfl rfl rfl fun kb => ?_
      refine H.storeN (ls := nmV (0, 0)) (vs := nmV (keyM x.m)) (ls' := nmV (keyM x.m)) rfl rfl rfl (nmV_one _) rfl rfl (Nat.le_refl 2) (.here _ _ _) ?_
      repeat ((first | apply H.seq | apply H.nil | apply H.then_normal))
      refine H.front (x := mp _ _ _) (by repeat (first | exact .here _ _ | apply Pull.there)) ?_
      refine H.front (x := row wb _ _) (by repeat (first | exact .here _ _ | apply Pull.there)) ?_
      refine H.front (x := row kb _ _) (by repeat (first | exact .here _ _ | apply Pull.there)) ?_
      refine H.drawB (by kernel_rfl) (by decide +kernel) (by repeat (first | exact blind_fn | refine blind_seq ?_ | refine blind_block ?_ | refine blind_loop ?_)) (S := [_, _, _]) rfl ?_
      refine HB.quiet [(0, false), (1, false), (2, false), (3, false), (4, false), (5, false), (6, false), (7, false), (8, false)] 3 (by kernel_rfl) ?_
      repeat (first | (refine HQ.loadN (ls := nmV (keyM x.m)) rfl rfl rfl (Rd.ofRow (.here _ _ _)) rfl rfl ?_) | ((first | apply HQ.move | apply HQ.nilCheck); (iterate 3 exact rfl)) | (apply HQ.fieldAddr; (iterate 3 exact rfl); exact inferInstance; exact rfl) | (apply HQ.load1; (iterate 3 exact rfl); apply Rd1.ofRow; (repeat (first | exact .here _ _ _ | apply At.there)); (iterate 2 exact rfl)) | ((apply HQ.extract); (iterate 4 exact rfl)) | (refine HQ.lookup2 (enc := nmE) (k := keyM x.m) rfl rfl rfl (by repeat (first | exact .here _ _ _ | apply At.there)) rfl hg1 hg2 rfl ?_))
      refine HQ.more rfl ?_
      refine HB.ev1 (i := 9) (by kernel_rfl) rfl ?_
      refine H.alloc (ls := msgZ.vals none 0) rfl rfl rfl fun ob => ?_
      repeat ((apply H.nil))
      refine H.front (x := mp _ _ _) (by repeat (first | exact .here _ _ | apply Pull.there)) ?_
      refine H.front (x := row wb _ _) (by repeat (first | exact .here _ _ | apply Pull.there)) ?_
      refine H.front (x := row kb _ _) (by repeat (first | exact .here _ _ | apply Pull.there)) ?_
      refine H.on0 rfl ?_
      refine HB.ev1 (i := 10) (by kernel_rfl) rfl ?_
      refine H.storeN (ls := msgZ.vals none 0) (vs := y.vals) (ls' := y.vals) rfl rfl rfl (allOne_mem rfl) rfl rfl (Nat.le_refl 121) (.there _ (.there _ (.there _ (.here _ _ _)))) ?_
      repeat ((apply H.nil))
      refine H.on0 rfl ?_
      refine HB.quiet [(11, false)] 0 (by kernel_rfl) ?_
      repeat (((apply HQ.assign); (iterate 3 exact rfl)))
      refine HQ.more rfl ?_
      refine HB.done (by kernel_rfl) ?_
      repeat (first | ((first | apply H.move | apply H.assign); (iterate 3 exact rfl)) | (first | apply H.seq | apply H.region | apply H.nil | apply H.then_normal) | (apply H.cond_true; exact rfl) | (first | apply H.ret | apply H.then_ret))
      refine H.drop (x := row ob _ _) (by repeat (first | exact .here _ _ | apply Pull.there)) ?_
      refine H.drop (x := row kb _ _) (by repeat (first | exact .here _ _ | apply Pull.there)) ?_
      refine H.drop (x := row mb _ _) (by repeat (first | exact .here _ _ | apply Pull.there)) ?_
      refine H.front (x := loreH _ _ _ _) (by repeat (first | exact .here _ _ | apply Pull.there)) ?_
      refine H.front (x := mp _ _ _) (by repeat (first | exact .here _ _ | apply Pull.there)) ?_
      refine H.front (x := row wb _ _) (by repeat (first | exact .here _ _ | apply Pull.there)) ?_
      refine H.imp (wait_fold b hbf) ?_
      exact H.ret1 rfl rfl (fun _ h => h) ⟨nil0, 13, ws, .again ho y.m hym hyk _ (List.Perm.refl _), by omega, Dj.nil _, rfl, (un_nil _).symm, rfl⟩
    · have hget : getKV (ws.map entV) (keyM x.m) = none := (getKV_none _ _).2 (by rw [ent_keys]; exact hin)
      have hg1 : (getKV (ws.map entV) (keyM x.m)).getD (.agg (msgZ.vals none 0).toArray) = .agg (msgZ.vals none 0).toArray := by rw [hget]; rfl
      have hg2 : (getKV (ws.map entV) (keyM x.m)).isSome = false := by rw [hget]; rfl
      have hk : ∀ y ∈ ws.map MV.m, keyM y ≠ keyM x.m := fun y hy e => hin (by rw [← e]; exact List.mem_map_of_mem hy)
      refine Fn.enter Tryz.func39 rfl Tryz.ntmps39 rfl (L := [(0, _), (1, _), (2, _)]) ⟨rfl, rfl, rfl, trivial⟩ fun base => ?_
      repeat ((first | apply H.seq | apply H.region))
      refine H.box (ls := x.vals) rfl rfl rfl rfl fun mb => ?_
      repeat (first | ((first | apply H.move | apply H.assign); (iterate 3 exact rfl)) | (first | apply H.seq | apply H.region | apply H.nil | apply H.then_normal) | ((apply H.pickF); (iterate 4 exact rfl)) | ((apply H.ptrNil); (iterate 5 exact rfl)) | (apply H.cond_false; exact rfl) | (apply H.skip))
      refine H.loadN (ls := x.vals) rfl rfl rfl (Rd.ofRow (.here _ _ _)) rfl rfl ?_
      refine H.front (x := loreH _ _ _ _) (by repeat (first | exact .here _ _ | apply Pull.there)) ?_
      refine H.callR rfl rfl rfl (hck _) ?_
      repeat (first | ((first | apply H.move | apply H.assign); (iterate 3 exact rfl)) | (first | apply H.seq | apply H.region | apply H.nil | apply H.then_normal))
      refine H.callR rfl rfl rfl (wopen_fn f _) ?_
      refine H.not (b := _) (c := _) rfl rfl rfl rfl ?_
      rw [ho]
      repeat (first | (apply H.fieldAddr; (iterate 3 exact rfl); exact inferInstance; exact rfl) | (apply H.load1; (iterate 3 exact rfl); apply Rd1.ofRow; (repeat (first | exact .here _ _ _ | apply At.there)); (iterate 2 exact rfl)) | (first | apply H.seq | apply H.region | apply H.nil | apply H.then_normal) | ((apply H.build); (iterate 5 exact rfl)) | (apply H.cond_false; exact rfl) | (apply H.skip))
      skip
      refine H.alloc (ls := nmV (0, 0)) rfl rfl rfl fun kb => ?_
      refine H.storeN (ls := nmV (0, 0)) (vs := nmV (keyM x.m)) (ls' := nmV (keyM x.m)) rfl rfl rfl (nmV_one _) rfl rfl (Nat.le_refl 2) (.here _ _ _) ?_
      repeat ((first | apply H.seq | apply H.nil | apply H.then_normal))
      refine H.front (x := mp _ _ _) (by repeat (first | exact .here _ _ | apply Pull.there)) ?_
      refine H.front (x := row wb _ _) (by repeat (first | exact .here _ _ | apply Pull.there)) ?_
      refine H.front (x := row kb _ _) (by repeat (first | exact .here _ _ | apply Pull.there)) ?_
      refine H.drawB (by kernel_rfl) (by decide +kernel) (by repeat (first | exact blind_fn | refine blind_seq ?_ | refine blind_block ?_ | refine blind_loop ?_)) (S := [_, _, _]) rfl ?_
      refine HB.quiet [(0, false), (1, false), (2, false), (3, false), (4, false), (5, false), (6, false), (7, false), (8, false)] 3 (by kernel_rfl) ?_
      repeat (first | (refine HQ.loadN (ls := nmV (keyM x.m)) rfl rfl rfl (Rd.ofRow (.here _ _ _)) rfl rfl ?_) | ((first | apply HQ.move | apply HQ.nilCheck); (iterate 3 exact rfl)) | (apply HQ.fieldAddr; (iterate 3 exact rfl); exact inferInstance; exact rfl) | (apply HQ.load1; (iterate 3 exact rfl); apply Rd1.ofRow; (repeat (first | exact .here _ _ _ | apply At.there)); (iterate 2 exact rfl)) | ((apply HQ.extract); (iterate 4 exact rfl)) | (refine HQ.lookup2 (enc := nmE) (k := keyM x.m) rfl rfl rfl (by repeat (first | exact .here _ _ _ | apply At.there)) rfl hg1 hg2 rfl ?_))
      refine HQ.more rfl ?_
      refine HB.ev1 (i := 9) (by kernel_rfl) rfl ?_
      refine H.alloc (ls := msgZ.vals none 0) rfl rfl rfl fun ob => ?_
      repeat ((apply H.nil))
      refine H.front (x := mp _ _ _) (by repeat (first | exact .here _ _ | apply Pull.there)) ?_
      refine H.front (x := row wb _ _) (by repeat (first | exact .here _ _ | apply Pull.there)) ?_
      refine H.front (x := row kb _ _) (by repeat (first | exact .here _ _ | apply Pull.there)) ?_
      refine H.on0 rfl ?_
      refine HB.ev1 (i := 10) (by kernel_rfl) rfl ?_
      refine H.storeN (ls := msgZ.vals none 0) (vs := msgZ.vals none 0) (ls' := msgZ.vals none 0) rfl rfl rfl (allOne_mem rfl) rfl rfl (Nat.le_refl 121) (.there _ (.there _ (.there _ (.here _ _ _)))) ?_
      repeat ((apply H.nil))
      refine H.on0 rfl ?_
      refine HB.quiet [(11, false)] 0 (by kernel_rfl) ?_
      repeat (((apply HQ.assign); (iterate 3 exact rfl)))
      refine HQ.more rfl ?_
      refine HB.done (by kernel_rfl) ?_
      repeat (first | ((apply H.move); (iterate 3 exact rfl)) | (apply H.fieldAddr; (iterate 3 exact rfl); exact inferInstance; exact rfl) | (apply H.load1; (iterate 3 exact rfl); apply Rd1.ofRow; (repeat (first | exact .here _ _ _ | apply At.there)); (iterate 2 exact rfl)) | (first | apply H.seq | apply H.region | apply H.nil | apply H.then_normal) | (apply H.cond_false; exact rfl) | (apply H.skip))
      refine H.drop (x := row ob _ _) (by repeat (first | exact .here _ _ | apply Pull.there)) ?_
      refine H.front (x := row wb _ _) (by repeat (first | exact .here _ _ | apply Pull.there)) ?_
      refine H.front (x := mp _ _ _) (by repeat (first | exact .here _ _ | apply Pull.there)) ?_
      refine H.call rfl rfl rfl (greatest_fn f _ hb.ku hb.pos hb.len) fun v f' A' hr => ?_
      obtain ⟨k, hgr, rfl, hff, rfl⟩ := hr
      rw [hff]
      repeat (first | ((apply H.move); (iterate 3 exact rfl)) | ((apply H.extract); (iterate 4 exact rfl)))
      refine H.alloc (ls := nmV (0, 0)) rfl rfl rfl fun gb => ?_
      refine H.storeN (ls := nmV (0, 0)) (vs := nmV k) (ls' := nmV k) rfl rfl rfl (nmV_one k) rfl rfl (Nat.le_refl 2) (.here _ _ _) ?_
      by_cases hc : 11 ≤ cntO (ws.map MV.m) x.m.origin
      · obtain ⟨t, ht, rfl⟩ := hgr.pos (by omega)
        by_cases hl : t.number < x.m.number
        · skip
          repeat (first | ((first | apply H.move | apply H.assign); (iterate 3 exact rfl)) | (apply H.fieldAddr; (iterate 3 exact rfl); exact inferInstance; exact rfl) | (apply H.load1; (iterate 3 exact rfl); apply Rd1.ofRow; (repeat (first | exact .here _ _ _ | apply At.there)); (iterate 2 exact rfl)) | (first | apply H.seq | apply H.region | apply H.nil | apply H.then_normal) | ((apply H.cmp); (iterate 5 exact rfl)) | (first | apply H.ret | apply H.then_ret) | (apply H.cond_yes; exact rfl; (first | assumption | omega)))
          refine H.drop (x := row gb _ _) (by repeat (first | exact .here _ _ | apply Pull.there)) ?_
          refine H.drop (x := row kb _ _) (by repeat (first | exact .here _ _ | apply Pull.there)) ?_
          refine H.drop (x := row mb _ _) (by repeat (first | exact .here _ _ | apply Pull.there)) ?_
          refine H.front (x := loreH _ _ _ _) (by repeat (first | exact .here _ _ | apply Pull.there)) ?_
          refine H.front (x := mp _ _ _) (by repeat (first | exact .here _ _ | apply Pull.there)) ?_
          refine H.front (x := row wb _ _) (by repeat (first | exact .here _ _ | apply Pull.there)) ?_
          refine H.imp (wait_fold b hbf) ?_
          exact H.ret1 rfl rfl (fun _ h => h) ⟨nil0, 7, ws, .full ho hk hc t ht hl _ (List.Perm.refl _), by omega, Dj.nil _, rfl, (un_nil _).symm, rfl⟩
        · skip
          repeat (first | ((first | apply H.move | apply H.assign); (iterate 3 exact rfl)) | (apply H.fieldAddr; (iterate 3 exact rfl); exact inferInstance; exact rfl) | (apply H.load1; (iterate 3 exact rfl); apply Rd1.ofRow; (repeat (first | exact .here _ _ _ | apply At.there)); (iterate 2 exact rfl)) | (first | apply H.seq | apply H.region | apply H.nil | apply H.then_normal) | ((apply H.cmp); (iterate 5 exact rfl)) | (apply H.skip) | (apply H.cond_yes; exact rfl; (omega)) | (apply H.cond_no; exact rfl; (assumption)))
          refine H.front (x := mp _ _ _) (by repeat (first | exact .here _ _ | apply Pull.there)) ?_
          refine H.openMap fun es clock hes => ?_
          refine H.front (x := row wb _ _) (by repeat (first | exact .here _ _ | apply Pull.there)) ?_
          refine H.front (x := row gb _ _) (by repeat (first | exact .here _ _ | apply Pull.there)) ?_
          refine H.drawB (by kernel_rfl) (by decide +kernel) (by repeat (first | exact blind_fn | refine blind_seq ?_ | refine blind_block ?_ | refine blind_loop ?_)) (S := [_, _]) rfl ?_
          refine HB.quiet [(0, false), (1, false), (2, false), (3, false), (4, false)] 1 (by kernel_rfl) ?_
          repeat (first | (refine HQ.loadN (ls := nmV (keyM t)) rfl rfl rfl (Rd.ofRow (.here _ _ _)) rfl rfl ?_) | ((first | apply HQ.move | apply HQ.nilCheck); (iterate 3 exact rfl)) | (apply HQ.fieldAddr; (iterate 3 exact rfl); exact inferInstance; exact rfl) | (apply HQ.load1; (iterate 3 exact rfl); apply Rd1.ofRow; (repeat (first | exact .here _ _ _ | apply At.there)); (iterate 2 exact rfl)))
          refine HQ.more rfl ?_
          refine HB.ev1 (i := 5) (by kernel_rfl) rfl ?_
          refine H.deleteS (enc := nmE) (k := keyM t) rfl rfl rfl (by repeat (first | exact .here _ _ _ | apply At.there)) rfl ?_
          repeat ((apply H.nil))
          refine H.on0 rfl ?_
          refine HB.done (by kernel_rfl) ?_
          refine H.front (x := mpS _ _ _ _) (by repeat (first | exact .here _ _ | apply Pull.there)) ?_
          refine H.imp mpS_fold ?_
          rw [delE_kv, hes, ent_filter]
          have hsub : ∀ y ∈ ws.filter (fun x => !decide (keyM t = keyM x.m)), y ∈ ws := fun y hy => (List.mem_filter.1 hy).1
          have hR : ∀ ws', ws'.Perm ((ws.filter fun x => !decide (keyM t = keyM x.m)).map MV.m ++ [x.m]) → PutR c (ws.map MV.m) x.m 0 ws' := fun ws' hp => by
            rw [map_filt] at hp
            exact .swap ho hk hc t ht hl ws' ((hp.cons t).trans ((perm_del hb.ku ht.mem).append_right [x.m]))
          have hw2 : Waitφ e (ws.filter fun x => !decide (keyM t = keyM x.m)) := ⟨fun y hy => hb.g y (hsub y hy), fun y hy => hb.pos y (hsub y hy), by rw [map_filt]; exact hb.ku.filter _, Nat.le_trans (List.length_filter_le _ _) hb.len⟩
          have hl2 : (ws.filter fun x => !decide (keyM t = keyM x.m)).length ≤ ws.length := List.length_filter_le _ _
          have hno : keyM x.m ∉ ((ws.filter fun x => !decide (keyM t = keyM x.m)).map MV.m).map keyM := fun h => by
            obtain ⟨ym, hym, hyk⟩ := List.mem_map.1 h
            obtain ⟨y, hy, rfl⟩ := List.mem_map.1 hym
            exact hk y.m (List.mem_map_of_mem (hsub y hy)) hyk
          generalize (ws.filter fun x => !decide (keyM t = keyM x.m)) = ws2 at *
          repeat (first | (apply H.fieldAddr; (iterate 3 exact rfl); exact inferInstance; exact rfl) | (apply H.load1; (iterate 3 exact rfl); apply Rd1.ofRow; (repeat (first | exact .here _ _ _ | apply At.there)); (iterate 2 exact rfl)) | (first | apply H.seq | apply H.region | apply H.then_normal))
          refine H.callE2 rfl rfl rfl (cloneQ_fn f _ hx.1 hx.2.1) fun qp qc => ?_
          repeat (first | (apply H.fieldAddr; (iterate 3 exact rfl); exact inferInstance; exact rfl) | (first | apply H.seq | apply H.nil | apply H.then_normal) | (apply H.store1; (iterate 4 exact rfl); (repeat (first | exact .here _ _ _ | apply At.there)); (repeat (first | exact .here _ _ _ | apply SetV.there))))
          refine H.freeze (x := qs _ _ _) (by repeat (first | exact .here _ _ | apply Pull.there)) fun g hg hd => ?_
          refine H.front (x := row wb _ _) (by repeat (first | exact .here _ _ | apply Pull.there)) ?_
          refine H.front (x := row kb _ _) (by repeat (first | exact .here _ _ | apply Pull.there)) ?_
          refine H.front (x := row mb _ _) (by repeat (first | exact .here _ _ | apply Pull.there)) ?_
          refine H.drawB (by kernel_rfl) (by decide +kernel) (by repeat (first | exact blind_fn | refine blind_seq ?_ | refine blind_block ?_ | refine blind_loop ?_)) (S := [_, _, _]) rfl ?_
          refine HB.quiet [(0, false), (1, false), (2, false), (3, false), (4, false), (5, false)] 1 (by kernel_rfl) ?_
          repeat (first | ((first | apply HQ.move | apply HQ.nilCheck); (iterate 3 exact rfl)) | (apply HQ.fieldAddr; (iterate 3 exact rfl); exact inferInstance; exact rfl) | (apply HQ.load1; (iterate 3 exact rfl); apply Rd1.ofRow; (repeat (first | exact .here _ _ _ | apply At.there)); (iterate 2 exact rfl)))
          refine HQ.loadN (ls := nmV (keyM x.m)) rfl rfl rfl (Rd.ofRow (.there _ (.here _ _ _))) rfl rfl ?_
          refine HQ.loadN (ls := x.m.vals qp qc) rfl rfl rfl (Rd.ofRow (.here _ _ _)) rfl rfl ?_
          refine HQ.more rfl ?_
          refine HB.ev1 (i := 6) (by kernel_rfl) rfl ?_
          refine H.mapUpdate (enc := nmE) (k := keyM x.m) rfl rfl rfl rfl (by repeat (first | exact .here _ _ _ | apply At.there)) rfl ?_
          have hput : putKV (ws2.map entV) (keyM x.m) (.agg (x.m.vals qp qc).toArray) = (ws2 ++ [(⟨x.m, qp, qc⟩ : MV)]).map entV := by
            rw [putKV_absent (by rw [ent_keys]; exact hno), List.map_append]; rfl
          have hlf := Le.un f g
          have hog : (⟨x.m, qp, qc⟩ : MV).Good (un f g) := ⟨qs_qat hg hd, hx.2⟩
          have hφ : Waitφ (un f g) (ws2 ++ [(⟨x.m, qp, qc⟩ : MV)]) := ⟨fun y hy => by
              rcases List.mem_append.1 hy with h | h
              · exact (hw2.g y h).mono (he.trans hlf)
              · rw [List.mem_singleton.1 h]; exact hog, fun y hy => by
              rcases List.mem_append.1 hy with h | h
              · exact hw2.pos y h
              · rw [List.mem_singleton.1 h]; exact hnum, by
              rw [List.map_append]
              exact hw2.ku.snoc fun y hy e2 => hno (by show keyM x.m ∈ _; rw [← show keyM y = keyM x.m from e2]; exact List.mem_map_of_mem hy), by
              rw [List.length_append]; show ws2.length + 1 ≤ _; omega⟩
          rw [hput]
          repeat ((apply H.nil))
          refine H.on0 rfl ?_
          refine HB.done (by kernel_rfl) ?_
          repeat (first | ((apply H.assign); (iterate 3 exact rfl)) | (first | apply H.seq | apply H.region | apply H.nil | apply H.then_normal) | (apply H.ret))
          refine H.drop (x := row gb _ _) (by repeat (first | exact .here _ _ | apply Pull.there)) ?_
          refine H.drop (x := row kb _ _) (by repeat (first | exact .here _ _ | apply Pull.there)) ?_
          refine H.drop (x := row mb _ _) (by repeat (first | exact .here _ _ | apply Pull.there)) ?_
          refine H.front (x := loreH _ _ _ _) (by repeat (first | exact .here _ _ | apply Pull.there)) ?_
          refine H.front (x := mp _ _ _) (by repeat (first | exact .here _ _ | apply Pull.there)) ?_
          refine H.front (x := row wb _ _) (by repeat (first | exact .here _ _ | apply Pull.there)) ?_
          refine H.imp (wait_fold b hφ) ?_
          exact H.ret1 rfl rfl (fun _ h => h) ⟨g, 0, _, hR _ (by rw [List.map_append]; exact List.Perm.refl _), by rw [List.length_append]; show ws2.length + 1 ≤ _; omega, hd, rfl, rfl, rfl⟩
      · have hR : ∀ ws', ws'.Perm (ws.map MV.m ++ [x.m]) → PutR c (ws.map MV.m) x.m 0 ws' := fun ws' hp => .room ho hk (by omega) ws' hp
        repeat (first | ((first | apply H.move | apply H.assign); (iterate 3 exact rfl)) | (apply H.fieldAddr; (iterate 3 exact rfl); exact inferInstance; exact rfl) | (apply H.load1; (iterate 3 exact rfl); apply Rd1.ofRow; (repeat (first | exact .here _ _ _ | apply At.there)); (iterate 2 exact rfl)) | (first | apply H.seq | apply H.region | apply H.nil | apply H.then_normal) | ((apply H.cmp); (iterate 5 exact rfl)) | (apply H.skip) | (apply H.cond_no; exact rfl; (omega)))
        obtain ⟨ws2, hws2⟩ : ∃ ws2, ws2 = ws := ⟨_, rfl⟩
        have hw2 : Waitφ e ws2 := by rw [hws2]; exact hb
        have hl2 : ws2.length ≤ ws.length := by rw [hws2]; exact Nat.le_refl _
        have hno : keyM x.m ∉ (ws2.map MV.m).map keyM := by rw [hws2]; exact hin
        rw [← hws2] at hR ⊢
        skip
        refine H.callE2 rfl rfl rfl (cloneQ_fn f _ hx.1 hx.2.1) fun qp qc => ?_
        repeat (first | (apply H.fieldAddr; (iterate 3 exact rfl); exact inferInstance; exact rfl) | (first | apply H.seq | apply H.nil | apply H.then_normal) | (apply H.store1; (iterate 4 exact rfl); (repeat (first | exact .here _ _ _ | apply At.there)); (repeat (first | exact .here _ _ _ | apply SetV.there))))
        refine H.freeze (x := qs _ _ _) (by repeat (first | exact .here _ _ | apply Pull.there)) fun g hg hd => ?_
        refine H.front (x := row wb _ _) (by repeat (first | exact .here _ _ | apply Pull.there)) ?_
        refine H.front (x := row kb _ _) (by repeat (first | exact .here _ _ | apply Pull.there)) ?_
        refine H.front (x := row mb _ _) (by repeat (first | exact .here _ _ | apply Pull.there)) ?_
        refine H.drawB (by kernel_rfl) (by decide +kernel) (by repeat (first | exact blind_fn | refine blind_seq ?_ | refine blind_block ?_ | refine blind_loop ?_)) (S := [_, _, _]) rfl ?_
        refine HB.quiet [(0, false), (1, false), (2, false), (3, false), (4, false), (5, false)] 1 (by kernel_rfl) ?_
        repeat (first | ((first | apply HQ.move | apply HQ.nilCheck); (iterate 3 exact rfl)) | (apply HQ.fieldAddr; (iterate 3 exact rfl); exact inferInstance; exact rfl) | (apply HQ.load1; (iterate 3 exact rfl); apply Rd1.ofRow; (repeat (first | exact .here _ _ _ | apply At.there)); (iterate 2 exact rfl)))
        refine HQ.loadN (ls := nmV (keyM x.m)) rfl rfl rfl (Rd.ofRow (.there _ (.here _ _ _))) rfl rfl ?_
        refine HQ.loadN (ls := x.m.vals qp qc) rfl rfl rfl (Rd.ofRow (.here _ _ _)) rfl rfl ?_
        refine HQ.more rfl ?_
        refine HB.ev1 (i := 6) (by kernel_rfl) rfl ?_
        refine H.mapUpdate (enc := nmE) (k := keyM x.m) rfl rfl rfl rfl (by repeat (first | exact .here _ _ _ | apply At.there)) rfl ?_
        have hput : putKV (ws2.map entV) (keyM x.m) (.agg (x.m.vals qp qc).toArray) = (ws2 ++ [(⟨x.m, qp, qc⟩ : MV)]).map entV := by
          rw [putKV_absent (by rw [ent_keys]; exact hno), List.map_append]; rfl
        have hlf := Le.un f g
        have hog : (⟨x.m, qp, qc⟩ : MV).Good (un f g) := ⟨qs_qat hg hd, hx.2⟩
        have hφ : Waitφ (un f g) (ws2 ++ [(⟨x.m, qp, qc⟩ : MV)]) := ⟨fun y hy => by
            rcases List.mem_append.1 hy with h | h
            · exact (hw2.g y h).mono (he.trans hlf)
            · rw [List.mem_singleton.1 h]; exact hog, fun y hy => by
            rcases List.mem_append.1 hy with h | h
            · exact hw2.pos y h
            · rw [List.mem_singleton.1 h]; exact hnum, by
            rw [List.map_append]
            exact hw2.ku.snoc fun y hy e2 => hno (by show keyM x.m ∈ _; rw [← show keyM y = keyM x.m from e2]; exact List.mem_map_of_mem hy), by
            rw [List.length_append]; show ws2.length + 1 ≤ _; omega⟩
        rw [hput]
        repeat ((apply H.nil))
        refine H.on0 rfl ?_
        refine HB.done (by kernel_rfl) ?_
        repeat (first | ((apply H.assign); (iterate 3 exact rfl)) | (first | apply H.seq | apply H.region | apply H.nil | apply H.then_normal) | (apply H.ret))
        refine H.drop (x := row gb _ _) (by repeat (first | exact .here _ _ | apply Pull.there)) ?_
        refine H.drop (x := row kb _ _) (by repeat (first | exact .here _ _ | apply Pull.there)) ?_
        refine H.drop (x := row mb _ _) (by repeat (first | exact .here _ _ | apply Pull.there)) ?_
        refine H.front (x := loreH _ _ _ _) (by repeat (first | exact .here _ _ | apply Pull.there)) ?_
        refine H.front (x := mp _ _ _) (by repeat (first | exact .here _ _ | apply Pull.there)) ?_
        refine H.front (x := row wb _ _) (by repeat (first | exact .here _ _ | apply Pull.there)) ?_
        refine H.imp (wait_fold b hφ) ?_
        exact H.ret1 rfl rfl (fun _ h => h) ⟨g, 0, _, hR _ (by rw [List.map_append]; exact List.Perm.refl _), by rw [List.length_append]; show ws2.length + 1 ≤ _; omega, hd, rfl, rfl, rfl⟩
end
end Go.Proofs.YtoigpgdmignaoaaGreatDoor

/- Layer 13: the program's Next. Condition: the table of the standard stands in the fragment. -/
namespace Go.Proofs.YtoigpgdmignaoaaGreatDoor
open Go
def nextV : Option MV → List Value
  | some y => y.vals
  | none => msgZ.vals none 0
def NextP (f : Frag) (F : List HP) (e : Frag) (wb : Nat) (ws : List MV) (c : Msg → Int) : Value → Frag → List HP → Prop := fun v f' A' =>
  ∃ (r : Option MV) (ws' : List MV), NextR c (ws.map MV.m) (r.map MV.m) (ws'.map MV.m) ∧ (∀ y, r = some y → y ∈ ws ∧ y.Good e) ∧ (∀ y ∈ ws', y ∈ ws) ∧ v = .tuple #[.agg (nextV r).toArray, .bool r.isSome] ∧ f' = f ∧ A' = waitH e wb ws' :: F
theorem imp_first {p p' : HP} {A : List HP} (h : ∀ x, p x → p' x) : ∀ x, stars (p :: A) x → stars (p' :: A) x := fun _ ⟨m1, m2, d, e, a, r⟩ => ⟨m1, m2, d, e, h _ a, r⟩
structure NS where
  ws : List MV
  es : List (Nm × Value × Nat)
  seen : List Nm
  rd : List Nm
  p : Option Addr
  c : Nat
def curP (c : Msg → Int) (seen : List Nm) (x : MV) : Bool := !decide (keyM x.m ∈ seen) || openZ (c x.m)
structure NΦ (ws0 : List MV) (c : Msg → Int) (s : NS) : Prop where
  hes : s.es.map kvOf = s.ws.map entV
  cur : s.ws = ws0.filter (curP c s.seen)
  heap : Heap s.rd
  mem : ∀ k, k ∈ s.rd ↔ ∃ x ∈ ws0, keyM x.m = k ∧ c x.m = 0 ∧ k ∈ s.seen
  len : s.rd.length + unsE s.es s.seen ≤ 100000
theorem KU.sameV {ws : List MV} (h : KU (ws.map MV.m)) {x y : MV} (hx : x ∈ ws) (hy : y ∈ ws) (e : keyM x.m = keyM y.m) : x = y := by
  unfold KU at h
  induction ws with
  | nil => cases hx
  | cons z r ih =>
    have h' := List.nodup_cons.1 h
    have hin : ∀ w ∈ r, keyM w.m ∈ (r.map MV.m).map keyM := fun w hw => List.mem_map_of_mem (List.mem_map_of_mem hw)
    rcases List.mem_cons.1 hx with h1 | h1
    · rcases List.mem_cons.1 hy with h2 | h2
      · rw [h1, h2]
      · exact absurd (by rw [← h1, e]; exact hin y h2) h'.1
    · rcases List.mem_cons.1 hy with h2 | h2
      · exact absurd (by rw [← h2, ← e]; exact hin x h1) h'.1
      · exact ih h'.2 h1 h2
theorem cur_del {ws0 : List MV} {c : Msg → Int} {seen : List Nm} {x : MV} (hu : KU (ws0.map MV.m)) (hx : x ∈ ws0) (ho : openZ (c x.m) = false) :
    (ws0.filter (curP c seen)).filter (fun y => !decide (keyM x.m = keyM y.m)) = ws0.filter (curP c (keyM x.m :: seen)) := by
  rw [List.filter_filter]
  refine List.filter_congr fun y hy => ?_
  by_cases e : keyM x.m = keyM y.m
  · have := hu.sameV hx hy e
    subst this
    have h2 : decide (keyM x.m ∈ keyM x.m :: seen) = true := decide_eq_true (by simp)
    unfold curP
    rw [decide_eq_true rfl, h2, ho]
    rfl
  · have h2 : decide (keyM y.m ∈ keyM x.m :: seen) = decide (keyM y.m ∈ seen) := by
      by_cases h3 : keyM y.m ∈ seen
      · rw [decide_eq_true h3, decide_eq_true (List.mem_cons_of_mem _ h3)]
      · rw [decide_eq_false h3, decide_eq_false fun h4 => by
          rcases List.mem_cons.1 h4 with h5 | h5
          · exact e h5.symm
          · exact h3 h5]
    unfold curP
    rw [decide_eq_false e, h2]
    simp
theorem cur_keep {ws0 : List MV} {c : Msg → Int} {seen : List Nm} {x : MV} (hu : KU (ws0.map MV.m)) (hx : x ∈ ws0) (ho : openZ (c x.m) = true) :
    ws0.filter (curP c seen) = ws0.filter (curP c (keyM x.m :: seen)) := by
  refine List.filter_congr fun y hy => ?_
  by_cases e : keyM x.m = keyM y.m
  · have := hu.sameV hx hy e
    subst this
    unfold curP
    rw [ho]
    simp
  · have h2 : decide (keyM y.m ∈ keyM x.m :: seen) = decide (keyM y.m ∈ seen) := by
      by_cases h3 : keyM y.m ∈ seen
      · rw [decide_eq_true h3, decide_eq_true (List.mem_cons_of_mem _ h3)]
      · rw [decide_eq_false h3, decide_eq_false fun h4 => by
          rcases List.mem_cons.1 h4 with h5 | h5
          · exact e h5.symm
          · exact h3 h5]
    unfold curP
    rw [h2]
theorem NΦ.skip {ws0 : List MV} {c : Msg → Int} {s : NS} (h : NΦ ws0 c s) (hu : KU (ws0.map MV.m)) {x : MV} (hx : x ∈ ws0) (ho : openZ (c x.m) = true) (h0 : c x.m ≠ 0) (hl : unsE s.es (keyM x.m :: s.seen) ≤ unsE s.es s.seen) :
    NΦ ws0 c ⟨s.ws, s.es, keyM x.m :: s.seen, s.rd, s.p, s.c⟩ := by
  refine ⟨h.hes, h.cur.trans (cur_keep hu hx ho), h.heap, fun k => ?_, by have := h.len; show s.rd.length + unsE s.es (keyM x.m :: s.seen) ≤ _; omega⟩
  rw [show k ∈ s.rd ↔ _ from h.mem k]
  constructor
  · rintro ⟨y, hy, e, hc, hs⟩
    exact ⟨y, hy, e, hc, List.mem_cons_of_mem _ hs⟩
  · rintro ⟨y, hy, e, hc, hs⟩
    refine ⟨y, hy, e, hc, ?_⟩
    rcases List.mem_cons.1 hs with h1 | h1
    · rw [hu.sameV hy hx (e.trans h1)] at hc
      exact absurd hc h0
    · exact h1
theorem NΦ.push {ws0 : List MV} {c : Msg → Int} {s : NS} (h : NΦ ws0 c s) (hu : KU (ws0.map MV.m)) {x : MV} (hx : x ∈ ws0) (h0 : c x.m = 0) (hl : unsE s.es (keyM x.m :: s.seen) < unsE s.es s.seen)
    {l' : List Nm} (hh : Heap l') (hm : ∀ k, k ∈ l' ↔ k ∈ s.rd ∨ k = keyM x.m) (hlen : l'.length = s.rd.length + 1) (p : Option Addr) (cc : Nat) : NΦ ws0 c ⟨s.ws, s.es, keyM x.m :: s.seen, l', p, cc⟩ := by
  refine ⟨h.hes, h.cur.trans (cur_keep hu hx (by rw [h0]; rfl)), hh, fun k => ?_, by have := h.len; show l'.length + unsE s.es (keyM x.m :: s.seen) ≤ _; omega⟩
  rw [show k ∈ l' ↔ _ from hm k, h.mem k]
  constructor
  · rintro (⟨y, hy, e, hc, hs⟩ | rfl)
    · exact ⟨y, hy, e, hc, List.mem_cons_of_mem _ hs⟩
    · exact ⟨x, hx, rfl, h0, by simp⟩
  · rintro ⟨y, hy, e, hc, hs⟩
    rcases List.mem_cons.1 hs with h1 | h1
    · exact .inr h1
    · exact .inl ⟨y, hy, e, hc, h1⟩
theorem NΦ.del {ws0 : List MV} {c : Msg → Int} {s : NS} (h : NΦ ws0 c s) (hu : KU (ws0.map MV.m)) {x : MV} (hx : x ∈ ws0) (ho : openZ (c x.m) = false) (hl : unsE s.es (keyM x.m :: s.seen) ≤ unsE s.es s.seen) :
    NΦ ws0 c ⟨ws0.filter (curP c (keyM x.m :: s.seen)), delE (keyM x.m) s.es, keyM x.m :: s.seen, s.rd, s.p, s.c⟩ := by
  refine ⟨?_, rfl, h.heap, fun k => ?_, by have := h.len; have := unsE_del s.es (keyM x.m :: s.seen) (keyM x.m); show s.rd.length + unsE (delE (keyM x.m) s.es) (keyM x.m :: s.seen) ≤ _; omega⟩
  · show (delE (keyM x.m) s.es).map kvOf = _
    rw [delE_kv, h.hes, ent_filter, h.cur, cur_del hu hx ho]
  · rw [show k ∈ s.rd ↔ _ from h.mem k]
    constructor
    · rintro ⟨y, hy, e, hc, hs⟩
      exact ⟨y, hy, e, hc, List.mem_cons_of_mem _ hs⟩
    · rintro ⟨y, hy, e, hc, hs⟩
      refine ⟨y, hy, e, hc, ?_⟩
      rcases List.mem_cons.1 hs with h1 | h1
      · rw [hu.sameV hy hx (e.trans h1)] at hc
        rw [hc] at ho
        cases ho
      · exact h1
theorem NΦ.stop {ws0 : List MV} {c : Msg → Int} {s : NS} (h : NΦ ws0 c s) (hend : ∀ e ∈ s.es, e.1 ∈ s.seen) : s.ws = ws0.filter (fun x => openZ (c x.m)) ∧ ∀ k, k ∈ s.rd ↔ ∃ x ∈ ws0, keyM x.m = k ∧ c x.m = 0 := by
  have hin : ∀ x ∈ ws0, curP c s.seen x = true → keyM x.m ∈ s.seen := fun x hx hp => by
    have h1 : x ∈ s.ws := by rw [h.cur]; exact List.mem_filter.2 ⟨hx, hp⟩
    obtain ⟨e, he, e1⟩ := ent_of h.hes h1
    rw [← e1]
    exact hend e he
  constructor
  · rw [h.cur]
    refine List.filter_congr fun x hx => ?_
    cases hp : curP c s.seen x with
    | true =>
      have h1 := hin x hx hp
      unfold curP at hp
      rw [decide_eq_true h1] at hp
      exact hp.symm
    | false =>
      unfold curP at hp
      rw [Bool.or_eq_false_iff] at hp
      exact hp.2.symm
  · intro k
    rw [h.mem k]
    constructor
    · rintro ⟨x, hx, e, hc, _⟩; exact ⟨x, hx, e, hc⟩
    · rintro ⟨x, hx, e, hc⟩
      refine ⟨x, hx, e, hc, ?_⟩
      rw [← e]
      exact hin x hx (by unfold curP; rw [hc]; simp [openZ])
theorem filt_map (c : Msg → Int) (ws : List MV) : (ws.filter fun x => openZ (c x.m)).map MV.m = (ws.map MV.m).filter fun x => openZ (c x) := by
  rw [List.filter_map]; rfl
section
variable (f : Frag) (F : List HP)
set_option maxRecDepth 20000 in
theorem wnext_nil (lp : Option Addr) : Fn Tryz.prog 37 [.pointer none, .pointer lp] f F (Ret (.tuple #[.agg (msgZ.vals none 0).toArray, .bool false]) f F) := by
  refine Fn.enter Tryz.func37 rfl Tryz.ntmps37 rfl (L := [(0, _), (1, _)]) ⟨rfl, rfl, trivial⟩ fun base => ?_
  repeat ((first | apply H.seq | apply H.region))
  refine H.alloc (ls := msgZ.vals none 0) rfl rfl rfl fun ob => ?_
  repeat (first | ((first | apply H.move | apply H.assign); (iterate 3 exact rfl)) | (first | apply H.seq | apply H.region | apply H.nil | apply H.then_normal) | (apply H.pass; (iterate 2 exact rfl)) | (apply H.pickT; (iterate 4 exact rfl)) | ((apply H.ptrNil); (iterate 5 exact rfl)) | (apply H.cond_true; exact rfl))
  refine H.loadN (ls := msgZ.vals none 0) rfl rfl rfl (Rd.ofRow (.here _ _ _)) rfl rfl ?_
  refine H.storeN (ls := msgZ.vals none 0) (vs := msgZ.vals none 0) (ls' := msgZ.vals none 0) rfl rfl rfl (allOne_mem rfl) rfl rfl (Nat.le_refl 121) (.here _ _ _) ?_
  repeat (first | ((apply H.assign); (iterate 3 exact rfl)) | (first | apply H.nil | apply H.then_normal) | (first | apply H.ret | apply H.then_ret))
  exact H.retCT rfl rfl rfl rfl (Rd.ofRow (.here _ _ _)) rfl (fun _ s => s.drop (.here _ _)) ⟨rfl, rfl, rfl⟩
set_option maxRecDepth 20000 in
theorem wnext_nol (wp : Addr) : Fn Tryz.prog 37 [.pointer (some wp), .pointer none] f F (Ret (.tuple #[.agg (msgZ.vals none 0).toArray, .bool false]) f F) := by
  refine Fn.enter Tryz.func37 rfl Tryz.ntmps37 rfl (L := [(0, _), (1, _)]) ⟨rfl, rfl, trivial⟩ fun base => ?_
  repeat ((first | apply H.seq | apply H.region))
  refine H.alloc (ls := msgZ.vals none 0) rfl rfl rfl fun ob => ?_
  repeat (first | ((first | apply H.move | apply H.assign); (iterate 3 exact rfl)) | (first | apply H.seq | apply H.region | apply H.nil | apply H.then_normal) | ((apply H.pickF); (iterate 4 exact rfl)) | ((apply H.ptrNil); (iterate 5 exact rfl)) | (apply H.cond_true; exact rfl))
  refine H.loadN (ls := msgZ.vals none 0) rfl rfl rfl (Rd.ofRow (.here _ _ _)) rfl rfl ?_
  refine H.storeN (ls := msgZ.vals none 0) (vs := msgZ.vals none 0) (ls' := msgZ.vals none 0) rfl rfl rfl (allOne_mem rfl) rfl rfl (Nat.le_refl 121) (.here _ _ _) ?_
  repeat (first | ((apply H.assign); (iterate 3 exact rfl)) | (first | apply H.nil | apply H.then_normal) | (first | apply H.ret | apply H.then_ret))
  exact H.retCT rfl rfl rfl rfl (Rd.ofRow (.here _ _ _)) rfl (fun _ s => s.drop (.here _ _)) ⟨rfl, rfl, rfl⟩
set_option maxRecDepth 20000 in
set_option maxHeartbeats 3200000 in
theorem wnext_fn (htab : TabAt f) {e el : Frag} (he : Le e f) {wb lb n : Nat} {ws l : List MV} :
    Fn Tryz.prog 37 [.pointer (some ⟨wb, 0, none⟩), .pointer (some ⟨lb, 0, none⟩)] f (waitH e wb ws :: loreH el lb n l :: F) (NextP f (loreH el lb n l :: F) e wb ws (chk n (strm (l.map MV.m)))) := by
  refine Fn.unpack fun b hb => ?_
  have hck : ∀ x ∈ ws, ∀ G, Fn Tryz.prog 23 [.pointer (some ⟨lb, 0, none⟩), .agg x.vals.toArray] f (loreH el lb n l :: G) (Ret (.int .i64 (chk n (strm (l.map MV.m)) x.m)) f (loreH el lb n l :: G)) := fun x hx G => lcheck_fn f G htab ((hb.g x hx).mono he)
  generalize chk n (strm (l.map MV.m)) = c at *
  refine Fn.enter Tryz.func37 rfl Tryz.ntmps37 rfl (L := [(0, _), (1, _)]) ⟨rfl, rfl, trivial⟩ fun base => ?_
  repeat ((first | apply H.seq | apply H.region))
  refine H.alloc (ls := msgZ.vals none 0) rfl rfl rfl fun ob => ?_
  repeat (first | ((first | apply H.move | apply H.assign); (iterate 3 exact rfl)) | (first | apply H.seq | apply H.region | apply H.nil | apply H.then_normal) | ((apply H.pickF); (iterate 4 exact rfl)) | ((apply H.ptrNil); (iterate 5 exact rfl)) | (apply H.cond_false; exact rfl) | (apply H.skip))
  refine H.buildSlice (out := []) rfl rfl rfl rfl (by decide) (by decide) rfl rfl fun sb => ?_
  refine H.asSlc (k := 0) (sz := 2) rfl (by decide) ?_
  refine H.box (ls := [.slice (some ⟨sb, 0, none⟩) 0 0]) rfl rfl rfl rfl fun nb => ?_
  refine H.front (x := mp _ _ _) (by repeat (first | exact .here _ _ | apply Pull.there)) ?_
  refine H.openMap fun es clock hes => ?_
  repeat (first | ((first | apply H.move | apply H.assign | apply H.nilCheck); (iterate 3 exact rfl)) | (apply H.fieldAddr; (iterate 3 exact rfl); exact inferInstance; exact rfl) | (apply H.load1; (iterate 3 exact rfl); apply Rd1.ofRow; (repeat (first | exact .here _ _ _ | apply At.there)); (iterate 2 exact rfl)) | (first | apply H.seq | apply H.region | apply H.nil | apply H.then_normal))
  refine H.range rfl rfl (by repeat (first | exact .here _ _ _ | apply At.there)) rfl fun rb => ?_
  refine H.imp (imp_first (itr_weak (es' := es) fun _ h => h)) ?_
  repeat (first | (first | apply H.nil | apply H.then_normal) | (apply H.block))
  have hu := hb.ku
  have hb0 : NΦ ws c ⟨ws, es, [], [], some ⟨sb, 0, none⟩, 0⟩ := by
    refine ⟨hes, ?_, Heap.nil, fun k => ?_, ?_⟩
    · symm
      rw [List.filter_eq_self]
      intro x _
      unfold curP
      rw [decide_eq_false (by intro h; cases h)]
      rfl
    · constructor
      · intro h; cases h
      · rintro ⟨_, _, _, _, h⟩; cases h
    · have h1 : unsE es ([] : List Nm) ≤ es.length := List.length_filter_le _ _
      have h2 := congrArg List.length hes
      rw [List.length_map, List.length_map] at h2
      have := hb.len
      show 0 + unsE es ([] : List Nm) ≤ 100000
      omega
  refine H.front (x := slc _ _ _ _ _ _) (by repeat (first | exact .here _ _ | apply Pull.there)) ?_
  refine H.front (x := row ob _ _) (by repeat (first | exact .here _ _ | apply Pull.there)) ?_
  refine H.loop (ι := NS) (fun _ => [(24, .pointer (some ⟨rb, 0, none⟩)), (0, .pointer (some ⟨wb, 0, none⟩)), (1, .pointer (some ⟨lb, 0, none⟩)), (6, .pointer (some ⟨nb, 0, none⟩)), (4, .pointer (some ⟨ob, 0, none⟩)), (5, .bool false)]) (fun _ => f)
    (fun s => row ob 47 (msgZ.vals none 0) :: slc s.p s.rd.length s.c 136 2 (s.rd.flatMap nmV) :: itrW rb b s.es clock s.seen :: mpS b nmE s.es clock :: row nb 134 [.slice s.p s.rd.length s.c] :: row wb 131 [.map (some b)] :: loreH el lb n l :: F)
    (NΦ ws c) (fun s => unsE s.es s.seen) ⟨ws, es, [], [], some ⟨sb, 0, none⟩, 0⟩ hb0 ⟨rfl, rfl, rfl, rfl, rfl, rfl, trivial⟩ rfl rfl fun s hs => ?_
  obtain ⟨cur, es2, seen, rd, p, cc⟩ := s
  show H _ _ _ _ _ (row ob _ _ :: slc p rd.length cc _ 2 (rd.flatMap nmV) :: itrW rb b es2 clock seen :: mpS b nmE es2 clock :: row nb _ [.slice p rd.length cc] :: _) _
  repeat ((first | apply H.seq | apply H.region))
  refine H.nextW rfl rfl (by repeat (first | exact .here _ _ _ | apply At.there)) (by repeat (first | exact .here _ _ _ | apply At.there)) (fun _ => (by repeat (first | exact .here _ _ _ | apply At.there))) rfl (fun hend => ?_) (fun e0 he0 hns => ?_)
  · obtain ⟨hcur, hrd⟩ := hs.stop hend
    have hes2 : es2.map kvOf = cur.map entV := hs.hes
    have hcur : cur = ws.filter fun x => openZ (c x.m) := hcur
    have hheap : Heap rd := hs.heap
    have hrl5 : rd.length ≤ 100000 := by have h9 : rd.length + unsE es2 seen ≤ 100000 := hs.len; omega
    have hrd : ∀ k, k ∈ rd ↔ ∃ x ∈ ws, keyM x.m = k ∧ c x.m = 0 := hrd
    clear hs hend hb0 hes
    have hcm : cur.map MV.m = (ws.map MV.m).filter fun x => openZ (c x) := by rw [hcur, filt_map]
    have hsubc : ∀ y ∈ cur, y ∈ ws := fun y hy => by rw [hcur] at hy; exact (List.mem_filter.1 hy).1
    have hφ : Waitφ e cur := ⟨fun y hy => hb.g y (hsubc y hy), fun y hy => hb.pos y (hsubc y hy), by rw [hcm]; exact hu.filter _, by rw [hcur]; exact Nat.le_trans (List.length_filter_le _ _) hb.len⟩
    repeat (first | ((first | apply H.move | apply H.nilCheck); (iterate 3 exact rfl)) | (apply H.load1; (iterate 3 exact rfl); apply Rd1.ofRow; (repeat (first | exact .here _ _ _ | apply At.there)); (iterate 2 exact rfl)) | (first | apply H.seq | apply H.region | apply H.nil | apply H.then_normal) | ((apply H.extract); (iterate 4 exact rfl)) | (apply H.cond_false; exact rfl) | (first | apply H.then_exit | apply H.exit | apply H.in_hit | apply H.loop_exit))
    refine H.drop (x := itrW _ _ _ _ _) (by repeat (first | exact .here _ _ | apply Pull.there)) ?_
    refine H.callR rfl rfl rfl (nlen_fn f _) ?_
    by_cases hrl : rd.length = 0
    · skip
      repeat (first | (first | apply H.seq | apply H.region | apply H.nil | apply H.then_normal) | ((apply H.cmp); (iterate 5 exact rfl)) | (apply H.cond_yes; exact rfl; (omega)))
      refine H.loadN (ls := msgZ.vals none 0) rfl rfl rfl (Rd.ofRow (by repeat (first | exact .here _ _ _ | apply At.there))) rfl rfl ?_
      refine H.storeN (ls := msgZ.vals none 0) (vs := msgZ.vals none 0) (ls' := msgZ.vals none 0) rfl rfl rfl (allOne_mem rfl) rfl rfl (Nat.le_refl 121) (by repeat (first | exact .here _ _ _ | apply At.there)) ?_
      repeat (first | ((apply H.assign); (iterate 3 exact rfl)) | (first | apply H.nil | apply H.then_normal) | (first | apply H.ret | apply H.then_ret))
      refine H.drop (x := slc _ _ _ _ _ _) (by repeat (first | exact .here _ _ | apply Pull.there)) ?_
      refine H.drop (x := row nb _ _) (by repeat (first | exact .here _ _ | apply Pull.there)) ?_
      refine H.front (x := mpS _ _ _ _) (by repeat (first | exact .here _ _ | apply Pull.there)) ?_
      refine H.imp mpS_fold ?_
      rw [hes2]
      refine H.front (x := row wb _ _) (by repeat (first | exact .here _ _ | apply Pull.there)) ?_
      refine H.imp (wait_fold b hφ) ?_
      refine H.front (x := row ob _ _) (by repeat (first | exact .here _ _ | apply Pull.there)) ?_
      exact H.retCT (ls := msgZ.vals none 0) rfl rfl rfl rfl (Rd.ofRow (.here _ _ _)) rfl (fun _ s => s.drop (.here _ _)) ⟨none, cur, .no (fun ym hym h0 => by
        obtain ⟨y, hy, rfl⟩ := List.mem_map.1 hym
        have : keyM y.m ∈ rd := (hrd _).2 ⟨y, hy, rfl, h0⟩
        rw [List.eq_nil_of_length_eq_zero hrl] at this
        cases this) _ (by rw [hcm]), (fun y h => by cases h), hsubc, rfl, rfl, rfl⟩
    · obtain ⟨m, hm⟩ : ∃ m, rd.length = m + 1 := ⟨rd.length - 1, by omega⟩
      have hroot : nmAt rd 0 ∈ rd := List.mem_of_getElem? (nmAt_some (by omega))
      obtain ⟨y, hy, hyk, hy0⟩ := (hrd _).1 hroot
      have hyc : y ∈ cur := by rw [hcur]; exact List.mem_filter.2 ⟨hy, by rw [hy0]; rfl⟩
      have hget : getKV (cur.map entV) (keyM y.m) = some (.agg y.vals.toArray) := getKV_mem (by rw [ent_keys]; exact hφ.ku) (List.mem_map_of_mem (f := entV) hyc)
      have hg1 : (getKV (cur.map entV) (keyM y.m)).getD (.agg (msgZ.vals none 0).toArray) = .agg y.vals.toArray := by rw [hget]; rfl
      have hleast : ∀ z ∈ ws.map MV.m, c z = 0 → y.m.origin ≤ z.origin := fun zm hzm h0 => by
        obtain ⟨z, hz, rfl⟩ := List.mem_map.1 hzm
        have h1 := hheap.least ((hrd _).2 ⟨z, hz, rfl, h0⟩)
        rw [← hyk] at h1
        exact h1
      have hpop : ∀ {G}, Fn Tryz.prog 68 [.iface 132 (.pointer (some ⟨nb, 0, none⟩))] f (slc p rd.length cc 136 2 (rd.flatMap nmV) :: row nb 134 [.slice p rd.length cc] :: G) (Ret (.iface 136 (.agg (nmV (keyM y.m)).toArray)) f G) := fun {G} => by
        have hm9 : m < 1000000 := by omega
        rw [hm, hyk]
        exact hpop_fn (n := 0) f G hm hm9
      repeat (first | ((apply H.move); (iterate 3 exact rfl)) | (first | apply H.seq | apply H.region | apply H.nil | apply H.then_normal) | ((apply H.cmp); (iterate 5 exact rfl)) | (apply H.skip) | (apply H.cond_no; exact rfl; (omega)))
      refine H.makeI (by rfl) rfl rfl rfl ?_
      refine H.front (x := row nb _ _) (by repeat (first | exact .here _ _ | apply Pull.there)) ?_
      refine H.front (x := slc _ _ _ _ _ _) (by repeat (first | exact .here _ _ | apply Pull.there)) ?_
      refine H.callR rfl rfl rfl hpop ?_
      refine H.assertI (by rfl) rfl rfl rfl ?_
      refine H.alloc (ls := nmV (0, 0)) rfl rfl rfl fun kb => ?_
      refine H.storeN (ls := nmV (0, 0)) (vs := nmV (keyM y.m)) (ls' := nmV (keyM y.m)) rfl rfl rfl (nmV_one _) rfl rfl (Nat.le_refl 2) (.here _ _ _) ?_
      repeat ((first | apply H.seq | apply H.nil | apply H.then_normal))
      refine H.front (x := mpS _ _ _ _) (by repeat (first | exact .here _ _ | apply Pull.there)) ?_
      refine H.imp mpS_fold ?_
      rw [hes2]
      refine H.front (x := row wb _ _) (by repeat (first | exact .here _ _ | apply Pull.there)) ?_
      refine H.front (x := row kb _ _) (by repeat (first | exact .here _ _ | apply Pull.there)) ?_
      refine H.drawB (by kernel_rfl) (by decide +kernel) (by repeat (first | exact blind_fn | refine blind_seq ?_ | refine blind_block ?_ | refine blind_loop ?_)) (S := [_, _, _]) rfl ?_
      refine HB.quiet [(0, false), (1, false), (2, false), (3, false), (4, false), (5, false)] 1 (by kernel_rfl) ?_
      repeat (first | (refine HQ.loadN (ls := nmV (keyM y.m)) rfl rfl rfl (Rd.ofRow (.here _ _ _)) rfl rfl ?_) | ((first | apply HQ.move | apply HQ.nilCheck); (iterate 3 exact rfl)) | (apply HQ.fieldAddr; (iterate 3 exact rfl); exact inferInstance; exact rfl) | (apply HQ.load1; (iterate 3 exact rfl); apply Rd1.ofRow; (repeat (first | exact .here _ _ _ | apply At.there)); (iterate 2 exact rfl)) | (refine HQ.lookup (enc := nmE) (k := keyM y.m) rfl rfl rfl (by repeat (first | exact .here _ _ _ | apply At.there)) rfl hg1 rfl ?_))
      refine HQ.more rfl ?_
      refine HB.ev1 (i := 6) (by kernel_rfl) rfl ?_
      refine H.storeN (ls := msgZ.vals none 0) (vs := y.vals) (ls' := y.vals) rfl rfl rfl (allOne_mem rfl) rfl rfl (Nat.le_refl 121) (.there _ (.there _ (.there _ (.here _ _ _)))) ?_
      repeat ((apply H.nil))
      refine H.on0 rfl ?_
      refine HB.done (by kernel_rfl) ?_
      repeat ((first | apply H.seq | apply H.then_normal))
      refine H.front (x := mp _ _ _) (by repeat (first | exact .here _ _ | apply Pull.there)) ?_
      refine H.openMap fun es3 clock3 hes3 => ?_
      refine H.front (x := row wb _ _) (by repeat (first | exact .here _ _ | apply Pull.there)) ?_
      refine H.front (x := row kb _ _) (by repeat (first | exact .here _ _ | apply Pull.there)) ?_
      refine H.drawB (by kernel_rfl) (by decide +kernel) (by repeat (first | exact blind_fn | refine blind_seq ?_ | refine blind_block ?_ | refine blind_loop ?_)) (S := [_, _]) rfl ?_
      refine HB.quiet [(0, false), (1, false), (2, false), (3, false), (4, false)] 1 (by kernel_rfl) ?_
      repeat (first | (refine HQ.loadN (ls := nmV (keyM y.m)) rfl rfl rfl (Rd.ofRow (.here _ _ _)) rfl rfl ?_) | ((first | apply HQ.move | apply HQ.nilCheck); (iterate 3 exact rfl)) | (apply HQ.fieldAddr; (iterate 3 exact rfl); exact inferInstance; exact rfl) | (apply HQ.load1; (iterate 3 exact rfl); apply Rd1.ofRow; (repeat (first | exact .here _ _ _ | apply At.there)); (iterate 2 exact rfl)))
      refine HQ.more rfl ?_
      refine HB.ev1 (i := 5) (by kernel_rfl) rfl ?_
      refine H.deleteS (enc := nmE) (k := keyM y.m) rfl rfl rfl (by repeat (first | exact .here _ _ _ | apply At.there)) rfl ?_
      repeat ((apply H.nil))
      refine H.on0 rfl ?_
      refine HB.done (by kernel_rfl) ?_
      repeat ((first | apply H.seq | apply H.region | apply H.then_normal))
      refine H.front (x := mpS _ _ _ _) (by repeat (first | exact .here _ _ | apply Pull.there)) ?_
      refine H.imp mpS_fold ?_
      rw [delE_kv, hes3, ent_filter]
      refine H.drop (x := row kb _ _) (by repeat (first | exact .here _ _ | apply Pull.there)) ?_
      refine H.front (x := row ob _ _) (by repeat (first | exact .here _ _ | apply Pull.there)) ?_
      refine H.loadN (ls := y.vals) rfl rfl rfl (Rd.ofRow (.here _ _ _)) rfl rfl ?_
      refine H.storeN (ls := y.vals) (vs := y.vals) (ls' := y.vals) rfl rfl rfl (allOne_mem rfl) rfl rfl (Nat.le_refl 121) (.here _ _ _) ?_
      repeat (first | ((apply H.assign); (iterate 3 exact rfl)) | (first | apply H.nil | apply H.then_normal) | (apply H.ret))
      have hsub2 : ∀ z ∈ cur.filter (fun z => !decide (keyM y.m = keyM z.m)), z ∈ cur := fun z hz => (List.mem_filter.1 hz).1
      have hφ2 : Waitφ e (cur.filter fun z => !decide (keyM y.m = keyM z.m)) := ⟨fun z hz => hφ.g z (hsub2 z hz), fun z hz => hφ.pos z (hsub2 z hz), by rw [map_filt]; exact hφ.ku.filter _, Nat.le_trans (List.length_filter_le _ _) hφ.len⟩
      refine H.front (x := mp _ _ _) (by repeat (first | exact .here _ _ | apply Pull.there)) ?_
      refine H.front (x := row wb _ _) (by repeat (first | exact .here _ _ | apply Pull.there)) ?_
      refine H.imp (wait_fold b hφ2) ?_
      refine H.front (x := row ob _ _) (by repeat (first | exact .here _ _ | apply Pull.there)) ?_
      exact H.retCT (ls := y.vals) rfl rfl rfl rfl (Rd.ofRow (.here _ _ _)) rfl (fun _ s => s.drop (.here _ _)) ⟨some y, _, .yes y.m (List.mem_map_of_mem hy) hy0 hleast _ (by
        rw [map_filt, ← hcm]
        exact perm_del hφ.ku (List.mem_map_of_mem hyc)), (fun z h => by cases h; exact ⟨hy, hb.g y hy⟩), (fun z hz => hsubc z (hsub2 z hz)), rfl, rfl, rfl⟩
  · obtain ⟨ek, ev, st⟩ := e0
    obtain ⟨x, hxc, e1, e2⟩ := ent_mem hs.hes he0
    have e1 : ek = keyM x.m := e1
    have e2 : ev = .agg x.vals.toArray := e2
    subst e1; subst e2
    have hx : x ∈ ws := by
      have hxc : x ∈ cur := hxc
      rw [show cur = _ from hs.cur] at hxc
      exact (List.mem_filter.1 hxc).1
    have hns : keyM x.m ∉ seen := hns
    have hlt := unsE_lt (e := (keyM x.m, Value.agg x.vals.toArray, st)) he0 hns
    have hlt : unsE es2 (keyM x.m :: seen) < unsE es2 seen := hlt
    have hckx := hck x hx
    repeat (first | (first | apply H.seq | apply H.region | apply H.nil | apply H.then_normal) | ((apply H.extract); (iterate 4 exact rfl)) | (apply H.cond_true; exact rfl) | (first | apply H.skip | apply H.block))
    refine H.entry rfl rfl (by repeat (first | exact .here _ _ _ | apply At.there)) (by repeat (first | exact .here _ _ _ | apply At.there)) he0 rfl ?_
    repeat (((apply H.extract); (iterate 4 exact rfl)))
    refine H.alloc (ls := nmV (0, 0)) rfl rfl rfl fun kb => ?_
    refine H.alloc (ls := msgZ.vals none 0) rfl rfl rfl fun mb => ?_
    refine H.storeN (ls := nmV (0, 0)) (vs := nmV (keyM x.m)) (ls' := nmV (keyM x.m)) rfl rfl rfl (nmV_one _) rfl rfl (Nat.le_refl 2) (.there _ (.here _ _ _)) ?_
    refine H.storeN (ls := msgZ.vals none 0) (vs := x.vals) (ls' := x.vals) rfl rfl rfl (allOne_mem rfl) rfl rfl (Nat.le_refl 121) (.here _ _ _) ?_
    repeat (first | ((apply H.move); (iterate 3 exact rfl)) | (first | apply H.seq | apply H.region | apply H.nil | apply H.then_normal))
    refine H.loadN (ls := x.vals) rfl rfl rfl (Rd.ofRow (.here _ _ _)) rfl rfl ?_
    refine H.front (x := loreH _ _ _ _) (by repeat (first | exact .here _ _ | apply Pull.there)) ?_
    refine H.callR rfl rfl rfl (hckx _) ?_
    refine H.drop (x := row mb _ _) (by repeat (first | exact .here _ _ | apply Pull.there)) ?_
    repeat (first | ((first | apply H.move | apply H.assign); (iterate 3 exact rfl)) | (first | apply H.seq | apply H.region | apply H.nil | apply H.then_normal) | (apply H.block))
    refine H.callR rfl rfl rfl (wopen_fn f _) ?_
    refine H.not (b := _) (c := _) rfl rfl rfl rfl ?_
    cases ho : openZ (c x.m) with
    | false =>
      repeat (first | ((apply H.assign); (iterate 3 exact rfl)) | (first | apply H.nil | apply H.then_normal) | (apply H.cond_true; exact rfl))
      refine H.front (x := row wb _ _) (by repeat (first | exact .here _ _ | apply Pull.there)) ?_
      refine H.front (x := row kb _ _) (by repeat (first | exact .here _ _ | apply Pull.there)) ?_
      refine H.drawB (by kernel_rfl) (by decide +kernel) (by repeat (first | exact blind_fn | refine blind_seq ?_ | refine blind_block ?_ | refine blind_loop ?_)) (S := [_, _]) rfl ?_
      refine HB.quiet [(0, false), (1, false), (2, false), (3, false), (4, false)] 1 (by kernel_rfl) ?_
      repeat (first | (refine HQ.loadN (ls := nmV (keyM x.m)) rfl rfl rfl (Rd.ofRow (.here _ _ _)) rfl rfl ?_) | ((first | apply HQ.move | apply HQ.nilCheck); (iterate 3 exact rfl)) | (apply HQ.fieldAddr; (iterate 3 exact rfl); exact inferInstance; exact rfl) | (apply HQ.load1; (iterate 3 exact rfl); apply Rd1.ofRow; (repeat (first | exact .here _ _ _ | apply At.there)); (iterate 2 exact rfl)))
      refine HQ.more rfl ?_
      refine HB.ev1 (i := 5) (by kernel_rfl) rfl ?_
      refine H.deleteS (enc := nmE) (k := keyM x.m) rfl rfl rfl (by repeat (first | exact .here _ _ _ | apply At.there)) rfl ?_
      repeat ((apply H.nil))
      refine H.on0 rfl ?_
      refine HB.done (by kernel_rfl) ?_
      repeat ((apply H.in_normal))
      refine H.drop (x := row kb _ _) (by repeat (first | exact .here _ _ | apply Pull.there)) ?_
      refine H.front (x := row wb _ _) (by repeat (first | exact .here _ _ | apply Pull.there)) ?_
      refine H.front (x := row nb _ _) (by repeat (first | exact .here _ _ | apply Pull.there)) ?_
      refine H.front (x := mpS _ _ _ _) (by repeat (first | exact .here _ _ | apply Pull.there)) ?_
      refine H.front (x := itr _ _ _ _ _) (by repeat (first | exact .here _ _ | apply Pull.there)) ?_
      refine H.imp (imp_first (itr_weak (es' := delE (keyM x.m) es2) fun _ h => delE_mem h)) ?_
      refine H.front (x := slc _ _ _ _ _ _) (by repeat (first | exact .here _ _ | apply Pull.there)) ?_
      refine H.front (x := row ob _ _) (by repeat (first | exact .here _ _ | apply Pull.there)) ?_
      exact H.again _ (hs.del hu hx ho (Nat.le_of_lt hlt)) (Nat.lt_of_le_of_lt (unsE_del es2 (keyM x.m :: seen) (keyM x.m)) hlt) ⟨rfl, rfl, rfl, rfl, rfl, rfl, trivial⟩ rfl rfl
    | true =>
      by_cases h0 : c x.m = 0
      · skip
        repeat (first | ((first | apply H.move | apply H.assign); (iterate 3 exact rfl)) | (first | apply H.seq | apply H.region | apply H.nil | apply H.then_normal) | ((apply H.cmp); (iterate 5 exact rfl)) | (apply H.cond_false; exact rfl) | (apply H.cond_yes; exact rfl; (assumption)))
        refine H.makeI (by rfl) rfl rfl rfl ?_
        refine H.loadN (ls := nmV (keyM x.m)) rfl rfl rfl (Rd.ofRow (by repeat (first | exact .here _ _ _ | apply At.there))) rfl rfl ?_
        refine H.makeI (by rfl) rfl rfl rfl ?_
        refine H.front (x := row nb _ _) (by repeat (first | exact .here _ _ | apply Pull.there)) ?_
        refine H.front (x := slc _ _ _ _ _ _) (by repeat (first | exact .here _ _ | apply Pull.there)) ?_
        refine H.call rfl rfl rfl (hpush_fn f _ (n := rd.length) rfl (by have := hs.len; have : rd.length ≤ 100000 := by { have h9 : rd.length + unsE es2 seen ≤ 100000 := hs.len; omega }; omega) hs.heap) fun v f' A' hr => ?_
        obtain ⟨p', c', l', h1, h2, h3, rfl, hff, rfl⟩ := hr
        rw [hff, ← h3]
        repeat (first | (apply H.nil) | (apply H.in_normal))
        refine H.drop (x := row kb _ _) (by repeat (first | exact .here _ _ | apply Pull.there)) ?_
        refine H.front (x := row wb _ _) (by repeat (first | exact .here _ _ | apply Pull.there)) ?_
        refine H.front (x := row nb _ _) (by repeat (first | exact .here _ _ | apply Pull.there)) ?_
        refine H.front (x := mpS _ _ _ _) (by repeat (first | exact .here _ _ | apply Pull.there)) ?_
        refine H.front (x := itr _ _ _ _ _) (by repeat (first | exact .here _ _ | apply Pull.there)) ?_
        refine H.imp (imp_first (itr_weak (es' := es2) fun _ h => h)) ?_
        refine H.front (x := slc _ _ _ _ _ _) (by repeat (first | exact .here _ _ | apply Pull.there)) ?_
        refine H.front (x := row ob _ _) (by repeat (first | exact .here _ _ | apply Pull.there)) ?_
        exact H.again _ (hs.push hu hx h0 hlt h1 h2 h3 p' c') hlt ⟨rfl, rfl, rfl, rfl, rfl, rfl, trivial⟩ rfl rfl
      · skip
        repeat (first | ((first | apply H.move | apply H.assign); (iterate 3 exact rfl)) | (first | apply H.seq | apply H.region | apply H.nil | apply H.then_normal) | ((apply H.cmp); (iterate 5 exact rfl)) | (apply H.cond_false; exact rfl) | (first | apply H.skip | apply H.in_normal) | (apply H.cond_no; exact rfl; (assumption)))
        refine H.drop (x := row kb _ _) (by repeat (first | exact .here _ _ | apply Pull.there)) ?_
        refine H.front (x := row wb _ _) (by repeat (first | exact .here _ _ | apply Pull.there)) ?_
        refine H.front (x := row nb _ _) (by repeat (first | exact .here _ _ | apply Pull.there)) ?_
        refine H.front (x := mpS _ _ _ _) (by repeat (first | exact .here _ _ | apply Pull.there)) ?_
        refine H.front (x := itr _ _ _ _ _) (by repeat (first | exact .here _ _ | apply Pull.there)) ?_
        refine H.imp (imp_first (itr_weak (es' := es2) fun _ h => h)) ?_
        refine H.front (x := slc _ _ _ _ _ _) (by repeat (first | exact .here _ _ | apply Pull.there)) ?_
        refine H.front (x := row ob _ _) (by repeat (first | exact .here _ _ | apply Pull.there)) ?_
        exact H.again _ (hs.skip hu hx ho h0 (Nat.le_of_lt hlt)) hlt ⟨rfl, rfl, rfl, rfl, rfl, rfl, trivial⟩ rfl rfl
end
end Go.Proofs.YtoigpgdmignaoaaGreatDoor

/- Layer 12: a message is given; those of which a vector does not know. No condition. -/
namespace Go.Proofs.YtoigpgdmignaoaaGreatDoor
open Go
section
variable (f : Frag) (F : List HP)
end
end Go.Proofs.YtoigpgdmignaoaaGreatDoor

/- Layer 12: those of which a vector does not know. No condition. -/
namespace Go.Proofs.YtoigpgdmignaoaaGreatDoor
open Go
section
variable (f : Frag) (F : List HP)
end
end Go.Proofs.YtoigpgdmignaoaaGreatDoor

/- Layer 8, plain: a tag with one byte of it turned is not right. No program in sight. -/
namespace Go.Proofs.YtoigpgdmignaoaaGreatDoor
open Go
end Go.Proofs.YtoigpgdmignaoaaGreatDoor

/- Layer 8: the document's Signed of a request. No condition. -/
namespace Go.Proofs.YtoigpgdmignaoaaGreatDoor
open Go
section
variable (f : Frag) (F : List HP)
end
end Go.Proofs.YtoigpgdmignaoaaGreatDoor

/- Layer 12: the law's example. Condition: the table of the standard stands in the fragment. -/
namespace Go.Proofs.YtoigpgdmignaoaaGreatDoor
open Go
theorem fits_signed (n : Nat) (m : Msg) : fitsB n m.signed = fitsB n m := by
  unfold fitsB
  rw [Msg.signed_may, m.signed_parts.1, m.signed_parts.2.2.1, m.signed_parts.2.2.2]
theorem chk_as {n : Nat} {S : Strm} {m : Msg} (h1 : fitsB n m = true) (h2 : m.right = true) {o k : Nat} {d : Nat → Int} {z : Int} (ho : orgI m = o) (hz : m.number = z) (hd : m.deps = d) (hk : (S o).length = k) :
    chk n S m = if z ≤ (k : Nat) then 13 else if z = ((k + 1 : Nat) : Int) ∧ 0 < k ∧ aboveB (lastD (S o)) d = true then 1 else if ((k + 1 : Nat) : Int) < z ∨ aboveB d (knownS S) = true then 12 else 0 := by
  unfold chk
  rw [if_neg (by rw [h1]; decide), if_neg (by rw [h2]; decide), ho, hz, hd, hk]
def bodC : Bod := { Bod.zero 3 with view := 1 }
def vec1 : Nat → Int
  | 0 => 1
  | _ + 1 => 0
def m1u : Msg := ⟨1, 1, fun _ => 0, bodC, noTag⟩
theorem m1u_fits : fitsB 3 m1u = true := by decide +kernel
theorem m1u_may : m1u.may = true := by decide +kernel
theorem bodC_ok : bodC.Ok := ⟨⟨by decide, by decide⟩, ⟨by decide, by decide⟩, reqz_ok⟩
theorem good_signed {m : Msg} {q : Option Addr} {c : Nat} {f : Frag} (h : (⟨m, q, c⟩ : MV).Good f) : (⟨m.signed, q, c⟩ : MV).Good f := by
  obtain ⟨h1, h2, h3⟩ := h
  refine ⟨?_, ?_, ?_⟩
  · show QAt f q m.signed.body.q; rw [m.signed_parts.2.2.2]; exact h1
  · show m.signed.body.q.length ≤ _; rw [m.signed_parts.2.2.2]; exact h2
  · show m.signed.body.Ok; rw [m.signed_parts.2.2.2]; exact h3
theorem H.weakL {P : Program} {base : World} {n : Nat} {L : Env} {f g : Frag} {A : List HP} {K : Kont} (h : Le f g) (k : H P base n L f A K) : H P base n L g A K := .mk fun a w hf s => k.out a w hf (s.weak h)
theorem tab_mono {f g : Frag} (t : TabAt f) (h : Le f g) : TabAt g := IntsAt.mono h t
section
variable (f : Frag) (F : List HP)
end
end Go.Proofs.YtoigpgdmignaoaaGreatDoor

/- Layer 13: the law's example. Condition: the table of the standard stands in the fragment. -/
namespace Go.Proofs.YtoigpgdmignaoaaGreatDoor
open Go
theorem put_room {e : Int} {ws ws' : List Msg} {m : Msg} {z : Int} (h : PutR e ws m z ws') (ho : openZ e = true) (hk : ∀ x ∈ ws, keyM x ≠ keyM m) (hc : cntO ws m.origin < 11) : z = 0 ∧ ws'.Perm (ws ++ [m]) := by
  cases h with
  | shut g => rw [ho] at g; cases g
  | again _ x hx e => exact absurd e (hk x hx)
  | room _ _ _ _ p => exact ⟨rfl, p⟩
  | full _ _ g => omega
  | swap _ _ g => omega
theorem next_no {c : Msg → Int} {ws ws' : List Msg} {r : Option Msg} (h : NextR c ws r ws') (hc : ∀ x ∈ ws, c x = 12) : r = none ∧ ws'.Perm ws := by
  have hf : (ws.filter fun x => openZ (c x)) = ws := by
    rw [List.filter_eq_self]
    intro x hx
    rw [hc x hx]; rfl
  cases h with
  | no _ _ p => rw [hf] at p; exact ⟨rfl, p⟩
  | yes x hx h0 => rw [hc x hx] at h0; cases h0
theorem next_yes {c : Msg → Int} {ws ws' : List Msg} {r : Option Msg} {m : Msg} (h : NextR c ws r ws') (hm : m ∈ ws) (h0 : c m = 0) (hc : ∀ x ∈ ws, x = m ∨ c x = 12) : r = some m ∧ (m :: ws').Perm ws := by
  have hf : (ws.filter fun x => openZ (c x)) = ws := by
    rw [List.filter_eq_self]
    intro x hx
    rcases hc x hx with h1 | h1
    · rw [h1, h0]; rfl
    · rw [h1]; rfl
  cases h with
  | no g => exact absurd h0 (g m hm)
  | yes x hx g0 _ _ p =>
    rcases hc x hx with h1 | h1
    · subst h1; rw [hf] at p; exact ⟨rfl, p⟩
    · rw [h1] at g0; cases g0
def bodD : Bod := { Bod.zero 3 with view := 2 }
def m3u : Msg := ⟨1, 2, vec1, bodD, noTag⟩
theorem m3u_fits : fitsB 3 m3u = true := by decide +kernel
theorem m3u_may : m3u.may = true := by decide +kernel
structure Ex13 (m1 m2 : Msg) : Prop where
  a : chk 3 (strm []) m2 = 12
  b : chk 3 (strm []) m1 = 0
  c : chk 3 (strm [m1]) m2 = 0
  n1 : m1.number = 1
  n2 : m2.number = 2
  o1 : m1.origin = 1
  o2 : m2.origin = 1
theorem ex13 : Ex13 m1u.signed m3u.signed := by
  have f1 : fitsB 3 m1u.signed = true := by rw [fits_signed]; exact m1u_fits
  have f2 : fitsB 3 m3u.signed = true := by rw [fits_signed]; exact m3u_fits
  have r1 := Msg.signed_isright m1u_may
  have r2 := Msg.signed_isright m3u_may
  obtain ⟨a1, a2, a3, _⟩ := m1u.signed_parts
  obtain ⟨b1, b2, b3, _⟩ := m3u.signed_parts
  generalize m1u.signed = m1 at *
  generalize m3u.signed = m2 at *
  have o1 : orgI m1 = 0 := by unfold orgI; rw [a1]; rfl
  have o2 : orgI m2 = 0 := by unfold orgI; rw [b1]; rfl
  have n1 : m1.number = 1 := a2
  have n2 : m2.number = 2 := b2
  have s1 : ∀ i, strm [m1] i = if i = 0 then [m1] else [] := fun i => by
    unfold strm
    rw [List.filter_cons, o1, List.filter_nil]
    by_cases h : i = 0
    · subst h; rfl
    · rw [if_neg h, if_neg (by rw [decide_eq_false (fun e => h e.symm)]; decide)]
  refine ⟨?_, ?_, ?_, n1, n2, a1, b1⟩
  · rw [chk_as f2 r2 o2 n2 b3 (k := 0) rfl]
    rw [if_neg (by decide), if_neg (by rintro ⟨_, h, _⟩; cases h), if_pos (.inl (by decide))]
  · rw [chk_as f1 r1 o1 n1 a3 (k := 0) rfl]
    rw [if_neg (by decide), if_neg (by rintro ⟨_, h, _⟩; cases h), if_neg (by decide)]
  · rw [chk_as f2 r2 o2 n2 b3 (k := 1) (by rw [s1]; rfl)]
    have hl : aboveB (lastD (strm [m1] 0)) m3u.deps = false := by
      refine aboveB_false.2 fun i hi => ?_
      rw [s1]
      show m1.deps i ≤ vec1 i
      rw [a3]
      match i with
      | 0 => show (0 : Int) ≤ 1; decide
      | i + 1 => exact Int.le_refl 0
    have hk : aboveB m3u.deps (knownS (strm [m1])) = false := by
      refine aboveB_false.2 fun i hi => ?_
      show vec1 i ≤ (((strm [m1] i).length : Nat) : Int)
      rw [s1]
      match i with
      | 0 => exact Int.le_refl 1
      | i + 1 => exact Int.le_refl 0
    rw [if_neg (by decide), if_neg (by rintro ⟨_, _, h⟩; rw [hl] at h; cases h), if_neg (by rw [hk]; decide)]
theorem bodD_ok : bodD.Ok := ⟨⟨by decide, by decide⟩, ⟨by decide, by decide⟩, reqz_ok⟩
theorem perm_one {a : List MV} {m : Msg} (h : (a.map MV.m).Perm [m]) : ∃ y, a = [y] ∧ y.m = m := by
  have h1 := List.perm_singleton.1 h
  match a, h1 with
  | [y], h1 => exact ⟨y, rfl, by simpa using h1⟩
section
variable (f : Frag) (F : List HP)
set_option maxHeartbeats 3200000 in
set_option maxRecDepth 20000 in
theorem works13_fn (htab : TabAt f) : Fn Tryz.prog 35 [] f F (Ret (.bool true) f F) := by
  have hex := ex13
  have gb : ∀ f, (⟨m1u.signed, none, 0⟩ : MV).Good f := fun f => good_signed ⟨QAt.nil f none, Nat.zero_le _, bodC_ok⟩
  have g2 : ∀ f, (⟨m3u.signed, none, 0⟩ : MV).Good f := fun f => good_signed ⟨QAt.nil f none, Nat.zero_le _, bodD_ok⟩
  have t1 := fun f G => rtagged_fn f G (m := m1u) (q := none) (qc := 0) (QAt.nil _ none) (Nat.zero_le _)
  have t2 := fun f G => rtagged_fn f G (m := m3u) (q := none) (qc := 0) (QAt.nil _ none) (Nat.zero_le _)
  generalize m1u.signed = m1 at *
  generalize m3u.signed = m2 at *
  obtain ⟨ha, hb, hc, n1, n2, o1, o2⟩ := hex
  have hne : keyM m2 ≠ keyM m1 := fun e => by
    have h1 : m2.number = m1.number := congrArg (·.2) e
    omega
  refine Fn.enter Tryz.func35 rfl Tryz.ntmps35 rfl (L := []) trivial fun base => ?_
  repeat (first | ((apply H.assign); (iterate 3 exact rfl)) | (first | apply H.seq | apply H.region | apply H.nil | apply H.then_normal))
  refine H.callE rfl rfl rfl (lnew_fn f F (n := 3) (by decide)) fun lb => ?_
  repeat (first | (refine H.build (t := 45) (out := bodC.vals none 0) rfl rfl rfl (by kernel_rfl) rfl ?_) | (refine H.build (t := 47) (out := m1u.vals none 0) rfl rfl rfl (by kernel_rfl) rfl ?_) | ((first | apply H.move | apply H.assign); (iterate 3 exact rfl)) | (first | apply H.seq | apply H.region | apply H.nil | apply H.then_normal) | ((apply H.cmp); (iterate 5 exact rfl)) | ((first | apply H.pickF | apply H.extract); (iterate 4 exact rfl)) | ((apply H.ptrNil); (iterate 5 exact rfl)) | (apply H.cond_false; exact rfl) | (apply H.skip))
  refine H.callR rfl rfl rfl (t1 f _) ?_
  refine H.alloc (ls := msgZ.vals none 0) rfl rfl rfl fun ob => ?_
  refine H.storeN (ls := msgZ.vals none 0) (vs := m1.vals none 0) (ls' := m1.vals none 0) rfl rfl rfl (allOne_mem rfl) rfl rfl (Nat.le_refl 121) (.here _ _ _) ?_
  repeat (first | (refine H.buildA (t := 37) (out := v11 vec1) rfl rfl rfl (by kernel_rfl) rfl ?_) | (refine H.build (t := 45) (out := bodD.vals none 0) rfl rfl rfl (by kernel_rfl) rfl ?_) | (refine H.build (t := 47) (out := m3u.vals none 0) rfl rfl rfl (by kernel_rfl) rfl ?_) | (first | apply H.seq | apply H.region | apply H.nil | apply H.then_normal))
  refine H.callR rfl rfl rfl (t2 f _) ?_
  refine H.alloc (ls := msgZ.vals none 0) rfl rfl rfl fun o2b => ?_
  refine H.storeN (ls := msgZ.vals none 0) (vs := m2.vals none 0) (ls' := m2.vals none 0) rfl rfl rfl (allOne_mem rfl) rfl rfl (Nat.le_refl 121) (.here _ _ _) ?_
  repeat ((first | apply H.seq | apply H.region | apply H.nil | apply H.then_normal))
  refine H.callE rfl rfl rfl (wnew_fn f _) fun wb => ?_
  repeat (first | ((first | apply H.move | apply H.assign); (iterate 3 exact rfl)) | (first | apply H.seq | apply H.region | apply H.nil | apply H.then_normal))
  refine H.loadN (ls := m2.vals none 0) rfl rfl rfl (Rd.ofRow (.there _ (.here _ _ _))) rfl rfl ?_
  refine H.front (x := loreH _ _ _ _) (by repeat (first | exact .here _ _ | apply Pull.there)) ?_
  refine H.front (x := waitH _ _ _) (by repeat (first | exact .here _ _ | apply Pull.there)) ?_
  refine H.call rfl rfl rfl (wput_fn f _ htab (Le.refl f) (n := 3) (ws := []) (l := []) (x := ⟨m2, none, 0⟩) (g2 f) (by decide)) fun v f' A' hr => ?_
  obtain ⟨q1, z1, w1, hp1, _, hd1, rfl, rfl, rfl⟩ := hr
  rw [show chk 3 (strm (([] : List MV).map MV.m)) (⟨m2, none, 0⟩ : MV).m = 12 from ha] at hp1
  obtain ⟨hz1, hq1⟩ := put_room hp1 rfl (fun x hx => by cases hx) (by show 0 < 11; decide)
  subst hz1
  obtain ⟨y2, rfl, hy2⟩ := perm_one hq1
  have hy2 : y2.m = m2 := hy2
  clear hp1 hq1
  have le1 := Le.un f q1
  generalize un f q1 = f1 at le1 ⊢
  repeat (first | ((first | apply H.move | apply H.assign); (iterate 3 exact rfl)) | (first | apply H.seq | apply H.region | apply H.nil | apply H.then_normal))
  refine H.call rfl rfl rfl (wnext_fn f1 _ (tab_mono htab le1) (Le.refl f1)) fun v f' A' hr => ?_
  obtain ⟨r1, w1, hn1, _, _, rfl, hff, rfl⟩ := hr
  rw [hff]
  obtain ⟨hr1, hp2⟩ := next_no hn1 (fun x hx => by
    rw [List.mem_singleton.1 (show x ∈ [y2.m] from hx), hy2]; exact ha)
  obtain rfl : r1 = none := by cases r1 with | none => rfl | some y => cases hr1
  obtain ⟨y3, rfl, hy3⟩ := perm_one (show (w1.map MV.m).Perm [m2] by rw [← hy2]; exact hp2)
  repeat (first | ((apply H.move); (iterate 3 exact rfl)) | ((apply H.extract); (iterate 4 exact rfl)))
  refine H.alloc (ls := msgZ.vals none 0) rfl rfl rfl fun nb => ?_
  refine H.storeN (ls := msgZ.vals none 0) (vs := msgZ.vals none 0) (ls' := msgZ.vals none 0) rfl rfl rfl (allOne_mem rfl) rfl rfl (Nat.le_refl 121) (.here _ _ _) ?_
  repeat (first | ((first | apply H.move | apply H.assign); (iterate 3 exact rfl)) | (first | apply H.seq | apply H.region | apply H.nil | apply H.then_normal))
  refine H.loadN (ls := m1.vals none 0) rfl rfl rfl (Rd.ofRow (.there _ (.there _ (.there _ (.there _ (.here _ _ _)))))) rfl rfl ?_
  refine H.front (x := loreH _ _ _ _) (by repeat (first | exact .here _ _ | apply Pull.there)) ?_
  refine H.front (x := waitH _ _ _) (by repeat (first | exact .here _ _ | apply Pull.there)) ?_
  refine H.call rfl rfl rfl (wput_fn f1 _ (tab_mono htab le1) (Le.refl f1) (n := 3) (ws := [y3]) (l := []) (x := ⟨m1, none, 0⟩) (gb f1) (by show 1 < 100000; decide)) fun v f' A' hr => ?_
  obtain ⟨q2, z2, w2, hp3, _, hd2, rfl, rfl, rfl⟩ := hr
  rw [show chk 3 (strm (([] : List MV).map MV.m)) (⟨m1, none, 0⟩ : MV).m = 0 from hb] at hp3
  obtain ⟨hz2, hq2⟩ := put_room hp3 rfl (fun x hx => by
    rw [List.mem_singleton.1 (show x ∈ [y3.m] from hx), hy3]; exact hne) (Nat.lt_of_le_of_lt (cntO_le _ _) (by show 1 < 11; decide))
  subst hz2
  have hq2 : (w2.map MV.m).Perm [m2, m1] := by rw [← hy3]; exact hq2
  clear hp3
  have le2 := le1.trans (Le.un f1 q2)
  generalize un f1 q2 = f2 at le2 ⊢
  repeat (first | ((first | apply H.move | apply H.assign); (iterate 3 exact rfl)) | (first | apply H.seq | apply H.region | apply H.nil | apply H.then_normal))
  refine H.call rfl rfl rfl (wnext_fn f2 _ (tab_mono htab le2) (Le.refl f2)) fun v f' A' hr => ?_
  obtain ⟨r2, w3, hn2, hg2', _, rfl, hff, rfl⟩ := hr
  rw [hff]
  obtain ⟨hr2, hp4⟩ := next_yes hn2 (m := m1) (hq2.mem_iff.2 (by simp)) hb (fun x hx => by
    rcases List.mem_cons.1 (hq2.mem_iff.1 hx) with h | h
    · right; rw [h]; exact ha
    · left; simpa using h)
  obtain ⟨y4, rfl, hy4⟩ : ∃ y4, r2 = some y4 ∧ y4.m = m1 := by
    cases r2 with
    | none => cases hr2
    | some y => exact ⟨y, rfl, by simpa using hr2⟩
  have hg4 := (hg2' y4 rfl).2
  obtain ⟨y5, rfl, hy5⟩ := perm_one (show (w3.map MV.m).Perm [m2] from ((hp4.trans hq2).trans (List.Perm.swap m1 m2 [])).cons_inv)
  clear hg2' hr2 hp4 hn2
  repeat (first | ((apply H.move); (iterate 3 exact rfl)) | ((apply H.extract); (iterate 4 exact rfl)))
  refine H.alloc (ls := msgZ.vals none 0) rfl rfl rfl fun xb => ?_
  refine H.storeN (ls := msgZ.vals none 0) (vs := y4.vals) (ls' := y4.vals) rfl rfl rfl (allOne_mem rfl) rfl rfl (Nat.le_refl 121) (.here _ _ _) ?_
  repeat (first | ((first | apply H.move | apply H.assign); (iterate 3 exact rfl)) | (first | apply H.seq | apply H.region | apply H.nil | apply H.then_normal))
  refine H.loadN (ls := y4.vals) rfl rfl rfl (Rd.ofRow (.here _ _ _)) rfl rfl ?_
  refine H.front (x := loreH _ _ _ _) (by repeat (first | exact .here _ _ | apply Pull.there)) ?_
  refine H.call (R := AddP f2 _ lb 3 [] y4.m) rfl rfl rfl (ladd_fn f2 _ (tab_mono htab le2) le2 hg4 (by decide)) fun v f' A' hr => ?_
  obtain ⟨g3, q3, c3, rfl, hd3, rfl, rfl⟩ := hr
  rw [show chk 3 (strm (([] : List MV).map MV.m)) y4.m = 0 by rw [hy4]; exact hb, if_pos rfl]
  have le3 := le2.trans (Le.un f2 g3)
  have up3 := Le.un f2 g3
  generalize un f2 g3 = f3 at le3 up3 ⊢
  repeat (first | ((apply H.move); (iterate 3 exact rfl)) | (first | apply H.seq | apply H.region | apply H.nil | apply H.then_normal))
  refine H.front (x := loreH _ _ _ _) (by repeat (first | exact .here _ _ | apply Pull.there)) ?_
  refine H.front (x := waitH _ _ _) (by repeat (first | exact .here _ _ | apply Pull.there)) ?_
  refine H.call rfl rfl rfl (wnext_fn f3 _ (tab_mono htab le3) up3) fun v f' A' hr => ?_
  obtain ⟨r3, w4, hn3, _, _, rfl, hff, rfl⟩ := hr
  rw [hff]
  obtain ⟨hr3, hp5⟩ := next_yes hn3 (m := m2) (by rw [← hy5]; simp) (by show chk 3 (strm [y4.m]) m2 = 0; rw [hy4]; exact hc) (fun x hx => by
    left; rw [List.mem_singleton.1 (show x ∈ [y5.m] from hx), hy5])
  obtain ⟨y6, rfl, hy6⟩ : ∃ y6, r3 = some y6 ∧ y6.m = m2 := by
    cases r3 with
    | none => cases hr3
    | some y => exact ⟨y, rfl, by simpa using hr3⟩
  have hw4 : w4.length = 0 := by
    have h1 := hp5.length_eq
    simp at h1
    rw [h1]; rfl
  clear hr3 hp5 hn3
  have hn4 : y4.m.number = 1 := by rw [hy4]; exact n1
  have hn6 : y6.m.number = 2 := by rw [hy6]; exact n2
  repeat (first | ((apply H.move); (iterate 3 exact rfl)) | ((apply H.extract); (iterate 4 exact rfl)))
  refine H.alloc (ls := msgZ.vals none 0) rfl rfl rfl fun yb => ?_
  refine H.storeN (ls := msgZ.vals none 0) (vs := y6.vals) (ls' := y6.vals) rfl rfl rfl (allOne_mem rfl) rfl rfl (Nat.le_refl 121) (.here _ _ _) ?_
  repeat (first | ((first | apply H.move | apply H.assign); (iterate 3 exact rfl)) | (apply H.fieldAddr; (iterate 3 exact rfl); exact inferInstance; exact rfl) | (apply H.load1; (iterate 3 exact rfl); apply Rd1.ofRow; (repeat (first | exact .here _ _ _ | apply At.there)); (iterate 2 exact rfl)) | (first | apply H.seq | apply H.region | apply H.nil | apply H.then_normal) | ((apply H.cmp); (iterate 5 exact rfl)) | (apply H.pickT; (iterate 4 exact rfl)) | ((apply H.not); (iterate 4 exact rfl)) | (apply H.gyes; (iterate 3 exact rfl); (assumption)))
  refine H.front (x := waitH _ _ _) (by repeat (first | exact .here _ _ | apply Pull.there)) ?_
  refine H.callR rfl rfl rfl (wlen_fn f3 _) ?_
  rw [hw4]
  repeat (first | ((apply H.assign); (iterate 3 exact rfl)) | (first | apply H.nil | apply H.then_normal) | ((apply H.cmp); (iterate 5 exact rfl)) | (apply H.pickT; (iterate 4 exact rfl)) | (apply H.ret))
  refine H.weakL le3 ?_
  iterate 7 refine H.drop (.here _ _) ?_
  exact H.ret1 rfl rfl (fun _ h => h) ⟨rfl, rfl, rfl⟩
end
end Go.Proofs.YtoigpgdmignaoaaGreatDoor

/- Layer 13: WaitNil. Condition: the table of the standard stands in the fragment. -/
namespace Go.Proofs.YtoigpgdmignaoaaGreatDoor
open Go
section
variable (f : Frag) (F : List HP)
set_option maxRecDepth 20000 in
set_option maxHeartbeats 1600000 in
theorem waitNil_fn (htab : TabAt f) {x : MV} : Fn Tryz.prog 10 [.agg x.vals.toArray] f F (Ret (.bool true) f F) := by
  by_cases hq : x.m.body.q.length ≤ 20
  · skip
    refine Fn.enter Tryz.func10 rfl Tryz.ntmps10 rfl (L := [(0, _)]) ⟨rfl, trivial⟩ fun base => ?_
    repeat ((first | apply H.seq | apply H.region))
    refine H.box (ls := x.vals) rfl rfl rfl rfl fun mb => ?_
    repeat (first | ((first | apply H.assign | apply H.len_slice); (iterate 3 exact rfl)) | (apply H.fieldAddr; (iterate 3 exact rfl); exact inferInstance; exact rfl) | (apply H.load1; (iterate 3 exact rfl); apply Rd1.ofRow; (repeat (exact .here _ _ _)); (iterate 2 exact rfl)) | (first | apply H.seq | apply H.region | apply H.nil | apply H.then_normal) | ((apply H.cmp); (iterate 5 exact rfl)) | (apply H.skip) | (apply H.cond_no; exact rfl; (omega)))
    refine H.callE rfl rfl rfl (lnew_fn f _ (n := 3) (by decide)) fun lb => ?_
    repeat (first | ((first | apply H.move | apply H.assign); (iterate 3 exact rfl)) | (first | apply H.seq | apply H.region | apply H.nil | apply H.then_normal) | ((apply H.extract); (iterate 4 exact rfl)))
    refine H.callR rfl rfl rfl (wnext_nil f _ _) ?_
    repeat (first | ((apply H.move); (iterate 3 exact rfl)) | ((apply H.extract); (iterate 4 exact rfl)))
    refine H.alloc (ls := msgZ.vals none 0) rfl rfl rfl fun ob => ?_
    refine H.storeN (ls := msgZ.vals none 0) (vs := msgZ.vals none 0) (ls' := msgZ.vals none 0) rfl rfl rfl (allOne_mem rfl) rfl rfl (Nat.le_refl 121) (.here _ _ _) ?_
    refine H.drop (.here _ _) ?_
    repeat (first | ((apply H.assign); (iterate 3 exact rfl)) | (first | apply H.seq | apply H.region | apply H.nil | apply H.then_normal))
    refine H.callE rfl rfl rfl (wnew_fn f _) fun wb => ?_
    refine H.callR rfl rfl rfl (wnext_nol f _ _) ?_
    refine H.drop (.here _ _) ?_
    repeat (first | ((apply H.move); (iterate 3 exact rfl)) | ((apply H.extract); (iterate 4 exact rfl)))
    refine H.alloc (ls := msgZ.vals none 0) rfl rfl rfl fun o2b => ?_
    refine H.storeN (ls := msgZ.vals none 0) (vs := msgZ.vals none 0) (ls' := msgZ.vals none 0) rfl rfl rfl (allOne_mem rfl) rfl rfl (Nat.le_refl 121) (.here _ _ _) ?_
    refine H.drop (.here _ _) ?_
    repeat (first | ((apply H.assign); (iterate 3 exact rfl)) | (first | apply H.seq | apply H.nil | apply H.then_normal))
    refine H.front (x := row mb _ _) (by repeat (first | exact .here _ _ | apply Pull.there)) ?_
    refine H.drawB (by kernel_rfl) (by decide +kernel) (by repeat (first | exact blind_fn | refine blind_seq ?_ | refine blind_block ?_ | refine blind_loop ?_)) (S := [_]) rfl ?_
    refine HB.quiet [(0, false), (1, false), (2, false)] 25 (by kernel_rfl) ?_
    repeat (((apply HQ.move); (iterate 3 exact rfl)))
    refine HQ.loadN (ls := x.vals) rfl rfl rfl (Rd.ofRow (.here _ _ _)) rfl rfl ?_
    refine HQ.more rfl ?_
    refine HB.ev1 (i := 3) (by kernel_rfl) rfl ?_
    refine H.callR rfl rfl rfl (wput_nil f _ x _) ?_
    repeat ((apply H.nil))
    refine H.on0 rfl ?_
    refine HB.quiet [(4, false), (5, false), (7, false)] 21 (by kernel_rfl) ?_
    repeat (first | ((apply HQ.move); (iterate 3 exact rfl)) | ((apply HQ.cmp); (iterate 5 exact rfl)) | (apply HQ.gyes; (iterate 3 exact rfl); (omega)))
    refine HQ.loadN (ls := x.vals) rfl rfl rfl (Rd.ofRow (.here _ _ _)) rfl rfl ?_
    refine HQ.more rfl ?_
    refine HB.ev1 (i := 6) (by kernel_rfl) rfl ?_
    refine H.callE rfl rfl rfl (wnew_fn f _) fun w2 => ?_
    repeat ((apply H.nil))
    refine H.front (x := row mb _ _) (by repeat (first | exact .here _ _ | apply Pull.there)) ?_
    refine H.on0 rfl ?_
    refine HB.ev1 (i := 8) (by kernel_rfl) rfl ?_
    refine H.callR rfl rfl rfl (wput_nol f _ x _) ?_
    repeat ((apply H.nil))
    refine H.on0 rfl ?_
    refine HB.quiet [(9, false), (10, false), (11, false), (12, false), (13, false), (14, false), (15, false), (16, false), (17, false), (18, false), (19, false), (20, false)] 7 (by kernel_rfl) ?_
    repeat (first | ((apply HQ.move); (iterate 3 exact rfl)) | ((apply HQ.cmp); (iterate 5 exact rfl)) | (apply HQ.pickT; (iterate 4 exact rfl)) | ((apply HQ.not); (iterate 4 exact rfl)))
    refine HQ.more rfl ?_
    refine HB.ev1 (i := 21) (by kernel_rfl) rfl ?_
    refine H.callR rfl rfl rfl (wlen_nil f _) ?_
    repeat ((apply H.nil))
    refine H.on0 rfl ?_
    refine HB.quiet [(22, false), (23, false), (24, false)] 3 (by kernel_rfl) ?_
    repeat (first | ((apply HQ.move); (iterate 3 exact rfl)) | ((apply HQ.cmp); (iterate 5 exact rfl)) | (apply HQ.pickT; (iterate 4 exact rfl)))
    refine HQ.more rfl ?_
    refine HB.ev1 (i := 25) (by kernel_rfl) rfl ?_
    refine H.callR rfl rfl rfl (works13_fn f _ htab) ?_
    repeat ((apply H.nil))
    refine H.on0 rfl ?_
    refine HB.quiet [(26, false), (27, false)] 0 (by kernel_rfl) ?_
    repeat (first | ((apply HQ.assign); (iterate 3 exact rfl)) | (apply HQ.pickT; (iterate 4 exact rfl)))
    refine HQ.more rfl ?_
    refine HB.done (by kernel_rfl) ?_
    repeat (first | (apply H.then_normal) | (apply H.ret))
    refine H.drop (.here _ _) ?_
    refine H.drop (.here _ _) ?_
    refine H.drop (.here _ _) ?_
    exact H.ret1 rfl rfl (fun _ h => h) ⟨rfl, rfl, rfl⟩
  · skip
    refine Fn.enter Tryz.func10 rfl Tryz.ntmps10 rfl (L := [(0, _)]) ⟨rfl, trivial⟩ fun base => ?_
    repeat ((first | apply H.seq | apply H.region))
    refine H.box (ls := x.vals) rfl rfl rfl rfl fun mb => ?_
    repeat (first | ((first | apply H.assign | apply H.len_slice); (iterate 3 exact rfl)) | (apply H.fieldAddr; (iterate 3 exact rfl); exact inferInstance; exact rfl) | (apply H.load1; (iterate 3 exact rfl); apply Rd1.ofRow; (repeat (exact .here _ _ _)); (iterate 2 exact rfl)) | (first | apply H.seq | apply H.region | apply H.nil | apply H.then_normal) | ((apply H.cmp); (iterate 5 exact rfl)) | (apply H.cond_yes; exact rfl; (omega)))
    refine H.callR rfl rfl rfl (works13_fn f _ htab) ?_
    repeat (first | ((apply H.assign); (iterate 3 exact rfl)) | (first | apply H.nil | apply H.then_normal) | (first | apply H.ret | apply H.then_ret))
    refine H.drop (.here _ _) ?_
    exact H.ret1 rfl rfl (fun _ h => h) ⟨rfl, rfl, rfl⟩
end
end Go.Proofs.YtoigpgdmignaoaaGreatDoor

/- Rows whose laws read the table of sha: what is given of the program, and what the row's condition says. -/
namespace Go.Proofs.YtoigpgdmignaoaaGreatDoor
open Go Go.ChangeShapes Go.WideShapes Go.RowKit Go.Deep
theorem Tryz.own : ownKnob Tryz.prog.godebug = none := by kernel_rfl
theorem Tryz.laidOut : laidOutB Tryz.prog = true := by kernel_rfl
abbrev laidL : List (String × DataW Unit) := [("ratchet/sha.table", Rows.laid_ratchet_sha_table)]
theorem door_met (os : Os) (args : Array Value) : laidMetH Tryz.prog laidL ((World.doorLaid Tryz.prog 400 os).forCall (fun _ _ => 0) ⟨#[], args, []⟩).memory :=
  laidMetH_of_parts3 (fuel := 8) (laidMet_of_run' 8 (by kernel_rfl) (by kernel_rfl)) (by kernel_rfl) (by kernel_rfl)
theorem tab_eq : (Rows.laid_ratchet_sha_table : DataW Unit) = .agg ((Sha.k.map fun x => ((x.toNat : Nat) : Int)).map fun z => .lit (.int .u32 z)) := by kernel_rfl
theorem tab_of {W : World} (h : laidMetH Tryz.prog laidL W) : TabAt (memOf W) := by
  have h2 : laidMetH Tryz.prog [("ratchet/sha.table", .agg ((Sha.k.map fun x => ((x.toNat : Nat) : Int)).map fun z => .lit (.int .u32 z)))] W := by rw [← tab_eq]; exact h
  exact laid_ints h2 (by kernel_rfl) (by kernel_rfl) (t := 252) (e := 222) Tryz.underlying252 Tryz.underlying222 (by kernel_rfl)
end Go.Proofs.YtoigpgdmignaoaaGreatDoor
