/- Parts of the proof, one behind the other, each under its own heading. No conditions. -/
import Derived.Test.YtoigpgdmignaoaaGreatDoorZ06
/- Layer 12: a message is given; those of which a vector does not know. No condition. -/
namespace Go.Proofs.YtoigpgdmignaoaaGreatDoor
set_option linter.unusedSectionVars false
set_option linter.unusedSimpArgs false
set_option linter.unusedVariables false
open Go
theorem take_cons_drop {α : Type} {l : List α} {k : Nat} {y : α} (h : l[k]? = some y) : l = l.take k ++ y :: l.drop (k + 1) := by
  have h1 := take_snoc h
  have h2 := (List.take_append_drop (k + 1) l).symm
  rw [h1, List.append_assoc] at h2
  exact h2
theorem strmV_at {l : List MV} {k : Nat} {y : MV} (h : l[k]? = some y) : (strmV l (orgI y.m))[cnt ((l.map MV.m).take k) (orgI y.m)]? = some y := by
  have e := take_cons_drop h
  have h1 : strmV l (orgI y.m) = strmV (l.take k) (orgI y.m) ++ y :: strmV (l.drop (k + 1)) (orgI y.m) := by
    rw [e]
    unfold strmV
    rw [List.filter_append, List.filter_cons, if_pos (by simp)]
    rw [← e]
  have h2 : cnt ((l.map MV.m).take k) (orgI y.m) = (strmV (l.take k) (orgI y.m)).length := by rw [strmV_len, List.map_take]
  rw [h1, h2, List.getElem?_append_right (Nat.le_refl _), Nat.sub_self]
  rfl
theorem strmV_mem {l : List MV} {o a : Nat} {y : MV} (h : (strmV l o)[a]? = some y) : y ∈ l := by
  have := List.mem_of_getElem? h
  unfold strmV at this
  exact (List.mem_filter.1 this).1
/-- What Get answers. -/
def getM (l : List Msg) (o z : Int) : Msg × Bool := match findM l o z with
  | some m => (m, true)
  | none => (msgZ, false)
def GetP (f : Frag) (A : List HP) (r : Msg × Bool) : Value → Frag → List HP → Prop := fun v f' A' =>
  ∃ (g : Frag) (y : MV), v = .tuple #[.agg y.vals.toArray, .bool r.2] ∧ y.m = r.1 ∧ y.Good (un f g) ∧ Dj f g ∧ f' = un f g ∧ A' = A
theorem msgZ_good (f : Frag) : (⟨msgZ, none, 0⟩ : MV).Good f := ⟨QAt.nil f none, Nat.zero_le _, ⟨by decide, by decide⟩, ⟨by decide, by decide⟩, reqz_ok⟩
section
variable (f : Frag) (F : List HP)
set_option maxRecDepth 20000 in
theorem lget_nil (o z : Int) : Fn Tryz.prog 28 [.pointer none, .int .i64 o, .int .u64 z] f F (Ret (.tuple #[.agg (msgZ.vals none 0).toArray, .bool false]) f F) := by
  refine Fn.enter Tryz.func28 rfl Tryz.ntmps28 rfl (L := [(0, _), (1, _), (2, _)]) ⟨rfl, rfl, rfl, trivial⟩ fun base => ?_
  repeat ((first | apply H.seq | apply H.region))
  refine H.alloc (ls := msgZ.vals none 0) rfl rfl rfl fun ob => ?_
  repeat (first | ((first | apply H.move | apply H.assign | apply H.nilCheck | apply H.len_slice); (iterate 3 exact rfl)) | (first | apply H.seq | apply H.region | apply H.nil | apply H.then_normal) | (apply H.pass; (iterate 2 exact rfl)) | (apply H.pickT; (iterate 4 exact rfl)) | ((apply H.ptrNil); (iterate 5 exact rfl)) | (apply H.cond_true; exact rfl))
  refine H.loadN (ls := msgZ.vals none 0) rfl rfl rfl (Rd.ofRow (.here _ _ _)) rfl rfl ?_
  refine H.storeN (ls := msgZ.vals none 0) (vs := msgZ.vals none 0) (ls' := msgZ.vals none 0) rfl rfl rfl (allOne_mem rfl) rfl rfl (Nat.le_refl 121) (.here _ _ _) ?_
  repeat (first | ((apply H.assign); (iterate 3 exact rfl)) | (first | apply H.nil | apply H.then_normal) | (first | apply H.ret | apply H.then_ret))
  exact H.retCT rfl rfl rfl rfl (Rd.ofRow (.here _ _ _)) rfl (fun _ s => s.drop (.here _ _)) ⟨rfl, rfl, rfl⟩
set_option maxRecDepth 20000 in
set_option maxHeartbeats 1600000 in
theorem lget_fn {fl : Frag} (hfl : Le fl f) {lb n : Nat} {l : List MV} {og z : Int} (hz0 : 0 ≤ z) :
    Fn Tryz.prog 28 [.pointer (some ⟨lb, 0, none⟩), .int .i64 og, .int .u64 z] f (loreH fl lb n l :: F) (GetP f (loreH fl lb n l :: F) (getM (l.map MV.m) og z)) := by
  refine Fn.unpack fun i hi => ?_
  have hn := hi.2.2.2
  by_cases h1 : og < 1
  · have hno : getM (l.map MV.m) og z = (msgZ, false) := by unfold getM; rw [hi.2.2.1.find_none (.inl h1)]
    refine Fn.enter Tryz.func28 rfl Tryz.ntmps28 rfl (L := [(0, _), (1, _), (2, _)]) ⟨rfl, rfl, rfl, trivial⟩ fun base => ?_
    repeat ((first | apply H.seq | apply H.region))
    refine H.alloc (ls := msgZ.vals none 0) rfl rfl rfl fun ob => ?_
    repeat (first | ((first | apply H.move | apply H.assign | apply H.nilCheck | apply H.len_slice); (iterate 3 exact rfl)) | (first | apply H.seq | apply H.region | apply H.nil | apply H.then_normal) | ((apply H.cmp); (iterate 5 exact rfl)) | (apply H.pass; (iterate 2 exact rfl)) | (apply H.pickT; (iterate 4 exact rfl)) | ((apply H.pickF); (iterate 4 exact rfl)) | ((apply H.ptrNil); (iterate 5 exact rfl)) | (apply H.cond_true; exact rfl) | (apply H.gyes; (iterate 3 exact rfl); (assumption)))
    refine H.loadN (ls := msgZ.vals none 0) rfl rfl rfl (Rd.ofRow (.here _ _ _)) rfl rfl ?_
    refine H.storeN (ls := msgZ.vals none 0) (vs := msgZ.vals none 0) (ls' := msgZ.vals none 0) rfl rfl rfl (allOne_mem rfl) rfl rfl (Nat.le_refl 121) (.here _ _ _) ?_
    repeat (first | ((apply H.assign); (iterate 3 exact rfl)) | (first | apply H.nil | apply H.then_normal) | (first | apply H.ret | apply H.then_ret))
    rw [hno]
    exact H.retCT rfl rfl rfl rfl (Rd.ofRow (.here _ _ _)) rfl (fun _ s => (s.drop (.here _ _)).imp (lore_fold i hi)) ⟨nil0, ⟨msgZ, none, 0⟩, rfl, rfl, msgZ_good _, Dj.nil _, (un_nil _).symm, rfl⟩
  · by_cases h2 : (n : Int) < og
    · have hno : getM (l.map MV.m) og z = (msgZ, false) := by unfold getM; rw [hi.2.2.1.find_none (.inr (.inl h2))]
      refine Fn.enter Tryz.func28 rfl Tryz.ntmps28 rfl (L := [(0, _), (1, _), (2, _)]) ⟨rfl, rfl, rfl, trivial⟩ fun base => ?_
      repeat ((first | apply H.seq | apply H.region))
      refine H.alloc (ls := msgZ.vals none 0) rfl rfl rfl fun ob => ?_
      repeat (first | ((first | apply H.move | apply H.assign | apply H.nilCheck | apply H.len_slice); (iterate 3 exact rfl)) | (apply H.fieldAddr; (iterate 3 exact rfl); exact inferInstance; exact rfl) | (apply H.load1; (iterate 3 exact rfl); apply Rd1.ofRow; (repeat (first | exact .here _ _ _ | apply At.there)); (iterate 2 exact rfl)) | (first | apply H.seq | apply H.region | apply H.nil | apply H.then_normal) | ((apply H.cmp); (iterate 5 exact rfl)) | (apply H.pass; (iterate 2 exact rfl)) | (apply H.pickT; (iterate 4 exact rfl)) | ((apply H.pickF); (iterate 4 exact rfl)) | ((apply H.ptrNil); (iterate 5 exact rfl)) | (apply H.cond_true; exact rfl) | (apply H.gyes; (iterate 3 exact rfl); (assumption)) | (apply H.gno; (iterate 3 exact rfl); (assumption)))
      refine H.loadN (ls := msgZ.vals none 0) rfl rfl rfl (Rd.ofRow (.here _ _ _)) rfl rfl ?_
      refine H.storeN (ls := msgZ.vals none 0) (vs := msgZ.vals none 0) (ls' := msgZ.vals none 0) rfl rfl rfl (allOne_mem rfl) rfl rfl (Nat.le_refl 121) (.here _ _ _) ?_
      repeat (first | ((apply H.assign); (iterate 3 exact rfl)) | (first | apply H.nil | apply H.then_normal) | (first | apply H.ret | apply H.then_ret))
      rw [hno]
      exact H.retCT rfl rfl rfl rfl (Rd.ofRow (.here _ _ _)) rfl (fun _ s => (s.drop (.here _ _)).imp (lore_fold i hi)) ⟨nil0, ⟨msgZ, none, 0⟩, rfl, rfl, msgZ_good _, Dj.nil _, (un_nil _).symm, rfl⟩
    · by_cases h3 : z < 1
      · have hno : getM (l.map MV.m) og z = (msgZ, false) := by unfold getM; rw [hi.2.2.1.find_none (.inr (.inr h3))]
        refine Fn.enter Tryz.func28 rfl Tryz.ntmps28 rfl (L := [(0, _), (1, _), (2, _)]) ⟨rfl, rfl, rfl, trivial⟩ fun base => ?_
        repeat ((first | apply H.seq | apply H.region))
        refine H.alloc (ls := msgZ.vals none 0) rfl rfl rfl fun ob => ?_
        repeat (first | ((first | apply H.move | apply H.assign | apply H.nilCheck | apply H.len_slice); (iterate 3 exact rfl)) | (apply H.fieldAddr; (iterate 3 exact rfl); exact inferInstance; exact rfl) | (apply H.load1; (iterate 3 exact rfl); apply Rd1.ofRow; (repeat (first | exact .here _ _ _ | apply At.there)); (iterate 2 exact rfl)) | (first | apply H.seq | apply H.region | apply H.nil | apply H.then_normal) | ((apply H.cmp); (iterate 5 exact rfl)) | (apply H.pass; (iterate 2 exact rfl)) | (apply H.pickT; (iterate 4 exact rfl)) | ((apply H.pickF); (iterate 4 exact rfl)) | ((apply H.ptrNil); (iterate 5 exact rfl)) | (apply H.cond_true; exact rfl) | (apply H.gyes; (iterate 3 exact rfl); (assumption)) | (apply H.gno; (iterate 3 exact rfl); (assumption)))
        refine H.loadN (ls := msgZ.vals none 0) rfl rfl rfl (Rd.ofRow (.here _ _ _)) rfl rfl ?_
        refine H.storeN (ls := msgZ.vals none 0) (vs := msgZ.vals none 0) (ls' := msgZ.vals none 0) rfl rfl rfl (allOne_mem rfl) rfl rfl (Nat.le_refl 121) (.here _ _ _) ?_
        repeat (first | ((apply H.assign); (iterate 3 exact rfl)) | (first | apply H.nil | apply H.then_normal) | (first | apply H.ret | apply H.then_ret))
        rw [hno]
        exact H.retCT rfl rfl rfl rfl (Rd.ofRow (.here _ _ _)) rfl (fun _ s => (s.drop (.here _ _)).imp (lore_fold i hi)) ⟨nil0, ⟨msgZ, none, 0⟩, rfl, rfl, msgZ_good _, Dj.nil _, (un_nil _).symm, rfl⟩
      · obtain ⟨o, rfl⟩ : ∃ o : Nat, og = ((o + 1 : Nat) : Int) := ⟨(og - 1).toNat, by omega⟩
        obtain ⟨p, rfl⟩ : ∃ p : Nat, z = ((p + 1 : Nat) : Int) := ⟨(z - 1).toNat, by omega⟩
        have ho11 : o < 11 := by omega
        have hstr := loreCells_str n l i ho11
        have hsl := strmV_le l o
        have hll := hi.2.1
        have hfind : findM (l.map MV.m) ((o + 1 : Nat) : Int) ((p + 1 : Nat) : Int) = ((strmV l o).map MV.m)[p]? := by
          rw [hi.2.2.1.find (by omega), strmV_map]
        have hoz : ((o + 1 : Nat) : Int) - 1 = (o : Nat) := by omega
        have hpz : ((p + 1 : Nat) : Int) - 1 = (p : Nat) := by omega
        by_cases h4 : p < (strmV l o).length
        · obtain ⟨y, hy⟩ : ∃ y, (strmV l o)[p]? = some y := ⟨_, List.getElem?_eq_getElem h4⟩
          have hyes : getM (l.map MV.m) ((o + 1 : Nat) : Int) ((p + 1 : Nat) : Int) = (y.m, true) := by unfold getM; rw [hfind, List.getElem?_map, hy]; rfl
          have hyg : y.Good f := (hi.1 y (strmV_mem hy)).mono hfl
          refine Fn.front (x := fam (strH l i) 11) (by repeat (first | exact .here _ _ | apply Pull.there)) ?_
          refine Fn.enter Tryz.func28 rfl Tryz.ntmps28 rfl (L := [(0, _), (1, _), (2, _)]) ⟨rfl, rfl, rfl, trivial⟩ fun base => ?_
          refine H.famPull ho11 ?_
          refine H.slc_some (p := i.P o) (n0 := (strmV l o).length) (c := i.C o) (.here _ _ _) (by omega) fun sb hp => ?_
          have hrd : ∀ {f G}, Rd f (strH l i o :: G) sb (p * 121) y.vals := fun {f G} => by
            unfold strH
            rw [hp]
            exact Rd.slcElem MV.len (by decide) (.here _ _ _) hy
          rw [hp] at hstr
          refine H.front (x := row lb _ _) (by repeat (first | exact .here _ _ | apply Pull.there)) ?_
          refine H.front (x := strH l i o) (by repeat (first | exact .here _ _ | apply Pull.there)) ?_
          repeat ((first | apply H.seq | apply H.region))
          refine H.alloc (ls := msgZ.vals none 0) rfl rfl rfl fun ob => ?_
          repeat (first | ((first | apply H.move | apply H.assign | apply H.nilCheck); (iterate 3 exact rfl)) | (apply H.fieldAddr; (iterate 3 exact rfl); exact inferInstance; exact rfl) | (apply H.load1; (iterate 3 exact rfl); apply Rd1.ofRow; (repeat (first | exact .here _ _ _ | apply At.there)); (iterate 2 exact rfl)) | (first | apply H.seq | apply H.region | apply H.nil | apply H.then_normal) | ((apply H.cmp); (iterate 5 exact rfl)) | ((apply H.ar; (iterate 4 exact rfl)); (with_reducible apply wr_i64_s1; omega); exact rfl) | ((apply H.pickF); (iterate 4 exact rfl)) | ((apply H.ptrNil); (iterate 5 exact rfl)) | (apply H.gno; (iterate 3 exact rfl); (assumption)))
          refine H.index_array (i := o) rfl rfl rfl rfl ho11 rfl ?_
          refine H.load1 rfl rfl rfl (Rd1.at0 (Rd.ofRow (.there _ (.there _ (.here _ _ _)))) (by rw [Nat.mul_one, Nat.zero_add]; exact hstr)) rfl ?_
          repeat (first | ((first | apply H.move | apply H.nilCheck | apply H.len_slice); (iterate 3 exact rfl)) | (apply H.fieldAddr; (iterate 3 exact rfl); exact inferInstance; exact rfl) | (first | apply H.seq | apply H.region | apply H.nil | apply H.then_normal) | ((apply H.cmp); (iterate 5 exact rfl)) | ((first | (apply H.ar; (iterate 4 exact rfl)) | (apply H.conv_int; (iterate 2 exact rfl))); (first | (with_reducible apply wr_i64_s1; omega) | (with_reducible apply wr_u64; omega)); exact rfl) | ((apply H.pickF); (iterate 4 exact rfl)) | (apply H.skip) | (apply H.cond_no; exact rfl; (omega)))
          refine H.index_array (i := o) rfl rfl rfl rfl ho11 rfl ?_
          refine H.load1 rfl rfl rfl (Rd1.at0 (Rd.ofRow (.there _ (.there _ (.here _ _ _)))) (by rw [Nat.mul_one, Nat.zero_add]; exact hstr)) rfl ?_
          repeat (first | ((apply H.move); (iterate 3 exact rfl)) | ((apply H.ar; (iterate 4 exact rfl)); (with_reducible apply wr_u64; omega); exact rfl))
          refine H.index_slice (i := p) rfl rfl rfl (by omega) h4 rfl ?_
          refine H.front (x := strH l i o) (by repeat (first | exact .here _ _ | apply Pull.there)) ?_
          refine H.loadN (ls := y.vals) rfl rfl rfl (by rw [Nat.zero_add]; exact hrd) rfl rfl ?_
          refine H.callE2 rfl rfl rfl (lown_fn f _ hyg) fun qp qc => ?_
          refine H.freeze (.here _ _) fun g hg hd => ?_
          refine H.storeN (ls := msgZ.vals none 0) (vs := y.m.vals qp qc) (ls' := y.m.vals qp qc) rfl rfl rfl (allOne_mem rfl) rfl rfl (Nat.le_refl 121) (by repeat (first | exact .here _ _ _ | apply At.there)) ?_
          repeat (first | ((apply H.assign); (iterate 3 exact rfl)) | (first | apply H.nil | apply H.then_normal) | (apply H.ret))
          refine H.front (x := fam (updF (strH l i) o emp) 11) (by repeat (first | exact .here _ _ | apply Pull.there)) ?_
          refine H.front (x := strH l i o) (by repeat (first | exact .here _ _ | apply Pull.there)) ?_
          refine H.famBack ho11 ?_
          refine H.front (x := row lb _ _) (by repeat (first | exact .here _ _ | apply Pull.there)) ?_
          refine H.front (x := row ob _ _) (by repeat (first | exact .here _ _ | apply Pull.there)) ?_
          rw [hyes]
          exact H.retCT (ls := y.m.vals qp qc) rfl rfl rfl rfl (Rd.ofRow (.here _ _ _)) rfl (fun _ s => (s.drop (.here _ _)).imp (lore_fold i hi)) ⟨g, ⟨y.m, qp, qc⟩, rfl, rfl, ⟨qs_qat hg hd, hyg.2⟩, hd, rfl, rfl⟩
        · have hno : getM (l.map MV.m) ((o + 1 : Nat) : Int) ((p + 1 : Nat) : Int) = (msgZ, false) := by unfold getM; rw [hfind, List.getElem?_eq_none (by rw [List.length_map]; omega)]
          refine Fn.enter Tryz.func28 rfl Tryz.ntmps28 rfl (L := [(0, _), (1, _), (2, _)]) ⟨rfl, rfl, rfl, trivial⟩ fun base => ?_
          repeat ((first | apply H.seq | apply H.region))
          refine H.alloc (ls := msgZ.vals none 0) rfl rfl rfl fun ob => ?_
          repeat (first | ((first | apply H.move | apply H.assign | apply H.nilCheck); (iterate 3 exact rfl)) | (apply H.fieldAddr; (iterate 3 exact rfl); exact inferInstance; exact rfl) | (apply H.load1; (iterate 3 exact rfl); apply Rd1.ofRow; (repeat (first | exact .here _ _ _ | apply At.there)); (iterate 2 exact rfl)) | (first | apply H.seq | apply H.region | apply H.nil | apply H.then_normal) | ((apply H.cmp); (iterate 5 exact rfl)) | ((apply H.ar; (iterate 4 exact rfl)); (with_reducible apply wr_i64_s1; omega); exact rfl) | ((apply H.pickF); (iterate 4 exact rfl)) | ((apply H.ptrNil); (iterate 5 exact rfl)) | (apply H.gno; (iterate 3 exact rfl); (assumption)))
          refine H.index_array (i := o) rfl rfl rfl rfl ho11 rfl ?_
          refine H.load1 rfl rfl rfl (Rd1.at0 (Rd.ofRow (.there _ (.here _ _ _))) (by rw [Nat.mul_one, Nat.zero_add]; exact hstr)) rfl ?_
          repeat (first | ((apply H.len_slice); (iterate 3 exact rfl)) | (first | apply H.seq | apply H.region | apply H.nil | apply H.then_normal) | ((apply H.cmp); (iterate 5 exact rfl)) | ((apply H.conv_int; (iterate 2 exact rfl)); (with_reducible apply wr_u64; omega); exact rfl) | ((apply H.pickF); (iterate 4 exact rfl)) | (apply H.cond_yes; exact rfl; (omega)))
          refine H.loadN (ls := msgZ.vals none 0) rfl rfl rfl (Rd.ofRow (.here _ _ _)) rfl rfl ?_
          refine H.storeN (ls := msgZ.vals none 0) (vs := msgZ.vals none 0) (ls' := msgZ.vals none 0) rfl rfl rfl (allOne_mem rfl) rfl rfl (Nat.le_refl 121) (.here _ _ _) ?_
          repeat (first | ((apply H.assign); (iterate 3 exact rfl)) | (first | apply H.nil | apply H.then_normal) | (first | apply H.ret | apply H.then_ret))
          rw [hno]
          exact H.retCT rfl rfl rfl rfl (Rd.ofRow (.here _ _ _)) rfl (fun _ s => (s.drop (.here _ _)).imp (lore_fold i hi)) ⟨nil0, ⟨msgZ, none, 0⟩, rfl, rfl, msgZ_good _, Dj.nil _, (un_nil _).symm, rfl⟩
end
end Go.Proofs.YtoigpgdmignaoaaGreatDoor

/- Layer 12: those of which a vector does not know. No condition. -/
namespace Go.Proofs.YtoigpgdmignaoaaGreatDoor
set_option linter.unusedSectionVars false
set_option linter.unusedSimpArgs false
set_option linter.unusedVariables false
open Go
def msL (p : Option Addr) (c : Nat) (l : List MV) : HP := slc p l.length c 47 121 (l.flatMap MV.vals)
def sinceM (v : Nat → Int) (most : Int) (l : List Msg) : List Msg := (unk v l).take most.toNat
/-- What Since answers. -/
def SinceP (f : Frag) (A : List HP) (ms : List Msg) : Value → Frag → List HP → Prop := fun v f' A' =>
  ∃ (g : Frag) (p : Option Addr) (c : Nat) (R : List MV), v = .slice p R.length c ∧ R.map MV.m = ms ∧ (∀ y ∈ R, y.Good (un f g)) ∧ Dj f g ∧ f' = un f g ∧ A' = msL p c R :: A
theorem unk_snoc (u : Nat → Int) (l : List Msg) (m : Msg) : unk u (l ++ [m]) = if u (orgI m) < m.number then unk u l ++ [m] else unk u l := by
  unfold unk
  rw [List.filter_append]
  by_cases h : u (orgI m) < m.number
  · rw [if_pos h, List.filter_cons, if_pos (decide_eq_true h)]; rfl
  · rw [if_neg h, List.filter_cons, if_neg (by rw [decide_eq_false h]; decide)]; simp
theorem Dj.un3' {f g h : Frag} (h1 : Dj f g) (h2 : Dj (un f g) h) : Dj f (un g h) := Dj.un_right.2 ⟨h1, (Dj.un_left.1 h2).1⟩
theorem slc_snoc {p : Option Addr} {c : Nat} {T : TypeId} {R : List MV} {y : MV} : slc p (R.length + 1) c T 121 (R.flatMap MV.vals ++ y.vals) = slc p (R ++ [y]).length c T 121 ((R ++ [y]).flatMap MV.vals) := by
  rw [List.length_append, List.flatMap_append]
  show _ = slc p (R.length + 1) c T 121 (R.flatMap MV.vals ++ (y.vals ++ []))
  rw [List.append_nil]
theorem unk_take_more {u : Nat → Int} {l : List Msg} {k n : Nat} (h : n ≤ (unk u (l.take k)).length) : (unk u l).take n = (unk u (l.take k)).take n := by
  have e : unk u l = unk u (l.take k) ++ unk u (l.drop k) := by
    unfold unk
    rw [← List.filter_append, List.take_append_drop]
  rw [e, List.take_append_of_le_length h]
section
variable (f : Frag) (F : List HP)
theorem lsince_nil (v : Nat → Int) (most : Int) : Fn Tryz.prog 21 [.pointer none, .agg (v11 v).toArray, .int .i64 most] f F (Ret (.slice none 0 0) f F) := by
  refine Fn.enter Tryz.func21 rfl Tryz.ntmps21 rfl (L := [(0, _), (1, _), (2, _)]) ⟨rfl, rfl, rfl, trivial⟩ fun base => ?_
  repeat ((first | apply H.seq | apply H.region))
  refine H.box (ls := v11 v) rfl rfl rfl rfl fun vb => ?_
  repeat (first | ((first | apply H.move | apply H.assign); (iterate 3 exact rfl)) | (first | apply H.seq | apply H.region | apply H.nil | apply H.then_normal) | ((apply H.ptrNil); (iterate 5 exact rfl)) | (apply H.cond_true; exact rfl) | (first | apply H.ret | apply H.then_ret))
  refine H.drop (.here _ _) ?_
  exact H.ret1 rfl rfl (fun _ h => h) ⟨rfl, rfl, rfl⟩
set_option maxRecDepth 20000 in
set_option maxHeartbeats 3200000 in
theorem lsince_fn {fl : Frag} (hfl : Le fl f) {lb n : Nat} {l : List MV} {v : Nat → Int} {most : Int} :
    Fn Tryz.prog 21 [.pointer (some ⟨lb, 0, none⟩), .agg (v11 v).toArray, .int .i64 most] f (loreH fl lb n l :: F) (SinceP f (loreH fl lb n l :: F) (sinceM v most (l.map MV.m))) := by
  refine Fn.unpack fun i hi => ?_
  obtain ⟨P, C, po, co⟩ := i
  have hn := hi.2.2.2
  have hll := hi.2.1
  refine Fn.enter Tryz.func21 rfl Tryz.ntmps21 rfl (L := [(0, _), (1, _), (2, _)]) ⟨rfl, rfl, rfl, trivial⟩ fun base => ?_
  repeat ((first | apply H.seq | apply H.region))
  refine H.box (ls := v11 v) rfl rfl rfl rfl fun vb => ?_
  repeat (first | ((first | apply H.move | apply H.assign | apply H.nilCheck | apply H.len_slice); (iterate 3 exact rfl)) | (apply H.fieldAddr; (iterate 3 exact rfl); exact inferInstance; exact rfl) | (apply H.load1; (iterate 3 exact rfl); apply Rd1.ofRow; (repeat (first | exact .here _ _ _ | apply At.there)); (iterate 2 exact rfl)) | (first | apply H.seq | apply H.region | apply H.nil | apply H.then_normal) | ((apply H.ptrNil); (iterate 5 exact rfl)) | (apply H.cond_false; exact rfl) | (first | apply H.skip | apply H.block))
  unfold ordH
  refine H.slc0 47 121 ?_
  refine H.front (x := row vb _ _) (by repeat (first | exact .here _ _ | apply Pull.there)) ?_
  refine H.loop (ι := Nat × List MV × Frag × Option Addr × Nat) (fun s => [(16, .int .i64 (s.1 : Int)), (15, .int .i64 (l.length : Nat)), (14, .slice po l.length co), (6, .slice s.2.2.2.1 s.2.1.length s.2.2.2.2), (0, .pointer (some ⟨lb, 0, none⟩)), (2, .int .i64 most), (4, .pointer (some ⟨vb, 0, none⟩))]) (fun s => un f s.2.2.1)
    (fun s => row vb 37 (v11 v) :: slc s.2.2.2.1 s.2.1.length s.2.2.2.2 47 121 (s.2.1.flatMap MV.vals) :: row lb 120 (loreCells n l ⟨P, C, po, co⟩) :: fam (strH l ⟨P, C, po, co⟩) 11 :: slc po l.length co 123 2 ((placesOf (l.map MV.m)).flatMap placeV) :: F)
    (fun s => s.1 ≤ l.length ∧ s.2.1.map MV.m = unk v ((l.map MV.m).take s.1) ∧ s.2.1.length ≤ most.toNat ∧ (∀ y ∈ s.2.1, y.Good (un f s.2.2.1)) ∧ Dj f s.2.2.1) (fun s => l.length - s.1)
    (0, [], nil0, none, 0) ⟨Nat.zero_le _, rfl, Nat.zero_le _, (fun y hy => by cases hy), Dj.nil f⟩ ⟨rfl, rfl, rfl, rfl, rfl, rfl, rfl, trivial⟩ (un_nil f).symm rfl fun s hs => ?_
  obtain ⟨k, R, G, p, c⟩ := s
  obtain ⟨hk, hR, hRm, hRg, hdj⟩ : k ≤ l.length ∧ R.map MV.m = unk v ((l.map MV.m).take k) ∧ R.length ≤ most.toNat ∧ (∀ y ∈ R, y.Good (un f G)) ∧ Dj f G := hs
  have hRl : R.length ≤ l.length := by
    have h1 := congrArg List.length hR
    rw [List.length_map] at h1
    have h2 : (unk v ((l.map MV.m).take k)).length ≤ ((l.map MV.m).take k).length := List.length_filter_le _ _
    rw [List.length_take, List.length_map] at h2
    omega
  show H _ _ _ [(16, .int .i64 (k : Int)), _, _, (6, .slice p R.length c), _, _, _] (un f G) (_ :: slc p R.length c _ 121 (R.flatMap MV.vals) :: _ :: _ :: _ :: F) _
  by_cases hlt : k < l.length
  · obtain ⟨y, hy⟩ : ∃ y, l[k]? = some y := ⟨_, List.getElem?_eq_getElem hlt⟩
    have hym : (l.map MV.m)[k]? = some y.m := by rw [List.getElem?_map, hy]; rfl
    have hyl := List.mem_of_getElem? hy
    have hpl := placesOf_get hym
    have hst := strmV_at hy
    have hnum := (chk_zero (hi.2.2.1 k y.m hym)).2.2.1
    have horg := hi.2.2.1.org (List.mem_of_getElem? hym)
    have hyg : y.Good (un f G) := ((hi.1 y hyl).mono hfl).mono (Le.un f G)
    have hnext : (l.map MV.m).take (k + 1) = (l.map MV.m).take k ++ [y.m] := take_snoc hym
    have hunk := unk_snoc v ((l.map MV.m).take k) y.m
    rw [← hnext] at hunk
    have ho11 : orgI y.m < 11 := by unfold orgI; omega
    have hal : cnt ((l.map MV.m).take k) (orgI y.m) < (strmV l (orgI y.m)).length := by
      rcases Nat.lt_or_ge (cnt ((l.map MV.m).take k) (orgI y.m)) (strmV l (orgI y.m)).length with h | h
      · exact h
      · rw [List.getElem?_eq_none h] at hst; cases hst
    have hsl := strmV_le l (orgI y.m)
    have hnum2 : y.m.number = ((cnt ((l.map MV.m).take k) (orgI y.m) + 1 : Nat) : Int) := hnum
    clear hnum horg
    generalize cnt ((l.map MV.m).take k) (orgI y.m) = a at *
    generalize orgI y.m = o at *
    have hstr := loreCells_str n l ⟨P, C, po, co⟩ ho11
    refine H.front (x := slc po _ co _ _ _) (by repeat (first | exact .here _ _ | apply Pull.there)) ?_
    refine H.slc_some (p := po) (n0 := l.length) (c := co) (.here _ _ _) (by omega) fun ob hpo => ?_
    subst hpo
    repeat (first | (first | apply H.seq | apply H.region | apply H.nil | apply H.then_normal) | ((apply H.cmp); (iterate 5 exact rfl)) | (first | apply H.skip | apply H.block) | (apply H.cond_yes; exact rfl; (omega)))
    refine H.index_slice (i := k) rfl rfl rfl rfl hlt rfl ?_
    refine H.loadN (ls := placeV (o, a)) rfl rfl rfl (by rw [Nat.zero_add]; exact Rd.slcElem (vals := placeV) (fun _ => rfl) (by decide) (.here _ _ _) hpl) rfl rfl ?_
    refine H.alloc (ls := placeV (0, 0)) rfl rfl rfl fun tb => ?_
    refine H.storeN (ls := placeV (0, 0)) (vs := placeV (o, a)) (ls' := placeV (o, a)) rfl rfl rfl (allOne_mem rfl) rfl rfl (Nat.le_refl 2) (.here _ _ _) ?_
    by_cases hm : most ≤ (R.length : Nat)
    · repeat (first | ((first | apply H.move | apply H.assign | apply H.nilCheck | apply H.len_slice | apply H.len_string | apply H.cap_slice); (iterate 3 exact rfl)) | (apply H.fieldAddr; (iterate 3 exact rfl); exact inferInstance; exact rfl) | (apply H.load1; (iterate 3 exact rfl); apply Rd1.ofRow; (repeat (first | exact .here _ _ _ | apply At.there)); (iterate 2 exact rfl)) | (first | apply H.seq | apply H.region | apply H.nil | apply H.then_normal) | ((first | apply H.cmp | apply H.build); (iterate 5 exact rfl)) | ((first | (apply H.ar; (iterate 4 exact rfl)) | (apply H.conv_int; (iterate 2 exact rfl))); (first | (with_reducible apply wr_i64_s1; omega) | (with_reducible apply wr_i64_n1; omega) | (with_reducible apply wr_i64_nn; omega) | (with_reducible apply wr_i64; omega) | (with_reducible apply wr_u64; omega) | (with_reducible apply wr_u8; omega) | (with_reducible apply wr_u16; omega) | rfl); exact rfl) | (apply H.pass; (iterate 2 exact rfl)) | (apply H.pass0; exact rfl) | (apply H.pickT; (iterate 4 exact rfl)) | ((first | apply H.pickF | apply H.extract | apply H.not | apply H.makeFunc); (iterate 4 exact rfl)) | ((first | apply H.ptrNil | apply H.sliceNil); (iterate 5 exact rfl)) | (apply H.store1; (iterate 4 exact rfl); (repeat (first | exact .here _ _ _ | apply At.there)); (repeat (first | exact .here _ _ _ | apply SetV.there))) | (apply H.cond_true; exact rfl) | (apply H.cond_false; exact rfl) | (first | apply H.skip | apply H.ret | apply H.then_ret | apply H.then_exit | apply H.exit | apply H.block | apply H.in_normal | apply H.in_ret | apply H.in_hit | apply H.loop_ret | apply H.loop_exit) | (apply H.in_miss; exact rfl) | (apply H.gyes; (iterate 3 exact rfl); (first | assumption | omega)) | (apply H.gno; (iterate 3 exact rfl); (first | assumption | omega)) | (apply H.cond_yes; exact rfl; (first | assumption | omega)) | (apply H.cond_no; exact rfl; (first | assumption | omega)) | ((first | apply H.gtrue); (iterate 3 exact rfl); assumption) | (apply H.gfalse; (iterate 3 exact rfl); assumption) | (apply H.cond_t; exact rfl; assumption) | (apply H.cond_f; exact rfl; assumption))
      refine H.drop (x := row tb _ _) (by repeat (first | exact .here _ _ | apply Pull.there)) ?_
      refine H.drop (x := row vb _ _) (by repeat (first | exact .here _ _ | apply Pull.there)) ?_
      refine H.front (x := slc (some ⟨ob, 0, none⟩) _ co _ _ _) (by repeat (first | exact .here _ _ | apply Pull.there)) ?_
      refine H.front (x := fam _ 11) (by repeat (first | exact .here _ _ | apply Pull.there)) ?_
      refine H.front (x := row lb _ _) (by repeat (first | exact .here _ _ | apply Pull.there)) ?_
      refine H.imp (lore_fold (F := slc p R.length c 47 121 (R.flatMap MV.vals) :: F) ⟨P, C, some ⟨ob, 0, none⟩, co⟩ hi) ?_
      refine H.front (x := slc p _ c _ _ _) (by repeat (first | exact .here _ _ | apply Pull.there)) ?_
      refine H.ret1 rfl rfl (fun _ h => h) ⟨G, p, c, R, rfl, ?_, hRg, hdj, rfl, rfl⟩
      have h1 := congrArg List.length hR
      rw [List.length_map] at h1
      have h2 : most.toNat = R.length := by omega
      unfold sinceM
      rw [unk_take_more (k := k) (by omega), ← hR, List.take_of_length_le (by rw [List.length_map]; omega)]
    · have h48 : ¬ (most ≤ (R.length : Nat)) := hm
      repeat (first | ((first | apply H.move | apply H.len_slice); (iterate 3 exact rfl)) | (first | apply H.seq | apply H.region | apply H.nil | apply H.then_normal) | ((apply H.cmp); (iterate 5 exact rfl)) | (apply H.skip) | (apply H.cond_no; exact rfl; (assumption)))
      refine H.drawQ (by kernel_rfl) (by decide +kernel) (by first | exact blind_fn | exact blind_seq blind_fn | exact blind_seq (blind_seq blind_fn) | (repeat (first | exact blind_fn | refine blind_seq ?_ | refine blind_block ?_ | refine blind_loop ?_))) ?_
      repeat (first | (apply HQ.fieldAddr; (iterate 3 exact rfl); exact inferInstance; exact rfl) | (apply HQ.load1; (iterate 3 exact rfl); apply Rd1.ofRow; (repeat (exact .here _ _ _)); (iterate 2 exact rfl)) | ((apply HQ.conv_int; (iterate 2 exact rfl)); (with_reducible apply wr_u64; omega); exact rfl))
      refine HQ.index_array (i := o) rfl rfl rfl rfl ho11 rfl ?_
      refine HQ.load1 rfl rfl rfl (.of (Rd.ofRow (by repeat (first | exact .here _ _ _ | apply At.there))) (by rw [Nat.mul_one]; exact v11_get v ho11)) rfl ?_
      repeat (first | ((apply HQ.done0); exact rfl) | ((apply HQ.cmp); (iterate 5 exact rfl)))
      by_cases hv : v o ≤ (a : Nat)
      · rw [if_pos (by omega)] at hunk
        repeat (first | (apply H.then_normal) | (apply H.cond_yes; exact rfl; (assumption)))
        refine H.front (x := fam _ 11) (by repeat (first | exact .here _ _ | apply Pull.there)) ?_
        refine H.famPull ho11 ?_
        refine H.slc_some (p := P o) (n0 := (strmV l o).length) (c := C o) (.here _ _ _) (by omega) fun sb hp => ?_
        have hrd : ∀ {f G}, Rd f (strH l ⟨P, C, some ⟨ob, 0, none⟩, co⟩ o :: G) sb (a * 121) y.vals := fun {f G} => by
          unfold strH
          show Rd f (slc (P o) _ _ _ _ _ :: G) _ _ _
          rw [hp]
          exact Rd.slcElem MV.len (by decide) (.here _ _ _) hst
        have hstr : (loreCells n l ⟨P, C, some ⟨ob, 0, none⟩, co⟩)[1 + o]? = some (.slice (some ⟨sb, 0, none⟩) (strmV l o).length (C o)) := by rw [hstr]; show some (Value.slice (P o) _ _) = _; rw [hp]
        refine H.front (x := row lb _ _) (by repeat (first | exact .here _ _ | apply Pull.there)) ?_
        refine H.front (x := row tb _ _) (by repeat (first | exact .here _ _ | apply Pull.there)) ?_
        refine H.front (x := strH l _ o) (by repeat (first | exact .here _ _ | apply Pull.there)) ?_
        refine H.drawB (by kernel_rfl) (by decide +kernel) (by first | exact blind_fn | exact blind_seq blind_fn | exact blind_seq (blind_seq blind_fn) | (repeat (first | exact blind_fn | refine blind_seq ?_ | refine blind_block ?_ | refine blind_loop ?_))) (S := [_, _, _]) rfl ?_
        refine HB.quiet [(0, false), (1, false), (2, false), (3, false), (4, false), (5, false), (6, false), (7, false), (8, false), (9, false), (10, false), (11, false)] 4 (by kernel_rfl) ?_
        repeat (first | ((first | apply HQ.move | apply HQ.nilCheck); (iterate 3 exact rfl)) | (apply HQ.fieldAddr; (iterate 3 exact rfl); exact inferInstance; exact rfl) | (apply HQ.load1; (iterate 3 exact rfl); apply Rd1.ofRow; (repeat (first | exact .here _ _ _ | apply At.there)); (iterate 2 exact rfl)))
        refine HQ.index_array (i := o) rfl rfl rfl rfl ho11 rfl ?_
        refine HQ.load1 rfl rfl rfl (Rd1.at0 (Rd.ofRow (.there _ (.there _ (.here _ _ _)))) (by rw [Nat.mul_one, Nat.zero_add]; exact hstr)) rfl ?_
        repeat (first | (apply HQ.fieldAddr; (iterate 3 exact rfl); exact inferInstance; exact rfl) | (apply HQ.load1; (iterate 3 exact rfl); apply Rd1.ofRow; (repeat (first | exact .here _ _ _ | apply At.there)); (iterate 2 exact rfl)))
        refine HQ.index_slice (i := a) rfl rfl rfl rfl hal rfl ?_
        refine HQ.loadN (ls := y.vals) rfl rfl rfl (by rw [Nat.zero_add]; exact hrd) rfl rfl ?_
        refine HQ.more rfl ?_
        refine HB.ev1 (i := 12) (by kernel_rfl) rfl ?_
        refine H.callE2 rfl rfl rfl (lown_fn _ _ hyg) fun qp qc => ?_
        repeat ((apply H.nil))
        refine H.freeze (.here _ _) fun g hg hd => ?_
        refine H.on [] (Le.un _ g) rfl ?_
        refine HB.ev1 (i := 13) (by kernel_rfl) rfl ?_
        refine H.buildSlice (out := y.m.vals qp qc) rfl rfl rfl rfl (by decide) (by decide) rfl rfl fun eb => ?_
        repeat ((apply H.nil))
        refine H.front (x := row lb _ _) (by repeat (first | exact .here _ _ | apply Pull.there)) ?_
        refine H.front (x := row tb _ _) (by repeat (first | exact .here _ _ | apply Pull.there)) ?_
        refine H.front (x := strH l _ o) (by repeat (first | exact .here _ _ | apply Pull.there)) ?_
        refine H.on0 rfl ?_
        refine HB.ev1 (i := 14) (by kernel_rfl) rfl ?_
        refine H.append (p := p) (c := c) (xs := R.flatMap MV.vals) (m := 1) (news := y.m.vals qp qc) rfl rfl rfl rfl rfl (fun p' c' => (by repeat (first | exact .here _ _ _ | apply At.there))) (Src.slice (Rd.ofRow (by repeat (first | exact .here _ _ _ | apply At.there))) rfl) (allOne_mem rfl) rfl (by omega) (by omega) fun p2 c2 => ?_
        repeat ((apply H.nil))
        refine H.on0 rfl ?_
        refine HB.quiet [(15, false)] 0 (by kernel_rfl) ?_
        repeat (((apply HQ.assign); (iterate 3 exact rfl)))
        refine HQ.more rfl ?_
        refine HB.done (by kernel_rfl) ?_
        repeat (first | ((apply H.move); (iterate 3 exact rfl)) | (first | apply H.region | apply H.nil | apply H.then_normal) | ((apply H.ar; (iterate 4 exact rfl)); (with_reducible apply wr_i64_n1; omega); exact rfl) | (apply H.in_normal))
        refine H.drop (x := row eb _ _) (by repeat (first | exact .here _ _ | apply Pull.there)) ?_
        refine H.drop (x := row tb _ _) (by repeat (first | exact .here _ _ | apply Pull.there)) ?_
        refine H.front (x := slc (some ⟨ob, 0, none⟩) _ co _ _ _) (by repeat (first | exact .here _ _ | apply Pull.there)) ?_
        refine H.front (x := fam _ 11) (by repeat (first | exact .here _ _ | apply Pull.there)) ?_
        refine H.front (x := strH l _ o) (by repeat (first | exact .here _ _ | apply Pull.there)) ?_
        refine H.famBack ho11 ?_
        refine H.front (x := row lb _ _) (by repeat (first | exact .here _ _ | apply Pull.there)) ?_
        refine H.front (x := slc p2 _ c2 _ _ _) (by repeat (first | exact .here _ _ | apply Pull.there)) ?_
        refine H.front (x := row vb _ _) (by repeat (first | exact .here _ _ | apply Pull.there)) ?_
        have hyg2 : (⟨y.m, qp, qc⟩ : MV).Good (un (un f G) g) := ⟨qs_qat hg hd, hyg.2⟩
        refine H.again (k + 1, R ++ [⟨y.m, qp, qc⟩], un G g, p2, c2) ⟨by show k + 1 ≤ l.length; omega, ?_, ?_, fun z hz => ?_, Dj.un3' hdj hd⟩ (by show l.length - (k + 1) < l.length - k; omega) ⟨rfl, rfl, rfl, ?_, rfl, rfl, rfl, trivial⟩ (un_assoc _ _ _) ?_
        · show (R ++ [(⟨y.m, qp, qc⟩ : MV)]).map MV.m = _
          rw [List.map_append, hR, hunk]; rfl
        · show (R ++ [(⟨y.m, qp, qc⟩ : MV)]).length ≤ _
          rw [List.length_append]; show R.length + 1 ≤ _; omega
        · have hz : z ∈ R ++ [(⟨y.m, qp, qc⟩ : MV)] := hz
          show z.Good (un f (un G g))
          rw [← un_assoc]
          rcases List.mem_append.1 hz with hz | hz
          · exact (hRg z hz).mono (Le.un _ _)
          · rw [List.mem_singleton] at hz; subst hz; exact hyg2
        · show some (Value.slice p2 (R.length + 1) c2) = some (Value.slice p2 (R ++ [(⟨y.m, qp, qc⟩ : MV)]).length c2)
          rw [List.length_append]; rfl
        · show _ :: slc p2 (R.length + 1) c2 _ 121 (R.flatMap MV.vals ++ (⟨y.m, qp, qc⟩ : MV).vals) :: _ = _ :: slc p2 (R ++ [(⟨y.m, qp, qc⟩ : MV)]).length c2 _ 121 ((R ++ [(⟨y.m, qp, qc⟩ : MV)]).flatMap MV.vals) :: _
          rw [slc_snoc]
      · rw [if_neg (by omega)] at hunk
        repeat (first | ((apply H.move); (iterate 3 exact rfl)) | (first | apply H.region | apply H.nil | apply H.then_normal) | ((apply H.ar; (iterate 4 exact rfl)); (with_reducible apply wr_i64_n1; omega); exact rfl) | (first | apply H.skip | apply H.in_normal) | (apply H.cond_no; exact rfl; (assumption)))
        refine H.drop (x := row tb _ _) (by repeat (first | exact .here _ _ | apply Pull.there)) ?_
        refine H.front (x := slc (some ⟨ob, 0, none⟩) _ co _ _ _) (by repeat (first | exact .here _ _ | apply Pull.there)) ?_
        refine H.front (x := fam _ 11) (by repeat (first | exact .here _ _ | apply Pull.there)) ?_
        refine H.front (x := row lb _ _) (by repeat (first | exact .here _ _ | apply Pull.there)) ?_
        refine H.front (x := slc p _ c _ _ _) (by repeat (first | exact .here _ _ | apply Pull.there)) ?_
        refine H.front (x := row vb _ _) (by repeat (first | exact .here _ _ | apply Pull.there)) ?_
        refine H.again (k + 1, R, G, p, c) ⟨by show k + 1 ≤ l.length; omega, by show R.map MV.m = _; rw [hR, hunk], hRm, hRg, hdj⟩ (by show l.length - (k + 1) < l.length - k; omega) ⟨rfl, rfl, rfl, rfl, rfl, rfl, rfl, trivial⟩ rfl rfl
  · have e : k = l.length := by omega
    subst e
    repeat (first | ((first | apply H.move | apply H.assign); (iterate 3 exact rfl)) | (first | apply H.seq | apply H.region | apply H.nil | apply H.then_normal) | ((apply H.cmp); (iterate 5 exact rfl)) | (first | apply H.ret | apply H.then_exit | apply H.exit | apply H.in_hit | apply H.loop_exit) | (apply H.cond_no; exact rfl; (omega)))
    refine H.drop (x := row vb _ _) (by repeat (first | exact .here _ _ | apply Pull.there)) ?_
    refine H.front (x := slc po _ co _ _ _) (by repeat (first | exact .here _ _ | apply Pull.there)) ?_
    refine H.front (x := fam _ 11) (by repeat (first | exact .here _ _ | apply Pull.there)) ?_
    refine H.front (x := row lb _ _) (by repeat (first | exact .here _ _ | apply Pull.there)) ?_
    refine H.imp (lore_fold (F := slc p R.length c 47 121 (R.flatMap MV.vals) :: F) ⟨P, C, po, co⟩ hi) ?_
    refine H.front (x := slc p _ c _ _ _) (by repeat (first | exact .here _ _ | apply Pull.there)) ?_
    refine H.ret1 rfl rfl (fun _ h => h) ⟨G, p, c, R, rfl, ?_, hRg, hdj, rfl, rfl⟩
    have e2 : (l.map MV.m).take l.length = l.map MV.m := List.take_of_length_le (by rw [List.length_map]; exact Nat.le_refl _)
    rw [e2] at hR
    unfold sinceM
    rw [← hR, List.take_of_length_le (by rw [List.length_map]; omega)]
end
end Go.Proofs.YtoigpgdmignaoaaGreatDoor

/- Layer 8, plain: a tag with one byte of it turned is not right. No program in sight. -/
namespace Go.Proofs.YtoigpgdmignaoaaGreatDoor
set_option linter.unusedSectionVars false
set_option linter.unusedSimpArgs false
set_option linter.unusedVariables false
open Go
/-- A tag with one byte of it turned. -/
def setT (t : Nat → UInt8) (k : Nat) (v : UInt8) : Nat → UInt8 := fun j => if j = k then v else t j
theorem b32_setT (t : Nat → UInt8) {k : Nat} (v : UInt8) (hk : k < 32) : SetV (b32 t) k (.int .u8 (v.toNat : Nat)) (b32 (setT t k v)) := by
  have e : b32 (setT t k v) = (b32 t).set k (.int .u8 (v.toNat : Nat)) := by
    apply List.ext_getElem?
    intro j
    rw [List.getElem?_set]
    by_cases hj : j < 32
    · rw [b32_get _ hj, b32_get _ hj]
      by_cases hkj : k = j
      · subst hkj
        rw [if_pos rfl, if_pos (show k < (b32 t).length from hk)]
        unfold setT
        rw [if_pos rfl]
      · rw [if_neg hkj]
        unfold setT
        rw [if_neg (fun h => hkj h.symm)]
    · rw [List.getElem?_eq_none (show 32 ≤ j by omega), if_neg (by omega), List.getElem?_eq_none (show 32 ≤ j by omega)]
  rw [e]
  exact SetV.mk _ hk
theorem msg_settag (m : Msg) (q : Option Addr) (qc : Nat) {k : Nat} (v : UInt8) (hk : k < 32) : SetV (m.vals q qc) (0 + 89 + k * 1) (.int .u8 (v.toNat : Nat)) (({ m with tag := setT m.tag k v } : Msg).vals q qc) := by
  have h := (b32_setT m.tag v hk).mid ([.int .i64 m.origin, .int .u64 m.number] ++ v11 m.deps ++ m.body.vals q qc) []
  rw [List.append_nil, List.append_nil] at h
  rw [Nat.mul_one]
  exact h
theorem xor_back (x v : UInt8) : x ^^^ v = x ↔ v = 0 := by
  constructor
  · intro h
    have h1 : x ^^^ (x ^^^ v) = x ^^^ x := by rw [h]
    rw [← UInt8.xor_assoc, UInt8.xor_self, UInt8.zero_xor] at h1
    exact h1
  · rintro rfl
    exact UInt8.xor_zero
theorem eq32_turn (t : Nat → UInt8) {k : Nat} (v : UInt8) (hk : k < 32) : eq32 (setT t k (t k ^^^ v)) t = decide (v = 0) := by
  rw [Bool.eq_iff_iff, decide_eq_true_eq]
  refine Iff.trans eq32_iff ?_
  constructor
  · intro h
    have h1 := b32_get (setT t k (t k ^^^ v)) hk
    rw [h, b32_get t hk] at h1
    have h2 := u8_inj (Option.some.inj h1)
    unfold setT at h2
    rw [if_pos rfl] at h2
    exact (xor_back _ _).1 h2.symm
  · rintro rfl
    have e : setT t k (t k ^^^ 0) = t := by
      funext j
      unfold setT
      split
      · rename_i h; rw [h]; exact UInt8.xor_zero
      · rfl
    rw [e]
theorem Msg.right_tag (m : Msg) (u : Nat → UInt8) : ({ m with tag := u } : Msg).right = (m.may && eq32 u (Sha.numbered m.origin m.number m.tagged)) := rfl
theorem Msg.turned_right {m : Msg} (hm : m.may = true) {k : Nat} (v : UInt8) (hk : k < 32) : ({ m.signed with tag := setT m.signed.tag k (m.signed.tag k ^^^ v) } : Msg).right = decide (v = 0) := by
  unfold Msg.signed
  rw [if_pos hm]
  show ({ m with tag := _ } : Msg).right = _
  rw [Msg.right_tag, hm, eq32_turn _ v hk]
  rfl
end Go.Proofs.YtoigpgdmignaoaaGreatDoor

/- Layer 8: the document's Signed of a request. No condition. -/
namespace Go.Proofs.YtoigpgdmignaoaaGreatDoor
set_option linter.unusedSectionVars false
set_option linter.unusedSimpArgs false
set_option linter.unusedVariables false
open Go
section
variable (f : Frag) (F : List HP)
theorem rclient_fn {i : Int} (h1 : 1 ≤ i) (h2 : i ≤ 8) : Fn Tryz.prog 97 [.int .i64 i] f F (BytesR (Sha.word32 clientW i) f F) := by
  refine Fn.enter Tryz.func97 rfl Tryz.ntmps97 rfl (L := [(0, _)]) ⟨rfl, trivial⟩ fun base => ?_
  repeat (first | ((first | apply H.move | apply H.assign); (iterate 3 exact rfl)) | (first | apply H.seq | apply H.region | apply H.nil | apply H.then_normal))
  refine H.callE2 rfl rfl rfl (rkey_fn (w := ⟨#[114, 97, 116, 99, 104, 101, 116, 32, 99, 108, 105, 101, 110, 116]⟩) f _ h1 h2 (by decide) (by decide)) fun p1 c1 => ?_
  repeat (first | ((apply H.assign); (iterate 3 exact rfl)) | (first | apply H.nil | apply H.then_normal) | (apply H.ret))
  exact H.ret1 rfl rfl (fun _ h => h) ⟨p1, c1, rfl, rfl, rfl⟩
set_option maxHeartbeats 800000 in
theorem rsigned_fn (r : Req) : Fn Tryz.prog 76 [.agg r.vals.toArray] f F (Ret (.agg r.signed.vals.toArray) f F) := by
  have has := fun G => rasked_fn f G r
  unfold Req.signed
  by_cases ha : r.asked
  · have hbl := Req.bytes_max ha
    have hcl := fun G => rclient_fn f G ha.1 ha.2.1
    have hrq := fun G p c => rrequest_fn f G (p := p) (c := c) (l := []) r ha (by decide)
    have hk : (Sha.word32 clientW r.client).length = 32 := rfl
    rw [if_pos ha]
    rw [decide_eq_true ha] at has
    unfold Req.sig
    generalize Sha.word32 clientW r.client = key at hk hcl ⊢
    rw [show ([] : List UInt8) ++ r.bytes = r.bytes from rfl] at hrq
    generalize r.bytes = rb at hbl hrq ⊢
    refine Fn.enter Tryz.func76 rfl Tryz.ntmps76 rfl (L := [(0, _)]) ⟨rfl, trivial⟩ fun base => ?_
    repeat ((first | apply H.seq | apply H.region))
    refine H.box (ls := r.vals) rfl rfl rfl rfl fun qb => ?_
    refine H.alloc (ls := Req.zero.vals) rfl rfl rfl fun ob => ?_
    repeat ((first | apply H.seq | apply H.region | apply H.nil | apply H.then_normal))
    refine H.loadN (ls := r.vals) rfl rfl rfl (Rd.ofRow (.there _ (.here _ _ _))) rfl rfl ?_
    refine H.callR rfl rfl rfl (has _) ?_
    repeat (first | (first | apply H.nil | apply H.then_normal) | (apply H.cond_true; exact rfl))
    refine H.front (.there _ (.here _ _)) ?_
    refine H.drawC [0, 1, 2, 3, 4, 5] (by kernel_rfl) (by decide +kernel) (by first | exact blind_fn | exact blind_seq blind_fn | exact blind_seq (blind_seq blind_fn) | (repeat (first | exact blind_fn | refine blind_seq ?_ | refine blind_block ?_ | refine blind_loop ?_))) (S := [_]) rfl ?_
    refine HB.quiet [(0, false), (1, false), (3, false)] 5 (by kernel_rfl) ?_
    repeat (first | (apply HQ.fieldAddr; (iterate 3 exact rfl); exact inferInstance; exact rfl) | (apply HQ.load1; (iterate 3 exact rfl); apply Rd1.ofRow; (repeat (exact .here _ _ _)); (iterate 2 exact rfl)))
    refine HQ.loadN (ls := r.vals) rfl rfl rfl (Rd.ofRow (.here _ _ _)) rfl rfl ?_
    refine HQ.more rfl ?_
    refine HB.ev1 (i := 2) (by kernel_rfl) rfl ?_
    refine H.callE2 rfl rfl rfl (hcl _) fun p1 c1 => ?_
    repeat ((apply H.nil))
    refine H.front (.there _ (.here _ _)) ?_
    refine H.on0 rfl ?_
    refine HB.ev1 (i := 4) (by kernel_rfl) rfl ?_
    refine H.slc0 5 1 ?_
    refine H.callE2 rfl rfl rfl (hrq _ none 0) fun p2 c2 => ?_
    repeat ((apply H.nil))
    refine H.front (x := row qb _ _) (by repeat (first | exact .here _ _ | apply Pull.there)) ?_
    refine H.on0 rfl ?_
    refine HB.ev1 (i := 5) (by kernel_rfl) rfl ?_
    refine H.callR rfl rfl rfl (hmac_fn f _ (key := key) (b := rb) (fun G => Src.append (Src.slcS (by repeat (first | exact .here _ _ _ | apply At.there)) (by rw [bytesV_len]; exact (Nat.mul_one _).symm))) (fun G => Src.append (Src.slcS (by repeat (first | exact .here _ _ _ | apply At.there)) (by rw [bytesV_len]; exact (Nat.mul_one _).symm))) (by omega) (by omega)) ?_
    generalize Sha.hmac key rb = t
    repeat ((apply H.nil))
    refine H.on0 rfl ?_
    refine HB.next [] (by kernel_rfl) (S' := []) rfl ?_
    refine HB.quiet [(6, false)] 1 (by kernel_rfl) ?_
    repeat ((apply HQ.fieldAddr; (iterate 3 exact rfl); exact inferInstance; exact rfl))
    refine HQ.more rfl ?_
    refine HB.ev1 (i := 7) (by kernel_rfl) rfl ?_
    refine H.storeN (ls := r.vals) (vs := b32 t) (ls' := ({ r with tag := t } : Req).vals) rfl rfl rfl (allOne_mem rfl) rfl (splice_rtag r t) (by show 0 + 8 + 32 ≤ 40; decide) (.here _ _ _) ?_
    repeat ((apply H.nil))
    refine H.on0 rfl ?_
    refine HB.done (by kernel_rfl) ?_
    repeat ((first | apply H.seq | apply H.region | apply H.then_normal))
    refine H.loadN (ls := ({ r with tag := t } : Req).vals) rfl rfl rfl (Rd.ofRow (.here _ _ _)) rfl rfl ?_
    refine H.storeN (ls := Req.zero.vals) (vs := ({ r with tag := t } : Req).vals) (ls' := ({ r with tag := t } : Req).vals) rfl rfl rfl (allOne_mem rfl) rfl rfl (Nat.le_refl 40) (by repeat (first | exact .here _ _ _ | apply At.there)) ?_
    repeat (first | (first | apply H.nil | apply H.then_normal) | (apply H.ret))
    refine H.drop (.here _ _) ?_
    refine H.drop (.here _ _) ?_
    refine H.drop (.here _ _) ?_
    exact H.retD rfl rfl rfl (Rd.ofRow (.here _ _ _)) rfl (fun _ s => s.drop (.here _ _)) ⟨rfl, rfl, rfl⟩
  · rw [if_neg ha]
    rw [decide_eq_false ha] at has
    refine Fn.enter Tryz.func76 rfl Tryz.ntmps76 rfl (L := [(0, _)]) ⟨rfl, trivial⟩ fun base => ?_
    repeat ((first | apply H.seq | apply H.region))
    refine H.box (ls := r.vals) rfl rfl rfl rfl fun qb => ?_
    refine H.alloc (ls := Req.zero.vals) rfl rfl rfl fun ob => ?_
    repeat ((first | apply H.seq | apply H.region | apply H.nil | apply H.then_normal))
    refine H.loadN (ls := r.vals) rfl rfl rfl (Rd.ofRow (.there _ (.here _ _ _))) rfl rfl ?_
    refine H.callR rfl rfl rfl (has _) ?_
    repeat (first | (first | apply H.seq | apply H.region | apply H.nil | apply H.then_normal) | (apply H.cond_false; exact rfl) | (apply H.skip))
    refine H.loadN (ls := r.vals) rfl rfl rfl (Rd.ofRow (.there _ (.here _ _ _))) rfl rfl ?_
    refine H.storeN (ls := Req.zero.vals) (vs := r.vals) (ls' := r.vals) rfl rfl rfl (allOne_mem rfl) rfl rfl (Nat.le_refl 40) (.here _ _ _) ?_
    repeat (first | (first | apply H.nil | apply H.then_normal) | (apply H.ret))
    refine H.drop (.there _ (.here _ _)) ?_
    exact H.retD rfl rfl rfl (Rd.ofRow (.here _ _ _)) rfl (fun _ s => s.drop (.here _ _)) ⟨rfl, rfl, rfl⟩
end
end Go.Proofs.YtoigpgdmignaoaaGreatDoor

/- Layer 12: the law's example. Condition: the table of the standard stands in the fragment. -/
namespace Go.Proofs.YtoigpgdmignaoaaGreatDoor
set_option linter.unusedSectionVars false
set_option linter.unusedSimpArgs false
set_option linter.unusedVariables false
open Go
theorem fits_signed (n : Nat) (m : Msg) : fitsB n m.signed = fitsB n m := by
  unfold fitsB
  rw [Msg.signed_may, m.signed_parts.1, m.signed_parts.2.2.1, m.signed_parts.2.2.2]
theorem chk_as {n : Nat} {S : Strm} {m : Msg} (h1 : fitsB n m = true) (h2 : m.right = true) {o k : Nat} {d : Nat → Int} {z : Int} (ho : orgI m = o) (hz : m.number = z) (hd : m.deps = d) (hk : (S o).length = k) :
    chk n S m = if z ≤ (k : Nat) then 13 else if z = ((k + 1 : Nat) : Int) ∧ 0 < k ∧ aboveB (lastD (S o)) d = true then 1 else if ((k + 1 : Nat) : Int) < z ∨ aboveB d (knownS S) = true then 12 else 0 := by
  unfold chk
  rw [if_neg (by rw [h1]; decide), if_neg (by rw [h2]; decide), ho, hz, hd, hk]
def bodC : Bod := { Bod.zero 3 with view := 1 }
def vec1 : Nat → Int
  | 0 => 1
  | _ + 1 => 0
def m1u : Msg := ⟨1, 1, fun _ => 0, bodC, noTag⟩
def m2u : Msg := ⟨2, 1, vec1, bodC, noTag⟩
theorem m1u_fits : fitsB 3 m1u = true := by decide +kernel
theorem m2u_fits : fitsB 3 m2u = true := by decide +kernel
theorem m1u_may : m1u.may = true := by decide +kernel
theorem m2u_may : m2u.may = true := by decide +kernel
structure Ex12 (m1 m2 mb : Msg) : Prop where
  a : chk 3 (strm []) m2 = 12
  b : chk 3 (strm []) mb = 11
  c : chk 3 (strm []) m1 = 0
  d : chk 3 (strm [m1]) m2 = 0
  g : chk 3 (strm [m1, m2]) m1 = 13
  l : (sinceM vec1 9 [m1, m2]).length = 1
theorem ex12 : Ex12 m1u.signed m2u.signed { m1u.signed with tag := setT m1u.signed.tag 0 (m1u.signed.tag 0 ^^^ 1) } := by
  have f1 : fitsB 3 m1u.signed = true := by rw [fits_signed]; exact m1u_fits
  have f2 : fitsB 3 m2u.signed = true := by rw [fits_signed]; exact m2u_fits
  have r1 := Msg.signed_isright m1u_may
  have r2 := Msg.signed_isright m2u_may
  have rb := Msg.turned_right m1u_may (k := 0) 1 (by decide)
  obtain ⟨a1, a2, a3, _⟩ := m1u.signed_parts
  obtain ⟨b1, b2, b3, _⟩ := m2u.signed_parts
  have fb : fitsB 3 ({ m1u.signed with tag := setT m1u.signed.tag 0 (m1u.signed.tag 0 ^^^ 1) } : Msg) = true := f1
  generalize ({ m1u.signed with tag := setT m1u.signed.tag 0 (m1u.signed.tag 0 ^^^ 1) } : Msg) = mb at *
  generalize m1u.signed = m1 at *
  generalize m2u.signed = m2 at *
  have o1 : orgI m1 = 0 := by unfold orgI; rw [a1]; rfl
  have o2 : orgI m2 = 1 := by unfold orgI; rw [b1]; rfl
  have n1 : m1.number = 1 := a2
  have n2 : m2.number = 1 := b2
  have s1 : ∀ i, strm [m1] i = if i = 0 then [m1] else [] := fun i => by
    unfold strm
    rw [List.filter_cons, o1, List.filter_nil]
    by_cases h : i = 0
    · subst h; rfl
    · rw [if_neg h, if_neg (by rw [decide_eq_false (fun e => h e.symm)]; decide)]
  have s2 : ∀ i, (strm [m1, m2] i).length = if i = 0 then 1 else if i = 1 then 1 else 0 := fun i => by
    unfold strm
    rw [List.filter_cons, List.filter_cons, o1, o2, List.filter_nil]
    by_cases h : i = 0
    · subst h; rfl
    · rw [if_neg h, if_neg (by rw [decide_eq_false (fun e => h e.symm)]; decide)]
      by_cases h1 : i = 1
      · subst h1; rfl
      · rw [if_neg h1, if_neg (by rw [decide_eq_false (fun e => h1 e.symm)]; decide)]; rfl
  refine ⟨?_, ?_, ?_, ?_, ?_, ?_⟩
  · rw [chk_as f2 r2 o2 n2 b3 (k := 0) rfl]
    rw [if_neg (by decide), if_neg (by rintro ⟨_, h, _⟩; cases h), if_pos (.inr (by decide))]
  · unfold chk
    rw [if_neg (by rw [fb]; decide), if_pos (by rw [rb]; decide)]
  · rw [chk_as f1 r1 o1 n1 a3 (k := 0) rfl]
    rw [if_neg (by decide), if_neg (by rintro ⟨_, h, _⟩; cases h), if_neg (by decide)]
  · rw [chk_as f2 r2 o2 n2 b3 (k := 0) (by rw [s1]; rfl)]
    have hk : aboveB m2u.deps (knownS (strm [m1])) = false := by
      refine aboveB_false.2 fun i hi => ?_
      show vec1 i ≤ (((strm [m1] i).length : Nat) : Int)
      rw [s1]
      match i with
      | 0 => exact Int.le_refl 1
      | i + 1 => exact Int.le_refl 0
    rw [if_neg (by decide), if_neg (by rintro ⟨_, h, _⟩; cases h), if_neg (by rw [hk]; decide)]
  · rw [chk_as f1 r1 o1 n1 a3 (k := 1) (by rw [s2]; rfl)]
    rw [if_pos (by decide)]
  · unfold sinceM unk
    rw [List.filter_cons, List.filter_cons, o1, o2, n1, n2, List.filter_nil]
    rfl
theorem bodC_ok : bodC.Ok := ⟨⟨by decide, by decide⟩, ⟨by decide, by decide⟩, reqz_ok⟩
theorem good_signed {m : Msg} {q : Option Addr} {c : Nat} {f : Frag} (h : (⟨m, q, c⟩ : MV).Good f) : (⟨m.signed, q, c⟩ : MV).Good f := by
  obtain ⟨h1, h2, h3⟩ := h
  refine ⟨?_, ?_, ?_⟩
  · show QAt f q m.signed.body.q; rw [m.signed_parts.2.2.2]; exact h1
  · show m.signed.body.q.length ≤ _; rw [m.signed_parts.2.2.2]; exact h2
  · show m.signed.body.Ok; rw [m.signed_parts.2.2.2]; exact h3
theorem H.weakL {P : Program} {base : World} {n : Nat} {L : Env} {f g : Frag} {A : List HP} {K : Kont} (h : Le f g) (k : H P base n L f A K) : H P base n L g A K := .mk fun a w hf s => k.out a w hf (s.weak h)
theorem tab_mono {f g : Frag} (t : TabAt f) (h : Le f g) : TabAt g := IntsAt.mono h t
section
variable (f : Frag) (F : List HP)
set_option maxHeartbeats 3200000 in
set_option maxRecDepth 20000 in
theorem works12_fn (htab : TabAt f) : Fn Tryz.prog 16 [] f F (Ret (.bool true) f F) := by
  have hex := ex12
  have gb : ∀ f, (⟨m1u.signed, none, 0⟩ : MV).Good f := fun f => good_signed ⟨QAt.nil f none, Nat.zero_le _, bodC_ok⟩
  have g2 : ∀ f, (⟨m2u.signed, none, 0⟩ : MV).Good f := fun f => good_signed ⟨QAt.nil f none, Nat.zero_le _, bodC_ok⟩
  have g3 : ∀ f, (⟨{ m1u.signed with tag := setT m1u.signed.tag 0 (m1u.signed.tag 0 ^^^ 1) }, none, 0⟩ : MV).Good f := fun f => gb f
  have hset := msg_settag m1u.signed none 0 (k := 0) (m1u.signed.tag 0 ^^^ 1) (by decide)
  have t1 := fun f G => rtagged_fn f G (m := m1u) (q := none) (qc := 0) (QAt.nil _ none) (Nat.zero_le _)
  have t2 := fun f G => rtagged_fn f G (m := m2u) (q := none) (qc := 0) (QAt.nil _ none) (Nat.zero_le _)
  generalize ({ m1u.signed with tag := setT m1u.signed.tag 0 (m1u.signed.tag 0 ^^^ 1) } : Msg) = mb at *
  generalize m1u.signed = m1 at *
  generalize m2u.signed = m2 at *
  refine Fn.enter Tryz.func16 rfl Tryz.ntmps16 rfl (L := []) trivial fun base => ?_
  repeat (first | ((apply H.assign); (iterate 3 exact rfl)) | (first | apply H.seq | apply H.region | apply H.nil | apply H.then_normal))
  refine H.callE rfl rfl rfl (lnew_fn f F (n := 3) (by decide)) fun lb => ?_
  repeat (first | ((first | apply H.move | apply H.assign); (iterate 3 exact rfl)) | (first | apply H.seq | apply H.region | apply H.nil | apply H.then_normal) | ((apply H.extract); (iterate 4 exact rfl)))
  refine H.callR rfl rfl rfl (lnew_no f _ (z := 2) (by decide)) ?_
  repeat (first | (refine H.build (t := 45) (out := bodC.vals none 0) rfl rfl rfl (by kernel_rfl) rfl ?_) | (refine H.build (t := 47) (out := m1u.vals none 0) rfl rfl rfl (by kernel_rfl) rfl ?_) | ((first | apply H.move | apply H.assign); (iterate 3 exact rfl)) | (first | apply H.seq | apply H.region | apply H.nil | apply H.then_normal) | ((apply H.cmp); (iterate 5 exact rfl)) | ((first | apply H.pickF | apply H.extract); (iterate 4 exact rfl)) | ((apply H.ptrNil); (iterate 5 exact rfl)) | (apply H.cond_false; exact rfl) | (apply H.skip))
  refine H.callR rfl rfl rfl (t1 f _) ?_
  refine H.alloc (ls := msgZ.vals none 0) rfl rfl rfl fun ob => ?_
  refine H.storeN (ls := msgZ.vals none 0) (vs := m1.vals none 0) (ls' := m1.vals none 0) rfl rfl rfl (allOne_mem rfl) rfl rfl (Nat.le_refl 121) (.here _ _ _) ?_
  repeat (first | (refine H.buildA (t := 37) (out := v11 vec1) rfl rfl rfl (by kernel_rfl) rfl ?_) | (refine H.build (t := 45) (out := bodC.vals none 0) rfl rfl rfl (by kernel_rfl) rfl ?_) | (refine H.build (t := 47) (out := m2u.vals none 0) rfl rfl rfl (by kernel_rfl) rfl ?_) | (first | apply H.seq | apply H.region | apply H.nil | apply H.then_normal))
  refine H.callR rfl rfl rfl (t2 f _) ?_
  refine H.alloc (ls := msgZ.vals none 0) rfl rfl rfl fun o2 => ?_
  refine H.storeN (ls := msgZ.vals none 0) (vs := m2.vals none 0) (ls' := m2.vals none 0) rfl rfl rfl (allOne_mem rfl) rfl rfl (Nat.le_refl 121) (.here _ _ _) ?_
  repeat ((first | apply H.seq | apply H.region | apply H.nil | apply H.then_normal))
  refine H.loadN (ls := m1.vals none 0) rfl rfl rfl (Rd.ofRow (.there _ (.here _ _ _))) rfl rfl ?_
  refine H.alloc (ls := msgZ.vals none 0) rfl rfl rfl fun o3 => ?_
  refine H.storeN (ls := msgZ.vals none 0) (vs := m1.vals none 0) (ls' := m1.vals none 0) rfl rfl rfl (allOne_mem rfl) rfl rfl (Nat.le_refl 121) (.here _ _ _) ?_
  repeat (first | (apply H.fieldAddr; (iterate 3 exact rfl); exact inferInstance; exact rfl) | (first | apply H.seq | apply H.region | apply H.nil | apply H.then_normal))
  refine H.index_array (i := 0) rfl rfl rfl rfl (by decide) rfl ?_
  refine H.load1 rfl rfl rfl (Rd1.of (msg_tag (m := m1) (q := none) (qc := 0) (.here _ _ _)) (b32_get m1.tag (i := 0) (by decide))) rfl ?_
  refine H.bits (op := .xor) rfl rfl rfl (u8_xor (m1.tag 0) 1) rfl rfl ?_
  repeat ((apply H.fieldAddr; (iterate 3 exact rfl); exact inferInstance; exact rfl))
  refine H.index_array (i := 0) rfl rfl rfl rfl (by decide) rfl ?_
  refine H.store1 (ls := m1.vals none 0) (ls' := mb.vals none 0) rfl rfl rfl rfl (.here _ _ _) hset ?_
  repeat (first | ((apply H.move); (iterate 3 exact rfl)) | (first | apply H.seq | apply H.region | apply H.nil | apply H.then_normal))
  refine H.loadN (ls := m2.vals none 0) rfl rfl rfl (Rd.ofRow (.there _ (.here _ _ _))) rfl rfl ?_
  refine H.front (x := loreH _ _ _ _) (by repeat (first | exact .here _ _ | apply Pull.there)) ?_
  refine H.call (R := AddP f _ lb 3 [] m2) rfl rfl rfl (ladd_fn f _ htab (Le.refl f) (x := ⟨m2, none, 0⟩) (g2 f) (by decide)) fun v f' A' hr => ?_
  obtain ⟨g1, q1, c1, rfl, hd1, rfl, rfl⟩ := hr
  rw [show chk 3 (strm (([] : List MV).map MV.m)) m2 = 12 from hex.a, if_neg (by decide)]
  have le1 := Le.un f g1
  generalize un f g1 = f1 at le1 ⊢
  have hck : ∀ G, Fn Tryz.prog 23 [.pointer (some ⟨lb, 0, none⟩), .agg (mb.vals none 0).toArray] f1 (loreH f1 lb 3 [] :: G) (Ret (.int .i64 11) f1 (loreH f1 lb 3 [] :: G)) := fun G => by
    have h := lcheck_fn f1 G (tab_mono htab le1) (fl := f1) (lb := lb) (n := 3) (l := []) (x := ⟨mb, none, 0⟩) (g3 f1)
    rw [show chk 3 (strm (([] : List MV).map MV.m)) (⟨mb, none, 0⟩ : MV).m = 11 from hex.b] at h
    exact h
  repeat (first | ((first | apply H.move | apply H.assign); (iterate 3 exact rfl)) | (first | apply H.seq | apply H.region | apply H.nil | apply H.then_normal))
  refine H.loadN (ls := mb.vals none 0) rfl rfl rfl (Rd.ofRow (.there _ (.here _ _ _))) rfl rfl ?_
  refine H.callR rfl rfl rfl (hck _) ?_
  clear hck
  repeat (first | ((first | apply H.move | apply H.assign); (iterate 3 exact rfl)) | (first | apply H.seq | apply H.region | apply H.nil | apply H.then_normal))
  refine H.loadN (ls := m1.vals none 0) rfl rfl rfl (Rd.ofRow (.there _ (.there _ (.there _ (.here _ _ _))))) rfl rfl ?_
  refine H.call (R := AddP f1 _ lb 3 [] m1) rfl rfl rfl (ladd_fn f1 _ (tab_mono htab le1) (Le.refl f1) (x := ⟨m1, none, 0⟩) (gb f1) (by decide)) fun v f' A' hr => ?_
  obtain ⟨g2', q2, c2, rfl, hd2, rfl, rfl⟩ := hr
  rw [show chk 3 (strm (([] : List MV).map MV.m)) m1 = 0 from hex.c, if_pos rfl]
  have le2 := le1.trans (Le.un f1 g2')
  generalize un f1 g2' = f2 at le2 ⊢
  repeat (first | ((first | apply H.move | apply H.assign); (iterate 3 exact rfl)) | (first | apply H.seq | apply H.region | apply H.nil | apply H.then_normal))
  refine H.loadN (ls := m2.vals none 0) rfl rfl rfl (Rd.ofRow (.there _ (.there _ (.here _ _ _)))) rfl rfl ?_
  refine H.call (R := AddP f2 _ lb 3 [⟨m1, q2, c2⟩] m2) rfl rfl rfl (ladd_fn f2 _ (tab_mono htab le2) (Le.refl f2) (x := ⟨m2, none, 0⟩) (g2 f2) (show 1 < 100000 by decide)) fun v f' A' hr => ?_
  obtain ⟨g3', q3, c3, rfl, hd3, rfl, rfl⟩ := hr
  rw [show chk 3 (strm (([⟨m1, q2, c2⟩] : List MV).map MV.m)) m2 = 0 from hex.d, if_pos rfl]
  have le3 := le2.trans (Le.un f2 g3')
  generalize un f2 g3' = f3 at le3 ⊢
  repeat (first | ((first | apply H.move | apply H.assign); (iterate 3 exact rfl)) | (first | apply H.seq | apply H.region | apply H.nil | apply H.then_normal))
  refine H.loadN (ls := m1.vals none 0) rfl rfl rfl (Rd.ofRow (.there _ (.there _ (.there _ (.here _ _ _))))) rfl rfl ?_
  refine H.call (R := AddP f3 _ lb 3 [⟨m1, q2, c2⟩, ⟨m2, q3, c3⟩] m1) rfl rfl rfl (ladd_fn f3 _ (tab_mono htab le3) (Le.refl f3) (l := [⟨m1, q2, c2⟩, ⟨m2, q3, c3⟩]) (x := ⟨m1, none, 0⟩) (gb f3) (show 2 < 100000 by decide)) fun v f' A' hr => ?_
  obtain ⟨g4', q4, c4, rfl, hd4, rfl, rfl⟩ := hr
  rw [show chk 3 (strm (([⟨m1, q2, c2⟩, ⟨m2, q3, c3⟩] : List MV).map MV.m)) m1 = 13 from hex.g, if_neg (by decide)]
  have le4 := le3.trans (Le.un f3 g4')
  generalize un f3 g4' = f4 at le4 ⊢
  repeat (first | ((first | apply H.move | apply H.assign); (iterate 3 exact rfl)) | (first | apply H.seq | apply H.region | apply H.nil | apply H.then_normal) | ((apply H.cmp); (iterate 5 exact rfl)) | (apply H.pickT; (iterate 4 exact rfl)) | (apply H.gyes; (iterate 3 exact rfl); (omega)))
  refine H.callR rfl rfl rfl (llen_fn f4 _) ?_
  repeat (first | (refine H.buildA (t := 37) (out := v11 vec1) rfl rfl rfl (by kernel_rfl) rfl ?_) | ((apply H.move); (iterate 3 exact rfl)) | ((apply H.cmp); (iterate 5 exact rfl)) | (apply H.pickT; (iterate 4 exact rfl)))
  refine H.call (R := SinceP f4 _ (sinceM vec1 9 [m1, m2])) rfl rfl rfl (lsince_fn f4 _ (Le.refl f4) (v := vec1) (most := 9)) fun v f' A' hr => ?_
  obtain ⟨g5, p5, c5, R5, rfl, hR5, _, hd5, rfl, rfl⟩ := hr
  have hl5 : R5.length = 1 := by
    have := congrArg List.length hR5
    rw [List.length_map, hex.l] at this
    exact this
  rw [hl5]
  have le5 := le4.trans (Le.un f4 g5)
  generalize un f4 g5 = f5 at le5 ⊢
  repeat (first | ((first | apply H.assign | apply H.len_slice); (iterate 3 exact rfl)) | (first | apply H.nil | apply H.then_normal) | ((apply H.cmp); (iterate 5 exact rfl)) | (apply H.pickT; (iterate 4 exact rfl)) | (apply H.ret))
  refine H.weakL le5 ?_
  iterate 5 refine H.drop (.here _ _) ?_
  exact H.ret1 rfl rfl (fun _ h => h) ⟨rfl, rfl, rfl⟩
end
end Go.Proofs.YtoigpgdmignaoaaGreatDoor

/- Layer 12: LoreNil. Condition: the table of the standard stands in the fragment. -/
namespace Go.Proofs.YtoigpgdmignaoaaGreatDoor
set_option linter.unusedSectionVars false
set_option linter.unusedSimpArgs false
set_option linter.unusedVariables false
open Go
def fewM (l : List MV) : Bool := decide (l.length ≤ 30) && l.all fun x => decide (x.m.body.q.length ≤ 20)
theorem row_listAt {f g : Frag} {eb : Nat} {T : TypeId} {x : MV} (h : row eb T x.vals g) (hd : Dj f g) : ListAt (un f g) (some ⟨eb, 0, none⟩) 121 MV.vals [x] := fun i y hy => by
  have hg : g = sing eb (.cells x.vals.toArray T (0, 0)) := h
  match i with
  | 0 =>
    simp at hy
    subst hy
    refine ⟨eb, 0, x.vals.toArray, T, (0, 0), rfl, Le.right hd _ _ (by rw [hg]; simp [sing]), fun j hj => ?_⟩
    rw [show 0 + 0 * 121 + j = j by omega, List.getElem?_toArray]
  | i + 1 => simp at hy
section
variable (f : Frag) (F : List HP)
theorem few12m_fn {p : Option Addr} {c : Nat} {l : List MV} (hat : ListAt f p 121 MV.vals l) (hl : l.length ≤ 9223372036854775807) : Fn Tryz.prog 25 [.slice p l.length c] f F (Ret (.bool (fewM l)) f F) := by
  by_cases h30 : l.length ≤ 30
  · refine Fn.enter Tryz.func25 rfl Tryz.ntmps25 rfl (L := [(0, _)]) ⟨rfl, trivial⟩ fun base => ?_
    repeat (first | ((first | apply H.move | apply H.assign | apply H.len_slice); (iterate 3 exact rfl)) | (first | apply H.seq | apply H.region | apply H.nil | apply H.then_normal) | ((apply H.cmp); (iterate 5 exact rfl)) | (first | apply H.skip | apply H.block) | (apply H.cond_no; exact rfl; (omega)))
    refine H.loop (ι := Nat) (fun i => [(3, .int .i64 (i : Int)), (0, .slice p l.length c)]) (fun _ => f) (fun _ => F) (fun i => i ≤ l.length ∧ ∀ j x, j < i → l[j]? = some x → x.m.body.q.length ≤ 20) (fun i => l.length - i) 0 ⟨Nat.zero_le _, fun j x hj => by omega⟩ ⟨rfl, rfl, trivial⟩ rfl rfl fun i hi => ?_
    obtain ⟨hi, hb⟩ : i ≤ l.length ∧ ∀ j x, j < i → l[j]? = some x → x.m.body.q.length ≤ 20 := hi
    by_cases hlt : i < l.length
    · have hx : l[i]? = some l[i] := List.getElem?_eq_getElem hlt
      generalize l[i] = x at hx
      obtain ⟨b, off, cs, T, fr, rfl, hfb, hcs⟩ := hat i x hx
      have rd : ∀ A, Rd f A b (off + i * 121) x.vals := fun A => Rd.imm hfb hcs
      by_cases hq : x.m.body.q.length ≤ 20
      · repeat (first | ((first | apply H.move | apply H.assign | apply H.nilCheck | apply H.len_slice | apply H.len_string | apply H.cap_slice); (iterate 3 exact rfl)) | (apply H.fieldAddr; (iterate 3 exact rfl); exact inferInstance; exact rfl) | (apply H.load1; (iterate 3 exact rfl); apply Rd1.ofRow; (repeat (first | exact .here _ _ _ | apply At.there)); (iterate 2 exact rfl)) | (first | apply H.seq | apply H.region | apply H.nil | apply H.then_normal) | ((first | apply H.cmp | apply H.build); (iterate 5 exact rfl)) | ((first | (apply H.ar; (iterate 4 exact rfl)) | (apply H.conv_int; (iterate 2 exact rfl))); (first | (with_reducible apply wr_i64_s1; omega) | (with_reducible apply wr_i64_n1; omega) | (with_reducible apply wr_i64_nn; omega) | (with_reducible apply wr_i64; omega) | (with_reducible apply wr_u64; omega) | (with_reducible apply wr_u8; omega) | (with_reducible apply wr_u16; omega) | rfl); exact rfl) | (apply H.pass; (iterate 2 exact rfl)) | (apply H.pass0; exact rfl) | (apply H.pickT; (iterate 4 exact rfl)) | ((first | apply H.pickF | apply H.extract | apply H.not | apply H.makeFunc); (iterate 4 exact rfl)) | ((first | apply H.ptrNil | apply H.sliceNil); (iterate 5 exact rfl)) | (apply H.store1; (iterate 4 exact rfl); (repeat (first | exact .here _ _ _ | apply At.there)); (repeat (first | exact .here _ _ _ | apply SetV.there))) | (apply H.cond_true; exact rfl) | (apply H.cond_false; exact rfl) | (first | apply H.skip | apply H.ret | apply H.then_ret | apply H.then_exit | apply H.exit | apply H.block | apply H.in_normal | apply H.in_ret | apply H.in_hit | apply H.loop_ret | apply H.loop_exit) | (apply H.in_miss; exact rfl) | (apply H.gyes; (iterate 3 exact rfl); (first | assumption | omega)) | (apply H.gno; (iterate 3 exact rfl); (first | assumption | omega)) | (apply H.cond_yes; exact rfl; (first | assumption | omega)) | (apply H.cond_no; exact rfl; (first | assumption | omega)) | ((first | apply H.gtrue); (iterate 3 exact rfl); assumption) | (apply H.gfalse; (iterate 3 exact rfl); assumption) | (apply H.cond_t; exact rfl; assumption) | (apply H.cond_f; exact rfl; assumption))
        refine H.index_slice rfl rfl rfl rfl hlt rfl ?_
        repeat ((apply H.fieldAddr; (iterate 3 exact rfl); exact inferInstance; exact rfl))
        refine H.load1 rfl rfl rfl (Rd1.of (i := 56) (rd _) rfl) rfl ?_
        repeat (first | ((first | apply H.move | apply H.assign | apply H.len_slice); (iterate 3 exact rfl)) | (first | apply H.region | apply H.nil | apply H.then_normal) | ((apply H.cmp); (iterate 5 exact rfl)) | ((apply H.ar; (iterate 4 exact rfl)); (with_reducible apply wr_i64_n1; omega); exact rfl) | (first | apply H.skip | apply H.in_normal) | (apply H.cond_no; exact rfl; (omega)))
        refine H.again (i + 1) ⟨by show i + 1 ≤ l.length; omega, fun j y hj hy => ?_⟩ (by show l.length - (i + 1) < l.length - i; omega) ⟨rfl, rfl, trivial⟩ rfl rfl
        by_cases e : j = i
        · subst e; rw [hx] at hy; cases hy; exact hq
        · exact hb j y (by omega) hy
      · repeat (first | ((first | apply H.move | apply H.assign | apply H.nilCheck | apply H.len_slice | apply H.len_string | apply H.cap_slice); (iterate 3 exact rfl)) | (apply H.fieldAddr; (iterate 3 exact rfl); exact inferInstance; exact rfl) | (apply H.load1; (iterate 3 exact rfl); apply Rd1.ofRow; (repeat (first | exact .here _ _ _ | apply At.there)); (iterate 2 exact rfl)) | (first | apply H.seq | apply H.region | apply H.nil | apply H.then_normal) | ((first | apply H.cmp | apply H.build); (iterate 5 exact rfl)) | ((first | (apply H.ar; (iterate 4 exact rfl)) | (apply H.conv_int; (iterate 2 exact rfl))); (first | (with_reducible apply wr_i64_s1; omega) | (with_reducible apply wr_i64_n1; omega) | (with_reducible apply wr_i64_nn; omega) | (with_reducible apply wr_i64; omega) | (with_reducible apply wr_u64; omega) | (with_reducible apply wr_u8; omega) | (with_reducible apply wr_u16; omega) | rfl); exact rfl) | (apply H.pass; (iterate 2 exact rfl)) | (apply H.pass0; exact rfl) | (apply H.pickT; (iterate 4 exact rfl)) | ((first | apply H.pickF | apply H.extract | apply H.not | apply H.makeFunc); (iterate 4 exact rfl)) | ((first | apply H.ptrNil | apply H.sliceNil); (iterate 5 exact rfl)) | (apply H.store1; (iterate 4 exact rfl); (repeat (first | exact .here _ _ _ | apply At.there)); (repeat (first | exact .here _ _ _ | apply SetV.there))) | (apply H.cond_true; exact rfl) | (apply H.cond_false; exact rfl) | (first | apply H.skip | apply H.ret | apply H.then_ret | apply H.then_exit | apply H.exit | apply H.block | apply H.in_normal | apply H.in_ret | apply H.in_hit | apply H.loop_ret | apply H.loop_exit) | (apply H.in_miss; exact rfl) | (apply H.gyes; (iterate 3 exact rfl); (first | assumption | omega)) | (apply H.gno; (iterate 3 exact rfl); (first | assumption | omega)) | (apply H.cond_yes; exact rfl; (first | assumption | omega)) | (apply H.cond_no; exact rfl; (first | assumption | omega)) | ((first | apply H.gtrue); (iterate 3 exact rfl); assumption) | (apply H.gfalse; (iterate 3 exact rfl); assumption) | (apply H.cond_t; exact rfl; assumption) | (apply H.cond_f; exact rfl; assumption))
        refine H.index_slice rfl rfl rfl rfl hlt rfl ?_
        repeat ((apply H.fieldAddr; (iterate 3 exact rfl); exact inferInstance; exact rfl))
        refine H.load1 rfl rfl rfl (Rd1.of (i := 56) (rd _) rfl) rfl ?_
        repeat (first | ((first | apply H.assign | apply H.len_slice); (iterate 3 exact rfl)) | (first | apply H.seq | apply H.region | apply H.nil | apply H.then_normal) | ((apply H.cmp); (iterate 5 exact rfl)) | (first | apply H.ret | apply H.then_ret | apply H.in_ret | apply H.loop_ret) | (apply H.cond_yes; exact rfl; (omega)))
        refine H.ret1 rfl rfl (fun _ h => h) ⟨?_, rfl, rfl⟩
        have : fewM l = false := by
          unfold fewM
          rw [Bool.and_eq_false_iff]
          refine .inr (List.all_eq_false.2 ⟨x, List.mem_of_getElem? hx, by rw [decide_eq_false hq]; decide⟩)
        rw [this]
    · repeat (first | ((first | apply H.move | apply H.assign | apply H.nilCheck | apply H.len_slice | apply H.len_string | apply H.cap_slice); (iterate 3 exact rfl)) | (apply H.fieldAddr; (iterate 3 exact rfl); exact inferInstance; exact rfl) | (apply H.load1; (iterate 3 exact rfl); apply Rd1.ofRow; (repeat (first | exact .here _ _ _ | apply At.there)); (iterate 2 exact rfl)) | (first | apply H.seq | apply H.region | apply H.nil | apply H.then_normal) | ((first | apply H.cmp | apply H.build); (iterate 5 exact rfl)) | ((first | (apply H.ar; (iterate 4 exact rfl)) | (apply H.conv_int; (iterate 2 exact rfl))); (first | (with_reducible apply wr_i64_s1; omega) | (with_reducible apply wr_i64_n1; omega) | (with_reducible apply wr_i64_nn; omega) | (with_reducible apply wr_i64; omega) | (with_reducible apply wr_u64; omega) | (with_reducible apply wr_u8; omega) | (with_reducible apply wr_u16; omega) | rfl); exact rfl) | (apply H.pass; (iterate 2 exact rfl)) | (apply H.pass0; exact rfl) | (apply H.pickT; (iterate 4 exact rfl)) | ((first | apply H.pickF | apply H.extract | apply H.not | apply H.makeFunc); (iterate 4 exact rfl)) | ((first | apply H.ptrNil | apply H.sliceNil); (iterate 5 exact rfl)) | (apply H.store1; (iterate 4 exact rfl); (repeat (first | exact .here _ _ _ | apply At.there)); (repeat (first | exact .here _ _ _ | apply SetV.there))) | (apply H.cond_true; exact rfl) | (apply H.cond_false; exact rfl) | (first | apply H.skip | apply H.ret | apply H.then_ret | apply H.then_exit | apply H.exit | apply H.block | apply H.in_normal | apply H.in_ret | apply H.in_hit | apply H.loop_ret | apply H.loop_exit) | (apply H.in_miss; exact rfl) | (apply H.gyes; (iterate 3 exact rfl); (first | assumption | omega)) | (apply H.gno; (iterate 3 exact rfl); (first | assumption | omega)) | (apply H.cond_yes; exact rfl; (first | assumption | omega)) | (apply H.cond_no; exact rfl; (first | assumption | omega)) | ((first | apply H.gtrue); (iterate 3 exact rfl); assumption) | (apply H.gfalse; (iterate 3 exact rfl); assumption) | (apply H.cond_t; exact rfl; assumption) | (apply H.cond_f; exact rfl; assumption))
      refine H.ret1 rfl rfl (fun _ h => h) ⟨?_, rfl, rfl⟩
      have : fewM l = true := by
        unfold fewM
        rw [decide_eq_true h30, Bool.true_and, List.all_eq_true]
        intro x hx
        obtain ⟨j, hj⟩ := List.getElem?_of_mem hx
        have hjl : j < l.length := by
          rcases Nat.lt_or_ge j l.length with h1 | h1
          · exact h1
          · rw [List.getElem?_eq_none h1] at hj; cases hj
        exact decide_eq_true (hb j x (by omega) hj)
      rw [this]
  · refine Fn.enter Tryz.func25 rfl Tryz.ntmps25 rfl (L := [(0, _)]) ⟨rfl, trivial⟩ fun base => ?_
    repeat (first | ((first | apply H.move | apply H.assign | apply H.len_slice); (iterate 3 exact rfl)) | (first | apply H.seq | apply H.region | apply H.nil | apply H.then_normal) | ((apply H.cmp); (iterate 5 exact rfl)) | (first | apply H.ret | apply H.then_ret) | (apply H.cond_yes; exact rfl; (omega)))
    refine H.ret1 rfl rfl (fun _ h => h) ⟨?_, rfl, rfl⟩
    have : fewM l = false := by unfold fewM; rw [decide_eq_false h30]; rfl
    rw [this]
set_option maxRecDepth 20000 in
set_option maxHeartbeats 1600000 in
theorem loreNil_fn (htab : TabAt f) {x : MV} : Fn Tryz.prog 6 [.agg x.vals.toArray] f F (Ret (.bool true) f F) := by
  cases hfm : fewM [x] with
  | false =>
    refine Fn.enter Tryz.func6 rfl Tryz.ntmps6 rfl (L := [(0, _)]) ⟨rfl, trivial⟩ fun base => ?_
    repeat ((first | apply H.seq | apply H.region))
    refine H.box (ls := x.vals) rfl rfl rfl rfl fun mb => ?_
    repeat (first | ((apply H.assign); (iterate 3 exact rfl)) | (first | apply H.seq | apply H.region | apply H.nil | apply H.then_normal))
    refine H.loadN (ls := x.vals) rfl rfl rfl (Rd.ofRow (.here _ _ _)) rfl rfl ?_
    refine H.buildSlice (out := x.vals) rfl rfl rfl rfl (by decide) (by decide) rfl rfl fun eb => ?_
    skip
    refine H.freeze (.here _ _) fun g hg hd => ?_
    have hfew := few12m_fn (un f g) (row mb 47 x.vals :: F) (c := 1) (row_listAt hg hd) (by show 1 ≤ _; decide)
    rw [hfm] at hfew
    refine H.callR rfl rfl rfl hfew ?_
    refine H.weakL (Le.un f g) ?_
    clear hfew
    refine H.not (b := _) (c := _) rfl rfl rfl rfl ?_
    repeat (first | (first | apply H.seq | apply H.region | apply H.nil | apply H.then_normal) | (apply H.cond_true; exact rfl))
    refine H.callR rfl rfl rfl (works12_fn f _ htab) ?_
    repeat (first | ((apply H.assign); (iterate 3 exact rfl)) | (first | apply H.nil | apply H.then_normal) | (first | apply H.ret | apply H.then_ret))
    refine H.drop (x := row mb _ _) (by repeat (first | exact .here _ _ | apply Pull.there)) ?_
    exact H.ret1 rfl rfl (fun _ h => h) ⟨rfl, rfl, rfl⟩
  | true =>
    refine Fn.enter Tryz.func6 rfl Tryz.ntmps6 rfl (L := [(0, _)]) ⟨rfl, trivial⟩ fun base => ?_
    repeat ((first | apply H.seq | apply H.region))
    refine H.box (ls := x.vals) rfl rfl rfl rfl fun mb => ?_
    repeat (first | ((apply H.assign); (iterate 3 exact rfl)) | (first | apply H.seq | apply H.region | apply H.nil | apply H.then_normal))
    refine H.loadN (ls := x.vals) rfl rfl rfl (Rd.ofRow (.here _ _ _)) rfl rfl ?_
    refine H.buildSlice (out := x.vals) rfl rfl rfl rfl (by decide) (by decide) rfl rfl fun eb => ?_
    skip
    refine H.freeze (.here _ _) fun g hg hd => ?_
    have hfew := few12m_fn (un f g) (row mb 47 x.vals :: F) (c := 1) (row_listAt hg hd) (by show 1 ≤ _; decide)
    rw [hfm] at hfew
    refine H.callR rfl rfl rfl hfew ?_
    refine H.weakL (Le.un f g) ?_
    clear hfew
    refine H.not (b := _) (c := _) rfl rfl rfl rfl ?_
    repeat (first | ((first | apply H.move | apply H.assign); (iterate 3 exact rfl)) | (apply H.fieldAddr; (iterate 3 exact rfl); exact inferInstance; exact rfl) | (apply H.load1; (iterate 3 exact rfl); apply Rd1.ofRow; (repeat (exact .here _ _ _)); (iterate 2 exact rfl)) | (first | apply H.seq | apply H.region | apply H.nil | apply H.then_normal) | (apply H.cond_false; exact rfl) | (apply H.skip))
    refine H.callR rfl rfl rfl (lget_nil f _ _ _) ?_
    repeat (first | ((apply H.move); (iterate 3 exact rfl)) | ((apply H.extract); (iterate 4 exact rfl)))
    refine H.alloc (ls := msgZ.vals none 0) rfl rfl rfl fun ob => ?_
    refine H.storeN (ls := msgZ.vals none 0) (vs := msgZ.vals none 0) (ls' := msgZ.vals none 0) rfl rfl rfl (allOne_mem rfl) rfl rfl (Nat.le_refl 121) (.here _ _ _) ?_
    repeat (first | ((first | apply H.move | apply H.assign); (iterate 3 exact rfl)) | (first | apply H.seq | apply H.region | apply H.nil | apply H.then_normal))
    refine H.loadN (ls := x.vals) rfl rfl rfl (Rd.ofRow (.there _ (.here _ _ _))) rfl rfl ?_
    refine H.callR rfl rfl rfl (lcheck_nil f _ x) ?_
    repeat (first | ((apply H.move); (iterate 3 exact rfl)) | ((apply H.cmp); (iterate 5 exact rfl)) | (apply H.gyes; (iterate 3 exact rfl); (omega)))
    refine H.loadN (ls := x.vals) rfl rfl rfl (Rd.ofRow (.there _ (.here _ _ _))) rfl rfl ?_
    refine H.callR rfl rfl rfl (ladd_nil f _ x) ?_
    repeat (first | ((apply H.move); (iterate 3 exact rfl)) | ((apply H.cmp); (iterate 5 exact rfl)) | (apply H.pickT; (iterate 4 exact rfl)) | ((apply H.not); (iterate 4 exact rfl)))
    refine H.callR rfl rfl rfl (known_nil f _) ?_
    refine H.buildA (t := 37) (out := v11 fun _ => 0) rfl rfl rfl (by kernel_rfl) rfl ?_
    refine H.aggEq (xs := v11 fun _ => 0) (ys := v11 fun _ => 0) (D := 4) rfl rfl rfl rfl (by kernel_rfl) (by kernel_rfl) (by kernel_rfl) (by kernel_rfl) (by decide) (eqC_refl rfl) rfl ?_
    repeat (first | ((apply H.move); (iterate 3 exact rfl)) | (apply H.pickT; (iterate 4 exact rfl)))
    refine H.buildA (t := 37) (out := v11 fun _ => 0) rfl rfl rfl (by kernel_rfl) rfl ?_
    refine H.callR rfl rfl rfl (lsince_nil f _ (fun _ => 0) 5) ?_
    repeat (first | ((first | apply H.move | apply H.len_slice); (iterate 3 exact rfl)) | ((apply H.cmp); (iterate 5 exact rfl)) | (apply H.pickT; (iterate 4 exact rfl)) | (apply H.gyes; (iterate 3 exact rfl); (omega)))
    refine H.callR rfl rfl rfl (llen_nil f _) ?_
    repeat (first | ((apply H.move); (iterate 3 exact rfl)) | ((apply H.cmp); (iterate 5 exact rfl)) | (apply H.pickT; (iterate 4 exact rfl)) | (apply H.gyes; (iterate 3 exact rfl); (omega)))
    refine H.callR rfl rfl rfl (works12_fn f _ htab) ?_
    repeat (first | ((apply H.assign); (iterate 3 exact rfl)) | (first | apply H.nil | apply H.then_normal) | (apply H.pickT; (iterate 4 exact rfl)) | (apply H.ret))
    refine H.drop (.here _ _) ?_
    refine H.drop (.here _ _) ?_
    exact H.ret1 rfl rfl (fun _ h => h) ⟨rfl, rfl, rfl⟩
end
end Go.Proofs.YtoigpgdmignaoaaGreatDoor

/- Layer 12: the document's worlds: few acts; what an act says. No condition. -/
namespace Go.Proofs.YtoigpgdmignaoaaGreatDoor
set_option linter.unusedSectionVars false
set_option linter.unusedSimpArgs false
set_option linter.unusedVariables false
open Go
def bodS (v : Int) (p : Option Addr) (m c : Nat) : List Value := [.int .u8 4, .int .u64 v, .int .u64 0] ++ Req.zero.vals ++ [.slice p m c] ++ b32 noTag
theorem bodS_eq (v : Int) (q : List (Int × Int)) (p : Option Addr) (c : Nat) : ({ Bod.zero 4 with view := v, q := q } : Bod).vals p c = bodS v p q.length c := rfl
theorem bodS_set (v : Int) (p p' : Option Addr) (m m' c c' : Nat) : SetV (bodS v p m c) 43 (.slice p' m' c') (bodS v p' m' c') := by
  have e : bodS v p' m' c' = (bodS v p m c).set 43 (.slice p' m' c') := rfl
  rw [e]
  exact SetV.mk _ (show 43 < 76 by decide)
def bodV (k : UInt8) (v : Int) : Bod := ⟨k, v, 0, Req.zero, [], noTag⟩
theorem tmod_nat {a b r : Nat} (h : a % b = r) : ((a : Nat) : Int).tmod ((b : Nat) : Int) = (r : Nat) := by rw [← h, Int.ofNat_tmod]
/-- What body answers. -/
def BodP (f : Frag) (F : List HP) (b : Bod) : Value → Frag → List HP → Prop := fun v f' A' =>
  ∃ (g : Frag) (p : Option Addr) (c : Nat), v = .agg (b.vals p c).toArray ∧ QAt (un f g) p b.q ∧ Dj f g ∧ f' = un f g ∧ A' = F
theorem top_more {n r : Nat} {x : A12} (h1 : 1 ≤ r) (h : r < x.top n) : r + 1 ≤ n ∧ r + 1 ≤ x.q.length := by
  unfold A12.top at h
  split at h
  · omega
  · split at h <;> omega
theorem top_end {n r : Nat} {x : A12} (hn : 1 ≤ n) (h : r = x.top n) : ¬ (r + 1 ≤ n ∧ r + 1 ≤ x.q.length) := by
  unfold A12.top at h
  split at h
  · omega
  · split at h <;> omega
theorem qTo_next (x : A12) {r : Nat} (h1 : 1 ≤ r) : x.qTo (r + 1) = x.qTo r ++ [(((r + 1 : Nat) : Int), 1 + (((x.q.getD r 0).toNat % 8 : Nat) : Int))] := by
  obtain ⟨k, rfl⟩ : ∃ k, r = k + 1 := ⟨r - 1, by omega⟩
  rfl
section
variable (f : Frag) (F : List HP)
theorem few12_fn {p : Option Addr} {c : Nat} {l : List A12} (hat : ListAt f p 8 A12.vals l) (hl : l.length ≤ 9223372036854775807) : Fn Tryz.prog 15 [.slice p l.length c] f F (Ret (.bool (few12 l)) f F) := by
  by_cases h30 : l.length ≤ 100
  · refine Fn.enter Tryz.func15 rfl Tryz.ntmps15 rfl (L := [(0, _)]) ⟨rfl, trivial⟩ fun base => ?_
    repeat (first | ((first | apply H.move | apply H.assign | apply H.len_slice); (iterate 3 exact rfl)) | (first | apply H.seq | apply H.region | apply H.nil | apply H.then_normal) | ((apply H.cmp); (iterate 5 exact rfl)) | (first | apply H.skip | apply H.block) | (apply H.cond_no; exact rfl; (omega)))
    refine H.loop (ι := Nat) (fun i => [(3, .int .i64 (i : Int)), (0, .slice p l.length c)]) (fun _ => f) (fun _ => F) (fun i => i ≤ l.length ∧ ∀ j x, j < i → l[j]? = some x → x.q.length ≤ 20) (fun i => l.length - i) 0 ⟨Nat.zero_le _, fun j x hj => by omega⟩ ⟨rfl, rfl, trivial⟩ rfl rfl fun i hi => ?_
    obtain ⟨hi, hb⟩ : i ≤ l.length ∧ ∀ j x, j < i → l[j]? = some x → x.q.length ≤ 20 := hi
    by_cases hlt : i < l.length
    · have hx : l[i]? = some l[i] := List.getElem?_eq_getElem hlt
      generalize l[i] = x at hx
      obtain ⟨b, off, cs, T, fr, rfl, hfb, hcs⟩ := hat i x hx
      have rd : ∀ A, Rd f A b (off + i * 8) x.vals := fun A => Rd.imm hfb hcs
      by_cases hq : x.q.length ≤ 20
      · repeat (first | ((first | apply H.move | apply H.assign | apply H.nilCheck | apply H.len_slice | apply H.len_string | apply H.cap_slice); (iterate 3 exact rfl)) | (apply H.fieldAddr; (iterate 3 exact rfl); exact inferInstance; exact rfl) | (apply H.load1; (iterate 3 exact rfl); apply Rd1.ofRow; (repeat (first | exact .here _ _ _ | apply At.there)); (iterate 2 exact rfl)) | (first | apply H.seq | apply H.region | apply H.nil | apply H.then_normal) | ((first | apply H.cmp | apply H.build); (iterate 5 exact rfl)) | ((first | (apply H.ar; (iterate 4 exact rfl)) | (apply H.conv_int; (iterate 2 exact rfl))); (first | (with_reducible apply wr_i64_s1; omega) | (with_reducible apply wr_i64_n1; omega) | (with_reducible apply wr_i64_nn; omega) | (with_reducible apply wr_i64; omega) | (with_reducible apply wr_u64; omega) | (with_reducible apply wr_u8; omega) | (with_reducible apply wr_u16; omega) | rfl); exact rfl) | (apply H.pass; (iterate 2 exact rfl)) | (apply H.pass0; exact rfl) | (apply H.pickT; (iterate 4 exact rfl)) | ((first | apply H.pickF | apply H.extract | apply H.not | apply H.makeFunc); (iterate 4 exact rfl)) | ((first | apply H.ptrNil | apply H.sliceNil); (iterate 5 exact rfl)) | (apply H.store1; (iterate 4 exact rfl); (repeat (first | exact .here _ _ _ | apply At.there)); (repeat (first | exact .here _ _ _ | apply SetV.there))) | (apply H.cond_true; exact rfl) | (apply H.cond_false; exact rfl) | (first | apply H.skip | apply H.ret | apply H.then_ret | apply H.then_exit | apply H.exit | apply H.block | apply H.in_normal | apply H.in_ret | apply H.in_hit | apply H.loop_ret | apply H.loop_exit) | (apply H.in_miss; exact rfl) | (apply H.gyes; (iterate 3 exact rfl); (first | assumption | omega)) | (apply H.gno; (iterate 3 exact rfl); (first | assumption | omega)) | (apply H.cond_yes; exact rfl; (first | assumption | omega)) | (apply H.cond_no; exact rfl; (first | assumption | omega)) | ((first | apply H.gtrue); (iterate 3 exact rfl); assumption) | (apply H.gfalse; (iterate 3 exact rfl); assumption) | (apply H.cond_t; exact rfl; assumption) | (apply H.cond_f; exact rfl; assumption))
        refine H.index_slice rfl rfl rfl rfl hlt rfl ?_
        repeat ((apply H.fieldAddr; (iterate 3 exact rfl); exact inferInstance; exact rfl))
        refine H.load1 rfl rfl rfl (Rd1.of (i := 7) (rd _) rfl) rfl ?_
        repeat (first | ((first | apply H.move | apply H.assign | apply H.len_slice); (iterate 3 exact rfl)) | (first | apply H.region | apply H.nil | apply H.then_normal) | ((apply H.cmp); (iterate 5 exact rfl)) | ((apply H.ar; (iterate 4 exact rfl)); (with_reducible apply wr_i64_n1; omega); exact rfl) | (first | apply H.skip | apply H.in_normal) | (apply H.cond_no; exact rfl; (omega)))
        refine H.again (i + 1) ⟨by show i + 1 ≤ l.length; omega, fun j y hj hy => ?_⟩ (by show l.length - (i + 1) < l.length - i; omega) ⟨rfl, rfl, trivial⟩ rfl rfl
        by_cases e : j = i
        · subst e; rw [hx] at hy; cases hy; exact hq
        · exact hb j y (by omega) hy
      · repeat (first | ((first | apply H.move | apply H.assign | apply H.nilCheck | apply H.len_slice | apply H.len_string | apply H.cap_slice); (iterate 3 exact rfl)) | (apply H.fieldAddr; (iterate 3 exact rfl); exact inferInstance; exact rfl) | (apply H.load1; (iterate 3 exact rfl); apply Rd1.ofRow; (repeat (first | exact .here _ _ _ | apply At.there)); (iterate 2 exact rfl)) | (first | apply H.seq | apply H.region | apply H.nil | apply H.then_normal) | ((first | apply H.cmp | apply H.build); (iterate 5 exact rfl)) | ((first | (apply H.ar; (iterate 4 exact rfl)) | (apply H.conv_int; (iterate 2 exact rfl))); (first | (with_reducible apply wr_i64_s1; omega) | (with_reducible apply wr_i64_n1; omega) | (with_reducible apply wr_i64_nn; omega) | (with_reducible apply wr_i64; omega) | (with_reducible apply wr_u64; omega) | (with_reducible apply wr_u8; omega) | (with_reducible apply wr_u16; omega) | rfl); exact rfl) | (apply H.pass; (iterate 2 exact rfl)) | (apply H.pass0; exact rfl) | (apply H.pickT; (iterate 4 exact rfl)) | ((first | apply H.pickF | apply H.extract | apply H.not | apply H.makeFunc); (iterate 4 exact rfl)) | ((first | apply H.ptrNil | apply H.sliceNil); (iterate 5 exact rfl)) | (apply H.store1; (iterate 4 exact rfl); (repeat (first | exact .here _ _ _ | apply At.there)); (repeat (first | exact .here _ _ _ | apply SetV.there))) | (apply H.cond_true; exact rfl) | (apply H.cond_false; exact rfl) | (first | apply H.skip | apply H.ret | apply H.then_ret | apply H.then_exit | apply H.exit | apply H.block | apply H.in_normal | apply H.in_ret | apply H.in_hit | apply H.loop_ret | apply H.loop_exit) | (apply H.in_miss; exact rfl) | (apply H.gyes; (iterate 3 exact rfl); (first | assumption | omega)) | (apply H.gno; (iterate 3 exact rfl); (first | assumption | omega)) | (apply H.cond_yes; exact rfl; (first | assumption | omega)) | (apply H.cond_no; exact rfl; (first | assumption | omega)) | ((first | apply H.gtrue); (iterate 3 exact rfl); assumption) | (apply H.gfalse; (iterate 3 exact rfl); assumption) | (apply H.cond_t; exact rfl; assumption) | (apply H.cond_f; exact rfl; assumption))
        refine H.index_slice rfl rfl rfl rfl hlt rfl ?_
        repeat ((apply H.fieldAddr; (iterate 3 exact rfl); exact inferInstance; exact rfl))
        refine H.load1 rfl rfl rfl (Rd1.of (i := 7) (rd _) rfl) rfl ?_
        repeat (first | ((first | apply H.assign | apply H.len_slice); (iterate 3 exact rfl)) | (first | apply H.seq | apply H.region | apply H.nil | apply H.then_normal) | ((apply H.cmp); (iterate 5 exact rfl)) | (first | apply H.ret | apply H.then_ret | apply H.in_ret | apply H.loop_ret) | (apply H.cond_yes; exact rfl; (omega)))
        refine H.ret1 rfl rfl (fun _ h => h) ⟨?_, rfl, rfl⟩
        have : few12 l = false := by
          unfold few12
          rw [Bool.and_eq_false_iff]
          refine .inr (List.all_eq_false.2 ⟨x, List.mem_of_getElem? hx, by rw [decide_eq_false hq]; decide⟩)
        rw [this]
    · repeat (first | ((first | apply H.move | apply H.assign | apply H.nilCheck | apply H.len_slice | apply H.len_string | apply H.cap_slice); (iterate 3 exact rfl)) | (apply H.fieldAddr; (iterate 3 exact rfl); exact inferInstance; exact rfl) | (apply H.load1; (iterate 3 exact rfl); apply Rd1.ofRow; (repeat (first | exact .here _ _ _ | apply At.there)); (iterate 2 exact rfl)) | (first | apply H.seq | apply H.region | apply H.nil | apply H.then_normal) | ((first | apply H.cmp | apply H.build); (iterate 5 exact rfl)) | ((first | (apply H.ar; (iterate 4 exact rfl)) | (apply H.conv_int; (iterate 2 exact rfl))); (first | (with_reducible apply wr_i64_s1; omega) | (with_reducible apply wr_i64_n1; omega) | (with_reducible apply wr_i64_nn; omega) | (with_reducible apply wr_i64; omega) | (with_reducible apply wr_u64; omega) | (with_reducible apply wr_u8; omega) | (with_reducible apply wr_u16; omega) | rfl); exact rfl) | (apply H.pass; (iterate 2 exact rfl)) | (apply H.pass0; exact rfl) | (apply H.pickT; (iterate 4 exact rfl)) | ((first | apply H.pickF | apply H.extract | apply H.not | apply H.makeFunc); (iterate 4 exact rfl)) | ((first | apply H.ptrNil | apply H.sliceNil); (iterate 5 exact rfl)) | (apply H.store1; (iterate 4 exact rfl); (repeat (first | exact .here _ _ _ | apply At.there)); (repeat (first | exact .here _ _ _ | apply SetV.there))) | (apply H.cond_true; exact rfl) | (apply H.cond_false; exact rfl) | (first | apply H.skip | apply H.ret | apply H.then_ret | apply H.then_exit | apply H.exit | apply H.block | apply H.in_normal | apply H.in_ret | apply H.in_hit | apply H.loop_ret | apply H.loop_exit) | (apply H.in_miss; exact rfl) | (apply H.gyes; (iterate 3 exact rfl); (first | assumption | omega)) | (apply H.gno; (iterate 3 exact rfl); (first | assumption | omega)) | (apply H.cond_yes; exact rfl; (first | assumption | omega)) | (apply H.cond_no; exact rfl; (first | assumption | omega)) | ((first | apply H.gtrue); (iterate 3 exact rfl); assumption) | (apply H.gfalse; (iterate 3 exact rfl); assumption) | (apply H.cond_t; exact rfl; assumption) | (apply H.cond_f; exact rfl; assumption))
      refine H.ret1 rfl rfl (fun _ h => h) ⟨?_, rfl, rfl⟩
      have : few12 l = true := by
        unfold few12
        rw [decide_eq_true h30, Bool.true_and, List.all_eq_true]
        intro x hx
        obtain ⟨j, hj⟩ := List.getElem?_of_mem hx
        have hjl : j < l.length := by
          rcases Nat.lt_or_ge j l.length with h1 | h1
          · exact h1
          · rw [List.getElem?_eq_none h1] at hj; cases hj
        exact decide_eq_true (hb j x (by omega) hj)
      rw [this]
  · refine Fn.enter Tryz.func15 rfl Tryz.ntmps15 rfl (L := [(0, _)]) ⟨rfl, trivial⟩ fun base => ?_
    repeat (first | ((first | apply H.move | apply H.assign | apply H.len_slice); (iterate 3 exact rfl)) | (first | apply H.seq | apply H.region | apply H.nil | apply H.then_normal) | ((apply H.cmp); (iterate 5 exact rfl)) | (first | apply H.ret | apply H.then_ret) | (apply H.cond_yes; exact rfl; (omega)))
    refine H.ret1 rfl rfl (fun _ h => h) ⟨?_, rfl, rfl⟩
    have : few12 l = false := by unfold few12; rw [decide_eq_false h30]; rfl
    rw [this]
set_option maxHeartbeats 1600000 in
theorem abody_fn {n : Nat} (hn : 1 ≤ n ∧ n ≤ 11) {x : A12} (hx : x.Has f) (hl : x.q.length ≤ 20) :
    Fn Tryz.prog 53 [.agg x.vals.toArray, .int .i64 (n : Int)] f F (BodP f F (x.bod n)) := by
  have hk := x.k.toNat_lt
  have hvm : ((x.view.toNat % 6 : Nat) : Int) ≤ 5 := by omega
  have hkm : ((x.k.toNat % 6 : Nat) : Int) ≤ 5 := by omega
  have hcm : ((x.client.toNat % 3 : Nat) : Int) ≤ 2 := by omega
  have hcases : x.kind.toNat % 6 = 0 ∨ x.kind.toNat % 6 = 1 ∨ x.kind.toNat % 6 = 2 ∨ x.kind.toNat % 6 = 3 ∨ x.kind.toNat % 6 = 4 ∨ x.kind.toNat % 6 = 5 := by omega
  unfold A12.bod
  rcases hcases with h | h | h | h | h | h
  · have hk6 : ((x.kind.toNat : Nat) : Int).tmod 6 = 0 := tmod_nat (b := 6) h
    rw [h]
    show Fn _ _ _ f F (BodP f F (⟨1, 1 + ((x.view.toNat % 6 : Nat) : Int), 0, x.req.signed, [], noTag⟩ : Bod))
    refine Fn.enter Tryz.func53 rfl Tryz.ntmps53 rfl (L := [(0, _), (1, _)]) ⟨rfl, rfl, trivial⟩ fun base => ?_
    repeat ((first | apply H.seq | apply H.region))
    refine H.box (ls := x.vals) rfl rfl rfl rfl fun xb => ?_
    refine H.alloc (ls := (Bod.zero 0).vals none 0) rfl rfl rfl fun ob => ?_
    repeat (first | (apply H.fieldAddr; (iterate 3 exact rfl); exact inferInstance; exact rfl) | (apply H.load1; (iterate 3 exact rfl); apply Rd1.ofRow; (repeat (first | exact .here _ _ _ | apply At.there)); (iterate 2 exact rfl)) | (first | apply H.seq | apply H.region | apply H.nil | apply H.then_normal))
    refine H.rem rfl rfl rfl (by decide) hk6 rfl ?_
    repeat (first | (apply H.fieldAddr; (iterate 3 exact rfl); exact inferInstance; exact rfl) | (apply H.load1; (iterate 3 exact rfl); apply Rd1.ofRow; (repeat (first | exact .here _ _ _ | apply At.there)); (iterate 2 exact rfl)) | ((apply H.ar; (iterate 4 exact rfl)); (with_reducible apply wr_u8; omega); exact rfl))
    refine H.rem (z := ((x.view.toNat % 6 : Nat) : Int)) rfl rfl rfl (by decide) (by rw [Int.ofNat_tmod]; rfl) rfl ?_
    repeat (first | (refine H.build (t := 45) (out := (bodV 1 (1 + ((x.view.toNat % 6 : Nat) : Int))).vals none 0) rfl rfl rfl (by kernel_rfl) rfl ?_) | ((first | (apply H.ar; (iterate 4 exact rfl)) | (apply H.conv_int; (iterate 2 exact rfl))); (with_reducible apply wr_u64; omega); exact rfl))
    refine H.alloc (ls := (Bod.zero 0).vals none 0) rfl rfl rfl fun bb => ?_
    refine H.storeN (ls := (Bod.zero 0).vals none 0) (vs := (bodV 1 (1 + ((x.view.toNat % 6 : Nat) : Int))).vals none 0) (ls' := (bodV 1 (1 + ((x.view.toNat % 6 : Nat) : Int))).vals none 0) rfl rfl rfl (allOne_mem rfl) rfl rfl (Nat.le_refl 76) (.here _ _ _) ?_
    have hsg := fun G => rsigned_fn f G x.req
    generalize x.req.signed = r at hsg ⊢
    repeat (first | ((apply H.assign); (iterate 3 exact rfl)) | (apply H.fieldAddr; (iterate 3 exact rfl); exact inferInstance; exact rfl) | (apply H.load1; (iterate 3 exact rfl); apply Rd1.ofRow; (repeat (first | exact .here _ _ _ | apply At.there)); (iterate 2 exact rfl)) | (first | apply H.seq | apply H.region | apply H.nil | apply H.then_normal) | ((apply H.cmp); (iterate 5 exact rfl)) | (apply H.cond_true; exact rfl) | (apply H.block))
    refine H.rem (z := ((x.client.toNat % 3 : Nat) : Int)) rfl rfl rfl (by decide) (tmod_nat (b := 3) rfl) rfl ?_
    repeat (first | (refine H.build (t := 42) (out := x.req.vals) rfl rfl rfl (by kernel_rfl) rfl ?_) | (apply H.fieldAddr; (iterate 3 exact rfl); exact inferInstance; exact rfl) | (apply H.load1; (iterate 3 exact rfl); apply Rd1.ofRow; (repeat (first | exact .here _ _ _ | apply At.there)); (iterate 2 exact rfl)) | ((first | apply H.cmp | apply H.build); (iterate 5 exact rfl)) | ((first | (apply H.ar; (iterate 4 exact rfl)) | (apply H.conv_int; (iterate 2 exact rfl))); (first | (with_reducible apply wr_i64; omega) | (with_reducible apply wr_u64; omega)); exact rfl))
    refine H.callR rfl rfl rfl (hsg _) ?_
    repeat ((apply H.fieldAddr; (iterate 3 exact rfl); exact inferInstance; exact rfl))
    refine H.storeN (ls := (bodV 1 (1 + ((x.view.toNat % 6 : Nat) : Int))).vals none 0) (vs := r.vals) (ls' := (⟨1, 1 + ((x.view.toNat % 6 : Nat) : Int), 0, r, [], noTag⟩ : Bod).vals none 0) rfl rfl rfl (allOne_mem rfl) rfl rfl (show 3 + 40 ≤ 76 by decide) (.here _ _ _) ?_
    repeat (first | (first | apply H.seq | apply H.region | apply H.nil | apply H.then_normal) | (apply H.in_normal))
    refine H.loadN (ls := (⟨1, 1 + ((x.view.toNat % 6 : Nat) : Int), 0, r, [], noTag⟩ : Bod).vals none 0) rfl rfl rfl (Rd.ofRow (by repeat (first | exact .here _ _ _ | apply At.there))) rfl rfl ?_
    refine H.storeN (ls := (Bod.zero 0).vals none 0) (vs := (⟨1, 1 + ((x.view.toNat % 6 : Nat) : Int), 0, r, [], noTag⟩ : Bod).vals none 0) (ls' := (⟨1, 1 + ((x.view.toNat % 6 : Nat) : Int), 0, r, [], noTag⟩ : Bod).vals none 0) rfl rfl rfl (allOne_mem rfl) rfl rfl (Nat.le_refl 76) (by repeat (first | exact .here _ _ _ | apply At.there)) ?_
    repeat (first | (first | apply H.nil | apply H.then_normal) | (apply H.ret))
    refine H.drop (x := row bb _ _) (by repeat (first | exact .here _ _ | apply Pull.there)) ?_
    refine H.drop (x := row xb _ _) (by repeat (first | exact .here _ _ | apply Pull.there)) ?_
    refine H.front (x := row ob _ _) (by repeat (first | exact .here _ _ | apply Pull.there)) ?_
    exact H.retD (ls := (⟨1, 1 + ((x.view.toNat % 6 : Nat) : Int), 0, r, [], noTag⟩ : Bod).vals none 0) rfl rfl rfl (Rd.ofRow (.here _ _ _)) rfl (fun _ s => s.drop (.here _ _)) ⟨nil0, none, 0, rfl, QAt.nil _ _, Dj.nil _, (un_nil _).symm, rfl⟩
  · have hk6 : ((x.kind.toNat : Nat) : Int).tmod 6 = 1 := tmod_nat (b := 6) h
    rw [h]
    show Fn _ _ _ f F (BodP f F (⟨2, 1 + ((x.view.toNat % 6 : Nat) : Int), 1 + ((x.k.toNat % 6 : Nat) : Int), Req.zero, [], noTag⟩ : Bod))
    refine Fn.enter Tryz.func53 rfl Tryz.ntmps53 rfl (L := [(0, _), (1, _)]) ⟨rfl, rfl, trivial⟩ fun base => ?_
    repeat ((first | apply H.seq | apply H.region))
    refine H.box (ls := x.vals) rfl rfl rfl rfl fun xb => ?_
    refine H.alloc (ls := (Bod.zero 0).vals none 0) rfl rfl rfl fun ob => ?_
    repeat (first | (apply H.fieldAddr; (iterate 3 exact rfl); exact inferInstance; exact rfl) | (apply H.load1; (iterate 3 exact rfl); apply Rd1.ofRow; (repeat (first | exact .here _ _ _ | apply At.there)); (iterate 2 exact rfl)) | (first | apply H.seq | apply H.region | apply H.nil | apply H.then_normal))
    refine H.rem rfl rfl rfl (by decide) hk6 rfl ?_
    repeat (first | (apply H.fieldAddr; (iterate 3 exact rfl); exact inferInstance; exact rfl) | (apply H.load1; (iterate 3 exact rfl); apply Rd1.ofRow; (repeat (first | exact .here _ _ _ | apply At.there)); (iterate 2 exact rfl)) | ((apply H.ar; (iterate 4 exact rfl)); (with_reducible apply wr_u8; omega); exact rfl))
    refine H.rem (z := ((x.view.toNat % 6 : Nat) : Int)) rfl rfl rfl (by decide) (by rw [Int.ofNat_tmod]; rfl) rfl ?_
    repeat (first | (refine H.build (t := 45) (out := (bodV 2 (1 + ((x.view.toNat % 6 : Nat) : Int))).vals none 0) rfl rfl rfl (by kernel_rfl) rfl ?_) | ((first | (apply H.ar; (iterate 4 exact rfl)) | (apply H.conv_int; (iterate 2 exact rfl))); (with_reducible apply wr_u64; omega); exact rfl))
    refine H.alloc (ls := (Bod.zero 0).vals none 0) rfl rfl rfl fun bb => ?_
    refine H.storeN (ls := (Bod.zero 0).vals none 0) (vs := (bodV 2 (1 + ((x.view.toNat % 6 : Nat) : Int))).vals none 0) (ls' := (bodV 2 (1 + ((x.view.toNat % 6 : Nat) : Int))).vals none 0) rfl rfl rfl (allOne_mem rfl) rfl rfl (Nat.le_refl 76) (.here _ _ _) ?_
    repeat (first | ((apply H.assign); (iterate 3 exact rfl)) | (apply H.fieldAddr; (iterate 3 exact rfl); exact inferInstance; exact rfl) | (apply H.load1; (iterate 3 exact rfl); apply Rd1.ofRow; (repeat (first | exact .here _ _ _ | apply At.there)); (iterate 2 exact rfl)) | (first | apply H.seq | apply H.region | apply H.nil | apply H.then_normal) | ((apply H.cmp); (iterate 5 exact rfl)) | (apply H.cond_true; exact rfl) | (apply H.cond_false; exact rfl) | (apply H.block))
    refine H.rem (z := ((x.k.toNat % 6 : Nat) : Int)) rfl rfl rfl (by decide) (tmod_nat (b := 6) rfl) rfl ?_
    repeat (first | (apply H.fieldAddr; (iterate 3 exact rfl); exact inferInstance; exact rfl) | (first | apply H.seq | apply H.region | apply H.nil | apply H.then_normal) | ((first | (apply H.ar; (iterate 4 exact rfl)) | (apply H.conv_int; (iterate 2 exact rfl))); (with_reducible apply wr_u64; omega); exact rfl) | (apply H.store1; (iterate 4 exact rfl); (repeat (exact .here _ _ _)); (repeat (first | exact .here _ _ _ | apply SetV.there))) | (apply H.in_normal))
    refine H.loadN (ls := (⟨2, 1 + ((x.view.toNat % 6 : Nat) : Int), 1 + ((x.k.toNat % 6 : Nat) : Int), Req.zero, [], noTag⟩ : Bod).vals none 0) rfl rfl rfl (Rd.ofRow (by repeat (first | exact .here _ _ _ | apply At.there))) rfl rfl ?_
    refine H.storeN (ls := (Bod.zero 0).vals none 0) (vs := (⟨2, 1 + ((x.view.toNat % 6 : Nat) : Int), 1 + ((x.k.toNat % 6 : Nat) : Int), Req.zero, [], noTag⟩ : Bod).vals none 0) (ls' := (⟨2, 1 + ((x.view.toNat % 6 : Nat) : Int), 1 + ((x.k.toNat % 6 : Nat) : Int), Req.zero, [], noTag⟩ : Bod).vals none 0) rfl rfl rfl (allOne_mem rfl) rfl rfl (Nat.le_refl 76) (by repeat (first | exact .here _ _ _ | apply At.there)) ?_
    repeat (first | (first | apply H.nil | apply H.then_normal) | (apply H.ret))
    refine H.drop (x := row bb _ _) (by repeat (first | exact .here _ _ | apply Pull.there)) ?_
    refine H.drop (x := row xb _ _) (by repeat (first | exact .here _ _ | apply Pull.there)) ?_
    refine H.front (x := row ob _ _) (by repeat (first | exact .here _ _ | apply Pull.there)) ?_
    exact H.retD (ls := (⟨2, 1 + ((x.view.toNat % 6 : Nat) : Int), 1 + ((x.k.toNat % 6 : Nat) : Int), Req.zero, [], noTag⟩ : Bod).vals none 0) rfl rfl rfl (Rd.ofRow (.here _ _ _)) rfl (fun _ s => s.drop (.here _ _)) ⟨nil0, none, 0, rfl, QAt.nil _ _, Dj.nil _, (un_nil _).symm, rfl⟩
  · have hk6 : ((x.kind.toNat : Nat) : Int).tmod 6 = 2 := tmod_nat (b := 6) h
    rw [h]
    show Fn _ _ _ f F (BodP f F (bodV 3 (1 + ((x.view.toNat % 6 : Nat) : Int))))
    refine Fn.enter Tryz.func53 rfl Tryz.ntmps53 rfl (L := [(0, _), (1, _)]) ⟨rfl, rfl, trivial⟩ fun base => ?_
    repeat ((first | apply H.seq | apply H.region))
    refine H.box (ls := x.vals) rfl rfl rfl rfl fun xb => ?_
    refine H.alloc (ls := (Bod.zero 0).vals none 0) rfl rfl rfl fun ob => ?_
    repeat (first | (apply H.fieldAddr; (iterate 3 exact rfl); exact inferInstance; exact rfl) | (apply H.load1; (iterate 3 exact rfl); apply Rd1.ofRow; (repeat (first | exact .here _ _ _ | apply At.there)); (iterate 2 exact rfl)) | (first | apply H.seq | apply H.region | apply H.nil | apply H.then_normal))
    refine H.rem rfl rfl rfl (by decide) hk6 rfl ?_
    repeat (first | (apply H.fieldAddr; (iterate 3 exact rfl); exact inferInstance; exact rfl) | (apply H.load1; (iterate 3 exact rfl); apply Rd1.ofRow; (repeat (first | exact .here _ _ _ | apply At.there)); (iterate 2 exact rfl)) | ((apply H.ar; (iterate 4 exact rfl)); (with_reducible apply wr_u8; omega); exact rfl))
    refine H.rem (z := ((x.view.toNat % 6 : Nat) : Int)) rfl rfl rfl (by decide) (by rw [Int.ofNat_tmod]; rfl) rfl ?_
    repeat (first | (refine H.build (t := 45) (out := (bodV 3 (1 + ((x.view.toNat % 6 : Nat) : Int))).vals none 0) rfl rfl rfl (by kernel_rfl) rfl ?_) | ((first | (apply H.ar; (iterate 4 exact rfl)) | (apply H.conv_int; (iterate 2 exact rfl))); (with_reducible apply wr_u64; omega); exact rfl))
    refine H.alloc (ls := (Bod.zero 0).vals none 0) rfl rfl rfl fun bb => ?_
    refine H.storeN (ls := (Bod.zero 0).vals none 0) (vs := (bodV 3 (1 + ((x.view.toNat % 6 : Nat) : Int))).vals none 0) (ls' := (bodV 3 (1 + ((x.view.toNat % 6 : Nat) : Int))).vals none 0) rfl rfl rfl (allOne_mem rfl) rfl rfl (Nat.le_refl 76) (.here _ _ _) ?_
    repeat (first | ((apply H.assign); (iterate 3 exact rfl)) | (apply H.fieldAddr; (iterate 3 exact rfl); exact inferInstance; exact rfl) | (apply H.load1; (iterate 3 exact rfl); apply Rd1.ofRow; (repeat (exact .here _ _ _)); (iterate 2 exact rfl)) | (first | apply H.seq | apply H.region | apply H.nil | apply H.then_normal) | ((apply H.cmp); (iterate 5 exact rfl)) | (apply H.cond_false; exact rfl) | (first | apply H.skip | apply H.block | apply H.in_normal))
    refine H.loadN (ls := (bodV 3 (1 + ((x.view.toNat % 6 : Nat) : Int))).vals none 0) rfl rfl rfl (Rd.ofRow (by repeat (first | exact .here _ _ _ | apply At.there))) rfl rfl ?_
    refine H.storeN (ls := (Bod.zero 0).vals none 0) (vs := (bodV 3 (1 + ((x.view.toNat % 6 : Nat) : Int))).vals none 0) (ls' := (bodV 3 (1 + ((x.view.toNat % 6 : Nat) : Int))).vals none 0) rfl rfl rfl (allOne_mem rfl) rfl rfl (Nat.le_refl 76) (by repeat (first | exact .here _ _ _ | apply At.there)) ?_
    repeat (first | (first | apply H.nil | apply H.then_normal) | (apply H.ret))
    refine H.drop (x := row bb _ _) (by repeat (first | exact .here _ _ | apply Pull.there)) ?_
    refine H.drop (x := row xb _ _) (by repeat (first | exact .here _ _ | apply Pull.there)) ?_
    refine H.front (x := row ob _ _) (by repeat (first | exact .here _ _ | apply Pull.there)) ?_
    exact H.retD (ls := (bodV 3 (1 + ((x.view.toNat % 6 : Nat) : Int))).vals none 0) rfl rfl rfl (Rd.ofRow (.here _ _ _)) rfl (fun _ s => s.drop (.here _ _)) ⟨nil0, none, 0, rfl, QAt.nil _ _, Dj.nil _, (un_nil _).symm, rfl⟩
  · have hk6 : ((x.kind.toNat : Nat) : Int).tmod 6 = 3 := tmod_nat (b := 6) h
    rw [h]
    show Fn _ _ _ f F (BodP f F (⟨4, 1 + ((x.view.toNat % 6 : Nat) : Int), 0, Req.zero, x.qTo (x.top n), noTag⟩ : Bod))
    refine Fn.enter Tryz.func53 rfl Tryz.ntmps53 rfl (L := [(0, _), (1, _)]) ⟨rfl, rfl, trivial⟩ fun base => ?_
    repeat ((first | apply H.seq | apply H.region))
    refine H.box (ls := x.vals) rfl rfl rfl rfl fun xb => ?_
    refine H.alloc (ls := (Bod.zero 0).vals none 0) rfl rfl rfl fun ob => ?_
    repeat (first | (apply H.fieldAddr; (iterate 3 exact rfl); exact inferInstance; exact rfl) | (apply H.load1; (iterate 3 exact rfl); apply Rd1.ofRow; (repeat (first | exact .here _ _ _ | apply At.there)); (iterate 2 exact rfl)) | (first | apply H.seq | apply H.region | apply H.nil | apply H.then_normal))
    refine H.rem rfl rfl rfl (by decide) hk6 rfl ?_
    repeat (first | (apply H.fieldAddr; (iterate 3 exact rfl); exact inferInstance; exact rfl) | (apply H.load1; (iterate 3 exact rfl); apply Rd1.ofRow; (repeat (first | exact .here _ _ _ | apply At.there)); (iterate 2 exact rfl)) | ((apply H.ar; (iterate 4 exact rfl)); (with_reducible apply wr_u8; omega); exact rfl))
    refine H.rem (z := ((x.view.toNat % 6 : Nat) : Int)) rfl rfl rfl (by decide) (by rw [Int.ofNat_tmod]; rfl) rfl ?_
    repeat (first | (refine H.build (t := 45) (out := (bodV 4 (1 + ((x.view.toNat % 6 : Nat) : Int))).vals none 0) rfl rfl rfl (by kernel_rfl) rfl ?_) | ((first | (apply H.ar; (iterate 4 exact rfl)) | (apply H.conv_int; (iterate 2 exact rfl))); (with_reducible apply wr_u64; omega); exact rfl))
    refine H.alloc (ls := (Bod.zero 0).vals none 0) rfl rfl rfl fun bb => ?_
    refine H.storeN (ls := (Bod.zero 0).vals none 0) (vs := (bodV 4 (1 + ((x.view.toNat % 6 : Nat) : Int))).vals none 0) (ls' := (bodV 4 (1 + ((x.view.toNat % 6 : Nat) : Int))).vals none 0) rfl rfl rfl (allOne_mem rfl) rfl rfl (Nat.le_refl 76) (.here _ _ _) ?_
    repeat (first | ((apply H.assign); (iterate 3 exact rfl)) | (apply H.fieldAddr; (iterate 3 exact rfl); exact inferInstance; exact rfl) | (apply H.load1; (iterate 3 exact rfl); apply Rd1.ofRow; (repeat (first | exact .here _ _ _ | apply At.there)); (iterate 2 exact rfl)) | (first | apply H.seq | apply H.region | apply H.nil | apply H.then_normal) | ((apply H.cmp); (iterate 5 exact rfl)) | (apply H.cond_true; exact rfl) | (apply H.cond_false; exact rfl) | (apply H.block))
    refine H.rem (z := ((x.k.toNat % 6 : Nat) : Int)) rfl rfl rfl (by decide) (tmod_nat (b := 6) rfl) rfl ?_
    repeat (first | (refine H.build (t := 61) (out := pairV (1, 1 + ((x.k.toNat % 6 : Nat) : Int))) rfl rfl rfl (by kernel_rfl) rfl ?_) | ((first | (apply H.ar; (iterate 4 exact rfl)) | (apply H.conv_int; (iterate 2 exact rfl))); (with_reducible apply wr_u64; omega); exact rfl))
    refine H.buildSlice (out := pairV (1, 1 + ((x.k.toNat % 6 : Nat) : Int))) rfl rfl rfl rfl (by decide) (by decide) rfl rfl fun eb => ?_
    refine H.asSlc (k := 1) (sz := 2) rfl (by decide) ?_
    repeat (first | (refine H.store1 (ls := bodS (1 + ((x.view.toNat % 6 : Nat) : Int)) none 0 0) (ls' := bodS (1 + ((x.view.toNat % 6 : Nat) : Int)) (some ⟨eb, 0, none⟩) 1 1) rfl rfl rfl rfl (.there _ (.here _ _ _)) (bodS_set _ _ _ _ _ _ _) ?_) | ((apply H.assign); (iterate 3 exact rfl)) | (apply H.fieldAddr; (iterate 3 exact rfl); exact inferInstance; exact rfl) | (first | apply H.seq | apply H.region | apply H.nil | apply H.then_normal) | (apply H.block))
    have htl := x.top_le (n := n) hn.1
    refine H.loop (ι := Nat × Option Addr × Nat) (fun s => [(6, .int .i64 ((s.1 + 1 : Nat) : Int)), (1, .int .i64 (n : Int)), (2, .pointer (some ⟨xb, 0, none⟩)), (5, .pointer (some ⟨bb, 0, none⟩)), (4, .pointer (some ⟨ob, 0, none⟩))]) (fun _ => f)
      (fun s => slc s.2.1 s.1 s.2.2 61 2 ((x.qTo s.1).flatMap pairV) :: row bb 45 (bodS (1 + ((x.view.toNat % 6 : Nat) : Int)) s.2.1 s.1 s.2.2) :: row ob 45 ((Bod.zero 0).vals none 0) :: row xb 113 x.vals :: F)
      (fun s => 1 ≤ s.1 ∧ s.1 ≤ x.top n) (fun s => x.top n - s.1) (1, some ⟨eb, 0, none⟩, 1) ⟨Nat.le_refl 1, htl.1⟩ ⟨rfl, rfl, rfl, rfl, rfl, trivial⟩ rfl rfl fun s hs => ?_
    obtain ⟨r, p, c⟩ := s
    obtain ⟨hr1, hrt⟩ : 1 ≤ r ∧ r ≤ x.top n := hs
    show H _ _ _ [(6, .int .i64 ((r + 1 : Nat) : Int)), _, _, _, _] f (slc p r c _ 2 ((x.qTo r).flatMap pairV) :: row bb _ (bodS (1 + ((x.view.toNat % 6 : Nat) : Int)) p r c) :: _ :: _ :: F) _
    by_cases hlt : r < x.top n
    · obtain ⟨hrn, hrl⟩ := top_more hr1 hlt
      rcases hx with hx | ⟨b, off, cs, T, fr, hqp, hfb, hcs⟩
      · rw [hx] at hrl; exact absurd hrl (by simp)
      · have hrd : ∀ A, Rd f A b off (bytesV x.q) := fun A => Rd.imm hfb fun i hi => by rw [bytesV_len] at hi; exact hcs i hi
        have hby : (bytesV x.q)[r]? = some (.int .u8 ((x.q.getD r 0).toNat : Nat)) := by
          unfold bytesV
          rw [List.getElem?_map, List.getElem?_eq_getElem (by omega), List.getD_eq_getElem?_getD, List.getElem?_eq_getElem (by omega)]
          rfl
        have hnx := qTo_next x hr1
        have hpv : (x.qTo (r + 1)).flatMap pairV = (x.qTo r).flatMap pairV ++ pairV (((r + 1 : Nat) : Int), 1 + (((x.q.getD r 0).toNat % 8 : Nat) : Int)) := by
          rw [hnx, List.flatMap_append]
          rfl
        have hbm : (((x.q.getD r 0).toNat % 8 : Nat) : Int) ≤ 7 := by omega
        generalize x.q.getD r 0 = qr at *
        have hxv : x.vals = [.int .u8 (x.who.toNat : Nat), .int .u8 (x.other.toNat : Nat), .bool x.meet, .int .u8 (x.kind.toNat : Nat), .int .u8 (x.view.toNat : Nat), .int .u8 (x.k.toNat : Nat), .int .u8 (x.client.toNat : Nat), .slice (some ⟨b, off, none⟩) x.q.length x.qc] := by unfold A12.vals; rw [hqp]
        rw [hxv]
        repeat (first | ((first | apply H.move | apply H.len_slice); (iterate 3 exact rfl)) | (apply H.fieldAddr; (iterate 3 exact rfl); exact inferInstance; exact rfl) | (apply H.load1; (iterate 3 exact rfl); apply Rd1.ofRow; (repeat (first | exact .here _ _ _ | apply At.there)); (iterate 2 exact rfl)) | (first | apply H.seq | apply H.region | apply H.nil | apply H.then_normal) | ((apply H.cmp); (iterate 5 exact rfl)) | (apply H.pickT; (iterate 4 exact rfl)) | (first | apply H.skip | apply H.block) | (apply H.gyes; (iterate 3 exact rfl); (omega)) | (apply H.cond_yes; exact rfl; (omega)))
        refine H.front (x := row xb _ _) (by repeat (first | exact .here _ _ | apply Pull.there)) ?_
        refine H.front (x := row bb _ _) (by repeat (first | exact .here _ _ | apply Pull.there)) ?_
        refine H.drawC [0, 1, 2, 3, 4, 5, 6, 7, 8, 9, 10, 11, 12, 13, 14] (by kernel_rfl) (by decide +kernel) (by first | exact blind_fn | exact blind_seq blind_fn | exact blind_seq (blind_seq blind_fn) | (repeat (first | exact blind_fn | refine blind_seq ?_ | refine blind_block ?_ | refine blind_loop ?_))) (S := [_, _]) rfl ?_
        refine HB.quiet [(0, false), (1, false), (2, false), (3, false), (4, false), (5, false), (6, false), (7, false), (8, false), (9, false), (10, false), (11, false), (12, false)] 4 (by kernel_rfl) ?_
        repeat (first | ((apply HQ.move); (iterate 3 exact rfl)) | (apply HQ.fieldAddr; (iterate 3 exact rfl); exact inferInstance; exact rfl) | (apply HQ.load1; (iterate 3 exact rfl); apply Rd1.ofRow; (repeat (first | exact .here _ _ _ | apply At.there)); (iterate 2 exact rfl)) | ((apply HQ.ar; (iterate 4 exact rfl)); (with_reducible apply wr_i64_s1; omega); exact rfl))
        refine HQ.index1 (i := r) rfl rfl rfl (by omega) (by omega) rfl ?_
        refine HQ.load1 rfl rfl rfl (Rd1.of (hrd _) hby) rfl ?_
        refine HQ.rem (z := ((qr.toNat % 8 : Nat) : Int)) rfl rfl rfl (by decide) (tmod_nat (b := 8) rfl) rfl ?_
        repeat (first | (refine HQ.build (t := 61) (out := pairV (((r + 1 : Nat) : Int), 1 + ((qr.toNat % 8 : Nat) : Int))) rfl rfl rfl rfl rfl ?_) | ((first | (apply HQ.ar; (iterate 4 exact rfl)) | (apply HQ.conv_int; (iterate 2 exact rfl))); (with_reducible apply wr_u64; omega); exact rfl))
        refine HQ.more rfl ?_
        refine HB.ev1 (i := 13) (by kernel_rfl) rfl ?_
        refine H.buildSlice (out := pairV (((r + 1 : Nat) : Int), 1 + ((qr.toNat % 8 : Nat) : Int))) rfl rfl rfl rfl (by decide) (by decide) rfl rfl fun e2 => ?_
        repeat ((apply H.nil))
        refine H.front (x := row xb _ _) (by repeat (first | exact .here _ _ | apply Pull.there)) ?_
        refine H.front (x := row bb _ _) (by repeat (first | exact .here _ _ | apply Pull.there)) ?_
        refine H.on0 rfl ?_
        refine HB.ev1 (i := 14) (by kernel_rfl) rfl ?_
        refine H.append (p := p) (n0 := r) (c := c) (xs := (x.qTo r).flatMap pairV) (m := 1) (news := pairV (((r + 1 : Nat) : Int), 1 + ((qr.toNat % 8 : Nat) : Int))) rfl rfl rfl rfl rfl (fun p' c' => (by repeat (first | exact .here _ _ _ | apply At.there))) (Src.slice (Rd.ofRow (by repeat (first | exact .here _ _ _ | apply At.there))) rfl) (allOne_mem rfl) rfl (by omega) (by omega) fun p2 c2 => ?_
        repeat ((apply H.nil))
        refine H.drop (x := row e2 _ _) (by repeat (first | exact .here _ _ | apply Pull.there)) ?_
        refine H.on0 rfl ?_
        refine HB.next [] (by kernel_rfl) (S' := []) rfl ?_
        refine HB.quiet [(15, false)] 1 (by kernel_rfl) ?_
        repeat ((apply HQ.fieldAddr; (iterate 3 exact rfl); exact inferInstance; exact rfl))
        refine HQ.more rfl ?_
        refine HB.ev1 (i := 16) (by kernel_rfl) rfl ?_
        refine H.store1 (ls := bodS (1 + ((x.view.toNat % 6 : Nat) : Int)) p r c) (ls' := bodS (1 + ((x.view.toNat % 6 : Nat) : Int)) p2 (r + 1) c2) rfl rfl rfl rfl (.here _ _ _) (bodS_set _ _ _ _ _ _ _) ?_
        repeat ((apply H.nil))
        refine H.on0 rfl ?_
        refine HB.done (by kernel_rfl) ?_
        repeat (first | ((first | apply H.move | apply H.assign); (iterate 3 exact rfl)) | (first | apply H.region | apply H.nil | apply H.then_normal) | ((apply H.ar; (iterate 4 exact rfl)); (with_reducible apply wr_i64_n1; omega); exact rfl) | (apply H.in_normal))
        rw [← hxv]
        refine H.front (x := row ob _ _) (by repeat (first | exact .here _ _ | apply Pull.there)) ?_
        refine H.front (x := row bb _ _) (by repeat (first | exact .here _ _ | apply Pull.there)) ?_
        refine H.front (x := slc p2 _ c2 _ _ _) (by repeat (first | exact .here _ _ | apply Pull.there)) ?_
        refine H.again (r + 1, p2, c2) ⟨by show 1 ≤ r + 1; omega, hlt⟩ (by show x.top n - (r + 1) < x.top n - r; omega) ⟨rfl, rfl, rfl, rfl, rfl, trivial⟩ rfl ?_
        show slc p2 (r + 1) c2 _ 2 ((x.qTo r).flatMap pairV ++ pairV _) :: _ = slc p2 (r + 1) c2 _ 2 ((x.qTo (r + 1)).flatMap pairV) :: _
        rw [hpv]
    · have hrt : r = x.top n := by omega
      have hte := top_end hn.1 hrt
      have hval : bodS (1 + ((x.view.toNat % 6 : Nat) : Int)) p r c = (⟨4, (1 + ((x.view.toNat % 6 : Nat) : Int)), 0, Req.zero, x.qTo (x.top n), noTag⟩ : Bod).vals p c := by
        rw [hrt]
        have := bodS_eq (1 + ((x.view.toNat % 6 : Nat) : Int)) (x.qTo (x.top n)) p c
        rw [x.qTo_len] at this
        exact this.symm
      rw [hval]
      by_cases hn2 : r + 1 ≤ n
      · have hq2 : ¬ (r + 1 ≤ x.q.length) := fun e => hte ⟨hn2, e⟩
        repeat (first | ((first | apply H.move | apply H.len_slice); (iterate 3 exact rfl)) | (apply H.fieldAddr; (iterate 3 exact rfl); exact inferInstance; exact rfl) | (apply H.load1; (iterate 3 exact rfl); apply Rd1.ofRow; (repeat (first | exact .here _ _ _ | apply At.there)); (iterate 2 exact rfl)) | (first | apply H.seq | apply H.region | apply H.nil | apply H.then_normal) | ((apply H.cmp); (iterate 5 exact rfl)) | (apply H.pickT; (iterate 4 exact rfl)) | (first | apply H.then_exit | apply H.exit | apply H.in_normal | apply H.in_hit | apply H.loop_exit) | (apply H.gyes; (iterate 3 exact rfl); (omega)) | (apply H.cond_no; exact rfl; (omega)))
        refine H.loadN (ls := (⟨4, (1 + ((x.view.toNat % 6 : Nat) : Int)), 0, Req.zero, x.qTo (x.top n), noTag⟩ : Bod).vals p c) rfl rfl rfl (Rd.ofRow (by repeat (first | exact .here _ _ _ | apply At.there))) rfl rfl ?_
        refine H.storeN (ls := (Bod.zero 0).vals none 0) (vs := (⟨4, (1 + ((x.view.toNat % 6 : Nat) : Int)), 0, Req.zero, x.qTo (x.top n), noTag⟩ : Bod).vals p c) (ls' := (⟨4, (1 + ((x.view.toNat % 6 : Nat) : Int)), 0, Req.zero, x.qTo (x.top n), noTag⟩ : Bod).vals p c) rfl rfl rfl (allOne_mem rfl) rfl rfl (Nat.le_refl 76) (by repeat (first | exact .here _ _ _ | apply At.there)) ?_
        repeat (first | (first | apply H.nil | apply H.then_normal) | (apply H.ret))
        refine H.drop (x := row bb _ _) (by repeat (first | exact .here _ _ | apply Pull.there)) ?_
        refine H.drop (x := row xb _ _) (by repeat (first | exact .here _ _ | apply Pull.there)) ?_
        refine H.freeze (x := slc p _ c _ _ _) (by repeat (first | exact .here _ _ | apply Pull.there)) fun g hg hd => ?_
        have hg' : qs p c (x.qTo (x.top n)) g := by unfold qs; rw [x.qTo_len, ← hrt]; exact hg
        refine H.retD (ls := (⟨4, (1 + ((x.view.toNat % 6 : Nat) : Int)), 0, Req.zero, x.qTo (x.top n), noTag⟩ : Bod).vals p c) rfl rfl rfl (Rd.ofRow (.here _ _ _)) rfl (fun _ s => s.drop (.here _ _)) ⟨g, p, c, rfl, qs_qat hg' hd, hd, rfl, rfl⟩
      · skip
        repeat (first | ((first | apply H.move | apply H.len_slice); (iterate 3 exact rfl)) | (first | apply H.seq | apply H.region | apply H.nil | apply H.then_normal) | ((apply H.cmp); (iterate 5 exact rfl)) | (apply H.pass; (iterate 2 exact rfl)) | ((apply H.pickF); (iterate 4 exact rfl)) | (apply H.cond_false; exact rfl) | (first | apply H.then_exit | apply H.exit | apply H.in_normal | apply H.in_hit | apply H.loop_exit) | (apply H.gno; (iterate 3 exact rfl); (omega)))
        refine H.loadN (ls := (⟨4, (1 + ((x.view.toNat % 6 : Nat) : Int)), 0, Req.zero, x.qTo (x.top n), noTag⟩ : Bod).vals p c) rfl rfl rfl (Rd.ofRow (by repeat (first | exact .here _ _ _ | apply At.there))) rfl rfl ?_
        refine H.storeN (ls := (Bod.zero 0).vals none 0) (vs := (⟨4, (1 + ((x.view.toNat % 6 : Nat) : Int)), 0, Req.zero, x.qTo (x.top n), noTag⟩ : Bod).vals p c) (ls' := (⟨4, (1 + ((x.view.toNat % 6 : Nat) : Int)), 0, Req.zero, x.qTo (x.top n), noTag⟩ : Bod).vals p c) rfl rfl rfl (allOne_mem rfl) rfl rfl (Nat.le_refl 76) (by repeat (first | exact .here _ _ _ | apply At.there)) ?_
        repeat (first | (first | apply H.nil | apply H.then_normal) | (apply H.ret))
        refine H.drop (x := row bb _ _) (by repeat (first | exact .here _ _ | apply Pull.there)) ?_
        refine H.drop (x := row xb _ _) (by repeat (first | exact .here _ _ | apply Pull.there)) ?_
        refine H.freeze (x := slc p _ c _ _ _) (by repeat (first | exact .here _ _ | apply Pull.there)) fun g hg hd => ?_
        have hg' : qs p c (x.qTo (x.top n)) g := by unfold qs; rw [x.qTo_len, ← hrt]; exact hg
        refine H.retD (ls := (⟨4, (1 + ((x.view.toNat % 6 : Nat) : Int)), 0, Req.zero, x.qTo (x.top n), noTag⟩ : Bod).vals p c) rfl rfl rfl (Rd.ofRow (.here _ _ _)) rfl (fun _ s => s.drop (.here _ _)) ⟨g, p, c, rfl, qs_qat hg' hd, hd, rfl, rfl⟩
  · have hk6 : ((x.kind.toNat : Nat) : Int).tmod 6 = 4 := tmod_nat (b := 6) h
    rw [h]
    show Fn _ _ _ f F (BodP f F (bodV 5 (1 + ((x.view.toNat % 6 : Nat) : Int))))
    refine Fn.enter Tryz.func53 rfl Tryz.ntmps53 rfl (L := [(0, _), (1, _)]) ⟨rfl, rfl, trivial⟩ fun base => ?_
    repeat ((first | apply H.seq | apply H.region))
    refine H.box (ls := x.vals) rfl rfl rfl rfl fun xb => ?_
    refine H.alloc (ls := (Bod.zero 0).vals none 0) rfl rfl rfl fun ob => ?_
    repeat (first | (apply H.fieldAddr; (iterate 3 exact rfl); exact inferInstance; exact rfl) | (apply H.load1; (iterate 3 exact rfl); apply Rd1.ofRow; (repeat (first | exact .here _ _ _ | apply At.there)); (iterate 2 exact rfl)) | (first | apply H.seq | apply H.region | apply H.nil | apply H.then_normal))
    refine H.rem rfl rfl rfl (by decide) hk6 rfl ?_
    repeat (first | (apply H.fieldAddr; (iterate 3 exact rfl); exact inferInstance; exact rfl) | (apply H.load1; (iterate 3 exact rfl); apply Rd1.ofRow; (repeat (first | exact .here _ _ _ | apply At.there)); (iterate 2 exact rfl)) | ((apply H.ar; (iterate 4 exact rfl)); (with_reducible apply wr_u8; omega); exact rfl))
    refine H.rem (z := ((x.view.toNat % 6 : Nat) : Int)) rfl rfl rfl (by decide) (by rw [Int.ofNat_tmod]; rfl) rfl ?_
    repeat (first | (refine H.build (t := 45) (out := (bodV 5 (1 + ((x.view.toNat % 6 : Nat) : Int))).vals none 0) rfl rfl rfl (by kernel_rfl) rfl ?_) | ((first | (apply H.ar; (iterate 4 exact rfl)) | (apply H.conv_int; (iterate 2 exact rfl))); (with_reducible apply wr_u64; omega); exact rfl))
    refine H.alloc (ls := (Bod.zero 0).vals none 0) rfl rfl rfl fun bb => ?_
    refine H.storeN (ls := (Bod.zero 0).vals none 0) (vs := (bodV 5 (1 + ((x.view.toNat % 6 : Nat) : Int))).vals none 0) (ls' := (bodV 5 (1 + ((x.view.toNat % 6 : Nat) : Int))).vals none 0) rfl rfl rfl (allOne_mem rfl) rfl rfl (Nat.le_refl 76) (.here _ _ _) ?_
    repeat (first | ((apply H.assign); (iterate 3 exact rfl)) | (apply H.fieldAddr; (iterate 3 exact rfl); exact inferInstance; exact rfl) | (apply H.load1; (iterate 3 exact rfl); apply Rd1.ofRow; (repeat (exact .here _ _ _)); (iterate 2 exact rfl)) | (first | apply H.seq | apply H.region | apply H.nil | apply H.then_normal) | ((apply H.cmp); (iterate 5 exact rfl)) | (apply H.cond_false; exact rfl) | (first | apply H.skip | apply H.block | apply H.in_normal))
    refine H.loadN (ls := (bodV 5 (1 + ((x.view.toNat % 6 : Nat) : Int))).vals none 0) rfl rfl rfl (Rd.ofRow (by repeat (first | exact .here _ _ _ | apply At.there))) rfl rfl ?_
    refine H.storeN (ls := (Bod.zero 0).vals none 0) (vs := (bodV 5 (1 + ((x.view.toNat % 6 : Nat) : Int))).vals none 0) (ls' := (bodV 5 (1 + ((x.view.toNat % 6 : Nat) : Int))).vals none 0) rfl rfl rfl (allOne_mem rfl) rfl rfl (Nat.le_refl 76) (by repeat (first | exact .here _ _ _ | apply At.there)) ?_
    repeat (first | (first | apply H.nil | apply H.then_normal) | (apply H.ret))
    refine H.drop (x := row bb _ _) (by repeat (first | exact .here _ _ | apply Pull.there)) ?_
    refine H.drop (x := row xb _ _) (by repeat (first | exact .here _ _ | apply Pull.there)) ?_
    refine H.front (x := row ob _ _) (by repeat (first | exact .here _ _ | apply Pull.there)) ?_
    exact H.retD (ls := (bodV 5 (1 + ((x.view.toNat % 6 : Nat) : Int))).vals none 0) rfl rfl rfl (Rd.ofRow (.here _ _ _)) rfl (fun _ s => s.drop (.here _ _)) ⟨nil0, none, 0, rfl, QAt.nil _ _, Dj.nil _, (un_nil _).symm, rfl⟩
  · have hk6 : ((x.kind.toNat : Nat) : Int).tmod 6 = 5 := tmod_nat (b := 6) h
    rw [h]
    show Fn _ _ _ f F (BodP f F (⟨6, 0, 1 + ((x.k.toNat : Nat) : Int), Req.zero, [], dig0 x.client⟩ : Bod))
    refine Fn.enter Tryz.func53 rfl Tryz.ntmps53 rfl (L := [(0, _), (1, _)]) ⟨rfl, rfl, trivial⟩ fun base => ?_
    repeat ((first | apply H.seq | apply H.region))
    refine H.box (ls := x.vals) rfl rfl rfl rfl fun xb => ?_
    refine H.alloc (ls := (Bod.zero 0).vals none 0) rfl rfl rfl fun ob => ?_
    repeat (first | (apply H.fieldAddr; (iterate 3 exact rfl); exact inferInstance; exact rfl) | (apply H.load1; (iterate 3 exact rfl); apply Rd1.ofRow; (repeat (first | exact .here _ _ _ | apply At.there)); (iterate 2 exact rfl)) | (first | apply H.seq | apply H.region | apply H.nil | apply H.then_normal))
    refine H.rem rfl rfl rfl (by decide) hk6 rfl ?_
    repeat (first | (apply H.fieldAddr; (iterate 3 exact rfl); exact inferInstance; exact rfl) | (apply H.load1; (iterate 3 exact rfl); apply Rd1.ofRow; (repeat (first | exact .here _ _ _ | apply At.there)); (iterate 2 exact rfl)) | ((apply H.ar; (iterate 4 exact rfl)); (with_reducible apply wr_u8; omega); exact rfl))
    refine H.rem (z := ((x.view.toNat % 6 : Nat) : Int)) rfl rfl rfl (by decide) (by rw [Int.ofNat_tmod]; rfl) rfl ?_
    repeat (first | (refine H.build (t := 45) (out := (bodV 6 (1 + ((x.view.toNat % 6 : Nat) : Int))).vals none 0) rfl rfl rfl (by kernel_rfl) rfl ?_) | ((first | (apply H.ar; (iterate 4 exact rfl)) | (apply H.conv_int; (iterate 2 exact rfl))); (with_reducible apply wr_u64; omega); exact rfl))
    refine H.alloc (ls := (Bod.zero 0).vals none 0) rfl rfl rfl fun bb => ?_
    refine H.storeN (ls := (Bod.zero 0).vals none 0) (vs := (bodV 6 (1 + ((x.view.toNat % 6 : Nat) : Int))).vals none 0) (ls' := (bodV 6 (1 + ((x.view.toNat % 6 : Nat) : Int))).vals none 0) rfl rfl rfl (allOne_mem rfl) rfl rfl (Nat.le_refl 76) (.here _ _ _) ?_
    repeat (first | ((apply H.assign); (iterate 3 exact rfl)) | (apply H.fieldAddr; (iterate 3 exact rfl); exact inferInstance; exact rfl) | (apply H.load1; (iterate 3 exact rfl); apply Rd1.ofRow; (repeat (first | exact .here _ _ _ | apply At.there)); (iterate 2 exact rfl)) | (first | apply H.seq | apply H.region | apply H.nil | apply H.then_normal) | ((apply H.cmp); (iterate 5 exact rfl)) | ((first | (apply H.ar; (iterate 4 exact rfl)) | (apply H.conv_int; (iterate 2 exact rfl))); (with_reducible apply wr_u64; omega); exact rfl) | (apply H.store1; (iterate 4 exact rfl); (repeat (exact .here _ _ _)); (repeat (first | exact .here _ _ _ | apply SetV.there))) | (apply H.cond_true; exact rfl) | (apply H.cond_false; exact rfl) | (apply H.block))
    refine H.index_array (i := 0) rfl rfl rfl rfl (by decide) rfl ?_
    repeat (first | (first | apply H.seq | apply H.region | apply H.nil | apply H.then_normal) | (apply H.store1; (iterate 4 exact rfl); (repeat (exact .here _ _ _)); (repeat (first | exact .here _ _ _ | apply SetV.there))) | (apply H.in_normal))
    refine H.loadN (ls := (⟨6, 0, 1 + ((x.k.toNat : Nat) : Int), Req.zero, [], dig0 x.client⟩ : Bod).vals none 0) rfl rfl rfl (Rd.ofRow (by repeat (first | exact .here _ _ _ | apply At.there))) rfl rfl ?_
    refine H.storeN (ls := (Bod.zero 0).vals none 0) (vs := (⟨6, 0, 1 + ((x.k.toNat : Nat) : Int), Req.zero, [], dig0 x.client⟩ : Bod).vals none 0) (ls' := (⟨6, 0, 1 + ((x.k.toNat : Nat) : Int), Req.zero, [], dig0 x.client⟩ : Bod).vals none 0) rfl rfl rfl (allOne_mem rfl) rfl rfl (Nat.le_refl 76) (by repeat (first | exact .here _ _ _ | apply At.there)) ?_
    repeat (first | (first | apply H.nil | apply H.then_normal) | (apply H.ret))
    refine H.drop (x := row bb _ _) (by repeat (first | exact .here _ _ | apply Pull.there)) ?_
    refine H.drop (x := row xb _ _) (by repeat (first | exact .here _ _ | apply Pull.there)) ?_
    refine H.front (x := row ob _ _) (by repeat (first | exact .here _ _ | apply Pull.there)) ?_
    exact H.retD (ls := (⟨6, 0, 1 + ((x.k.toNat : Nat) : Int), Req.zero, [], dig0 x.client⟩ : Bod).vals none 0) rfl rfl rfl (Rd.ofRow (.here _ _ _)) rfl (fun _ s => s.drop (.here _ _)) ⟨nil0, none, 0, rfl, QAt.nil _ _, Dj.nil _, (un_nil _).symm, rfl⟩
end
end Go.Proofs.YtoigpgdmignaoaaGreatDoor

/- Layer 12: the document's worlds: what Acts makes. No condition. -/
namespace Go.Proofs.YtoigpgdmignaoaaGreatDoor
set_option linter.unusedSectionVars false
set_option linter.unusedSimpArgs false
set_option linter.unusedVariables false
open Go
def worldC (kb n : Nat) (ap : Option Addr) (m ac : Nat) : List Value := [.slice (some ⟨kb, 0, none⟩) n n, .slice ap m ac]
/-- A world stands in memory: what each knows, all messages. -/
structure WAt (f : Frag) (n : Nat) (W : W12) (kb : Nat) (ap : Option Addr) (l : List MV) : Prop where
  k : KAt f kb n W.kv
  a : ListAt f ap 121 MV.vals l
  g : ∀ x ∈ l, x.Good f
  m : l.map MV.m = W.all
def ActsP (f : Frag) (F : List HP) (n : Nat) (W : W12) : Value → Frag → List HP → Prop := fun v f' A' =>
  ∃ (g : Frag) (wb kb : Nat) (ap : Option Addr) (ac : Nat) (l : List MV), v = .pointer (some ⟨wb, 0, none⟩) ∧ Dj f g ∧ f' = un f g ∧ A' = row wb 34 (worldC kb n ap l.length ac) :: F ∧ WAt f' n W kb ap l
/-- A vector that is raised, so far. -/
def raised (kv : Nat → Nat → Int) (o j i : Nat) : Nat → Nat → Int := updF kv o fun t => if t < i then maxV (kv o) (kv j) t else kv o t
theorem raised_zero (kv : Nat → Nat → Int) (o j : Nat) : raised kv o j 0 = kv := by
  unfold raised
  have : (fun t => if t < 0 then maxV (kv o) (kv j) t else kv o t) = kv o := by funext t; rw [if_neg (by omega)]
  rw [this, updF_self]
theorem raised_o (kv : Nat → Nat → Int) (o j i : Nat) : raised kv o j i o i = kv o i := by
  unfold raised
  rw [updF_same]
  show (if i < i then _ else _) = _
  rw [if_neg (by omega)]
theorem raised_j (kv : Nat → Nat → Int) (o j i : Nat) : raised kv o j i j i = kv j i := by
  by_cases e : j = o
  · subst e; exact raised_o kv j j i
  · unfold raised; rw [updF_ne _ _ e]
theorem raised_next (kv : Nat → Nat → Int) (o j i : Nat) : updF (raised kv o j i) o (updF (raised kv o j i o) i (maxV (kv o) (kv j) i)) = raised kv o j (i + 1) := by
  unfold raised
  rw [updF_same, updF_updF]
  congr 1
  funext t
  show (if t = i then _ else if t < i then _ else _) = if t < i + 1 then _ else _
  by_cases e : t = i
  · subst e; rw [if_pos rfl, if_pos (by omega)]
  · rw [if_neg e]
    by_cases h : t < i
    · rw [if_pos h, if_pos (by omega)]
    · rw [if_neg h, if_neg (by omega)]
theorem raised_end {n o j : Nat} (W : W12) : kRow n (raised W.kv o j 11) = kRow n (W.meet o j).kv := kRow_congr fun r _ i hi => by
  show raised W.kv o j 11 r i = updF W.kv o (maxV (W.kv o) (W.kv j)) r i
  unfold raised
  by_cases e : r = o
  · subst e; rw [updF_same, updF_same, if_pos hi]
  · rw [updF_ne _ _ e, updF_ne _ _ e]
theorem A12.Has.mono {f g : Frag} (h : Le f g) {x : A12} (hx : x.Has f) : x.Has g := by
  rcases hx with e | ⟨b, off, cs, T, fr, h1, h2, h3⟩
  · exact .inl e
  · exact .inr ⟨b, off, cs, T, fr, h1, h _ _ h2, h3⟩
def A12.zero : A12 := ⟨0, 0, false, 0, 0, 0, 0, [], none, 0⟩
section
variable (f : Frag) (F : List HP)
set_option maxRecDepth 20000 in
set_option maxHeartbeats 3200000 in
theorem acts_fn {n8 : UInt8} {n : Nat} (hn8 : n = 3 + 2 * (n8.toNat % 5)) {p : Option Addr} {c : Nat} {xs : List A12} (hat : ListAt f p 8 A12.vals xs) (hh : ∀ x ∈ xs, x.Has f ∧ x.q.length ≤ 20) (hl : xs.length ≤ 100) :
    Fn Tryz.prog 17 [.int .u8 (n8.toNat : Nat), .slice p xs.length c] f F (ActsP f F n (worldOf n xs)) := by
  have hn3 : 3 ≤ n ∧ n ≤ 11 := by omega
  have hodd := fun G => rodd_fn f G n8
  rw [← hn8] at hodd
  have hn0 : ((n : Nat) : Int) ≠ 0 := by omega
  refine Fn.enter Tryz.func17 rfl Tryz.ntmps17 rfl (L := [(0, _), (1, _)]) ⟨rfl, rfl, trivial⟩ fun base => ?_
  repeat (first | ((first | apply H.move | apply H.assign); (iterate 3 exact rfl)) | (first | apply H.seq | apply H.region | apply H.nil | apply H.then_normal))
  refine H.callR rfl rfl rfl (hodd _) ?_
  refine H.makeS (m := n) (zs := v11 fun _ => 0) rfl rfl rfl rfl rfl rfl rfl (by decide) (by omega) (by omega) rfl fun kb => ?_
  rw [kRow_zero]
  repeat ((refine H.build (t := 34) (out := worldC kb n none 0 0) rfl rfl rfl (by kernel_rfl) rfl ?_))
  refine H.box (ls := worldC kb n none 0 0) rfl rfl rfl rfl fun wb => ?_
  repeat (first | ((apply H.assign); (iterate 3 exact rfl)) | (first | apply H.seq | apply H.region | apply H.nil | apply H.then_normal) | (apply H.block))
  refine H.slc0 47 121 ?_
  refine H.front (x := row kb _ _) (by repeat (first | exact .here _ _ | apply Pull.there)) ?_
  refine H.front (x := row wb _ _) (by repeat (first | exact .here _ _ | apply Pull.there)) ?_
  refine H.loop (ι := Nat × Frag × List MV × Option Addr × Nat) (fun s => [(6, .int .i64 (s.1 : Int)), (1, .slice p xs.length c), (5, .pointer (some ⟨wb, 0, none⟩))]) (fun s => un f s.2.1)
    (fun s => row wb 34 (worldC kb n s.2.2.2.1 s.2.2.1.length s.2.2.2.2) :: row kb 37 (kRow n (worldOf n (xs.take s.1)).kv) :: slc s.2.2.2.1 s.2.2.1.length s.2.2.2.2 47 121 (s.2.2.1.flatMap MV.vals) :: F)
    (fun s => s.1 ≤ xs.length ∧ s.2.2.1.map MV.m = (worldOf n (xs.take s.1)).all ∧ (∀ y ∈ s.2.2.1, y.Good (un f s.2.1)) ∧ Dj f s.2.1) (fun s => xs.length - s.1)
    (0, nil0, [], none, 0) ⟨Nat.zero_le _, rfl, (fun y hy => by cases hy), Dj.nil f⟩ ⟨rfl, rfl, rfl, trivial⟩ (un_nil f).symm rfl fun s hs => ?_
  obtain ⟨k, G, l, ap, ac⟩ := s
  obtain ⟨hk, hm, hg, hdj⟩ : k ≤ xs.length ∧ l.map MV.m = (worldOf n (xs.take k)).all ∧ (∀ y ∈ l, y.Good (un f G)) ∧ Dj f G := hs
  show H _ _ _ [(6, .int .i64 (k : Int)), _, _] (un f G) (row wb _ (worldC kb n ap l.length ac) :: row kb _ (kRow n (worldOf n (xs.take k)).kv) :: slc ap l.length ac _ 121 (l.flatMap MV.vals) :: F) _
  have hinv := worldOf_inv (n := n) (by omega) hn3.2 xs k
  have hwl := worldOf_len n xs k
  have hll : l.length ≤ 100 := by
    have := congrArg List.length hm
    rw [List.length_map] at this
    omega
  by_cases hlt : k < xs.length
  · obtain ⟨x, hx⟩ : ∃ x, xs[k]? = some x := ⟨_, List.getElem?_eq_getElem hlt⟩
    have hnext : worldOf n (xs.take (k + 1)) = (worldOf n (xs.take k)).act n x := by rw [take_snoc hx, worldOf_snoc]
    obtain ⟨hxa, hxq⟩ := hh x (List.mem_of_getElem? hx)
    obtain ⟨b, off, cs, T, fr, rfl, hfb, hcs⟩ := hat k x hx
    have rd : ∀ A, Rd (un f G) A b (off + k * 8) x.vals := fun A => Rd.imm (Le.un f G b _ hfb) hcs
    clear hcs hfb
    generalize hW : worldOf n (xs.take k) = W at *
    have ho : x.who.toNat % n < n := Nat.mod_lt _ (by omega)
    have hkv := hinv.kv_le ho
    have hrem := tmod_nat (a := x.who.toNat) (b := n) rfl
    have hwho := x.who.toNat_lt
    have hoth := x.other.toNat_lt
    have hj : x.other.toNat % n < n := Nat.mod_lt _ (by omega)
    repeat (first | ((first | apply H.move | apply H.len_slice); (iterate 3 exact rfl)) | (first | apply H.seq | apply H.region | apply H.nil | apply H.then_normal) | ((apply H.cmp); (iterate 5 exact rfl)) | (first | apply H.skip | apply H.block) | (apply H.cond_yes; exact rfl; (omega)))
    refine H.index_slice (i := k) rfl rfl rfl rfl hlt rfl ?_
    refine H.loadN (ls := x.vals) rfl rfl rfl (rd _) rfl rfl ?_
    refine H.alloc (ls := A12.zero.vals) rfl rfl rfl fun xb => ?_
    refine H.storeN (ls := A12.zero.vals) (vs := x.vals) (ls' := x.vals) rfl rfl rfl (allOne_mem rfl) rfl rfl (Nat.le_refl 8) (.here _ _ _) ?_
    repeat ((first | apply H.seq | apply H.nil | apply H.then_normal))
    refine H.drawQ (by kernel_rfl) (by decide +kernel) (by first | exact blind_fn | exact blind_seq blind_fn | exact blind_seq (blind_seq blind_fn) | (repeat (first | exact blind_fn | refine blind_seq ?_ | refine blind_block ?_ | refine blind_loop ?_))) ?_
    repeat (first | (refine HQ.rem (z := ((x.who.toNat % n : Nat) : Int)) rfl rfl rfl hn0 hrem rfl ?_) | ((first | apply HQ.move | apply HQ.assign | apply HQ.nilCheck | apply HQ.len_slice); (iterate 3 exact rfl)) | (apply HQ.fieldAddr; (iterate 3 exact rfl); exact inferInstance; exact rfl) | (apply HQ.load1; (iterate 3 exact rfl); apply Rd1.ofRow; (repeat (first | exact .here _ _ _ | apply At.there)); (iterate 2 exact rfl)) | ((apply HQ.done0); exact rfl) | ((apply HQ.conv_int; (iterate 2 exact rfl)); (with_reducible apply wr_i64; omega); exact rfl))
    repeat (first | (apply H.fieldAddr; (iterate 3 exact rfl); exact inferInstance; exact rfl) | (apply H.load1; (iterate 3 exact rfl); apply Rd1.ofRow; (repeat (exact .here _ _ _)); (iterate 2 exact rfl)) | (first | apply H.seq | apply H.region | apply H.nil | apply H.then_normal))
    cases hmt : x.meet with
    | true =>
      unfold W12.act at hnext
      rw [if_pos hmt] at hnext
      repeat (first | (apply H.seq) | (apply H.cond_true; exact rfl))
      generalize hoe : x.who.toNat % n = o at *
      refine H.drawQ (by kernel_rfl) (by decide +kernel) (by first | exact blind_fn | exact blind_seq blind_fn | exact blind_seq (blind_seq blind_fn) | (repeat (first | exact blind_fn | refine blind_seq ?_ | refine blind_block ?_ | refine blind_loop ?_))) ?_
      repeat (first | (refine HQ.rem (z := ((x.other.toNat % n : Nat) : Int)) rfl rfl rfl hn0 (tmod_nat (a := x.other.toNat) (b := n) rfl) rfl ?_) | ((first | apply HQ.move | apply HQ.assign | apply HQ.nilCheck | apply HQ.len_slice); (iterate 3 exact rfl)) | (apply HQ.fieldAddr; (iterate 3 exact rfl); exact inferInstance; exact rfl) | (apply HQ.load1; (iterate 3 exact rfl); apply Rd1.ofRow; (repeat (first | exact .here _ _ _ | apply At.there)); (iterate 2 exact rfl)) | ((apply HQ.done0); exact rfl) | ((apply HQ.conv_int; (iterate 2 exact rfl)); (with_reducible apply wr_i64; omega); exact rfl))
      repeat (first | ((apply H.assign); (iterate 3 exact rfl)) | (first | apply H.seq | apply H.region | apply H.nil | apply H.then_normal) | (apply H.block))
      generalize hje : x.other.toNat % n = j at *
      refine H.front (x := row kb _ _) (by repeat (first | exact .here _ _ | apply Pull.there)) ?_
      refine H.front (x := row wb _ _) (by repeat (first | exact .here _ _ | apply Pull.there)) ?_
      refine H.loop (ι := Nat) (fun i => [(10, .int .i64 (i : Int)), (8, .int .i64 (o : Int)), (9, .int .i64 (j : Int)), (5, .pointer (some ⟨wb, 0, none⟩)), (6, .int .i64 (k : Int)), (1, .slice (some ⟨b, off, none⟩) xs.length c)]) (fun _ => un f G)
        (fun i => row wb 34 (worldC kb n ap l.length ac) :: row kb 37 (kRow n (raised W.kv o j i)) :: row xb 113 x.vals :: slc ap l.length ac 47 121 (l.flatMap MV.vals) :: F)
        (fun i => i ≤ 11) (fun i => 11 - i) 0 (Nat.zero_le _) ⟨rfl, rfl, rfl, rfl, rfl, rfl, trivial⟩ rfl (by rw [raised_zero]) fun i hi => ?_
      have hi : i ≤ 11 := hi
      by_cases hi11 : i < 11
      · have hro := raised_o W.kv o j i
        have hrj := raised_j W.kv o j i
        have hrn := raised_next W.kv o j i
        have hg1 := kRow_get (kv := raised W.kv o j i) ho hi11
        have hg2 := kRow_get (kv := raised W.kv o j i) hj hi11
        rw [hro] at hg1
        rw [hrj] at hg2
        have hset := kRow_set (kv := raised W.kv o j i) (maxV (W.kv o) (W.kv j) i) ho hi11
        rw [hrn] at hset
        repeat (first | ((apply H.move); (iterate 3 exact rfl)) | (first | apply H.seq | apply H.region | apply H.nil | apply H.then_normal) | ((apply H.cmp); (iterate 5 exact rfl)) | (first | apply H.skip | apply H.block) | (apply H.cond_yes; exact rfl; (omega)))
        refine H.drawC [0, 1, 2, 3, 4, 5, 6, 7, 8, 9, 10, 11, 12, 13, 14, 15, 16, 17, 18, 19, 20, 21, 22, 23, 24, 25, 26] (by kernel_rfl) (by decide +kernel) (by first | exact blind_fn | exact blind_seq blind_fn | exact blind_seq (blind_seq blind_fn) | (repeat (first | exact blind_fn | refine blind_seq ?_ | refine blind_block ?_ | refine blind_loop ?_))) (S := [_, _]) rfl ?_
        refine HB.quiet [(0, false), (1, false), (2, false), (3, false), (4, false), (5, false), (6, false), (7, false), (8, false), (9, false), (10, false), (11, false), (12, false), (13, false), (14, false), (15, false), (16, false), (17, false), (18, false), (19, false), (20, false), (21, false), (22, false), (23, false), (24, false), (25, false), (26, false)] 1 (by kernel_rfl) ?_
        repeat (first | ((first | apply HQ.move | apply HQ.nilCheck); (iterate 3 exact rfl)) | (apply HQ.fieldAddr; (iterate 3 exact rfl); exact inferInstance; exact rfl) | (apply HQ.load1; (iterate 3 exact rfl); apply Rd1.ofRow; (repeat (exact .here _ _ _)); (iterate 2 exact rfl)))
        refine HQ.index_slice (i := o) rfl rfl rfl rfl ho rfl ?_
        refine HQ.index_array (i := i) rfl rfl rfl rfl hi11 rfl ?_
        refine HQ.load1 rfl rfl rfl (.at0 (Rd.ofRow (.there _ (.here _ _ _))) (by rw [Nat.zero_add, Nat.mul_one]; exact hg1)) rfl ?_
        repeat (first | ((first | apply HQ.move | apply HQ.nilCheck); (iterate 3 exact rfl)) | (apply HQ.fieldAddr; (iterate 3 exact rfl); exact inferInstance; exact rfl) | (apply HQ.load1; (iterate 3 exact rfl); apply Rd1.ofRow; (repeat (exact .here _ _ _)); (iterate 2 exact rfl)))
        refine HQ.index_slice (i := j) rfl rfl rfl rfl hj rfl ?_
        refine HQ.index_array (i := i) rfl rfl rfl rfl hi11 rfl ?_
        refine HQ.load1 rfl rfl rfl (.at0 (Rd.ofRow (.there _ (.here _ _ _))) (by rw [Nat.zero_add, Nat.mul_one]; exact hg2)) rfl ?_
        refine HQ.max2 (z := maxV (W.kv o) (W.kv j) i) rfl rfl rfl rfl rfl ?_
        refine HQ.index_slice (i := o) rfl rfl rfl rfl ho rfl ?_
        refine HQ.index_array (i := i) rfl rfl rfl rfl hi11 rfl ?_
        refine HQ.more rfl ?_
        refine HB.next [] (by kernel_rfl) (S' := []) rfl ?_
        refine HB.ev1 (i := 27) (by kernel_rfl) rfl ?_
        refine H.store1 (v := .int .u64 (maxV (W.kv o) (W.kv j) i)) (ls := kRow n (raised W.kv o j i)) (ls' := kRow n (raised W.kv o j (i + 1))) rfl rfl rfl rfl (.there _ (.here _ _ _)) (by rw [Nat.zero_add, Nat.mul_one]; exact hset) ?_
        repeat ((apply H.nil))
        refine H.on0 rfl ?_
        refine HB.done (by kernel_rfl) ?_
        repeat (first | ((first | apply H.move | apply H.assign); (iterate 3 exact rfl)) | (first | apply H.region | apply H.nil | apply H.then_normal) | ((apply H.ar; (iterate 4 exact rfl)); (with_reducible apply wr_i64_n1; omega); exact rfl) | (apply H.in_normal))
        refine H.again (i + 1) (by show i + 1 ≤ 11; omega) (by show 11 - (i + 1) < 11 - i; omega) ⟨rfl, rfl, rfl, rfl, rfl, rfl, trivial⟩ rfl rfl
      · have e : i = 11 := by omega
        subst e
        rw [raised_end]
        repeat (first | ((first | apply H.move | apply H.assign); (iterate 3 exact rfl)) | (first | apply H.seq | apply H.region | apply H.nil | apply H.then_normal) | ((apply H.cmp); (iterate 5 exact rfl)) | ((apply H.ar; (iterate 4 exact rfl)); (with_reducible apply wr_i64_n1; omega); exact rfl) | (apply H.cond_false; exact rfl) | (first | apply H.then_exit | apply H.exit | apply H.in_hit | apply H.loop_exit))
        refine H.drop (x := row xb _ _) (by repeat (first | exact .here _ _ | apply Pull.there)) ?_
        refine H.again (k + 1, G, l, ap, ac) ⟨by show k + 1 ≤ xs.length; omega, by show l.map MV.m = _; rw [hnext]; exact hm, hg, hdj⟩ (by show xs.length - (k + 1) < xs.length - k; omega) ⟨rfl, rfl, rfl, trivial⟩ rfl ?_
        show _ :: _ :: _ = _ :: row kb _ (kRow n (worldOf n (xs.take (k + 1))).kv) :: _
        rw [hnext]
    | false =>
      unfold W12.act at hnext
      rw [if_neg (by rw [hmt]; decide)] at hnext
      repeat (first | (first | apply H.seq | apply H.then_normal) | (apply H.cond_false; exact rfl) | (apply H.skip))
      generalize hoe : x.who.toNat % n = o at *
      refine H.front (x := row kb _ _) (by repeat (first | exact .here _ _ | apply Pull.there)) ?_
      refine H.front (x := row wb _ _) (by repeat (first | exact .here _ _ | apply Pull.there)) ?_
      refine H.front (x := row xb _ _) (by repeat (first | exact .here _ _ | apply Pull.there)) ?_
      have hxa2 : x.Has (un f G) := A12.Has.mono (Le.un f G) hxa
      have hgk0 := kRow_get (kv := W.kv) ho (show o < 11 by omega)
      refine H.drawB (by kernel_rfl) (by decide +kernel) (by first | exact blind_fn | exact blind_seq blind_fn | exact blind_seq (blind_seq blind_fn) | (repeat (first | exact blind_fn | refine blind_seq ?_ | refine blind_block ?_ | refine blind_loop ?_))) (S := [_, _, _]) rfl ?_
      refine HB.quiet [(0, false), (1, false), (2, false), (3, false), (4, false), (5, false), (6, false), (7, false), (8, false), (9, false), (10, false), (11, false), (12, false), (13, false), (14, false), (15, false), (16, false), (17, false), (18, false), (19, false), (20, false), (21, false), (22, false), (23, false), (24, false)] 4 (by kernel_rfl) ?_
      have hko := hkv o
      repeat (first | ((first | apply HQ.move | apply HQ.nilCheck); (iterate 3 exact rfl)) | (apply HQ.fieldAddr; (iterate 3 exact rfl); exact inferInstance; exact rfl) | (apply HQ.load1; (iterate 3 exact rfl); apply Rd1.ofRow; (repeat (first | exact .here _ _ _ | apply At.there)); (iterate 2 exact rfl)) | ((apply HQ.ar; (iterate 4 exact rfl)); (with_reducible apply wr_i64_n1; omega); exact rfl))
      refine HQ.index_slice (i := o) rfl rfl rfl rfl ho rfl ?_
      refine HQ.index_array (i := o) rfl rfl rfl rfl (by omega) rfl ?_
      refine HQ.load1 rfl rfl rfl (.at0 (Rd.ofRow (.there _ (.there _ (.here _ _ _)))) (by rw [Nat.zero_add, Nat.mul_one]; exact hgk0)) rfl ?_
      repeat (first | ((first | apply HQ.move | apply HQ.nilCheck); (iterate 3 exact rfl)) | (apply HQ.fieldAddr; (iterate 3 exact rfl); exact inferInstance; exact rfl) | (apply HQ.load1; (iterate 3 exact rfl); apply Rd1.ofRow; (repeat (first | exact .here _ _ _ | apply At.there)); (iterate 2 exact rfl)) | ((apply HQ.ar; (iterate 4 exact rfl)); (with_reducible apply wr_u64; omega); exact rfl))
      refine HQ.index_slice (i := o) rfl rfl rfl rfl ho rfl ?_
      refine HQ.loadN (ls := v11 (W.kv o)) rfl rfl rfl (by rw [Nat.zero_add]; exact Rd.kRow (Rd.ofRow (.there _ (.there _ (.here _ _ _)))) ho) rfl rfl ?_
      refine HQ.loadN (ls := x.vals) rfl rfl rfl (Rd.ofRow (.here _ _ _)) rfl rfl ?_
      repeat (first | ((first | apply HQ.move | apply HQ.nilCheck | apply HQ.len_slice); (iterate 3 exact rfl)) | (apply HQ.fieldAddr; (iterate 3 exact rfl); exact inferInstance; exact rfl) | (apply HQ.load1; (iterate 3 exact rfl); apply Rd1.ofRow; (repeat (first | exact .here _ _ _ | apply At.there)); (iterate 2 exact rfl)))
      refine HQ.more rfl ?_
      refine HB.ev2 (i := 25) (j := 27) (by kernel_rfl) rfl rfl ?_ ?_
      · refine H.call rfl rfl rfl (abody_fn (un f G) _ (n := n) ⟨by omega, by omega⟩ hxa2 hxq) fun v f' A' hr => ?_
        obtain ⟨g, qp, qc, rfl, hqat, hd, rfl, rfl⟩ := hr
        have hgood : (⟨W.next n o x, qp, qc⟩ : MV).Good (un (un f G) g) := ⟨hqat, by have := (x.bod_q (n := n) (by omega)).1; show (x.bod n).q.length ≤ _; omega, x.bod_ok n⟩
        have hmsg := good_signed hgood
        have hmay : ∀ H, Fn Tryz.prog 54 [.agg ((W.next n o x).vals qp qc).toArray] (un (un f G) g) H (Ret (.bool (W.next n o x).may) (un (un f G) g) H) := fun H => rmay_fn (un (un f G) g) H hgood.1 (by have := hgood.2.1; show (W.next n o x).body.q.length ≤ _; have h2 : (W.next n o x).body.q.length ≤ 1000000 := this; omega)
        have hsg := fun H => rtagged_fn (un (un f G) g) H (m := W.next n o x) (q := qp) (qc := qc) hgood.1 (by have h2 : (W.next n o x).body.q.length ≤ 1000000 := hgood.2.1; omega)
        repeat ((apply H.nil))
        refine H.on [] (Le.un _ g) rfl ?_
        refine HB.quiet [(26, false)] 2 (by kernel_rfl) ?_
        refine HQ.build (t := 47) (out := (W.next n o x).vals qp qc) rfl rfl rfl (by kernel_rfl) rfl ?_
        refine HQ.more rfl ?_
        refine HB.ev1 (i := 27) (by kernel_rfl) rfl ?_
        refine H.alloc (ls := msgZ.vals none 0) rfl rfl rfl fun mb => ?_
        repeat ((apply H.nil))
        refine H.front (x := row kb _ _) (by repeat (first | exact .here _ _ | apply Pull.there)) ?_
        refine H.front (x := row wb _ _) (by repeat (first | exact .here _ _ | apply Pull.there)) ?_
        refine H.front (x := row xb _ _) (by repeat (first | exact .here _ _ | apply Pull.there)) ?_
        refine H.on0 rfl ?_
        refine HB.ev1 (i := 28) (by kernel_rfl) rfl ?_
        refine H.storeN (ls := msgZ.vals none 0) (vs := (W.next n o x).vals qp qc) (ls' := (W.next n o x).vals qp qc) rfl rfl rfl (allOne_mem rfl) rfl rfl (Nat.le_refl 121) (by repeat (first | exact .here _ _ _ | apply At.there)) ?_
        repeat ((apply H.nil))
        refine H.on0 rfl ?_
        refine HB.done (by kernel_rfl) ?_
        repeat ((first | apply H.seq | apply H.region | apply H.then_normal))
        refine H.loadN (ls := (W.next n o x).vals qp qc) rfl rfl rfl (Rd.ofRow (by repeat (first | exact .here _ _ _ | apply At.there))) rfl rfl ?_
        cases hmy : (W.next n o x).may with
        | false =>
          rw [hmy] at hmay
          rw [if_neg (by rw [hmy]; decide)] at hnext
          refine H.callR rfl rfl rfl (hmay _) ?_
          repeat (first | ((first | apply H.move | apply H.assign); (iterate 3 exact rfl)) | (first | apply H.region | apply H.nil | apply H.then_normal) | ((apply H.ar; (iterate 4 exact rfl)); (with_reducible apply wr_i64_n1; omega); exact rfl) | (apply H.cond_false; exact rfl) | (first | apply H.skip | apply H.in_normal))
          refine H.drop (x := row mb _ _) (by repeat (first | exact .here _ _ | apply Pull.there)) ?_
          refine H.drop (x := row xb _ _) (by repeat (first | exact .here _ _ | apply Pull.there)) ?_
          refine H.front (x := slc ap _ ac _ _ _) (by repeat (first | exact .here _ _ | apply Pull.there)) ?_
          refine H.front (x := row kb _ _) (by repeat (first | exact .here _ _ | apply Pull.there)) ?_
          refine H.front (x := row wb _ _) (by repeat (first | exact .here _ _ | apply Pull.there)) ?_
          refine H.again (k + 1, un G g, l, ap, ac) ⟨by show k + 1 ≤ xs.length; omega, by show l.map MV.m = _; rw [hnext]; exact hm, fun y hy => by show y.Good (un f (un G g)); rw [← un_assoc]; exact (hg y hy).mono (Le.un _ g), Dj.un3' hdj hd⟩ (by show xs.length - (k + 1) < xs.length - k; omega) ⟨rfl, rfl, rfl, trivial⟩ (un_assoc _ _ _) ?_
          show _ :: _ :: _ = _ :: row kb _ (kRow n (worldOf n (xs.take (k + 1))).kv) :: _
          rw [hnext]
        | true =>
          rw [hmy] at hmay
          rw [if_pos hmy] at hnext
          refine H.callR rfl rfl rfl (hmay _) ?_
          repeat (first | (first | apply H.seq | apply H.nil | apply H.then_normal) | (apply H.cond_true; exact rfl))
          refine H.front (x := row wb _ _) (by repeat (first | exact .here _ _ | apply Pull.there)) ?_
          refine H.front (x := row mb _ _) (by repeat (first | exact .here _ _ | apply Pull.there)) ?_
          refine H.drawC [0, 1, 2, 3, 4, 5, 6, 7, 8] (by kernel_rfl) (by decide +kernel) (by first | exact blind_fn | exact blind_seq blind_fn | exact blind_seq (blind_seq blind_fn) | (repeat (first | exact blind_fn | refine blind_seq ?_ | refine blind_block ?_ | refine blind_loop ?_))) (S := [_, _]) rfl ?_
          refine HB.quiet [(0, false), (1, false), (2, false), (3, false), (4, false), (5, false)] 6 (by kernel_rfl) ?_
          repeat (first | ((first | apply HQ.move | apply HQ.nilCheck); (iterate 3 exact rfl)) | (apply HQ.fieldAddr; (iterate 3 exact rfl); exact inferInstance; exact rfl) | (apply HQ.load1; (iterate 3 exact rfl); apply Rd1.ofRow; (repeat (first | exact .here _ _ _ | apply At.there)); (iterate 2 exact rfl)))
          refine HQ.loadN (ls := (W.next n o x).vals qp qc) rfl rfl rfl (Rd.ofRow (.here _ _ _)) rfl rfl ?_
          refine HQ.more rfl ?_
          refine HB.ev1 (i := 6) (by kernel_rfl) rfl ?_
          refine H.callR rfl rfl rfl (hsg _) ?_
          generalize hms : (W.next n o x).signed = ms at *
          repeat ((apply H.nil))
          refine H.on0 rfl ?_
          refine HB.ev1 (i := 7) (by kernel_rfl) rfl ?_
          refine H.buildSlice (out := ms.vals qp qc) rfl rfl rfl rfl (by decide) (by decide) rfl rfl fun eb => ?_
          repeat ((apply H.nil))
          refine H.front (x := row wb _ _) (by repeat (first | exact .here _ _ | apply Pull.there)) ?_
          refine H.front (x := row mb _ _) (by repeat (first | exact .here _ _ | apply Pull.there)) ?_
          refine H.on0 rfl ?_
          refine HB.ev1 (i := 8) (by kernel_rfl) rfl ?_
          refine H.append (p := ap) (n0 := l.length) (c := ac) (xs := l.flatMap MV.vals) (m := 1) (news := ms.vals qp qc) rfl rfl rfl rfl rfl (fun p' c' => (by repeat (first | exact .here _ _ _ | apply At.there))) (Src.slice (Rd.ofRow (by repeat (first | exact .here _ _ _ | apply At.there))) rfl) (allOne_mem rfl) rfl (by omega) (by omega) fun ap2 ac2 => ?_
          repeat ((apply H.nil))
          refine H.drop (x := row eb _ _) (by repeat (first | exact .here _ _ | apply Pull.there)) ?_
          refine H.on0 rfl ?_
          refine HB.next [] (by kernel_rfl) (S' := []) rfl ?_
          refine HB.quiet [(9, false), (10, false)] 1 (by kernel_rfl) ?_
          repeat (first | ((apply HQ.nilCheck); (iterate 3 exact rfl)) | (apply HQ.fieldAddr; (iterate 3 exact rfl); exact inferInstance; exact rfl))
          refine HQ.more rfl ?_
          refine HB.ev1 (i := 11) (by kernel_rfl) rfl ?_
          refine H.store1 (ls := worldC kb n ap l.length ac) (ls' := worldC kb n ap2 (l.length + 1) ac2) rfl rfl rfl rfl (.there _ (.here _ _ _)) (.there _ (.here _ _ _)) ?_
          repeat ((apply H.nil))
          refine H.on0 rfl ?_
          refine HB.done (by kernel_rfl) ?_
          repeat ((apply H.then_normal))
          have hgk := kRow_get (kv := W.kv) ho (show o < 11 by omega)
          have hset := kRow_set (kv := W.kv) (W.kv o o + 1) ho (show o < 11 by omega)
          refine H.front (x := row kb _ _) (by repeat (first | exact .here _ _ | apply Pull.there)) ?_
          refine H.front (x := row wb _ _) (by repeat (first | exact .here _ _ | apply Pull.there)) ?_
          refine H.drawC [0, 1, 2, 3, 4, 5, 6, 7, 8, 9, 10, 11] (by kernel_rfl) (by decide +kernel) (by first | exact blind_fn | exact blind_seq blind_fn | exact blind_seq (blind_seq blind_fn) | (repeat (first | exact blind_fn | refine blind_seq ?_ | refine blind_block ?_ | refine blind_loop ?_))) (S := [_, _]) rfl ?_
          refine HB.quiet [(0, false), (1, false), (2, false), (3, false), (4, false), (5, false), (6, false), (7, false), (8, false), (9, false), (10, false), (11, false)] 1 (by kernel_rfl) ?_
          repeat (first | ((first | apply HQ.move | apply HQ.nilCheck); (iterate 3 exact rfl)) | (apply HQ.fieldAddr; (iterate 3 exact rfl); exact inferInstance; exact rfl) | (apply HQ.load1; (iterate 3 exact rfl); apply Rd1.ofRow; (repeat (exact .here _ _ _)); (iterate 2 exact rfl)))
          refine HQ.index_slice (i := o) rfl rfl rfl rfl ho rfl ?_
          refine HQ.index_array (i := o) rfl rfl rfl rfl (by omega) rfl ?_
          refine HQ.load1 rfl rfl rfl (.at0 (Rd.ofRow (.there _ (.here _ _ _))) (by rw [Nat.zero_add, Nat.mul_one]; exact hgk)) rfl ?_
          repeat (((apply HQ.ar; (iterate 4 exact rfl)); (with_reducible apply wr_u64; omega); exact rfl))
          refine HQ.index_slice (i := o) rfl rfl rfl rfl ho rfl ?_
          refine HQ.index_array (i := o) rfl rfl rfl rfl (by omega) rfl ?_
          refine HQ.more rfl ?_
          refine HB.next [] (by kernel_rfl) (S' := []) rfl ?_
          refine HB.ev1 (i := 12) (by kernel_rfl) rfl ?_
          refine H.store1 (v := .int .u64 (W.kv o o + 1)) (ls := kRow n W.kv) (ls' := kRow n (W.say o ms).kv) rfl rfl rfl rfl (.there _ (.here _ _ _)) (by rw [Nat.zero_add, Nat.mul_one]; exact hset) ?_
          repeat ((apply H.nil))
          refine H.on0 rfl ?_
          refine HB.done (by kernel_rfl) ?_
          repeat (first | ((first | apply H.move | apply H.assign); (iterate 3 exact rfl)) | (first | apply H.region | apply H.nil | apply H.then_normal) | ((apply H.ar; (iterate 4 exact rfl)); (with_reducible apply wr_i64_n1; omega); exact rfl) | (apply H.in_normal))
          refine H.drop (x := row mb _ _) (by repeat (first | exact .here _ _ | apply Pull.there)) ?_
          refine H.drop (x := row xb _ _) (by repeat (first | exact .here _ _ | apply Pull.there)) ?_
          refine H.front (x := slc ap2 _ ac2 _ _ _) (by repeat (first | exact .here _ _ | apply Pull.there)) ?_
          refine H.front (x := row kb _ _) (by repeat (first | exact .here _ _ | apply Pull.there)) ?_
          refine H.front (x := row wb _ _) (by repeat (first | exact .here _ _ | apply Pull.there)) ?_
          refine H.again (k + 1, un G g, l ++ [⟨ms, qp, qc⟩], ap2, ac2) ⟨by show k + 1 ≤ xs.length; omega, by show (l ++ [(⟨ms, qp, qc⟩ : MV)]).map MV.m = _; rw [hnext, List.map_append, hm]; rfl, fun y hy => ?_, Dj.un3' hdj hd⟩ (by show xs.length - (k + 1) < xs.length - k; omega) ⟨rfl, rfl, rfl, trivial⟩ (un_assoc _ _ _) ?_
          · show y.Good (un f (un G g))
            rw [← un_assoc]
            have hy : y ∈ l ++ [(⟨ms, qp, qc⟩ : MV)] := hy
            rcases List.mem_append.1 hy with hy | hy
            · exact (hg y hy).mono (Le.un _ g)
            · rw [List.mem_singleton] at hy; subst hy; exact hmsg
          · show row wb _ (worldC kb n ap2 (l.length + 1) ac2) :: _ :: slc ap2 (l.length + 1) ac2 _ 121 (l.flatMap MV.vals ++ (⟨ms, qp, qc⟩ : MV).vals) :: F = row wb _ (worldC kb n ap2 (l ++ [(⟨ms, qp, qc⟩ : MV)]).length ac2) :: row kb _ (kRow n (worldOf n (xs.take (k + 1))).kv) :: slc ap2 (l ++ [(⟨ms, qp, qc⟩ : MV)]).length ac2 _ 121 ((l ++ [(⟨ms, qp, qc⟩ : MV)]).flatMap MV.vals) :: F
            rw [slc_snoc, hnext, List.length_append]
            rfl
      · refine H.alloc (ls := msgZ.vals none 0) rfl rfl rfl fun mb => ?_
        repeat ((apply H.nil))
        refine H.front (x := row kb _ _) (by repeat (first | exact .here _ _ | apply Pull.there)) ?_
        refine H.front (x := row wb _ _) (by repeat (first | exact .here _ _ | apply Pull.there)) ?_
        refine H.front (x := row xb _ _) (by repeat (first | exact .here _ _ | apply Pull.there)) ?_
        refine H.on0 rfl ?_
        refine HB.ev1 (i := 25) (by kernel_rfl) rfl ?_
        refine H.call rfl rfl rfl (abody_fn (un f G) _ (n := n) ⟨by omega, by omega⟩ hxa2 hxq) fun v f' A' hr => ?_
        obtain ⟨g, qp, qc, rfl, hqat, hd, rfl, rfl⟩ := hr
        have hgood : (⟨W.next n o x, qp, qc⟩ : MV).Good (un (un f G) g) := ⟨hqat, by have := (x.bod_q (n := n) (by omega)).1; show (x.bod n).q.length ≤ _; omega, x.bod_ok n⟩
        have hmsg := good_signed hgood
        have hmay : ∀ H, Fn Tryz.prog 54 [.agg ((W.next n o x).vals qp qc).toArray] (un (un f G) g) H (Ret (.bool (W.next n o x).may) (un (un f G) g) H) := fun H => rmay_fn (un (un f G) g) H hgood.1 (by have := hgood.2.1; show (W.next n o x).body.q.length ≤ _; have h2 : (W.next n o x).body.q.length ≤ 1000000 := this; omega)
        have hsg := fun H => rtagged_fn (un (un f G) g) H (m := W.next n o x) (q := qp) (qc := qc) hgood.1 (by have h2 : (W.next n o x).body.q.length ≤ 1000000 := hgood.2.1; omega)
        repeat ((apply H.nil))
        refine H.on [] (Le.un _ g) rfl ?_
        refine HB.quiet [(26, false)] 1 (by kernel_rfl) ?_
        refine HQ.build (t := 47) (out := (W.next n o x).vals qp qc) rfl rfl rfl (by kernel_rfl) rfl ?_
        refine HQ.more rfl ?_
        refine HB.ev1 (i := 28) (by kernel_rfl) rfl ?_
        refine H.storeN (ls := msgZ.vals none 0) (vs := (W.next n o x).vals qp qc) (ls' := (W.next n o x).vals qp qc) rfl rfl rfl (allOne_mem rfl) rfl rfl (Nat.le_refl 121) (by repeat (first | exact .here _ _ _ | apply At.there)) ?_
        repeat ((apply H.nil))
        refine H.on0 rfl ?_
        refine HB.done (by kernel_rfl) ?_
        repeat ((first | apply H.seq | apply H.region | apply H.then_normal))
        refine H.loadN (ls := (W.next n o x).vals qp qc) rfl rfl rfl (Rd.ofRow (by repeat (first | exact .here _ _ _ | apply At.there))) rfl rfl ?_
        cases hmy : (W.next n o x).may with
        | false =>
          rw [hmy] at hmay
          rw [if_neg (by rw [hmy]; decide)] at hnext
          refine H.callR rfl rfl rfl (hmay _) ?_
          repeat (first | ((first | apply H.move | apply H.assign); (iterate 3 exact rfl)) | (first | apply H.region | apply H.nil | apply H.then_normal) | ((apply H.ar; (iterate 4 exact rfl)); (with_reducible apply wr_i64_n1; omega); exact rfl) | (apply H.cond_false; exact rfl) | (first | apply H.skip | apply H.in_normal))
          refine H.drop (x := row mb _ _) (by repeat (first | exact .here _ _ | apply Pull.there)) ?_
          refine H.drop (x := row xb _ _) (by repeat (first | exact .here _ _ | apply Pull.there)) ?_
          refine H.front (x := slc ap _ ac _ _ _) (by repeat (first | exact .here _ _ | apply Pull.there)) ?_
          refine H.front (x := row kb _ _) (by repeat (first | exact .here _ _ | apply Pull.there)) ?_
          refine H.front (x := row wb _ _) (by repeat (first | exact .here _ _ | apply Pull.there)) ?_
          refine H.again (k + 1, un G g, l, ap, ac) ⟨by show k + 1 ≤ xs.length; omega, by show l.map MV.m = _; rw [hnext]; exact hm, fun y hy => by show y.Good (un f (un G g)); rw [← un_assoc]; exact (hg y hy).mono (Le.un _ g), Dj.un3' hdj hd⟩ (by show xs.length - (k + 1) < xs.length - k; omega) ⟨rfl, rfl, rfl, trivial⟩ (un_assoc _ _ _) ?_
          show _ :: _ :: _ = _ :: row kb _ (kRow n (worldOf n (xs.take (k + 1))).kv) :: _
          rw [hnext]
        | true =>
          rw [hmy] at hmay
          rw [if_pos hmy] at hnext
          refine H.callR rfl rfl rfl (hmay _) ?_
          repeat (first | (first | apply H.seq | apply H.nil | apply H.then_normal) | (apply H.cond_true; exact rfl))
          refine H.front (x := row wb _ _) (by repeat (first | exact .here _ _ | apply Pull.there)) ?_
          refine H.front (x := row mb _ _) (by repeat (first | exact .here _ _ | apply Pull.there)) ?_
          refine H.drawC [0, 1, 2, 3, 4, 5, 6, 7, 8] (by kernel_rfl) (by decide +kernel) (by first | exact blind_fn | exact blind_seq blind_fn | exact blind_seq (blind_seq blind_fn) | (repeat (first | exact blind_fn | refine blind_seq ?_ | refine blind_block ?_ | refine blind_loop ?_))) (S := [_, _]) rfl ?_
          refine HB.quiet [(0, false), (1, false), (2, false), (3, false), (4, false), (5, false)] 6 (by kernel_rfl) ?_
          repeat (first | ((first | apply HQ.move | apply HQ.nilCheck); (iterate 3 exact rfl)) | (apply HQ.fieldAddr; (iterate 3 exact rfl); exact inferInstance; exact rfl) | (apply HQ.load1; (iterate 3 exact rfl); apply Rd1.ofRow; (repeat (first | exact .here _ _ _ | apply At.there)); (iterate 2 exact rfl)))
          refine HQ.loadN (ls := (W.next n o x).vals qp qc) rfl rfl rfl (Rd.ofRow (.here _ _ _)) rfl rfl ?_
          refine HQ.more rfl ?_
          refine HB.ev1 (i := 6) (by kernel_rfl) rfl ?_
          refine H.callR rfl rfl rfl (hsg _) ?_
          generalize hms : (W.next n o x).signed = ms at *
          repeat ((apply H.nil))
          refine H.on0 rfl ?_
          refine HB.ev1 (i := 7) (by kernel_rfl) rfl ?_
          refine H.buildSlice (out := ms.vals qp qc) rfl rfl rfl rfl (by decide) (by decide) rfl rfl fun eb => ?_
          repeat ((apply H.nil))
          refine H.front (x := row wb _ _) (by repeat (first | exact .here _ _ | apply Pull.there)) ?_
          refine H.front (x := row mb _ _) (by repeat (first | exact .here _ _ | apply Pull.there)) ?_
          refine H.on0 rfl ?_
          refine HB.ev1 (i := 8) (by kernel_rfl) rfl ?_
          refine H.append (p := ap) (n0 := l.length) (c := ac) (xs := l.flatMap MV.vals) (m := 1) (news := ms.vals qp qc) rfl rfl rfl rfl rfl (fun p' c' => (by repeat (first | exact .here _ _ _ | apply At.there))) (Src.slice (Rd.ofRow (by repeat (first | exact .here _ _ _ | apply At.there))) rfl) (allOne_mem rfl) rfl (by omega) (by omega) fun ap2 ac2 => ?_
          repeat ((apply H.nil))
          refine H.drop (x := row eb _ _) (by repeat (first | exact .here _ _ | apply Pull.there)) ?_
          refine H.on0 rfl ?_
          refine HB.next [] (by kernel_rfl) (S' := []) rfl ?_
          refine HB.quiet [(9, false), (10, false)] 1 (by kernel_rfl) ?_
          repeat (first | ((apply HQ.nilCheck); (iterate 3 exact rfl)) | (apply HQ.fieldAddr; (iterate 3 exact rfl); exact inferInstance; exact rfl))
          refine HQ.more rfl ?_
          refine HB.ev1 (i := 11) (by kernel_rfl) rfl ?_
          refine H.store1 (ls := worldC kb n ap l.length ac) (ls' := worldC kb n ap2 (l.length + 1) ac2) rfl rfl rfl rfl (.there _ (.here _ _ _)) (.there _ (.here _ _ _)) ?_
          repeat ((apply H.nil))
          refine H.on0 rfl ?_
          refine HB.done (by kernel_rfl) ?_
          repeat ((apply H.then_normal))
          have hgk := kRow_get (kv := W.kv) ho (show o < 11 by omega)
          have hset := kRow_set (kv := W.kv) (W.kv o o + 1) ho (show o < 11 by omega)
          refine H.front (x := row kb _ _) (by repeat (first | exact .here _ _ | apply Pull.there)) ?_
          refine H.front (x := row wb _ _) (by repeat (first | exact .here _ _ | apply Pull.there)) ?_
          refine H.drawC [0, 1, 2, 3, 4, 5, 6, 7, 8, 9, 10, 11] (by kernel_rfl) (by decide +kernel) (by first | exact blind_fn | exact blind_seq blind_fn | exact blind_seq (blind_seq blind_fn) | (repeat (first | exact blind_fn | refine blind_seq ?_ | refine blind_block ?_ | refine blind_loop ?_))) (S := [_, _]) rfl ?_
          refine HB.quiet [(0, false), (1, false), (2, false), (3, false), (4, false), (5, false), (6, false), (7, false), (8, false), (9, false), (10, false), (11, false)] 1 (by kernel_rfl) ?_
          repeat (first | ((first | apply HQ.move | apply HQ.nilCheck); (iterate 3 exact rfl)) | (apply HQ.fieldAddr; (iterate 3 exact rfl); exact inferInstance; exact rfl) | (apply HQ.load1; (iterate 3 exact rfl); apply Rd1.ofRow; (repeat (exact .here _ _ _)); (iterate 2 exact rfl)))
          refine HQ.index_slice (i := o) rfl rfl rfl rfl ho rfl ?_
          refine HQ.index_array (i := o) rfl rfl rfl rfl (by omega) rfl ?_
          refine HQ.load1 rfl rfl rfl (.at0 (Rd.ofRow (.there _ (.here _ _ _))) (by rw [Nat.zero_add, Nat.mul_one]; exact hgk)) rfl ?_
          repeat (((apply HQ.ar; (iterate 4 exact rfl)); (with_reducible apply wr_u64; omega); exact rfl))
          refine HQ.index_slice (i := o) rfl rfl rfl rfl ho rfl ?_
          refine HQ.index_array (i := o) rfl rfl rfl rfl (by omega) rfl ?_
          refine HQ.more rfl ?_
          refine HB.next [] (by kernel_rfl) (S' := []) rfl ?_
          refine HB.ev1 (i := 12) (by kernel_rfl) rfl ?_
          refine H.store1 (v := .int .u64 (W.kv o o + 1)) (ls := kRow n W.kv) (ls' := kRow n (W.say o ms).kv) rfl rfl rfl rfl (.there _ (.here _ _ _)) (by rw [Nat.zero_add, Nat.mul_one]; exact hset) ?_
          repeat ((apply H.nil))
          refine H.on0 rfl ?_
          refine HB.done (by kernel_rfl) ?_
          repeat (first | ((first | apply H.move | apply H.assign); (iterate 3 exact rfl)) | (first | apply H.region | apply H.nil | apply H.then_normal) | ((apply H.ar; (iterate 4 exact rfl)); (with_reducible apply wr_i64_n1; omega); exact rfl) | (apply H.in_normal))
          refine H.drop (x := row mb _ _) (by repeat (first | exact .here _ _ | apply Pull.there)) ?_
          refine H.drop (x := row xb _ _) (by repeat (first | exact .here _ _ | apply Pull.there)) ?_
          refine H.front (x := slc ap2 _ ac2 _ _ _) (by repeat (first | exact .here _ _ | apply Pull.there)) ?_
          refine H.front (x := row kb _ _) (by repeat (first | exact .here _ _ | apply Pull.there)) ?_
          refine H.front (x := row wb _ _) (by repeat (first | exact .here _ _ | apply Pull.there)) ?_
          refine H.again (k + 1, un G g, l ++ [⟨ms, qp, qc⟩], ap2, ac2) ⟨by show k + 1 ≤ xs.length; omega, by show (l ++ [(⟨ms, qp, qc⟩ : MV)]).map MV.m = _; rw [hnext, List.map_append, hm]; rfl, fun y hy => ?_, Dj.un3' hdj hd⟩ (by show xs.length - (k + 1) < xs.length - k; omega) ⟨rfl, rfl, rfl, trivial⟩ (un_assoc _ _ _) ?_
          · show y.Good (un f (un G g))
            rw [← un_assoc]
            have hy : y ∈ l ++ [(⟨ms, qp, qc⟩ : MV)] := hy
            rcases List.mem_append.1 hy with hy | hy
            · exact (hg y hy).mono (Le.un _ g)
            · rw [List.mem_singleton] at hy; subst hy; exact hmsg
          · show row wb _ (worldC kb n ap2 (l.length + 1) ac2) :: _ :: slc ap2 (l.length + 1) ac2 _ 121 (l.flatMap MV.vals ++ (⟨ms, qp, qc⟩ : MV).vals) :: F = row wb _ (worldC kb n ap2 (l ++ [(⟨ms, qp, qc⟩ : MV)]).length ac2) :: row kb _ (kRow n (worldOf n (xs.take (k + 1))).kv) :: slc ap2 (l ++ [(⟨ms, qp, qc⟩ : MV)]).length ac2 _ 121 ((l ++ [(⟨ms, qp, qc⟩ : MV)]).flatMap MV.vals) :: F
            rw [slc_snoc, hnext, List.length_append]
            rfl
  · have e : k = xs.length := by omega
    subst e
    repeat (first | ((first | apply H.move | apply H.assign | apply H.len_slice); (iterate 3 exact rfl)) | (first | apply H.seq | apply H.region | apply H.nil | apply H.then_normal) | ((apply H.cmp); (iterate 5 exact rfl)) | (first | apply H.ret | apply H.then_exit | apply H.exit | apply H.in_hit | apply H.loop_exit) | (apply H.cond_no; exact rfl; (omega)))
    rw [show xs.take xs.length = xs from List.take_length] at hm ⊢
    refine H.freeze (x := row kb _ _) (by repeat (first | exact .here _ _ | apply Pull.there)) fun g1 hg1 hd1 => ?_
    refine H.freeze (x := slc ap _ ac _ _ _) (by repeat (first | exact .here _ _ | apply Pull.there)) fun g2 hg2 hd2 => ?_
    have e3 : un (un (un f G) g1) g2 = un f (un (un G g1) g2) := by rw [un_assoc, un_assoc, un_assoc]
    have hd3 : Dj f (un (un G g1) g2) := by
      have h1 := Dj.un3' hdj hd1
      rw [un_assoc] at hd2
      exact Dj.un3' h1 hd2
    refine H.ret1 rfl rfl (fun _ h => h) ⟨un (un G g1) g2, wb, kb, ap, ac, l, rfl, hd3, e3, rfl, ?_⟩
    have hle1 : Le (un f G) (un (un (un f G) g1) g2) := (Le.un _ g1).trans (Le.un _ g2)
    exact ⟨(KAt.of hg1 hd1).mono (Le.un _ g2), (slc_listAt MV.len hg2).mono (Le.right hd2), fun y hy => (hg y hy).mono hle1, hm⟩
end
end Go.Proofs.YtoigpgdmignaoaaGreatDoor
