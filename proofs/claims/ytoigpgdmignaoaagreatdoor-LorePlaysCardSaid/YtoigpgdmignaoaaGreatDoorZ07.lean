/- Parts of the proof, one behind the other, each under its own heading. No conditions. -/
import Derived.Test.YtoigpgdmignaoaaGreatDoorZ06
set_option linter.unusedSectionVars false
set_option linter.unusedSimpArgs false
set_option linter.unusedVariables false
/- Layer 12: those of which a vector does not know. No condition. -/
namespace Go.Proofs.YtoigpgdmignaoaaGreatDoor
open Go
def msL (p : Option Addr) (c : Nat) (l : List MV) : HP := slc p l.length c 47 121 (l.flatMap MV.vals)
def sinceM (v : Nat → Int) (most : Int) (l : List Msg) : List Msg := (unk v l).take most.toNat
def SinceP (f : Frag) (A : List HP) (ms : List Msg) : Value → Frag → List HP → Prop := fun v f' A' =>
  ∃ (g : Frag) (p : Option Addr) (c : Nat) (R : List MV), v = .slice p R.length c ∧ R.map MV.m = ms ∧ (∀ y ∈ R, y.Good (un f g)) ∧ Dj f g ∧ f' = un f g ∧ A' = msL p c R :: A
theorem unk_snoc (u : Nat → Int) (l : List Msg) (m : Msg) : unk u (l ++ [m]) = if u (orgI m) < m.number then unk u l ++ [m] else unk u l := by
  unfold unk
  rw [List.filter_append]
  by_cases h : u (orgI m) < m.number
  · rw [if_pos h, List.filter_cons, if_pos (decide_eq_true h)]; rfl
  · rw [if_neg h, List.filter_cons, if_neg (by rw [decide_eq_false h]; decide)]; simp
theorem Dj.un3' {f g h : Frag} (h1 : Dj f g) (h2 : Dj (un f g) h) : Dj f (un g h) := Dj.un_right.2 ⟨h1, (Dj.un_left.1 h2).1⟩
theorem slc_snoc {p : Option Addr} {c : Nat} {T : TypeId} {R : List MV} {y : MV} : slc p (R.length + 1) c T 121 (R.flatMap MV.vals ++ y.vals) = slc p (R ++ [y]).length c T 121 ((R ++ [y]).flatMap MV.vals) := by
  rw [List.length_append, List.flatMap_append]
  show _ = slc p (R.length + 1) c T 121 (R.flatMap MV.vals ++ (y.vals ++ []))
  rw [List.append_nil]
theorem unk_take_more {u : Nat → Int} {l : List Msg} {k n : Nat} (h : n ≤ (unk u (l.take k)).length) : (unk u l).take n = (unk u (l.take k)).take n := by
  have e : unk u l = unk u (l.take k) ++ unk u (l.drop k) := by
    unfold unk
    rw [← List.filter_append, List.take_append_drop]
  rw [e, List.take_append_of_le_length h]
section
variable (f : Frag) (F : List HP)
set_option maxRecDepth 20000 in
set_option maxHeartbeats 3200000 in
theorem lsince_fn {fl : Frag} (hfl : Le fl f) {lb n : Nat} {l : List MV} {v : Nat → Int} {most : Int} :
    Fn Tryz.prog 21 [.pointer (some ⟨lb, 0, none⟩), .agg (v11 v).toArray, .int .i64 most] f (loreH fl lb n l :: F) (SinceP f (loreH fl lb n l :: F) (sinceM v most (l.map MV.m))) := by
  refine Fn.unpack fun i hi => ?_
  obtain ⟨P, C, po, co⟩ := i
  have hn := hi.2.2.2
  have hll := hi.2.1
  refine Fn.enter Tryz.func21 rfl Tryz.ntmps21 rfl (L := [(0, _), (1, _), (2, _)]) ⟨rfl, rfl, rfl, trivial⟩ fun base => ?_
  repeat ((first | apply H.seq | apply H.region))
  refine H.box (ls := v11 v) rfl rfl rfl rfl fun vb => ?_
  repeat (first | ((first | apply H.move | apply H.assign | apply H.nilCheck | apply H.len_slice); (iterate 3 exact rfl)) | (apply H.fieldAddr; (iterate 3 exact rfl); exact inferInstance; exact rfl) | (apply H.load1; (iterate 3 exact rfl); apply Rd1.ofRow; (repeat (first | exact .here _ _ _ | apply At.there)); (iterate 2 exact rfl)) | (first | apply H.seq | apply H.region | apply H.nil | apply H.then_normal) | ((apply H.ptrNil); (iterate 5 exact rfl)) | (apply H.cond_false; exact rfl) | (first | apply H.skip | apply H.block))
  unfold ordH
  refine H.slc0 47 121 ?_
  refine H.front (x := row vb _ _) (by repeat (first | exact .here _ _ | apply Pull.there)) ?_
  refine H.loop (ι := Nat × List MV × Frag × Option Addr × Nat) (fun s => [(16, .int .i64 (s.1 : Int)), (15, .int .i64 (l.length : Nat)), (14, .slice po l.length co), (6, .slice s.2.2.2.1 s.2.1.length s.2.2.2.2), (0, .pointer (some ⟨lb, 0, none⟩)), (2, .int .i64 most), (4, .pointer (some ⟨vb, 0, none⟩))]) (fun s => un f s.2.2.1)
    (fun s => row vb 37 (v11 v) :: slc s.2.2.2.1 s.2.1.length s.2.2.2.2 47 121 (s.2.1.flatMap MV.vals) :: row lb 120 (loreCells n l ⟨P, C, po, co⟩) :: fam (strH l ⟨P, C, po, co⟩) 11 :: slc po l.length co 123 2 ((placesOf (l.map MV.m)).flatMap placeV) :: F)
    (fun s => s.1 ≤ l.length ∧ s.2.1.map MV.m = unk v ((l.map MV.m).take s.1) ∧ s.2.1.length ≤ most.toNat ∧ (∀ y ∈ s.2.1, y.Good (un f s.2.2.1)) ∧ Dj f s.2.2.1) (fun s => l.length - s.1)
    (0, [], nil0, none, 0) ⟨Nat.zero_le _, rfl, Nat.zero_le _, (fun y hy => by cases hy), Dj.nil f⟩ ⟨rfl, rfl, rfl, rfl, rfl, rfl, rfl, trivial⟩ (un_nil f).symm rfl fun s hs => ?_
  obtain ⟨k, R, G, p, c⟩ := s
  obtain ⟨hk, hR, hRm, hRg, hdj⟩ : k ≤ l.length ∧ R.map MV.m = unk v ((l.map MV.m).take k) ∧ R.length ≤ most.toNat ∧ (∀ y ∈ R, y.Good (un f G)) ∧ Dj f G := hs
  have hRl : R.length ≤ l.length := by
    have h1 := congrArg List.length hR
    rw [List.length_map] at h1
    have h2 : (unk v ((l.map MV.m).take k)).length ≤ ((l.map MV.m).take k).length := List.length_filter_le _ _
    rw [List.length_take, List.length_map] at h2
    omega
  show H _ _ _ [(16, .int .i64 (k : Int)), _, _, (6, .slice p R.length c), _, _, _] (un f G) (_ :: slc p R.length c _ 121 (R.flatMap MV.vals) :: _ :: _ :: _ :: F) _
  by_cases hlt : k < l.length
  · obtain ⟨y, hy⟩ : ∃ y, l[k]? = some y := ⟨_, List.getElem?_eq_getElem hlt⟩
    have hym : (l.map MV.m)[k]? = some y.m := by rw [List.getElem?_map, hy]; rfl
    have hyl := List.mem_of_getElem? hy
    have hpl := placesOf_get hym
    have hst := strmV_at hy
    have hnum := (chk_zero (hi.2.2.1 k y.m hym)).2.2.1
    have horg := hi.2.2.1.org (List.mem_of_getElem? hym)
    have hyg : y.Good (un f G) := ((hi.1 y hyl).mono hfl).mono (Le.un f G)
    have hnext : (l.map MV.m).take (k + 1) = (l.map MV.m).take k ++ [y.m] := take_snoc hym
    have hunk := unk_snoc v ((l.map MV.m).take k) y.m
    rw [← hnext] at hunk
    have ho11 : orgI y.m < 11 := by unfold orgI; omega
    have hal : cnt ((l.map MV.m).take k) (orgI y.m) < (strmV l (orgI y.m)).length := by
      rcases Nat.lt_or_ge (cnt ((l.map MV.m).take k) (orgI y.m)) (strmV l (orgI y.m)).length with h | h
      · exact h
      · rw [List.getElem?_eq_none h] at hst; cases hst
    have hsl := strmV_le l (orgI y.m)
    have hnum2 : y.m.number = ((cnt ((l.map MV.m).take k) (orgI y.m) + 1 : Nat) : Int) := hnum
    clear hnum horg
    generalize cnt ((l.map MV.m).take k) (orgI y.m) = a at *
    generalize orgI y.m = o at *
    have hstr := loreCells_str n l ⟨P, C, po, co⟩ ho11
    refine H.front (x := slc po _ co _ _ _) (by repeat (first | exact .here _ _ | apply Pull.there)) ?_
    refine H.slc_some (p := po) (n0 := l.length) (c := co) (.here _ _ _) (by omega) fun ob hpo => ?_
    subst hpo
    repeat (first | (first | apply H.seq | apply H.region | apply H.nil | apply H.then_normal) | ((apply H.cmp); (iterate 5 exact rfl)) | (first | apply H.skip | apply H.block) | (apply H.cond_yes; exact rfl; (omega)))
    refine H.index_slice (i := k) rfl rfl rfl rfl hlt rfl ?_
    refine H.loadN (ls := placeV (o, a)) rfl rfl rfl (by rw [Nat.zero_add]; exact Rd.slcElem (vals := placeV) (fun _ => rfl) (by decide) (.here _ _ _) hpl) rfl rfl ?_
    refine H.alloc (ls := placeV (0, 0)) rfl rfl rfl fun tb => ?_
    refine H.storeN (ls := placeV (0, 0)) (vs := placeV (o, a)) (ls' := placeV (o, a)) rfl rfl rfl (allOne_mem rfl) rfl rfl (Nat.le_refl 2) (.here _ _ _) ?_
    by_cases hm : most ≤ (R.length : Nat)
    · repeat (first | ((first | apply H.move | apply H.assign | apply H.len_slice); (iterate 3 exact rfl)) | (first | apply H.seq | apply H.region | apply H.nil | apply H.then_normal) | ((apply H.cmp); (iterate 5 exact rfl)) | (first | apply H.ret | apply H.then_exit | apply H.exit | apply H.in_hit | apply H.loop_exit) | (apply H.in_miss; exact rfl) | (apply H.cond_yes; exact rfl; (assumption)))
      refine H.drop (x := row tb _ _) (by repeat (first | exact .here _ _ | apply Pull.there)) ?_
      refine H.drop (x := row vb _ _) (by repeat (first | exact .here _ _ | apply Pull.there)) ?_
      refine H.front (x := slc (some ⟨ob, 0, none⟩) _ co _ _ _) (by repeat (first | exact .here _ _ | apply Pull.there)) ?_
      refine H.front (x := fam _ 11) (by repeat (first | exact .here _ _ | apply Pull.there)) ?_
      refine H.front (x := row lb _ _) (by repeat (first | exact .here _ _ | apply Pull.there)) ?_
      refine H.imp (lore_fold (F := slc p R.length c 47 121 (R.flatMap MV.vals) :: F) ⟨P, C, some ⟨ob, 0, none⟩, co⟩ hi) ?_
      refine H.front (x := slc p _ c _ _ _) (by repeat (first | exact .here _ _ | apply Pull.there)) ?_
      refine H.ret1 rfl rfl (fun _ h => h) ⟨G, p, c, R, rfl, ?_, hRg, hdj, rfl, rfl⟩
      have h1 := congrArg List.length hR
      rw [List.length_map] at h1
      have h2 : most.toNat = R.length := by omega
      unfold sinceM
      rw [unk_take_more (k := k) (by omega), ← hR, List.take_of_length_le (by rw [List.length_map]; omega)]
    · have h48 : ¬ (most ≤ (R.length : Nat)) := hm
      repeat (first | ((first | apply H.move | apply H.len_slice); (iterate 3 exact rfl)) | (first | apply H.seq | apply H.region | apply H.nil | apply H.then_normal) | ((apply H.cmp); (iterate 5 exact rfl)) | (apply H.skip) | (apply H.cond_no; exact rfl; (assumption)))
      refine H.drawQ (by kernel_rfl) (by decide +kernel) (by repeat (first | exact blind_fn | refine blind_seq ?_ | refine blind_block ?_ | refine blind_loop ?_)) ?_
      repeat (first | (apply HQ.fieldAddr; (iterate 3 exact rfl); exact inferInstance; exact rfl) | (apply HQ.load1; (iterate 3 exact rfl); apply Rd1.ofRow; (repeat (exact .here _ _ _)); (iterate 2 exact rfl)) | ((apply HQ.conv_int; (iterate 2 exact rfl)); (with_reducible apply wr_u64; omega); exact rfl))
      refine HQ.index_array (i := o) rfl rfl rfl rfl ho11 rfl ?_
      refine HQ.load1 rfl rfl rfl (.of (Rd.ofRow (by repeat (first | exact .here _ _ _ | apply At.there))) (by rw [Nat.mul_one]; exact v11_get v ho11)) rfl ?_
      repeat (first | ((apply HQ.done0); exact rfl) | ((apply HQ.cmp); (iterate 5 exact rfl)))
      by_cases hv : v o ≤ (a : Nat)
      · rw [if_pos (by omega)] at hunk
        repeat (first | (apply H.then_normal) | (apply H.cond_yes; exact rfl; (assumption)))
        refine H.front (x := fam _ 11) (by repeat (first | exact .here _ _ | apply Pull.there)) ?_
        refine H.famPull ho11 ?_
        refine H.slc_some (p := P o) (n0 := (strmV l o).length) (c := C o) (.here _ _ _) (by omega) fun sb hp => ?_
        have hrd : ∀ {f G}, Rd f (strH l ⟨P, C, some ⟨ob, 0, none⟩, co⟩ o :: G) sb (a * 121) y.vals := fun {f G} => by
          unfold strH
          show Rd f (slc (P o) _ _ _ _ _ :: G) _ _ _
          rw [hp]
          exact Rd.slcElem MV.len (by decide) (.here _ _ _) hst
        have hstr : (loreCells n l ⟨P, C, some ⟨ob, 0, none⟩, co⟩)[1 + o]? = some (.slice (some ⟨sb, 0, none⟩) (strmV l o).length (C o)) := by rw [hstr]; show some (Value.slice (P o) _ _) = _; rw [hp]
        refine H.front (x := row lb _ _) (by repeat (first | exact .here _ _ | apply Pull.there)) ?_
        refine H.front (x := row tb _ _) (by repeat (first | exact .here _ _ | apply Pull.there)) ?_
        refine H.front (x := strH l _ o) (by repeat (first | exact .here _ _ | apply Pull.there)) ?_
        refine H.drawB (by kernel_rfl) (by decide +kernel) (by repeat (first | exact blind_fn | refine blind_seq ?_ | refine blind_block ?_ | refine blind_loop ?_)) (S := [_, _, _]) rfl ?_
        refine HB.quiet [(0, false), (1, false), (2, false), (3, false), (4, false), (5, false), (6, false), (7, false), (8, false), (9, false), (10, false), (11, false)] 4 (by kernel_rfl) ?_
        repeat (first | ((first | apply HQ.move | apply HQ.nilCheck); (iterate 3 exact rfl)) | (apply HQ.fieldAddr; (iterate 3 exact rfl); exact inferInstance; exact rfl) | (apply HQ.load1; (iterate 3 exact rfl); apply Rd1.ofRow; (repeat (first | exact .here _ _ _ | apply At.there)); (iterate 2 exact rfl)))
        refine HQ.index_array (i := o) rfl rfl rfl rfl ho11 rfl ?_
        refine HQ.load1 rfl rfl rfl (Rd1.at0 (Rd.ofRow (.there _ (.there _ (.here _ _ _)))) (by rw [Nat.mul_one, Nat.zero_add]; exact hstr)) rfl ?_
        repeat (first | (apply HQ.fieldAddr; (iterate 3 exact rfl); exact inferInstance; exact rfl) | (apply HQ.load1; (iterate 3 exact rfl); apply Rd1.ofRow; (repeat (first | exact .here _ _ _ | apply At.there)); (iterate 2 exact rfl)))
        refine HQ.index_slice (i := a) rfl rfl rfl rfl hal rfl ?_
        refine HQ.loadN (ls := y.vals) rfl rfl rfl (by rw [Nat.zero_add]; exact hrd) rfl rfl ?_
        refine HQ.more rfl ?_
        refine HB.ev1 (i := 12) (by kernel_rfl) rfl ?_
        refine H.callE2 rfl rfl rfl (lown_fn _ _ hyg) fun qp qc => ?_
        repeat ((apply H.nil))
        refine H.freeze (.here _ _) fun g hg hd => ?_
        refine H.on [] (Le.un _ g) rfl ?_
        refine HB.ev1 (i := 13) (by kernel_rfl) rfl ?_
        refine H.buildSlice (out := y.m.vals qp qc) rfl rfl rfl rfl (by decide) (by decide) rfl rfl fun eb => ?_
        repeat ((apply H.nil))
        refine H.front (x := row lb _ _) (by repeat (first | exact .here _ _ | apply Pull.there)) ?_
        refine H.front (x := row tb _ _) (by repeat (first | exact .here _ _ | apply Pull.there)) ?_
        refine H.front (x := strH l _ o) (by repeat (first | exact .here _ _ | apply Pull.there)) ?_
        refine H.on0 rfl ?_
        refine HB.ev1 (i := 14) (by kernel_rfl) rfl ?_
        refine H.append (p := p) (c := c) (xs := R.flatMap MV.vals) (m := 1) (news := y.m.vals qp qc) rfl rfl rfl rfl rfl (fun p' c' => (by repeat (first | exact .here _ _ _ | apply At.there))) (Src.slice (Rd.ofRow (by repeat (first | exact .here _ _ _ | apply At.there))) rfl) (allOne_mem rfl) rfl (by omega) (by omega) fun p2 c2 => ?_
        repeat ((apply H.nil))
        refine H.on0 rfl ?_
        refine HB.quiet [(15, false)] 0 (by kernel_rfl) ?_
        repeat (((apply HQ.assign); (iterate 3 exact rfl)))
        refine HQ.more rfl ?_
        refine HB.done (by kernel_rfl) ?_
        repeat (first | ((apply H.move); (iterate 3 exact rfl)) | (first | apply H.region | apply H.nil | apply H.then_normal) | ((apply H.ar; (iterate 4 exact rfl)); (with_reducible apply wr_i64_n1; omega); exact rfl) | (apply H.in_normal))
        refine H.drop (x := row eb _ _) (by repeat (first | exact .here _ _ | apply Pull.there)) ?_
        refine H.drop (x := row tb _ _) (by repeat (first | exact .here _ _ | apply Pull.there)) ?_
        refine H.front (x := slc (some ⟨ob, 0, none⟩) _ co _ _ _) (by repeat (first | exact .here _ _ | apply Pull.there)) ?_
        refine H.front (x := fam _ 11) (by repeat (first | exact .here _ _ | apply Pull.there)) ?_
        refine H.front (x := strH l _ o) (by repeat (first | exact .here _ _ | apply Pull.there)) ?_
        refine H.famBack ho11 ?_
        refine H.front (x := row lb _ _) (by repeat (first | exact .here _ _ | apply Pull.there)) ?_
        refine H.front (x := slc p2 _ c2 _ _ _) (by repeat (first | exact .here _ _ | apply Pull.there)) ?_
        refine H.front (x := row vb _ _) (by repeat (first | exact .here _ _ | apply Pull.there)) ?_
        have hyg2 : (⟨y.m, qp, qc⟩ : MV).Good (un (un f G) g) := ⟨qs_qat hg hd, hyg.2⟩
        refine H.again (k + 1, R ++ [⟨y.m, qp, qc⟩], un G g, p2, c2) ⟨by show k + 1 ≤ l.length; omega, ?_, ?_, fun z hz => ?_, Dj.un3' hdj hd⟩ (by show l.length - (k + 1) < l.length - k; omega) ⟨rfl, rfl, rfl, ?_, rfl, rfl, rfl, trivial⟩ (un_assoc _ _ _) ?_
        · show (R ++ [(⟨y.m, qp, qc⟩ : MV)]).map MV.m = _
          rw [List.map_append, hR, hunk]; rfl
        · show (R ++ [(⟨y.m, qp, qc⟩ : MV)]).length ≤ _
          rw [List.length_append]; show R.length + 1 ≤ _; omega
        · have hz : z ∈ R ++ [(⟨y.m, qp, qc⟩ : MV)] := hz
          show z.Good (un f (un G g))
          rw [← un_assoc]
          rcases List.mem_append.1 hz with hz | hz
          · exact (hRg z hz).mono (Le.un _ _)
          · rw [List.mem_singleton] at hz; subst hz; exact hyg2
        · show some (Value.slice p2 (R.length + 1) c2) = some (Value.slice p2 (R ++ [(⟨y.m, qp, qc⟩ : MV)]).length c2)
          rw [List.length_append]; rfl
        · show _ :: slc p2 (R.length + 1) c2 _ 121 (R.flatMap MV.vals ++ (⟨y.m, qp, qc⟩ : MV).vals) :: _ = _ :: slc p2 (R ++ [(⟨y.m, qp, qc⟩ : MV)]).length c2 _ 121 ((R ++ [(⟨y.m, qp, qc⟩ : MV)]).flatMap MV.vals) :: _
          rw [slc_snoc]
      · rw [if_neg (by omega)] at hunk
        repeat (first | ((apply H.move); (iterate 3 exact rfl)) | (first | apply H.region | apply H.nil | apply H.then_normal) | ((apply H.ar; (iterate 4 exact rfl)); (with_reducible apply wr_i64_n1; omega); exact rfl) | (first | apply H.skip | apply H.in_normal) | (apply H.cond_no; exact rfl; (assumption)))
        refine H.drop (x := row tb _ _) (by repeat (first | exact .here _ _ | apply Pull.there)) ?_
        refine H.front (x := slc (some ⟨ob, 0, none⟩) _ co _ _ _) (by repeat (first | exact .here _ _ | apply Pull.there)) ?_
        refine H.front (x := fam _ 11) (by repeat (first | exact .here _ _ | apply Pull.there)) ?_
        refine H.front (x := row lb _ _) (by repeat (first | exact .here _ _ | apply Pull.there)) ?_
        refine H.front (x := slc p _ c _ _ _) (by repeat (first | exact .here _ _ | apply Pull.there)) ?_
        refine H.front (x := row vb _ _) (by repeat (first | exact .here _ _ | apply Pull.there)) ?_
        refine H.again (k + 1, R, G, p, c) ⟨by show k + 1 ≤ l.length; omega, by show R.map MV.m = _; rw [hR, hunk], hRm, hRg, hdj⟩ (by show l.length - (k + 1) < l.length - k; omega) ⟨rfl, rfl, rfl, rfl, rfl, rfl, rfl, trivial⟩ rfl rfl
  · have e : k = l.length := by omega
    subst e
    repeat (first | ((first | apply H.move | apply H.assign); (iterate 3 exact rfl)) | (first | apply H.seq | apply H.region | apply H.nil | apply H.then_normal) | ((apply H.cmp); (iterate 5 exact rfl)) | (first | apply H.ret | apply H.then_exit | apply H.exit | apply H.in_hit | apply H.loop_exit) | (apply H.cond_no; exact rfl; (omega)))
    refine H.drop (x := row vb _ _) (by repeat (first | exact .here _ _ | apply Pull.there)) ?_
    refine H.front (x := slc po _ co _ _ _) (by repeat (first | exact .here _ _ | apply Pull.there)) ?_
    refine H.front (x := fam _ 11) (by repeat (first | exact .here _ _ | apply Pull.there)) ?_
    refine H.front (x := row lb _ _) (by repeat (first | exact .here _ _ | apply Pull.there)) ?_
    refine H.imp (lore_fold (F := slc p R.length c 47 121 (R.flatMap MV.vals) :: F) ⟨P, C, po, co⟩ hi) ?_
    refine H.front (x := slc p _ c _ _ _) (by repeat (first | exact .here _ _ | apply Pull.there)) ?_
    refine H.ret1 rfl rfl (fun _ h => h) ⟨G, p, c, R, rfl, ?_, hRg, hdj, rfl, rfl⟩
    have e2 : (l.map MV.m).take l.length = l.map MV.m := List.take_of_length_le (by rw [List.length_map]; exact Nat.le_refl _)
    rw [e2] at hR
    unfold sinceM
    rw [← hR, List.take_of_length_le (by rw [List.length_map]; omega)]
end
end Go.Proofs.YtoigpgdmignaoaaGreatDoor

/- Layers 7 and 8: the document's check of a number's tag, all of a message as bytes, whether its tag is right. -/
namespace Go.Proofs.YtoigpgdmignaoaaGreatDoor
open Go
section
variable (f : Frag) (F : List HP)
set_option maxHeartbeats 1600000 in
theorem rcheck_fn {i n : Int} {r : Option Addr} {d : Nat} {b : List UInt8} {t : Nat → UInt8} (h1 : 1 ≤ i) (h2 : i ≤ 11) (h3 : 1 ≤ n) (h4 : n ≤ 65536) (hs : ∀ G, Src Tryz.prog f (G ++ F) (.slice r b.length d) 1 b.length (bytesV b)) (hl : b.length ≤ 1024) :
    Fn Tryz.prog 60 [.int .i64 i, .int .u64 n, .slice r b.length d, .agg (b32 t).toArray] f F (Ret (.bool (eq32 t (Sha.numbered i n b))) f F) := by
  refine Fn.enter Tryz.func60 rfl Tryz.ntmps60 rfl (L := [(0, _), (1, _), (2, _), (3, _)]) ⟨rfl, rfl, rfl, rfl, trivial⟩ fun base => ?_
  repeat ((first | apply H.seq | apply H.region))
  refine H.box (ls := b32 t) rfl rfl rfl rfl fun tb => ?_
  repeat (first | ((apply H.assign); (iterate 3 exact rfl)) | (first | apply H.seq | apply H.nil | apply H.then_normal))
  refine H.drawB (by kernel_rfl) (by decide +kernel) (by repeat (first | exact blind_fn | refine blind_seq ?_ | refine blind_block ?_ | refine blind_loop ?_)) (S := [_]) rfl ?_
  refine HB.quiet [(0, false), (1, false), (2, false), (3, false), (4, false), (5, false), (6, false), (7, false), (8, false), (9, false), (10, false), (11, false), (12, false), (13, false), (14, false), (15, false), (16, false), (17, false), (18, false), (19, false), (20, false), (21, false), (22, false), (23, false)] 4 (by kernel_rfl) ?_
  repeat (first | (refine HQ.loadN (ls := b32 t) rfl rfl rfl (Rd.ofRow (by repeat (first | exact .here _ _ _ | apply At.there))) rfl rfl ?_) | ((first | apply HQ.move | apply HQ.len_slice); (iterate 3 exact rfl)) | ((apply HQ.cmp); (iterate 5 exact rfl)) | (apply HQ.pickT; (iterate 4 exact rfl)) | (apply HQ.gyes; (iterate 3 exact rfl); (first | assumption | omega)))
  refine HQ.more rfl ?_
  refine HB.ev1 (i := 24) (by kernel_rfl) rfl ?_
  skip
  refine H.callR rfl rfl rfl (rnumbered_fn f _ h1 h2 (fun G => (hs (G ++ [_])).assoc) (by omega)) ?_
  generalize Sha.numbered i n b = u
  repeat ((apply H.nil))
  refine H.on0 rfl ?_
  refine HB.quiet [(25, false), (26, false), (27, false)] 0 (by kernel_rfl) ?_
  repeat (first | (refine HQ.aggEq (xs := b32 t) (ys := b32 u) (D := 4) rfl rfl rfl rfl (by kernel_rfl) (by kernel_rfl) (by kernel_rfl) (by kernel_rfl) (by decide) (show eqC (b32 t) (b32 u) = eq32 t u from rfl) rfl ?_) | ((apply HQ.assign); (iterate 3 exact rfl)) | (apply HQ.pickT; (iterate 4 exact rfl)))
  refine HQ.more rfl ?_
  refine HB.done (by kernel_rfl) ?_
  repeat (first | (apply H.then_normal) | (apply H.ret))
  refine H.drop (x := row tb _ _) (by repeat (first | exact .here _ _ | apply Pull.there)) ?_
  exact H.ret1 rfl rfl (fun _ h => h) ⟨rfl, rfl, rfl⟩
set_option maxHeartbeats 1600000 in
theorem rmright_fn {x : MV} (hx : x.Good f) : Fn Tryz.prog 24 [.agg x.vals.toArray] f F (Ret (.bool x.m.right) f F) := by
  have hmay := fun G => rmmay_fn f G hx
  unfold Msg.right
  by_cases hm : x.m.may = true
  · rw [hm] at hmay ⊢
    rw [Bool.true_and]
    have htg := fun G => rbytes_fn (m := x.m) (qc := x.qc) f G hx.1 (by have := hx.2.1; omega)
    unfold Msg.bytes at htg
    rw [if_pos hm] at htg
    have htl := Msg.tagged_max hm
    have hou := Msg.may_outer hm
    generalize x.m.tagged = tg at htg htl ⊢
    obtain ⟨o1, o2, o3, o4, _⟩ := hou
    refine Fn.enter Tryz.func24 rfl Tryz.ntmps24 rfl (L := [(0, _)]) ⟨rfl, trivial⟩ fun base => ?_
    repeat ((first | apply H.seq | apply H.region))
    refine H.box (ls := x.vals) rfl rfl rfl rfl fun mb => ?_
    repeat (first | ((apply H.assign); (iterate 3 exact rfl)) | (first | apply H.seq | apply H.nil | apply H.then_normal))
    refine H.drawB (by kernel_rfl) (by decide +kernel) (by repeat (first | exact blind_fn | refine blind_seq ?_ | refine blind_block ?_ | refine blind_loop ?_)) (S := [_]) rfl ?_
    refine HB.quiet [(0, false)] 13 (by kernel_rfl) ?_
    repeat ((refine HQ.loadN (ls := x.vals) rfl rfl rfl (Rd.ofRow (by repeat (first | exact .here _ _ _ | apply At.there))) rfl rfl ?_))
    refine HQ.more rfl ?_
    refine HB.ev1 (i := 1) (by kernel_rfl) rfl ?_
    refine H.callR rfl rfl rfl (hmay _) ?_
    repeat ((apply H.nil))
    refine H.on0 rfl ?_
    refine HB.quiet [(2, false), (3, false), (4, false), (5, false), (6, false), (7, false), (9, false), (10, false)] 4 (by kernel_rfl) ?_
    repeat (first | (refine HQ.loadN (ls := x.vals) rfl rfl rfl (Rd.ofRow (by repeat (first | exact .here _ _ _ | apply At.there))) rfl rfl ?_) | (refine HQ.loadN (ls := b32 x.m.tag) rfl rfl rfl (msg_tag (m := x.m) (q := x.qp) (qc := x.qc) (by repeat (first | exact .here _ _ _ | apply At.there))) rfl rfl ?_) | ((apply HQ.move); (iterate 3 exact rfl)) | (apply HQ.fieldAddr; (iterate 3 exact rfl); exact inferInstance; exact rfl) | (apply HQ.load1; (iterate 3 exact rfl); apply Rd1.ofRow; (repeat (exact .here _ _ _)); (iterate 2 exact rfl)))
    refine HQ.more rfl ?_
    refine HB.ev1 (i := 8) (by kernel_rfl) rfl ?_
    skip
    refine H.callE2 rfl rfl rfl (htg _) fun p1 c1 => ?_
    repeat ((apply H.nil))
    refine H.front (x := row mb _ _) (by repeat (first | exact .here _ _ | apply Pull.there)) ?_
    refine H.on0 rfl ?_
    refine HB.ev1 (i := 11) (by kernel_rfl) rfl ?_
    skip
    refine H.callR rfl rfl rfl (rcheck_fn f _ o1 o2 o3 o4 (fun G => Src.append (Src.slcS (by repeat (first | exact .here _ _ _ | apply At.there)) (by rw [bytesV_len]; exact (Nat.mul_one _).symm))) htl) ?_
    repeat ((apply H.nil))
    refine H.on0 rfl ?_
    refine HB.quiet [(12, false), (13, false)] 0 (by kernel_rfl) ?_
    repeat (first | ((apply HQ.assign); (iterate 3 exact rfl)) | (apply HQ.pickT; (iterate 4 exact rfl)))
    refine HQ.more rfl ?_
    refine HB.done (by kernel_rfl) ?_
    repeat (first | (apply H.then_normal) | (apply H.ret))
    refine H.drop (x := row mb _ _) (by repeat (first | exact .here _ _ | apply Pull.there)) ?_
    refine H.drop (x := slc p1 _ _ _ _ _) (by repeat (first | exact .here _ _ | apply Pull.there)) ?_
    exact H.ret1 rfl rfl (fun _ h => h) ⟨rfl, rfl, rfl⟩
  · rw [Bool.eq_false_iff.2 hm] at hmay ⊢
    rw [Bool.false_and]
    refine Fn.enter Tryz.func24 rfl Tryz.ntmps24 rfl (L := [(0, _)]) ⟨rfl, trivial⟩ fun base => ?_
    repeat ((first | apply H.seq | apply H.region))
    refine H.box (ls := x.vals) rfl rfl rfl rfl fun mb => ?_
    repeat (first | ((apply H.assign); (iterate 3 exact rfl)) | (first | apply H.seq | apply H.nil | apply H.then_normal))
    refine H.drawB (by kernel_rfl) (by decide +kernel) (by repeat (first | exact blind_fn | refine blind_seq ?_ | refine blind_block ?_ | refine blind_loop ?_)) (S := [_]) rfl ?_
    refine HB.quiet [(0, false)] 13 (by kernel_rfl) ?_
    repeat ((refine HQ.loadN (ls := x.vals) rfl rfl rfl (Rd.ofRow (by repeat (first | exact .here _ _ _ | apply At.there))) rfl rfl ?_))
    refine HQ.more rfl ?_
    refine HB.ev1 (i := 1) (by kernel_rfl) rfl ?_
    refine H.callR rfl rfl rfl (hmay _) ?_
    repeat ((apply H.nil))
    refine H.on0 rfl ?_
    refine HB.quiet [(2, false), (3, false), (4, false), (5, false), (6, false), (7, false), (9, false), (10, false)] 4 (by kernel_rfl) ?_
    repeat (first | ((apply HQ.move); (iterate 3 exact rfl)) | (apply HQ.pass; (iterate 2 exact rfl)))
    refine HQ.more rfl ?_
    refine HB.ev1 (i := 8) (by kernel_rfl) rfl ?_
    repeat (first | (apply H.nil) | (apply H.pass; (iterate 2 exact rfl)))
    refine H.on0 rfl ?_
    refine HB.ev1 (i := 11) (by kernel_rfl) rfl ?_
    repeat (first | (apply H.nil) | (apply H.pass; (iterate 2 exact rfl)))
    refine H.on0 rfl ?_
    refine HB.quiet [(12, false), (13, false)] 0 (by kernel_rfl) ?_
    repeat (first | ((apply HQ.assign); (iterate 3 exact rfl)) | ((apply HQ.pickF); (iterate 4 exact rfl)))
    refine HQ.more rfl ?_
    refine HB.done (by kernel_rfl) ?_
    repeat (first | (apply H.then_normal) | (apply H.ret))
    refine H.drop (x := row mb _ _) (by repeat (first | exact .here _ _ | apply Pull.there)) ?_
    exact H.ret1 rfl rfl (fun _ h => h) ⟨rfl, rfl, rfl⟩
end
end Go.Proofs.YtoigpgdmignaoaaGreatDoor

/- Layer 12: the document's lore: New, Get, form. No condition. -/
namespace Go.Proofs.YtoigpgdmignaoaaGreatDoor
open Go
def refC (n : Nat) (p : Option Addr) (m c : Nat) (v : Nat → Int) : List Value := [.int .i64 (n : Int), .slice p m c] ++ v11 v
def refφ (f : Frag) (n : Nat) (l : List MV) : Prop := (∀ x ∈ l, x.Good f) ∧ l.length ≤ 100000 ∧ LOK n (l.map MV.m) ∧ n ≤ 11
def refL (f : Frag) (rb n : Nat) (l : List MV) : HP := pack (fun _ : Option Addr × Nat => refφ f n l) (fun i => [row rb 63 (refC n i.1 l.length i.2 (knownS (strm (l.map MV.m)))), slc i.1 l.length i.2 47 121 (l.flatMap MV.vals)])
theorem refL_fold {fl : Frag} {F : List HP} {rb n : Nat} {l : List MV} (i : Option Addr × Nat) (h : refφ fl n l) : ∀ x, stars (row rb 63 (refC n i.1 l.length i.2 (knownS (strm (l.map MV.m)))) :: slc i.1 l.length i.2 47 121 (l.flatMap MV.vals) :: F) x → stars (refL fl rb n l :: F) x := fun x hx =>
  pack_fold (ι := Option Addr × Nat) (φ := fun _ => refφ fl n l) (B := fun i => [row rb 63 (refC n i.1 l.length i.2 (knownS (strm (l.map MV.m)))), slc i.1 l.length i.2 47 121 (l.flatMap MV.vals)]) i h x hx
theorem refL_mono {f g : Frag} (h : Le f g) {rb n : Nat} {l : List MV} : ∀ x, refL f rb n l x → refL g rb n l x := fun _ ⟨i, hi, hx⟩ => ⟨i, ⟨fun x hx => (hi.1 x hx).mono h, hi.2⟩, hx⟩
theorem ref_up {f g : Frag} (h : Le f g) {rb n : Nat} {l : List MV} {A : List HP} : ∀ x, stars (refL f rb n l :: A) x → stars (refL g rb n l :: A) x :=
  fun _ ⟨h1, h2, hd, he, ha, hr⟩ => ⟨h1, h2, hd, he, refL_mono h _ ha, hr⟩
theorem refC_deps {f : Frag} {A A' : List HP} {rb n : Nat} {T : TypeId} {p : Option Addr} {m c : Nat} {v : Nat → Int} (h : At A (row rb T (refC n p m c v)) A' (row rb T (refC n p m c v))) : Rd f A rb (0 + 2) (v11 v) := by
  have h1 := Rd.ofRow (f := f) h
  have e : refC n p m c v = [.int .i64 (n : Int), .slice p m c] ++ v11 v ++ [] := by unfold refC; rw [List.append_nil]
  rw [e] at h1
  exact h1.sub rfl
theorem getM_at {l : List Msg} {i : Nat} {y : Msg} {o z : Int} (hy : l[i]? = some y) (h1 : y.origin = o) (h2 : y.number = z) (hb : ∀ j x, j < i → l[j]? = some x → ¬ (x.origin = o ∧ x.number = z)) : getM l o z = (y, true) := by
  have hf : findM l o z = some y := by
    unfold findM
    have e := take_cons_drop hy
    rw [e, List.find?_append]
    have h0 : (l.take i).find? (fun x => decide (x.origin = o) && decide (x.number = z)) = none := by
      rw [List.find?_eq_none]
      intro x hx hp
      obtain ⟨j, hj⟩ := List.getElem?_of_mem hx
      rw [List.getElem?_take] at hj
      split at hj
      · rename_i hlt
        simp only [Bool.and_eq_true, decide_eq_true_eq] at hp
        exact hb j x hlt hj hp
      · cases hj
    rw [h0, List.find?_cons, h1, h2]
    simp
  unfold getM
  rw [hf]
theorem getM_none {l : List Msg} {o z : Int} (hb : ∀ j x, j < l.length → l[j]? = some x → ¬ (x.origin = o ∧ x.number = z)) : getM l o z = (msgZ, false) := by
  have hf : findM l o z = none := by
    unfold findM
    rw [List.find?_eq_none]
    intro x hx hp
    obtain ⟨j, hj⟩ := List.getElem?_of_mem hx
    simp only [Bool.and_eq_true, decide_eq_true_eq] at hp
    have hjl : j < l.length := by
      rcases Nat.lt_or_ge j l.length with h | h
      · exact h
      · rw [List.getElem?_eq_none h] at hj; cases hj
    exact hb j x hjl hj hp
  unfold getM
  rw [hf]
def RGetP (f : Frag) (A : List HP) (r : Msg × Bool) : Value → Frag → List HP → Prop := fun v f' A' => ∃ y : MV, v = .tuple #[.agg y.vals.toArray, .bool r.2] ∧ y.m = r.1 ∧ y.Good f ∧ f' = f ∧ A' = A
section
variable (f : Frag) (F : List HP)
theorem rlnew_fn {n : Nat} (h : fewZ (n : Int)) : Fn Tryz.prog 26 [.int .i64 (n : Int)] f F (RetE (fun rb : Nat => .tuple #[.pointer (some ⟨rb, 0, none⟩), .int .i64 0]) f (fun rb => refL f rb n [] :: F)) := by
  obtain ⟨h1, h2, h3⟩ := h
  have hn : n ≤ 11 := by omega
  refine Fn.enter Tryz.func26 rfl Tryz.ntmps26 rfl (L := [(0, _)]) ⟨rfl, trivial⟩ fun base => ?_
  repeat (first | (refine H.rem (z := 1) rfl rfl rfl (by decide) h3 rfl ?_) | (refine H.build (t := 63) (out := refC n none 0 0 (fun _ => 0)) rfl rfl rfl (by kernel_rfl) rfl ?_) | ((first | apply H.move | apply H.assign); (iterate 3 exact rfl)) | (first | apply H.seq | apply H.region | apply H.nil | apply H.then_normal) | ((apply H.cmp); (iterate 5 exact rfl)) | ((apply H.pickF); (iterate 4 exact rfl)) | (apply H.cond_false; exact rfl) | (apply H.skip) | (apply H.gno; (iterate 3 exact rfl); (omega)))
  refine H.box (ls := refC n none 0 0 (fun _ => 0)) rfl rfl rfl rfl fun rb => ?_
  repeat (first | ((apply H.assign); (iterate 3 exact rfl)) | (first | apply H.nil | apply H.then_normal) | (apply H.ret))
  refine H.slc0 47 121 ?_
  refine H.front (x := row rb _ _) (by repeat (first | exact .here _ _ | apply Pull.there)) ?_
  refine H.imp (refL_fold (l := []) (fl := f) (none, 0) ⟨fun x hx => (by cases hx), Nat.zero_le _, LOK.nil n, hn⟩) ?_
  exact H.ret2 rfl rfl rfl (fun _ h => h) ⟨rb, rfl, rfl, rfl⟩
set_option maxRecDepth 20000 in
set_option maxHeartbeats 1600000 in
theorem rlget_fn {fl : Frag} (hfl : Le fl f) {rb n : Nat} {l : List MV} {og z : Int} :
    Fn Tryz.prog 29 [.pointer (some ⟨rb, 0, none⟩), .int .i64 og, .int .u64 z] f (refL fl rb n l :: F) (RGetP f (refL fl rb n l :: F) (getM (l.map MV.m) og z)) := by
  refine Fn.unpack fun i0 hi0 => ?_
  obtain ⟨p, c⟩ := i0
  have hll := hi0.2.1
  refine Fn.enter Tryz.func29 rfl Tryz.ntmps29 rfl (L := [(0, _), (1, _), (2, _)]) ⟨rfl, rfl, rfl, trivial⟩ fun base => ?_
  repeat ((first | apply H.seq | apply H.region))
  refine H.alloc (ls := msgZ.vals none 0) rfl rfl rfl fun ob => ?_
  repeat (first | ((apply H.assign); (iterate 3 exact rfl)) | (first | apply H.seq | apply H.region | apply H.nil | apply H.then_normal) | (apply H.block))
  refine H.loop (ι := Nat) (fun i => [(8, .int .i64 (i : Int)), (0, .pointer (some ⟨rb, 0, none⟩)), (1, .int .i64 og), (2, .int .u64 z), (6, .pointer (some ⟨ob, 0, none⟩))]) (fun _ => f)
    (fun _ => row ob 47 (msgZ.vals none 0) :: row rb 63 (refC n p l.length c (knownS (strm (l.map MV.m)))) :: slc p l.length c 47 121 (l.flatMap MV.vals) :: F)
    (fun i => i ≤ l.length ∧ ∀ j x, j < i → l[j]? = some x → ¬ (x.m.origin = og ∧ x.m.number = z)) (fun i => l.length - i) 0 ⟨Nat.zero_le _, fun j x hj => by omega⟩ ⟨rfl, rfl, rfl, rfl, rfl, trivial⟩ rfl rfl fun i hi => ?_
  obtain ⟨hi, hb⟩ : i ≤ l.length ∧ ∀ j x, j < i → l[j]? = some x → ¬ (x.m.origin = og ∧ x.m.number = z) := hi
  have hbm : ∀ j x, j < i → (l.map MV.m)[j]? = some x → ¬ (x.origin = og ∧ x.number = z) := fun j x hj hx => by
    rw [List.getElem?_map] at hx
    cases hl : l[j]? with
    | none => rw [hl] at hx; cases hx
    | some y => rw [hl] at hx; cases hx; exact hb j y hj hl
  by_cases hlt : i < l.length
  · obtain ⟨y, hy⟩ : ∃ y, l[i]? = some y := ⟨_, List.getElem?_eq_getElem hlt⟩
    have hyg := (hi0.1 y (List.mem_of_getElem? hy)).mono hfl
    refine H.front (x := slc p _ c _ _ _) (by repeat (first | exact .here _ _ | apply Pull.there)) ?_
    refine H.slc_some (p := p) (n0 := l.length) (c := c) (.here _ _ _) (by omega) fun sb hp => ?_
    subst hp
    have rd : ∀ {G}, Rd f (slc (some ⟨sb, 0, none⟩) l.length c 47 121 (l.flatMap MV.vals) :: G) sb (0 + i * 121) y.vals := fun {G} => by rw [Nat.zero_add]; exact Rd.slcElem MV.len (by decide) (.here _ _ _) hy
    repeat (first | ((first | apply H.move | apply H.nilCheck | apply H.len_slice); (iterate 3 exact rfl)) | (apply H.fieldAddr; (iterate 3 exact rfl); exact inferInstance; exact rfl) | (apply H.load1; (iterate 3 exact rfl); apply Rd1.ofRow; (repeat (first | exact .here _ _ _ | apply At.there)); (iterate 2 exact rfl)) | (first | apply H.seq | apply H.region | apply H.nil | apply H.then_normal) | ((apply H.cmp); (iterate 5 exact rfl)) | (first | apply H.skip | apply H.block) | (apply H.cond_yes; exact rfl; (omega)))
    refine H.index_slice (i := i) rfl rfl rfl rfl hlt rfl ?_
    repeat ((apply H.fieldAddr; (iterate 3 exact rfl); exact inferInstance; exact rfl))
    refine H.load1 rfl rfl rfl (Rd1.of (i := 0) rd rfl) rfl ?_
    by_cases h1 : y.m.origin = og
    · repeat (first | ((first | apply H.move | apply H.nilCheck); (iterate 3 exact rfl)) | (apply H.fieldAddr; (iterate 3 exact rfl); exact inferInstance; exact rfl) | (apply H.load1; (iterate 3 exact rfl); apply Rd1.ofRow; (repeat (first | exact .here _ _ _ | apply At.there)); (iterate 2 exact rfl)) | ((apply H.cmp); (iterate 5 exact rfl)) | (apply H.gyes; (iterate 3 exact rfl); (assumption)))
      refine H.index_slice (i := i) rfl rfl rfl rfl hlt rfl ?_
      repeat ((apply H.fieldAddr; (iterate 3 exact rfl); exact inferInstance; exact rfl))
      refine H.load1 rfl rfl rfl (Rd1.of (i := 1) rd rfl) rfl ?_
      by_cases h2 : y.m.number = z
      · repeat (first | ((first | apply H.move | apply H.nilCheck); (iterate 3 exact rfl)) | (apply H.fieldAddr; (iterate 3 exact rfl); exact inferInstance; exact rfl) | (apply H.load1; (iterate 3 exact rfl); apply Rd1.ofRow; (repeat (first | exact .here _ _ _ | apply At.there)); (iterate 2 exact rfl)) | (first | apply H.seq | apply H.region | apply H.nil | apply H.then_normal) | ((apply H.cmp); (iterate 5 exact rfl)) | (apply H.pickT; (iterate 4 exact rfl)) | (apply H.cond_yes; exact rfl; (assumption)))
        refine H.index_slice (i := i) rfl rfl rfl rfl hlt rfl ?_
        refine H.loadN (ls := y.vals) rfl rfl rfl rd rfl rfl ?_
        refine H.storeN (ls := msgZ.vals none 0) (vs := y.vals) (ls' := y.vals) rfl rfl rfl (allOne_mem rfl) rfl rfl (Nat.le_refl 121) (.there _ (.here _ _ _)) ?_
        repeat (first | ((apply H.assign); (iterate 3 exact rfl)) | (first | apply H.nil | apply H.then_normal) | (first | apply H.ret | apply H.then_ret | apply H.in_ret | apply H.loop_ret))
        refine H.front (x := row rb _ _) (by repeat (first | exact .here _ _ | apply Pull.there)) ?_
        refine H.front (x := row ob _ _) (by repeat (first | exact .here _ _ | apply Pull.there)) ?_
        have hget : getM (l.map MV.m) og z = (y.m, true) := getM_at (i := i) (by rw [List.getElem?_map, hy]; rfl) h1 h2 hbm
        rw [hget]
        exact H.retCT (ls := y.vals) rfl rfl rfl rfl (Rd.ofRow (.here _ _ _)) rfl (fun _ s => (s.drop (.here _ _)).imp (refL_fold (some ⟨sb, 0, none⟩, c) hi0)) ⟨y, rfl, rfl, hyg, rfl, rfl⟩
      · repeat (first | ((first | apply H.move | apply H.assign); (iterate 3 exact rfl)) | (first | apply H.region | apply H.nil | apply H.then_normal) | ((apply H.cmp); (iterate 5 exact rfl)) | ((apply H.ar; (iterate 4 exact rfl)); (with_reducible apply wr_i64_n1; omega); exact rfl) | (apply H.pickT; (iterate 4 exact rfl)) | (first | apply H.skip | apply H.in_normal) | (apply H.cond_no; exact rfl; (assumption)))
        refine H.front (x := row rb _ _) (by repeat (first | exact .here _ _ | apply Pull.there)) ?_
        refine H.front (x := row ob _ _) (by repeat (first | exact .here _ _ | apply Pull.there)) ?_
        refine H.again (i + 1) ⟨by show i + 1 ≤ l.length; omega, fun j x hj hx => ?_⟩ (by show l.length - (i + 1) < l.length - i; omega) ⟨rfl, rfl, rfl, rfl, rfl, trivial⟩ rfl rfl
        by_cases e : j = i
        · subst e; rw [hy] at hx; cases hx; exact fun h => h2 h.2
        · exact hb j x (by omega) hx
    · repeat (first | ((first | apply H.move | apply H.assign | apply H.nilCheck); (iterate 3 exact rfl)) | (first | apply H.region | apply H.nil | apply H.then_normal) | ((apply H.cmp); (iterate 5 exact rfl)) | ((apply H.ar; (iterate 4 exact rfl)); (with_reducible apply wr_i64_n1; omega); exact rfl) | (apply H.pass; (iterate 2 exact rfl)) | ((apply H.pickF); (iterate 4 exact rfl)) | (apply H.cond_false; exact rfl) | (first | apply H.skip | apply H.in_normal) | (apply H.gno; (iterate 3 exact rfl); (assumption)))
      refine H.front (x := row rb _ _) (by repeat (first | exact .here _ _ | apply Pull.there)) ?_
      refine H.front (x := row ob _ _) (by repeat (first | exact .here _ _ | apply Pull.there)) ?_
      refine H.again (i + 1) ⟨by show i + 1 ≤ l.length; omega, fun j x hj hx => ?_⟩ (by show l.length - (i + 1) < l.length - i; omega) ⟨rfl, rfl, rfl, rfl, rfl, trivial⟩ rfl rfl
      by_cases e : j = i
      · subst e; rw [hy] at hx; cases hx; exact fun h => h1 h.1
      · exact hb j x (by omega) hx
  · have e : i = l.length := by omega
    subst e
    have hget : getM (l.map MV.m) og z = (msgZ, false) := getM_none fun j x hj hx => hbm j x (by rw [List.length_map] at hj; exact hj) hx
    rw [hget]
    repeat (first | (refine H.build (t := 47) (out := msgZ.vals none 0) rfl rfl rfl (by kernel_rfl) rfl ?_) | ((first | apply H.move | apply H.nilCheck | apply H.len_slice); (iterate 3 exact rfl)) | (apply H.fieldAddr; (iterate 3 exact rfl); exact inferInstance; exact rfl) | (apply H.load1; (iterate 3 exact rfl); apply Rd1.ofRow; (repeat (first | exact .here _ _ _ | apply At.there)); (iterate 2 exact rfl)) | (first | apply H.seq | apply H.region | apply H.nil | apply H.then_normal) | ((apply H.cmp); (iterate 5 exact rfl)) | (first | apply H.then_exit | apply H.exit | apply H.in_hit | apply H.loop_exit) | (apply H.cond_no; exact rfl; (omega)))
    refine H.storeN (ls := msgZ.vals none 0) (vs := msgZ.vals none 0) (ls' := msgZ.vals none 0) rfl rfl rfl (allOne_mem rfl) rfl rfl (Nat.le_refl 121) (.here _ _ _) ?_
    repeat (first | ((apply H.assign); (iterate 3 exact rfl)) | (first | apply H.nil | apply H.then_normal) | (apply H.ret))
    exact H.retCT (ls := msgZ.vals none 0) rfl rfl rfl rfl (Rd.ofRow (.here _ _ _)) rfl (fun _ s => (s.drop (.here _ _)).imp (refL_fold (p, c) hi0)) ⟨⟨msgZ, none, 0⟩, rfl, rfl, msgZ_good _, rfl, rfl⟩
end
end Go.Proofs.YtoigpgdmignaoaaGreatDoor

/- Layer 12: the document's lore: form, Check. No condition. -/
namespace Go.Proofs.YtoigpgdmignaoaaGreatDoor
open Go
def Pos (m : Msg) : Prop := ∀ i, i < 11 → 0 ≤ m.deps i
theorem fitsB_no1 {n : Nat} {m : Msg} {i : Nat} {p : Int × Int} (hp : m.body.q[i]? = some p) (h : (n : Int) < p.1) : fitsB n m = false := by
  unfold fitsB
  have : m.body.q.all (fun p => decide (p.1 ≤ (n : Int))) = false := List.all_eq_false.2 ⟨p, List.mem_of_getElem? hp, by rw [decide_eq_false (by omega)]; decide⟩
  rw [this]; simp
theorem fitsB_no2 {n : Nat} {m : Msg} {i : Nat} (hi : i < 11) (hn : n ≤ i) (h : ¬ m.deps i = 0) (hp : Pos m) : fitsB n m = false := by
  unfold fitsB
  have h0 := hp i hi
  have : (List.range 11).all (fun i => decide (i < n) || decide (m.deps i ≤ 0)) = false := List.all_eq_false.2 ⟨i, List.mem_range.2 hi, by rw [decide_eq_false (by omega), decide_eq_false (by omega)]; decide⟩
  rw [this]; simp
theorem fitsB_yes {n : Nat} {m : Msg} (h1 : m.may = true) (h2 : m.origin ≤ (n : Int)) (h3 : ∀ (j : Nat) x, j < m.body.q.length → m.body.q[j]? = some x → x.1 ≤ (n : Int)) (h4 : ∀ j : Nat, n ≤ j → j < 11 → m.deps j = 0) : fitsB n m = true := by
  unfold fitsB
  rw [h1, decide_eq_true h2]
  simp only [Bool.true_and, Bool.and_eq_true]
  constructor
  · rw [List.all_eq_true]
    intro x hx
    obtain ⟨j, hj⟩ := List.getElem?_of_mem hx
    have hjl : j < m.body.q.length := by
      rcases Nat.lt_or_ge j m.body.q.length with h | h
      · exact h
      · rw [List.getElem?_eq_none h] at hj; cases hj
    exact decide_eq_true (h3 j x hjl hj)
  · rw [List.all_eq_true]
    intro j hj
    have hj := List.mem_range.1 hj
    rw [Bool.or_eq_true, decide_eq_true_eq, decide_eq_true_eq]
    by_cases h : j < n
    · exact .inl h
    · exact .inr (by rw [h4 j (by omega) hj]; exact Int.le_refl _)
section
variable (f : Frag) (F : List HP)
set_option maxHeartbeats 1600000 in
theorem rform_fn {rb n : Nat} {p : Option Addr} {m c : Nat} {v : Nat → Int} (hn : n ≤ 11) {x : MV} (hx : x.Good f) (hpos : Pos x.m) : Fn Tryz.prog 87 [.pointer (some ⟨rb, 0, none⟩), .agg x.vals.toArray] f (row rb 63 (refC n p m c v) :: F)
    (Ret (.bool (fitsB n x.m)) f (row rb 63 (refC n p m c v) :: F)) := by
  have hq : x.m.body.q.length ≤ 1000000000 := by have := hx.2.1; omega
  have hmay : ∀ G, Fn Tryz.prog 54 [.agg x.vals.toArray] f G (Ret (.bool x.m.may) f G) := fun G => rmay_fn f G hx.1 hq
  by_cases hm : x.m.may = true
  · rw [hm] at hmay
    by_cases ho : x.m.origin ≤ (n : Int)
    · skip
      refine Fn.enter Tryz.func87 rfl Tryz.ntmps87 rfl (L := [(0, _), (1, _)]) ⟨rfl, rfl, trivial⟩ fun base => ?_
      repeat ((first | apply H.seq | apply H.region))
      refine H.box (ls := x.vals) rfl rfl rfl rfl fun mb => ?_
      repeat (first | ((apply H.assign); (iterate 3 exact rfl)) | (first | apply H.seq | apply H.nil | apply H.then_normal))
      refine H.drawB (by kernel_rfl) (by decide +kernel) (by repeat (first | exact blind_fn | refine blind_seq ?_ | refine blind_block ?_ | refine blind_loop ?_)) (S := [_, _]) rfl ?_
      refine HB.quiet [(0, false)] 11 (by kernel_rfl) ?_
      refine HQ.loadN (ls := x.vals) rfl rfl rfl (Rd.ofRow (.here _ _ _)) rfl rfl ?_
      refine HQ.more rfl ?_
      refine HB.ev1 (i := 1) (by kernel_rfl) rfl ?_
      refine H.callR rfl rfl rfl (hmay _) ?_
      repeat ((apply H.nil))
      refine H.on0 rfl ?_
      refine HB.quiet [(2, false), (3, false), (4, false), (5, false), (6, false), (7, false), (8, false), (9, false), (10, false), (11, false)] 0 (by kernel_rfl) ?_
      repeat (first | ((first | apply HQ.move | apply HQ.nilCheck); (iterate 3 exact rfl)) | (apply HQ.fieldAddr; (iterate 3 exact rfl); exact inferInstance; exact rfl) | (apply HQ.load1; (iterate 3 exact rfl); apply Rd1.ofRow; (repeat (first | exact .here _ _ _ | apply At.there)); (iterate 2 exact rfl)) | ((apply HQ.cmp); (iterate 5 exact rfl)) | ((first | apply HQ.pickF | apply HQ.not); (iterate 4 exact rfl)))
      refine HQ.more rfl ?_
      refine HB.done (by kernel_rfl) ?_
      repeat (first | ((apply H.assign); (iterate 3 exact rfl)) | (first | apply H.seq | apply H.region | apply H.nil | apply H.then_normal) | (first | apply H.skip | apply H.block) | (apply H.cond_no; exact rfl; (omega)))
      refine H.loop (ι := Nat) (fun i => [(5, .int .i64 (i : Int)), (0, .pointer (some ⟨rb, 0, none⟩)), (3, .pointer (some ⟨mb, 0, none⟩))]) (fun _ => f) (fun _ => row mb 47 x.vals :: row rb 63 (refC n p m c v) :: F)
        (fun i => i ≤ x.m.body.q.length ∧ ∀ (j : Nat) y, j < i → x.m.body.q[j]? = some y → y.1 ≤ (n : Int)) (fun i => x.m.body.q.length - i) 0 ⟨Nat.zero_le _, fun j y hj => by omega⟩ ⟨rfl, rfl, rfl, trivial⟩ rfl rfl fun i hi => ?_
      obtain ⟨hi, hb⟩ : i ≤ x.m.body.q.length ∧ ∀ (j : Nat) y, j < i → x.m.body.q[j]? = some y → y.1 ≤ (n : Int) := hi
      by_cases hlt : i < x.m.body.q.length
      · obtain ⟨y, hy⟩ : ∃ y, x.m.body.q[i]? = some y := ⟨_, List.getElem?_eq_getElem hlt⟩
        obtain ⟨b, off, cs, T, fr, hqp, hfb, hcs⟩ := hx.1 i y hy
        have rd : ∀ A, Rd f A b (off + i * 2) (pairV y) := fun A => Rd.imm hfb hcs
        have hxv : x.vals = x.m.vals (some ⟨b, off, none⟩) x.qc := by unfold MV.vals; rw [hqp]
        rw [hxv]
        by_cases hyn : y.1 ≤ (n : Int)
        · repeat (first | ((first | apply H.move | apply H.len_slice); (iterate 3 exact rfl)) | (apply H.fieldAddr; (iterate 3 exact rfl); exact inferInstance; exact rfl) | (apply H.load1; (iterate 3 exact rfl); apply Rd1.ofRow; (repeat (exact .here _ _ _)); (iterate 2 exact rfl)) | (first | apply H.seq | apply H.region | apply H.nil | apply H.then_normal) | ((apply H.cmp); (iterate 5 exact rfl)) | (first | apply H.skip | apply H.block) | (apply H.cond_yes; exact rfl; (omega)))
          refine H.drawQ (by kernel_rfl) (by decide +kernel) (by repeat (first | exact blind_fn | refine blind_seq ?_ | refine blind_block ?_ | refine blind_loop ?_)) ?_
          repeat (first | ((apply HQ.move); (iterate 3 exact rfl)) | (apply HQ.fieldAddr; (iterate 3 exact rfl); exact inferInstance; exact rfl) | (apply HQ.load1; (iterate 3 exact rfl); apply Rd1.ofRow; (repeat (exact .here _ _ _)); (iterate 2 exact rfl)))
          refine HQ.index_slice (i := i) rfl rfl rfl rfl hlt rfl ?_
          repeat ((apply HQ.fieldAddr; (iterate 3 exact rfl); exact inferInstance; exact rfl))
          refine HQ.load1 rfl rfl rfl (Rd1.of (i := 0) (rd _) rfl) rfl ?_
          repeat (first | ((first | apply HQ.move | apply HQ.nilCheck); (iterate 3 exact rfl)) | (apply HQ.fieldAddr; (iterate 3 exact rfl); exact inferInstance; exact rfl) | (apply HQ.load1; (iterate 3 exact rfl); apply Rd1.ofRow; (repeat (first | exact .here _ _ _ | apply At.there)); (iterate 2 exact rfl)) | ((apply HQ.done0); exact rfl) | ((apply HQ.cmp); (iterate 5 exact rfl)))
          repeat (first | ((first | apply H.move | apply H.assign); (iterate 3 exact rfl)) | (first | apply H.region | apply H.nil | apply H.then_normal) | ((apply H.ar; (iterate 4 exact rfl)); (with_reducible apply wr_i64_n1; omega); exact rfl) | (first | apply H.skip | apply H.in_normal) | (apply H.cond_no; exact rfl; (omega)))
          refine H.again (i + 1) ⟨by show i + 1 ≤ x.m.body.q.length; omega, fun j z hj hz => ?_⟩ (by show x.m.body.q.length - (i + 1) < x.m.body.q.length - i; omega) ⟨rfl, rfl, rfl, trivial⟩ rfl rfl
          by_cases e : j = i
          · subst e; rw [hy] at hz; cases hz; exact hyn
          · exact hb j z (by omega) hz
        · rw [fitsB_no1 hy (by omega)]
          repeat (first | ((first | apply H.move | apply H.len_slice); (iterate 3 exact rfl)) | (apply H.fieldAddr; (iterate 3 exact rfl); exact inferInstance; exact rfl) | (apply H.load1; (iterate 3 exact rfl); apply Rd1.ofRow; (repeat (exact .here _ _ _)); (iterate 2 exact rfl)) | (first | apply H.seq | apply H.region | apply H.nil | apply H.then_normal) | ((apply H.cmp); (iterate 5 exact rfl)) | (first | apply H.skip | apply H.block) | (apply H.cond_yes; exact rfl; (omega)))
          refine H.drawQ (by kernel_rfl) (by decide +kernel) (by repeat (first | exact blind_fn | refine blind_seq ?_ | refine blind_block ?_ | refine blind_loop ?_)) ?_
          repeat (first | ((apply HQ.move); (iterate 3 exact rfl)) | (apply HQ.fieldAddr; (iterate 3 exact rfl); exact inferInstance; exact rfl) | (apply HQ.load1; (iterate 3 exact rfl); apply Rd1.ofRow; (repeat (exact .here _ _ _)); (iterate 2 exact rfl)))
          refine HQ.index_slice (i := i) rfl rfl rfl rfl hlt rfl ?_
          repeat ((apply HQ.fieldAddr; (iterate 3 exact rfl); exact inferInstance; exact rfl))
          refine HQ.load1 rfl rfl rfl (Rd1.of (i := 0) (rd _) rfl) rfl ?_
          repeat (first | ((first | apply HQ.move | apply HQ.nilCheck); (iterate 3 exact rfl)) | (apply HQ.fieldAddr; (iterate 3 exact rfl); exact inferInstance; exact rfl) | (apply HQ.load1; (iterate 3 exact rfl); apply Rd1.ofRow; (repeat (first | exact .here _ _ _ | apply At.there)); (iterate 2 exact rfl)) | ((apply HQ.done0); exact rfl) | ((apply HQ.cmp); (iterate 5 exact rfl)))
          repeat (first | ((apply H.assign); (iterate 3 exact rfl)) | (first | apply H.seq | apply H.region | apply H.nil | apply H.then_normal) | (first | apply H.ret | apply H.then_ret | apply H.in_ret | apply H.loop_ret) | (apply H.cond_yes; exact rfl; (omega)))
          refine H.drop (.here _ _) ?_
          exact H.ret1 rfl rfl (fun _ h => h) ⟨rfl, rfl, rfl⟩
      · have e : i = x.m.body.q.length := by omega
        subst e
        repeat (first | ((first | apply H.move | apply H.assign | apply H.nilCheck | apply H.len_slice); (iterate 3 exact rfl)) | (apply H.fieldAddr; (iterate 3 exact rfl); exact inferInstance; exact rfl) | (apply H.load1; (iterate 3 exact rfl); apply Rd1.ofRow; (repeat (first | exact .here _ _ _ | apply At.there)); (iterate 2 exact rfl)) | (first | apply H.seq | apply H.region | apply H.nil | apply H.then_normal) | ((apply H.cmp); (iterate 5 exact rfl)) | (first | apply H.then_exit | apply H.exit | apply H.block | apply H.in_hit | apply H.loop_exit) | (apply H.cond_no; exact rfl; (omega)))
        refine H.loop (ι := Nat) (fun i => [(6, .int .i64 (i : Int)), (0, .pointer (some ⟨rb, 0, none⟩)), (3, .pointer (some ⟨mb, 0, none⟩))]) (fun _ => f) (fun _ => row mb 47 x.vals :: row rb 63 (refC n p m c v) :: F)
          (fun i => n ≤ i ∧ i ≤ 11 ∧ ∀ j : Nat, n ≤ j → j < i → x.m.deps j = 0) (fun i => 11 - i) n ⟨Nat.le_refl _, hn, fun j h1 h2 => by omega⟩ ⟨rfl, rfl, rfl, trivial⟩ rfl rfl fun i hi => ?_
        obtain ⟨hni, hi, hd⟩ : n ≤ i ∧ i ≤ 11 ∧ ∀ j : Nat, n ≤ j → j < i → x.m.deps j = 0 := hi
        by_cases hi11 : i < 11
        · by_cases hz : x.m.deps i = 0
          · repeat (first | ((apply H.move); (iterate 3 exact rfl)) | (apply H.fieldAddr; (iterate 3 exact rfl); exact inferInstance; exact rfl) | (first | apply H.seq | apply H.region | apply H.nil | apply H.then_normal) | ((apply H.cmp); (iterate 5 exact rfl)) | (first | apply H.skip | apply H.block) | (apply H.cond_yes; exact rfl; (omega)))
            refine H.index_array (i := i) rfl rfl rfl rfl hi11 rfl ?_
            refine H.load1 rfl rfl rfl (by rw [Nat.mul_one]; exact Rd1.of (msg_deps (m := x.m) (q := x.qp) (qc := x.qc) (.here _ _ _)) (v11_get x.m.deps hi11)) rfl ?_
            repeat (first | ((first | apply H.move | apply H.assign); (iterate 3 exact rfl)) | (first | apply H.region | apply H.nil | apply H.then_normal) | ((apply H.cmp); (iterate 5 exact rfl)) | ((apply H.ar; (iterate 4 exact rfl)); (with_reducible apply wr_i64_n1; omega); exact rfl) | (first | apply H.skip | apply H.in_normal) | (apply H.cond_no; exact rfl; (omega)))
            refine H.again (i + 1) ⟨by show n ≤ i + 1; omega, by show i + 1 ≤ 11; omega, fun j h1 h2 => ?_⟩ (by show 11 - (i + 1) < 11 - i; omega) ⟨rfl, rfl, rfl, trivial⟩ rfl rfl
            by_cases e : j = i
            · rw [e]; exact hz
            · exact hd j h1 (by omega)
          · rw [fitsB_no2 hi11 hni hz hpos]
            repeat (first | ((apply H.move); (iterate 3 exact rfl)) | (apply H.fieldAddr; (iterate 3 exact rfl); exact inferInstance; exact rfl) | (first | apply H.seq | apply H.region | apply H.nil | apply H.then_normal) | ((apply H.cmp); (iterate 5 exact rfl)) | (first | apply H.skip | apply H.block) | (apply H.cond_yes; exact rfl; (omega)))
            refine H.index_array (i := i) rfl rfl rfl rfl hi11 rfl ?_
            refine H.load1 rfl rfl rfl (by rw [Nat.mul_one]; exact Rd1.of (msg_deps (m := x.m) (q := x.qp) (qc := x.qc) (.here _ _ _)) (v11_get x.m.deps hi11)) rfl ?_
            repeat (first | ((apply H.assign); (iterate 3 exact rfl)) | (first | apply H.seq | apply H.region | apply H.nil | apply H.then_normal) | ((apply H.cmp); (iterate 5 exact rfl)) | (first | apply H.ret | apply H.then_ret | apply H.in_ret | apply H.loop_ret) | (apply H.cond_yes; exact rfl; (assumption)))
            refine H.drop (.here _ _) ?_
            exact H.ret1 rfl rfl (fun _ h => h) ⟨rfl, rfl, rfl⟩
        · have e : i = 11 := by omega
          subst e
          rw [fitsB_yes hm ho hb hd]
          repeat (first | ((first | apply H.move | apply H.assign); (iterate 3 exact rfl)) | (first | apply H.seq | apply H.region | apply H.nil | apply H.then_normal) | ((apply H.cmp); (iterate 5 exact rfl)) | (apply H.cond_false; exact rfl) | (first | apply H.ret | apply H.then_exit | apply H.exit | apply H.in_hit | apply H.loop_exit))
          refine H.drop (.here _ _) ?_
          exact H.ret1 rfl rfl (fun _ h => h) ⟨rfl, rfl, rfl⟩
    · have e : fitsB n x.m = false := by unfold fitsB; rw [decide_eq_false ho]; simp
      rw [e]
      refine Fn.enter Tryz.func87 rfl Tryz.ntmps87 rfl (L := [(0, _), (1, _)]) ⟨rfl, rfl, trivial⟩ fun base => ?_
      repeat ((first | apply H.seq | apply H.region))
      refine H.box (ls := x.vals) rfl rfl rfl rfl fun mb => ?_
      repeat (first | ((apply H.assign); (iterate 3 exact rfl)) | (first | apply H.seq | apply H.nil | apply H.then_normal))
      refine H.drawB (by kernel_rfl) (by decide +kernel) (by repeat (first | exact blind_fn | refine blind_seq ?_ | refine blind_block ?_ | refine blind_loop ?_)) (S := [_, _]) rfl ?_
      refine HB.quiet [(0, false)] 11 (by kernel_rfl) ?_
      refine HQ.loadN (ls := x.vals) rfl rfl rfl (Rd.ofRow (.here _ _ _)) rfl rfl ?_
      refine HQ.more rfl ?_
      refine HB.ev1 (i := 1) (by kernel_rfl) rfl ?_
      refine H.callR rfl rfl rfl (hmay _) ?_
      repeat ((apply H.nil))
      refine H.on0 rfl ?_
      refine HB.quiet [(2, false), (3, false), (4, false), (5, false), (6, false), (7, false), (8, false), (9, false), (10, false), (11, false)] 0 (by kernel_rfl) ?_
      repeat (first | ((first | apply HQ.move | apply HQ.nilCheck); (iterate 3 exact rfl)) | (apply HQ.fieldAddr; (iterate 3 exact rfl); exact inferInstance; exact rfl) | (apply HQ.load1; (iterate 3 exact rfl); apply Rd1.ofRow; (repeat (first | exact .here _ _ _ | apply At.there)); (iterate 2 exact rfl)) | ((apply HQ.cmp); (iterate 5 exact rfl)) | ((first | apply HQ.pickF | apply HQ.not); (iterate 4 exact rfl)))
      refine HQ.more rfl ?_
      refine HB.done (by kernel_rfl) ?_
      repeat (first | ((apply H.assign); (iterate 3 exact rfl)) | (first | apply H.seq | apply H.region | apply H.nil | apply H.then_normal) | (first | apply H.ret | apply H.then_ret) | (apply H.cond_yes; exact rfl; (omega)))
      refine H.drop (.here _ _) ?_
      exact H.ret1 rfl rfl (fun _ h => h) ⟨rfl, rfl, rfl⟩
  · have hm : x.m.may = false := Bool.eq_false_iff.2 hm
    have e : fitsB n x.m = false := by unfold fitsB; rw [hm]; rfl
    rw [hm] at hmay
    rw [e]
    refine Fn.enter Tryz.func87 rfl Tryz.ntmps87 rfl (L := [(0, _), (1, _)]) ⟨rfl, rfl, trivial⟩ fun base => ?_
    repeat ((first | apply H.seq | apply H.region))
    refine H.box (ls := x.vals) rfl rfl rfl rfl fun mb => ?_
    repeat (first | ((apply H.assign); (iterate 3 exact rfl)) | (first | apply H.seq | apply H.nil | apply H.then_normal))
    refine H.drawB (by kernel_rfl) (by decide +kernel) (by repeat (first | exact blind_fn | refine blind_seq ?_ | refine blind_block ?_ | refine blind_loop ?_)) (S := [_, _]) rfl ?_
    refine HB.quiet [(0, false)] 11 (by kernel_rfl) ?_
    refine HQ.loadN (ls := x.vals) rfl rfl rfl (Rd.ofRow (.here _ _ _)) rfl rfl ?_
    refine HQ.more rfl ?_
    refine HB.ev1 (i := 1) (by kernel_rfl) rfl ?_
    refine H.callR rfl rfl rfl (hmay _) ?_
    repeat ((apply H.nil))
    refine H.on0 rfl ?_
    refine HB.quiet [(2, false), (3, false), (4, false), (5, false), (6, false), (7, false), (8, false), (9, false), (10, false), (11, false)] 0 (by kernel_rfl) ?_
    repeat (first | ((first | apply HQ.move | apply HQ.nilCheck); (iterate 3 exact rfl)) | (apply HQ.pass; (iterate 2 exact rfl)) | (apply HQ.pickT; (iterate 4 exact rfl)) | ((apply HQ.not); (iterate 4 exact rfl)))
    refine HQ.more rfl ?_
    refine HB.done (by kernel_rfl) ?_
    repeat (first | ((apply H.assign); (iterate 3 exact rfl)) | (first | apply H.seq | apply H.region | apply H.nil | apply H.then_normal) | (apply H.cond_true; exact rfl) | (first | apply H.ret | apply H.then_ret))
    refine H.drop (.here _ _) ?_
    exact H.ret1 rfl rfl (fun _ h => h) ⟨rfl, rfl, rfl⟩
end
end Go.Proofs.YtoigpgdmignaoaaGreatDoor

/- Layer 12: the document's lore: Check. No condition. -/
namespace Go.Proofs.YtoigpgdmignaoaaGreatDoor
open Go
theorem aboveB_true {a b : Nat → Int} {i : Nat} (hi : i < 11) (h : b i < a i) : aboveB a b = true := by
  unfold aboveB
  rw [List.any_eq_true]
  exact ⟨i, List.mem_range.2 hi, decide_eq_true h⟩
section
variable (f : Frag) (F : List HP)
set_option maxHeartbeats 3200000 in
theorem rlcheck_fn {fl : Frag} (hfl : Le fl f) {rb n : Nat} {l : List MV} {x : MV} (hx : x.Good f) (hpos : Pos x.m) : Fn Tryz.prog 62 [.pointer (some ⟨rb, 0, none⟩), .agg x.vals.toArray] f (refL fl rb n l :: F)
    (Ret (.int .i64 (chk n (strm (l.map MV.m)) x.m)) f (refL fl rb n l :: F)) := by
  refine Fn.unpack fun i0 hi => ?_
  obtain ⟨p, c⟩ := i0
  have hn := hi.2.2.2
  have hform : ∀ {G}, Fn Tryz.prog 87 [.pointer (some ⟨rb, 0, none⟩), .agg x.vals.toArray] f (row rb 63 (refC n p l.length c (knownS (strm (l.map MV.m)))) :: G) (Ret (.bool (fitsB n x.m)) f (row rb 63 (refC n p l.length c (knownS (strm (l.map MV.m)))) :: G)) := fun {G} => rform_fn f G hn hx hpos
  have hright : ∀ {G}, Fn Tryz.prog 24 [.agg x.vals.toArray] f G (Ret (.bool x.m.right) f G) := fun {G} => rmright_fn f G hx
  cases h1 : fitsB n x.m with
  | false =>
    rw [h1] at hform
    refine Fn.enter Tryz.func62 rfl Tryz.ntmps62 rfl (L := [(0, _), (1, _)]) ⟨rfl, rfl, trivial⟩ fun base => ?_
    repeat ((first | apply H.seq | apply H.region))
    refine H.box (ls := x.vals) rfl rfl rfl rfl fun mb => ?_
    repeat (first | ((first | apply H.move | apply H.assign); (iterate 3 exact rfl)) | (first | apply H.seq | apply H.region | apply H.nil | apply H.then_normal))
    refine H.loadN (ls := x.vals) rfl rfl rfl (Rd.ofRow (.here _ _ _)) rfl rfl ?_
    refine H.front (x := row rb _ _) (by repeat (first | exact .here _ _ | apply Pull.there)) ?_
    refine H.callR rfl rfl rfl hform ?_
    refine H.not (b := _) (c := _) rfl rfl rfl rfl ?_
    repeat (first | ((apply H.assign); (iterate 3 exact rfl)) | (first | apply H.seq | apply H.region | apply H.nil | apply H.then_normal) | (apply H.cond_true; exact rfl) | (first | apply H.ret | apply H.then_ret))
    refine H.front (x := slc _ _ _ _ _ _) (by repeat (first | exact .here _ _ | apply Pull.there)) ?_
    refine H.front (x := row rb _ _) (by repeat (first | exact .here _ _ | apply Pull.there)) ?_
    refine H.imp (refL_fold (p, c) hi) ?_
    refine H.drop (x := row mb _ _) (by repeat (first | exact .here _ _ | apply Pull.there)) ?_
    refine H.ret1 rfl rfl (fun _ h => h) ⟨?_, rfl, rfl⟩
    unfold chk
    rw [if_pos h1]
  | true =>
    obtain ⟨o, hoo, hoz, hon, ho11, ho1, ho2⟩ := fits_at h1 hn
    have hoe : x.m.origin = ((o + 1 : Nat) : Int) := by omega
    rw [h1] at hform
    cases h2 : x.m.right with
    | false =>
      rw [h2] at hright
      refine Fn.enter Tryz.func62 rfl Tryz.ntmps62 rfl (L := [(0, _), (1, _)]) ⟨rfl, rfl, trivial⟩ fun base => ?_
      repeat ((first | apply H.seq | apply H.region))
      refine H.box (ls := x.vals) rfl rfl rfl rfl fun mb => ?_
      repeat (first | ((first | apply H.move | apply H.assign); (iterate 3 exact rfl)) | (first | apply H.seq | apply H.region | apply H.nil | apply H.then_normal))
      refine H.loadN (ls := x.vals) rfl rfl rfl (Rd.ofRow (.here _ _ _)) rfl rfl ?_
      refine H.front (x := row rb _ _) (by repeat (first | exact .here _ _ | apply Pull.there)) ?_
      refine H.callR rfl rfl rfl hform ?_
      refine H.not (b := _) (c := _) rfl rfl rfl rfl ?_
      repeat (first | (first | apply H.seq | apply H.region | apply H.nil | apply H.then_normal) | (apply H.cond_false; exact rfl) | (apply H.skip))
      refine H.loadN (ls := x.vals) rfl rfl rfl (Rd.ofRow (.there _ (.here _ _ _))) rfl rfl ?_
      refine H.callR rfl rfl rfl hright ?_
      refine H.not (b := _) (c := _) rfl rfl rfl rfl ?_
      repeat (first | ((apply H.assign); (iterate 3 exact rfl)) | (first | apply H.seq | apply H.region | apply H.nil | apply H.then_normal) | (apply H.cond_true; exact rfl) | (first | apply H.ret | apply H.then_ret))
      refine H.front (x := slc _ _ _ _ _ _) (by repeat (first | exact .here _ _ | apply Pull.there)) ?_
      refine H.front (x := row rb _ _) (by repeat (first | exact .here _ _ | apply Pull.there)) ?_
      refine H.imp (refL_fold (p, c) hi) ?_
      refine H.drop (x := row mb _ _) (by repeat (first | exact .here _ _ | apply Pull.there)) ?_
      refine H.ret1 rfl rfl (fun _ h => h) ⟨?_, rfl, rfl⟩
      unfold chk
      rw [if_neg (by rw [h1]; decide), if_pos h2]
    | true =>
      rw [h2] at hright
      have hsl := strmV_le l o
      have hll := hi.2.1
      have hlen := strm_lenV l o
      have hv : (v11 (knownS (strm (l.map MV.m))))[o]? = some (.int .u64 (((strmV l o).length : Nat) : Int)) := by rw [v11_get _ ho11, knownS_len]
      have hchk : chk n (strm (l.map MV.m)) x.m = if x.m.number ≤ ((strmV l o).length : Nat) then 13 else
          if x.m.number = (((strmV l o).length + 1 : Nat) : Int) ∧ 0 < (strmV l o).length ∧ aboveB (lastD (strm (l.map MV.m) o)) x.m.deps = true then 1 else
          if (((strmV l o).length + 1 : Nat) : Int) < x.m.number ∨ aboveB x.m.deps (knownS (strm (l.map MV.m))) = true then 12 else 0 := by
        unfold chk
        rw [if_neg (by rw [h1]; decide), if_neg (by rw [h2]; decide), hoo, hlen]
      by_cases h3 : x.m.number ≤ ((strmV l o).length : Nat)
      · generalize hs : (strmV l o).length = s at *
        refine Fn.enter Tryz.func62 rfl Tryz.ntmps62 rfl (L := [(0, _), (1, _)]) ⟨rfl, rfl, trivial⟩ fun base => ?_
        repeat ((first | apply H.seq | apply H.region))
        refine H.box (ls := x.vals) rfl rfl rfl rfl fun mb => ?_
        repeat (first | ((first | apply H.move | apply H.assign); (iterate 3 exact rfl)) | (first | apply H.seq | apply H.region | apply H.nil | apply H.then_normal))
        refine H.loadN (ls := x.vals) rfl rfl rfl (Rd.ofRow (.here _ _ _)) rfl rfl ?_
        refine H.front (x := row rb _ _) (by repeat (first | exact .here _ _ | apply Pull.there)) ?_
        refine H.callR rfl rfl rfl hform ?_
        refine H.not (b := _) (c := _) rfl rfl rfl rfl ?_
        repeat (first | (first | apply H.seq | apply H.region | apply H.nil | apply H.then_normal) | (apply H.cond_false; exact rfl) | (apply H.skip))
        refine H.loadN (ls := x.vals) rfl rfl rfl (Rd.ofRow (.there _ (.here _ _ _))) rfl rfl ?_
        refine H.callR rfl rfl rfl hright ?_
        refine H.not (b := _) (c := _) rfl rfl rfl rfl ?_
        repeat (first | (first | apply H.seq | apply H.nil | apply H.then_normal) | (apply H.cond_false; exact rfl) | (apply H.skip))
        refine H.drawQ (by kernel_rfl) (by decide +kernel) (by repeat (first | exact blind_fn | refine blind_seq ?_ | refine blind_block ?_ | refine blind_loop ?_)) ?_
        repeat (first | ((first | apply HQ.move | apply HQ.nilCheck); (iterate 3 exact rfl)) | (apply HQ.fieldAddr; (iterate 3 exact rfl); exact inferInstance; exact rfl) | (apply HQ.load1; (iterate 3 exact rfl); apply Rd1.ofRow; (repeat (first | exact .here _ _ _ | apply At.there)); (iterate 2 exact rfl)) | ((apply HQ.ar; (iterate 4 exact rfl)); (with_reducible apply wr_i64; omega); exact rfl))
        refine HQ.index_array (i := o) rfl rfl rfl hoz ho11 rfl ?_
        refine HQ.load1 rfl rfl rfl (by rw [Nat.mul_one]; exact Rd1.of (refC_deps (.here _ _ _)) hv) rfl ?_
        repeat (first | ((apply HQ.assign); (iterate 3 exact rfl)) | ((apply HQ.done0); exact rfl))
        repeat (first | ((first | apply H.move | apply H.assign); (iterate 3 exact rfl)) | (apply H.fieldAddr; (iterate 3 exact rfl); exact inferInstance; exact rfl) | (apply H.load1; (iterate 3 exact rfl); apply Rd1.ofRow; (repeat (first | exact .here _ _ _ | apply At.there)); (iterate 2 exact rfl)) | (first | apply H.seq | apply H.region | apply H.nil | apply H.then_normal) | ((apply H.cmp); (iterate 5 exact rfl)) | (first | apply H.ret | apply H.then_ret) | (apply H.cond_yes; exact rfl; (assumption)))
        refine H.front (x := slc _ _ _ _ _ _) (by repeat (first | exact .here _ _ | apply Pull.there)) ?_
        refine H.front (x := row rb _ _) (by repeat (first | exact .here _ _ | apply Pull.there)) ?_
        refine H.imp (refL_fold (p, c) hi) ?_
        refine H.drop (x := row mb _ _) (by repeat (first | exact .here _ _ | apply Pull.there)) ?_
        refine H.ret1 rfl rfl (fun _ h => h) ⟨?_, rfl, rfl⟩
        rw [hchk, if_pos h3]
      · by_cases h4 : x.m.number = (((strmV l o).length + 1 : Nat) : Int)
        · by_cases h0 : 0 < (strmV l o).length
          · obtain ⟨y, hy⟩ : ∃ y, (strmV l o)[(strmV l o).length - 1]? = some y := ⟨_, List.getElem?_eq_getElem (by omega)⟩
            have hlast : lastD (strm (l.map MV.m) o) = y.m.deps := by
              rw [← strmV_map]
              exact lastD_get (by rw [List.length_map, List.getElem?_map, hy]; rfl)
            have hgt : getM (l.map MV.m) x.m.origin (((strmV l o).length : Nat) : Int) = (y.m, true) := by
              have h5 := hi.2.2.1.find hon ((strmV l o).length - 1)
              rw [show (strmV l o).length - 1 + 1 = (strmV l o).length by omega, ← strmV_map, List.getElem?_map, hy] at h5
              unfold getM
              rw [hoe, h5]
              rfl
            rw [hlast] at hchk
            have hget := fun G => rlget_fn f G hfl (rb := rb) (n := n) (l := l) (og := x.m.origin) (z := (((strmV l o).length : Nat) : Int))
            rw [hgt] at hget
            generalize hs : (strmV l o).length = s at *
            refine Fn.enter Tryz.func62 rfl Tryz.ntmps62 rfl (L := [(0, _), (1, _)]) ⟨rfl, rfl, trivial⟩ fun base => ?_
            repeat ((first | apply H.seq | apply H.region))
            refine H.box (ls := x.vals) rfl rfl rfl rfl fun mb => ?_
            repeat (first | ((first | apply H.move | apply H.assign); (iterate 3 exact rfl)) | (first | apply H.seq | apply H.region | apply H.nil | apply H.then_normal))
            refine H.loadN (ls := x.vals) rfl rfl rfl (Rd.ofRow (.here _ _ _)) rfl rfl ?_
            refine H.front (x := row rb _ _) (by repeat (first | exact .here _ _ | apply Pull.there)) ?_
            refine H.callR rfl rfl rfl hform ?_
            refine H.not (b := _) (c := _) rfl rfl rfl rfl ?_
            repeat (first | (first | apply H.seq | apply H.region | apply H.nil | apply H.then_normal) | (apply H.cond_false; exact rfl) | (apply H.skip))
            refine H.loadN (ls := x.vals) rfl rfl rfl (Rd.ofRow (.there _ (.here _ _ _))) rfl rfl ?_
            refine H.callR rfl rfl rfl hright ?_
            refine H.not (b := _) (c := _) rfl rfl rfl rfl ?_
            repeat (first | (first | apply H.seq | apply H.nil | apply H.then_normal) | (apply H.cond_false; exact rfl) | (apply H.skip))
            refine H.drawQ (by kernel_rfl) (by decide +kernel) (by repeat (first | exact blind_fn | refine blind_seq ?_ | refine blind_block ?_ | refine blind_loop ?_)) ?_
            repeat (first | ((first | apply HQ.move | apply HQ.nilCheck); (iterate 3 exact rfl)) | (apply HQ.fieldAddr; (iterate 3 exact rfl); exact inferInstance; exact rfl) | (apply HQ.load1; (iterate 3 exact rfl); apply Rd1.ofRow; (repeat (first | exact .here _ _ _ | apply At.there)); (iterate 2 exact rfl)) | ((apply HQ.ar; (iterate 4 exact rfl)); (with_reducible apply wr_i64; omega); exact rfl))
            refine HQ.index_array (i := o) rfl rfl rfl hoz ho11 rfl ?_
            refine HQ.load1 rfl rfl rfl (by rw [Nat.mul_one]; exact Rd1.of (refC_deps (.here _ _ _)) hv) rfl ?_
            repeat (first | ((apply HQ.assign); (iterate 3 exact rfl)) | ((apply HQ.done0); exact rfl))
            repeat (first | ((apply H.move); (iterate 3 exact rfl)) | (apply H.fieldAddr; (iterate 3 exact rfl); exact inferInstance; exact rfl) | (apply H.load1; (iterate 3 exact rfl); apply Rd1.ofRow; (repeat (first | exact .here _ _ _ | apply At.there)); (iterate 2 exact rfl)) | (first | apply H.seq | apply H.region | apply H.nil | apply H.then_normal) | ((apply H.cmp); (iterate 5 exact rfl)) | ((apply H.ar; (iterate 4 exact rfl)); (with_reducible apply wr_u64; omega); exact rfl) | (apply H.pickT; (iterate 4 exact rfl)) | (apply H.skip) | (apply H.gyes; (iterate 3 exact rfl); (assumption)) | (apply H.cond_yes; exact rfl; (omega)) | (apply H.cond_no; exact rfl; (assumption)))
            refine H.front (x := slc _ _ _ _ _ _) (by repeat (first | exact .here _ _ | apply Pull.there)) ?_
            refine H.front (x := row rb _ _) (by repeat (first | exact .here _ _ | apply Pull.there)) ?_
            refine H.imp (refL_fold (p, c) hi) ?_
            refine H.call rfl rfl rfl (hget _) fun v f' A' hr => ?_
            obtain ⟨z, rfl, hzm, hzg, hff, rfl⟩ := hr
            rw [hff]
            refine H.unpack fun i1 hi => ?_
            obtain ⟨p, c⟩ := i1
            have hzm : z.m = y.m := hzm
            rw [← hzm] at hchk
            clear hget hgt hlast hy hform hright
            repeat (first | ((apply H.move); (iterate 3 exact rfl)) | ((apply H.extract); (iterate 4 exact rfl)))
            refine H.alloc (ls := msgZ.vals none 0) rfl rfl rfl fun zb => ?_
            refine H.storeN (ls := msgZ.vals none 0) (vs := z.vals) (ls' := z.vals) rfl rfl rfl (allOne_mem rfl) rfl rfl (Nat.le_refl 121) (.here _ _ _) ?_
            repeat (first | ((apply H.assign); (iterate 3 exact rfl)) | (first | apply H.seq | apply H.region | apply H.nil | apply H.then_normal) | (apply H.block))
            refine H.front (x := row mb _ _) (by repeat (first | exact .here _ _ | apply Pull.there)) ?_
            refine H.front (x := row zb _ _) (by repeat (first | exact .here _ _ | apply Pull.there)) ?_
            refine H.loop (ι := Nat) (fun t => [(8, .int .i64 (t : Int)), (0, .pointer (some ⟨rb, 0, none⟩)), (3, .pointer (some ⟨mb, 0, none⟩)), (6, .pointer (some ⟨zb, 0, none⟩)), (5, .int .u64 (s : Nat))]) (fun _ => f)
              (fun _ => row zb 47 z.vals :: row mb 47 x.vals :: row rb 63 (refC n p l.length c (knownS (strm (l.map MV.m)))) :: slc p l.length c 47 121 (l.flatMap MV.vals) :: F)
              (fun t => t ≤ 11 ∧ ∀ j, j < t → z.m.deps j ≤ x.m.deps j) (fun t => 11 - t) 0 ⟨Nat.zero_le _, fun j hj => by omega⟩ ⟨rfl, rfl, rfl, rfl, rfl, trivial⟩ rfl rfl fun t ht => ?_
            obtain ⟨ht, hdn⟩ : t ≤ 11 ∧ ∀ j, j < t → z.m.deps j ≤ x.m.deps j := ht
            by_cases ht11 : t < 11
            · by_cases hdt : z.m.deps t ≤ x.m.deps t
              · repeat (first | ((apply H.move); (iterate 3 exact rfl)) | (first | apply H.seq | apply H.region | apply H.nil | apply H.then_normal) | ((apply H.cmp); (iterate 5 exact rfl)) | (first | apply H.skip | apply H.block) | (apply H.cond_yes; exact rfl; (omega)))
                refine H.drawQ (by kernel_rfl) (by decide +kernel) (by repeat (first | exact blind_fn | refine blind_seq ?_ | refine blind_block ?_ | refine blind_loop ?_)) ?_
                repeat (first | ((apply HQ.move); (iterate 3 exact rfl)) | (apply HQ.fieldAddr; (iterate 3 exact rfl); exact inferInstance; exact rfl))
                refine HQ.index_array (i := t) rfl rfl rfl rfl ht11 rfl ?_
                refine HQ.load1 rfl rfl rfl (by rw [Nat.mul_one]; exact Rd1.of (msg_deps (m := x.m) (q := x.qp) (qc := x.qc) (.there _ (.here _ _ _))) (v11_get x.m.deps ht11)) rfl ?_
                repeat (first | ((apply HQ.move); (iterate 3 exact rfl)) | (apply HQ.fieldAddr; (iterate 3 exact rfl); exact inferInstance; exact rfl))
                refine HQ.index_array (i := t) rfl rfl rfl rfl ht11 rfl ?_
                refine HQ.load1 rfl rfl rfl (by rw [Nat.mul_one]; exact Rd1.of (msg_deps (m := z.m) (q := z.qp) (qc := z.qc) (.here _ _ _)) (v11_get z.m.deps ht11)) rfl ?_
                repeat (first | ((apply HQ.done0); exact rfl) | ((apply HQ.cmp); (iterate 5 exact rfl)))
                repeat (first | ((first | apply H.move | apply H.assign); (iterate 3 exact rfl)) | (first | apply H.region | apply H.nil | apply H.then_normal) | ((apply H.ar; (iterate 4 exact rfl)); (with_reducible apply wr_i64_n1; omega); exact rfl) | (first | apply H.skip | apply H.in_normal) | (apply H.cond_no; exact rfl; (omega)))
                refine H.again (t + 1) ⟨by show t + 1 ≤ 11; omega, fun j hj => ?_⟩ (by show 11 - (t + 1) < 11 - t; omega) ⟨rfl, rfl, rfl, rfl, rfl, trivial⟩ rfl rfl
                by_cases e : j = t
                · rw [e]; exact hdt
                · exact hdn j (by omega)
              · repeat (first | ((apply H.move); (iterate 3 exact rfl)) | (first | apply H.seq | apply H.region | apply H.nil | apply H.then_normal) | ((apply H.cmp); (iterate 5 exact rfl)) | (first | apply H.skip | apply H.block) | (apply H.cond_yes; exact rfl; (omega)))
                refine H.drawQ (by kernel_rfl) (by decide +kernel) (by repeat (first | exact blind_fn | refine blind_seq ?_ | refine blind_block ?_ | refine blind_loop ?_)) ?_
                repeat (first | ((apply HQ.move); (iterate 3 exact rfl)) | (apply HQ.fieldAddr; (iterate 3 exact rfl); exact inferInstance; exact rfl))
                refine HQ.index_array (i := t) rfl rfl rfl rfl ht11 rfl ?_
                refine HQ.load1 rfl rfl rfl (by rw [Nat.mul_one]; exact Rd1.of (msg_deps (m := x.m) (q := x.qp) (qc := x.qc) (.there _ (.here _ _ _))) (v11_get x.m.deps ht11)) rfl ?_
                repeat (first | ((apply HQ.move); (iterate 3 exact rfl)) | (apply HQ.fieldAddr; (iterate 3 exact rfl); exact inferInstance; exact rfl))
                refine HQ.index_array (i := t) rfl rfl rfl rfl ht11 rfl ?_
                refine HQ.load1 rfl rfl rfl (by rw [Nat.mul_one]; exact Rd1.of (msg_deps (m := z.m) (q := z.qp) (qc := z.qc) (.here _ _ _)) (v11_get z.m.deps ht11)) rfl ?_
                repeat (first | ((apply HQ.done0); exact rfl) | ((apply HQ.cmp); (iterate 5 exact rfl)))
                repeat (first | ((apply H.assign); (iterate 3 exact rfl)) | (first | apply H.seq | apply H.region | apply H.nil | apply H.then_normal) | (first | apply H.ret | apply H.then_ret | apply H.in_ret | apply H.loop_ret) | (apply H.cond_yes; exact rfl; (omega)))
                refine H.drop (x := row zb _ _) (by repeat (first | exact .here _ _ | apply Pull.there)) ?_
                refine H.front (x := slc _ _ _ _ _ _) (by repeat (first | exact .here _ _ | apply Pull.there)) ?_
                refine H.front (x := row rb _ _) (by repeat (first | exact .here _ _ | apply Pull.there)) ?_
                refine H.imp (refL_fold (p, c) hi) ?_
                refine H.drop (x := row mb _ _) (by repeat (first | exact .here _ _ | apply Pull.there)) ?_
                refine H.ret1 rfl rfl (fun _ h => h) ⟨?_, rfl, rfl⟩
                rw [hchk, if_neg (by omega), if_pos ⟨h4, h0, aboveB_true ht11 (by omega)⟩]
            · have hab0 : aboveB z.m.deps x.m.deps = false := aboveB_false.2 fun j hj => hdn j (by omega)
              have hc4 : ¬ (x.m.number = ((s + 1 : Nat) : Int) ∧ 0 < s ∧ aboveB z.m.deps x.m.deps = true) := by rintro ⟨_, _, h⟩; rw [hab0] at h; cases h
              clear hdn ht hab0
              repeat (first | ((first | apply H.move | apply H.assign); (iterate 3 exact rfl)) | (first | apply H.seq | apply H.region | apply H.nil | apply H.then_normal) | ((apply H.cmp); (iterate 5 exact rfl)) | (first | apply H.then_exit | apply H.exit | apply H.block | apply H.in_hit | apply H.loop_exit) | (apply H.cond_no; exact rfl; (omega)))
              refine H.drop (x := row zb _ _) (by repeat (first | exact .here _ _ | apply Pull.there)) ?_
              refine H.front (x := slc _ _ _ _ _ _) (by repeat (first | exact .here _ _ | apply Pull.there)) ?_
              refine H.front (x := row mb _ _) (by repeat (first | exact .here _ _ | apply Pull.there)) ?_
              refine H.front (x := row rb _ _) (by repeat (first | exact .here _ _ | apply Pull.there)) ?_
              refine H.loop (ι := Nat) (fun t => [(9, .int .i64 (t : Int)), (0, .pointer (some ⟨rb, 0, none⟩)), (3, .pointer (some ⟨mb, 0, none⟩)), (5, .int .u64 (s : Nat))]) (fun _ => f)
                (fun _ => row rb 63 (refC n p l.length c (knownS (strm (l.map MV.m)))) :: row mb 47 x.vals :: slc p l.length c 47 121 (l.flatMap MV.vals) :: F)
                (fun t => t ≤ 11 ∧ ∀ j, j < t → x.m.deps j ≤ knownS (strm (l.map MV.m)) j) (fun t => 11 - t) 0 ⟨Nat.zero_le _, fun j hj => by omega⟩ ⟨rfl, rfl, rfl, rfl, trivial⟩ rfl rfl fun t ht => ?_
              obtain ⟨ht, hdn⟩ : t ≤ 11 ∧ ∀ j, j < t → x.m.deps j ≤ knownS (strm (l.map MV.m)) j := ht
              by_cases ht11 : t < 11
              · by_cases hdt : x.m.deps t ≤ knownS (strm (l.map MV.m)) t
                · repeat (first | ((apply H.move); (iterate 3 exact rfl)) | (first | apply H.seq | apply H.region | apply H.nil | apply H.then_normal) | ((apply H.cmp); (iterate 5 exact rfl)) | (first | apply H.skip | apply H.block) | (apply H.cond_yes; exact rfl; (omega)))
                  refine H.drawQ (by kernel_rfl) (by decide +kernel) (by repeat (first | exact blind_fn | refine blind_seq ?_ | refine blind_block ?_ | refine blind_loop ?_)) ?_
                  repeat (first | ((apply HQ.move); (iterate 3 exact rfl)) | (apply HQ.fieldAddr; (iterate 3 exact rfl); exact inferInstance; exact rfl))
                  refine HQ.index_array (i := t) rfl rfl rfl rfl ht11 rfl ?_
                  refine HQ.load1 rfl rfl rfl (by rw [Nat.mul_one]; exact Rd1.of (msg_deps (m := x.m) (q := x.qp) (qc := x.qc) (.there _ (.here _ _ _))) (v11_get x.m.deps ht11)) rfl ?_
                  repeat (first | ((first | apply HQ.move | apply HQ.nilCheck); (iterate 3 exact rfl)) | (apply HQ.fieldAddr; (iterate 3 exact rfl); exact inferInstance; exact rfl))
                  refine HQ.index_array (i := t) rfl rfl rfl rfl ht11 rfl ?_
                  refine HQ.load1 rfl rfl rfl (by rw [Nat.mul_one]; exact Rd1.of (refC_deps (.here _ _ _)) (v11_get _ ht11)) rfl ?_
                  repeat (first | ((apply HQ.done0); exact rfl) | ((apply HQ.cmp); (iterate 5 exact rfl)))
                  repeat (first | ((first | apply H.move | apply H.assign); (iterate 3 exact rfl)) | (first | apply H.region | apply H.nil | apply H.then_normal) | ((apply H.ar; (iterate 4 exact rfl)); (with_reducible apply wr_i64_n1; omega); exact rfl) | (first | apply H.skip | apply H.in_normal) | (apply H.cond_no; exact rfl; (omega)))
                  refine H.again (t + 1) ⟨by show t + 1 ≤ 11; omega, fun j hj => ?_⟩ (by show 11 - (t + 1) < 11 - t; omega) ⟨rfl, rfl, rfl, rfl, trivial⟩ rfl rfl
                  by_cases e : j = t
                  · rw [e]; exact hdt
                  · exact hdn j (by omega)
                · repeat (first | ((apply H.move); (iterate 3 exact rfl)) | (first | apply H.seq | apply H.region | apply H.nil | apply H.then_normal) | ((apply H.cmp); (iterate 5 exact rfl)) | (first | apply H.skip | apply H.block) | (apply H.cond_yes; exact rfl; (omega)))
                  refine H.drawQ (by kernel_rfl) (by decide +kernel) (by repeat (first | exact blind_fn | refine blind_seq ?_ | refine blind_block ?_ | refine blind_loop ?_)) ?_
                  repeat (first | ((apply HQ.move); (iterate 3 exact rfl)) | (apply HQ.fieldAddr; (iterate 3 exact rfl); exact inferInstance; exact rfl))
                  refine HQ.index_array (i := t) rfl rfl rfl rfl ht11 rfl ?_
                  refine HQ.load1 rfl rfl rfl (by rw [Nat.mul_one]; exact Rd1.of (msg_deps (m := x.m) (q := x.qp) (qc := x.qc) (.there _ (.here _ _ _))) (v11_get x.m.deps ht11)) rfl ?_
                  repeat (first | ((first | apply HQ.move | apply HQ.nilCheck); (iterate 3 exact rfl)) | (apply HQ.fieldAddr; (iterate 3 exact rfl); exact inferInstance; exact rfl))
                  refine HQ.index_array (i := t) rfl rfl rfl rfl ht11 rfl ?_
                  refine HQ.load1 rfl rfl rfl (by rw [Nat.mul_one]; exact Rd1.of (refC_deps (.here _ _ _)) (v11_get _ ht11)) rfl ?_
                  repeat (first | ((apply HQ.done0); exact rfl) | ((apply HQ.cmp); (iterate 5 exact rfl)))
                  repeat (first | ((apply H.assign); (iterate 3 exact rfl)) | (first | apply H.seq | apply H.region | apply H.nil | apply H.then_normal) | (first | apply H.ret | apply H.then_ret | apply H.in_ret | apply H.loop_ret) | (apply H.cond_yes; exact rfl; (omega)))
                  refine H.front (x := slc _ _ _ _ _ _) (by repeat (first | exact .here _ _ | apply Pull.there)) ?_
                  refine H.front (x := row rb _ _) (by repeat (first | exact .here _ _ | apply Pull.there)) ?_
                  refine H.imp (refL_fold (p, c) hi) ?_
                  refine H.drop (x := row mb _ _) (by repeat (first | exact .here _ _ | apply Pull.there)) ?_
                  refine H.ret1 rfl rfl (fun _ h => h) ⟨?_, rfl, rfl⟩
                  rw [hchk, if_neg (by omega), if_neg hc4, if_pos (.inr (aboveB_true ht11 (by omega)))]
              · have hab : aboveB x.m.deps (knownS (strm (l.map MV.m))) = false := aboveB_false.2 fun j hj => hdn j (by omega)
                repeat (first | ((first | apply H.move | apply H.assign); (iterate 3 exact rfl)) | (apply H.fieldAddr; (iterate 3 exact rfl); exact inferInstance; exact rfl) | (apply H.load1; (iterate 3 exact rfl); apply Rd1.ofRow; (repeat (first | exact .here _ _ _ | apply At.there)); (iterate 2 exact rfl)) | (first | apply H.seq | apply H.region | apply H.nil | apply H.then_normal) | ((apply H.cmp); (iterate 5 exact rfl)) | ((apply H.ar; (iterate 4 exact rfl)); (with_reducible apply wr_u64; omega); exact rfl) | (first | apply H.skip | apply H.ret | apply H.then_exit | apply H.exit | apply H.in_hit | apply H.loop_exit) | (apply H.cond_no; exact rfl; (omega)))
                refine H.front (x := slc _ _ _ _ _ _) (by repeat (first | exact .here _ _ | apply Pull.there)) ?_
                refine H.front (x := row rb _ _) (by repeat (first | exact .here _ _ | apply Pull.there)) ?_
                refine H.imp (refL_fold (p, c) hi) ?_
                refine H.drop (x := row mb _ _) (by repeat (first | exact .here _ _ | apply Pull.there)) ?_
                refine H.ret1 rfl rfl (fun _ h => h) ⟨?_, rfl, rfl⟩
                rw [hchk, if_neg (by omega), if_neg hc4, if_neg (by rintro (h | h); omega; rw [hab] at h; cases h)]
          · have hc4 : ¬ (x.m.number = (((strmV l o).length + 1 : Nat) : Int) ∧ 0 < (strmV l o).length ∧ aboveB (lastD (strm (l.map MV.m) o)) x.m.deps = true) := fun h => h0 h.2.1
            generalize hs : (strmV l o).length = s at *
            refine Fn.enter Tryz.func62 rfl Tryz.ntmps62 rfl (L := [(0, _), (1, _)]) ⟨rfl, rfl, trivial⟩ fun base => ?_
            repeat ((first | apply H.seq | apply H.region))
            refine H.box (ls := x.vals) rfl rfl rfl rfl fun mb => ?_
            repeat (first | ((first | apply H.move | apply H.assign); (iterate 3 exact rfl)) | (first | apply H.seq | apply H.region | apply H.nil | apply H.then_normal))
            refine H.loadN (ls := x.vals) rfl rfl rfl (Rd.ofRow (.here _ _ _)) rfl rfl ?_
            refine H.front (x := row rb _ _) (by repeat (first | exact .here _ _ | apply Pull.there)) ?_
            refine H.callR rfl rfl rfl hform ?_
            refine H.not (b := _) (c := _) rfl rfl rfl rfl ?_
            repeat (first | (first | apply H.seq | apply H.region | apply H.nil | apply H.then_normal) | (apply H.cond_false; exact rfl) | (apply H.skip))
            refine H.loadN (ls := x.vals) rfl rfl rfl (Rd.ofRow (.there _ (.here _ _ _))) rfl rfl ?_
            refine H.callR rfl rfl rfl hright ?_
            refine H.not (b := _) (c := _) rfl rfl rfl rfl ?_
            repeat (first | (first | apply H.seq | apply H.nil | apply H.then_normal) | (apply H.cond_false; exact rfl) | (apply H.skip))
            refine H.drawQ (by kernel_rfl) (by decide +kernel) (by repeat (first | exact blind_fn | refine blind_seq ?_ | refine blind_block ?_ | refine blind_loop ?_)) ?_
            repeat (first | ((first | apply HQ.move | apply HQ.nilCheck); (iterate 3 exact rfl)) | (apply HQ.fieldAddr; (iterate 3 exact rfl); exact inferInstance; exact rfl) | (apply HQ.load1; (iterate 3 exact rfl); apply Rd1.ofRow; (repeat (first | exact .here _ _ _ | apply At.there)); (iterate 2 exact rfl)) | ((apply HQ.ar; (iterate 4 exact rfl)); (with_reducible apply wr_i64; omega); exact rfl))
            refine HQ.index_array (i := o) rfl rfl rfl hoz ho11 rfl ?_
            refine HQ.load1 rfl rfl rfl (by rw [Nat.mul_one]; exact Rd1.of (refC_deps (.here _ _ _)) hv) rfl ?_
            repeat (first | ((apply HQ.assign); (iterate 3 exact rfl)) | ((apply HQ.done0); exact rfl))
            repeat (first | ((first | apply H.move | apply H.assign); (iterate 3 exact rfl)) | (apply H.fieldAddr; (iterate 3 exact rfl); exact inferInstance; exact rfl) | (apply H.load1; (iterate 3 exact rfl); apply Rd1.ofRow; (repeat (first | exact .here _ _ _ | apply At.there)); (iterate 2 exact rfl)) | (first | apply H.seq | apply H.region | apply H.nil | apply H.then_normal) | ((apply H.cmp); (iterate 5 exact rfl)) | ((apply H.ar; (iterate 4 exact rfl)); (with_reducible apply wr_u64; omega); exact rfl) | (apply H.pickT; (iterate 4 exact rfl)) | (first | apply H.skip | apply H.block) | (apply H.gyes; (iterate 3 exact rfl); (assumption)) | (apply H.cond_no; exact rfl; (first | assumption | omega)))
            refine H.front (x := slc _ _ _ _ _ _) (by repeat (first | exact .here _ _ | apply Pull.there)) ?_
            refine H.front (x := row mb _ _) (by repeat (first | exact .here _ _ | apply Pull.there)) ?_
            refine H.front (x := row rb _ _) (by repeat (first | exact .here _ _ | apply Pull.there)) ?_
            refine H.loop (ι := Nat) (fun t => [(9, .int .i64 (t : Int)), (0, .pointer (some ⟨rb, 0, none⟩)), (3, .pointer (some ⟨mb, 0, none⟩)), (5, .int .u64 (s : Nat))]) (fun _ => f)
              (fun _ => row rb 63 (refC n p l.length c (knownS (strm (l.map MV.m)))) :: row mb 47 x.vals :: slc p l.length c 47 121 (l.flatMap MV.vals) :: F)
              (fun t => t ≤ 11 ∧ ∀ j, j < t → x.m.deps j ≤ knownS (strm (l.map MV.m)) j) (fun t => 11 - t) 0 ⟨Nat.zero_le _, fun j hj => by omega⟩ ⟨rfl, rfl, rfl, rfl, trivial⟩ rfl rfl fun t ht => ?_
            obtain ⟨ht, hdn⟩ : t ≤ 11 ∧ ∀ j, j < t → x.m.deps j ≤ knownS (strm (l.map MV.m)) j := ht
            by_cases ht11 : t < 11
            · by_cases hdt : x.m.deps t ≤ knownS (strm (l.map MV.m)) t
              · repeat (first | ((apply H.move); (iterate 3 exact rfl)) | (first | apply H.seq | apply H.region | apply H.nil | apply H.then_normal) | ((apply H.cmp); (iterate 5 exact rfl)) | (first | apply H.skip | apply H.block) | (apply H.cond_yes; exact rfl; (omega)))
                refine H.drawQ (by kernel_rfl) (by decide +kernel) (by repeat (first | exact blind_fn | refine blind_seq ?_ | refine blind_block ?_ | refine blind_loop ?_)) ?_
                repeat (first | ((apply HQ.move); (iterate 3 exact rfl)) | (apply HQ.fieldAddr; (iterate 3 exact rfl); exact inferInstance; exact rfl))
                refine HQ.index_array (i := t) rfl rfl rfl rfl ht11 rfl ?_
                refine HQ.load1 rfl rfl rfl (by rw [Nat.mul_one]; exact Rd1.of (msg_deps (m := x.m) (q := x.qp) (qc := x.qc) (.there _ (.here _ _ _))) (v11_get x.m.deps ht11)) rfl ?_
                repeat (first | ((first | apply HQ.move | apply HQ.nilCheck); (iterate 3 exact rfl)) | (apply HQ.fieldAddr; (iterate 3 exact rfl); exact inferInstance; exact rfl))
                refine HQ.index_array (i := t) rfl rfl rfl rfl ht11 rfl ?_
                refine HQ.load1 rfl rfl rfl (by rw [Nat.mul_one]; exact Rd1.of (refC_deps (.here _ _ _)) (v11_get _ ht11)) rfl ?_
                repeat (first | ((apply HQ.done0); exact rfl) | ((apply HQ.cmp); (iterate 5 exact rfl)))
                repeat (first | ((first | apply H.move | apply H.assign); (iterate 3 exact rfl)) | (first | apply H.region | apply H.nil | apply H.then_normal) | ((apply H.ar; (iterate 4 exact rfl)); (with_reducible apply wr_i64_n1; omega); exact rfl) | (first | apply H.skip | apply H.in_normal) | (apply H.cond_no; exact rfl; (omega)))
                refine H.again (t + 1) ⟨by show t + 1 ≤ 11; omega, fun j hj => ?_⟩ (by show 11 - (t + 1) < 11 - t; omega) ⟨rfl, rfl, rfl, rfl, trivial⟩ rfl rfl
                by_cases e : j = t
                · rw [e]; exact hdt
                · exact hdn j (by omega)
              · repeat (first | ((apply H.move); (iterate 3 exact rfl)) | (first | apply H.seq | apply H.region | apply H.nil | apply H.then_normal) | ((apply H.cmp); (iterate 5 exact rfl)) | (first | apply H.skip | apply H.block) | (apply H.cond_yes; exact rfl; (omega)))
                refine H.drawQ (by kernel_rfl) (by decide +kernel) (by repeat (first | exact blind_fn | refine blind_seq ?_ | refine blind_block ?_ | refine blind_loop ?_)) ?_
                repeat (first | ((apply HQ.move); (iterate 3 exact rfl)) | (apply HQ.fieldAddr; (iterate 3 exact rfl); exact inferInstance; exact rfl))
                refine HQ.index_array (i := t) rfl rfl rfl rfl ht11 rfl ?_
                refine HQ.load1 rfl rfl rfl (by rw [Nat.mul_one]; exact Rd1.of (msg_deps (m := x.m) (q := x.qp) (qc := x.qc) (.there _ (.here _ _ _))) (v11_get x.m.deps ht11)) rfl ?_
                repeat (first | ((first | apply HQ.move | apply HQ.nilCheck); (iterate 3 exact rfl)) | (apply HQ.fieldAddr; (iterate 3 exact rfl); exact inferInstance; exact rfl))
                refine HQ.index_array (i := t) rfl rfl rfl rfl ht11 rfl ?_
                refine HQ.load1 rfl rfl rfl (by rw [Nat.mul_one]; exact Rd1.of (refC_deps (.here _ _ _)) (v11_get _ ht11)) rfl ?_
                repeat (first | ((apply HQ.done0); exact rfl) | ((apply HQ.cmp); (iterate 5 exact rfl)))
                repeat (first | ((apply H.assign); (iterate 3 exact rfl)) | (first | apply H.seq | apply H.region | apply H.nil | apply H.then_normal) | (first | apply H.ret | apply H.then_ret | apply H.in_ret | apply H.loop_ret) | (apply H.cond_yes; exact rfl; (omega)))
                refine H.front (x := slc _ _ _ _ _ _) (by repeat (first | exact .here _ _ | apply Pull.there)) ?_
                refine H.front (x := row rb _ _) (by repeat (first | exact .here _ _ | apply Pull.there)) ?_
                refine H.imp (refL_fold (p, c) hi) ?_
                refine H.drop (x := row mb _ _) (by repeat (first | exact .here _ _ | apply Pull.there)) ?_
                refine H.ret1 rfl rfl (fun _ h => h) ⟨?_, rfl, rfl⟩
                rw [hchk, if_neg (by omega), if_neg hc4, if_pos (.inr (aboveB_true ht11 (by omega)))]
            · have hab : aboveB x.m.deps (knownS (strm (l.map MV.m))) = false := aboveB_false.2 fun j hj => hdn j (by omega)
              repeat (first | ((first | apply H.move | apply H.assign); (iterate 3 exact rfl)) | (apply H.fieldAddr; (iterate 3 exact rfl); exact inferInstance; exact rfl) | (apply H.load1; (iterate 3 exact rfl); apply Rd1.ofRow; (repeat (first | exact .here _ _ _ | apply At.there)); (iterate 2 exact rfl)) | (first | apply H.seq | apply H.region | apply H.nil | apply H.then_normal) | ((apply H.cmp); (iterate 5 exact rfl)) | ((apply H.ar; (iterate 4 exact rfl)); (with_reducible apply wr_u64; omega); exact rfl) | (first | apply H.skip | apply H.ret | apply H.then_exit | apply H.exit | apply H.in_hit | apply H.loop_exit) | (apply H.cond_no; exact rfl; (omega)))
              refine H.front (x := slc _ _ _ _ _ _) (by repeat (first | exact .here _ _ | apply Pull.there)) ?_
              refine H.front (x := row rb _ _) (by repeat (first | exact .here _ _ | apply Pull.there)) ?_
              refine H.imp (refL_fold (p, c) hi) ?_
              refine H.drop (x := row mb _ _) (by repeat (first | exact .here _ _ | apply Pull.there)) ?_
              refine H.ret1 rfl rfl (fun _ h => h) ⟨?_, rfl, rfl⟩
              rw [hchk, if_neg (by omega), if_neg hc4, if_neg (by rintro (h | h); omega; rw [hab] at h; cases h)]
        · have hc4 : ¬ (x.m.number = (((strmV l o).length + 1 : Nat) : Int) ∧ 0 < (strmV l o).length ∧ aboveB (lastD (strm (l.map MV.m) o)) x.m.deps = true) := fun h => h4 h.1
          generalize hs : (strmV l o).length = s at *
          refine Fn.enter Tryz.func62 rfl Tryz.ntmps62 rfl (L := [(0, _), (1, _)]) ⟨rfl, rfl, trivial⟩ fun base => ?_
          repeat ((first | apply H.seq | apply H.region))
          refine H.box (ls := x.vals) rfl rfl rfl rfl fun mb => ?_
          repeat (first | ((first | apply H.move | apply H.assign); (iterate 3 exact rfl)) | (first | apply H.seq | apply H.region | apply H.nil | apply H.then_normal))
          refine H.loadN (ls := x.vals) rfl rfl rfl (Rd.ofRow (.here _ _ _)) rfl rfl ?_
          refine H.front (x := row rb _ _) (by repeat (first | exact .here _ _ | apply Pull.there)) ?_
          refine H.callR rfl rfl rfl hform ?_
          refine H.not (b := _) (c := _) rfl rfl rfl rfl ?_
          repeat (first | (first | apply H.seq | apply H.region | apply H.nil | apply H.then_normal) | (apply H.cond_false; exact rfl) | (apply H.skip))
          refine H.loadN (ls := x.vals) rfl rfl rfl (Rd.ofRow (.there _ (.here _ _ _))) rfl rfl ?_
          refine H.callR rfl rfl rfl hright ?_
          refine H.not (b := _) (c := _) rfl rfl rfl rfl ?_
          repeat (first | (first | apply H.seq | apply H.nil | apply H.then_normal) | (apply H.cond_false; exact rfl) | (apply H.skip))
          refine H.drawQ (by kernel_rfl) (by decide +kernel) (by repeat (first | exact blind_fn | refine blind_seq ?_ | refine blind_block ?_ | refine blind_loop ?_)) ?_
          repeat (first | ((first | apply HQ.move | apply HQ.nilCheck); (iterate 3 exact rfl)) | (apply HQ.fieldAddr; (iterate 3 exact rfl); exact inferInstance; exact rfl) | (apply HQ.load1; (iterate 3 exact rfl); apply Rd1.ofRow; (repeat (first | exact .here _ _ _ | apply At.there)); (iterate 2 exact rfl)) | ((apply HQ.ar; (iterate 4 exact rfl)); (with_reducible apply wr_i64; omega); exact rfl))
          refine HQ.index_array (i := o) rfl rfl rfl hoz ho11 rfl ?_
          refine HQ.load1 rfl rfl rfl (by rw [Nat.mul_one]; exact Rd1.of (refC_deps (.here _ _ _)) hv) rfl ?_
          repeat (first | ((apply HQ.assign); (iterate 3 exact rfl)) | ((apply HQ.done0); exact rfl))
          repeat (first | ((first | apply H.move | apply H.assign); (iterate 3 exact rfl)) | (apply H.fieldAddr; (iterate 3 exact rfl); exact inferInstance; exact rfl) | (apply H.load1; (iterate 3 exact rfl); apply Rd1.ofRow; (repeat (first | exact .here _ _ _ | apply At.there)); (iterate 2 exact rfl)) | (first | apply H.seq | apply H.region | apply H.nil | apply H.then_normal) | ((apply H.cmp); (iterate 5 exact rfl)) | ((apply H.ar; (iterate 4 exact rfl)); (with_reducible apply wr_u64; omega); exact rfl) | (apply H.pass; (iterate 2 exact rfl)) | ((apply H.pickF); (iterate 4 exact rfl)) | (apply H.cond_false; exact rfl) | (first | apply H.skip | apply H.block) | (apply H.gno; (iterate 3 exact rfl); (assumption)) | (apply H.cond_no; exact rfl; (assumption)))
          refine H.front (x := slc _ _ _ _ _ _) (by repeat (first | exact .here _ _ | apply Pull.there)) ?_
          refine H.front (x := row mb _ _) (by repeat (first | exact .here _ _ | apply Pull.there)) ?_
          refine H.front (x := row rb _ _) (by repeat (first | exact .here _ _ | apply Pull.there)) ?_
          refine H.loop (ι := Nat) (fun t => [(9, .int .i64 (t : Int)), (0, .pointer (some ⟨rb, 0, none⟩)), (3, .pointer (some ⟨mb, 0, none⟩)), (5, .int .u64 (s : Nat))]) (fun _ => f)
            (fun _ => row rb 63 (refC n p l.length c (knownS (strm (l.map MV.m)))) :: row mb 47 x.vals :: slc p l.length c 47 121 (l.flatMap MV.vals) :: F)
            (fun t => t ≤ 11 ∧ ∀ j, j < t → x.m.deps j ≤ knownS (strm (l.map MV.m)) j) (fun t => 11 - t) 0 ⟨Nat.zero_le _, fun j hj => by omega⟩ ⟨rfl, rfl, rfl, rfl, trivial⟩ rfl rfl fun t ht => ?_
          obtain ⟨ht, hdn⟩ : t ≤ 11 ∧ ∀ j, j < t → x.m.deps j ≤ knownS (strm (l.map MV.m)) j := ht
          by_cases ht11 : t < 11
          · by_cases hdt : x.m.deps t ≤ knownS (strm (l.map MV.m)) t
            · repeat (first | ((apply H.move); (iterate 3 exact rfl)) | (first | apply H.seq | apply H.region | apply H.nil | apply H.then_normal) | ((apply H.cmp); (iterate 5 exact rfl)) | (first | apply H.skip | apply H.block) | (apply H.cond_yes; exact rfl; (omega)))
              refine H.drawQ (by kernel_rfl) (by decide +kernel) (by repeat (first | exact blind_fn | refine blind_seq ?_ | refine blind_block ?_ | refine blind_loop ?_)) ?_
              repeat (first | ((apply HQ.move); (iterate 3 exact rfl)) | (apply HQ.fieldAddr; (iterate 3 exact rfl); exact inferInstance; exact rfl))
              refine HQ.index_array (i := t) rfl rfl rfl rfl ht11 rfl ?_
              refine HQ.load1 rfl rfl rfl (by rw [Nat.mul_one]; exact Rd1.of (msg_deps (m := x.m) (q := x.qp) (qc := x.qc) (.there _ (.here _ _ _))) (v11_get x.m.deps ht11)) rfl ?_
              repeat (first | ((first | apply HQ.move | apply HQ.nilCheck); (iterate 3 exact rfl)) | (apply HQ.fieldAddr; (iterate 3 exact rfl); exact inferInstance; exact rfl))
              refine HQ.index_array (i := t) rfl rfl rfl rfl ht11 rfl ?_
              refine HQ.load1 rfl rfl rfl (by rw [Nat.mul_one]; exact Rd1.of (refC_deps (.here _ _ _)) (v11_get _ ht11)) rfl ?_
              repeat (first | ((apply HQ.done0); exact rfl) | ((apply HQ.cmp); (iterate 5 exact rfl)))
              repeat (first | ((first | apply H.move | apply H.assign); (iterate 3 exact rfl)) | (first | apply H.region | apply H.nil | apply H.then_normal) | ((apply H.ar; (iterate 4 exact rfl)); (with_reducible apply wr_i64_n1; omega); exact rfl) | (first | apply H.skip | apply H.in_normal) | (apply H.cond_no; exact rfl; (omega)))
              refine H.again (t + 1) ⟨by show t + 1 ≤ 11; omega, fun j hj => ?_⟩ (by show 11 - (t + 1) < 11 - t; omega) ⟨rfl, rfl, rfl, rfl, trivial⟩ rfl rfl
              by_cases e : j = t
              · rw [e]; exact hdt
              · exact hdn j (by omega)
            · repeat (first | ((apply H.move); (iterate 3 exact rfl)) | (first | apply H.seq | apply H.region | apply H.nil | apply H.then_normal) | ((apply H.cmp); (iterate 5 exact rfl)) | (first | apply H.skip | apply H.block) | (apply H.cond_yes; exact rfl; (omega)))
              refine H.drawQ (by kernel_rfl) (by decide +kernel) (by repeat (first | exact blind_fn | refine blind_seq ?_ | refine blind_block ?_ | refine blind_loop ?_)) ?_
              repeat (first | ((apply HQ.move); (iterate 3 exact rfl)) | (apply HQ.fieldAddr; (iterate 3 exact rfl); exact inferInstance; exact rfl))
              refine HQ.index_array (i := t) rfl rfl rfl rfl ht11 rfl ?_
              refine HQ.load1 rfl rfl rfl (by rw [Nat.mul_one]; exact Rd1.of (msg_deps (m := x.m) (q := x.qp) (qc := x.qc) (.there _ (.here _ _ _))) (v11_get x.m.deps ht11)) rfl ?_
              repeat (first | ((first | apply HQ.move | apply HQ.nilCheck); (iterate 3 exact rfl)) | (apply HQ.fieldAddr; (iterate 3 exact rfl); exact inferInstance; exact rfl))
              refine HQ.index_array (i := t) rfl rfl rfl rfl ht11 rfl ?_
              refine HQ.load1 rfl rfl rfl (by rw [Nat.mul_one]; exact Rd1.of (refC_deps (.here _ _ _)) (v11_get _ ht11)) rfl ?_
              repeat (first | ((apply HQ.done0); exact rfl) | ((apply HQ.cmp); (iterate 5 exact rfl)))
              repeat (first | ((apply H.assign); (iterate 3 exact rfl)) | (first | apply H.seq | apply H.region | apply H.nil | apply H.then_normal) | (first | apply H.ret | apply H.then_ret | apply H.in_ret | apply H.loop_ret) | (apply H.cond_yes; exact rfl; (omega)))
              refine H.front (x := slc _ _ _ _ _ _) (by repeat (first | exact .here _ _ | apply Pull.there)) ?_
              refine H.front (x := row rb _ _) (by repeat (first | exact .here _ _ | apply Pull.there)) ?_
              refine H.imp (refL_fold (p, c) hi) ?_
              refine H.drop (x := row mb _ _) (by repeat (first | exact .here _ _ | apply Pull.there)) ?_
              refine H.ret1 rfl rfl (fun _ h => h) ⟨?_, rfl, rfl⟩
              rw [hchk, if_neg (by omega), if_neg hc4, if_pos (.inr (aboveB_true ht11 (by omega)))]
          · have hab : aboveB x.m.deps (knownS (strm (l.map MV.m))) = false := aboveB_false.2 fun j hj => hdn j (by omega)
            repeat (first | ((first | apply H.move | apply H.assign); (iterate 3 exact rfl)) | (apply H.fieldAddr; (iterate 3 exact rfl); exact inferInstance; exact rfl) | (apply H.load1; (iterate 3 exact rfl); apply Rd1.ofRow; (repeat (first | exact .here _ _ _ | apply At.there)); (iterate 2 exact rfl)) | (first | apply H.seq | apply H.region | apply H.nil | apply H.then_normal) | ((apply H.cmp); (iterate 5 exact rfl)) | ((apply H.ar; (iterate 4 exact rfl)); (with_reducible apply wr_u64; omega); exact rfl) | (first | apply H.ret | apply H.then_ret | apply H.then_exit | apply H.exit | apply H.in_hit | apply H.loop_exit) | (apply H.cond_yes; exact rfl; (assumption)) | (apply H.cond_no; exact rfl; (omega)))
            refine H.front (x := slc _ _ _ _ _ _) (by repeat (first | exact .here _ _ | apply Pull.there)) ?_
            refine H.front (x := row rb _ _) (by repeat (first | exact .here _ _ | apply Pull.there)) ?_
            refine H.imp (refL_fold (p, c) hi) ?_
            refine H.drop (x := row mb _ _) (by repeat (first | exact .here _ _ | apply Pull.there)) ?_
            refine H.ret1 rfl rfl (fun _ h => h) ⟨?_, rfl, rfl⟩
            rw [hchk, if_neg (by omega), if_neg hc4, if_pos (.inl (by omega))]
end
end Go.Proofs.YtoigpgdmignaoaaGreatDoor

/- Layer 12: the document's lore: Add, Since; the same lists. No condition. -/
namespace Go.Proofs.YtoigpgdmignaoaaGreatDoor
open Go
theorem refC_set (n : Nat) (p : Option Addr) (m c : Nat) (v : Nat → Int) (z : Int) {o : Nat} (h : o < 11) : SetV (refC n p m c v) (0 + 2 + o * 1) (.int .u64 z) (refC n p m c (updF v o z)) := by
  have h1 := (v11_upd v z h).mid [.int .i64 (n : Int), .slice p m c] []
  rw [List.append_nil, List.append_nil] at h1
  rw [Nat.mul_one]
  exact h1
theorem knownS_add (S : Strm) (m : Msg) : knownS (addS S m) = updF (knownS S) (orgI m) (knownS S (orgI m) + 1) := by
  funext i
  unfold knownS addS
  by_cases h : i = orgI m
  · subst h
    rw [updF_same, updF_same, List.length_append]
    show ((((S (orgI m)).length + 1 : Nat)) : Int) = _
    omega
  · rw [updF_ne _ _ h, updF_ne _ _ h]
def RSinceP (f : Frag) (A : List HP) (ms : List Msg) : Value → Frag → List HP → Prop := fun v f' A' =>
  ∃ (p : Option Addr) (c : Nat) (R : List MV), v = .slice p R.length c ∧ R.map MV.m = ms ∧ (∀ y ∈ R, y.Good f) ∧ f' = f ∧ A' = msL p c R :: A
section
variable (f : Frag) (F : List HP)
set_option maxRecDepth 20000 in
set_option maxHeartbeats 3200000 in
theorem rladd_fn {fl : Frag} (hfl : Le fl f) {rb n : Nat} {l : List MV} {x : MV} (hx : x.Good fl) (hpos : Pos x.m) (hlen : l.length < 100000) :
    Fn Tryz.prog 27 [.pointer (some ⟨rb, 0, none⟩), .agg x.vals.toArray] f (refL fl rb n l :: F)
      (Ret (.int .i64 (chk n (strm (l.map MV.m)) x.m)) f (refL fl rb n (if chk n (strm (l.map MV.m)) x.m = 0 then l ++ [x] else l) :: F)) := by
  have hck : ∀ G, Fn Tryz.prog 62 [.pointer (some ⟨rb, 0, none⟩), .agg x.vals.toArray] f (refL fl rb n l :: G) (Ret (.int .i64 (chk n (strm (l.map MV.m)) x.m)) f (refL fl rb n l :: G)) := fun G => rlcheck_fn f G hfl (hx.mono hfl) hpos
  by_cases hc : chk n (strm (l.map MV.m)) x.m = 0
  · obtain ⟨z1, z2, z3, _, _⟩ := chk_zero hc
    rw [hc] at hck ⊢
    rw [if_pos rfl]
    refine Fn.enter Tryz.func27 rfl Tryz.ntmps27 rfl (L := [(0, _), (1, _)]) ⟨rfl, rfl, trivial⟩ fun base => ?_
    repeat ((first | apply H.seq | apply H.region))
    refine H.box (ls := x.vals) rfl rfl rfl rfl fun mb => ?_
    repeat (first | ((first | apply H.move | apply H.assign); (iterate 3 exact rfl)) | (first | apply H.seq | apply H.region | apply H.nil | apply H.then_normal))
    refine H.loadN (ls := x.vals) rfl rfl rfl (Rd.ofRow (.here _ _ _)) rfl rfl ?_
    refine H.front (x := refL _ _ _ _) (by repeat (first | exact .here _ _ | apply Pull.there)) ?_
    refine H.callR rfl rfl rfl (hck _) ?_
    repeat (first | ((first | apply H.move | apply H.assign); (iterate 3 exact rfl)) | (first | apply H.seq | apply H.region | apply H.nil | apply H.then_normal) | ((apply H.cmp); (iterate 5 exact rfl)) | (apply H.cond_true; exact rfl))
    refine H.unpack fun i hi => ?_
    obtain ⟨p, c⟩ := i
    have hn := hi.2.2.2
    obtain ⟨o, hoo, hoz, hon, ho11, ho1, ho2⟩ := fits_at z1 hn
    have hkl := knownS_len l o
    have hsl := strmV_le l o
    refine H.front (x := row rb _ _) (by repeat (first | exact .here _ _ | apply Pull.there)) ?_
    refine H.front (x := row mb _ _) (by repeat (first | exact .here _ _ | apply Pull.there)) ?_
    refine H.drawC [0, 1, 2, 3, 4, 5, 6, 7] (by kernel_rfl) (by decide +kernel) (by repeat (first | exact blind_fn | refine blind_seq ?_ | refine blind_block ?_ | refine blind_loop ?_)) (S := [_, _]) rfl ?_
    refine HB.quiet [(0, false), (1, false), (2, false), (3, false), (4, false), (5, false)] 5 (by kernel_rfl) ?_
    repeat (first | ((first | apply HQ.move | apply HQ.nilCheck); (iterate 3 exact rfl)) | (apply HQ.fieldAddr; (iterate 3 exact rfl); exact inferInstance; exact rfl) | (apply HQ.load1; (iterate 3 exact rfl); apply Rd1.ofRow; (repeat (first | exact .here _ _ _ | apply At.there)); (iterate 2 exact rfl)))
    refine HQ.loadN (ls := x.vals) rfl rfl rfl (Rd.ofRow (.here _ _ _)) rfl rfl ?_
    refine HQ.more rfl ?_
    refine HB.ev1 (i := 6) (by kernel_rfl) rfl ?_
    refine H.buildSlice (out := x.vals) rfl rfl rfl rfl (by decide) (by decide) rfl rfl fun eb => ?_
    repeat ((apply H.nil))
    refine H.front (x := row rb _ _) (by repeat (first | exact .here _ _ | apply Pull.there)) ?_
    refine H.front (x := row mb _ _) (by repeat (first | exact .here _ _ | apply Pull.there)) ?_
    refine H.on0 rfl ?_
    refine HB.ev1 (i := 7) (by kernel_rfl) rfl ?_
    refine H.append (p := p) (n0 := l.length) (c := c) (xs := l.flatMap MV.vals) (m := 1) (news := x.vals) rfl rfl rfl rfl rfl (fun p' c' => (by repeat (first | exact .here _ _ _ | apply At.there))) (Src.slice (Rd.ofRow (by repeat (first | exact .here _ _ _ | apply At.there))) rfl) (allOne_mem rfl) rfl (by omega) (by omega) fun p2 c2 => ?_
    repeat ((apply H.nil))
    refine H.drop (x := row eb _ _) (by repeat (first | exact .here _ _ | apply Pull.there)) ?_
    refine H.on0 rfl ?_
    refine HB.next [] (by kernel_rfl) (S' := []) rfl ?_
    refine HB.quiet [(8, false), (9, false)] 1 (by kernel_rfl) ?_
    repeat (first | ((apply HQ.nilCheck); (iterate 3 exact rfl)) | (apply HQ.fieldAddr; (iterate 3 exact rfl); exact inferInstance; exact rfl))
    refine HQ.more rfl ?_
    refine HB.ev1 (i := 10) (by kernel_rfl) rfl ?_
    refine H.store1 (ls := refC n p l.length c (knownS (strm (l.map MV.m)))) (ls' := refC n p2 (l.length + 1) c2 (knownS (strm (l.map MV.m)))) rfl rfl rfl rfl (.there _ (.here _ _ _)) (.there _ (.here _ _ _)) ?_
    repeat ((apply H.nil))
    refine H.on0 rfl ?_
    refine HB.done (by kernel_rfl) ?_
    repeat ((apply H.then_normal))
    refine H.drawC [0, 1, 2, 3, 4, 5, 6, 7, 8, 9, 10, 11] (by kernel_rfl) (by decide +kernel) (by repeat (first | exact blind_fn | refine blind_seq ?_ | refine blind_block ?_ | refine blind_loop ?_)) (S := [_, _]) rfl ?_
    refine HB.quiet [(0, false), (1, false), (2, false), (3, false), (4, false), (5, false), (6, false), (7, false), (8, false), (9, false), (10, false), (11, false)] 1 (by kernel_rfl) ?_
    have hv : (v11 (knownS (strm (l.map MV.m))))[o]? = some (.int .u64 (knownS (strm (l.map MV.m)) o)) := v11_get _ ho11
    repeat (first | ((first | apply HQ.move | apply HQ.nilCheck); (iterate 3 exact rfl)) | (apply HQ.fieldAddr; (iterate 3 exact rfl); exact inferInstance; exact rfl) | (apply HQ.load1; (iterate 3 exact rfl); apply Rd1.ofRow; (repeat (exact .here _ _ _)); (iterate 2 exact rfl)) | ((apply HQ.ar; (iterate 4 exact rfl)); (with_reducible apply wr_i64; omega); exact rfl))
    refine HQ.index_array (i := o) rfl rfl rfl hoz ho11 rfl ?_
    refine HQ.load1 rfl rfl rfl (by rw [Nat.mul_one]; exact Rd1.of (refC_deps (.there _ (.here _ _ _))) hv) rfl ?_
    repeat (first | ((apply HQ.nilCheck); (iterate 3 exact rfl)) | (apply HQ.fieldAddr; (iterate 3 exact rfl); exact inferInstance; exact rfl) | ((apply HQ.ar; (iterate 4 exact rfl)); (with_reducible apply wr_u64; omega); exact rfl))
    refine HQ.index_array (i := o) rfl rfl rfl hoz ho11 rfl ?_
    refine HQ.more rfl ?_
    refine HB.next [] (by kernel_rfl) (S' := []) rfl ?_
    refine HB.ev1 (i := 12) (by kernel_rfl) rfl ?_
    refine H.store1 (ls := refC n p2 (l.length + 1) c2 (knownS (strm (l.map MV.m)))) (ls' := refC n p2 (l.length + 1) c2 (updF (knownS (strm (l.map MV.m))) o (knownS (strm (l.map MV.m)) o + 1))) rfl rfl rfl rfl (.there _ (.here _ _ _)) (refC_set _ _ _ _ _ _ ho11) ?_
    repeat ((apply H.nil))
    refine H.on0 rfl ?_
    refine HB.done (by kernel_rfl) ?_
    repeat (first | ((first | apply H.move | apply H.assign); (iterate 3 exact rfl)) | (first | apply H.seq | apply H.region | apply H.nil | apply H.then_normal) | (apply H.ret))
    refine H.drop (x := row mb _ _) (by repeat (first | exact .here _ _ | apply Pull.there)) ?_
    have hφ : refφ fl n (l ++ [x]) := loreφ_snoc (Le.refl fl) hi hlen hc hx
    have e1 : refC n p2 (l.length + 1) c2 (updF (knownS (strm (l.map MV.m))) o (knownS (strm (l.map MV.m)) o + 1)) = refC n p2 (l ++ [x]).length c2 (knownS (strm ((l ++ [x]).map MV.m))) := by
      rw [List.map_append, show [x].map MV.m = [x.m] from rfl, strm_snoc, knownS_add, hoo, List.length_append]
      rfl
    rw [e1]
    have e2 : slc p2 (l.length + 1) c2 47 121 (l.flatMap MV.vals ++ x.vals) = slc p2 (l ++ [x]).length c2 47 121 ((l ++ [x]).flatMap MV.vals) := slc_snoc
    refine H.conv (A' := row rb 63 (refC n p2 (l ++ [x]).length c2 (knownS (strm ((l ++ [x]).map MV.m)))) :: slc p2 (l ++ [x]).length c2 47 121 ((l ++ [x]).flatMap MV.vals) :: F) (by rw [← e2]; rfl) ?_
    refine H.imp (refL_fold (p2, c2) hφ) ?_
    exact H.ret1 rfl rfl (fun _ h => h) ⟨rfl, rfl, rfl⟩
  · rw [if_neg hc]
    refine Fn.enter Tryz.func27 rfl Tryz.ntmps27 rfl (L := [(0, _), (1, _)]) ⟨rfl, rfl, trivial⟩ fun base => ?_
    repeat ((first | apply H.seq | apply H.region))
    refine H.box (ls := x.vals) rfl rfl rfl rfl fun mb => ?_
    repeat (first | ((first | apply H.move | apply H.assign); (iterate 3 exact rfl)) | (first | apply H.seq | apply H.region | apply H.nil | apply H.then_normal))
    refine H.loadN (ls := x.vals) rfl rfl rfl (Rd.ofRow (.here _ _ _)) rfl rfl ?_
    refine H.front (x := refL _ _ _ _) (by repeat (first | exact .here _ _ | apply Pull.there)) ?_
    refine H.callR rfl rfl rfl (hck _) ?_
    repeat (first | ((first | apply H.move | apply H.assign); (iterate 3 exact rfl)) | (first | apply H.seq | apply H.region | apply H.nil | apply H.then_normal) | ((apply H.cmp); (iterate 5 exact rfl)) | (first | apply H.skip | apply H.ret) | (apply H.cond_no; exact rfl; (assumption)))
    refine H.drop (x := row mb _ _) (by repeat (first | exact .here _ _ | apply Pull.there)) ?_
    exact H.ret1 rfl rfl (fun _ h => h) ⟨rfl, rfl, rfl⟩
set_option maxRecDepth 20000 in
set_option maxHeartbeats 3200000 in
theorem rlsinceO_fn {fl : Frag} (hfl : Le fl f) {rb n : Nat} {l : List MV} {v : Nat → Int} {most : Int} {p : Option Addr} {c : Nat} (hi0 : refφ fl n l) :
    Fn Tryz.prog 32 [.pointer (some ⟨rb, 0, none⟩), .agg (v11 v).toArray, .int .i64 most] f (row rb 63 (refC n p l.length c (knownS (strm (l.map MV.m)))) :: slc p l.length c 47 121 (l.flatMap MV.vals) :: F)
      (RSinceP f (row rb 63 (refC n p l.length c (knownS (strm (l.map MV.m)))) :: slc p l.length c 47 121 (l.flatMap MV.vals) :: F) (sinceM v most (l.map MV.m))) := by
  have hll := hi0.2.1
  have hn := hi0.2.2.2
  refine Fn.enter Tryz.func32 rfl Tryz.ntmps32 rfl (L := [(0, _), (1, _), (2, _)]) ⟨rfl, rfl, rfl, trivial⟩ fun base => ?_
  repeat ((first | apply H.seq | apply H.region))
  refine H.box (ls := v11 v) rfl rfl rfl rfl fun vb => ?_
  repeat (first | ((apply H.assign); (iterate 3 exact rfl)) | (first | apply H.seq | apply H.region | apply H.nil | apply H.then_normal) | (apply H.block))
  refine H.slc0 47 121 ?_
  refine H.front (x := row vb _ _) (by repeat (first | exact .here _ _ | apply Pull.there)) ?_
  refine H.loop (ι := Nat × List MV × Option Addr × Nat) (fun s => [(8, .int .i64 (s.1 : Int)), (7, .slice s.2.2.1 s.2.1.length s.2.2.2), (0, .pointer (some ⟨rb, 0, none⟩)), (2, .int .i64 most), (4, .pointer (some ⟨vb, 0, none⟩))]) (fun _ => f)
    (fun s => row vb 37 (v11 v) :: slc s.2.2.1 s.2.1.length s.2.2.2 47 121 (s.2.1.flatMap MV.vals) :: row rb 63 (refC n p l.length c (knownS (strm (l.map MV.m)))) :: slc p l.length c 47 121 (l.flatMap MV.vals) :: F)
    (fun s => s.1 ≤ l.length ∧ s.2.1.map MV.m = unk v ((l.map MV.m).take s.1) ∧ s.2.1.length ≤ most.toNat ∧ (∀ y ∈ s.2.1, y.Good f)) (fun s => l.length - s.1)
    (0, [], none, 0) ⟨Nat.zero_le _, rfl, Nat.zero_le _, (fun y hy => by cases hy)⟩ ⟨rfl, rfl, rfl, rfl, rfl, trivial⟩ rfl rfl fun s hs => ?_
  obtain ⟨k, R, rp, rc⟩ := s
  obtain ⟨hk, hR, hRm, hRg⟩ : k ≤ l.length ∧ R.map MV.m = unk v ((l.map MV.m).take k) ∧ R.length ≤ most.toNat ∧ (∀ y ∈ R, y.Good f) := hs
  have hRl : R.length ≤ l.length := by
    have h1 := congrArg List.length hR
    rw [List.length_map] at h1
    have h2 : (unk v ((l.map MV.m).take k)).length ≤ ((l.map MV.m).take k).length := List.length_filter_le _ _
    rw [List.length_take, List.length_map] at h2
    omega
  show H _ _ _ [(8, .int .i64 (k : Int)), (7, .slice rp R.length rc), _, _, _] f (_ :: slc rp R.length rc _ 121 (R.flatMap MV.vals) :: _ :: _ :: F) _
  by_cases hlt : k < l.length
  · by_cases hm : (R.length : Int) < most
    · obtain ⟨y, hy⟩ : ∃ y, l[k]? = some y := ⟨_, List.getElem?_eq_getElem hlt⟩
      have hym : (l.map MV.m)[k]? = some y.m := by rw [List.getElem?_map, hy]; rfl
      have hyg := (hi0.1 y (List.mem_of_getElem? hy)).mono hfl
      have horg := hi0.2.2.1.org (List.mem_of_getElem? hym)
      have hnext : (l.map MV.m).take (k + 1) = (l.map MV.m).take k ++ [y.m] := take_snoc hym
      have hunk := unk_snoc v ((l.map MV.m).take k) y.m
      rw [← hnext] at hunk
      obtain ⟨o, hoo, hoz⟩ : ∃ o : Nat, orgI y.m = o ∧ y.m.origin - 1 = (o : Nat) := ⟨orgI y.m, rfl, by unfold orgI; omega⟩
      have ho11 : o < 11 := by omega
      rw [hoo] at hunk
      refine H.front (x := slc p _ c _ _ _) (by repeat (first | exact .here _ _ | apply Pull.there)) ?_
      refine H.slc_some (p := p) (n0 := l.length) (c := c) (.here _ _ _) (by omega) fun sb hp => ?_
      subst hp
      have rd : ∀ {G}, Rd f (slc (some ⟨sb, 0, none⟩) l.length c 47 121 (l.flatMap MV.vals) :: G) sb (0 + k * 121) y.vals := fun {G} => by rw [Nat.zero_add]; exact Rd.slcElem MV.len (by decide) (.here _ _ _) hy
      repeat (first | ((first | apply H.move | apply H.nilCheck | apply H.len_slice); (iterate 3 exact rfl)) | (apply H.fieldAddr; (iterate 3 exact rfl); exact inferInstance; exact rfl) | (apply H.load1; (iterate 3 exact rfl); apply Rd1.ofRow; (repeat (first | exact .here _ _ _ | apply At.there)); (iterate 2 exact rfl)) | (first | apply H.seq | apply H.region | apply H.nil | apply H.then_normal) | ((apply H.cmp); (iterate 5 exact rfl)) | (apply H.pickT; (iterate 4 exact rfl)) | (first | apply H.skip | apply H.block) | (apply H.gyes; (iterate 3 exact rfl); (omega)) | (apply H.cond_yes; exact rfl; (assumption)))
      refine H.drawQ (by kernel_rfl) (by decide +kernel) (by repeat (first | exact blind_fn | refine blind_seq ?_ | refine blind_block ?_ | refine blind_loop ?_)) ?_
      repeat (first | ((first | apply HQ.move | apply HQ.nilCheck); (iterate 3 exact rfl)) | (apply HQ.fieldAddr; (iterate 3 exact rfl); exact inferInstance; exact rfl) | (apply HQ.load1; (iterate 3 exact rfl); apply Rd1.ofRow; (repeat (first | exact .here _ _ _ | apply At.there)); (iterate 2 exact rfl)))
      refine HQ.index_slice (i := k) rfl rfl rfl rfl hlt rfl ?_
      repeat ((apply HQ.fieldAddr; (iterate 3 exact rfl); exact inferInstance; exact rfl))
      refine HQ.load1 rfl rfl rfl (Rd1.of (i := 1) rd rfl) rfl ?_
      repeat (first | ((first | apply HQ.move | apply HQ.nilCheck); (iterate 3 exact rfl)) | (apply HQ.fieldAddr; (iterate 3 exact rfl); exact inferInstance; exact rfl) | (apply HQ.load1; (iterate 3 exact rfl); apply Rd1.ofRow; (repeat (first | exact .here _ _ _ | apply At.there)); (iterate 2 exact rfl)))
      refine HQ.index_slice (i := k) rfl rfl rfl rfl hlt rfl ?_
      repeat ((apply HQ.fieldAddr; (iterate 3 exact rfl); exact inferInstance; exact rfl))
      refine HQ.load1 rfl rfl rfl (Rd1.of (i := 0) rd rfl) rfl ?_
      repeat (((apply HQ.ar; (iterate 4 exact rfl)); (with_reducible apply wr_i64; omega); exact rfl))
      refine HQ.index_array (i := o) rfl rfl rfl hoz ho11 rfl ?_
      refine HQ.load1 rfl rfl rfl (Rd1.of (Rd.ofRow (.there _ (.here _ _ _))) (by rw [Nat.mul_one]; exact v11_get v ho11)) rfl ?_
      repeat (first | ((apply HQ.done0); exact rfl) | ((apply HQ.cmp); (iterate 5 exact rfl)))
      by_cases hv : v o < y.m.number
      · rw [if_pos hv] at hunk
        repeat (first | ((first | apply H.move | apply H.nilCheck); (iterate 3 exact rfl)) | (apply H.fieldAddr; (iterate 3 exact rfl); exact inferInstance; exact rfl) | (apply H.load1; (iterate 3 exact rfl); apply Rd1.ofRow; (repeat (first | exact .here _ _ _ | apply At.there)); (iterate 2 exact rfl)) | (first | apply H.region | apply H.then_normal) | (apply H.cond_yes; exact rfl; (assumption)))
        refine H.index_slice (i := k) rfl rfl rfl rfl hlt rfl ?_
        refine H.loadN (ls := y.vals) rfl rfl rfl rd rfl rfl ?_
        refine H.buildSlice (out := y.vals) rfl rfl rfl rfl (by decide) (by decide) rfl rfl fun eb => ?_
        refine H.append (p := rp) (n0 := R.length) (c := rc) (xs := R.flatMap MV.vals) (m := 1) (news := y.vals) rfl rfl rfl rfl rfl (fun p' c' => (by repeat (first | exact .here _ _ _ | apply At.there))) (Src.slice (Rd.ofRow (by repeat (first | exact .here _ _ _ | apply At.there))) rfl) (allOne_mem rfl) rfl (by omega) (by omega) fun p2 c2 => ?_
        repeat (first | ((first | apply H.move | apply H.assign); (iterate 3 exact rfl)) | (first | apply H.region | apply H.nil | apply H.then_normal) | ((apply H.ar; (iterate 4 exact rfl)); (with_reducible apply wr_i64_n1; omega); exact rfl) | (apply H.in_normal))
        refine H.drop (x := row eb _ _) (by repeat (first | exact .here _ _ | apply Pull.there)) ?_
        refine H.front (x := row rb _ _) (by repeat (first | exact .here _ _ | apply Pull.there)) ?_
        refine H.front (x := slc p2 _ c2 _ _ _) (by repeat (first | exact .here _ _ | apply Pull.there)) ?_
        refine H.front (x := row vb _ _) (by repeat (first | exact .here _ _ | apply Pull.there)) ?_
        refine H.again (k + 1, R ++ [y], p2, c2) ⟨by show k + 1 ≤ l.length; omega, by show (R ++ [y]).map MV.m = _; rw [List.map_append, hR, hunk]; rfl, by show (R ++ [y]).length ≤ _; rw [List.length_append]; show R.length + 1 ≤ _; omega, fun z hz => ?_⟩ (by show l.length - (k + 1) < l.length - k; omega) ⟨rfl, ?_, rfl, rfl, rfl, trivial⟩ rfl ?_
        · have hz : z ∈ R ++ [y] := hz
          rcases List.mem_append.1 hz with hz | hz
          · exact hRg z hz
          · rw [List.mem_singleton] at hz; subst hz; exact hyg
        · show some (Value.slice p2 (R.length + 1) c2) = some (Value.slice p2 (R ++ [y]).length c2)
          rw [List.length_append]; rfl
        · show _ :: slc p2 (R.length + 1) c2 _ 121 (R.flatMap MV.vals ++ y.vals) :: _ = _ :: slc p2 (R ++ [y]).length c2 _ 121 ((R ++ [y]).flatMap MV.vals) :: _
          rw [slc_snoc]
      · rw [if_neg hv] at hunk
        repeat (first | ((first | apply H.move | apply H.assign); (iterate 3 exact rfl)) | (first | apply H.region | apply H.nil | apply H.then_normal) | ((apply H.ar; (iterate 4 exact rfl)); (with_reducible apply wr_i64_n1; omega); exact rfl) | (first | apply H.skip | apply H.in_normal) | (apply H.cond_no; exact rfl; (assumption)))
        refine H.front (x := row rb _ _) (by repeat (first | exact .here _ _ | apply Pull.there)) ?_
        refine H.front (x := slc rp _ rc _ _ _) (by repeat (first | exact .here _ _ | apply Pull.there)) ?_
        refine H.front (x := row vb _ _) (by repeat (first | exact .here _ _ | apply Pull.there)) ?_
        exact H.again (k + 1, R, rp, rc) ⟨by show k + 1 ≤ l.length; omega, by show R.map MV.m = _; rw [hR, hunk], hRm, hRg⟩ (by show l.length - (k + 1) < l.length - k; omega) ⟨rfl, rfl, rfl, rfl, rfl, trivial⟩ rfl rfl
    · repeat (first | ((first | apply H.move | apply H.assign | apply H.nilCheck | apply H.len_slice); (iterate 3 exact rfl)) | (apply H.fieldAddr; (iterate 3 exact rfl); exact inferInstance; exact rfl) | (apply H.load1; (iterate 3 exact rfl); apply Rd1.ofRow; (repeat (first | exact .here _ _ _ | apply At.there)); (iterate 2 exact rfl)) | (first | apply H.seq | apply H.region | apply H.nil | apply H.then_normal) | ((apply H.cmp); (iterate 5 exact rfl)) | (apply H.pickT; (iterate 4 exact rfl)) | (first | apply H.ret | apply H.then_exit | apply H.exit | apply H.in_hit | apply H.loop_exit) | (apply H.gyes; (iterate 3 exact rfl); (omega)) | (apply H.cond_no; exact rfl; (assumption)))
      refine H.drop (x := row vb _ _) (by repeat (first | exact .here _ _ | apply Pull.there)) ?_
      refine H.front (x := slc p _ c _ _ _) (by repeat (first | exact .here _ _ | apply Pull.there)) ?_
      refine H.front (x := row rb _ _) (by repeat (first | exact .here _ _ | apply Pull.there)) ?_
      refine H.front (x := slc rp _ rc _ _ _) (by repeat (first | exact .here _ _ | apply Pull.there)) ?_
      refine H.ret1 rfl rfl (fun _ h => h) ⟨rp, rc, R, rfl, ?_, hRg, rfl, rfl⟩
      have h1 := congrArg List.length hR
      rw [List.length_map] at h1
      have h2 : most.toNat = R.length := by omega
      unfold sinceM
      rw [unk_take_more (k := k) (by omega), ← hR, List.take_of_length_le (by rw [List.length_map]; omega)]
  · have e : k = l.length := by omega
    subst e
    repeat (first | ((first | apply H.move | apply H.assign | apply H.nilCheck | apply H.len_slice); (iterate 3 exact rfl)) | (apply H.fieldAddr; (iterate 3 exact rfl); exact inferInstance; exact rfl) | (apply H.load1; (iterate 3 exact rfl); apply Rd1.ofRow; (repeat (first | exact .here _ _ _ | apply At.there)); (iterate 2 exact rfl)) | (first | apply H.seq | apply H.region | apply H.nil | apply H.then_normal) | ((apply H.cmp); (iterate 5 exact rfl)) | (apply H.pass; (iterate 2 exact rfl)) | ((apply H.pickF); (iterate 4 exact rfl)) | (apply H.cond_false; exact rfl) | (first | apply H.ret | apply H.then_exit | apply H.exit | apply H.in_hit | apply H.loop_exit) | (apply H.gno; (iterate 3 exact rfl); (omega)))
    refine H.drop (x := row vb _ _) (by repeat (first | exact .here _ _ | apply Pull.there)) ?_
    refine H.front (x := slc p _ c _ _ _) (by repeat (first | exact .here _ _ | apply Pull.there)) ?_
    refine H.front (x := row rb _ _) (by repeat (first | exact .here _ _ | apply Pull.there)) ?_
    refine H.front (x := slc rp _ rc _ _ _) (by repeat (first | exact .here _ _ | apply Pull.there)) ?_
    refine H.ret1 rfl rfl (fun _ h => h) ⟨rp, rc, R, rfl, ?_, hRg, rfl, rfl⟩
    have e2 : (l.map MV.m).take l.length = l.map MV.m := List.take_of_length_le (by rw [List.length_map]; exact Nat.le_refl _)
    rw [e2] at hR
    unfold sinceM
    rw [← hR, List.take_of_length_le (by rw [List.length_map]; omega)]
theorem rsameL_fn {pa pb : Option Addr} {ca cb : Nat} {A B : List MV} (hA : ListAt f pa 121 MV.vals A) (hB : ListAt f pb 121 MV.vals B) (gA : ∀ y ∈ A, y.Good f) (gB : ∀ y ∈ B, y.Good f) (h : A.map MV.m = B.map MV.m) (hl : A.length ≤ 1000000) :
    Fn Tryz.prog 31 [.slice pa A.length ca, .slice pb B.length cb] f F (Ret (.bool true) f F) := by
  have hlen : A.length = B.length := by have := congrArg List.length h; rwa [List.length_map, List.length_map] at this
  refine Fn.enter Tryz.func31 rfl Tryz.ntmps31 rfl (L := [(0, _), (1, _)]) ⟨rfl, rfl, trivial⟩ fun base => ?_
  repeat (first | ((first | apply H.move | apply H.assign | apply H.len_slice); (iterate 3 exact rfl)) | (first | apply H.seq | apply H.region | apply H.nil | apply H.then_normal) | ((apply H.cmp); (iterate 5 exact rfl)) | (first | apply H.skip | apply H.block) | (apply H.cond_no; exact rfl; (omega)))
  refine H.loop (ι := Nat) (fun i => [(5, .int .i64 (i : Int)), (0, .slice pa A.length ca), (1, .slice pb B.length cb)]) (fun _ => f) (fun _ => F) (fun i => i ≤ A.length) (fun i => A.length - i) 0 (Nat.zero_le _) ⟨rfl, rfl, rfl, trivial⟩ rfl rfl fun i hi => ?_
  have hi : i ≤ A.length := hi
  by_cases hlt : i < A.length
  · obtain ⟨y, hy⟩ : ∃ y, A[i]? = some y := ⟨_, List.getElem?_eq_getElem hlt⟩
    obtain ⟨z, hz⟩ : ∃ z, B[i]? = some z := ⟨_, List.getElem?_eq_getElem (by omega)⟩
    have hyz : y.m = z.m := by
      have h1 : (A.map MV.m)[i]? = some y.m := by rw [List.getElem?_map, hy]; rfl
      rw [h, List.getElem?_map, hz] at h1
      exact (Option.some.inj h1).symm
    have hs : ∀ G, Fn Tryz.prog 30 [.agg y.vals.toArray, .agg z.vals.toArray] f G (Ret (.bool true) f G) := fun G => by
      have h := rsameM_fn f G (gA y (List.mem_of_getElem? hy)) (gB z (List.mem_of_getElem? hz))
      rw [hyz, Msg.eqB_refl] at h
      exact h
    obtain ⟨b, off, cs, T, fr, rfl, hfb, hcs⟩ := hA i y hy
    obtain ⟨b2, off2, cs2, T2, fr2, rfl, hfb2, hcs2⟩ := hB i z hz
    repeat (first | ((first | apply H.move | apply H.len_slice); (iterate 3 exact rfl)) | (first | apply H.seq | apply H.region | apply H.nil | apply H.then_normal) | ((apply H.cmp); (iterate 5 exact rfl)) | (first | apply H.skip | apply H.block) | (apply H.cond_yes; exact rfl; (omega)))
    refine H.drawB (by kernel_rfl) (by decide +kernel) (by repeat (first | exact blind_fn | refine blind_seq ?_ | refine blind_block ?_ | refine blind_loop ?_)) (S := []) rfl ?_
    refine HB.quiet [(0, false), (1, false), (2, false), (3, false), (4, false), (5, false), (6, false), (7, false)] 2 (by kernel_rfl) ?_
    repeat (((apply HQ.move); (iterate 3 exact rfl)))
    refine HQ.index_slice (i := i) rfl rfl rfl rfl hlt rfl ?_
    refine HQ.loadN (ls := y.vals) rfl rfl rfl (Rd.imm hfb hcs) rfl rfl ?_
    repeat (((apply HQ.move); (iterate 3 exact rfl)))
    refine HQ.index_slice (i := i) rfl rfl rfl rfl (by omega) rfl ?_
    refine HQ.loadN (ls := z.vals) rfl rfl rfl (Rd.imm hfb2 hcs2) rfl rfl ?_
    refine HQ.more rfl ?_
    refine HB.ev1 (i := 8) (by kernel_rfl) rfl ?_
    refine H.callR rfl rfl rfl (hs _) ?_
    repeat ((apply H.nil))
    refine H.on0 rfl ?_
    refine HB.quiet [(9, false)] 0 (by kernel_rfl) ?_
    refine HQ.not (b := true) (c := false) rfl rfl rfl rfl ?_
    refine HQ.more rfl ?_
    refine HB.done (by kernel_rfl) ?_
    repeat (first | ((first | apply H.move | apply H.assign); (iterate 3 exact rfl)) | (first | apply H.region | apply H.nil | apply H.then_normal) | ((apply H.ar; (iterate 4 exact rfl)); (with_reducible apply wr_i64_n1; omega); exact rfl) | (apply H.cond_false; exact rfl) | (first | apply H.skip | apply H.in_normal))
    exact H.again (i + 1) (by show i + 1 ≤ A.length; omega) (by show A.length - (i + 1) < A.length - i; omega) ⟨rfl, rfl, rfl, trivial⟩ rfl rfl
  · repeat (first | ((first | apply H.move | apply H.assign | apply H.len_slice); (iterate 3 exact rfl)) | (first | apply H.seq | apply H.region | apply H.nil | apply H.then_normal) | ((apply H.cmp); (iterate 5 exact rfl)) | (first | apply H.ret | apply H.then_exit | apply H.exit | apply H.in_hit | apply H.loop_exit) | (apply H.cond_no; exact rfl; (omega)))
    exact H.ret1 rfl rfl (fun _ h => h) ⟨rfl, rfl, rfl⟩
end
end Go.Proofs.YtoigpgdmignaoaaGreatDoor

/- Layer 8, plain: a tag with one byte of it turned is not right. No program in sight. -/
namespace Go.Proofs.YtoigpgdmignaoaaGreatDoor
open Go
def setT (t : Nat → UInt8) (k : Nat) (v : UInt8) : Nat → UInt8 := fun j => if j = k then v else t j
theorem b32_setT (t : Nat → UInt8) {k : Nat} (v : UInt8) (hk : k < 32) : SetV (b32 t) k (.int .u8 (v.toNat : Nat)) (b32 (setT t k v)) := by
  have e : b32 (setT t k v) = (b32 t).set k (.int .u8 (v.toNat : Nat)) := by
    apply List.ext_getElem?
    intro j
    rw [List.getElem?_set]
    by_cases hj : j < 32
    · rw [b32_get _ hj, b32_get _ hj]
      by_cases hkj : k = j
      · subst hkj
        rw [if_pos rfl, if_pos (show k < (b32 t).length from hk)]
        unfold setT
        rw [if_pos rfl]
      · rw [if_neg hkj]
        unfold setT
        rw [if_neg (fun h => hkj h.symm)]
    · rw [List.getElem?_eq_none (show 32 ≤ j by omega), if_neg (by omega), List.getElem?_eq_none (show 32 ≤ j by omega)]
  rw [e]
  exact SetV.mk _ hk
theorem msg_settag (m : Msg) (q : Option Addr) (qc : Nat) {k : Nat} (v : UInt8) (hk : k < 32) : SetV (m.vals q qc) (0 + 89 + k * 1) (.int .u8 (v.toNat : Nat)) (({ m with tag := setT m.tag k v } : Msg).vals q qc) := by
  have h := (b32_setT m.tag v hk).mid ([.int .i64 m.origin, .int .u64 m.number] ++ v11 m.deps ++ m.body.vals q qc) []
  rw [List.append_nil, List.append_nil] at h
  rw [Nat.mul_one]
  exact h
theorem xor_back (x v : UInt8) : x ^^^ v = x ↔ v = 0 := by
  constructor
  · intro h
    have h1 : x ^^^ (x ^^^ v) = x ^^^ x := by rw [h]
    rw [← UInt8.xor_assoc, UInt8.xor_self, UInt8.zero_xor] at h1
    exact h1
  · rintro rfl
    exact UInt8.xor_zero
theorem eq32_turn (t : Nat → UInt8) {k : Nat} (v : UInt8) (hk : k < 32) : eq32 (setT t k (t k ^^^ v)) t = decide (v = 0) := by
  rw [Bool.eq_iff_iff, decide_eq_true_eq]
  refine Iff.trans eq32_iff ?_
  constructor
  · intro h
    have h1 := b32_get (setT t k (t k ^^^ v)) hk
    rw [h, b32_get t hk] at h1
    have h2 := u8_inj (Option.some.inj h1)
    unfold setT at h2
    rw [if_pos rfl] at h2
    exact (xor_back _ _).1 h2.symm
  · rintro rfl
    have e : setT t k (t k ^^^ 0) = t := by
      funext j
      unfold setT
      split
      · rename_i h; rw [h]; exact UInt8.xor_zero
      · rfl
    rw [e]
theorem Msg.right_tag (m : Msg) (u : Nat → UInt8) : ({ m with tag := u } : Msg).right = (m.may && eq32 u (Sha.numbered m.origin m.number m.tagged)) := rfl
theorem Msg.turned_right {m : Msg} (hm : m.may = true) {k : Nat} (v : UInt8) (hk : k < 32) : ({ m.signed with tag := setT m.signed.tag k (m.signed.tag k ^^^ v) } : Msg).right = decide (v = 0) := by
  unfold Msg.signed
  rw [if_pos hm]
  show ({ m with tag := _ } : Msg).right = _
  rw [Msg.right_tag, hm, eq32_turn _ v hk]
  rfl
end Go.Proofs.YtoigpgdmignaoaaGreatDoor

/- Layer 8: the document's Signed of a request. No condition. -/
namespace Go.Proofs.YtoigpgdmignaoaaGreatDoor
open Go
section
variable (f : Frag) (F : List HP)
theorem rclient_fn {i : Int} (h1 : 1 ≤ i) (h2 : i ≤ 8) : Fn Tryz.prog 97 [.int .i64 i] f F (BytesR (Sha.word32 clientW i) f F) := by
  refine Fn.enter Tryz.func97 rfl Tryz.ntmps97 rfl (L := [(0, _)]) ⟨rfl, trivial⟩ fun base => ?_
  repeat (first | ((first | apply H.move | apply H.assign); (iterate 3 exact rfl)) | (first | apply H.seq | apply H.region | apply H.nil | apply H.then_normal))
  refine H.callE2 rfl rfl rfl (rkey_fn (w := ⟨#[114, 97, 116, 99, 104, 101, 116, 32, 99, 108, 105, 101, 110, 116]⟩) f _ h1 h2 (by decide) (by decide)) fun p1 c1 => ?_
  repeat (first | ((apply H.assign); (iterate 3 exact rfl)) | (first | apply H.nil | apply H.then_normal) | (apply H.ret))
  exact H.ret1 rfl rfl (fun _ h => h) ⟨p1, c1, rfl, rfl, rfl⟩
set_option maxHeartbeats 800000 in
theorem rsigned_fn (r : Req) : Fn Tryz.prog 76 [.agg r.vals.toArray] f F (Ret (.agg r.signed.vals.toArray) f F) := by
  have has := fun G => rasked_fn f G r
  unfold Req.signed
  by_cases ha : r.asked
  · have hbl := Req.bytes_max ha
    have hcl := fun G => rclient_fn f G ha.1 ha.2.1
    have hrq := fun G p c => rrequest_fn f G (p := p) (c := c) (l := []) r ha (by decide)
    have hk : (Sha.word32 clientW r.client).length = 32 := rfl
    rw [if_pos ha]
    rw [decide_eq_true ha] at has
    unfold Req.sig
    generalize Sha.word32 clientW r.client = key at hk hcl ⊢
    rw [show ([] : List UInt8) ++ r.bytes = r.bytes from rfl] at hrq
    generalize r.bytes = rb at hbl hrq ⊢
    refine Fn.enter Tryz.func76 rfl Tryz.ntmps76 rfl (L := [(0, _)]) ⟨rfl, trivial⟩ fun base => ?_
    repeat ((first | apply H.seq | apply H.region))
    refine H.box (ls := r.vals) rfl rfl rfl rfl fun qb => ?_
    refine H.alloc (ls := Req.zero.vals) rfl rfl rfl fun ob => ?_
    repeat ((first | apply H.seq | apply H.region | apply H.nil | apply H.then_normal))
    refine H.loadN (ls := r.vals) rfl rfl rfl (Rd.ofRow (.there _ (.here _ _ _))) rfl rfl ?_
    refine H.callR rfl rfl rfl (has _) ?_
    repeat (first | (first | apply H.nil | apply H.then_normal) | (apply H.cond_true; exact rfl))
    refine H.front (.there _ (.here _ _)) ?_
    refine H.drawC [0, 1, 2, 3, 4, 5] (by kernel_rfl) (by decide +kernel) (by repeat (first | exact blind_fn | refine blind_seq ?_ | refine blind_block ?_ | refine blind_loop ?_)) (S := [_]) rfl ?_
    refine HB.quiet [(0, false), (1, false), (3, false)] 5 (by kernel_rfl) ?_
    repeat (first | (apply HQ.fieldAddr; (iterate 3 exact rfl); exact inferInstance; exact rfl) | (apply HQ.load1; (iterate 3 exact rfl); apply Rd1.ofRow; (repeat (exact .here _ _ _)); (iterate 2 exact rfl)))
    refine HQ.loadN (ls := r.vals) rfl rfl rfl (Rd.ofRow (.here _ _ _)) rfl rfl ?_
    refine HQ.more rfl ?_
    refine HB.ev1 (i := 2) (by kernel_rfl) rfl ?_
    refine H.callE2 rfl rfl rfl (hcl _) fun p1 c1 => ?_
    repeat ((apply H.nil))
    refine H.front (.there _ (.here _ _)) ?_
    refine H.on0 rfl ?_
    refine HB.ev1 (i := 4) (by kernel_rfl) rfl ?_
    refine H.slc0 5 1 ?_
    refine H.callE2 rfl rfl rfl (hrq _ none 0) fun p2 c2 => ?_
    repeat ((apply H.nil))
    refine H.front (x := row qb _ _) (by repeat (first | exact .here _ _ | apply Pull.there)) ?_
    refine H.on0 rfl ?_
    refine HB.ev1 (i := 5) (by kernel_rfl) rfl ?_
    refine H.callR rfl rfl rfl (hmac_fn f _ (key := key) (b := rb) (fun G => Src.append (Src.slcS (by repeat (first | exact .here _ _ _ | apply At.there)) (by rw [bytesV_len]; exact (Nat.mul_one _).symm))) (fun G => Src.append (Src.slcS (by repeat (first | exact .here _ _ _ | apply At.there)) (by rw [bytesV_len]; exact (Nat.mul_one _).symm))) (by omega) (by omega)) ?_
    generalize Sha.hmac key rb = t
    repeat ((apply H.nil))
    refine H.on0 rfl ?_
    refine HB.next [] (by kernel_rfl) (S' := []) rfl ?_
    refine HB.quiet [(6, false)] 1 (by kernel_rfl) ?_
    repeat ((apply HQ.fieldAddr; (iterate 3 exact rfl); exact inferInstance; exact rfl))
    refine HQ.more rfl ?_
    refine HB.ev1 (i := 7) (by kernel_rfl) rfl ?_
    refine H.storeN (ls := r.vals) (vs := b32 t) (ls' := ({ r with tag := t } : Req).vals) rfl rfl rfl (allOne_mem rfl) rfl (splice_rtag r t) (by show 0 + 8 + 32 ≤ 40; decide) (.here _ _ _) ?_
    repeat ((apply H.nil))
    refine H.on0 rfl ?_
    refine HB.done (by kernel_rfl) ?_
    repeat ((first | apply H.seq | apply H.region | apply H.then_normal))
    refine H.loadN (ls := ({ r with tag := t } : Req).vals) rfl rfl rfl (Rd.ofRow (.here _ _ _)) rfl rfl ?_
    refine H.storeN (ls := Req.zero.vals) (vs := ({ r with tag := t } : Req).vals) (ls' := ({ r with tag := t } : Req).vals) rfl rfl rfl (allOne_mem rfl) rfl rfl (Nat.le_refl 40) (by repeat (first | exact .here _ _ _ | apply At.there)) ?_
    repeat (first | (first | apply H.nil | apply H.then_normal) | (apply H.ret))
    refine H.drop (.here _ _) ?_
    refine H.drop (.here _ _) ?_
    refine H.drop (.here _ _) ?_
    exact H.retD rfl rfl rfl (Rd.ofRow (.here _ _ _)) rfl (fun _ s => s.drop (.here _ _)) ⟨rfl, rfl, rfl⟩
  · rw [if_neg ha]
    rw [decide_eq_false ha] at has
    refine Fn.enter Tryz.func76 rfl Tryz.ntmps76 rfl (L := [(0, _)]) ⟨rfl, trivial⟩ fun base => ?_
    repeat ((first | apply H.seq | apply H.region))
    refine H.box (ls := r.vals) rfl rfl rfl rfl fun qb => ?_
    refine H.alloc (ls := Req.zero.vals) rfl rfl rfl fun ob => ?_
    repeat ((first | apply H.seq | apply H.region | apply H.nil | apply H.then_normal))
    refine H.loadN (ls := r.vals) rfl rfl rfl (Rd.ofRow (.there _ (.here _ _ _))) rfl rfl ?_
    refine H.callR rfl rfl rfl (has _) ?_
    repeat (first | (first | apply H.seq | apply H.region | apply H.nil | apply H.then_normal) | (apply H.cond_false; exact rfl) | (apply H.skip))
    refine H.loadN (ls := r.vals) rfl rfl rfl (Rd.ofRow (.there _ (.here _ _ _))) rfl rfl ?_
    refine H.storeN (ls := Req.zero.vals) (vs := r.vals) (ls' := r.vals) rfl rfl rfl (allOne_mem rfl) rfl rfl (Nat.le_refl 40) (.here _ _ _) ?_
    repeat (first | (first | apply H.nil | apply H.then_normal) | (apply H.ret))
    refine H.drop (.there _ (.here _ _)) ?_
    exact H.retD rfl rfl rfl (Rd.ofRow (.here _ _ _)) rfl (fun _ s => s.drop (.here _ _)) ⟨rfl, rfl, rfl⟩
end
end Go.Proofs.YtoigpgdmignaoaaGreatDoor

/- Layer 12: the law's example. Condition: the table of the standard stands in the fragment. -/
namespace Go.Proofs.YtoigpgdmignaoaaGreatDoor
open Go
theorem fits_signed (n : Nat) (m : Msg) : fitsB n m.signed = fitsB n m := by
  unfold fitsB
  rw [Msg.signed_may, m.signed_parts.1, m.signed_parts.2.2.1, m.signed_parts.2.2.2]
theorem chk_as {n : Nat} {S : Strm} {m : Msg} (h1 : fitsB n m = true) (h2 : m.right = true) {o k : Nat} {d : Nat → Int} {z : Int} (ho : orgI m = o) (hz : m.number = z) (hd : m.deps = d) (hk : (S o).length = k) :
    chk n S m = if z ≤ (k : Nat) then 13 else if z = ((k + 1 : Nat) : Int) ∧ 0 < k ∧ aboveB (lastD (S o)) d = true then 1 else if ((k + 1 : Nat) : Int) < z ∨ aboveB d (knownS S) = true then 12 else 0 := by
  unfold chk
  rw [if_neg (by rw [h1]; decide), if_neg (by rw [h2]; decide), ho, hz, hd, hk]
def bodC : Bod := { Bod.zero 3 with view := 1 }
def vec1 : Nat → Int
  | 0 => 1
  | _ + 1 => 0
def m1u : Msg := ⟨1, 1, fun _ => 0, bodC, noTag⟩
def m2u : Msg := ⟨2, 1, vec1, bodC, noTag⟩
theorem m1u_fits : fitsB 3 m1u = true := by decide +kernel
theorem m2u_fits : fitsB 3 m2u = true := by decide +kernel
theorem m1u_may : m1u.may = true := by decide +kernel
theorem m2u_may : m2u.may = true := by decide +kernel
structure Ex12 (m1 m2 mb : Msg) : Prop where
  a : chk 3 (strm []) m2 = 12
  b : chk 3 (strm []) mb = 11
  c : chk 3 (strm []) m1 = 0
  d : chk 3 (strm [m1]) m2 = 0
  g : chk 3 (strm [m1, m2]) m1 = 13
  l : (sinceM vec1 9 [m1, m2]).length = 1
theorem ex12 : Ex12 m1u.signed m2u.signed { m1u.signed with tag := setT m1u.signed.tag 0 (m1u.signed.tag 0 ^^^ 1) } := by
  have f1 : fitsB 3 m1u.signed = true := by rw [fits_signed]; exact m1u_fits
  have f2 : fitsB 3 m2u.signed = true := by rw [fits_signed]; exact m2u_fits
  have r1 := Msg.signed_isright m1u_may
  have r2 := Msg.signed_isright m2u_may
  have rb := Msg.turned_right m1u_may (k := 0) 1 (by decide)
  obtain ⟨a1, a2, a3, _⟩ := m1u.signed_parts
  obtain ⟨b1, b2, b3, _⟩ := m2u.signed_parts
  have fb : fitsB 3 ({ m1u.signed with tag := setT m1u.signed.tag 0 (m1u.signed.tag 0 ^^^ 1) } : Msg) = true := f1
  generalize ({ m1u.signed with tag := setT m1u.signed.tag 0 (m1u.signed.tag 0 ^^^ 1) } : Msg) = mb at *
  generalize m1u.signed = m1 at *
  generalize m2u.signed = m2 at *
  have o1 : orgI m1 = 0 := by unfold orgI; rw [a1]; rfl
  have o2 : orgI m2 = 1 := by unfold orgI; rw [b1]; rfl
  have n1 : m1.number = 1 := a2
  have n2 : m2.number = 1 := b2
  have s1 : ∀ i, strm [m1] i = if i = 0 then [m1] else [] := fun i => by
    unfold strm
    rw [List.filter_cons, o1, List.filter_nil]
    by_cases h : i = 0
    · subst h; rfl
    · rw [if_neg h, if_neg (by rw [decide_eq_false (fun e => h e.symm)]; decide)]
  have s2 : ∀ i, (strm [m1, m2] i).length = if i = 0 then 1 else if i = 1 then 1 else 0 := fun i => by
    unfold strm
    rw [List.filter_cons, List.filter_cons, o1, o2, List.filter_nil]
    by_cases h : i = 0
    · subst h; rfl
    · rw [if_neg h, if_neg (by rw [decide_eq_false (fun e => h e.symm)]; decide)]
      by_cases h1 : i = 1
      · subst h1; rfl
      · rw [if_neg h1, if_neg (by rw [decide_eq_false (fun e => h1 e.symm)]; decide)]; rfl
  refine ⟨?_, ?_, ?_, ?_, ?_, ?_⟩
  · rw [chk_as f2 r2 o2 n2 b3 (k := 0) rfl]
    rw [if_neg (by decide), if_neg (by rintro ⟨_, h, _⟩; cases h), if_pos (.inr (by decide))]
  · unfold chk
    rw [if_neg (by rw [fb]; decide), if_pos (by rw [rb]; decide)]
  · rw [chk_as f1 r1 o1 n1 a3 (k := 0) rfl]
    rw [if_neg (by decide), if_neg (by rintro ⟨_, h, _⟩; cases h), if_neg (by decide)]
  · rw [chk_as f2 r2 o2 n2 b3 (k := 0) (by rw [s1]; rfl)]
    have hk : aboveB m2u.deps (knownS (strm [m1])) = false := by
      refine aboveB_false.2 fun i hi => ?_
      show vec1 i ≤ (((strm [m1] i).length : Nat) : Int)
      rw [s1]
      match i with
      | 0 => exact Int.le_refl 1
      | i + 1 => exact Int.le_refl 0
    rw [if_neg (by decide), if_neg (by rintro ⟨_, h, _⟩; cases h), if_neg (by rw [hk]; decide)]
  · rw [chk_as f1 r1 o1 n1 a3 (k := 1) (by rw [s2]; rfl)]
    rw [if_pos (by decide)]
  · unfold sinceM unk
    rw [List.filter_cons, List.filter_cons, o1, o2, n1, n2, List.filter_nil]
    rfl
theorem bodC_ok : bodC.Ok := ⟨⟨by decide, by decide⟩, ⟨by decide, by decide⟩, reqz_ok⟩
theorem good_signed {m : Msg} {q : Option Addr} {c : Nat} {f : Frag} (h : (⟨m, q, c⟩ : MV).Good f) : (⟨m.signed, q, c⟩ : MV).Good f := by
  obtain ⟨h1, h2, h3⟩ := h
  refine ⟨?_, ?_, ?_⟩
  · show QAt f q m.signed.body.q; rw [m.signed_parts.2.2.2]; exact h1
  · show m.signed.body.q.length ≤ _; rw [m.signed_parts.2.2.2]; exact h2
  · show m.signed.body.Ok; rw [m.signed_parts.2.2.2]; exact h3
theorem H.weakL {P : Program} {base : World} {n : Nat} {L : Env} {f g : Frag} {A : List HP} {K : Kont} (h : Le f g) (k : H P base n L f A K) : H P base n L g A K := .mk fun a w hf s => k.out a w hf (s.weak h)
theorem tab_mono {f g : Frag} (t : TabAt f) (h : Le f g) : TabAt g := IntsAt.mono h t
section
variable (f : Frag) (F : List HP)
set_option maxHeartbeats 3200000 in
set_option maxRecDepth 20000 in
theorem works12_fn (htab : TabAt f) : Fn Tryz.prog 16 [] f F (Ret (.bool true) f F) := by
  have hex := ex12
  have gb : ∀ f, (⟨m1u.signed, none, 0⟩ : MV).Good f := fun f => good_signed ⟨QAt.nil f none, Nat.zero_le _, bodC_ok⟩
  have g2 : ∀ f, (⟨m2u.signed, none, 0⟩ : MV).Good f := fun f => good_signed ⟨QAt.nil f none, Nat.zero_le _, bodC_ok⟩
  have g3 : ∀ f, (⟨{ m1u.signed with tag := setT m1u.signed.tag 0 (m1u.signed.tag 0 ^^^ 1) }, none, 0⟩ : MV).Good f := fun f => gb f
  have hset := msg_settag m1u.signed none 0 (k := 0) (m1u.signed.tag 0 ^^^ 1) (by decide)
  have t1 := fun f G => rtagged_fn f G (m := m1u) (q := none) (qc := 0) (QAt.nil _ none) (Nat.zero_le _)
  have t2 := fun f G => rtagged_fn f G (m := m2u) (q := none) (qc := 0) (QAt.nil _ none) (Nat.zero_le _)
  generalize ({ m1u.signed with tag := setT m1u.signed.tag 0 (m1u.signed.tag 0 ^^^ 1) } : Msg) = mb at *
  generalize m1u.signed = m1 at *
  generalize m2u.signed = m2 at *
  refine Fn.enter Tryz.func16 rfl Tryz.ntmps16 rfl (L := []) trivial fun base => ?_
  repeat (first | ((apply H.assign); (iterate 3 exact rfl)) | (first | apply H.seq | apply H.region | apply H.nil | apply H.then_normal))
  refine H.callE rfl rfl rfl (lnew_fn f F (n := 3) (by decide)) fun lb => ?_
  repeat (first | ((first | apply H.move | apply H.assign); (iterate 3 exact rfl)) | (first | apply H.seq | apply H.region | apply H.nil | apply H.then_normal) | ((apply H.extract); (iterate 4 exact rfl)))
  refine H.callR rfl rfl rfl (lnew_no f _ (z := 2) (by decide)) ?_
  repeat (first | (refine H.build (t := 45) (out := bodC.vals none 0) rfl rfl rfl (by kernel_rfl) rfl ?_) | (refine H.build (t := 47) (out := m1u.vals none 0) rfl rfl rfl (by kernel_rfl) rfl ?_) | ((first | apply H.move | apply H.assign); (iterate 3 exact rfl)) | (first | apply H.seq | apply H.region | apply H.nil | apply H.then_normal) | ((apply H.cmp); (iterate 5 exact rfl)) | ((first | apply H.pickF | apply H.extract); (iterate 4 exact rfl)) | ((apply H.ptrNil); (iterate 5 exact rfl)) | (apply H.cond_false; exact rfl) | (apply H.skip))
  refine H.callR rfl rfl rfl (t1 f _) ?_
  refine H.alloc (ls := msgZ.vals none 0) rfl rfl rfl fun ob => ?_
  refine H.storeN (ls := msgZ.vals none 0) (vs := m1.vals none 0) (ls' := m1.vals none 0) rfl rfl rfl (allOne_mem rfl) rfl rfl (Nat.le_refl 121) (.here _ _ _) ?_
  repeat (first | (refine H.buildA (t := 37) (out := v11 vec1) rfl rfl rfl (by kernel_rfl) rfl ?_) | (refine H.build (t := 45) (out := bodC.vals none 0) rfl rfl rfl (by kernel_rfl) rfl ?_) | (refine H.build (t := 47) (out := m2u.vals none 0) rfl rfl rfl (by kernel_rfl) rfl ?_) | (first | apply H.seq | apply H.region | apply H.nil | apply H.then_normal))
  refine H.callR rfl rfl rfl (t2 f _) ?_
  refine H.alloc (ls := msgZ.vals none 0) rfl rfl rfl fun o2 => ?_
  refine H.storeN (ls := msgZ.vals none 0) (vs := m2.vals none 0) (ls' := m2.vals none 0) rfl rfl rfl (allOne_mem rfl) rfl rfl (Nat.le_refl 121) (.here _ _ _) ?_
  repeat ((first | apply H.seq | apply H.region | apply H.nil | apply H.then_normal))
  refine H.loadN (ls := m1.vals none 0) rfl rfl rfl (Rd.ofRow (.there _ (.here _ _ _))) rfl rfl ?_
  refine H.alloc (ls := msgZ.vals none 0) rfl rfl rfl fun o3 => ?_
  refine H.storeN (ls := msgZ.vals none 0) (vs := m1.vals none 0) (ls' := m1.vals none 0) rfl rfl rfl (allOne_mem rfl) rfl rfl (Nat.le_refl 121) (.here _ _ _) ?_
  repeat (first | (apply H.fieldAddr; (iterate 3 exact rfl); exact inferInstance; exact rfl) | (first | apply H.seq | apply H.region | apply H.nil | apply H.then_normal))
  refine H.index_array (i := 0) rfl rfl rfl rfl (by decide) rfl ?_
  refine H.load1 rfl rfl rfl (Rd1.of (msg_tag (m := m1) (q := none) (qc := 0) (.here _ _ _)) (b32_get m1.tag (i := 0) (by decide))) rfl ?_
  refine H.bits (op := .xor) rfl rfl rfl (u8_xor (m1.tag 0) 1) rfl rfl ?_
  repeat ((apply H.fieldAddr; (iterate 3 exact rfl); exact inferInstance; exact rfl))
  refine H.index_array (i := 0) rfl rfl rfl rfl (by decide) rfl ?_
  refine H.store1 (ls := m1.vals none 0) (ls' := mb.vals none 0) rfl rfl rfl rfl (.here _ _ _) hset ?_
  repeat (first | ((apply H.move); (iterate 3 exact rfl)) | (first | apply H.seq | apply H.region | apply H.nil | apply H.then_normal))
  refine H.loadN (ls := m2.vals none 0) rfl rfl rfl (Rd.ofRow (.there _ (.here _ _ _))) rfl rfl ?_
  refine H.front (x := loreH _ _ _ _) (by repeat (first | exact .here _ _ | apply Pull.there)) ?_
  refine H.call (R := AddP f _ lb 3 [] m2) rfl rfl rfl (ladd_fn f _ htab (Le.refl f) (x := ⟨m2, none, 0⟩) (g2 f) (by decide)) fun v f' A' hr => ?_
  obtain ⟨g1, q1, c1, rfl, hd1, rfl, rfl⟩ := hr
  rw [show chk 3 (strm (([] : List MV).map MV.m)) m2 = 12 from hex.a, if_neg (by decide)]
  have le1 := Le.un f g1
  generalize un f g1 = f1 at le1 ⊢
  have hck : ∀ G, Fn Tryz.prog 23 [.pointer (some ⟨lb, 0, none⟩), .agg (mb.vals none 0).toArray] f1 (loreH f1 lb 3 [] :: G) (Ret (.int .i64 11) f1 (loreH f1 lb 3 [] :: G)) := fun G => by
    have h := lcheck_fn f1 G (tab_mono htab le1) (fl := f1) (lb := lb) (n := 3) (l := []) (x := ⟨mb, none, 0⟩) (g3 f1)
    rw [show chk 3 (strm (([] : List MV).map MV.m)) (⟨mb, none, 0⟩ : MV).m = 11 from hex.b] at h
    exact h
  repeat (first | ((first | apply H.move | apply H.assign); (iterate 3 exact rfl)) | (first | apply H.seq | apply H.region | apply H.nil | apply H.then_normal))
  refine H.loadN (ls := mb.vals none 0) rfl rfl rfl (Rd.ofRow (.there _ (.here _ _ _))) rfl rfl ?_
  refine H.callR rfl rfl rfl (hck _) ?_
  clear hck
  repeat (first | ((first | apply H.move | apply H.assign); (iterate 3 exact rfl)) | (first | apply H.seq | apply H.region | apply H.nil | apply H.then_normal))
  refine H.loadN (ls := m1.vals none 0) rfl rfl rfl (Rd.ofRow (.there _ (.there _ (.there _ (.here _ _ _))))) rfl rfl ?_
  refine H.call (R := AddP f1 _ lb 3 [] m1) rfl rfl rfl (ladd_fn f1 _ (tab_mono htab le1) (Le.refl f1) (x := ⟨m1, none, 0⟩) (gb f1) (by decide)) fun v f' A' hr => ?_
  obtain ⟨g2', q2, c2, rfl, hd2, rfl, rfl⟩ := hr
  rw [show chk 3 (strm (([] : List MV).map MV.m)) m1 = 0 from hex.c, if_pos rfl]
  have le2 := le1.trans (Le.un f1 g2')
  generalize un f1 g2' = f2 at le2 ⊢
  repeat (first | ((first | apply H.move | apply H.assign); (iterate 3 exact rfl)) | (first | apply H.seq | apply H.region | apply H.nil | apply H.then_normal))
  refine H.loadN (ls := m2.vals none 0) rfl rfl rfl (Rd.ofRow (.there _ (.there _ (.here _ _ _)))) rfl rfl ?_
  refine H.call (R := AddP f2 _ lb 3 [⟨m1, q2, c2⟩] m2) rfl rfl rfl (ladd_fn f2 _ (tab_mono htab le2) (Le.refl f2) (x := ⟨m2, none, 0⟩) (g2 f2) (show 1 < 100000 by decide)) fun v f' A' hr => ?_
  obtain ⟨g3', q3, c3, rfl, hd3, rfl, rfl⟩ := hr
  rw [show chk 3 (strm (([⟨m1, q2, c2⟩] : List MV).map MV.m)) m2 = 0 from hex.d, if_pos rfl]
  have le3 := le2.trans (Le.un f2 g3')
  generalize un f2 g3' = f3 at le3 ⊢
  repeat (first | ((first | apply H.move | apply H.assign); (iterate 3 exact rfl)) | (first | apply H.seq | apply H.region | apply H.nil | apply H.then_normal))
  refine H.loadN (ls := m1.vals none 0) rfl rfl rfl (Rd.ofRow (.there _ (.there _ (.there _ (.here _ _ _))))) rfl rfl ?_
  refine H.call (R := AddP f3 _ lb 3 [⟨m1, q2, c2⟩, ⟨m2, q3, c3⟩] m1) rfl rfl rfl (ladd_fn f3 _ (tab_mono htab le3) (Le.refl f3) (l := [⟨m1, q2, c2⟩, ⟨m2, q3, c3⟩]) (x := ⟨m1, none, 0⟩) (gb f3) (show 2 < 100000 by decide)) fun v f' A' hr => ?_
  obtain ⟨g4', q4, c4, rfl, hd4, rfl, rfl⟩ := hr
  rw [show chk 3 (strm (([⟨m1, q2, c2⟩, ⟨m2, q3, c3⟩] : List MV).map MV.m)) m1 = 13 from hex.g, if_neg (by decide)]
  have le4 := le3.trans (Le.un f3 g4')
  generalize un f3 g4' = f4 at le4 ⊢
  repeat (first | ((first | apply H.move | apply H.assign); (iterate 3 exact rfl)) | (first | apply H.seq | apply H.region | apply H.nil | apply H.then_normal) | ((apply H.cmp); (iterate 5 exact rfl)) | (apply H.pickT; (iterate 4 exact rfl)) | (apply H.gyes; (iterate 3 exact rfl); (omega)))
  refine H.callR rfl rfl rfl (llen_fn f4 _) ?_
  repeat (first | (refine H.buildA (t := 37) (out := v11 vec1) rfl rfl rfl (by kernel_rfl) rfl ?_) | ((apply H.move); (iterate 3 exact rfl)) | ((apply H.cmp); (iterate 5 exact rfl)) | (apply H.pickT; (iterate 4 exact rfl)))
  refine H.call (R := SinceP f4 _ (sinceM vec1 9 [m1, m2])) rfl rfl rfl (lsince_fn f4 _ (Le.refl f4) (v := vec1) (most := 9)) fun v f' A' hr => ?_
  obtain ⟨g5, p5, c5, R5, rfl, hR5, _, hd5, rfl, rfl⟩ := hr
  have hl5 : R5.length = 1 := by
    have := congrArg List.length hR5
    rw [List.length_map, hex.l] at this
    exact this
  rw [hl5]
  have le5 := le4.trans (Le.un f4 g5)
  generalize un f4 g5 = f5 at le5 ⊢
  repeat (first | ((first | apply H.assign | apply H.len_slice); (iterate 3 exact rfl)) | (first | apply H.nil | apply H.then_normal) | ((apply H.cmp); (iterate 5 exact rfl)) | (apply H.pickT; (iterate 4 exact rfl)) | (apply H.ret))
  refine H.weakL le5 ?_
  iterate 5 refine H.drop (.here _ _) ?_
  exact H.ret1 rfl rfl (fun _ h => h) ⟨rfl, rfl, rfl⟩
end
end Go.Proofs.YtoigpgdmignaoaaGreatDoor

/- Layer 12: LoreNil. Condition: the table of the standard stands in the fragment. -/
namespace Go.Proofs.YtoigpgdmignaoaaGreatDoor
open Go
def fewM (l : List MV) : Bool := decide (l.length ≤ 30) && l.all fun x => decide (x.m.body.q.length ≤ 20)
theorem good_few {f : Frag} {x : MV} (h : x.Has f) (hl : x.m.body.q.length ≤ 20) : x.Good f := ⟨h.1, by omega, h.2⟩
section
variable (f : Frag) (F : List HP)
theorem few12m_fn {p : Option Addr} {c : Nat} {l : List MV} (hat : ListAt f p 121 MV.vals l) (hl : l.length ≤ 9223372036854775807) : Fn Tryz.prog 25 [.slice p l.length c] f F (Ret (.bool (fewM l)) f F) := by
  by_cases h30 : l.length ≤ 30
  · refine Fn.enter Tryz.func25 rfl Tryz.ntmps25 rfl (L := [(0, _)]) ⟨rfl, trivial⟩ fun base => ?_
    repeat (first | ((first | apply H.move | apply H.assign | apply H.len_slice); (iterate 3 exact rfl)) | (first | apply H.seq | apply H.region | apply H.nil | apply H.then_normal) | ((apply H.cmp); (iterate 5 exact rfl)) | (first | apply H.skip | apply H.block) | (apply H.cond_no; exact rfl; (omega)))
    refine H.loop (ι := Nat) (fun i => [(3, .int .i64 (i : Int)), (0, .slice p l.length c)]) (fun _ => f) (fun _ => F) (fun i => i ≤ l.length ∧ ∀ j x, j < i → l[j]? = some x → x.m.body.q.length ≤ 20) (fun i => l.length - i) 0 ⟨Nat.zero_le _, fun j x hj => by omega⟩ ⟨rfl, rfl, trivial⟩ rfl rfl fun i hi => ?_
    obtain ⟨hi, hb⟩ : i ≤ l.length ∧ ∀ j x, j < i → l[j]? = some x → x.m.body.q.length ≤ 20 := hi
    by_cases hlt : i < l.length
    · have hx : l[i]? = some l[i] := List.getElem?_eq_getElem hlt
      generalize l[i] = x at hx
      obtain ⟨b, off, cs, T, fr, rfl, hfb, hcs⟩ := hat i x hx
      have rd : ∀ A, Rd f A b (off + i * 121) x.vals := fun A => Rd.imm hfb hcs
      by_cases hq : x.m.body.q.length ≤ 20
      · repeat (first | ((first | apply H.move | apply H.len_slice); (iterate 3 exact rfl)) | (first | apply H.seq | apply H.region | apply H.nil | apply H.then_normal) | ((apply H.cmp); (iterate 5 exact rfl)) | (first | apply H.skip | apply H.block) | (apply H.cond_yes; exact rfl; (omega)))
        refine H.index_slice rfl rfl rfl rfl hlt rfl ?_
        repeat ((apply H.fieldAddr; (iterate 3 exact rfl); exact inferInstance; exact rfl))
        refine H.load1 rfl rfl rfl (Rd1.of (i := 56) (rd _) rfl) rfl ?_
        repeat (first | ((first | apply H.move | apply H.assign | apply H.len_slice); (iterate 3 exact rfl)) | (first | apply H.region | apply H.nil | apply H.then_normal) | ((apply H.cmp); (iterate 5 exact rfl)) | ((apply H.ar; (iterate 4 exact rfl)); (with_reducible apply wr_i64_n1; omega); exact rfl) | (first | apply H.skip | apply H.in_normal) | (apply H.cond_no; exact rfl; (omega)))
        refine H.again (i + 1) ⟨by show i + 1 ≤ l.length; omega, fun j y hj hy => ?_⟩ (by show l.length - (i + 1) < l.length - i; omega) ⟨rfl, rfl, trivial⟩ rfl rfl
        by_cases e : j = i
        · subst e; rw [hx] at hy; cases hy; exact hq
        · exact hb j y (by omega) hy
      · repeat (first | ((first | apply H.move | apply H.len_slice); (iterate 3 exact rfl)) | (first | apply H.seq | apply H.region | apply H.nil | apply H.then_normal) | ((apply H.cmp); (iterate 5 exact rfl)) | (first | apply H.skip | apply H.block) | (apply H.cond_yes; exact rfl; (omega)))
        refine H.index_slice rfl rfl rfl rfl hlt rfl ?_
        repeat ((apply H.fieldAddr; (iterate 3 exact rfl); exact inferInstance; exact rfl))
        refine H.load1 rfl rfl rfl (Rd1.of (i := 56) (rd _) rfl) rfl ?_
        repeat (first | ((first | apply H.assign | apply H.len_slice); (iterate 3 exact rfl)) | (first | apply H.seq | apply H.region | apply H.nil | apply H.then_normal) | ((apply H.cmp); (iterate 5 exact rfl)) | (first | apply H.ret | apply H.then_ret | apply H.in_ret | apply H.loop_ret) | (apply H.cond_yes; exact rfl; (omega)))
        refine H.ret1 rfl rfl (fun _ h => h) ⟨?_, rfl, rfl⟩
        have : fewM l = false := by
          unfold fewM
          rw [Bool.and_eq_false_iff]
          refine .inr (List.all_eq_false.2 ⟨x, List.mem_of_getElem? hx, by rw [decide_eq_false hq]; decide⟩)
        rw [this]
    · repeat (first | ((first | apply H.move | apply H.assign | apply H.len_slice); (iterate 3 exact rfl)) | (first | apply H.seq | apply H.region | apply H.nil | apply H.then_normal) | ((apply H.cmp); (iterate 5 exact rfl)) | (first | apply H.ret | apply H.then_exit | apply H.exit | apply H.in_hit | apply H.loop_exit) | (apply H.cond_no; exact rfl; (omega)))
      refine H.ret1 rfl rfl (fun _ h => h) ⟨?_, rfl, rfl⟩
      have : fewM l = true := by
        unfold fewM
        rw [decide_eq_true h30, Bool.true_and, List.all_eq_true]
        intro x hx
        obtain ⟨j, hj⟩ := List.getElem?_of_mem hx
        have hjl : j < l.length := by
          rcases Nat.lt_or_ge j l.length with h1 | h1
          · exact h1
          · rw [List.getElem?_eq_none h1] at hj; cases hj
        exact decide_eq_true (hb j x (by omega) hj)
      rw [this]
  · refine Fn.enter Tryz.func25 rfl Tryz.ntmps25 rfl (L := [(0, _)]) ⟨rfl, trivial⟩ fun base => ?_
    repeat (first | ((first | apply H.move | apply H.assign | apply H.len_slice); (iterate 3 exact rfl)) | (first | apply H.seq | apply H.region | apply H.nil | apply H.then_normal) | ((apply H.cmp); (iterate 5 exact rfl)) | (first | apply H.ret | apply H.then_ret) | (apply H.cond_yes; exact rfl; (omega)))
    refine H.ret1 rfl rfl (fun _ h => h) ⟨?_, rfl, rfl⟩
    have : fewM l = false := by unfold fewM; rw [decide_eq_false h30]; rfl
    rw [this]
end
end Go.Proofs.YtoigpgdmignaoaaGreatDoor
