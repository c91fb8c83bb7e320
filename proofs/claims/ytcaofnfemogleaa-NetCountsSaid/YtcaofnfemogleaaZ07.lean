/- Parts of the proof, one behind the other, each under its own heading. No conditions. -/
import Derived.Test.YtcaofnfemogleaaZ06
import Derived.OpenShut
import Derived.Test.YtcaofnfemogleaaRows
/- Layer 24: the document's net: Take, Twice, Cut. -/
namespace Go.Proofs.Ytcaofnfemogleaa
set_option linter.unusedSectionVars false
set_option linter.unusedSimpArgs false
set_option linter.unusedVariables false
open Go
section
variable (f : Frag) (F : List HP) (h : Frag) (nb : Nat) (N : NetM)
def RTakeR (f h : Frag) (nb : Nat) (F : List HP) (c : NetC) (k : Int) : Value → Frag → List HP → Prop := fun v f' A' =>
  ∃ (p : Pkt) (N : NetM), v = .tuple #[.agg p.vals.toArray, .bool (c.got k).isSome] ∧ p.core = (c.got k).getD Core.zero ∧ p.Good h ∧ N.core = c.took k ∧ f' = f ∧ A' = refH h nb N :: F
theorem rnetTake_fn (k : Int) : Fn Try.prog 20 [.pointer (some ⟨nb, 0, none⟩), .int .i64 k] f (refH h nb N :: F) (RTakeR f h nb F N.core k) := by
  by_cases hk : 0 ≤ k ∧ k < N.row.length
  · obtain ⟨hk0, hk1⟩ := hk
    obtain ⟨x, hx⟩ : ∃ x, N.row[k.toNat]? = some x := ⟨N.row[k.toNat]'(by omega), List.getElem?_eq_getElem (by omega)⟩
    have hgot : N.core.got k = some x.core := by unfold NetC.got; rw [if_pos hk0, NetM.core_get, hx]; rfl
    have htook : N.core.took k = ({ row := N.row.take k.toNat ++ N.row.drop (k.toNat + 1), lost := N.lost } : NetM).core := by
      unfold NetC.took NetM.core
      rw [if_pos hk0, List.eraseIdx_eq_take_drop_succ]
      simp
    have hl1 : (N.row.take k.toNat).length = k.toNat := by rw [List.length_take]; omega
    have hl2 : (N.row.drop (k.toNat + 1)).length = N.row.length - (k.toNat + 1) := List.length_drop
    refine Fn.enter Try.func20 rfl Try.ntmps20 rfl (L := [(0, _), (1, _)]) ⟨rfl, rfl, trivial⟩ fun base => ?_
    repeat ((first | apply H.seq | apply H.region))
    refine H.alloc (ls := Pkt.zero.vals) rfl rfl rfl fun ob => ?_
    repeat (first | ((first | apply H.move | apply H.assign | apply H.nilCheck); (iterate 3 exact rfl)) | (apply H.fieldAddr; (iterate 3 exact rfl); exact inferInstance; exact rfl) | (first | apply H.seq | apply H.region | apply H.nil | apply H.then_normal) | ((apply H.cmp); (iterate 5 exact rfl)) | (apply H.gno; (iterate 3 exact rfl); (omega)))
    refine H.front (x := refH h nb N) (by repeat (first | exact .here _ _ | apply Pull.there)) ?_
    refine H.unpack fun i hi => ?_
    have hxg : x.Good h := hi.1 x (List.mem_of_getElem? hx)
    have hlen := hi.2
    obtain ⟨pp, pc⟩ := i
    refine H.slc_some (.there _ (.here _ _ _)) (by omega) fun sb hb => ?_
    have hb : pp = _ := hb
    subst hb
    refine H.slc_cap (.there _ (.here _ _ _)) fun hcap _ hpl => ?_
    repeat (first | ((first | apply H.move | apply H.nilCheck | apply H.len_slice); (iterate 3 exact rfl)) | (apply H.fieldAddr; (iterate 3 exact rfl); exact inferInstance; exact rfl) | (apply H.load1; (iterate 3 exact rfl); apply Rd1.ofRow; (repeat (exact .here _ _ _)); (iterate 2 exact rfl)) | (first | apply H.seq | apply H.region | apply H.nil | apply H.then_normal) | ((apply H.cmp); (iterate 5 exact rfl)) | ((apply H.pickF); (iterate 4 exact rfl)) | (apply H.skip) | (apply H.cond_no; exact rfl; (omega)))
    refine H.index0 (i := k.toNat) rfl rfl rfl (by omega) (by omega) rfl ?_
    refine H.loadN (ls := x.vals) rfl rfl rfl (Rd.slcElem Pkt.len (by decide) (.there _ (.here _ _ _)) hx) rfl rfl ?_
    refine H.alloc (ls := Pkt.zero.vals) rfl rfl rfl fun xb => ?_
    refine H.storeN (ls := Pkt.zero.vals) (vs := x.vals) (ls' := x.vals) rfl rfl rfl (allOne_mem rfl) rfl rfl (Nat.le_refl 14) (by repeat (first | exact .here _ _ _ | apply At.there)) ?_
    repeat (first | ((first | apply H.move | apply H.assign | apply H.nilCheck); (iterate 3 exact rfl)) | (apply H.fieldAddr; (iterate 3 exact rfl); exact inferInstance; exact rfl) | (apply H.load1; (iterate 3 exact rfl); apply Rd1.ofRow; (repeat (first | exact .here _ _ _ | apply At.there)); (iterate 2 exact rfl)) | (first | apply H.seq | apply H.region | apply H.nil | apply H.then_normal))
    refine H.sliceTo (hv := k.toNat) rfl rfl rfl (by omega) (Nat.le_trans (by omega) hcap) rfl ?_
    refine H.slc0 34 14 ?_
    refine H.append (m := k.toNat) (xs := []) rfl rfl rfl rfl rfl (fun p' c' => .here _ _ _) (Src.slcTake (.there _ (.there _ (.there _ (.here _ _ _)))) (by omega) hpl) (by rw [flat_take Pkt.len]; exact Pkts_one _) rfl (by omega) (by omega) fun p1 c1 => ?_
    rw [Nat.zero_add, List.nil_append]
    repeat (first | ((first | apply H.move | apply H.assign | apply H.nilCheck); (iterate 3 exact rfl)) | (apply H.fieldAddr; (iterate 3 exact rfl); exact inferInstance; exact rfl) | (apply H.load1; (iterate 3 exact rfl); apply Rd1.ofRow; (repeat (first | exact .here _ _ _ | apply At.there)); (iterate 2 exact rfl)) | (first | apply H.seq | apply H.region | apply H.nil | apply H.then_normal) | ((apply H.ar; (iterate 4 exact rfl)); (with_reducible apply wr_i64; omega); exact rfl))
    refine H.slice (lo := some (.tmp 42)) (hi := none) (mx := none) (lv := k.toNat + 1) (hv := N.row.length) (mv := pc) rfl rfl ⟨_, _, rfl, by omega⟩ rfl rfl (fun h => by cases h) (by omega) hcap (Nat.le_refl _) rfl ?_
    refine H.append (m := N.row.length - (k.toNat + 1)) (xs := (N.row.flatMap Pkt.vals).take (k.toNat * 14)) rfl rfl rfl rfl rfl (fun p' c' => .here _ _ _) (Src.slcDrop (.there _ (.there _ (.there _ (.here _ _ _)))) (by omega) hpl) (by rw [flat_drop Pkt.len _ (by omega)]; exact Pkts_one _) rfl (by omega) (by omega) fun p3 c3 => ?_
    repeat (first | ((apply H.nilCheck); (iterate 3 exact rfl)) | (apply H.fieldAddr; (iterate 3 exact rfl); exact inferInstance; exact rfl) | (first | apply H.seq | apply H.region | apply H.nil | apply H.then_normal) | (apply H.store1; (iterate 4 exact rfl); (repeat (first | exact .here _ _ _ | apply At.there))))
    have e1 : (N.row.take k.toNat ++ N.row.drop (k.toNat + 1)).length = k.toNat + (N.row.length - (k.toNat + 1)) := by rw [List.length_append, hl1, hl2]
    have e2 : (N.row.take k.toNat ++ N.row.drop (k.toNat + 1)).flatMap Pkt.vals = (N.row.flatMap Pkt.vals).take (k.toNat * 14) ++ (N.row.flatMap Pkt.vals).drop ((k.toNat + 1) * 14) := by
      rw [flat_take Pkt.len, flat_drop Pkt.len _ (by omega), List.flatMap_append]
    refine H.loadN (ls := x.vals) rfl rfl rfl (Rd.ofRow (by repeat (first | exact .here _ _ _ | apply At.there))) rfl rfl ?_
    refine H.storeN (ls := Pkt.zero.vals) (vs := x.vals) (ls' := x.vals) rfl rfl rfl (allOne_mem rfl) rfl rfl (Nat.le_refl 14) (by repeat (first | exact .here _ _ _ | apply At.there)) ?_
    repeat (first | ((apply H.assign); (iterate 3 exact rfl)) | (first | apply H.nil | apply H.then_normal) | (apply H.ret))
    refine H.drop (x := row xb _ _) (by repeat (first | exact .here _ _ | apply Pull.there)) ?_
    refine H.drop (x := psl (some ⟨sb, 0, none⟩) pc N.row) (by repeat (first | exact .here _ _ | apply Pull.there)) ?_
    refine H.front (x := slc p3 _ _ _ _ _) (by repeat (first | exact .here _ _ | apply Pull.there)) ?_
    refine H.front (x := row nb _ _) (by repeat (first | exact .here _ _ | apply Pull.there)) ?_
    refine H.front (x := row ob _ _) (by repeat (first | exact .here _ _ | apply Pull.there)) ?_
    have hi' : (∀ p ∈ (⟨N.row.take k.toNat ++ N.row.drop (k.toNat + 1), N.lost⟩ : NetM).row, p.Good h) ∧ (⟨N.row.take k.toNat ++ N.row.drop (k.toNat + 1), N.lost⟩ : NetM).row.length ≤ 256 := by
      refine ⟨fun p hp => hi.1 p ?_, ?_⟩
      · rcases List.mem_append.1 hp with hp | hp
        · exact List.mem_of_mem_take hp
        · exact List.mem_of_mem_drop hp
      · show (N.row.take k.toNat ++ N.row.drop (k.toNat + 1)).length ≤ 256
        rw [e1]; omega
    have hfold := refH_fold (nb := nb) (F := F) (p3, c3) hi'
    unfold psl at hfold
    rw [e1, e2] at hfold
    refine H.retCT (ls := x.vals) rfl rfl rfl rfl (Rd.ofRow (.here _ _ _)) rfl (fun _ s => (s.drop (.here _ _)).imp hfold) ⟨x, ⟨N.row.take k.toNat ++ N.row.drop (k.toNat + 1), N.lost⟩, ?_, ?_, hxg, htook.symm, rfl, rfl⟩
    · rw [hgot]; rfl
    · rw [hgot]; rfl
  · have hgot : N.core.got k = none := by
      unfold NetC.got
      by_cases h0 : 0 ≤ k
      · rw [if_pos h0]
        exact List.getElem?_eq_none (by rw [NetM.core_len]; omega)
      · rw [if_neg h0]
    have htook : N.core.took k = N.core := by
      unfold NetC.took
      by_cases h0 : 0 ≤ k
      · rw [if_pos h0, List.eraseIdx_of_length_le (by rw [NetM.core_len]; omega)]
      · rw [if_neg h0]
    by_cases h0 : 0 ≤ k
    · refine Fn.enter Try.func20 rfl Try.ntmps20 rfl (L := [(0, _), (1, _)]) ⟨rfl, rfl, trivial⟩ fun base => ?_
      repeat ((first | apply H.seq | apply H.region))
      refine H.alloc (ls := Pkt.zero.vals) rfl rfl rfl fun ob => ?_
      repeat (first | ((first | apply H.move | apply H.assign | apply H.nilCheck); (iterate 3 exact rfl)) | (apply H.fieldAddr; (iterate 3 exact rfl); exact inferInstance; exact rfl) | (first | apply H.seq | apply H.region | apply H.nil | apply H.then_normal) | ((apply H.cmp); (iterate 5 exact rfl)) | (apply H.gno; (iterate 3 exact rfl); (omega)))
      refine H.front (x := refH h nb N) (by repeat (first | exact .here _ _ | apply Pull.there)) ?_
      refine H.unpack fun i hi => ?_
      repeat (first | ((apply H.len_slice); (iterate 3 exact rfl)) | (apply H.load1; (iterate 3 exact rfl); apply Rd1.ofRow; (repeat (exact .here _ _ _)); (iterate 2 exact rfl)) | (first | apply H.seq | apply H.region | apply H.nil | apply H.then_normal) | ((first | apply H.cmp | apply H.build); (iterate 5 exact rfl)) | ((apply H.pickF); (iterate 4 exact rfl)) | (apply H.cond_yes; exact rfl; (omega)))
      refine H.storeN (ls := Pkt.zero.vals) (vs := Pkt.zero.vals) (ls' := Pkt.zero.vals) rfl rfl rfl (allOne_mem rfl) rfl rfl (Nat.le_refl 14) (by repeat (first | exact .here _ _ _ | apply At.there)) ?_
      repeat (first | ((apply H.assign); (iterate 3 exact rfl)) | (first | apply H.nil | apply H.then_normal) | (first | apply H.ret | apply H.then_ret))
      refine H.front (x := row ob _ _) (by repeat (first | exact .here _ _ | apply Pull.there)) ?_
      refine H.retCT (ls := Pkt.zero.vals) rfl rfl rfl rfl (Rd.ofRow (.here _ _ _)) rfl (fun _ s => (s.drop (.here _ _)).imp (refH_fold i hi)) ⟨Pkt.zero, N, ?_, ?_, Pkt.zero_good h, htook.symm, rfl, rfl⟩
      · rw [hgot]; rfl
      · rw [hgot]; rfl
    · refine Fn.enter Try.func20 rfl Try.ntmps20 rfl (L := [(0, _), (1, _)]) ⟨rfl, rfl, trivial⟩ fun base => ?_
      repeat ((first | apply H.seq | apply H.region))
      refine H.alloc (ls := Pkt.zero.vals) rfl rfl rfl fun ob => ?_
      repeat (first | ((first | apply H.move | apply H.assign | apply H.nilCheck | apply H.len_slice); (iterate 3 exact rfl)) | (first | apply H.seq | apply H.region | apply H.nil | apply H.then_normal) | ((first | apply H.cmp | apply H.build); (iterate 5 exact rfl)) | (apply H.pass; (iterate 2 exact rfl)) | (apply H.pickT; (iterate 4 exact rfl)) | (apply H.cond_true; exact rfl) | (apply H.gyes; (iterate 3 exact rfl); (omega)))
      refine H.storeN (ls := Pkt.zero.vals) (vs := Pkt.zero.vals) (ls' := Pkt.zero.vals) rfl rfl rfl (allOne_mem rfl) rfl rfl (Nat.le_refl 14) (by repeat (first | exact .here _ _ _ | apply At.there)) ?_
      repeat (first | ((apply H.assign); (iterate 3 exact rfl)) | (first | apply H.nil | apply H.then_normal) | (first | apply H.ret | apply H.then_ret))
      refine H.front (x := row ob _ _) (by repeat (first | exact .here _ _ | apply Pull.there)) ?_
      refine H.retCT (ls := Pkt.zero.vals) rfl rfl rfl rfl (Rd.ofRow (.here _ _ _)) rfl (fun _ s => (s.drop (.here _ _))) ⟨Pkt.zero, N, ?_, ?_, Pkt.zero_good h, htook.symm, rfl, rfl⟩
      · rw [hgot]; rfl
      · rw [hgot]; rfl
theorem rnetTwice_fn (k : Int) : Fn Try.prog 22 [.pointer (some ⟨nb, 0, none⟩), .int .i64 k] f (refH h nb N :: F) (RefR f h nb F (N.core.twice k)) := by
  unfold NetC.twice
  by_cases hk : 0 ≤ k ∧ k < N.row.length
  · obtain ⟨hk0, hk1⟩ := hk
    obtain ⟨x, hx⟩ : ∃ x, N.row[k.toNat]? = some x := ⟨N.row[k.toNat]'(by omega), List.getElem?_eq_getElem (by omega)⟩
    rw [if_pos hk0, NetM.core_get, hx]
    show Fn _ _ _ _ _ (RefR f h nb F (N.core.push x.core))
    unfold NetC.push
    rw [NetM.core_len]
    refine Fn.unpack fun i hi => ?_
    have hxg : x.Good h := hi.1 x (List.mem_of_getElem? hx)
    have hlen := hi.2
    obtain ⟨pp, pc⟩ := i
    by_cases hf : 256 ≤ N.row.length
    · rw [if_pos hf]
      refine Fn.enter Try.func22 rfl Try.ntmps22 rfl (L := [(0, _), (1, _)]) ⟨rfl, rfl, trivial⟩ fun base => ?_
      repeat (first | ((first | apply H.move | apply H.assign | apply H.nilCheck | apply H.len_slice); (iterate 3 exact rfl)) | (apply H.fieldAddr; (iterate 3 exact rfl); exact inferInstance; exact rfl) | (apply H.load1; (iterate 3 exact rfl); apply Rd1.ofRow; (repeat (exact .here _ _ _)); (iterate 2 exact rfl)) | (first | apply H.seq | apply H.region | apply H.nil | apply H.then_normal) | ((apply H.cmp); (iterate 5 exact rfl)) | ((apply H.pickF); (iterate 4 exact rfl)) | (first | apply H.skip | apply H.ret | apply H.then_ret) | (apply H.gno; (iterate 3 exact rfl); (omega)) | (apply H.cond_yes; exact rfl; (omega)) | (apply H.cond_no; exact rfl; (omega)))
      exact H.ret1 rfl rfl (refH_fold _ hi) ⟨N, rfl, rfl, rfl, rfl⟩
    · rw [if_neg hf]
      refine Fn.enter Try.func22 rfl Try.ntmps22 rfl (L := [(0, _), (1, _)]) ⟨rfl, rfl, trivial⟩ fun base => ?_
      refine H.slc_some (.there _ (.here _ _ _)) (by omega) fun sb hb => ?_
      have hb : pp = _ := hb
      subst hb
      repeat (first | ((first | apply H.move | apply H.assign | apply H.nilCheck | apply H.len_slice); (iterate 3 exact rfl)) | (apply H.fieldAddr; (iterate 3 exact rfl); exact inferInstance; exact rfl) | (apply H.load1; (iterate 3 exact rfl); apply Rd1.ofRow; (repeat (exact .here _ _ _)); (iterate 2 exact rfl)) | (first | apply H.seq | apply H.region | apply H.nil | apply H.then_normal) | ((apply H.cmp); (iterate 5 exact rfl)) | ((apply H.pickF); (iterate 4 exact rfl)) | (apply H.skip) | (apply H.gno; (iterate 3 exact rfl); (omega)) | (apply H.cond_no; exact rfl; (omega)))
      refine H.drawN (by kernel_rfl) (by decide +kernel) (by first | exact blind_fn | exact blind_seq blind_fn | exact blind_seq (blind_seq blind_fn) | (repeat (first | exact blind_fn | refine blind_seq ?_ | refine blind_block ?_ | refine blind_loop ?_))) ?_
      refine HN.move (i := 0) (by kernel_rfl) rfl rfl rfl rfl ?_
      refine HN.phase [1, 2, 3, 4, 5, 6, 7, 8, 9, 10, 11, 12] (S := [_, _]) rfl ?_
      refine HB.quiet [(1, false), (2, false), (3, false), (4, false), (5, false), (6, false), (7, false), (8, false), (9, false), (10, false), (11, false)] 5 (by kernel_rfl) ?_
      repeat (first | ((first | apply HQ.move | apply HQ.nilCheck); (iterate 3 exact rfl)) | (apply HQ.fieldAddr; (iterate 3 exact rfl); exact inferInstance; exact rfl) | (apply HQ.load1; (iterate 3 exact rfl); apply Rd1.ofRow; (repeat (exact .here _ _ _)); (iterate 2 exact rfl)))
      refine HQ.index0 (i := k.toNat) rfl rfl rfl (by omega) (by omega) rfl ?_
      refine HQ.loadN (ls := x.vals) rfl rfl rfl (Rd.slcElem Pkt.len (by decide) (.there _ (.here _ _ _)) hx) rfl rfl ?_
      refine HQ.more rfl ?_
      refine HB.ev1 (i := 12) (by kernel_rfl) rfl ?_
      refine H.buildSlice (out := x.vals) rfl rfl rfl rfl (by decide) (by decide) rfl rfl fun tb => ?_
      repeat ((apply H.nil))
      refine H.front (x := psl _ _ _) (by repeat (first | exact .here _ _ | apply Pull.there)) ?_
      refine H.front (x := row nb _ _) (by repeat (first | exact .here _ _ | apply Pull.there)) ?_
      refine H.on0 rfl ?_
      refine HB.next [] (by kernel_rfl) (S' := []) rfl ?_
      refine HB.ev1 (i := 13) (by kernel_rfl) rfl ?_
      refine H.append (m := 1) (xs := N.row.flatMap Pkt.vals) (news := x.vals) rfl rfl rfl rfl rfl (fun p' c' => (by repeat (first | exact .here _ _ _ | apply At.there))) (Src.slice (Rd.ofRow (.there _ (.there _ (.here _ _ _)))) rfl) (allOne_mem rfl) rfl (by omega) (by omega) fun p3 c3 => ?_
      repeat ((apply H.nil))
      refine H.on0 rfl ?_
      refine HB.quiet [(14, false), (15, false)] 1 (by kernel_rfl) ?_
      repeat (first | ((apply HQ.nilCheck); (iterate 3 exact rfl)) | (apply HQ.fieldAddr; (iterate 3 exact rfl); exact inferInstance; exact rfl))
      refine HQ.more rfl ?_
      refine HB.ev1 (i := 16) (by kernel_rfl) rfl ?_
      repeat (first | (apply H.nil) | (apply H.store1; (iterate 4 exact rfl); (repeat (exact .here _ _ _))))
      refine H.on0 rfl ?_
      refine HB.done (by kernel_rfl) ?_
      repeat (first | ((apply H.assign); (iterate 3 exact rfl)) | (first | apply H.seq | apply H.region | apply H.nil | apply H.then_normal) | (apply H.ret))
      refine H.drop (x := row tb _ _) (by repeat (first | exact .here _ _ | apply Pull.there)) ?_
      have e1 : (N.row ++ [x]).length = N.row.length + 1 := by rw [List.length_append]; rfl
      have e2 : (N.row ++ [x]).flatMap Pkt.vals = N.row.flatMap Pkt.vals ++ x.vals := by simp
      have hfold := refH_fold (h := h) (nb := nb) (N := ⟨N.row ++ [x], N.lost⟩) (F := F) (p3, c3) ⟨fun y hy => ?_, by show (N.row ++ [x]).length ≤ 256; rw [e1]; omega⟩
      · unfold psl at hfold
        rw [e1, e2] at hfold
        refine H.ret1 rfl rfl hfold ⟨⟨N.row ++ [x], N.lost⟩, rfl, ?_, rfl, rfl⟩
        simp [NetM.core]
      · rcases List.mem_append.1 hy with hy | hy
        · exact hi.1 y hy
        · rw [List.mem_singleton] at hy
          subst hy
          exact hxg
  · have hnone : (if 0 ≤ k then N.core.row[k.toNat]? else none) = none := by
      by_cases h0 : 0 ≤ k
      · rw [if_pos h0]
        exact List.getElem?_eq_none (by rw [NetM.core_len]; omega)
      · rw [if_neg h0]
    rw [hnone]
    by_cases h0 : 0 ≤ k
    · refine Fn.unpack fun i hi => ?_
      refine Fn.enter Try.func22 rfl Try.ntmps22 rfl (L := [(0, _), (1, _)]) ⟨rfl, rfl, trivial⟩ fun base => ?_
      repeat (first | ((first | apply H.move | apply H.assign | apply H.nilCheck | apply H.len_slice); (iterate 3 exact rfl)) | (apply H.fieldAddr; (iterate 3 exact rfl); exact inferInstance; exact rfl) | (apply H.load1; (iterate 3 exact rfl); apply Rd1.ofRow; (repeat (exact .here _ _ _)); (iterate 2 exact rfl)) | (first | apply H.seq | apply H.region | apply H.nil | apply H.then_normal) | ((apply H.cmp); (iterate 5 exact rfl)) | ((apply H.pickF); (iterate 4 exact rfl)) | (first | apply H.ret | apply H.then_ret) | (apply H.gno; (iterate 3 exact rfl); (omega)) | (apply H.cond_yes; exact rfl; (omega)))
      exact H.ret1 rfl rfl (refH_fold i hi) ⟨N, rfl, rfl, rfl, rfl⟩
    · refine Fn.enter Try.func22 rfl Try.ntmps22 rfl (L := [(0, _), (1, _)]) ⟨rfl, rfl, trivial⟩ fun base => ?_
      repeat (first | ((first | apply H.move | apply H.assign | apply H.nilCheck | apply H.len_slice); (iterate 3 exact rfl)) | (first | apply H.seq | apply H.region | apply H.nil | apply H.then_normal) | ((apply H.cmp); (iterate 5 exact rfl)) | (apply H.pass; (iterate 2 exact rfl)) | (apply H.pickT; (iterate 4 exact rfl)) | (apply H.cond_true; exact rfl) | (first | apply H.ret | apply H.then_ret) | (apply H.gyes; (iterate 3 exact rfl); (omega)))
      exact H.ret1 rfl rfl (fun _ h => h) ⟨N, rfl, rfl, rfl, rfl⟩
theorem rnetCut_fn (i j : Int) : Fn Try.prog 23 [.pointer (some ⟨nb, 0, none⟩), .int .i64 i, .int .i64 j] f (refH h nb N :: F) (RefR f h nb F (N.core.rcut i j)) := by
  unfold NetC.rcut
  by_cases hp : pairP i j
  · rw [if_pos hp]
    have hpp := hp
    obtain ⟨a1, a2, a3, a4, _⟩ := hpp
    have hn : (!true) = false := rfl
    refine Fn.enter Try.func23 rfl Try.ntmps23 rfl (L := [(0, _), (1, _), (2, _)]) ⟨rfl, rfl, rfl, trivial⟩ fun base => ?_
    repeat (first | ((first | apply H.move | apply H.assign); (iterate 3 exact rfl)) | (first | apply H.seq | apply H.region | apply H.nil | apply H.then_normal))
    refine H.callR rfl rfl rfl (two_fn f _ i j) ?_
    rw [decide_eq_true hp]
    repeat (first | ((first | apply H.move | apply H.nilCheck); (iterate 3 exact rfl)) | (apply H.fieldAddr; (iterate 3 exact rfl); exact inferInstance; exact rfl) | (first | apply H.seq | apply H.region | apply H.nil | apply H.then_normal) | ((apply H.ar; (iterate 4 exact rfl)); (with_reducible apply wr_i64; omega); exact rfl) | ((apply H.not); (iterate 4 exact rfl)) | (apply H.cond_false; exact rfl) | (apply H.skip))
    refine H.unpack fun ii hi => ?_
    skip
    refine H.index_array (i := i.toNat - 1) (sz := 11) rfl rfl rfl (by omega) (by omega) rfl ?_
    refine H.index_array (i := j.toNat - 1) (sz := 1) rfl rfl rfl (by omega) (by omega) rfl ?_
    refine H.store1 rfl rfl rfl rfl (.here _ _ _) (rlost_set _ _ _ (by omega) (by omega)) ?_
    repeat (first | ((first | apply H.move | apply H.nilCheck); (iterate 3 exact rfl)) | (apply H.fieldAddr; (iterate 3 exact rfl); exact inferInstance; exact rfl) | (first | apply H.seq | apply H.region | apply H.nil | apply H.then_normal) | ((apply H.ar; (iterate 4 exact rfl)); (with_reducible apply wr_i64; omega); exact rfl))
    refine H.index_array (i := j.toNat - 1) (sz := 11) rfl rfl rfl (by omega) (by omega) rfl ?_
    refine H.index_array (i := i.toNat - 1) (sz := 1) rfl rfl rfl (by omega) (by omega) rfl ?_
    refine H.store1 rfl rfl rfl rfl (.here _ _ _) (rlost_set _ _ _ (by omega) (by omega)) ?_
    repeat (first | ((apply H.assign); (iterate 3 exact rfl)) | (first | apply H.seq | apply H.region | apply H.nil | apply H.then_normal) | (apply H.ret))
    exact H.ret1 rfl rfl (refH_fold (N := ⟨N.row, updB (updB N.lost ((i.toNat - 1) * 11 + (j.toNat - 1)) true) ((j.toNat - 1) * 11 + (i.toNat - 1)) true⟩) ii hi) ⟨⟨N.row, _⟩, rfl, rfl, rfl, rfl⟩
  · rw [if_neg hp]
    have hn : (!false) = true := rfl
    refine Fn.enter Try.func23 rfl Try.ntmps23 rfl (L := [(0, _), (1, _), (2, _)]) ⟨rfl, rfl, rfl, trivial⟩ fun base => ?_
    repeat (first | ((first | apply H.move | apply H.assign); (iterate 3 exact rfl)) | (first | apply H.seq | apply H.region | apply H.nil | apply H.then_normal))
    refine H.callR rfl rfl rfl (two_fn f _ i j) ?_
    rw [decide_eq_false hp]
    repeat (first | ((apply H.assign); (iterate 3 exact rfl)) | (first | apply H.seq | apply H.region | apply H.nil | apply H.then_normal) | ((apply H.not); (iterate 4 exact rfl)) | (apply H.cond_true; exact rfl) | (first | apply H.ret | apply H.then_ret))
    exact H.ret1 rfl rfl (fun _ h => h) ⟨N, rfl, rfl, rfl, rfl⟩
end
end Go.Proofs.Ytcaofnfemogleaa

/- Layers 8, 12, 22, 24: the document's Same. -/
namespace Go.Proofs.Ytcaofnfemogleaa
set_option linter.unusedSectionVars false
set_option linter.unusedSimpArgs false
set_option linter.unusedVariables false
open Go
/-- The same messages? -/
def Msg.eqB (a b : Msg) : Bool := decide (a.origin = b.origin) && (decide (a.number = b.number) && (eqC (v11 a.deps) (v11 b.deps) && (Bod.eqB a.body b.body && eqC (b32 a.tag) (b32 b.tag))))
def msEqB : List Msg → List Msg → Bool
  | [], [] => true
  | a :: l, b :: m => Msg.eqB a b && msEqB l m
  | _, _ => false
theorem msEqB_len : ∀ {l m : List Msg}, l.length ≠ m.length → msEqB l m = false
  | [], [], h => absurd rfl h
  | [], _ :: _, _ => rfl
  | _ :: _, [], _ => rfl
  | a :: l, b :: m, h => by
    unfold msEqB
    rw [msEqB_len (l := l) (m := m) (by simpa using h), Bool.and_false]
def Core.eqB (p q : Core) : Bool := decide (p.src = q.src) && (decide (p.dst = q.dst) && (eqC (v11 p.known) (v11 q.known) && msEqB p.msgs q.msgs))
theorem eqv_refl (v : Value) (h : (match v with | .bool _ | .int _ _ | .string _ => true | _ => false) = true) : eqv v v = true := by
  cases v <;> simp at h <;> simp [eqv]
  rename_i s
  rw [beq_toListBytes]
  simp
def plainC : List Value → Bool
  | [] => true
  | v :: r => (match v with | .bool _ | .int _ _ | .string _ => true | _ => false) && plainC r
theorem eqC_refl : ∀ {l : List Value}, plainC l = true → eqC l l = true
  | [], _ => rfl
  | v :: r, h => by
    simp only [plainC, Bool.and_eq_true] at h
    simp only [eqC, eqv_refl v h.1, eqC_refl h.2, Bool.and_true]
theorem Bod.eqB_refl (x : Bod) : Bod.eqB x x = true := by
  unfold Bod.eqB
  rw [eqC_refl (l := x.req.vals) rfl, eqC_refl (l := b32 x.dig) rfl]
  simp
theorem Msg.eqB_refl (m : Msg) : Msg.eqB m m = true := by
  unfold Msg.eqB
  rw [eqC_refl (l := v11 m.deps) rfl, eqC_refl (l := b32 m.tag) rfl, Bod.eqB_refl]
  simp
theorem msEqB_refl : ∀ l : List Msg, msEqB l l = true
  | [] => rfl
  | a :: l => by simp only [msEqB, Msg.eqB_refl, msEqB_refl l, Bool.and_true]
theorem Core.eqB_refl (p : Core) : Core.eqB p p = true := by
  unfold Core.eqB
  rw [eqC_refl (l := v11 p.known) rfl, msEqB_refl]
  simp
theorem msg_tag {f : Frag} {A A' : List HP} {mb : Nat} {T : TypeId} {m : Msg} {q : Option Addr} {qc : Nat} (h : At A (row mb T (m.vals q qc)) A' (row mb T (m.vals q qc))) : Rd f A mb (0 + 89) (b32 m.tag) := by
  have h1 := Rd.ofRow (f := f) h
  have e : m.vals q qc = ([.int .i64 m.origin, .int .u64 m.number] ++ v11 m.deps ++ m.body.vals q qc) ++ b32 m.tag ++ [] := (List.append_nil _).symm
  rw [e] at h1
  exact h1.sub rfl
theorem pkt_known {f : Frag} {A A' : List HP} {pb : Nat} {T : TypeId} {p : Pkt} (h : At A (row pb T p.vals) A' (row pb T p.vals)) : Rd f A pb (0 + 2) (v11 p.known) := by
  have h1 := Rd.ofRow (f := f) h
  have e : p.vals = [.int .i64 p.src, .int .i64 p.dst] ++ v11 p.known ++ [.slice p.mp p.msgs.length p.mc] := rfl
  rw [e] at h1
  exact h1.sub rfl
section
variable (f : Frag) (F : List HP)
theorem rsameM_fn {x y : MV} (hx : x.Good f) (hy : y.Good f) : Fn Try.prog 44 [.agg x.vals.toArray, .agg y.vals.toArray] f F (Ret (.bool (Msg.eqB x.m y.m)) f F) := by
  by_cases h1 : x.m.origin = y.m.origin
  · skip
    by_cases h2 : x.m.number = y.m.number
    · skip
      by_cases h3 : eqC (v11 x.m.deps) (v11 y.m.deps) = true
      · skip
        by_cases h4 : Bod.eqB x.m.body y.m.body = true
        · skip
          try simp only [Bool.not_eq_true] at *
          refine Fn.enter Try.func44 rfl Try.ntmps44 rfl (L := [(0, _), (1, _)]) ⟨rfl, rfl, trivial⟩ fun base => ?_
          repeat (first | ((first | apply H.move | apply H.assign); (iterate 3 exact rfl)) | (apply H.fieldAddr; (iterate 3 exact rfl); exact inferInstance; exact rfl) | (apply H.load1; (iterate 3 exact rfl); apply Rd1.ofRow; (repeat (first | exact .here _ _ _ | apply At.there)); (iterate 2 exact rfl)) | (first | apply H.seq | apply H.region | apply H.nil | apply H.then_normal) | ((apply H.cmp); (iterate 5 exact rfl)) | (apply H.pickT; (iterate 4 exact rfl)) | (apply H.ret) | (apply H.gyes; (iterate 3 exact rfl); (assumption)) | ((apply H.gtrue); (iterate 3 exact rfl); assumption) | (refine H.box (ls := x.vals) rfl rfl rfl rfl fun ab => ?_) | (refine H.box (ls := y.vals) rfl rfl rfl rfl fun bb => ?_) | (refine H.loadN (ls := v11 x.m.deps) rfl rfl rfl (msg_deps (by repeat (first | exact .here _ _ _ | apply At.there))) rfl rfl ?_) | (refine H.loadN (ls := v11 y.m.deps) rfl rfl rfl (msg_deps (by repeat (first | exact .here _ _ _ | apply At.there))) rfl rfl ?_) | (refine H.aggEq (xs := v11 x.m.deps) (ys := v11 y.m.deps) (D := 4) rfl rfl rfl rfl (by kernel_rfl) (by kernel_rfl) (by kernel_rfl) (by kernel_rfl) (by decide) rfl rfl ?_) | (refine H.loadN (ls := x.m.body.vals x.qp x.qc) rfl rfl rfl (msg_body (by repeat (first | exact .here _ _ _ | apply At.there))) rfl rfl ?_) | (refine H.loadN (ls := y.m.body.vals y.qp y.qc) rfl rfl rfl (msg_body (by repeat (first | exact .here _ _ _ | apply At.there))) rfl rfl ?_) | (refine H.callR rfl rfl rfl (rsame_fn f _ hx.1 hy.1 (by have := hx.2.1; omega)) ?_) | (refine H.loadN (ls := b32 x.m.tag) rfl rfl rfl (msg_tag (by repeat (first | exact .here _ _ _ | apply At.there))) rfl rfl ?_) | (refine H.loadN (ls := b32 y.m.tag) rfl rfl rfl (msg_tag (by repeat (first | exact .here _ _ _ | apply At.there))) rfl rfl ?_) | (refine H.aggEq (xs := b32 x.m.tag) (ys := b32 y.m.tag) (D := 4) rfl rfl rfl rfl (by kernel_rfl) (by kernel_rfl) (by kernel_rfl) (by kernel_rfl) (by decide) rfl rfl ?_))
          refine H.drop (.here _ _) ?_
          refine H.drop (.here _ _) ?_
          refine H.ret1 rfl rfl (fun _ h => h) ⟨?_, rfl, rfl⟩
          simp [Msg.eqB, *]
        · skip
          try simp only [Bool.not_eq_true] at *
          refine Fn.enter Try.func44 rfl Try.ntmps44 rfl (L := [(0, _), (1, _)]) ⟨rfl, rfl, trivial⟩ fun base => ?_
          repeat (first | ((first | apply H.move | apply H.assign); (iterate 3 exact rfl)) | (apply H.fieldAddr; (iterate 3 exact rfl); exact inferInstance; exact rfl) | (apply H.load1; (iterate 3 exact rfl); apply Rd1.ofRow; (repeat (first | exact .here _ _ _ | apply At.there)); (iterate 2 exact rfl)) | (first | apply H.seq | apply H.region | apply H.nil | apply H.then_normal) | ((apply H.cmp); (iterate 5 exact rfl)) | (apply H.pass; (iterate 2 exact rfl)) | (apply H.pickT; (iterate 4 exact rfl)) | ((apply H.pickF); (iterate 4 exact rfl)) | (apply H.ret) | (apply H.gyes; (iterate 3 exact rfl); (assumption)) | ((apply H.gtrue); (iterate 3 exact rfl); assumption) | (apply H.gfalse; (iterate 3 exact rfl); assumption) | (refine H.box (ls := x.vals) rfl rfl rfl rfl fun ab => ?_) | (refine H.box (ls := y.vals) rfl rfl rfl rfl fun bb => ?_) | (refine H.loadN (ls := v11 x.m.deps) rfl rfl rfl (msg_deps (by repeat (first | exact .here _ _ _ | apply At.there))) rfl rfl ?_) | (refine H.loadN (ls := v11 y.m.deps) rfl rfl rfl (msg_deps (by repeat (first | exact .here _ _ _ | apply At.there))) rfl rfl ?_) | (refine H.aggEq (xs := v11 x.m.deps) (ys := v11 y.m.deps) (D := 4) rfl rfl rfl rfl (by kernel_rfl) (by kernel_rfl) (by kernel_rfl) (by kernel_rfl) (by decide) rfl rfl ?_) | (refine H.loadN (ls := x.m.body.vals x.qp x.qc) rfl rfl rfl (msg_body (by repeat (first | exact .here _ _ _ | apply At.there))) rfl rfl ?_) | (refine H.loadN (ls := y.m.body.vals y.qp y.qc) rfl rfl rfl (msg_body (by repeat (first | exact .here _ _ _ | apply At.there))) rfl rfl ?_) | (refine H.callR rfl rfl rfl (rsame_fn f _ hx.1 hy.1 (by have := hx.2.1; omega)) ?_))
          refine H.drop (.here _ _) ?_
          refine H.drop (.here _ _) ?_
          refine H.ret1 rfl rfl (fun _ h => h) ⟨?_, rfl, rfl⟩
          simp [Msg.eqB, *]
      · skip
        try simp only [Bool.not_eq_true] at *
        refine Fn.enter Try.func44 rfl Try.ntmps44 rfl (L := [(0, _), (1, _)]) ⟨rfl, rfl, trivial⟩ fun base => ?_
        repeat (first | ((first | apply H.move | apply H.assign); (iterate 3 exact rfl)) | (apply H.fieldAddr; (iterate 3 exact rfl); exact inferInstance; exact rfl) | (apply H.load1; (iterate 3 exact rfl); apply Rd1.ofRow; (repeat (first | exact .here _ _ _ | apply At.there)); (iterate 2 exact rfl)) | (first | apply H.seq | apply H.region | apply H.nil | apply H.then_normal) | ((apply H.cmp); (iterate 5 exact rfl)) | (apply H.pass; (iterate 2 exact rfl)) | (apply H.pickT; (iterate 4 exact rfl)) | ((apply H.pickF); (iterate 4 exact rfl)) | (apply H.ret) | (apply H.gyes; (iterate 3 exact rfl); (assumption)) | (apply H.gfalse; (iterate 3 exact rfl); assumption) | (refine H.box (ls := x.vals) rfl rfl rfl rfl fun ab => ?_) | (refine H.box (ls := y.vals) rfl rfl rfl rfl fun bb => ?_) | (refine H.loadN (ls := v11 x.m.deps) rfl rfl rfl (msg_deps (by repeat (first | exact .here _ _ _ | apply At.there))) rfl rfl ?_) | (refine H.loadN (ls := v11 y.m.deps) rfl rfl rfl (msg_deps (by repeat (first | exact .here _ _ _ | apply At.there))) rfl rfl ?_) | (refine H.aggEq (xs := v11 x.m.deps) (ys := v11 y.m.deps) (D := 4) rfl rfl rfl rfl (by kernel_rfl) (by kernel_rfl) (by kernel_rfl) (by kernel_rfl) (by decide) rfl rfl ?_))
        refine H.drop (.here _ _) ?_
        refine H.drop (.here _ _) ?_
        refine H.ret1 rfl rfl (fun _ h => h) ⟨?_, rfl, rfl⟩
        simp [Msg.eqB, *]
    · skip
      try simp only [Bool.not_eq_true] at *
      refine Fn.enter Try.func44 rfl Try.ntmps44 rfl (L := [(0, _), (1, _)]) ⟨rfl, rfl, trivial⟩ fun base => ?_
      repeat (first | ((first | apply H.move | apply H.assign); (iterate 3 exact rfl)) | (apply H.fieldAddr; (iterate 3 exact rfl); exact inferInstance; exact rfl) | (apply H.load1; (iterate 3 exact rfl); apply Rd1.ofRow; (repeat (first | exact .here _ _ _ | apply At.there)); (iterate 2 exact rfl)) | (first | apply H.seq | apply H.region | apply H.nil | apply H.then_normal) | ((apply H.cmp); (iterate 5 exact rfl)) | (apply H.pass; (iterate 2 exact rfl)) | (apply H.pickT; (iterate 4 exact rfl)) | ((apply H.pickF); (iterate 4 exact rfl)) | (apply H.ret) | (apply H.gyes; (iterate 3 exact rfl); (assumption)) | (apply H.gno; (iterate 3 exact rfl); (assumption)) | (refine H.box (ls := x.vals) rfl rfl rfl rfl fun ab => ?_) | (refine H.box (ls := y.vals) rfl rfl rfl rfl fun bb => ?_))
      refine H.drop (.here _ _) ?_
      refine H.drop (.here _ _) ?_
      refine H.ret1 rfl rfl (fun _ h => h) ⟨?_, rfl, rfl⟩
      simp [Msg.eqB, *]
  · skip
    try simp only [Bool.not_eq_true] at *
    refine Fn.enter Try.func44 rfl Try.ntmps44 rfl (L := [(0, _), (1, _)]) ⟨rfl, rfl, trivial⟩ fun base => ?_
    repeat (first | ((first | apply H.move | apply H.assign); (iterate 3 exact rfl)) | (apply H.fieldAddr; (iterate 3 exact rfl); exact inferInstance; exact rfl) | (apply H.load1; (iterate 3 exact rfl); apply Rd1.ofRow; (repeat (first | exact .here _ _ _ | apply At.there)); (iterate 2 exact rfl)) | (first | apply H.seq | apply H.region | apply H.nil | apply H.then_normal) | ((apply H.cmp); (iterate 5 exact rfl)) | (apply H.pass; (iterate 2 exact rfl)) | ((apply H.pickF); (iterate 4 exact rfl)) | (apply H.ret) | (apply H.gno; (iterate 3 exact rfl); (assumption)) | (refine H.box (ls := x.vals) rfl rfl rfl rfl fun ab => ?_) | (refine H.box (ls := y.vals) rfl rfl rfl rfl fun bb => ?_))
    refine H.drop (.here _ _) ?_
    refine H.drop (.here _ _) ?_
    refine H.ret1 rfl rfl (fun _ h => h) ⟨?_, rfl, rfl⟩
    simp [Msg.eqB, *]
theorem rsameL_fn {p r : Option Addr} {c d : Nat} {l m : List MV} (hl : MsAt f p l) (hm : MsAt f r m) :
    Fn Try.prog 36 [.slice p l.length c, .slice r m.length d] f F (Ret (.bool (msEqB (l.map MV.m) (m.map MV.m))) f F) := by
  obtain ⟨hat, hgood, hlb⟩ := hl
  obtain ⟨hat2, hgood2, hlb2⟩ := hm
  by_cases hlen : (l.length : Int) = m.length
  · have hlen' : l.length = m.length := by omega
    refine Fn.enter Try.func36 rfl Try.ntmps36 rfl (L := [(0, _), (1, _)]) ⟨rfl, rfl, trivial⟩ fun base => ?_
    repeat (first | ((first | apply H.move | apply H.assign | apply H.len_slice); (iterate 3 exact rfl)) | (first | apply H.seq | apply H.region | apply H.nil | apply H.then_normal) | ((apply H.cmp); (iterate 5 exact rfl)) | (first | apply H.skip | apply H.block) | (apply H.cond_no; exact rfl; (omega)))
    rw [decide_eq_false (by omega)]
    skip
    refine H.loop (ι := Nat) (fun i => [(5, .int .i64 (i : Int)), (0, .slice p l.length c), (1, .slice r m.length d)]) (fun _ => f) (fun _ => F) (fun i => i ≤ l.length ∧ msEqB (l.map MV.m) (m.map MV.m) = msEqB ((l.drop i).map MV.m) ((m.drop i).map MV.m)) (fun i => l.length - i) 0 ⟨Nat.zero_le _, rfl⟩ ⟨rfl, rfl, rfl, trivial⟩ rfl rfl fun i hi => ?_
    obtain ⟨hi, hall⟩ : i ≤ l.length ∧ msEqB (l.map MV.m) (m.map MV.m) = msEqB ((l.drop i).map MV.m) ((m.drop i).map MV.m) := hi
    by_cases hlt : i < l.length
    · have hx : l[i]? = some l[i] := List.getElem?_eq_getElem hlt
      have hy : m[i]? = some (m[i]'(by omega)) := List.getElem?_eq_getElem (by omega)
      rw [List.drop_eq_getElem_cons hlt, List.drop_eq_getElem_cons (show i < m.length by omega), List.map_cons, List.map_cons] at hall
      generalize l[i] = x at hx hall
      generalize m[i]'(by omega) = y at hy hall
      have hxg : x.Good f := hgood x (List.mem_of_getElem? hx)
      have hyg : y.Good f := hgood2 y (List.mem_of_getElem? hy)
      obtain ⟨b, off, cs, T, fr, rfl, hfb, hcs⟩ := hat i x hx
      obtain ⟨b2, off2, cs2, T2, fr2, rfl, hfb2, hcs2⟩ := hat2 i y hy
      have rd : ∀ A, Rd f A b (off + i * 121) x.vals := fun A => Rd.imm hfb hcs
      have rd2 : ∀ A, Rd f A b2 (off2 + i * 121) y.vals := fun A => Rd.imm hfb2 hcs2
      clear hcs hfb hcs2 hfb2
      repeat (first | ((first | apply H.move | apply H.len_slice); (iterate 3 exact rfl)) | (first | apply H.seq | apply H.region | apply H.nil | apply H.then_normal) | ((apply H.cmp); (iterate 5 exact rfl)) | (first | apply H.skip | apply H.block) | (apply H.cond_yes; exact rfl; (omega)))
      refine H.drawB (by kernel_rfl) (by decide +kernel) (by first | exact blind_fn | exact blind_seq blind_fn | exact blind_seq (blind_seq blind_fn) | (repeat (first | exact blind_fn | refine blind_seq ?_ | refine blind_block ?_ | refine blind_loop ?_))) (S := []) rfl ?_
      refine HB.quiet [(0, false), (1, false), (2, false), (3, false), (4, false), (5, false), (6, false), (7, false)] 2 (by kernel_rfl) ?_
      repeat (((apply HQ.move); (iterate 3 exact rfl)))
      refine HQ.index_slice rfl rfl rfl rfl hlt rfl ?_
      refine HQ.loadN (ls := x.vals) rfl rfl rfl (rd _) rfl rfl ?_
      repeat (((apply HQ.move); (iterate 3 exact rfl)))
      refine HQ.index_slice rfl rfl rfl rfl (by omega) rfl ?_
      refine HQ.loadN (ls := y.vals) rfl rfl rfl (rd2 _) rfl rfl ?_
      refine HQ.more rfl ?_
      refine HB.ev1 (i := 8) (by kernel_rfl) rfl ?_
      refine H.callR rfl rfl rfl (rsameM_fn f _ hxg hyg) ?_
      repeat ((apply H.nil))
      refine H.on0 rfl ?_
      refine HB.quiet [(9, false)] 0 (by kernel_rfl) ?_
      cases he : Msg.eqB x.m y.m with
      | true =>
        have hn : (!true) = false := rfl
        repeat (((apply HQ.not); (iterate 4 exact rfl)))
        refine HQ.more rfl ?_
        refine HB.done (by kernel_rfl) ?_
        repeat (first | ((first | apply H.move | apply H.assign); (iterate 3 exact rfl)) | (first | apply H.region | apply H.nil | apply H.then_normal) | ((apply H.ar; (iterate 4 exact rfl)); (with_reducible apply wr_i64_n1; omega); exact rfl) | (apply H.cond_false; exact rfl) | (first | apply H.skip | apply H.in_normal))
        simp only [msEqB, he, Bool.true_and] at hall
        exact H.again (i + 1) ⟨by show i + 1 ≤ l.length; omega, hall⟩ (by show l.length - (i + 1) < l.length - i; omega) ⟨rfl, rfl, rfl, trivial⟩ rfl rfl
      | false =>
        have hn : (!false) = true := rfl
        repeat (((apply HQ.not); (iterate 4 exact rfl)))
        refine HQ.more rfl ?_
        refine HB.done (by kernel_rfl) ?_
        repeat (first | ((apply H.assign); (iterate 3 exact rfl)) | (first | apply H.seq | apply H.region | apply H.nil | apply H.then_normal) | (apply H.cond_true; exact rfl) | (first | apply H.ret | apply H.then_ret | apply H.in_ret | apply H.loop_ret))
        simp only [msEqB, he, Bool.false_and] at hall
        exact H.ret1 rfl rfl (fun _ h => h) ⟨by rw [hall], rfl, rfl⟩
    · have hil : i = l.length := by omega
      subst hil
      rw [List.drop_length, hlen', List.drop_length] at hall
      repeat (first | ((first | apply H.move | apply H.assign | apply H.len_slice); (iterate 3 exact rfl)) | (first | apply H.seq | apply H.region | apply H.nil | apply H.then_normal) | ((apply H.cmp); (iterate 5 exact rfl)) | (first | apply H.ret | apply H.then_exit | apply H.exit | apply H.in_hit | apply H.loop_exit) | (apply H.cond_no; exact rfl; (omega)))
      exact H.ret1 rfl rfl (fun _ h => h) ⟨by rw [hall]; rfl, rfl, rfl⟩
  · refine Fn.enter Try.func36 rfl Try.ntmps36 rfl (L := [(0, _), (1, _)]) ⟨rfl, rfl, trivial⟩ fun base => ?_
    repeat (first | ((first | apply H.move | apply H.assign | apply H.len_slice); (iterate 3 exact rfl)) | (first | apply H.seq | apply H.region | apply H.nil | apply H.then_normal) | ((apply H.cmp); (iterate 5 exact rfl)) | (first | apply H.ret | apply H.then_ret) | (apply H.cond_yes; exact rfl; (assumption)))
    refine H.ret1 rfl rfl (fun _ h => h) ⟨?_, rfl, rfl⟩
    rw [msEqB_len]
    rw [List.length_map, List.length_map]
    omega
end
end Go.Proofs.Ytcaofnfemogleaa

/- Layers 22, 24: the document's Same of packets. -/
namespace Go.Proofs.Ytcaofnfemogleaa
set_option linter.unusedSectionVars false
set_option linter.unusedSimpArgs false
set_option linter.unusedVariables false
open Go
section
variable (f : Frag) (F : List HP)
set_option maxHeartbeats 800000 in
theorem rsameP_fn {p q : Pkt} (hp : p.Good f) (hq : q.Good f) {ab bb : Nat} :
    Fn Try.prog 29 [.slice (some ⟨ab, 0, none⟩) 1 1, .slice (some ⟨bb, 0, none⟩) 1 1] f (row ab 34 p.vals :: row bb 34 q.vals :: F)
      (Ret (.bool (Core.eqB p.core q.core)) f (row ab 34 p.vals :: row bb 34 q.vals :: F)) := by
  refine Fn.enter Try.func29 rfl Try.ntmps29 rfl (L := [(0, _), (1, _)]) ⟨rfl, rfl, trivial⟩ fun base => ?_
  repeat (first | ((first | apply H.move | apply H.assign | apply H.len_slice); (iterate 3 exact rfl)) | (first | apply H.seq | apply H.region | apply H.nil | apply H.then_normal) | ((apply H.cmp); (iterate 5 exact rfl)) | (apply H.cond_false; exact rfl) | (first | apply H.skip | apply H.block))
  refine H.loop (ι := Nat) (fun i => [(5, .int .i64 (i : Int)), (0, .slice (some ⟨ab, 0, none⟩) 1 1), (1, .slice (some ⟨bb, 0, none⟩) 1 1)]) (fun _ => f) (fun _ => row ab 34 p.vals :: row bb 34 q.vals :: F) (fun i => i ≤ 1 ∧ (i = 1 → Core.eqB p.core q.core = true)) (fun i => 1 - i) 0 ⟨Nat.zero_le _, fun h => by cases h⟩ ⟨rfl, rfl, rfl, trivial⟩ rfl rfl fun i hi => ?_
  obtain ⟨hi, hall⟩ : i ≤ 1 ∧ (i = 1 → Core.eqB p.core q.core = true) := hi
  match i, hi with
  | 0, _ =>
    clear hall
    by_cases h1 : p.src = q.src
    · by_cases h2 : p.dst = q.dst
      · by_cases h3 : eqC (v11 p.known) (v11 q.known) = true
        · have h3' : (!eqC (v11 p.known) (v11 q.known)) = false := by rw [h3]; rfl
          cases h4 : msEqB (p.msgs.map MV.m) (q.msgs.map MV.m) with
          | false =>
            have hn : (!msEqB (p.msgs.map MV.m) (q.msgs.map MV.m)) = true := by rw [h4]; rfl
            try simp only [Bool.not_eq_true] at *
            repeat (first | ((first | apply H.move | apply H.len_slice); (iterate 3 exact rfl)) | (first | apply H.seq | apply H.region | apply H.nil | apply H.then_normal) | ((apply H.cmp); (iterate 5 exact rfl)) | (apply H.cond_true; exact rfl) | (first | apply H.skip | apply H.block))
            refine H.drawB (by kernel_rfl) (by decide +kernel) (by first | exact blind_fn | exact blind_seq blind_fn | exact blind_seq (blind_seq blind_fn) | (repeat (first | exact blind_fn | refine blind_seq ?_ | refine blind_block ?_ | refine blind_loop ?_))) (S := [_, _]) rfl ?_
            refine HB.quiet [(0, false), (1, false), (2, false), (3, false), (4, false), (5, false), (6, false), (7, false), (8, false), (9, false), (10, false), (11, false), (12, false), (13, false), (14, false), (15, false), (16, false), (17, false), (18, false), (19, false), (20, false), (21, false), (22, false), (23, false), (24, false), (25, false), (26, false), (27, false), (28, false), (29, false), (30, false), (31, false), (32, false), (33, false), (34, false), (35, false), (36, false), (37, false), (38, false), (39, false), (40, false), (41, false), (42, false), (43, false), (44, false), (45, false), (46, false), (47, false)] 3 (by kernel_rfl) ?_
            repeat (first | ((apply HQ.move); (iterate 3 exact rfl)) | (apply HQ.fieldAddr; (iterate 3 exact rfl); exact inferInstance; exact rfl) | (apply HQ.load1; (iterate 3 exact rfl); apply Rd1.ofRow; (repeat (first | exact .here _ _ _ | apply At.there)); (iterate 2 exact rfl)) | ((apply HQ.cmp); (iterate 5 exact rfl)) | ((apply HQ.pickF); (iterate 4 exact rfl)) | (apply HQ.gno; (iterate 3 exact rfl); (omega)) | (apply HQ.gfalse; (iterate 3 exact rfl); assumption) | (refine HQ.index_slice rfl rfl rfl rfl (by decide) rfl ?_) | (refine HQ.loadN (ls := v11 p.known) rfl rfl rfl (pkt_known (by repeat (first | exact .here _ _ _ | apply At.there))) rfl rfl ?_) | (refine HQ.loadN (ls := v11 q.known) rfl rfl rfl (pkt_known (by repeat (first | exact .here _ _ _ | apply At.there))) rfl rfl ?_) | (refine HQ.aggNe (xs := v11 p.known) (ys := v11 q.known) (D := 4) rfl rfl rfl rfl (by kernel_rfl) (by kernel_rfl) (by kernel_rfl) (by kernel_rfl) (by decide) rfl rfl ?_))
            refine HQ.more rfl ?_
            refine HB.ev1 (i := 48) (by kernel_rfl) rfl ?_
            repeat (first | (apply H.nil) | (refine H.callR rfl rfl rfl (rsameL_fn f _ hp hq) ?_))
            refine H.on0 rfl ?_
            refine HB.quiet [(49, false), (50, false)] 0 (by kernel_rfl) ?_
            repeat (((first | apply HQ.pickF | apply HQ.not); (iterate 4 exact rfl)))
            refine HQ.more rfl ?_
            refine HB.done (by kernel_rfl) ?_
            repeat (first | ((apply H.assign); (iterate 3 exact rfl)) | (first | apply H.seq | apply H.region | apply H.nil | apply H.then_normal) | (first | apply H.ret | apply H.then_ret | apply H.in_ret | apply H.loop_ret) | (apply H.cond_t; exact rfl; assumption))
            exact H.ret1 rfl rfl (fun _ h => h) ⟨by simp [Core.eqB, Pkt.core, *], rfl, rfl⟩
          | true =>
            have hn : (!msEqB (p.msgs.map MV.m) (q.msgs.map MV.m)) = false := by rw [h4]; rfl
            try simp only [Bool.not_eq_true] at *
            repeat (first | ((first | apply H.move | apply H.len_slice); (iterate 3 exact rfl)) | (first | apply H.seq | apply H.region | apply H.nil | apply H.then_normal) | ((apply H.cmp); (iterate 5 exact rfl)) | (apply H.cond_true; exact rfl) | (first | apply H.skip | apply H.block))
            refine H.drawB (by kernel_rfl) (by decide +kernel) (by first | exact blind_fn | exact blind_seq blind_fn | exact blind_seq (blind_seq blind_fn) | (repeat (first | exact blind_fn | refine blind_seq ?_ | refine blind_block ?_ | refine blind_loop ?_))) (S := [_, _]) rfl ?_
            refine HB.quiet [(0, false), (1, false), (2, false), (3, false), (4, false), (5, false), (6, false), (7, false), (8, false), (9, false), (10, false), (11, false), (12, false), (13, false), (14, false), (15, false), (16, false), (17, false), (18, false), (19, false), (20, false), (21, false), (22, false), (23, false), (24, false), (25, false), (26, false), (27, false), (28, false), (29, false), (30, false), (31, false), (32, false), (33, false), (34, false), (35, false), (36, false), (37, false), (38, false), (39, false), (40, false), (41, false), (42, false), (43, false), (44, false), (45, false), (46, false), (47, false)] 3 (by kernel_rfl) ?_
            repeat (first | ((apply HQ.move); (iterate 3 exact rfl)) | (apply HQ.fieldAddr; (iterate 3 exact rfl); exact inferInstance; exact rfl) | (apply HQ.load1; (iterate 3 exact rfl); apply Rd1.ofRow; (repeat (first | exact .here _ _ _ | apply At.there)); (iterate 2 exact rfl)) | ((apply HQ.cmp); (iterate 5 exact rfl)) | ((apply HQ.pickF); (iterate 4 exact rfl)) | (apply HQ.gno; (iterate 3 exact rfl); (omega)) | (apply HQ.gfalse; (iterate 3 exact rfl); assumption) | (refine HQ.index_slice rfl rfl rfl rfl (by decide) rfl ?_) | (refine HQ.loadN (ls := v11 p.known) rfl rfl rfl (pkt_known (by repeat (first | exact .here _ _ _ | apply At.there))) rfl rfl ?_) | (refine HQ.loadN (ls := v11 q.known) rfl rfl rfl (pkt_known (by repeat (first | exact .here _ _ _ | apply At.there))) rfl rfl ?_) | (refine HQ.aggNe (xs := v11 p.known) (ys := v11 q.known) (D := 4) rfl rfl rfl rfl (by kernel_rfl) (by kernel_rfl) (by kernel_rfl) (by kernel_rfl) (by decide) rfl rfl ?_))
            refine HQ.more rfl ?_
            refine HB.ev1 (i := 48) (by kernel_rfl) rfl ?_
            repeat (first | (apply H.nil) | (refine H.callR rfl rfl rfl (rsameL_fn f _ hp hq) ?_))
            refine H.on0 rfl ?_
            refine HB.quiet [(49, false), (50, false)] 0 (by kernel_rfl) ?_
            repeat (((first | apply HQ.pickF | apply HQ.not); (iterate 4 exact rfl)))
            refine HQ.more rfl ?_
            refine HB.done (by kernel_rfl) ?_
            repeat (first | ((first | apply H.move | apply H.assign); (iterate 3 exact rfl)) | (first | apply H.region | apply H.nil | apply H.then_normal) | ((apply H.ar; (iterate 4 exact rfl)); (with_reducible apply wr_i64_n1; omega); exact rfl) | (first | apply H.skip | apply H.in_normal) | (apply H.cond_f; exact rfl; assumption))
            exact H.again 1 ⟨by decide, fun _ => by simp [Core.eqB, Pkt.core, *]⟩ (by decide) ⟨rfl, rfl, rfl, trivial⟩ rfl rfl
        · have h3' : (!eqC (v11 p.known) (v11 q.known)) = true := by rw [Bool.not_eq_true] at h3; rw [h3]; rfl
          try simp only [Bool.not_eq_true] at *
          repeat (first | ((first | apply H.move | apply H.len_slice); (iterate 3 exact rfl)) | (first | apply H.seq | apply H.region | apply H.nil | apply H.then_normal) | ((apply H.cmp); (iterate 5 exact rfl)) | (apply H.cond_true; exact rfl) | (first | apply H.skip | apply H.block))
          refine H.drawB (by kernel_rfl) (by decide +kernel) (by first | exact blind_fn | exact blind_seq blind_fn | exact blind_seq (blind_seq blind_fn) | (repeat (first | exact blind_fn | refine blind_seq ?_ | refine blind_block ?_ | refine blind_loop ?_))) (S := [_, _]) rfl ?_
          refine HB.quiet [(0, false), (1, false), (2, false), (3, false), (4, false), (5, false), (6, false), (7, false), (8, false), (9, false), (10, false), (11, false), (12, false), (13, false), (14, false), (15, false), (16, false), (17, false), (18, false), (19, false), (20, false), (21, false), (22, false), (23, false), (24, false), (25, false), (26, false), (27, false), (28, false), (29, false), (30, false), (31, false), (32, false), (33, false), (34, false), (35, false), (36, false), (37, false), (38, false), (39, false), (40, false), (41, false), (42, false), (43, false), (44, false), (45, false), (46, false), (47, false)] 3 (by kernel_rfl) ?_
          repeat (first | ((apply HQ.move); (iterate 3 exact rfl)) | (apply HQ.fieldAddr; (iterate 3 exact rfl); exact inferInstance; exact rfl) | (apply HQ.load1; (iterate 3 exact rfl); apply Rd1.ofRow; (repeat (first | exact .here _ _ _ | apply At.there)); (iterate 2 exact rfl)) | ((apply HQ.cmp); (iterate 5 exact rfl)) | (apply HQ.pass; (iterate 2 exact rfl)) | ((apply HQ.pickF); (iterate 4 exact rfl)) | (apply HQ.gno; (iterate 3 exact rfl); (omega)) | (apply HQ.gtrue; (iterate 3 exact rfl); assumption) | (refine HQ.index_slice rfl rfl rfl rfl (by decide) rfl ?_) | (refine HQ.loadN (ls := v11 p.known) rfl rfl rfl (pkt_known (by repeat (first | exact .here _ _ _ | apply At.there))) rfl rfl ?_) | (refine HQ.loadN (ls := v11 q.known) rfl rfl rfl (pkt_known (by repeat (first | exact .here _ _ _ | apply At.there))) rfl rfl ?_) | (refine HQ.aggNe (xs := v11 p.known) (ys := v11 q.known) (D := 4) rfl rfl rfl rfl (by kernel_rfl) (by kernel_rfl) (by kernel_rfl) (by kernel_rfl) (by decide) rfl rfl ?_))
          refine HQ.more rfl ?_
          refine HB.ev1 (i := 48) (by kernel_rfl) rfl ?_
          repeat (first | (apply H.nil) | (apply H.pass; (iterate 2 exact rfl)))
          refine H.on0 rfl ?_
          refine HB.quiet [(49, false), (50, false)] 0 (by kernel_rfl) ?_
          repeat (first | (apply HQ.pass; (iterate 2 exact rfl)) | (apply HQ.pickT; (iterate 4 exact rfl)))
          refine HQ.more rfl ?_
          refine HB.done (by kernel_rfl) ?_
          repeat (first | ((apply H.assign); (iterate 3 exact rfl)) | (first | apply H.seq | apply H.region | apply H.nil | apply H.then_normal) | (apply H.cond_true; exact rfl) | (first | apply H.ret | apply H.then_ret | apply H.in_ret | apply H.loop_ret))
          exact H.ret1 rfl rfl (fun _ h => h) ⟨by simp [Core.eqB, Pkt.core, *], rfl, rfl⟩
      · skip
        try simp only [Bool.not_eq_true] at *
        repeat (first | ((first | apply H.move | apply H.len_slice); (iterate 3 exact rfl)) | (first | apply H.seq | apply H.region | apply H.nil | apply H.then_normal) | ((apply H.cmp); (iterate 5 exact rfl)) | (apply H.cond_true; exact rfl) | (first | apply H.skip | apply H.block))
        refine H.drawB (by kernel_rfl) (by decide +kernel) (by first | exact blind_fn | exact blind_seq blind_fn | exact blind_seq (blind_seq blind_fn) | (repeat (first | exact blind_fn | refine blind_seq ?_ | refine blind_block ?_ | refine blind_loop ?_))) (S := [_, _]) rfl ?_
        refine HB.quiet [(0, false), (1, false), (2, false), (3, false), (4, false), (5, false), (6, false), (7, false), (8, false), (9, false), (10, false), (11, false), (12, false), (13, false), (14, false), (15, false), (16, false), (17, false), (18, false), (19, false), (20, false), (21, false), (22, false), (23, false), (24, false), (25, false), (26, false), (27, false), (28, false), (29, false), (30, false), (31, false), (32, false), (33, false), (34, false), (35, false), (36, false), (37, false), (38, false), (39, false), (40, false), (41, false), (42, false), (43, false), (44, false), (45, false), (46, false), (47, false)] 3 (by kernel_rfl) ?_
        repeat (first | ((apply HQ.move); (iterate 3 exact rfl)) | (apply HQ.fieldAddr; (iterate 3 exact rfl); exact inferInstance; exact rfl) | (apply HQ.load1; (iterate 3 exact rfl); apply Rd1.ofRow; (repeat (first | exact .here _ _ _ | apply At.there)); (iterate 2 exact rfl)) | ((apply HQ.cmp); (iterate 5 exact rfl)) | (apply HQ.pass; (iterate 2 exact rfl)) | (apply HQ.pickT; (iterate 4 exact rfl)) | ((apply HQ.pickF); (iterate 4 exact rfl)) | (apply HQ.gyes; (iterate 3 exact rfl); (assumption)) | (apply HQ.gno; (iterate 3 exact rfl); (omega)) | (refine HQ.index_slice rfl rfl rfl rfl (by decide) rfl ?_))
        refine HQ.more rfl ?_
        refine HB.ev1 (i := 48) (by kernel_rfl) rfl ?_
        repeat (first | (apply H.nil) | (apply H.pass; (iterate 2 exact rfl)))
        refine H.on0 rfl ?_
        refine HB.quiet [(49, false), (50, false)] 0 (by kernel_rfl) ?_
        repeat (first | (apply HQ.pass; (iterate 2 exact rfl)) | (apply HQ.pickT; (iterate 4 exact rfl)))
        refine HQ.more rfl ?_
        refine HB.done (by kernel_rfl) ?_
        repeat (first | ((apply H.assign); (iterate 3 exact rfl)) | (first | apply H.seq | apply H.region | apply H.nil | apply H.then_normal) | (apply H.cond_true; exact rfl) | (first | apply H.ret | apply H.then_ret | apply H.in_ret | apply H.loop_ret))
        exact H.ret1 rfl rfl (fun _ h => h) ⟨by simp [Core.eqB, Pkt.core, *], rfl, rfl⟩
    · skip
      try simp only [Bool.not_eq_true] at *
      repeat (first | ((first | apply H.move | apply H.len_slice); (iterate 3 exact rfl)) | (first | apply H.seq | apply H.region | apply H.nil | apply H.then_normal) | ((apply H.cmp); (iterate 5 exact rfl)) | (apply H.cond_true; exact rfl) | (first | apply H.skip | apply H.block))
      refine H.drawB (by kernel_rfl) (by decide +kernel) (by first | exact blind_fn | exact blind_seq blind_fn | exact blind_seq (blind_seq blind_fn) | (repeat (first | exact blind_fn | refine blind_seq ?_ | refine blind_block ?_ | refine blind_loop ?_))) (S := [_, _]) rfl ?_
      refine HB.quiet [(0, false), (1, false), (2, false), (3, false), (4, false), (5, false), (6, false), (7, false), (8, false), (9, false), (10, false), (11, false), (12, false), (13, false), (14, false), (15, false), (16, false), (17, false), (18, false), (19, false), (20, false), (21, false), (22, false), (23, false), (24, false), (25, false), (26, false), (27, false), (28, false), (29, false), (30, false), (31, false), (32, false), (33, false), (34, false), (35, false), (36, false), (37, false), (38, false), (39, false), (40, false), (41, false), (42, false), (43, false), (44, false), (45, false), (46, false), (47, false)] 3 (by kernel_rfl) ?_
      repeat (first | ((apply HQ.move); (iterate 3 exact rfl)) | (apply HQ.fieldAddr; (iterate 3 exact rfl); exact inferInstance; exact rfl) | (apply HQ.load1; (iterate 3 exact rfl); apply Rd1.ofRow; (repeat (first | exact .here _ _ _ | apply At.there)); (iterate 2 exact rfl)) | ((apply HQ.cmp); (iterate 5 exact rfl)) | (apply HQ.pass; (iterate 2 exact rfl)) | (apply HQ.pickT; (iterate 4 exact rfl)) | (apply HQ.gyes; (iterate 3 exact rfl); (assumption)) | (refine HQ.index_slice rfl rfl rfl rfl (by decide) rfl ?_))
      refine HQ.more rfl ?_
      refine HB.ev1 (i := 48) (by kernel_rfl) rfl ?_
      repeat (first | (apply H.nil) | (apply H.pass; (iterate 2 exact rfl)))
      refine H.on0 rfl ?_
      refine HB.quiet [(49, false), (50, false)] 0 (by kernel_rfl) ?_
      repeat (first | (apply HQ.pass; (iterate 2 exact rfl)) | (apply HQ.pickT; (iterate 4 exact rfl)))
      refine HQ.more rfl ?_
      refine HB.done (by kernel_rfl) ?_
      repeat (first | ((apply H.assign); (iterate 3 exact rfl)) | (first | apply H.seq | apply H.region | apply H.nil | apply H.then_normal) | (apply H.cond_true; exact rfl) | (first | apply H.ret | apply H.then_ret | apply H.in_ret | apply H.loop_ret))
      exact H.ret1 rfl rfl (fun _ h => h) ⟨by simp [Core.eqB, Pkt.core, *], rfl, rfl⟩
  | 1, _ =>
    have h := hall rfl
    repeat (first | ((first | apply H.move | apply H.assign | apply H.len_slice); (iterate 3 exact rfl)) | (first | apply H.seq | apply H.region | apply H.nil | apply H.then_normal) | ((apply H.cmp); (iterate 5 exact rfl)) | (apply H.cond_false; exact rfl) | (first | apply H.ret | apply H.then_exit | apply H.exit | apply H.in_hit | apply H.loop_exit))
    exact H.ret1 rfl rfl (fun _ h => h) ⟨by rw [h], rfl, rfl⟩
theorem sameP_fn {p q : Pkt} (hp : p.Good f) (hq : q.Good f) : Fn Try.prog 14 [.agg p.vals.toArray, .agg q.vals.toArray] f F (Ret (.bool (Core.eqB p.core q.core)) f F) := by
  refine Fn.enter Try.func14 rfl Try.ntmps14 rfl (L := [(0, _), (1, _)]) ⟨rfl, rfl, trivial⟩ fun base => ?_
  repeat ((first | apply H.seq | apply H.region))
  refine H.box (ls := p.vals) rfl rfl rfl rfl fun ab => ?_
  refine H.box (ls := q.vals) rfl rfl rfl rfl fun bb => ?_
  repeat (first | ((apply H.assign); (iterate 3 exact rfl)) | (first | apply H.seq | apply H.region | apply H.nil | apply H.then_normal))
  refine H.loadN (ls := p.vals) rfl rfl rfl (Rd.ofRow (by repeat (first | exact .here _ _ _ | apply At.there))) rfl rfl ?_
  refine H.buildSlice rfl rfl rfl rfl (by decide) (by decide) rfl rfl fun ac => ?_
  refine H.loadN (ls := q.vals) rfl rfl rfl (Rd.ofRow (by repeat (first | exact .here _ _ _ | apply At.there))) rfl rfl ?_
  refine H.buildSlice rfl rfl rfl rfl (by decide) (by decide) rfl rfl fun bc => ?_
  refine H.front (x := row ac _ _) (by repeat (first | exact .here _ _ | apply Pull.there)) ?_
  refine H.callR rfl rfl rfl (rsameP_fn f _ hp hq) ?_
  repeat (first | ((apply H.assign); (iterate 3 exact rfl)) | (first | apply H.nil | apply H.then_normal) | (apply H.ret))
  refine H.drop (.here _ _) ?_
  refine H.drop (.here _ _) ?_
  refine H.drop (.here _ _) ?_
  refine H.drop (.here _ _) ?_
  exact H.ret1 rfl rfl (fun _ h => h) ⟨rfl, rfl, rfl⟩
end
end Go.Proofs.Ytcaofnfemogleaa

/- Layer 24: the chapter's example. -/
namespace Go.Proofs.Ytcaofnfemogleaa
set_option linter.unusedSectionVars false
set_option linter.unusedSimpArgs false
set_option linter.unusedVariables false
open Go
theorem H.weaken {P : Program} {base : World} {n : Nat} {L : Env} {f g : Frag} {A : List HP} {K : Kont} (h : Le f g) (k : H P base n L f A K) : H P base n L g A K := .mk fun a w hf s => k.out a w hf (s.weak h)
theorem le_unm {f g h : Frag} (h1 : Le h f) (hd : Dj f g) : Le (un h g) (un f g) := fun k o e => by
  unfold un at *
  cases hk : h k with
  | some x => rw [hk] at e; rw [h1 k x hk]; exact e
  | none =>
    rw [hk] at e
    rcases hd k with h2 | h2
    · rw [h2]; exact e
    · rw [h2] at e; cases e
theorem netH_mono {h h' : Frag} {nb : Nat} {N : NetM} {A : List HP} (hh : Le h h') : ∀ x, stars (netH h nb N :: A) x → stars (netH h' nb N :: A) x :=
  fun _ ⟨m1, m2, d, e, ⟨i, hi, hs⟩, r⟩ => ⟨m1, m2, d, e, ⟨i, ⟨fun p hp => (hi.1 p hp).mono hh, hi.2⟩, hs⟩, r⟩
def one0 : Msg := ⟨1, 1, fun _ => 0, { Bod.zero 3 with view := 1 }, noTag⟩
def oneM : Msg := one0.signed
def oneC : Core := ⟨1, 2, fun i => if i = 0 then 1 else 0, [oneM]⟩
theorem one0_may : one0.may = true := by decide +kernel
theorem oneM_eq : oneM = { one0 with tag := Sha.numbered one0.origin one0.number one0.tagged } := by
  unfold oneM Msg.signed
  rw [if_pos one0_may]
theorem oneM_may : oneM.may = true := by
  rw [oneM_eq]
  exact one0_may
theorem oneC_may : oneC.may = true := by
  unfold Core.may oneC
  simp only [List.all_cons, List.all_nil, oneM_may]
  decide
theorem NetC.put_ok {c : NetC} {p : Core} (hm : p.may = true) (hl : c.lost (p.src.toNat * 12 + p.dst.toNat) = false) (hn : c.row.length < 256) : c.put p = (0, { c with row := c.row ++ [p] }) := by
  unfold NetC.put NetC.push
  rw [if_pos hm, hl, if_neg (by simp), if_neg (by omega)]
theorem NetC.put_lost {c : NetC} {p : Core} (hm : p.may = true) (hl : c.lost (p.src.toNat * 12 + p.dst.toNat) = true) : c.put p = (0, c) := by
  unfold NetC.put
  rw [if_pos hm, hl, if_pos rfl]
theorem NetC.put_no {c : NetC} {p : Core} (hm : p.may = false) : c.put p = (1, c) := by
  unfold NetC.put
  rw [hm, if_neg (by simp)]
def worksLost : Nat → Bool := updB (updB (fun _ => false) (2 * 12 + 1) true) (1 * 12 + 2) true
section
variable (f : Frag) (F : List HP)
/-- A packet in memory of its own. -/
def NewP (f : Frag) (F : List HP) (c : Core) : Value → Frag → List HP → Prop := fun v f' A' => ∃ (g : Frag) (p : Pkt), v = .agg p.vals.toArray ∧ p.core = c ∧ p.Good g ∧ Dj f g ∧ f' = un f g ∧ A' = F
theorem one_fn : Fn Try.prog 24 [] f F (NewP f F oneC) := by
  have hm : ∀ G, Fn Try.prog 33 [.agg (one0.vals none 0).toArray] f G (Ret (.agg (oneM.vals none 0).toArray) f G) := fun G => rtagged_fn f G (m := one0) (q := none) (qc := 0) (fun i x h => by cases h) (Nat.zero_le _)
  have hb : oneM.body = one0.body := by rw [oneM_eq]
  have hq : oneM.body.q = [] := by rw [hb]; rfl
  have hok : oneM.body.Ok := by rw [hb]; exact ⟨by decide, by decide, by decide, by decide⟩
  unfold oneC
  generalize oneM = m at *
  refine Fn.enter Try.func24 rfl Try.ntmps24 rfl (L := []) trivial fun base => ?_
  repeat ((first | apply H.seq | apply H.region))
  refine H.alloc (ls := Pkt.zero.vals) rfl rfl rfl fun ob => ?_
  repeat (first | (first | apply H.seq | apply H.region | apply H.nil | apply H.then_normal) | ((apply H.build); (iterate 5 exact rfl)) | (refine H.buildA rfl rfl rfl rfl rfl ?_) | (refine H.callR rfl rfl rfl (hm _) ?_))
  refine H.buildSlice (out := (⟨m, none, 0⟩ : MV).vals) rfl rfl rfl rfl (by decide) (by decide) rfl rfl fun eb => ?_
  refine H.asSlc (k := 1) (sz := 121) rfl (by decide) ?_
  refine H.freeze (.here _ _) fun g hg hd => ?_
  have hg' : slc (some ⟨eb, 0, none⟩) 1 1 61 121 ([(⟨m, none, 0⟩ : MV)].flatMap MV.vals) g := by rw [List.flatMap_cons, List.flatMap_nil, List.append_nil]; exact hg
  repeat (((apply H.build); (iterate 5 exact rfl)))
  refine H.storeN (ls := Pkt.zero.vals) (vs := (⟨1, 2, fun i => if i = 0 then 1 else 0, [⟨m, none, 0⟩], some ⟨eb, 0, none⟩, 1⟩ : Pkt).vals) (ls' := (⟨1, 2, fun i => if i = 0 then 1 else 0, [⟨m, none, 0⟩], some ⟨eb, 0, none⟩, 1⟩ : Pkt).vals) rfl rfl rfl (allOne_mem rfl) rfl rfl (Nat.le_refl 14) (by repeat (first | exact .here _ _ _ | apply At.there)) ?_
  repeat (first | (first | apply H.nil | apply H.then_normal) | (apply H.ret))
  refine H.retD (ls := (⟨1, 2, fun i => if i = 0 then 1 else 0, [⟨m, none, 0⟩], some ⟨eb, 0, none⟩, 1⟩ : Pkt).vals) rfl rfl rfl (Rd.ofRow (by repeat (first | exact .here _ _ _ | apply At.there))) rfl (fun _ s => s.drop (.here _ _)) ⟨g, ⟨1, 2, fun i => if i = 0 then 1 else 0, [⟨m, none, 0⟩], some ⟨eb, 0, none⟩, 1⟩, rfl, rfl, ?_, hd, rfl, rfl⟩
  refine ⟨slc_listAt (xs := [(⟨m, none, 0⟩ : MV)]) MV.len hg', fun x hx => ?_, by show 1 ≤ 1000000; decide⟩
  have hx : x ∈ [(⟨m, none, 0⟩ : MV)] := hx
  rw [List.mem_singleton] at hx
  subst hx
  refine ⟨?_, ?_, hok⟩
  · show QAt g none m.body.q
    rw [hq]
    exact fun i x h => by cases h
  · show m.body.q.length ≤ _
    rw [hq]
    exact Nat.zero_le _
end
end Go.Proofs.Ytcaofnfemogleaa

/- Layer 24: the chapter's example works. -/
namespace Go.Proofs.Ytcaofnfemogleaa
set_option linter.unusedSectionVars false
set_option linter.unusedSimpArgs false
set_option linter.unusedVariables false
open Go
theorem works_twice {c : Core} : (⟨[c], fun _ => false⟩ : NetC).twice 0 = (0, ⟨[c, c], fun _ => false⟩) := rfl
theorem works_cut {l : List Core} : (⟨l, fun _ => false⟩ : NetC).cut 2 1 = (0, ⟨l, worksLost⟩) := by
  unfold NetC.cut
  rw [if_pos (show pairP 2 1 by decide)]
  rfl
theorem coreZero_may : Core.zero.may = false := by decide
section
variable (f : Frag) (F : List HP)
set_option maxHeartbeats 800000 in
theorem works_fn : Fn Try.prog 7 [] f F (Ret (.bool true) f F) := by
  have hone := one_fn
  have hmay := oneC_may
  have hsrc : oneC.src = 1 := rfl
  have hdst : oneC.dst = 2 := rfl
  generalize oneC = c at *
  have p1 : NetM.new.core.put c = (0, ⟨[c], fun _ => false⟩) := NetC.put_ok hmay rfl (by decide)
  have p2 : (⟨[c], worksLost⟩ : NetC).put c = (0, ⟨[c], worksLost⟩) := NetC.put_lost hmay (by rw [hsrc, hdst]; rfl)
  have p3 : (⟨[c], worksLost⟩ : NetC).put Pkt.zero.core = (1, ⟨[c], worksLost⟩) := NetC.put_no coreZero_may
  refine Fn.enter Try.func7 rfl Try.ntmps7 rfl (L := []) trivial fun base => ?_
  repeat (first | ((apply H.assign); (iterate 3 exact rfl)) | (first | apply H.seq | apply H.region | apply H.nil | apply H.then_normal))
  refine H.callE rfl rfl rfl (netNew_fn f F f) fun nb => ?_
  repeat (first | ((first | apply H.move | apply H.assign); (iterate 3 exact rfl)) | (first | apply H.seq | apply H.region | apply H.nil | apply H.then_normal))
  have le0 : Le f f := Le.refl f
  refine H.call rfl rfl rfl (hone f _) fun v f' A' hr => ?_
  obtain ⟨g1, q1, rfl, hq1, hg1, hd1, rfl, rfl⟩ := hr
  refine H.imp (netH_mono (Le.un f g1)) ?_
  have hg1 := hg1.mono (Le.right hd1)
  have le1 : Le f (un f g1) := Le.trans le0 (Le.un _ _)
  generalize un f g1 = f1 at *
  refine H.call rfl rfl rfl (netPut_fn f1 F f1 nb _ (Le.refl _) hg1) fun v f' A' hr => ?_
  obtain ⟨g2, N2, hv, hN2, hd2, rfl, rfl⟩ := hr
  rw [hq1, p1] at hv hN2
  have hv : v = .int .i64 0 := hv
  subst hv
  have le2 : Le f (un f1 g2) := Le.trans le1 (Le.un _ _)
  generalize un f1 g2 = f2 at *
  repeat (first | ((first | apply H.move | apply H.assign); (iterate 3 exact rfl)) | (first | apply H.seq | apply H.region | apply H.nil | apply H.then_normal))
  refine H.call rfl rfl rfl (netTwice_fn f2 F f2 nb N2 0 (Le.refl _)) fun v f' A' hr => ?_
  obtain ⟨g3, N3, hv, hN3, hd3, rfl, rfl⟩ := hr
  rw [hN2, works_twice] at hv hN3
  have hv : v = .int .i64 0 := hv
  subst hv
  have le3 : Le f (un f2 g3) := Le.trans le2 (Le.un _ _)
  generalize un f2 g3 = f3 at *
  repeat (first | ((first | apply H.move | apply H.assign); (iterate 3 exact rfl)) | (first | apply H.seq | apply H.region | apply H.nil | apply H.then_normal))
  refine H.call rfl rfl rfl (netTake_fn f3 F f3 nb N3 1) fun v fa A' hr => ?_
  obtain ⟨p, N4, hv, hp, hpg, hN4, rfl, rfl⟩ := hr
  rw [hN3] at hv hp hN4
  have hv : v = .tuple #[.agg p.vals.toArray, .bool true] := hv
  have hp : p.core = c := hp
  have hN4 : N4.core = ⟨[c], fun _ => false⟩ := hN4
  subst hv
  repeat (first | ((apply H.move); (iterate 3 exact rfl)) | ((apply H.extract); (iterate 4 exact rfl)))
  refine H.alloc (ls := Pkt.zero.vals) rfl rfl rfl fun pb => ?_
  refine H.storeN (ls := Pkt.zero.vals) (vs := p.vals) (ls' := p.vals) rfl rfl rfl (allOne_mem rfl) rfl rfl (Nat.le_refl 14) (by repeat (first | exact .here _ _ _ | apply At.there)) ?_
  refine H.front (x := netH _ _ _) (by repeat (first | exact .here _ _ | apply Pull.there)) ?_
  repeat (first | ((first | apply H.move | apply H.assign); (iterate 3 exact rfl)) | (first | apply H.seq | apply H.region | apply H.nil | apply H.then_normal))
  refine H.call rfl rfl rfl (netCut_fn fa _ fa nb N4 2 1) fun v fb A' hr => ?_
  obtain ⟨N5, hv, hN5, rfl, rfl⟩ := hr
  rw [hN4, works_cut] at hv hN5
  have hv : v = .int .i64 0 := hv
  have hN5 : N5.core = ⟨[c], worksLost⟩ := hN5
  subst hv
  repeat (first | ((first | apply H.move | apply H.assign); (iterate 3 exact rfl)) | (first | apply H.seq | apply H.region | apply H.nil | apply H.then_normal))
  refine H.call rfl rfl rfl (hone fb _) fun v f' A' hr => ?_
  obtain ⟨g4, q4, rfl, hq4, hg4, hd4, rfl, rfl⟩ := hr
  refine H.imp (netH_mono (Le.un fb g4)) ?_
  have hpg := hpg.mono (Le.un fb g4)
  have hg4 := hg4.mono (Le.right hd4)
  have le4 : Le f (un fb g4) := Le.trans le3 (Le.un _ _)
  generalize un fb g4 = f4 at *
  refine H.call rfl rfl rfl (netPut_fn f4 _ f4 nb N5 (Le.refl _) hg4) fun v f' A' hr => ?_
  obtain ⟨g5, N6, hv, hN6, hd5, rfl, rfl⟩ := hr
  rw [hq4, hN5, p2] at hv hN6
  have hv : v = .int .i64 0 := hv
  have hN6 : N6.core = ⟨[c], worksLost⟩ := hN6
  subst hv
  have hpg := hpg.mono (Le.un f4 g5)
  have le5 : Le f (un f4 g5) := Le.trans le4 (Le.un _ _)
  generalize un f4 g5 = f5 at *
  repeat (first | ((apply H.assign); (iterate 3 exact rfl)) | (first | apply H.seq | apply H.nil | apply H.then_normal))
  refine H.front (x := row pb _ _) (by repeat (first | exact .here _ _ | apply Pull.there)) ?_
  refine H.drawB (by kernel_rfl) (by decide +kernel) (by first | exact blind_fn | exact blind_seq blind_fn | exact blind_seq (blind_seq blind_fn) | (repeat (first | exact blind_fn | refine blind_seq ?_ | refine blind_block ?_ | refine blind_loop ?_))) (S := [_]) rfl ?_
  refine HB.quiet [(0, false), (1, false), (2, false), (3, false), (4, false), (5, false), (6, false), (7, false), (8, false), (9, false), (10, false)] 27 (by kernel_rfl) ?_
  repeat (first | ((apply HQ.move); (iterate 3 exact rfl)) | ((apply HQ.cmp); (iterate 5 exact rfl)) | (apply HQ.pickT; (iterate 4 exact rfl)))
  refine HQ.loadN (ls := p.vals) rfl rfl rfl (Rd.ofRow (by repeat (first | exact .here _ _ _ | apply At.there))) rfl rfl ?_
  refine HQ.more rfl ?_
  refine HB.ev1 (i := 11) (by kernel_rfl) rfl ?_
  refine H.call rfl rfl rfl (hone f5 _) fun v f' A' hr => ?_
  obtain ⟨g6, q6, rfl, hq6, hg6, hd6, rfl, rfl⟩ := hr
  refine H.front (x := netH _ _ _) (by repeat (first | exact .here _ _ | apply Pull.there)) ?_
  refine H.imp (netH_mono (Le.un f5 g6)) ?_
  refine H.front (x := row pb _ _) (by repeat (first | exact .here _ _ | apply Pull.there)) ?_
  have hpg := hpg.mono (Le.un f5 g6)
  have hg6 := hg6.mono (Le.right hd6)
  have le6 : Le f (un f5 g6) := Le.trans le5 (Le.un _ _)
  repeat ((apply H.nil))
  refine H.on [] (Le.un _ _) rfl ?_
  generalize un f5 g6 = f6 at *
  have hsame := fun G => sameP_fn f6 G hpg hg6
  rw [hp, hq6, Core.eqB_refl] at hsame
  refine HB.ev1 (i := 12) (by kernel_rfl) rfl ?_
  refine H.callR rfl rfl rfl (hsame _) ?_
  repeat ((apply H.nil))
  refine H.on0 rfl ?_
  refine HB.quiet [(13, false), (14, false), (15, false), (16, false), (17, false), (18, false), (19, false), (20, false), (21, false), (22, false), (23, false)] 14 (by kernel_rfl) ?_
  repeat (first | ((apply HQ.move); (iterate 3 exact rfl)) | ((apply HQ.cmp); (iterate 5 exact rfl)) | (apply HQ.pickT; (iterate 4 exact rfl)))
  refine HQ.more rfl ?_
  refine HB.ev1 (i := 24) (by kernel_rfl) rfl ?_
  refine H.front (x := netH _ _ _) (by repeat (first | exact .here _ _ | apply Pull.there)) ?_
  refine H.callR rfl rfl rfl (netLen_fn f6 _ f6 nb N6) ?_
  have hlen : N6.row.length = 1 := by rw [← NetM.core_len, hN6]; rfl
  rw [hlen]
  refine H.front (x := row pb _ _) (by repeat (first | exact .here _ _ | apply Pull.there)) ?_
  repeat ((apply H.nil))
  refine H.on0 rfl ?_
  refine HB.quiet [(25, false), (26, false), (27, false), (28, false), (29, false)] 8 (by kernel_rfl) ?_
  repeat (first | ((apply HQ.move); (iterate 3 exact rfl)) | ((first | apply HQ.cmp | apply HQ.build); (iterate 5 exact rfl)) | (apply HQ.pickT; (iterate 4 exact rfl)))
  refine HQ.more rfl ?_
  refine HB.ev1 (i := 30) (by kernel_rfl) rfl ?_
  refine H.front (x := netH _ _ _) (by repeat (first | exact .here _ _ | apply Pull.there)) ?_
  refine H.call rfl rfl rfl (netPut_fn f6 _ f6 nb N6 (Le.refl _) (p := Pkt.zero) (Pkt.zero_good f6)) fun v f' A' hr => ?_
  obtain ⟨g7, N7, hv, hN7, hd7, rfl, rfl⟩ := hr
  rw [hN6, p3] at hv hN7
  have hv : v = .int .i64 1 := hv
  subst hv
  have le7 : Le f (un f6 g7) := Le.trans le6 (Le.un _ _)
  refine H.front (x := row pb _ _) (by repeat (first | exact .here _ _ | apply Pull.there)) ?_
  repeat ((apply H.nil))
  refine H.on [] (Le.un _ _) rfl ?_
  generalize un f6 g7 = f7 at *
  refine HB.quiet [(31, false), (32, false), (33, false)] 4 (by kernel_rfl) ?_
  repeat (first | ((apply HQ.move); (iterate 3 exact rfl)) | ((apply HQ.cmp); (iterate 5 exact rfl)) | (apply HQ.pickT; (iterate 4 exact rfl)))
  refine HQ.more rfl ?_
  refine HB.ev1 (i := 34) (by kernel_rfl) rfl ?_
  refine H.call rfl rfl rfl (hone f7 _) fun v f' A' hr => ?_
  obtain ⟨g8, q8, rfl, hq8, hg8, hd8, rfl, rfl⟩ := hr
  have hg8 := hg8.mono (Le.right hd8)
  have le8 : Le f (un f7 g8) := Le.trans le7 (Le.un _ _)
  repeat ((apply H.nil))
  refine H.on [] (Le.un _ _) rfl ?_
  generalize un f7 g8 = f8 at *
  have hm8 := fun G => netMay_fn f8 G hg8
  rw [Pkt.may_core, hq8, hmay] at hm8
  refine HB.ev1 (i := 35) (by kernel_rfl) rfl ?_
  refine H.callR rfl rfl rfl (hm8 _) ?_
  repeat ((apply H.nil))
  refine H.on0 rfl ?_
  refine HB.quiet [(36, false), (37, false)] 0 (by kernel_rfl) ?_
  repeat (first | ((apply HQ.assign); (iterate 3 exact rfl)) | (apply HQ.pickT; (iterate 4 exact rfl)))
  refine HQ.more rfl ?_
  refine HB.done (by kernel_rfl) ?_
  repeat (first | (apply H.then_normal) | (apply H.ret))
  refine H.weaken le8 ?_
  refine H.drop (.here _ _) ?_
  refine H.drop (.here _ _) ?_
  exact H.ret1 rfl rfl (fun _ h => h) ⟨rfl, rfl, rfl⟩
end
end Go.Proofs.Ytcaofnfemogleaa

/- Layer 24: the steps, as Lean data; 'few'. -/
namespace Go.Proofs.Ytcaofnfemogleaa
set_option linter.unusedSectionVars false
set_option linter.unusedSimpArgs false
set_option linter.unusedVariables false
open Go
structure Stp where
  act : Int
  p : Pkt
  k : Int
  j : Int
def Stp.vals (x : Stp) : List Value := [.int .u8 x.act] ++ x.p.vals ++ [.int .i64 x.k, .int .i64 x.j]
theorem Stp.len (x : Stp) : x.vals.length = 17 := rfl
def fewM (l : List MV) : Bool := l.all fun m => decide (m.m.body.q.length ≤ 20)
def fewP (p : Pkt) : Bool := decide (p.msgs.length ≤ 20) && fewM p.msgs
def fewS (l : List Stp) : Bool := decide (l.length ≤ 300) && l.all fun x => fewP x.p
section
variable (f : Frag) (F : List HP)
theorem few_fn {p : Option Addr} {c : Nat} {l : List Stp} (hat : ListAt f p 17 Stp.vals l) (hm : ∀ x ∈ l, ListAt f x.p.mp 121 MV.vals x.p.msgs) :
    Fn Try.prog 16 [.slice p l.length c] f F (Ret (.bool (fewS l)) f F) := by
  by_cases hlen : l.length ≤ 300
  · have hlen' : (l.length : Int) ≤ 300 := by omega
    unfold fewS
    rw [decide_eq_true hlen, Bool.true_and]
    refine Fn.enter Try.func16 rfl Try.ntmps16 rfl (L := [(0, _)]) ⟨rfl, trivial⟩ fun base => ?_
    repeat (first | ((first | apply H.move | apply H.assign | apply H.len_slice); (iterate 3 exact rfl)) | (first | apply H.seq | apply H.region | apply H.nil | apply H.then_normal) | ((apply H.cmp); (iterate 5 exact rfl)) | (first | apply H.skip | apply H.block) | (apply H.cond_no; exact rfl; (omega)))
    refine H.loop (ι := Nat) (fun i => [(3, .int .i64 (i : Int)), (0, .slice p l.length c)]) (fun _ => f) (fun _ => F) (fun i => i ≤ l.length ∧ (l.all fun x => fewP x.p) = ((l.drop i).all fun x => fewP x.p)) (fun i => l.length - i) 0 ⟨Nat.zero_le _, rfl⟩ ⟨rfl, rfl, trivial⟩ rfl rfl fun i hi => ?_
    obtain ⟨hi, hall⟩ : i ≤ l.length ∧ (l.all fun x => fewP x.p) = ((l.drop i).all fun x => fewP x.p) := hi
    by_cases hlt : i < l.length
    · have hx : l[i]? = some l[i] := List.getElem?_eq_getElem hlt
      rw [List.drop_eq_getElem_cons hlt, List.all_cons] at hall
      generalize l[i] = x at hx hall
      have hxm := hm x (List.mem_of_getElem? hx)
      obtain ⟨b, off, cs, T, fr, hp, hfb, hcs⟩ := hat i x hx
      have rd : ∀ A, Rd f A b (off + i * 17) x.vals := fun A => Rd.imm hfb hcs
      have rdm : ∀ A, Rd1 f A b (off + i * 17 + 1 + 13) (.slice x.p.mp x.p.msgs.length x.p.mc) := fun A => by
        have := Rd1.of (rd A) (i := 14) rfl
        rwa [Nat.add_assoc _ 1 13]
      clear hcs hfb rd
      subst hp
      by_cases hxl : x.p.msgs.length ≤ 20
      · have hxl' : (x.p.msgs.length : Int) ≤ 20 := by omega
        have hfp : fewP x.p = fewM x.p.msgs := by unfold fewP; rw [decide_eq_true hxl, Bool.true_and]
        rw [hfp] at hall
        repeat (first | ((first | apply H.move | apply H.assign | apply H.len_slice); (iterate 3 exact rfl)) | (apply H.fieldAddr; (iterate 3 exact rfl); exact inferInstance; exact rfl) | (first | apply H.seq | apply H.region | apply H.nil | apply H.then_normal) | ((apply H.cmp); (iterate 5 exact rfl)) | (first | apply H.skip | apply H.block) | (apply H.cond_yes; exact rfl; (omega)) | (apply H.cond_no; exact rfl; (omega)) | (refine H.index_slice rfl rfl rfl rfl hlt rfl ?_) | (refine H.load1 rfl rfl rfl (rdm _) rfl ?_))
        refine H.loop (ι := Nat) (fun k => [(4, .int .i64 (k : Int)), (3, .int .i64 (i : Int)), (0, .slice (some ⟨b, off, none⟩) l.length c)]) (fun _ => f) (fun _ => F) (fun k => k ≤ x.p.msgs.length ∧ fewM x.p.msgs = fewM (x.p.msgs.drop k)) (fun k => x.p.msgs.length - k) 0 ⟨Nat.zero_le _, rfl⟩ ⟨rfl, rfl, rfl, trivial⟩ rfl rfl fun k hk => ?_
        obtain ⟨hk, hallm⟩ : k ≤ x.p.msgs.length ∧ fewM x.p.msgs = fewM (x.p.msgs.drop k) := hk
        by_cases hklt : k < x.p.msgs.length
        · have hy : x.p.msgs[k]? = some x.p.msgs[k] := List.getElem?_eq_getElem hklt
          unfold fewM at hallm
          rw [List.drop_eq_getElem_cons hklt, List.all_cons] at hallm
          generalize x.p.msgs[k] = y at hy hallm
          obtain ⟨b2, off2, cs2, T2, fr2, hmp, hfb2, hcs2⟩ := hxm k y hy
          have rd2 : ∀ A, Rd f A b2 (off2 + k * 121) y.vals := fun A => Rd.imm hfb2 hcs2
          have rdq : ∀ A, Rd1 f A b2 (off2 + k * 121 + 13 + 43) (.slice y.qp y.m.body.q.length y.qc) := fun A => by
            have := Rd1.of (rd2 A) (i := 56) rfl
            rwa [Nat.add_assoc _ 13 43]
          clear hcs2 hfb2 rd2
          rw [hmp] at rdm
          by_cases hq : y.m.body.q.length ≤ 20
          · have hq' : (y.m.body.q.length : Int) ≤ 20 := by omega
            rw [decide_eq_true hq, Bool.true_and] at hallm
            repeat (first | ((first | apply H.move | apply H.assign | apply H.len_slice); (iterate 3 exact rfl)) | (apply H.fieldAddr; (iterate 3 exact rfl); exact inferInstance; exact rfl) | (first | apply H.seq | apply H.region | apply H.nil | apply H.then_normal) | ((apply H.cmp); (iterate 5 exact rfl)) | ((apply H.ar; (iterate 4 exact rfl)); (with_reducible apply wr_i64_n1; omega); exact rfl) | (first | apply H.skip | apply H.block | apply H.in_normal) | (apply H.cond_yes; exact rfl; (omega)) | (apply H.cond_no; exact rfl; (omega)) | (refine H.index_slice (b := b) rfl rfl rfl rfl hlt rfl ?_) | (refine H.load1 rfl rfl rfl (rdm _) rfl ?_) | (refine H.index_slice (b := b2) rfl rfl rfl rfl hklt rfl ?_) | (refine H.load1 rfl rfl rfl (rdq _) rfl ?_))
            exact H.again (k + 1) ⟨by show k + 1 ≤ x.p.msgs.length; omega, hallm⟩ (by show x.p.msgs.length - (k + 1) < x.p.msgs.length - k; omega) ⟨rfl, rfl, rfl, trivial⟩ rfl rfl
          · rw [decide_eq_false hq, Bool.false_and] at hallm
            repeat (first | ((first | apply H.move | apply H.assign | apply H.len_slice); (iterate 3 exact rfl)) | (apply H.fieldAddr; (iterate 3 exact rfl); exact inferInstance; exact rfl) | (first | apply H.seq | apply H.region | apply H.nil | apply H.then_normal) | ((apply H.cmp); (iterate 5 exact rfl)) | (first | apply H.skip | apply H.ret | apply H.then_ret | apply H.block | apply H.in_ret | apply H.loop_ret) | (apply H.cond_yes; exact rfl; (omega)) | (refine H.index_slice (b := b) rfl rfl rfl rfl hlt rfl ?_) | (refine H.load1 rfl rfl rfl (rdm _) rfl ?_) | (refine H.index_slice (b := b2) rfl rfl rfl rfl hklt rfl ?_) | (refine H.load1 rfl rfl rfl (rdq _) rfl ?_))
            refine H.ret1 rfl rfl (fun _ h => h) ⟨?_, rfl, rfl⟩
            rw [hall]
            unfold fewM
            rw [hallm, Bool.false_and]
        · have hkl : k = x.p.msgs.length := by omega
          have e1 : fewM (x.p.msgs.drop k) = true := by rw [hkl, List.drop_length]; rfl
          rw [e1] at hallm
          rw [hallm, Bool.true_and] at hall
          repeat (first | ((first | apply H.move | apply H.assign | apply H.len_slice); (iterate 3 exact rfl)) | (apply H.fieldAddr; (iterate 3 exact rfl); exact inferInstance; exact rfl) | (first | apply H.seq | apply H.region | apply H.nil | apply H.then_normal) | ((apply H.cmp); (iterate 5 exact rfl)) | ((apply H.ar; (iterate 4 exact rfl)); (with_reducible apply wr_i64_n1; omega); exact rfl) | (first | apply H.then_exit | apply H.exit | apply H.in_normal | apply H.in_hit | apply H.loop_exit) | (apply H.cond_no; exact rfl; (omega)) | (refine H.index_slice (b := b) rfl rfl rfl rfl hlt rfl ?_) | (refine H.load1 rfl rfl rfl (rdm _) rfl ?_))
          exact H.again (i + 1) ⟨by show i + 1 ≤ l.length; omega, hall⟩ (by show l.length - (i + 1) < l.length - i; omega) ⟨rfl, rfl, trivial⟩ rfl rfl
      · have hfp : fewP x.p = false := by unfold fewP; rw [decide_eq_false hxl, Bool.false_and]
        rw [hfp, Bool.false_and] at hall
        repeat (first | ((first | apply H.move | apply H.assign | apply H.len_slice); (iterate 3 exact rfl)) | (apply H.fieldAddr; (iterate 3 exact rfl); exact inferInstance; exact rfl) | (first | apply H.seq | apply H.region | apply H.nil | apply H.then_normal) | ((apply H.cmp); (iterate 5 exact rfl)) | (first | apply H.skip | apply H.ret | apply H.then_ret | apply H.block | apply H.in_ret | apply H.loop_ret) | (apply H.cond_yes; exact rfl; (omega)) | (refine H.index_slice rfl rfl rfl rfl hlt rfl ?_) | (refine H.load1 rfl rfl rfl (rdm _) rfl ?_))
        exact H.ret1 rfl rfl (fun _ h => h) ⟨by rw [hall], rfl, rfl⟩
    · have hil : i = l.length := by omega
      rw [hil, List.drop_length] at hall
      repeat (first | ((first | apply H.move | apply H.assign | apply H.len_slice); (iterate 3 exact rfl)) | (first | apply H.seq | apply H.region | apply H.nil | apply H.then_normal) | ((apply H.cmp); (iterate 5 exact rfl)) | (first | apply H.ret | apply H.then_exit | apply H.exit | apply H.in_hit | apply H.loop_exit) | (apply H.cond_no; exact rfl; (omega)))
      exact H.ret1 rfl rfl (fun _ h => h) ⟨by rw [hall]; rfl, rfl, rfl⟩
  · have hf : fewS l = false := by unfold fewS; rw [decide_eq_false hlen, Bool.false_and]
    rw [hf]
    refine Fn.enter Try.func16 rfl Try.ntmps16 rfl (L := [(0, _)]) ⟨rfl, trivial⟩ fun base => ?_
    repeat (first | ((first | apply H.move | apply H.assign | apply H.len_slice); (iterate 3 exact rfl)) | (first | apply H.seq | apply H.region | apply H.nil | apply H.then_normal) | ((apply H.cmp); (iterate 5 exact rfl)) | (first | apply H.ret | apply H.then_ret) | (apply H.cond_yes; exact rfl; (omega)))
    exact H.ret1 rfl rfl (fun _ h => h) ⟨rfl, rfl, rfl⟩
end
end Go.Proofs.Ytcaofnfemogleaa

/- Layer 24: where there is no net. -/
namespace Go.Proofs.Ytcaofnfemogleaa
set_option linter.unusedSectionVars false
set_option linter.unusedSimpArgs false
set_option linter.unusedVariables false
open Go
section
variable (f : Frag) (F : List HP)
set_option maxHeartbeats 800000 in
theorem netNil_fn (p : Pkt) (k : Int) (hp : ListAt f p.mp 121 MV.vals p.msgs) : Fn Try.prog 6 [.agg p.vals.toArray, .int .i64 k] f F (Ret (.bool true) f F) := by
  cases hf : fewS [(⟨0, p, 0, 0⟩ : Stp)] with
  | false =>
    have hn : (!false) = true := rfl
    refine Fn.enter Try.func6 rfl Try.ntmps6 rfl (L := [(0, _), (1, _)]) ⟨rfl, rfl, trivial⟩ fun base => ?_
    repeat ((first | apply H.seq | apply H.region))
    refine H.box (ls := p.vals) rfl rfl rfl rfl fun pb => ?_
    repeat (first | ((apply H.assign); (iterate 3 exact rfl)) | (first | apply H.seq | apply H.region | apply H.nil | apply H.then_normal))
    refine H.loadN (ls := p.vals) rfl rfl rfl (Rd.ofRow (by repeat (first | exact .here _ _ _ | apply At.there))) rfl rfl ?_
    repeat (((apply H.build); (iterate 5 exact rfl)))
    refine H.buildSlice (out := (⟨0, p, 0, 0⟩ : Stp).vals) rfl rfl rfl rfl (by decide) (by decide) rfl rfl fun eb => ?_
    refine H.asSlc (k := 1) (sz := 17) rfl (by decide) ?_
    refine H.freeze (.here _ _) fun g hg hd => ?_
    have hg' : slc (some ⟨eb, 0, none⟩) [(⟨0, p, 0, 0⟩ : Stp)].length 1 50 17 ([(⟨0, p, 0, 0⟩ : Stp)].flatMap Stp.vals) g := by rw [List.flatMap_cons, List.flatMap_nil, List.append_nil]; exact hg
    have hat := (slc_listAt (xs := [(⟨0, p, 0, 0⟩ : Stp)]) Stp.len hg').mono (Le.right hd)
    have hfew := fun G => few_fn (un f g) G (c := 1) hat (fun x hx => by rw [List.mem_singleton] at hx; subst hx; exact hp.mono (Le.un f g))
    rw [hf] at hfew
    refine H.callR rfl rfl rfl (hfew _) ?_
    refine H.weaken (Le.un f g) ?_
    clear hfew hat hg' hg hd hf hp
    repeat (first | (first | apply H.seq | apply H.region | apply H.nil | apply H.then_normal) | ((apply H.not); (iterate 4 exact rfl)) | (apply H.cond_true; exact rfl))
    refine H.callR rfl rfl rfl (works_fn f _) ?_
    repeat (first | ((apply H.assign); (iterate 3 exact rfl)) | (first | apply H.nil | apply H.then_normal) | (first | apply H.ret | apply H.then_ret))
    refine H.drop (.here _ _) ?_
    exact H.ret1 rfl rfl (fun _ h => h) ⟨rfl, rfl, rfl⟩
  | true =>
    have hn : (!true) = false := rfl
    refine Fn.enter Try.func6 rfl Try.ntmps6 rfl (L := [(0, _), (1, _)]) ⟨rfl, rfl, trivial⟩ fun base => ?_
    repeat ((first | apply H.seq | apply H.region))
    refine H.box (ls := p.vals) rfl rfl rfl rfl fun pb => ?_
    repeat (first | ((apply H.assign); (iterate 3 exact rfl)) | (first | apply H.seq | apply H.region | apply H.nil | apply H.then_normal))
    refine H.loadN (ls := p.vals) rfl rfl rfl (Rd.ofRow (by repeat (first | exact .here _ _ _ | apply At.there))) rfl rfl ?_
    repeat (((apply H.build); (iterate 5 exact rfl)))
    refine H.buildSlice (out := (⟨0, p, 0, 0⟩ : Stp).vals) rfl rfl rfl rfl (by decide) (by decide) rfl rfl fun eb => ?_
    refine H.asSlc (k := 1) (sz := 17) rfl (by decide) ?_
    refine H.freeze (.here _ _) fun g hg hd => ?_
    have hg' : slc (some ⟨eb, 0, none⟩) [(⟨0, p, 0, 0⟩ : Stp)].length 1 50 17 ([(⟨0, p, 0, 0⟩ : Stp)].flatMap Stp.vals) g := by rw [List.flatMap_cons, List.flatMap_nil, List.append_nil]; exact hg
    have hat := (slc_listAt (xs := [(⟨0, p, 0, 0⟩ : Stp)]) Stp.len hg').mono (Le.right hd)
    have hfew := fun G => few_fn (un f g) G (c := 1) hat (fun x hx => by rw [List.mem_singleton] at hx; subst hx; exact hp.mono (Le.un f g))
    rw [hf] at hfew
    refine H.callR rfl rfl rfl (hfew _) ?_
    refine H.weaken (Le.un f g) ?_
    clear hfew hat hg' hg hd hf hp
    repeat (first | ((first | apply H.move | apply H.assign); (iterate 3 exact rfl)) | (first | apply H.seq | apply H.region | apply H.nil | apply H.then_normal) | ((apply H.not); (iterate 4 exact rfl)) | (apply H.cond_false; exact rfl) | (apply H.skip))
    refine H.callR rfl rfl rfl (netTake_nil f _ k) ?_
    repeat (first | ((apply H.move); (iterate 3 exact rfl)) | ((apply H.extract); (iterate 4 exact rfl)))
    refine H.alloc (ls := Pkt.zero.vals) rfl rfl rfl fun qb => ?_
    refine H.storeN (ls := Pkt.zero.vals) (vs := Pkt.zero.vals) (ls' := Pkt.zero.vals) rfl rfl rfl (allOne_mem rfl) rfl rfl (Nat.le_refl 14) (by repeat (first | exact .here _ _ _ | apply At.there)) ?_
    repeat (first | ((first | apply H.move | apply H.assign); (iterate 3 exact rfl)) | (first | apply H.seq | apply H.region | apply H.nil | apply H.then_normal))
    refine H.callR rfl rfl rfl (netHeal_nil f _) ?_
    repeat (first | ((apply H.move); (iterate 3 exact rfl)) | (first | apply H.seq | apply H.region | apply H.nil | apply H.then_normal))
    refine H.loadN (ls := p.vals) rfl rfl rfl (Rd.ofRow (by repeat (first | exact .here _ _ _ | apply At.there))) rfl rfl ?_
    refine H.callR rfl rfl rfl (netPut_nil f _) ?_
    repeat (first | (refine H.not (c := true) rfl rfl rfl rfl ?_) | ((apply H.move); (iterate 3 exact rfl)) | ((apply H.cmp); (iterate 5 exact rfl)) | (apply H.pickT; (iterate 4 exact rfl)))
    refine H.callR rfl rfl rfl (netDrop_nil f _ k) ?_
    repeat (first | (refine H.not (c := true) rfl rfl rfl rfl ?_) | ((apply H.move); (iterate 3 exact rfl)) | (apply H.pickT; (iterate 4 exact rfl)))
    refine H.callR rfl rfl rfl (netTwice_nil f _ k) ?_
    repeat (first | ((apply H.move); (iterate 3 exact rfl)) | ((apply H.cmp); (iterate 5 exact rfl)) | (apply H.pickT; (iterate 4 exact rfl)) | (apply H.gyes; (iterate 3 exact rfl); (omega)))
    refine H.callR rfl rfl rfl (netCut_nil f _ 1 2) ?_
    repeat (first | ((apply H.move); (iterate 3 exact rfl)) | ((apply H.cmp); (iterate 5 exact rfl)) | (apply H.pickT; (iterate 4 exact rfl)) | (apply H.gyes; (iterate 3 exact rfl); (omega)))
    refine H.callR rfl rfl rfl (netLen_nil f _) ?_
    repeat (first | ((apply H.move); (iterate 3 exact rfl)) | ((apply H.cmp); (iterate 5 exact rfl)) | (apply H.pickT; (iterate 4 exact rfl)) | (apply H.gyes; (iterate 3 exact rfl); (omega)))
    refine H.callR rfl rfl rfl (works_fn f _) ?_
    repeat (first | ((apply H.assign); (iterate 3 exact rfl)) | (first | apply H.nil | apply H.then_normal) | (apply H.pickT; (iterate 4 exact rfl)) | (apply H.ret))
    refine H.drop (.here _ _) ?_
    refine H.drop (.here _ _) ?_
    exact H.ret1 rfl rfl (fun _ h => h) ⟨rfl, rfl, rfl⟩
end
end Go.Proofs.Ytcaofnfemogleaa

/- Layer 24: the laws' arguments. -/
namespace Go.Proofs.Ytcaofnfemogleaa
set_option linter.unusedSectionVars false
set_option linter.unusedSimpArgs false
set_option linter.unusedVariables false
open Go Go.ChangeShapes Go.WideShapes Go.RowKit Go.Deep
theorem Try.own : ownKnob Try.prog.godebug = none := by kernel_rfl
theorem Try.laidOut : laidOutB Try.prog = true := by kernel_rfl
/-! ### Cells of arrays, strings and structs -/
theorem Reads.string {P : Program} {W : World} {t : TypeId} {cs : List Value} (ht : P.underlying t = some .string) (h : Reads P W t cs) : ∃ s : ByteArray, cs = [.string s] ∧ s.size ≤ maxLen := by
  obtain ⟨H', enc, b, sp, hd, n, x, h⟩ := h
  obtain ⟨s, h1, _, h2⟩ := DataW.trod_string ht h
  exact ⟨s, h1, h2⟩
theorem pieces_one : ∀ (n : Nat) (cs : List Value) (g : Nat → Value), cs.length = n → (∀ i, i < n → (cs.drop i).take 1 = [g i]) → cs = (List.range n).map g := by
  intro n cs g hl h
  apply List.ext_getElem?
  intro i
  rw [List.getElem?_map]
  by_cases hi : i < n
  · rw [List.getElem?_range hi]
    have h1 := congrArg (fun l => l[0]?) (h i hi)
    simp only [List.getElem?_take, List.getElem?_drop] at h1
    simpa using h1
  · rw [List.getElem?_eq_none (by omega), List.getElem?_eq_none (by simpa using hi)]; rfl
theorem Reads.ints {P : Program} {W : World} {t e : TypeId} {n : Nat} {k : IntKind} {cs : List Value} (ht : P.underlying t = some (.array n e)) (he : P.underlying e = some (.int k)) (h1 : P.cellsOf e = 1) (hn : P.cellsOf t = n) (h : Reads P W t cs) :
    ∃ d : Nat → Int, cs = (List.range n).map (fun i => .int k (d i)) ∧ ∀ i, i < n → k.min ≤ d i ∧ d i ≤ k.max := by
  obtain ⟨H', enc, b, sp, hd, fu, x, h⟩ := h
  obtain ⟨xs, m, rfl, rfl, hlen, hl, hel⟩ := DataW.trod_array ht h
  have key : ∀ i, ∃ z, i < n → (cs.drop i).take 1 = [.int k z] ∧ k.min ≤ z ∧ z ≤ k.max := fun i => by
    by_cases hi : i < n
    · have h2 := hel i hi
      rw [h1, Nat.mul_one, List.getElem?_eq_getElem (by omega)] at h2
      have h3 : Reads P W e ((cs.drop i).take 1) := ⟨H', enc, b, sp, hd, m, _, h2⟩
      obtain ⟨z, e1, e2⟩ := h3.int he
      exact ⟨z, fun _ => ⟨e1, e2⟩⟩
    · exact ⟨0, fun h => absurd h hi⟩
  refine ⟨fun i => (key i).choose, pieces_one n cs (fun i => .int k (key i).choose) (by rw [hlen, hn]) fun i hi => ((key i).choose_spec hi).1, fun i hi => ((key i).choose_spec hi).2⟩
def AllReads (P : Program) (W : World) : List TypeId → List (List Value) → Prop
  | [], [] => True
  | t :: ts, p :: ps => Reads P W t p ∧ AllReads P W ts ps
  | _, _ => False
def contigB (P : Program) (end_ : Nat) : List Field → Nat → Bool
  | [], a => Nat.beq a end_
  | f :: r, a => Nat.beq f.offset a && contigB P end_ r (a + P.cellsOf f.type)
theorem parts_of {P : Program} {W : World} {cs : List Value} {m : Nat} (hm : cs.length = m) : ∀ (l : List Field) (a : Nat), (∀ f ∈ l, Reads P W f.type ((cs.drop f.offset).take (P.cellsOf f.type))) → contigB P m l a = true →
    ∃ ps : List (List Value), cs.drop a = ps.flatten ∧ AllReads P W (l.map (·.type)) ps
  | [], a, _, hc => ⟨[], by
      have : a = m := Nat.eq_of_beq_eq_true hc
      rw [List.drop_eq_nil_of_le (by omega)]; rfl, trivial⟩
  | f :: r, a, h, hc => by
    simp only [contigB, Bool.and_eq_true] at hc
    have e : f.offset = a := Nat.eq_of_beq_eq_true hc.1
    obtain ⟨ps, e1, e2⟩ := parts_of hm r (a + P.cellsOf f.type) (fun x hx => h x (by simp [hx])) hc.2
    have h0 := h f (by simp)
    rw [e] at h0
    refine ⟨(cs.drop a).take (P.cellsOf f.type) :: ps, ?_, h0, e2⟩
    rw [List.flatten_cons, ← e1, ← List.drop_drop, List.take_append_drop]
theorem Reads.parts {P : Program} {W : World} {t : TypeId} {cs : List Value} {fs : List Field} (ht : P.underlying t = some (.struct fs.toArray)) (hc : contigB P (P.cellsOf t) fs 0 = true) (h : Reads P W t cs) :
    ∃ ps : List (List Value), cs = ps.flatten ∧ AllReads P W (fs.map (·.type)) ps := by
  obtain ⟨h1, h2⟩ := h.struct ht
  obtain ⟨ps, e1, e2⟩ := parts_of (P := P) (W := W) h1 fs 0 (fun f hf => by
    obtain ⟨i, hi⟩ := List.getElem?_of_mem hf
    exact h2 i f (by simpa using hi)) hc
  exact ⟨ps, by simpa using e1, e2⟩
/-! ### Messages, packets, steps -/
theorem u8_back {z : Int} (h : IntKind.min .u8 ≤ z ∧ z ≤ IntKind.max .u8) : (((UInt8.ofNat z.toNat).toNat : Nat) : Int) = z := by
  have h1 : (0 : Int) ≤ z := h.1
  have h2 : z ≤ 255 := h.2
  rw [UInt8.toNat_ofNat']
  omega
theorem reads_vec {W : World} {cs : List Value} (h : Reads Try.prog W 31 cs) : ∃ d : Nat → Int, cs = v11 d := by
  obtain ⟨d, e, _⟩ := h.ints Try.underlying31 Try.underlying29 (by kernel_rfl) (by kernel_rfl)
  exact ⟨d, e⟩
theorem reads_32 {W : World} {cs : List Value} (h : Reads Try.prog W 54 cs) : ∃ d : Nat → UInt8, cs = b32 d := by
  obtain ⟨d, e, hb⟩ := h.ints Try.underlying54 Try.underlying5 (by kernel_rfl) (by kernel_rfl)
  refine ⟨fun i => UInt8.ofNat (d i).toNat, ?_⟩
  have e2 : b32 (fun i => UInt8.ofNat (d i).toNat) = (List.range 32).map (fun i => Value.int .u8 ((UInt8.ofNat (d i).toNat).toNat : Nat)) := rfl
  rw [e, e2]
  refine List.map_congr_left fun i hi => ?_
  rw [List.mem_range] at hi
  rw [u8_back (hb i hi)]
theorem reads_pair {W : World} {cs : List Value} (h : Reads Try.prog W 87 cs) : ∃ x : Int × Int, True ∧ cs = pairV x := by
  obtain ⟨ps, rfl, hh⟩ := h.parts Try.underlying87 (by kernel_rfl)
  have h : AllReads Try.prog W [3, 29] ps := hh
  match ps, h with
  | [p0, p1], ⟨r0, r1, _⟩ =>
    obtain ⟨z0, rfl, _⟩ := r0.int Try.underlying3
    obtain ⟨z1, rfl, _⟩ := r1.int Try.underlying29
    exact ⟨(z0, z1), trivial, rfl⟩
theorem reads_op {W : World} {cs : List Value} (h : Reads Try.prog W 53 cs) : ∃ (k : UInt8) (a b c d : ByteArray) (n : Int), cs = [.int .u8 (k.toNat : Nat), .string a, .string b, .string c, .string d, .int .u64 n] ∧ 0 ≤ n ∧ n ≤ 18446744073709551615 := by
  obtain ⟨ps, rfl, hh⟩ := h.parts Try.underlying53 (by kernel_rfl)
  have h : AllReads Try.prog W [5, 9, 9, 9, 9, 29] ps := hh
  match ps, h with
  | [p0, p1, p2, p3, p4, p5], ⟨r0, r1, r2, r3, r4, r5, _⟩ =>
    obtain ⟨z0, rfl, hz⟩ := r0.int Try.underlying5
    obtain ⟨s1, rfl, _⟩ := r1.string Try.underlying9
    obtain ⟨s2, rfl, _⟩ := r2.string Try.underlying9
    obtain ⟨s3, rfl, _⟩ := r3.string Try.underlying9
    obtain ⟨s4, rfl, _⟩ := r4.string Try.underlying9
    obtain ⟨z5, rfl, h5⟩ := r5.int Try.underlying29
    refine ⟨UInt8.ofNat z0.toNat, s1, s2, s3, s4, z5, ?_, h5⟩
    rw [u8_back hz]
    rfl
theorem reads_req {W : World} {cs : List Value} (h : Reads Try.prog W 56 cs) : ∃ r : Req, r.Ok ∧ cs = r.vals := by
  obtain ⟨ps, rfl, hh⟩ := h.parts Try.underlying56 (by kernel_rfl)
  have h : AllReads Try.prog W [3, 29, 53, 54] ps := hh
  match ps, h with
  | [p0, p1, p2, p3], ⟨r0, r1, r2, r3, _⟩ =>
    obtain ⟨z0, rfl, _⟩ := r0.int Try.underlying3
    obtain ⟨z1, rfl, h1⟩ := r1.int Try.underlying29
    obtain ⟨k, a, b, c, d, n, rfl, hn⟩ := reads_op r2
    obtain ⟨t, rfl⟩ := reads_32 r3
    exact ⟨⟨z0, z1, k, a, b, c, d, n, t⟩, ⟨h1, hn⟩, rfl⟩
theorem reads_body {W : World} {cs : List Value} (h : Reads Try.prog W 59 cs) : ∃ (x : Bod) (q : Option Addr) (c : Nat), x.Ok ∧ QAt (memOf W) q x.q ∧ cs = x.vals q c := by
  obtain ⟨ps, rfl, hh⟩ := h.parts Try.underlying59 (by kernel_rfl)
  have h : AllReads Try.prog W [5, 29, 29, 56, 57, 54] ps := hh
  match ps, h with
  | [p0, p1, p2, p3, p4, p5], ⟨r0, r1, r2, r3, r4, r5, _⟩ =>
    obtain ⟨z0, rfl, hz⟩ := r0.int Try.underlying5
    obtain ⟨z1, rfl, h1⟩ := r1.int Try.underlying29
    obtain ⟨z2, rfl, h2⟩ := r2.int Try.underlying29
    obtain ⟨r, hr, rfl⟩ := reads_req r3
    obtain ⟨p, c, xs, rfl, _, _, _, hat⟩ := r4.list (sz := 2) Try.underlying57 (by kernel_rfl) (by decide) fun cs => reads_pair
    obtain ⟨t, rfl⟩ := reads_32 r5
    refine ⟨⟨UInt8.ofNat z0.toNat, z1, z2, r, xs, t⟩, p, c, ⟨h1, h2, hr⟩, hat, ?_⟩
    unfold Bod.vals
    rw [u8_back hz]
    rfl
/-- A message that stands in memory; its pairs may be many. -/
def MV.Has (f : Frag) (x : MV) : Prop := QAt f x.qp x.m.body.q ∧ x.m.body.Ok
theorem reads_msg {W : World} {cs : List Value} (h : Reads Try.prog W 61 cs) : ∃ x : MV, x.Has (memOf W) ∧ cs = x.vals := by
  obtain ⟨ps, rfl, hh⟩ := h.parts Try.underlying61 (by kernel_rfl)
  have h : AllReads Try.prog W [3, 29, 31, 59, 54] ps := hh
  match ps, h with
  | [p0, p1, p2, p3, p4], ⟨r0, r1, r2, r3, r4, _⟩ =>
    obtain ⟨z0, rfl, _⟩ := r0.int Try.underlying3
    obtain ⟨z1, rfl, _⟩ := r1.int Try.underlying29
    obtain ⟨d, rfl⟩ := reads_vec r2
    obtain ⟨x, q, c, hx, hq, rfl⟩ := reads_body r3
    obtain ⟨t, rfl⟩ := reads_32 r4
    exact ⟨⟨⟨z0, z1, d, x, t⟩, q, c⟩, ⟨hq, hx⟩, rfl⟩
/-- A packet that stands in memory; its messages may be many. -/
def Pkt.Has (f : Frag) (p : Pkt) : Prop := ListAt f p.mp 121 MV.vals p.msgs ∧ ∀ x ∈ p.msgs, x.Has f
theorem reads_pkt {W : World} {cs : List Value} (h : Reads Try.prog W 34 cs) : ∃ p : Pkt, p.Has (memOf W) ∧ cs = p.vals := by
  obtain ⟨ps, rfl, hh⟩ := h.parts Try.underlying34 (by kernel_rfl)
  have h : AllReads Try.prog W [3, 3, 31, 32] ps := hh
  match ps, h with
  | [p0, p1, p2, p3], ⟨r0, r1, r2, r3, _⟩ =>
    obtain ⟨z0, rfl, _⟩ := r0.int Try.underlying3
    obtain ⟨z1, rfl, _⟩ := r1.int Try.underlying3
    obtain ⟨d, rfl⟩ := reads_vec r2
    obtain ⟨p, c, xs, rfl, _, _, hall, hat⟩ := r3.list (sz := 121) Try.underlying32 (by kernel_rfl) (by decide) fun cs => reads_msg
    exact ⟨⟨z0, z1, d, xs, p, c⟩, ⟨hat, hall⟩, rfl⟩
theorem reads_step {W : World} {cs : List Value} (h : Reads Try.prog W 50 cs) : ∃ x : Stp, (x.p.Has (memOf W) ∧ 0 ≤ x.act ∧ x.act ≤ 255) ∧ cs = x.vals := by
  obtain ⟨ps, rfl, hh⟩ := h.parts Try.underlying50 (by kernel_rfl)
  have h : AllReads Try.prog W [5, 34, 3, 3] ps := hh
  match ps, h with
  | [p0, p1, p2, p3], ⟨r0, r1, r2, r3, _⟩ =>
    obtain ⟨z0, rfl, h0⟩ := r0.int Try.underlying5
    obtain ⟨p, hp, rfl⟩ := reads_pkt r1
    obtain ⟨z2, rfl, _⟩ := r2.int Try.underlying3
    obtain ⟨z3, rfl, _⟩ := r3.int Try.underlying3
    exact ⟨⟨z0, p, z2, z3⟩, ⟨hp, h0⟩, rfl⟩
/-- Few messages, few pairs: good. -/
theorem good_of_few {f : Frag} {p : Pkt} (h : p.Has f) (hf : fewP p = true) : p.Good f := by
  unfold fewP fewM at hf
  simp only [Bool.and_eq_true, decide_eq_true_eq, List.all_eq_true] at hf
  exact ⟨h.1, fun x hx => ⟨(h.2 x hx).1, by have := hf.2 x hx; omega, (h.2 x hx).2⟩, by omega⟩
end Go.Proofs.Ytcaofnfemogleaa

/- Layer 24: the program's net and the document's say the same (plain law, no program in sight). -/
namespace Go.Proofs.Ytcaofnfemogleaa
set_option linter.unusedSectionVars false
set_option linter.unusedSimpArgs false
set_option linter.unusedVariables false
open Go
/-- The same packets, the same pairs cut. -/
def Rel (c r : NetC) : Prop := c.row = r.row ∧ ∀ i j : Nat, 1 ≤ i → i ≤ 11 → 1 ≤ j → j ≤ 11 → c.lost (i * 12 + j) = r.lost ((i - 1) * 11 + (j - 1))
theorem Rel.push {c r : NetC} (h : Rel c r) (p : Core) : (c.push p).1 = (r.push p).1 ∧ Rel (c.push p).2 (r.push p).2 := by
  unfold NetC.push
  rw [← h.1]
  split
  · exact ⟨rfl, h⟩
  · exact ⟨rfl, by rw [h.1], h.2⟩
theorem Rel.put {c r : NetC} (h : Rel c r) (p : Core) : (c.put p).1 = (r.rput p).1 ∧ Rel (c.put p).2 (r.rput p).2 := by
  unfold NetC.put NetC.rput
  by_cases hm : p.may = true
  · rw [if_pos hm, if_pos hm]
    obtain ⟨h1, h2, h3, h4, _⟩ := pairP_of_may hm
    rw [h.2 p.src.toNat p.dst.toNat (by omega) (by omega) (by omega) (by omega)]
    split
    · exact ⟨rfl, h⟩
    · exact h.push p
  · rw [if_neg hm, if_neg hm]
    exact ⟨rfl, h⟩
theorem Rel.twice {c r : NetC} (h : Rel c r) (k : Int) : (c.twice k).1 = (r.twice k).1 ∧ Rel (c.twice k).2 (r.twice k).2 := by
  unfold NetC.twice
  rw [← h.1]
  split
  · exact h.push _
  · exact ⟨rfl, h⟩
theorem Rel.got {c r : NetC} (h : Rel c r) (k : Int) : c.got k = r.got k := by unfold NetC.got; rw [h.1]
theorem Rel.took {c r : NetC} (h : Rel c r) (k : Int) : Rel (c.took k) (r.took k) := by
  unfold NetC.took
  split
  · exact ⟨by rw [h.1], h.2⟩
  · exact h
theorem Rel.cut {c r : NetC} (h : Rel c r) (i j : Int) : (c.cut i j).1 = (r.rcut i j).1 ∧ Rel (c.cut i j).2 (r.rcut i j).2 := by
  unfold NetC.cut NetC.rcut
  split
  · rename_i hp
    obtain ⟨h1, h2, h3, h4, _⟩ := hp
    refine ⟨rfl, h.1, fun a b a1 a2 b1 b2 => ?_⟩
    show updB (updB c.lost _ true) _ true _ = updB (updB r.lost _ true) _ true _
    have := h.2 a b a1 a2 b1 b2
    unfold updB
    have e1 : a * 12 + b = j.toNat * 12 + i.toNat ↔ (a - 1) * 11 + (b - 1) = (j.toNat - 1) * 11 + (i.toNat - 1) := by omega
    have e2 : a * 12 + b = i.toNat * 12 + j.toNat ↔ (a - 1) * 11 + (b - 1) = (i.toNat - 1) * 11 + (j.toNat - 1) := by omega
    simp only [e1, e2, this]
  · exact ⟨rfl, h⟩
theorem Rel.heal {c r : NetC} (h : Rel c r) : Rel { c with lost := fun _ => false } { r with lost := fun _ => false } := ⟨h.1, fun _ _ _ _ _ _ => rfl⟩
end Go.Proofs.Ytcaofnfemogleaa

/- The engine, part o: a whole element of an owned slice is turned. No program in sight; no conditions. -/
namespace Go.Proofs.Ytcaofnfemogleaa
set_option linter.unusedSectionVars false
set_option linter.unusedSimpArgs false
set_option linter.unusedVariables false
open Go
theorem flat_splice {α : Type} {vals : α → List Value} {sz : Nat} (hv : ∀ x, (vals x).length = sz) {xs : List α} {i : Nat} (z : α) (hi : i < xs.length) (sp : List Value) :
    splice (xs.flatMap vals ++ sp) (i * sz) (vals z) = (xs.set i z).flatMap vals ++ sp := by
  have hx : xs[i]? = some xs[i] := List.getElem?_eq_getElem hi
  have hl : ((xs.take i).flatMap vals).length = i * sz := by rw [flat_len hv, List.length_take, Nat.min_eq_left (by omega)]
  have h2 : (xs.set i z)[i]? = some z := by rw [List.getElem?_set_self hi]
  have e1 : (xs.set i z).take i = xs.take i := by rw [List.take_set_of_le (Nat.le_refl _)]
  have e2 : (xs.set i z).drop (i + 1) = xs.drop (i + 1) := by rw [List.drop_set_of_lt (by omega)]
  rw [flat_split xs hx, flat_split (xs.set i z) h2, e1, e2]
  generalize (xs.take i).flatMap vals = pre at hl
  unfold splice
  have e3 : pre ++ vals xs[i] ++ (xs.drop (i + 1)).flatMap vals ++ sp = pre ++ (vals xs[i] ++ ((xs.drop (i + 1)).flatMap vals ++ sp)) := by simp
  rw [e3, ← hl, List.take_left, hv z, ← hv xs[i], ← List.drop_drop, List.drop_left, List.drop_left]
  simp
section
variable {P : Program} {base : World} {n : Nat} {L : Env} {f : Frag} {A : List HP} {q : Post} {l rest : List Oper} {ty : TypeId} {pos : String} {af : Array Edge} {gd : Option (Nat × Bool)}
theorem H.storeE {α : Type} {vals : α → List Value} {sz : Nat} {t : TypeId} {x y : Operand} {b n0 c : Nat} {T : TypeId} {xs : List α} {i : Nat} {z : α} {A' : List HP} [hs : Siz P t sz] (hv : ∀ x, (vals x).length = sz) (h0 : 0 < sz) (hone : ∀ v ∈ vals z, one v = true) (hw : want? l L gd = true)
    (hx : ev? L x = some (.pointer (some ⟨b, i * sz, none⟩))) (hy : ev? L y = some (.agg (vals z).toArray)) (hi : i < xs.length)
    (hA : At A (slc (some ⟨b, 0, none⟩) n0 c T sz (xs.flatMap vals)) A' (slc (some ⟨b, 0, none⟩) n0 c T sz ((xs.set i z).flatMap vals)))
    (k : H P base n L f A' (.ops l rest q)) : H P base n L f A (.ops l (⟨none, .store t x y, ty, pos, af, gd⟩ :: rest) q) :=
  H.opS hw (fun a w hfr s => by
    obtain ⟨hl, hc, h3⟩ := s.slc_at hA
    have hn : xs.length = n0 := by
      rw [flat_len hv] at hl
      exact Nat.eq_of_mul_eq_mul_right h0 hl
    rcases h3 with ⟨e, _⟩ | ⟨b', sp, e, hnc, hcs, hb⟩
    · omega
    · cases e
      have hle : i * sz + (vals z).length ≤ (xs.flatMap vals ++ sp).length := by
        rw [List.length_append, flat_len hv, hv]
        have : (i + 1) * sz ≤ xs.length * sz := Nat.mul_le_mul_right _ hi
        rw [Nat.add_mul] at this
        omega
      have h1 := run_storeCells (P := P) (off := i * sz) (vals z) (xs.flatMap vals ++ sp) 0 w hb hone hle
      have hne : vals z ≠ [] := by intro h; have := hv z; rw [h] at this; simp at this; omega
      rw [if_neg hne, Nat.add_zero, flat_splice hv z hi] at h1
      refine ⟨World.putRow' w b T ((xs.set i z).flatMap vals ++ sp), ?_, s.turnRow hA (b := b) (o' := .cells ((xs.set i z).flatMap vals ++ sp).toArray T (0, 0)) ?_ rfl rfl rfl ?_ ?_⟩
      · simp only [execOp, hfr.eval hx, hfr.eval hy, Instr.storeAt, Instr.sureAddr, storeVar, Value.cells, Sem.run_bind, Sem.run_pure, Result.andThen_ok, hs.run, List.size_toArray, hv]
        simp [h1]
      · rintro m1 ⟨_, _, h⟩
        rcases h with ⟨h, _⟩ | ⟨b', sp', h, _, hcs', rfl⟩
        · omega
        · cases h; exact ⟨_, rfl⟩
      · rfl
      · have e4 : ((xs.set i z).flatMap vals).length = (xs.flatMap vals).length := by rw [flat_len hv, flat_len hv, List.length_set]
        refine ⟨by rw [e4]; exact hl, hc, .inr ⟨b, sp, rfl, hnc, ?_, rfl⟩⟩
        rw [List.length_append, e4, ← List.length_append]
        exact hcs) k
end
end Go.Proofs.Ytcaofnfemogleaa

/- Layer 24: NetPlays. -/
namespace Go.Proofs.Ytcaofnfemogleaa
set_option linter.unusedSectionVars false
set_option linter.unusedSimpArgs false
set_option linter.unusedVariables false
open Go
def Stp.zero : Stp := ⟨0, Pkt.zero, 0, 0⟩
theorem Stp.pvals (x : Stp) : x.vals = [.int .u8 x.act] ++ x.p.vals ++ [.int .i64 x.k, .int .i64 x.j] := rfl
theorem stp_pkt {f : Frag} {A A' : List HP} {xb : Nat} {T : TypeId} {x : Stp} (h : At A (row xb T x.vals) A' (row xb T x.vals)) : Rd f A xb (0 + 1) x.p.vals := by
  have h1 := Rd.ofRow (f := f) h
  rw [Stp.pvals] at h1
  exact h1.sub rfl
theorem Rel.len {N R : NetM} (h : Rel N.core R.core) : N.row.length = R.row.length := by
  have := congrArg List.length h.1
  rwa [NetM.core_len, NetM.core_len] at this
theorem tmod6 {z : Int} (h0 : 0 ≤ z) : z.tmod 6 = 0 ∨ z.tmod 6 = 1 ∨ z.tmod 6 = 2 ∨ z.tmod 6 = 3 ∨ z.tmod 6 = 4 ∨ z.tmod 6 = 5 := by
  rw [Int.tmod_eq_emod_of_nonneg h0]
  omega
theorem fewS_len {xs : List Stp} (h : fewS xs = true) : xs.length ≤ 300 := by
  unfold fewS at h
  simp only [Bool.and_eq_true, decide_eq_true_eq] at h
  exact h.1
theorem fewS_good {f : Frag} {xs : List Stp} (h : fewS xs = true) (hh : ∀ x ∈ xs, x.p.Has f) : ∀ x ∈ xs, x.p.Good f := fun x hx => by
  unfold fewS at h
  simp only [Bool.and_eq_true, List.all_eq_true] at h
  exact good_of_few (hh x hx) (h.2 x hx)
theorem un_swap {e m g : Frag} (h1 : Dj e m) (h2 : Dj (un e m) g) : un (un e m) g = un (un e g) m ∧ Dj (un e g) m ∧ Dj e g := by
  have h3 := Dj.un_left.1 h2
  refine ⟨?_, Dj.un_left.2 ⟨h1, h3.2.symm⟩, h3.1⟩
  rw [un_assoc, un_assoc, un_comm h3.2]
theorem took_len {N : NetM} {N' : NetM} {k : Int} (h : N'.core = N.core.took k) (h0 : 0 ≤ k) (h1 : k < N.row.length) : N'.row.length = N.row.length - 1 := by
  have := congrArg (fun c => c.row.length) h
  simp only [NetM.core_len] at this
  rw [this]
  unfold NetC.took
  rw [if_pos h0]
  show (N.core.row.eraseIdx k.toNat).length = _
  rw [List.length_eraseIdx_of_lt (by rw [NetM.core_len]; omega), NetM.core_len]
section
variable (f : Frag) (F : List HP)
set_option maxRecDepth 20000 in
set_option maxHeartbeats 1600000 in
theorem netPlays_fn {p : Option Addr} {c : Nat} {xs : List Stp} (hat : ListAt f p 17 Stp.vals xs) (hh : ∀ x ∈ xs, x.p.Has f ∧ 0 ≤ x.act ∧ x.act ≤ 255) :
    Fn Try.prog 4 [.slice p xs.length c] f F (Ret (.bool true) f F) := by
  have hfew := few_fn f F (c := c) hat (fun x hx => (hh x hx).1.1)
  cases hf : fewS xs with
  | false =>
    rw [hf] at hfew
    clear hf
    have hn : (!false) = true := rfl
    refine Fn.enter Try.func4 rfl Try.ntmps4 rfl (L := [(0, _)]) ⟨rfl, trivial⟩ fun base => ?_
    repeat (first | ((first | apply H.move | apply H.assign); (iterate 3 exact rfl)) | (first | apply H.seq | apply H.region | apply H.nil | apply H.then_normal))
    refine H.callR rfl rfl rfl hfew ?_
    repeat (first | (first | apply H.seq | apply H.region | apply H.nil | apply H.then_normal) | ((apply H.not); (iterate 4 exact rfl)) | (apply H.cond_true; exact rfl))
    refine H.callR rfl rfl rfl (works_fn f _) ?_
    repeat (first | ((apply H.assign); (iterate 3 exact rfl)) | (first | apply H.nil | apply H.then_normal) | (first | apply H.ret | apply H.then_ret))
    exact H.ret1 rfl rfl (fun _ h => h) ⟨rfl, rfl, rfl⟩
  | true =>
    have hgood := fewS_good hf fun x hx => (hh x hx).1
    have hact : ∀ x ∈ xs, 0 ≤ x.act := fun x hx => (hh x hx).2.1
    have hlen := fewS_len hf
    rw [hf] at hfew
    clear hf hh
    have hn : (!true) = false := rfl
    refine Fn.enter Try.func4 rfl Try.ntmps4 rfl (L := [(0, _)]) ⟨rfl, trivial⟩ fun base => ?_
    repeat (first | ((first | apply H.move | apply H.assign); (iterate 3 exact rfl)) | (first | apply H.seq | apply H.region | apply H.nil | apply H.then_normal))
    refine H.callR rfl rfl rfl hfew ?_
    clear hfew
    repeat (first | (first | apply H.seq | apply H.region | apply H.nil | apply H.then_normal) | ((apply H.not); (iterate 4 exact rfl)) | (apply H.cond_false; exact rfl) | (apply H.skip))
    clear hn
    refine H.callE rfl rfl rfl (netNew_fn f F f) fun nb => ?_
    repeat (first | ((apply H.assign); (iterate 3 exact rfl)) | (first | apply H.seq | apply H.region | apply H.nil | apply H.then_normal) | ((apply H.build); (iterate 5 exact rfl)))
    refine H.box (ls := .slice none 0 0 :: lostV (fun _ => false) 121) rfl rfl rfl rfl fun rb => ?_
    refine H.slc0 34 14 ?_
    refine H.front (x := row rb _ _) (by repeat (first | exact .here _ _ | apply Pull.there)) ?_
    refine H.imp (refH_fold (h := f) (N := NetM.new) (none, 0) ⟨(fun p hp => by cases hp), Nat.zero_le _⟩) ?_
    refine H.front (x := netH _ _ _) (by repeat (first | exact .here _ _ | apply Pull.there)) ?_
    repeat (first | ((apply H.assign); (iterate 3 exact rfl)) | (first | apply H.seq | apply H.region | apply H.nil | apply H.then_normal) | (apply H.block))
    refine H.loop (ι := Nat × Frag × NetM × NetM) (fun s => [(5, .int .i64 (s.1 : Int)), (0, .slice p xs.length c), (3, .pointer (some ⟨nb, 0, none⟩)), (4, .pointer (some ⟨rb, 0, none⟩))]) (fun s => s.2.1)
      (fun s => netH s.2.1 nb s.2.2.1 :: refH f rb s.2.2.2 :: F) (fun s => s.1 ≤ xs.length ∧ Le f s.2.1 ∧ Rel s.2.2.1.core s.2.2.2.core) (fun s => xs.length - s.1)
      (0, f, NetM.new, NetM.new) ⟨Nat.zero_le _, Le.refl f, rfl, fun _ _ _ _ _ _ => rfl⟩ ⟨rfl, rfl, rfl, rfl, trivial⟩ rfl rfl fun s hs => ?_
    obtain ⟨i, e, N, R⟩ := s
    obtain ⟨hi, hle, hrel0⟩ : i ≤ xs.length ∧ Le f e ∧ Rel N.core R.core := hs
    show H _ _ _ [(5, .int .i64 (i : Int)), _, _, _] e (netH e nb N :: refH f rb R :: F) _
    by_cases hlt : i < xs.length
    · have hx : xs[i]? = some xs[i] := List.getElem?_eq_getElem hlt
      generalize xs[i] = x at hx
      have hxm := List.mem_of_getElem? hx
      have hxg := hgood x hxm
      have hx0 := hact x hxm
      obtain ⟨b, off, cs, T, fr, rfl, hfb, hcs⟩ := hat i x hx
      have rd : ∀ A, Rd e A b (off + i * 17) x.vals := fun A => Rd.imm (hle b _ hfb) hcs
      clear hcs hfb hat
      rcases tmod6 hx0 with hr | hr | hr | hr | hr | hr
      · skip
        repeat (first | ((first | apply H.move | apply H.len_slice); (iterate 3 exact rfl)) | (first | apply H.seq | apply H.region | apply H.nil | apply H.then_normal) | ((apply H.cmp); (iterate 5 exact rfl)) | (first | apply H.skip | apply H.block) | (apply H.cond_yes; exact rfl; (omega)))
        refine H.index_slice rfl rfl rfl rfl hlt rfl ?_
        refine H.loadN (ls := x.vals) rfl rfl rfl (rd _) rfl rfl ?_
        refine H.alloc (ls := Stp.zero.vals) rfl rfl rfl fun xb => ?_
        refine H.storeN (ls := Stp.zero.vals) (vs := x.vals) (ls' := x.vals) rfl rfl rfl (allOne_mem rfl) rfl rfl (Nat.le_refl 17) (by repeat (first | exact .here _ _ _ | apply At.there)) ?_
        repeat (first | (apply H.fieldAddr; (iterate 3 exact rfl); exact inferInstance; exact rfl) | (apply H.load1; (iterate 3 exact rfl); apply Rd1.ofRow; (repeat (exact .here _ _ _)); (iterate 2 exact rfl)) | (first | apply H.seq | apply H.region | apply H.nil | apply H.then_normal))
        refine H.rem rfl rfl rfl (by decide) hr rfl ?_
        repeat (first | ((apply H.assign); (iterate 3 exact rfl)) | (apply H.fieldAddr; (iterate 3 exact rfl); exact inferInstance; exact rfl) | (first | apply H.seq | apply H.region | apply H.nil | apply H.then_normal) | ((apply H.cmp); (iterate 5 exact rfl)) | (apply H.cond_true; exact rfl) | (apply H.block))
        refine H.loadN (ls := x.p.vals) rfl rfl rfl (stp_pkt (by repeat (first | exact .here _ _ _ | apply At.there))) rfl rfl ?_
        refine H.alloc (ls := Pkt.zero.vals) rfl rfl rfl fun ob => ?_
        refine H.storeN (ls := Pkt.zero.vals) (vs := x.p.vals) (ls' := x.p.vals) rfl rfl rfl (allOne_mem rfl) rfl rfl (Nat.le_refl 14) (by repeat (first | exact .here _ _ _ | apply At.there)) ?_
        repeat ((first | apply H.seq | apply H.region | apply H.nil | apply H.then_normal))
        refine H.buildSlice rfl rfl rfl rfl (by decide) (by decide) rfl rfl fun eb => ?_
        refine H.asSlc (k := 0) (sz := 121) rfl (by decide) ?_
        repeat (first | (apply H.fieldAddr; (iterate 3 exact rfl); exact inferInstance; exact rfl) | (apply H.load1; (iterate 3 exact rfl); apply Rd1.ofRow; (repeat (first | exact .here _ _ _ | apply At.there)); (iterate 2 exact rfl)))
        have hml : x.p.msgs.length ≤ 1000000 := hxg.2.2
        have hsrc := (hxg.1.mono hle).src (P := Try.prog) (A := F) (c := x.p.mc) MV.len (by decide)
        refine H.append (xs := []) rfl rfl rfl rfl rfl (fun p' c' => .here _ _ _) (hsrc.cons.cons.cons.cons.cons) (MVs_one x.p.msgs) rfl (by omega) (by omega) fun mp mc => ?_
        rw [Nat.zero_add]
        repeat (first | ((apply H.move); (iterate 3 exact rfl)) | (apply H.fieldAddr; (iterate 3 exact rfl); exact inferInstance; exact rfl) | (first | apply H.seq | apply H.region | apply H.nil | apply H.then_normal) | (apply H.store1; (iterate 4 exact rfl); (repeat (first | exact .here _ _ _ | apply At.there)); (repeat (first | exact .here _ _ _ | apply SetV.there))))
        refine H.freeze (.here _ _) fun m hm hd => ?_
        have hm' : slc mp x.p.msgs.length mc 61 121 (x.p.msgs.flatMap MV.vals) m := hm
        have hog : (⟨x.p.src, x.p.dst, x.p.known, x.p.msgs, mp, mc⟩ : Pkt).Good (un e m) := ⟨(slc_listAt MV.len hm').mono (Le.right hd), fun y hy => ((hxg.2.1 y hy).mono hle).mono (Le.un e m), hml⟩
        have hoc : (⟨x.p.src, x.p.dst, x.p.known, x.p.msgs, mp, mc⟩ : Pkt).core = x.p.core := rfl
        refine H.loadN (ls := (⟨x.p.src, x.p.dst, x.p.known, x.p.msgs, mp, mc⟩ : Pkt).vals) rfl rfl rfl (Rd.ofRow (by repeat (first | exact .here _ _ _ | apply At.there))) rfl rfl ?_
        refine H.front (x := netH _ _ _) (by repeat (first | exact .here _ _ | apply Pull.there)) ?_
        have hput := fun G => netPut_fn (un e m) G e nb N (Le.un e m) hog
        rw [hoc] at hput
        refine H.call rfl rfl rfl (hput _) fun v f2 A' hr => ?_
        obtain ⟨g, N1, rfl, hN1, hd1, rfl, rfl⟩ := hr
        repeat (first | ((apply H.assign); (iterate 3 exact rfl)) | (first | apply H.seq | apply H.region | apply H.nil | apply H.then_normal))
        refine H.loadN (ls := (⟨x.p.src, x.p.dst, x.p.known, x.p.msgs, mp, mc⟩ : Pkt).vals) rfl rfl rfl (Rd.ofRow (by repeat (first | exact .here _ _ _ | apply At.there))) rfl rfl ?_
        have hmay := fun G => netMay_fn (un (un e m) g) G (hog.mono (Le.un _ _))
        rw [Pkt.may_core, hoc] at hmay
        refine H.callR rfl rfl rfl (hmay _) ?_
        clear hput hmay
        repeat (first | ((apply H.assign); (iterate 3 exact rfl)) | (first | apply H.seq | apply H.region | apply H.nil | apply H.then_normal) | (apply H.block))
        obtain ⟨hs1, hs2, hs3⟩ := un_swap hd hd1
        rw [hs1]
        refine H.thaw hm' hs2 ?_
        clear hs1 hs2 hog hm hm' hd hd1 hsrc
        refine H.front (x := refH _ _ _) (by repeat (first | exact .here _ _ | apply Pull.there)) ?_
        refine H.front (x := netH _ _ _) (by repeat (first | exact .here _ _ | apply Pull.there)) ?_
        refine H.front (x := row xb _ _) (by repeat (first | exact .here _ _ | apply Pull.there)) ?_
        refine H.front (x := row ob _ _) (by repeat (first | exact .here _ _ | apply Pull.there)) ?_
        refine H.front (x := slc _ _ _ _ _ _) (by repeat (first | exact .here _ _ | apply Pull.there)) ?_
        refine H.loop (ι := Nat × List MV) (fun s => [(10, .int .i64 (s.1 : Int)), (7, .pointer (some ⟨ob, 0, none⟩)), (8, .int .i64 (N.core.put x.p.core).1), (9, .bool x.p.core.may), (6, .pointer (some ⟨xb, 0, none⟩)), (3, .pointer (some ⟨nb, 0, none⟩)), (4, .pointer (some ⟨rb, 0, none⟩)), (5, .int .i64 (i : Int)), (0, .slice (some ⟨b, off, none⟩) xs.length c)]) (fun _ => un e g)
          (fun s => slc mp x.p.msgs.length mc 61 121 (s.2.flatMap MV.vals) :: row ob 34 ([.int .i64 x.p.src, .int .i64 x.p.dst] ++ v11 x.p.known ++ [.slice mp x.p.msgs.length mc]) :: row xb 50 x.vals :: netH (un e g) nb N1 :: refH f rb R :: F)
          (fun s => s.1 ≤ x.p.msgs.length ∧ s.2.length = x.p.msgs.length) (fun s => x.p.msgs.length - s.1) (0, x.p.msgs) ⟨Nat.zero_le _, rfl⟩ ⟨rfl, rfl, rfl, rfl, rfl, rfl, rfl, rfl, rfl, trivial⟩ rfl rfl fun s hs => ?_
        obtain ⟨k, ms⟩ := s
        obtain ⟨hk, hms⟩ : k ≤ x.p.msgs.length ∧ ms.length = x.p.msgs.length := hs
        by_cases hklt : k < x.p.msgs.length
        · show H _ _ _ ((10, .int .i64 (k : Int)) :: _) _ (slc mp x.p.msgs.length mc _ 121 (ms.flatMap MV.vals) :: _) _
          refine H.slc_some (.here _ _ _) (by omega) fun mb hb => ?_
          subst hb
          repeat (first | ((first | apply H.move | apply H.len_slice); (iterate 3 exact rfl)) | (apply H.fieldAddr; (iterate 3 exact rfl); exact inferInstance; exact rfl) | (apply H.load1; (iterate 3 exact rfl); apply Rd1.ofRow; (repeat (first | exact .here _ _ _ | apply At.there)); (iterate 2 exact rfl)) | (first | apply H.seq | apply H.region | apply H.nil | apply H.then_normal) | ((first | apply H.cmp | apply H.build); (iterate 5 exact rfl)) | (first | apply H.skip | apply H.block) | (apply H.cond_yes; exact rfl; (omega)))
          refine H.index0 rfl rfl rfl rfl hklt rfl ?_
          refine H.storeE (vals := MV.vals) (z := ⟨⟨0, 0, fun _ => 0, Bod.zero 0, noTag⟩, none, 0⟩) MV.len (by decide) (allOne_mem rfl) rfl rfl rfl (by omega) (.here _ _ _) ?_
          repeat (first | ((first | apply H.move | apply H.assign); (iterate 3 exact rfl)) | (first | apply H.region | apply H.nil | apply H.then_normal) | ((apply H.ar; (iterate 4 exact rfl)); (with_reducible apply wr_i64_n1; omega); exact rfl) | (apply H.in_normal))
          exact H.again (k + 1, ms.set k ⟨⟨0, 0, fun _ => 0, Bod.zero 0, noTag⟩, none, 0⟩) ⟨by show k + 1 ≤ _; omega, by rw [List.length_set]; exact hms⟩ (by show x.p.msgs.length - (k + 1) < x.p.msgs.length - k; omega) ⟨rfl, rfl, rfl, rfl, rfl, rfl, rfl, rfl, rfl, trivial⟩ rfl rfl
        · show H _ _ _ ((10, .int .i64 (k : Int)) :: _) _ (slc mp x.p.msgs.length mc _ 121 (ms.flatMap MV.vals) :: _) _
          have hans := (hrel0.put x.p.core).1
          have hle2 : Le f (un e g) := Le.trans hle (Le.un e g)
          have hrmay := fun G => rnetMay_fn (un e g) G (hxg.mono hle2)
          repeat (first | ((first | apply H.move | apply H.len_slice); (iterate 3 exact rfl)) | (apply H.fieldAddr; (iterate 3 exact rfl); exact inferInstance; exact rfl) | (apply H.load1; (iterate 3 exact rfl); apply Rd1.ofRow; (repeat (first | exact .here _ _ _ | apply At.there)); (iterate 2 exact rfl)) | (first | apply H.seq | apply H.region | apply H.nil | apply H.then_normal) | ((apply H.cmp); (iterate 5 exact rfl)) | (first | apply H.then_exit | apply H.exit | apply H.in_hit | apply H.loop_exit) | (apply H.cond_no; exact rfl; (omega)))
          refine H.loadN (ls := x.p.vals) rfl rfl rfl (stp_pkt (by repeat (first | exact .here _ _ _ | apply At.there))) rfl rfl ?_
          refine H.front (x := refH _ _ _) (by repeat (first | exact .here _ _ | apply Pull.there)) ?_
          refine H.call rfl rfl rfl (rnetPut_fn (un e g) _ f rb R hle2 hxg) fun v f3 A' hr => ?_
          obtain ⟨R1, rfl, hR1, hf3, rfl⟩ := hr
          subst hf3
          repeat (first | ((apply H.move); (iterate 3 exact rfl)) | (apply H.fieldAddr; (iterate 3 exact rfl); exact inferInstance; exact rfl) | ((apply H.cmp); (iterate 5 exact rfl)) | (apply H.gno; (iterate 3 exact rfl); (omega)))
          refine H.loadN (ls := x.p.vals) rfl rfl rfl (stp_pkt (by repeat (first | exact .here _ _ _ | apply At.there))) rfl rfl ?_
          refine H.callR rfl rfl rfl (hrmay _) ?_
          refine H.bne (b := false) rfl rfl rfl rfl (by simp) rfl ?_
          clear hrmay
          repeat (first | (first | apply H.seq | apply H.nil | apply H.then_normal) | ((apply H.pickF); (iterate 4 exact rfl)) | (apply H.cond_false; exact rfl) | (first | apply H.skip | apply H.in_normal))
          refine H.drop (x := row ob _ _) (by repeat (first | exact .here _ _ | apply Pull.there)) ?_
          refine H.drop (x := slc _ _ _ _ _ _) (by repeat (first | exact .here _ _ | apply Pull.there)) ?_
          have hrel : Rel N1.core R1.core := by rw [hN1, hR1]; exact (hrel0.put x.p.core).2
          have hle := hle2
          have hl' := hrel.len
          refine H.front (x := refH _ _ _) (by repeat (first | exact .here _ _ | apply Pull.there)) ?_
          refine H.unpack fun ri hri => ?_
          skip
          refine H.drawB (by kernel_rfl) (by decide +kernel) (by first | exact blind_fn | exact blind_seq blind_fn | exact blind_seq (blind_seq blind_fn) | (repeat (first | exact blind_fn | refine blind_seq ?_ | refine blind_block ?_ | refine blind_loop ?_))) (S := [_]) rfl ?_
          refine HB.quiet [(0, false), (2, false), (3, false), (4, false), (5, false), (6, false)] 2 (by kernel_rfl) ?_
          repeat (first | ((first | apply HQ.move | apply HQ.nilCheck | apply HQ.len_slice); (iterate 3 exact rfl)) | (apply HQ.fieldAddr; (iterate 3 exact rfl); exact inferInstance; exact rfl) | (apply HQ.load1; (iterate 3 exact rfl); apply Rd1.ofRow; (repeat (exact .here _ _ _)); (iterate 2 exact rfl)))
          refine HQ.more rfl ?_
          refine HB.ev1 (i := 1) (by kernel_rfl) rfl ?_
          refine H.front (x := netH _ _ _) (by repeat (first | exact .here _ _ | apply Pull.there)) ?_
          refine H.callR rfl rfl rfl (netLen_fn _ _ _ nb N1) ?_
          refine H.front (x := row rb _ _) (by repeat (first | exact .here _ _ | apply Pull.there)) ?_
          repeat ((apply H.nil))
          refine H.on0 rfl ?_
          refine HB.quiet [(7, false)] 0 (by kernel_rfl) ?_
          repeat (((apply HQ.cmp); (iterate 5 exact rfl)))
          refine HQ.more rfl ?_
          refine HB.done (by kernel_rfl) ?_
          repeat (first | ((first | apply H.move | apply H.assign); (iterate 3 exact rfl)) | (first | apply H.region | apply H.nil | apply H.then_normal) | ((apply H.ar; (iterate 4 exact rfl)); (with_reducible apply wr_i64_n1; omega); exact rfl) | (first | apply H.skip | apply H.in_normal) | (apply H.cond_no; exact rfl; (omega)))
          refine H.front (x := psl _ _ _) (by repeat (first | exact .here _ _ | apply Pull.there)) ?_
          refine H.front (x := row rb _ _) (by repeat (first | exact .here _ _ | apply Pull.there)) ?_
          refine H.imp (refH_fold ri hri) ?_
          refine H.drop (x := row xb _ _) (by repeat (first | exact .here _ _ | apply Pull.there)) ?_
          refine H.front (x := netH _ _ _) (by repeat (first | exact .here _ _ | apply Pull.there)) ?_
          exact H.again (i + 1, un e g, N1, R1) ⟨by show i + 1 ≤ xs.length; omega, hle, hrel⟩ (by show xs.length - (i + 1) < xs.length - i; omega) ⟨rfl, rfl, rfl, rfl, trivial⟩ rfl rfl
      · skip
        repeat (first | ((first | apply H.move | apply H.len_slice); (iterate 3 exact rfl)) | (first | apply H.seq | apply H.region | apply H.nil | apply H.then_normal) | ((apply H.cmp); (iterate 5 exact rfl)) | (first | apply H.skip | apply H.block) | (apply H.cond_yes; exact rfl; (omega)))
        refine H.index_slice rfl rfl rfl rfl hlt rfl ?_
        refine H.loadN (ls := x.vals) rfl rfl rfl (rd _) rfl rfl ?_
        refine H.alloc (ls := Stp.zero.vals) rfl rfl rfl fun xb => ?_
        refine H.storeN (ls := Stp.zero.vals) (vs := x.vals) (ls' := x.vals) rfl rfl rfl (allOne_mem rfl) rfl rfl (Nat.le_refl 17) (by repeat (first | exact .here _ _ _ | apply At.there)) ?_
        repeat (first | (apply H.fieldAddr; (iterate 3 exact rfl); exact inferInstance; exact rfl) | (apply H.load1; (iterate 3 exact rfl); apply Rd1.ofRow; (repeat (exact .here _ _ _)); (iterate 2 exact rfl)) | (first | apply H.seq | apply H.region | apply H.nil | apply H.then_normal))
        refine H.rem rfl rfl rfl (by decide) hr rfl ?_
        repeat (first | ((first | apply H.move | apply H.assign); (iterate 3 exact rfl)) | (apply H.fieldAddr; (iterate 3 exact rfl); exact inferInstance; exact rfl) | (apply H.load1; (iterate 3 exact rfl); apply Rd1.ofRow; (repeat (exact .here _ _ _)); (iterate 2 exact rfl)) | (first | apply H.seq | apply H.region | apply H.nil | apply H.then_normal) | ((apply H.cmp); (iterate 5 exact rfl)) | (apply H.cond_true; exact rfl) | (apply H.cond_false; exact rfl) | (apply H.block))
        refine H.front (x := netH _ _ _) (by repeat (first | exact .here _ _ | apply Pull.there)) ?_
        refine H.call rfl rfl rfl (netTake_fn e _ e nb N x.k) fun v f1 A' hr => ?_
        obtain ⟨p1, N1, rfl, hp1, hg1, hN1, rfl, rfl⟩ := hr
        repeat (first | ((apply H.move); (iterate 3 exact rfl)) | ((apply H.extract); (iterate 4 exact rfl)))
        refine H.alloc (ls := Pkt.zero.vals) rfl rfl rfl fun pb => ?_
        refine H.storeN (ls := Pkt.zero.vals) (vs := p1.vals) (ls' := p1.vals) rfl rfl rfl (allOne_mem rfl) rfl rfl (Nat.le_refl 14) (by repeat (first | exact .here _ _ _ | apply At.there)) ?_
        repeat (first | ((first | apply H.move | apply H.assign); (iterate 3 exact rfl)) | (apply H.fieldAddr; (iterate 3 exact rfl); exact inferInstance; exact rfl) | (apply H.load1; (iterate 3 exact rfl); apply Rd1.ofRow; (repeat (first | exact .here _ _ _ | apply At.there)); (iterate 2 exact rfl)) | (first | apply H.seq | apply H.region | apply H.nil | apply H.then_normal))
        refine H.front (x := refH _ _ _) (by repeat (first | exact .here _ _ | apply Pull.there)) ?_
        refine H.call rfl rfl rfl (rnetTake_fn f1 _ f rb R x.k) fun v f2 A' hr => ?_
        obtain ⟨q1, R1, rfl, hq1, hg2, hR1, rfl, rfl⟩ := hr
        rw [hrel0.got] at hp1
        rw [← hp1] at hq1
        rw [hrel0.got]
        repeat (first | ((apply H.move); (iterate 3 exact rfl)) | ((apply H.extract); (iterate 4 exact rfl)))
        refine H.alloc (ls := Pkt.zero.vals) rfl rfl rfl fun qb => ?_
        refine H.storeN (ls := Pkt.zero.vals) (vs := q1.vals) (ls' := q1.vals) rfl rfl rfl (allOne_mem rfl) rfl rfl (Nat.le_refl 14) (by repeat (first | exact .here _ _ _ | apply At.there)) ?_
        repeat (first | ((first | apply H.move | apply H.assign); (iterate 3 exact rfl)) | (first | apply H.seq | apply H.region | apply H.nil | apply H.then_normal))
        refine H.bne (b := false) rfl rfl rfl rfl (by simp) rfl ?_
        repeat (((apply H.move); (iterate 3 exact rfl)))
        have hsame := fun G => sameP_fn f2 G hg1 (hg2.mono hle)
        rw [hq1, Core.eqB_refl] at hsame
        refine H.loadN (ls := p1.vals) rfl rfl rfl (Rd.ofRow (by repeat (first | exact .here _ _ _ | apply At.there))) rfl rfl ?_
        refine H.loadN (ls := q1.vals) rfl rfl rfl (Rd.ofRow (by repeat (first | exact .here _ _ _ | apply At.there))) rfl rfl ?_
        refine H.callR rfl rfl rfl (hsame _) ?_
        refine H.not (c := false) rfl rfl rfl rfl ?_
        clear hsame
        repeat (first | (first | apply H.seq | apply H.nil | apply H.then_normal) | ((apply H.pickF); (iterate 4 exact rfl)) | (apply H.cond_false; exact rfl) | (first | apply H.skip | apply H.in_normal))
        refine H.drop (x := row pb _ _) (by repeat (first | exact .here _ _ | apply Pull.there)) ?_
        refine H.drop (x := row qb _ _) (by repeat (first | exact .here _ _ | apply Pull.there)) ?_
        have hrel : Rel N1.core R1.core := by rw [hN1, hR1]; exact hrel0.took x.k
        have hl' := hrel.len
        refine H.front (x := refH _ _ _) (by repeat (first | exact .here _ _ | apply Pull.there)) ?_
        refine H.unpack fun ri hri => ?_
        skip
        refine H.drawB (by kernel_rfl) (by decide +kernel) (by first | exact blind_fn | exact blind_seq blind_fn | exact blind_seq (blind_seq blind_fn) | (repeat (first | exact blind_fn | refine blind_seq ?_ | refine blind_block ?_ | refine blind_loop ?_))) (S := [_]) rfl ?_
        refine HB.quiet [(0, false), (2, false), (3, false), (4, false), (5, false), (6, false)] 2 (by kernel_rfl) ?_
        repeat (first | ((first | apply HQ.move | apply HQ.nilCheck | apply HQ.len_slice); (iterate 3 exact rfl)) | (apply HQ.fieldAddr; (iterate 3 exact rfl); exact inferInstance; exact rfl) | (apply HQ.load1; (iterate 3 exact rfl); apply Rd1.ofRow; (repeat (exact .here _ _ _)); (iterate 2 exact rfl)))
        refine HQ.more rfl ?_
        refine HB.ev1 (i := 1) (by kernel_rfl) rfl ?_
        refine H.front (x := netH _ _ _) (by repeat (first | exact .here _ _ | apply Pull.there)) ?_
        refine H.callR rfl rfl rfl (netLen_fn _ _ _ nb N1) ?_
        refine H.front (x := row rb _ _) (by repeat (first | exact .here _ _ | apply Pull.there)) ?_
        repeat ((apply H.nil))
        refine H.on0 rfl ?_
        refine HB.quiet [(7, false)] 0 (by kernel_rfl) ?_
        repeat (((apply HQ.cmp); (iterate 5 exact rfl)))
        refine HQ.more rfl ?_
        refine HB.done (by kernel_rfl) ?_
        repeat (first | ((first | apply H.move | apply H.assign); (iterate 3 exact rfl)) | (first | apply H.region | apply H.nil | apply H.then_normal) | ((apply H.ar; (iterate 4 exact rfl)); (with_reducible apply wr_i64_n1; omega); exact rfl) | (first | apply H.skip | apply H.in_normal) | (apply H.cond_no; exact rfl; (omega)))
        refine H.front (x := psl _ _ _) (by repeat (first | exact .here _ _ | apply Pull.there)) ?_
        refine H.front (x := row rb _ _) (by repeat (first | exact .here _ _ | apply Pull.there)) ?_
        refine H.imp (refH_fold ri hri) ?_
        refine H.drop (x := row xb _ _) (by repeat (first | exact .here _ _ | apply Pull.there)) ?_
        refine H.front (x := netH _ _ _) (by repeat (first | exact .here _ _ | apply Pull.there)) ?_
        exact H.again (i + 1, f2, N1, R1) ⟨by show i + 1 ≤ xs.length; omega, hle, hrel⟩ (by show xs.length - (i + 1) < xs.length - i; omega) ⟨rfl, rfl, rfl, rfl, trivial⟩ rfl rfl
      · skip
        repeat (first | ((first | apply H.move | apply H.len_slice); (iterate 3 exact rfl)) | (first | apply H.seq | apply H.region | apply H.nil | apply H.then_normal) | ((apply H.cmp); (iterate 5 exact rfl)) | (first | apply H.skip | apply H.block) | (apply H.cond_yes; exact rfl; (omega)))
        refine H.index_slice rfl rfl rfl rfl hlt rfl ?_
        refine H.loadN (ls := x.vals) rfl rfl rfl (rd _) rfl rfl ?_
        refine H.alloc (ls := Stp.zero.vals) rfl rfl rfl fun xb => ?_
        refine H.storeN (ls := Stp.zero.vals) (vs := x.vals) (ls' := x.vals) rfl rfl rfl (allOne_mem rfl) rfl rfl (Nat.le_refl 17) (by repeat (first | exact .here _ _ _ | apply At.there)) ?_
        repeat (first | (apply H.fieldAddr; (iterate 3 exact rfl); exact inferInstance; exact rfl) | (apply H.load1; (iterate 3 exact rfl); apply Rd1.ofRow; (repeat (exact .here _ _ _)); (iterate 2 exact rfl)) | (first | apply H.seq | apply H.region | apply H.nil | apply H.then_normal))
        refine H.rem rfl rfl rfl (by decide) hr rfl ?_
        repeat (first | ((first | apply H.move | apply H.assign); (iterate 3 exact rfl)) | (apply H.fieldAddr; (iterate 3 exact rfl); exact inferInstance; exact rfl) | (apply H.load1; (iterate 3 exact rfl); apply Rd1.ofRow; (repeat (exact .here _ _ _)); (iterate 2 exact rfl)) | (first | apply H.seq | apply H.region | apply H.nil | apply H.then_normal) | ((apply H.cmp); (iterate 5 exact rfl)) | (apply H.cond_true; exact rfl) | (apply H.cond_false; exact rfl) | (apply H.block))
        refine H.front (x := refH _ _ _) (by repeat (first | exact .here _ _ | apply Pull.there)) ?_
        refine H.call rfl rfl rfl (rnetTake_fn e _ f rb R x.k) fun v f2 A' hr => ?_
        obtain ⟨q1, R1, rfl, hq1, hg2, hR1, rfl, rfl⟩ := hr
        repeat (first | ((apply H.move); (iterate 3 exact rfl)) | ((apply H.extract); (iterate 4 exact rfl)))
        refine H.alloc (ls := Pkt.zero.vals) rfl rfl rfl fun qb => ?_
        refine H.storeN (ls := Pkt.zero.vals) (vs := q1.vals) (ls' := q1.vals) rfl rfl rfl (allOne_mem rfl) rfl rfl (Nat.le_refl 14) (by repeat (first | exact .here _ _ _ | apply At.there)) ?_
        repeat (first | ((first | apply H.move | apply H.assign); (iterate 3 exact rfl)) | (apply H.fieldAddr; (iterate 3 exact rfl); exact inferInstance; exact rfl) | (apply H.load1; (iterate 3 exact rfl); apply Rd1.ofRow; (repeat (first | exact .here _ _ _ | apply At.there)); (iterate 2 exact rfl)) | (first | apply H.seq | apply H.region | apply H.nil | apply H.then_normal))
        refine H.front (x := netH _ _ _) (by repeat (first | exact .here _ _ | apply Pull.there)) ?_
        refine H.call rfl rfl rfl (netDrop_fn f2 _ f2 nb N x.k) fun v f3 A' hr => ?_
        obtain ⟨N1, rfl, hN1, rfl, rfl⟩ := hr
        rw [hrel0.got]
        repeat (((apply H.move); (iterate 3 exact rfl)))
        refine H.bne (b := false) rfl rfl rfl rfl (by simp) rfl ?_
        repeat (first | (first | apply H.seq | apply H.nil | apply H.then_normal) | (apply H.cond_false; exact rfl) | (first | apply H.skip | apply H.in_normal))
        refine H.drop (x := row qb _ _) (by repeat (first | exact .here _ _ | apply Pull.there)) ?_
        have hrel : Rel N1.core R1.core := by rw [hN1, hR1]; exact hrel0.took x.k
        have hl' := hrel.len
        refine H.front (x := refH _ _ _) (by repeat (first | exact .here _ _ | apply Pull.there)) ?_
        refine H.unpack fun ri hri => ?_
        skip
        refine H.drawB (by kernel_rfl) (by decide +kernel) (by first | exact blind_fn | exact blind_seq blind_fn | exact blind_seq (blind_seq blind_fn) | (repeat (first | exact blind_fn | refine blind_seq ?_ | refine blind_block ?_ | refine blind_loop ?_))) (S := [_]) rfl ?_
        refine HB.quiet [(0, false), (2, false), (3, false), (4, false), (5, false), (6, false)] 2 (by kernel_rfl) ?_
        repeat (first | ((first | apply HQ.move | apply HQ.nilCheck | apply HQ.len_slice); (iterate 3 exact rfl)) | (apply HQ.fieldAddr; (iterate 3 exact rfl); exact inferInstance; exact rfl) | (apply HQ.load1; (iterate 3 exact rfl); apply Rd1.ofRow; (repeat (exact .here _ _ _)); (iterate 2 exact rfl)))
        refine HQ.more rfl ?_
        refine HB.ev1 (i := 1) (by kernel_rfl) rfl ?_
        refine H.front (x := netH _ _ _) (by repeat (first | exact .here _ _ | apply Pull.there)) ?_
        refine H.callR rfl rfl rfl (netLen_fn _ _ _ nb N1) ?_
        refine H.front (x := row rb _ _) (by repeat (first | exact .here _ _ | apply Pull.there)) ?_
        repeat ((apply H.nil))
        refine H.on0 rfl ?_
        refine HB.quiet [(7, false)] 0 (by kernel_rfl) ?_
        repeat (((apply HQ.cmp); (iterate 5 exact rfl)))
        refine HQ.more rfl ?_
        refine HB.done (by kernel_rfl) ?_
        repeat (first | ((first | apply H.move | apply H.assign); (iterate 3 exact rfl)) | (first | apply H.region | apply H.nil | apply H.then_normal) | ((apply H.ar; (iterate 4 exact rfl)); (with_reducible apply wr_i64_n1; omega); exact rfl) | (first | apply H.skip | apply H.in_normal) | (apply H.cond_no; exact rfl; (omega)))
        refine H.front (x := psl _ _ _) (by repeat (first | exact .here _ _ | apply Pull.there)) ?_
        refine H.front (x := row rb _ _) (by repeat (first | exact .here _ _ | apply Pull.there)) ?_
        refine H.imp (refH_fold ri hri) ?_
        refine H.drop (x := row xb _ _) (by repeat (first | exact .here _ _ | apply Pull.there)) ?_
        refine H.front (x := netH _ _ _) (by repeat (first | exact .here _ _ | apply Pull.there)) ?_
        exact H.again (i + 1, f3, N1, R1) ⟨by show i + 1 ≤ xs.length; omega, hle, hrel⟩ (by show xs.length - (i + 1) < xs.length - i; omega) ⟨rfl, rfl, rfl, rfl, trivial⟩ rfl rfl
      · skip
        repeat (first | ((first | apply H.move | apply H.len_slice); (iterate 3 exact rfl)) | (first | apply H.seq | apply H.region | apply H.nil | apply H.then_normal) | ((apply H.cmp); (iterate 5 exact rfl)) | (first | apply H.skip | apply H.block) | (apply H.cond_yes; exact rfl; (omega)))
        refine H.index_slice rfl rfl rfl rfl hlt rfl ?_
        refine H.loadN (ls := x.vals) rfl rfl rfl (rd _) rfl rfl ?_
        refine H.alloc (ls := Stp.zero.vals) rfl rfl rfl fun xb => ?_
        refine H.storeN (ls := Stp.zero.vals) (vs := x.vals) (ls' := x.vals) rfl rfl rfl (allOne_mem rfl) rfl rfl (Nat.le_refl 17) (by repeat (first | exact .here _ _ _ | apply At.there)) ?_
        repeat (first | (apply H.fieldAddr; (iterate 3 exact rfl); exact inferInstance; exact rfl) | (apply H.load1; (iterate 3 exact rfl); apply Rd1.ofRow; (repeat (exact .here _ _ _)); (iterate 2 exact rfl)) | (first | apply H.seq | apply H.region | apply H.nil | apply H.then_normal))
        refine H.rem rfl rfl rfl (by decide) hr rfl ?_
        repeat (first | ((apply H.assign); (iterate 3 exact rfl)) | (first | apply H.seq | apply H.region | apply H.nil | apply H.then_normal) | ((apply H.cmp); (iterate 5 exact rfl)) | (apply H.cond_true; exact rfl) | (apply H.cond_false; exact rfl) | (apply H.block))
        refine H.front (x := row xb _ _) (by repeat (first | exact .here _ _ | apply Pull.there)) ?_
        have hans := (hrel0.twice x.k).1
        refine H.drawB (by kernel_rfl) (by decide +kernel) (by first | exact blind_fn | exact blind_seq blind_fn | exact blind_seq (blind_seq blind_fn) | (repeat (first | exact blind_fn | refine blind_seq ?_ | refine blind_block ?_ | refine blind_loop ?_))) (S := [_]) rfl ?_
        refine HB.quiet [(0, false), (1, false), (2, false), (4, false), (5, false), (6, false)] 3 (by kernel_rfl) ?_
        repeat (first | ((apply HQ.move); (iterate 3 exact rfl)) | (apply HQ.fieldAddr; (iterate 3 exact rfl); exact inferInstance; exact rfl) | (apply HQ.load1; (iterate 3 exact rfl); apply Rd1.ofRow; (repeat (exact .here _ _ _)); (iterate 2 exact rfl)))
        refine HQ.more rfl ?_
        refine HB.ev1 (i := 3) (by kernel_rfl) rfl ?_
        refine H.front (x := netH _ _ _) (by repeat (first | exact .here _ _ | apply Pull.there)) ?_
        refine H.call rfl rfl rfl (netTwice_fn e _ e nb N x.k (Le.refl e)) fun v f2 A' hr => ?_
        obtain ⟨g, N1, rfl, hN1, hd1, rfl, rfl⟩ := hr
        refine H.front (x := row xb _ _) (by repeat (first | exact .here _ _ | apply Pull.there)) ?_
        repeat ((apply H.nil))
        refine H.on [] (Le.un _ _) rfl ?_
        refine HB.ev1 (i := 7) (by kernel_rfl) rfl ?_
        refine H.front (x := refH _ _ _) (by repeat (first | exact .here _ _ | apply Pull.there)) ?_
        refine H.call rfl rfl rfl (rnetTwice_fn (un e g) _ f rb R x.k) fun v f3 A' hr => ?_
        obtain ⟨R1, rfl, hR1, hf3, rfl⟩ := hr
        subst hf3
        refine H.front (x := row xb _ _) (by repeat (first | exact .here _ _ | apply Pull.there)) ?_
        repeat ((apply H.nil))
        refine H.on0 rfl ?_
        refine HB.quiet [(8, false)] 0 (by kernel_rfl) ?_
        repeat (((apply HQ.cmp); (iterate 5 exact rfl)))
        refine HQ.more rfl ?_
        refine HB.done (by kernel_rfl) ?_
        repeat (first | (first | apply H.seq | apply H.then_normal) | (first | apply H.skip | apply H.in_normal) | (apply H.cond_no; exact rfl; (omega)))
        have hrel : Rel N1.core R1.core := by rw [hN1, hR1]; exact (hrel0.twice x.k).2
        have hle := Le.trans hle (Le.un e g)
        have hl' := hrel.len
        refine H.front (x := refH _ _ _) (by repeat (first | exact .here _ _ | apply Pull.there)) ?_
        refine H.unpack fun ri hri => ?_
        skip
        refine H.drawB (by kernel_rfl) (by decide +kernel) (by first | exact blind_fn | exact blind_seq blind_fn | exact blind_seq (blind_seq blind_fn) | (repeat (first | exact blind_fn | refine blind_seq ?_ | refine blind_block ?_ | refine blind_loop ?_))) (S := [_]) rfl ?_
        refine HB.quiet [(0, false), (2, false), (3, false), (4, false), (5, false), (6, false)] 2 (by kernel_rfl) ?_
        repeat (first | ((first | apply HQ.move | apply HQ.nilCheck | apply HQ.len_slice); (iterate 3 exact rfl)) | (apply HQ.fieldAddr; (iterate 3 exact rfl); exact inferInstance; exact rfl) | (apply HQ.load1; (iterate 3 exact rfl); apply Rd1.ofRow; (repeat (exact .here _ _ _)); (iterate 2 exact rfl)))
        refine HQ.more rfl ?_
        refine HB.ev1 (i := 1) (by kernel_rfl) rfl ?_
        refine H.front (x := netH _ _ _) (by repeat (first | exact .here _ _ | apply Pull.there)) ?_
        refine H.callR rfl rfl rfl (netLen_fn _ _ _ nb N1) ?_
        refine H.front (x := row rb _ _) (by repeat (first | exact .here _ _ | apply Pull.there)) ?_
        repeat ((apply H.nil))
        refine H.on0 rfl ?_
        refine HB.quiet [(7, false)] 0 (by kernel_rfl) ?_
        repeat (((apply HQ.cmp); (iterate 5 exact rfl)))
        refine HQ.more rfl ?_
        refine HB.done (by kernel_rfl) ?_
        repeat (first | ((first | apply H.move | apply H.assign); (iterate 3 exact rfl)) | (first | apply H.region | apply H.nil | apply H.then_normal) | ((apply H.ar; (iterate 4 exact rfl)); (with_reducible apply wr_i64_n1; omega); exact rfl) | (first | apply H.skip | apply H.in_normal) | (apply H.cond_no; exact rfl; (omega)))
        refine H.front (x := psl _ _ _) (by repeat (first | exact .here _ _ | apply Pull.there)) ?_
        refine H.front (x := row rb _ _) (by repeat (first | exact .here _ _ | apply Pull.there)) ?_
        refine H.imp (refH_fold ri hri) ?_
        refine H.drop (x := row xb _ _) (by repeat (first | exact .here _ _ | apply Pull.there)) ?_
        refine H.front (x := netH _ _ _) (by repeat (first | exact .here _ _ | apply Pull.there)) ?_
        exact H.again (i + 1, un e g, N1, R1) ⟨by show i + 1 ≤ xs.length; omega, hle, hrel⟩ (by show xs.length - (i + 1) < xs.length - i; omega) ⟨rfl, rfl, rfl, rfl, trivial⟩ rfl rfl
      · skip
        repeat (first | ((first | apply H.move | apply H.len_slice); (iterate 3 exact rfl)) | (first | apply H.seq | apply H.region | apply H.nil | apply H.then_normal) | ((apply H.cmp); (iterate 5 exact rfl)) | (first | apply H.skip | apply H.block) | (apply H.cond_yes; exact rfl; (omega)))
        refine H.index_slice rfl rfl rfl rfl hlt rfl ?_
        refine H.loadN (ls := x.vals) rfl rfl rfl (rd _) rfl rfl ?_
        refine H.alloc (ls := Stp.zero.vals) rfl rfl rfl fun xb => ?_
        refine H.storeN (ls := Stp.zero.vals) (vs := x.vals) (ls' := x.vals) rfl rfl rfl (allOne_mem rfl) rfl rfl (Nat.le_refl 17) (by repeat (first | exact .here _ _ _ | apply At.there)) ?_
        repeat (first | (apply H.fieldAddr; (iterate 3 exact rfl); exact inferInstance; exact rfl) | (apply H.load1; (iterate 3 exact rfl); apply Rd1.ofRow; (repeat (exact .here _ _ _)); (iterate 2 exact rfl)) | (first | apply H.seq | apply H.region | apply H.nil | apply H.then_normal))
        refine H.rem rfl rfl rfl (by decide) hr rfl ?_
        repeat (first | ((apply H.assign); (iterate 3 exact rfl)) | (first | apply H.seq | apply H.region | apply H.nil | apply H.then_normal) | ((apply H.cmp); (iterate 5 exact rfl)) | (apply H.cond_true; exact rfl) | (apply H.cond_false; exact rfl) | (apply H.block))
        refine H.front (x := row xb _ _) (by repeat (first | exact .here _ _ | apply Pull.there)) ?_
        have hans := (hrel0.cut x.k x.j).1
        refine H.drawB (by kernel_rfl) (by decide +kernel) (by first | exact blind_fn | exact blind_seq blind_fn | exact blind_seq (blind_seq blind_fn) | (repeat (first | exact blind_fn | refine blind_seq ?_ | refine blind_block ?_ | refine blind_loop ?_))) (S := [_]) rfl ?_
        refine HB.quiet [(0, false), (1, false), (2, false), (3, false), (4, false), (6, false), (7, false), (8, false), (9, false), (10, false)] 3 (by kernel_rfl) ?_
        repeat (first | ((apply HQ.move); (iterate 3 exact rfl)) | (apply HQ.fieldAddr; (iterate 3 exact rfl); exact inferInstance; exact rfl) | (apply HQ.load1; (iterate 3 exact rfl); apply Rd1.ofRow; (repeat (exact .here _ _ _)); (iterate 2 exact rfl)))
        refine HQ.more rfl ?_
        refine HB.ev1 (i := 5) (by kernel_rfl) rfl ?_
        refine H.front (x := netH _ _ _) (by repeat (first | exact .here _ _ | apply Pull.there)) ?_
        refine H.call rfl rfl rfl (netCut_fn e _ e nb N x.k x.j) fun v f2 A' hr => ?_
        obtain ⟨N1, rfl, hN1, rfl, rfl⟩ := hr
        refine H.front (x := row xb _ _) (by repeat (first | exact .here _ _ | apply Pull.there)) ?_
        repeat ((apply H.nil))
        refine H.on0 rfl ?_
        refine HB.ev1 (i := 11) (by kernel_rfl) rfl ?_
        refine H.front (x := refH _ _ _) (by repeat (first | exact .here _ _ | apply Pull.there)) ?_
        refine H.call rfl rfl rfl (rnetCut_fn f2 _ f rb R x.k x.j) fun v f3 A' hr => ?_
        obtain ⟨R1, rfl, hR1, rfl, rfl⟩ := hr
        refine H.front (x := row xb _ _) (by repeat (first | exact .here _ _ | apply Pull.there)) ?_
        repeat ((apply H.nil))
        refine H.on0 rfl ?_
        refine HB.quiet [(12, false)] 0 (by kernel_rfl) ?_
        repeat (((apply HQ.cmp); (iterate 5 exact rfl)))
        refine HQ.more rfl ?_
        refine HB.done (by kernel_rfl) ?_
        repeat (first | (first | apply H.seq | apply H.then_normal) | (first | apply H.skip | apply H.in_normal) | (apply H.cond_no; exact rfl; (omega)))
        have hrel : Rel N1.core R1.core := by rw [hN1, hR1]; exact (hrel0.cut x.k x.j).2
        have hl' := hrel.len
        refine H.front (x := refH _ _ _) (by repeat (first | exact .here _ _ | apply Pull.there)) ?_
        refine H.unpack fun ri hri => ?_
        skip
        refine H.drawB (by kernel_rfl) (by decide +kernel) (by first | exact blind_fn | exact blind_seq blind_fn | exact blind_seq (blind_seq blind_fn) | (repeat (first | exact blind_fn | refine blind_seq ?_ | refine blind_block ?_ | refine blind_loop ?_))) (S := [_]) rfl ?_
        refine HB.quiet [(0, false), (2, false), (3, false), (4, false), (5, false), (6, false)] 2 (by kernel_rfl) ?_
        repeat (first | ((first | apply HQ.move | apply HQ.nilCheck | apply HQ.len_slice); (iterate 3 exact rfl)) | (apply HQ.fieldAddr; (iterate 3 exact rfl); exact inferInstance; exact rfl) | (apply HQ.load1; (iterate 3 exact rfl); apply Rd1.ofRow; (repeat (exact .here _ _ _)); (iterate 2 exact rfl)))
        refine HQ.more rfl ?_
        refine HB.ev1 (i := 1) (by kernel_rfl) rfl ?_
        refine H.front (x := netH _ _ _) (by repeat (first | exact .here _ _ | apply Pull.there)) ?_
        refine H.callR rfl rfl rfl (netLen_fn _ _ _ nb N1) ?_
        refine H.front (x := row rb _ _) (by repeat (first | exact .here _ _ | apply Pull.there)) ?_
        repeat ((apply H.nil))
        refine H.on0 rfl ?_
        refine HB.quiet [(7, false)] 0 (by kernel_rfl) ?_
        repeat (((apply HQ.cmp); (iterate 5 exact rfl)))
        refine HQ.more rfl ?_
        refine HB.done (by kernel_rfl) ?_
        repeat (first | ((first | apply H.move | apply H.assign); (iterate 3 exact rfl)) | (first | apply H.region | apply H.nil | apply H.then_normal) | ((apply H.ar; (iterate 4 exact rfl)); (with_reducible apply wr_i64_n1; omega); exact rfl) | (first | apply H.skip | apply H.in_normal) | (apply H.cond_no; exact rfl; (omega)))
        refine H.front (x := psl _ _ _) (by repeat (first | exact .here _ _ | apply Pull.there)) ?_
        refine H.front (x := row rb _ _) (by repeat (first | exact .here _ _ | apply Pull.there)) ?_
        refine H.imp (refH_fold ri hri) ?_
        refine H.drop (x := row xb _ _) (by repeat (first | exact .here _ _ | apply Pull.there)) ?_
        refine H.front (x := netH _ _ _) (by repeat (first | exact .here _ _ | apply Pull.there)) ?_
        exact H.again (i + 1, f3, N1, R1) ⟨by show i + 1 ≤ xs.length; omega, hle, hrel⟩ (by show xs.length - (i + 1) < xs.length - i; omega) ⟨rfl, rfl, rfl, rfl, trivial⟩ rfl rfl
      · skip
        repeat (first | ((first | apply H.move | apply H.len_slice); (iterate 3 exact rfl)) | (first | apply H.seq | apply H.region | apply H.nil | apply H.then_normal) | ((apply H.cmp); (iterate 5 exact rfl)) | (first | apply H.skip | apply H.block) | (apply H.cond_yes; exact rfl; (omega)))
        refine H.index_slice rfl rfl rfl rfl hlt rfl ?_
        refine H.loadN (ls := x.vals) rfl rfl rfl (rd _) rfl rfl ?_
        refine H.alloc (ls := Stp.zero.vals) rfl rfl rfl fun xb => ?_
        refine H.storeN (ls := Stp.zero.vals) (vs := x.vals) (ls' := x.vals) rfl rfl rfl (allOne_mem rfl) rfl rfl (Nat.le_refl 17) (by repeat (first | exact .here _ _ _ | apply At.there)) ?_
        repeat (first | (apply H.fieldAddr; (iterate 3 exact rfl); exact inferInstance; exact rfl) | (apply H.load1; (iterate 3 exact rfl); apply Rd1.ofRow; (repeat (exact .here _ _ _)); (iterate 2 exact rfl)) | (first | apply H.seq | apply H.region | apply H.nil | apply H.then_normal))
        refine H.rem rfl rfl rfl (by decide) hr rfl ?_
        repeat (first | ((first | apply H.move | apply H.assign); (iterate 3 exact rfl)) | (first | apply H.seq | apply H.region | apply H.nil | apply H.then_normal) | ((apply H.cmp); (iterate 5 exact rfl)) | (apply H.cond_false; exact rfl) | (apply H.block))
        refine H.front (x := netH _ _ _) (by repeat (first | exact .here _ _ | apply Pull.there)) ?_
        refine H.callR rfl rfl rfl (netHeal_fn e _ e nb N) ?_
        refine H.front (x := refH _ _ _) (by repeat (first | exact .here _ _ | apply Pull.there)) ?_
        refine H.unpack fun ri hri => ?_
        repeat (first | ((apply H.move); (iterate 3 exact rfl)) | (first | apply H.region | apply H.nil | apply H.then_normal))
        refine H.buildA rfl rfl rfl rfl rfl ?_
        repeat (first | ((apply H.nilCheck); (iterate 3 exact rfl)) | (apply H.fieldAddr; (iterate 3 exact rfl); exact inferInstance; exact rfl))
        refine H.storeN (ls := .slice ri.1 R.row.length ri.2 :: lostV R.lost 121) (vs := lostV (fun _ => false) 121) (ls' := .slice ri.1 R.row.length ri.2 :: lostV (fun _ => false) 121) rfl rfl rfl (allOne_mem rfl) rfl rfl (Nat.le_refl 122) (by repeat (first | exact .here _ _ _ | apply At.there)) ?_
        refine H.imp (refH_fold (N := ⟨R.row, fun _ => false⟩) ri hri) ?_
        have hrel : Rel (⟨N.row, fun _ => false⟩ : NetM).core (⟨R.row, fun _ => false⟩ : NetM).core := hrel0.heal
        generalize (⟨N.row, fun _ => false⟩ : NetM) = N1 at hrel ⊢
        generalize (⟨R.row, fun _ => false⟩ : NetM) = R1 at hrel ⊢
        repeat (first | (first | apply H.seq | apply H.nil | apply H.then_normal) | (apply H.in_normal))
        have hl' := hrel.len
        refine H.front (x := refH _ _ _) (by repeat (first | exact .here _ _ | apply Pull.there)) ?_
        refine H.unpack fun ri hri => ?_
        skip
        refine H.drawB (by kernel_rfl) (by decide +kernel) (by first | exact blind_fn | exact blind_seq blind_fn | exact blind_seq (blind_seq blind_fn) | (repeat (first | exact blind_fn | refine blind_seq ?_ | refine blind_block ?_ | refine blind_loop ?_))) (S := [_]) rfl ?_
        refine HB.quiet [(0, false), (2, false), (3, false), (4, false), (5, false), (6, false)] 2 (by kernel_rfl) ?_
        repeat (first | ((first | apply HQ.move | apply HQ.nilCheck | apply HQ.len_slice); (iterate 3 exact rfl)) | (apply HQ.fieldAddr; (iterate 3 exact rfl); exact inferInstance; exact rfl) | (apply HQ.load1; (iterate 3 exact rfl); apply Rd1.ofRow; (repeat (exact .here _ _ _)); (iterate 2 exact rfl)))
        refine HQ.more rfl ?_
        refine HB.ev1 (i := 1) (by kernel_rfl) rfl ?_
        refine H.front (x := netH _ _ _) (by repeat (first | exact .here _ _ | apply Pull.there)) ?_
        refine H.callR rfl rfl rfl (netLen_fn _ _ _ nb N1) ?_
        refine H.front (x := row rb _ _) (by repeat (first | exact .here _ _ | apply Pull.there)) ?_
        repeat ((apply H.nil))
        refine H.on0 rfl ?_
        refine HB.quiet [(7, false)] 0 (by kernel_rfl) ?_
        repeat (((apply HQ.cmp); (iterate 5 exact rfl)))
        refine HQ.more rfl ?_
        refine HB.done (by kernel_rfl) ?_
        repeat (first | ((first | apply H.move | apply H.assign); (iterate 3 exact rfl)) | (first | apply H.region | apply H.nil | apply H.then_normal) | ((apply H.ar; (iterate 4 exact rfl)); (with_reducible apply wr_i64_n1; omega); exact rfl) | (first | apply H.skip | apply H.in_normal) | (apply H.cond_no; exact rfl; (omega)))
        refine H.front (x := psl _ _ _) (by repeat (first | exact .here _ _ | apply Pull.there)) ?_
        refine H.front (x := row rb _ _) (by repeat (first | exact .here _ _ | apply Pull.there)) ?_
        refine H.imp (refH_fold ri hri) ?_
        refine H.drop (x := row xb _ _) (by repeat (first | exact .here _ _ | apply Pull.there)) ?_
        refine H.front (x := netH _ _ _) (by repeat (first | exact .here _ _ | apply Pull.there)) ?_
        exact H.again (i + 1, e, N1, R1) ⟨by show i + 1 ≤ xs.length; omega, hle, hrel⟩ (by show xs.length - (i + 1) < xs.length - i; omega) ⟨rfl, rfl, rfl, rfl, trivial⟩ rfl rfl
    · have hil : i = xs.length := by omega
      clear hat hgood hact
      repeat (first | ((first | apply H.move | apply H.len_slice); (iterate 3 exact rfl)) | (first | apply H.seq | apply H.region | apply H.nil | apply H.then_normal) | ((apply H.cmp); (iterate 5 exact rfl)) | (first | apply H.then_exit | apply H.exit | apply H.block | apply H.in_hit | apply H.loop_exit) | (apply H.cond_no; exact rfl; (omega)))
      refine H.loop (ι := NetM × NetM) (fun _ => [(0, .slice p xs.length c), (3, .pointer (some ⟨nb, 0, none⟩)), (4, .pointer (some ⟨rb, 0, none⟩))]) (fun _ => e)
        (fun s => netH e nb s.1 :: refH f rb s.2 :: F) (fun s => Rel s.1.core s.2.core) (fun s => s.2.row.length) (N, R) hrel0 ⟨rfl, rfl, rfl, trivial⟩ rfl rfl fun s hs => ?_
      obtain ⟨N, R⟩ := s
      have hrel0 : Rel N.core R.core := hs
      clear hs
      show H _ _ _ [_, _, _] e (netH e nb N :: refH f rb R :: F) _
      have hl := hrel0.len
      refine H.front (x := refH _ _ _) (by repeat (first | exact .here _ _ | apply Pull.there)) ?_
      refine H.unpack fun ri hri => ?_
      have hmax : R.row.length ≤ 256 := hri.2
      by_cases hpos : 0 < R.row.length
      · obtain ⟨y, hy⟩ : ∃ y, R.core.got ((R.row.length / 2 : Nat) : Int) = some y := by
          refine ⟨(R.row[R.row.length / 2]'(by omega)).core, ?_⟩
          unfold NetC.got
          rw [if_pos (by omega), NetM.core_get, Int.toNat_natCast, List.getElem?_eq_getElem (by omega)]
          rfl
        have hy2 : N.core.got ((R.row.length / 2 : Nat) : Int) = some y := by rw [hrel0.got]; exact hy
        have htake := fun G => netTake_fn e G e nb N ((R.row.length / 2 : Nat) : Int)
        have hrtake := fun G => rnetTake_fn e G f rb R ((R.row.length / 2 : Nat) : Int)
        unfold TakeR at htake
        unfold RTakeR at hrtake
        rw [hy2] at htake
        rw [hy] at hrtake
        have hq2 : ∀ n : Nat, n ≤ 256 → IntKind.wrap .i64 ((n : Int).tdiv 2) = ((n / 2 : Nat) : Int) := fun n hn => by
          rw [show (2 : Int) = ((2 : Nat) : Int) from rfl, tdiv64, wr_i64 (by omega)]
        repeat (first | ((first | apply H.move | apply H.nilCheck | apply H.len_slice); (iterate 3 exact rfl)) | (apply H.fieldAddr; (iterate 3 exact rfl); exact inferInstance; exact rfl) | (apply H.load1; (iterate 3 exact rfl); apply Rd1.ofRow; (repeat (exact .here _ _ _)); (iterate 2 exact rfl)) | (first | apply H.seq | apply H.region | apply H.nil | apply H.then_normal) | ((apply H.cmp); (iterate 5 exact rfl)) | (first | apply H.skip | apply H.block) | (apply H.cond_yes; exact rfl; (omega)))
        refine H.quo rfl rfl rfl (by decide) (hq2 _ hmax) rfl ?_
        refine H.front (x := psl _ _ _) (by repeat (first | exact .here _ _ | apply Pull.there)) ?_
        refine H.front (x := row rb _ _) (by repeat (first | exact .here _ _ | apply Pull.there)) ?_
        refine H.imp (refH_fold ri hri) ?_
        refine H.front (x := netH _ _ _) (by repeat (first | exact .here _ _ | apply Pull.there)) ?_
        refine H.call rfl rfl rfl (htake _) fun v f1 A' hr => ?_
        obtain ⟨p1, N1, rfl, hp1, hg1, hN1, hf1, rfl⟩ := hr
        rw [hf1]
        repeat (first | ((apply H.move); (iterate 3 exact rfl)) | ((apply H.extract); (iterate 4 exact rfl)))
        refine H.alloc (ls := Pkt.zero.vals) rfl rfl rfl fun pb => ?_
        refine H.storeN (ls := Pkt.zero.vals) (vs := p1.vals) (ls' := p1.vals) rfl rfl rfl (allOne_mem rfl) rfl rfl (Nat.le_refl 14) (by repeat (first | exact .here _ _ _ | apply At.there)) ?_
        repeat (first | ((first | apply H.move | apply H.assign | apply H.nilCheck); (iterate 3 exact rfl)) | (apply H.fieldAddr; (iterate 3 exact rfl); exact inferInstance; exact rfl) | (first | apply H.seq | apply H.region | apply H.nil | apply H.then_normal))
        refine H.front (x := refH _ _ _) (by repeat (first | exact .here _ _ | apply Pull.there)) ?_
        refine H.unpack fun ri hri => ?_
        repeat (first | ((apply H.len_slice); (iterate 3 exact rfl)) | (apply H.load1; (iterate 3 exact rfl); apply Rd1.ofRow; (repeat (exact .here _ _ _)); (iterate 2 exact rfl)))
        refine H.quo rfl rfl rfl (by decide) (hq2 _ hmax) rfl ?_
        refine H.front (x := psl _ _ _) (by repeat (first | exact .here _ _ | apply Pull.there)) ?_
        refine H.front (x := row rb _ _) (by repeat (first | exact .here _ _ | apply Pull.there)) ?_
        refine H.imp (refH_fold ri hri) ?_
        refine H.call rfl rfl rfl (hrtake _) fun v f1 A' hr => ?_
        obtain ⟨q1, R1, rfl, hq1, hg2, hR1, hf1, rfl⟩ := hr
        rw [hf1]
        clear htake hrtake hq2
        repeat (first | ((apply H.move); (iterate 3 exact rfl)) | ((apply H.extract); (iterate 4 exact rfl)))
        refine H.alloc (ls := Pkt.zero.vals) rfl rfl rfl fun qb => ?_
        refine H.storeN (ls := Pkt.zero.vals) (vs := q1.vals) (ls' := q1.vals) rfl rfl rfl (allOne_mem rfl) rfl rfl (Nat.le_refl 14) (by repeat (first | exact .here _ _ _ | apply At.there)) ?_
        have hsame := fun G => sameP_fn e G hg1 (hg2.mono hle)
        rw [hp1, hq1, Core.eqB_refl] at hsame
        repeat (first | (refine H.not (c := false) rfl rfl rfl rfl ?_) | ((first | apply H.move | apply H.assign); (iterate 3 exact rfl)) | (first | apply H.seq | apply H.region | apply H.nil | apply H.then_normal))
        refine H.loadN (ls := p1.vals) rfl rfl rfl (Rd.ofRow (by repeat (first | exact .here _ _ _ | apply At.there))) rfl rfl ?_
        refine H.loadN (ls := q1.vals) rfl rfl rfl (Rd.ofRow (by repeat (first | exact .here _ _ _ | apply At.there))) rfl rfl ?_
        refine H.callR rfl rfl rfl (hsame _) ?_
        clear hsame
        repeat (first | (refine H.not (c := false) rfl rfl rfl rfl ?_) | (first | apply H.nil | apply H.then_normal) | ((apply H.pickF); (iterate 4 exact rfl)) | (apply H.cond_false; exact rfl) | (first | apply H.skip | apply H.in_normal))
        refine H.drop (x := row pb _ _) (by repeat (first | exact .here _ _ | apply Pull.there)) ?_
        refine H.drop (x := row qb _ _) (by repeat (first | exact .here _ _ | apply Pull.there)) ?_
        refine H.front (x := netH _ _ _) (by repeat (first | exact .here _ _ | apply Pull.there)) ?_
        have hrel : Rel N1.core R1.core := by rw [hN1, hR1]; exact hrel0.took _
        have hlr := took_len hR1 (by omega) (by omega)
        exact H.again (N1, R1) hrel (by show R1.row.length < R.row.length; omega) ⟨rfl, rfl, rfl, trivial⟩ rfl rfl
      · skip
        repeat (first | ((first | apply H.move | apply H.nilCheck | apply H.len_slice); (iterate 3 exact rfl)) | (apply H.fieldAddr; (iterate 3 exact rfl); exact inferInstance; exact rfl) | (apply H.load1; (iterate 3 exact rfl); apply Rd1.ofRow; (repeat (exact .here _ _ _)); (iterate 2 exact rfl)) | (first | apply H.seq | apply H.region | apply H.nil | apply H.then_normal) | ((apply H.cmp); (iterate 5 exact rfl)) | (first | apply H.then_exit | apply H.exit | apply H.in_hit | apply H.loop_exit) | (apply H.cond_no; exact rfl; (omega)))
        refine H.callR rfl rfl rfl (works_fn e _) ?_
        refine H.weaken hle ?_
        refine H.drop (x := row rb _ _) (by repeat (first | exact .here _ _ | apply Pull.there)) ?_
        refine H.drop (x := psl _ _ _) (by repeat (first | exact .here _ _ | apply Pull.there)) ?_
        refine H.drop (x := netH _ _ _) (by repeat (first | exact .here _ _ | apply Pull.there)) ?_
        repeat (first | ((apply H.assign); (iterate 3 exact rfl)) | (first | apply H.nil | apply H.then_normal) | (apply H.ret))
        exact H.ret1 rfl rfl (fun _ h => h) ⟨rfl, rfl, rfl⟩
end
end Go.Proofs.Ytcaofnfemogleaa
