/- Layer 14, the document's answer: Commit, Enter, Voted. -/
import Derived.Test.YtfplfddobjbbnaaPc
namespace Go.Proofs.Ytfplfddobjbbnaa
set_option linter.unusedSectionVars false
set_option linter.unusedSimpArgs false
set_option linter.unusedVariables false
open Go
section
variable (f : Frag) (F : List HP) (b : Nat) (s : PM)

theorem rcommit_fn {B : Int} (hw : PM.WF s B) (hB : B ≤ 9000000000000000000) (hn : s.init.length ≤ 1000000) (v k most : Int) (hk : 0 ≤ k ∧ k ≤ 18446744073709551615) (hm : -9223372036854775808 ≤ most ∧ most ≤ 9223372036854775807) :
    Fn Try.prog 23 [.pointer (some ⟨b, 0, none⟩), .int .u64 v, .int .u64 k, .int .i64 most] f (refH b s :: F) (Ret (.bool (s.commitOk v k most)) f (refH b (s.commit v k most) :: F)) := by
  have hl := hw.last
  refine Fn.unfold (fun _ h => h) fun ⟨eb, ec⟩ => ?_
  show Fn _ _ _ f (row _ _ _ :: slc _ _ _ _ _ _ :: F) _
  cases ho : s.isOpen v with
  | false =>
    have e : s.commitOk v k most = false := by simp [PM.isOpen] at ho; simp [PM.commitOk]; omega
    refine Fn.enter Try.func23 rfl Try.ntmps23 rfl (L := [(0, _), (1, _), (2, _), (3, _)]) ⟨rfl, rfl, rfl, rfl, trivial⟩ fun base => ?_
    repeat (
      first
      | ((first | apply H.move | apply H.assign | apply H.nilCheck | apply H.len_slice); (iterate 3 exact rfl))
      | (apply H.fieldAddr; (iterate 3 exact rfl); exact inferInstance; exact rfl)
      | (apply H.load1; (iterate 3 exact rfl); apply Rd1.ofRow; (repeat (first | exact .here _ _ _ | apply At.there)); (iterate 2 exact rfl))
      | (first | apply H.seq | apply H.region | apply H.nil | apply H.then_normal)
      | ((first | apply H.cmp | apply H.build); (iterate 5 exact rfl))
      | ((first | (apply H.ar; (iterate 4 exact rfl)) | (apply H.conv_int; (iterate 2 exact rfl))); (first | (apply wr_i64_s1; omega) | (apply wr_i64_n1; omega) | (apply wr_i64_nn; omega) | (apply wr_i64; omega) | (apply wr_u64; omega) | (apply wr_u8; omega) | (apply wr_u16; omega) | rfl); exact rfl)
      | (apply H.pass; (iterate 2 exact rfl))
      | (apply H.pass0; exact rfl)
      | (apply H.pickT; (iterate 4 exact rfl))
      | ((first | apply H.pickF | apply H.extract | apply H.not); (iterate 4 exact rfl))
      | ((first | apply H.ptrNil | apply H.sliceNil); (iterate 5 exact rfl))
      | (apply H.store1; (iterate 4 exact rfl); (repeat (first | exact .here _ _ _ | apply At.there)); (repeat (first | exact .here _ _ _ | apply SetV.there)))
      | (apply H.cond_true; exact rfl)
      | (apply H.cond_false; exact rfl)
      | (first | apply H.skip | apply H.ret | apply H.then_ret | apply H.then_exit | apply H.exit | apply H.block | apply H.in_normal | apply H.in_ret | apply H.in_hit | apply H.loop_ret | apply H.loop_exit)
      | (apply H.in_miss; exact rfl)
      | (apply H.gyes; (iterate 3 exact rfl); (first | assumption | omega))
      | (apply H.gno; (iterate 3 exact rfl); (first | assumption | omega))
      | (apply H.cond_yes; exact rfl; (first | assumption | omega))
      | (apply H.cond_no; exact rfl; (first | assumption | omega))
      | ((first | apply H.gtrue); (iterate 3 exact rfl); assumption)
      | (apply H.gfalse; (iterate 3 exact rfl); assumption)
      | (apply H.cond_t; exact rfl; assumption)
      | (apply H.cond_f; exact rfl; assumption))
    refine H.draw ((0, false) :: (1, false) :: (2, true) :: qt 30 3) (by kernel_rfl) (by decide +kernel) (by first | exact blind_fn | exact blind_seq blind_fn | exact blind_seq (blind_seq blind_fn) | (repeat (first | exact blind_fn | refine blind_seq ?_ | refine blind_block ?_ | refine blind_loop ?_))) (S := [_, _]) rfl ?_
    repeat (
      first
      | ((first | apply HQ.move | apply HQ.assign | apply HQ.nilCheck | apply HQ.len_slice); (iterate 3 exact rfl))
      | (apply HQ.fieldAddr; (iterate 3 exact rfl); exact inferInstance; exact rfl)
      | (apply HQ.load1; (iterate 3 exact rfl); apply Rd1.ofRow; (repeat (first | exact .here _ _ _ | apply At.there)); (iterate 2 exact rfl))
      | ((first | apply HQ.done0 | apply HQ.done); exact rfl)
      | ((first | apply HQ.cmp | apply HQ.build); (iterate 5 exact rfl))
      | ((first | (apply HQ.ar; (iterate 4 exact rfl)) | (apply HQ.conv_int; (iterate 2 exact rfl))); (first | (apply wr_i64_s1; omega) | (apply wr_i64_n1; omega) | (apply wr_i64_nn; omega) | (apply wr_i64; omega) | (apply wr_u64; omega) | (apply wr_u8; omega) | (apply wr_u16; omega) | rfl); exact rfl)
      | (apply HQ.pass; (iterate 2 exact rfl))
      | (apply HQ.pickT; (iterate 4 exact rfl))
      | ((first | apply HQ.pickF | apply HQ.extract | apply HQ.not); (iterate 4 exact rfl))
      | ((first | apply HQ.ptrNil | apply HQ.sliceNil); (iterate 5 exact rfl))
      | (apply HQ.gyes; (iterate 3 exact rfl); (first | assumption | omega))
      | (apply HQ.gno; (iterate 3 exact rfl); (first | assumption | omega))
      | (apply HQ.gtrue; (iterate 3 exact rfl); assumption)
      | (apply HQ.gfalse; (iterate 3 exact rfl); assumption))
    refine HQ.event ?_
    refine H.call rfl rfl rfl (ropen_o f F b s eb ec hn v) fun _ _ _ hR => ?_
    obtain ⟨rfl, rfl, rfl⟩ := hR
    rw [ho]
    repeat (
      first
      | ((first | apply H.move | apply H.assign | apply H.nilCheck | apply H.len_slice); (iterate 3 exact rfl))
      | (apply H.fieldAddr; (iterate 3 exact rfl); exact inferInstance; exact rfl)
      | (apply H.load1; (iterate 3 exact rfl); apply Rd1.ofRow; (repeat (first | exact .here _ _ _ | apply At.there)); (iterate 2 exact rfl))
      | (first | apply H.seq | apply H.region | apply H.nil | apply H.then_normal)
      | ((first | apply H.cmp | apply H.build); (iterate 5 exact rfl))
      | ((first | (apply H.ar; (iterate 4 exact rfl)) | (apply H.conv_int; (iterate 2 exact rfl))); (first | (apply wr_i64_s1; omega) | (apply wr_i64_n1; omega) | (apply wr_i64_nn; omega) | (apply wr_i64; omega) | (apply wr_u64; omega) | (apply wr_u8; omega) | (apply wr_u16; omega) | rfl); exact rfl)
      | (apply H.pass; (iterate 2 exact rfl))
      | (apply H.pass0; exact rfl)
      | (apply H.pickT; (iterate 4 exact rfl))
      | ((first | apply H.pickF | apply H.extract | apply H.not); (iterate 4 exact rfl))
      | ((first | apply H.ptrNil | apply H.sliceNil); (iterate 5 exact rfl))
      | (apply H.store1; (iterate 4 exact rfl); (repeat (first | exact .here _ _ _ | apply At.there)); (repeat (first | exact .here _ _ _ | apply SetV.there)))
      | (apply H.cond_true; exact rfl)
      | (apply H.cond_false; exact rfl)
      | (first | apply H.skip | apply H.ret | apply H.then_ret | apply H.then_exit | apply H.exit | apply H.block | apply H.in_normal | apply H.in_ret | apply H.in_hit | apply H.loop_ret | apply H.loop_exit)
      | (apply H.in_miss; exact rfl)
      | (apply H.gyes; (iterate 3 exact rfl); (first | assumption | omega))
      | (apply H.gno; (iterate 3 exact rfl); (first | assumption | omega))
      | (apply H.cond_yes; exact rfl; (first | assumption | omega))
      | (apply H.cond_no; exact rfl; (first | assumption | omega))
      | ((first | apply H.gtrue); (iterate 3 exact rfl); assumption)
      | (apply H.gfalse; (iterate 3 exact rfl); assumption)
      | (apply H.cond_t; exact rfl; assumption)
      | (apply H.cond_f; exact rfl; assumption))
    refine H.back (A := [_, _]) rfl ?_
    repeat (
      first
      | ((first | apply HQ.move | apply HQ.assign | apply HQ.nilCheck | apply HQ.len_slice); (iterate 3 exact rfl))
      | (apply HQ.fieldAddr; (iterate 3 exact rfl); exact inferInstance; exact rfl)
      | (apply HQ.load1; (iterate 3 exact rfl); apply Rd1.ofRow; (repeat (first | exact .here _ _ _ | apply At.there)); (iterate 2 exact rfl))
      | ((first | apply HQ.done0 | apply HQ.done); exact rfl)
      | ((first | apply HQ.cmp | apply HQ.build); (iterate 5 exact rfl))
      | ((first | (apply HQ.ar; (iterate 4 exact rfl)) | (apply HQ.conv_int; (iterate 2 exact rfl))); (first | (apply wr_i64_s1; omega) | (apply wr_i64_n1; omega) | (apply wr_i64_nn; omega) | (apply wr_i64; omega) | (apply wr_u64; omega) | (apply wr_u8; omega) | (apply wr_u16; omega) | rfl); exact rfl)
      | (apply HQ.pass; (iterate 2 exact rfl))
      | (apply HQ.pickT; (iterate 4 exact rfl))
      | ((first | apply HQ.pickF | apply HQ.extract | apply HQ.not); (iterate 4 exact rfl))
      | ((first | apply HQ.ptrNil | apply HQ.sliceNil); (iterate 5 exact rfl))
      | (apply HQ.gyes; (iterate 3 exact rfl); (first | assumption | omega))
      | (apply HQ.gno; (iterate 3 exact rfl); (first | assumption | omega))
      | (apply HQ.gtrue; (iterate 3 exact rfl); assumption)
      | (apply HQ.gfalse; (iterate 3 exact rfl); assumption))
    repeat (
      first
      | ((first | apply H.move | apply H.assign | apply H.nilCheck | apply H.len_slice); (iterate 3 exact rfl))
      | (apply H.fieldAddr; (iterate 3 exact rfl); exact inferInstance; exact rfl)
      | (apply H.load1; (iterate 3 exact rfl); apply Rd1.ofRow; (repeat (first | exact .here _ _ _ | apply At.there)); (iterate 2 exact rfl))
      | (first | apply H.seq | apply H.region | apply H.nil | apply H.then_normal)
      | ((first | apply H.cmp | apply H.build); (iterate 5 exact rfl))
      | ((first | (apply H.ar; (iterate 4 exact rfl)) | (apply H.conv_int; (iterate 2 exact rfl))); (first | (apply wr_i64_s1; omega) | (apply wr_i64_n1; omega) | (apply wr_i64_nn; omega) | (apply wr_i64; omega) | (apply wr_u64; omega) | (apply wr_u8; omega) | (apply wr_u16; omega) | rfl); exact rfl)
      | (apply H.pass; (iterate 2 exact rfl))
      | (apply H.pass0; exact rfl)
      | (apply H.pickT; (iterate 4 exact rfl))
      | ((first | apply H.pickF | apply H.extract | apply H.not); (iterate 4 exact rfl))
      | ((first | apply H.ptrNil | apply H.sliceNil); (iterate 5 exact rfl))
      | (apply H.store1; (iterate 4 exact rfl); (repeat (first | exact .here _ _ _ | apply At.there)); (repeat (first | exact .here _ _ _ | apply SetV.there)))
      | (apply H.cond_true; exact rfl)
      | (apply H.cond_false; exact rfl)
      | (first | apply H.skip | apply H.ret | apply H.then_ret | apply H.then_exit | apply H.exit | apply H.block | apply H.in_normal | apply H.in_ret | apply H.in_hit | apply H.loop_ret | apply H.loop_exit)
      | (apply H.in_miss; exact rfl)
      | (apply H.gyes; (iterate 3 exact rfl); (first | assumption | omega))
      | (apply H.gno; (iterate 3 exact rfl); (first | assumption | omega))
      | (apply H.cond_yes; exact rfl; (first | assumption | omega))
      | (apply H.cond_no; exact rfl; (first | assumption | omega))
      | ((first | apply H.gtrue); (iterate 3 exact rfl); assumption)
      | (apply H.gfalse; (iterate 3 exact rfl); assumption)
      | (apply H.cond_t; exact rfl; assumption)
      | (apply H.cond_f; exact rfl; assumption))
    exact H.ret1 rfl rfl refH_fold ⟨by rw [e], rfl, by simp [PM.commit, e]⟩
  | true =>
    have hopen : v = s.g ∧ v = s.lv := by simpa [PM.isOpen] using ho
    by_cases h1 : k = s.ln + 1
    · by_cases h2 : most < 0
      · have e : s.commitOk v k most = false := by simp [PM.commitOk]; omega
        clear hopen
        refine Fn.enter Try.func23 rfl Try.ntmps23 rfl (L := [(0, _), (1, _), (2, _), (3, _)]) ⟨rfl, rfl, rfl, rfl, trivial⟩ fun base => ?_
        repeat (
          first
          | ((first | apply H.move | apply H.assign | apply H.nilCheck | apply H.len_slice); (iterate 3 exact rfl))
          | (apply H.fieldAddr; (iterate 3 exact rfl); exact inferInstance; exact rfl)
          | (apply H.load1; (iterate 3 exact rfl); apply Rd1.ofRow; (repeat (first | exact .here _ _ _ | apply At.there)); (iterate 2 exact rfl))
          | (first | apply H.seq | apply H.region | apply H.nil | apply H.then_normal)
          | ((first | apply H.cmp | apply H.build); (iterate 5 exact rfl))
          | ((first | (apply H.ar; (iterate 4 exact rfl)) | (apply H.conv_int; (iterate 2 exact rfl))); (first | (apply wr_i64_s1; omega) | (apply wr_i64_n1; omega) | (apply wr_i64_nn; omega) | (apply wr_i64; omega) | (apply wr_u64; omega) | (apply wr_u8; omega) | (apply wr_u16; omega) | rfl); exact rfl)
          | (apply H.pass; (iterate 2 exact rfl))
          | (apply H.pass0; exact rfl)
          | (apply H.pickT; (iterate 4 exact rfl))
          | ((first | apply H.pickF | apply H.extract | apply H.not); (iterate 4 exact rfl))
          | ((first | apply H.ptrNil | apply H.sliceNil); (iterate 5 exact rfl))
          | (apply H.store1; (iterate 4 exact rfl); (repeat (first | exact .here _ _ _ | apply At.there)); (repeat (first | exact .here _ _ _ | apply SetV.there)))
          | (apply H.cond_true; exact rfl)
          | (apply H.cond_false; exact rfl)
          | (first | apply H.skip | apply H.ret | apply H.then_ret | apply H.then_exit | apply H.exit | apply H.block | apply H.in_normal | apply H.in_ret | apply H.in_hit | apply H.loop_ret | apply H.loop_exit)
          | (apply H.in_miss; exact rfl)
          | (apply H.gyes; (iterate 3 exact rfl); (first | assumption | omega))
          | (apply H.gno; (iterate 3 exact rfl); (first | assumption | omega))
          | (apply H.cond_yes; exact rfl; (first | assumption | omega))
          | (apply H.cond_no; exact rfl; (first | assumption | omega))
          | ((first | apply H.gtrue); (iterate 3 exact rfl); assumption)
          | (apply H.gfalse; (iterate 3 exact rfl); assumption)
          | (apply H.cond_t; exact rfl; assumption)
          | (apply H.cond_f; exact rfl; assumption))
        refine H.draw ((0, false) :: (1, false) :: (2, true) :: qt 30 3) (by kernel_rfl) (by decide +kernel) (by first | exact blind_fn | exact blind_seq blind_fn | exact blind_seq (blind_seq blind_fn) | (repeat (first | exact blind_fn | refine blind_seq ?_ | refine blind_block ?_ | refine blind_loop ?_))) (S := [_, _]) rfl ?_
        repeat (
          first
          | ((first | apply HQ.move | apply HQ.assign | apply HQ.nilCheck | apply HQ.len_slice); (iterate 3 exact rfl))
          | (apply HQ.fieldAddr; (iterate 3 exact rfl); exact inferInstance; exact rfl)
          | (apply HQ.load1; (iterate 3 exact rfl); apply Rd1.ofRow; (repeat (first | exact .here _ _ _ | apply At.there)); (iterate 2 exact rfl))
          | ((first | apply HQ.done0 | apply HQ.done); exact rfl)
          | ((first | apply HQ.cmp | apply HQ.build); (iterate 5 exact rfl))
          | ((first | (apply HQ.ar; (iterate 4 exact rfl)) | (apply HQ.conv_int; (iterate 2 exact rfl))); (first | (apply wr_i64_s1; omega) | (apply wr_i64_n1; omega) | (apply wr_i64_nn; omega) | (apply wr_i64; omega) | (apply wr_u64; omega) | (apply wr_u8; omega) | (apply wr_u16; omega) | rfl); exact rfl)
          | (apply HQ.pass; (iterate 2 exact rfl))
          | (apply HQ.pickT; (iterate 4 exact rfl))
          | ((first | apply HQ.pickF | apply HQ.extract | apply HQ.not); (iterate 4 exact rfl))
          | ((first | apply HQ.ptrNil | apply HQ.sliceNil); (iterate 5 exact rfl))
          | (apply HQ.gyes; (iterate 3 exact rfl); (first | assumption | omega))
          | (apply HQ.gno; (iterate 3 exact rfl); (first | assumption | omega))
          | (apply HQ.gtrue; (iterate 3 exact rfl); assumption)
          | (apply HQ.gfalse; (iterate 3 exact rfl); assumption))
        refine HQ.event ?_
        refine H.call rfl rfl rfl (ropen_o f F b s eb ec hn v) fun _ _ _ hR => ?_
        obtain ⟨rfl, rfl, rfl⟩ := hR
        rw [ho]
        repeat (
          first
          | ((first | apply H.move | apply H.assign | apply H.nilCheck | apply H.len_slice); (iterate 3 exact rfl))
          | (apply H.fieldAddr; (iterate 3 exact rfl); exact inferInstance; exact rfl)
          | (apply H.load1; (iterate 3 exact rfl); apply Rd1.ofRow; (repeat (first | exact .here _ _ _ | apply At.there)); (iterate 2 exact rfl))
          | (first | apply H.seq | apply H.region | apply H.nil | apply H.then_normal)
          | ((first | apply H.cmp | apply H.build); (iterate 5 exact rfl))
          | ((first | (apply H.ar; (iterate 4 exact rfl)) | (apply H.conv_int; (iterate 2 exact rfl))); (first | (apply wr_i64_s1; omega) | (apply wr_i64_n1; omega) | (apply wr_i64_nn; omega) | (apply wr_i64; omega) | (apply wr_u64; omega) | (apply wr_u8; omega) | (apply wr_u16; omega) | rfl); exact rfl)
          | (apply H.pass; (iterate 2 exact rfl))
          | (apply H.pass0; exact rfl)
          | (apply H.pickT; (iterate 4 exact rfl))
          | ((first | apply H.pickF | apply H.extract | apply H.not); (iterate 4 exact rfl))
          | ((first | apply H.ptrNil | apply H.sliceNil); (iterate 5 exact rfl))
          | (apply H.store1; (iterate 4 exact rfl); (repeat (first | exact .here _ _ _ | apply At.there)); (repeat (first | exact .here _ _ _ | apply SetV.there)))
          | (apply H.cond_true; exact rfl)
          | (apply H.cond_false; exact rfl)
          | (first | apply H.skip | apply H.ret | apply H.then_ret | apply H.then_exit | apply H.exit | apply H.block | apply H.in_normal | apply H.in_ret | apply H.in_hit | apply H.loop_ret | apply H.loop_exit)
          | (apply H.in_miss; exact rfl)
          | (apply H.gyes; (iterate 3 exact rfl); (first | assumption | omega))
          | (apply H.gno; (iterate 3 exact rfl); (first | assumption | omega))
          | (apply H.cond_yes; exact rfl; (first | assumption | omega))
          | (apply H.cond_no; exact rfl; (first | assumption | omega))
          | ((first | apply H.gtrue); (iterate 3 exact rfl); assumption)
          | (apply H.gfalse; (iterate 3 exact rfl); assumption)
          | (apply H.cond_t; exact rfl; assumption)
          | (apply H.cond_f; exact rfl; assumption))
        refine H.back (A := [_, _]) rfl ?_
        repeat (
          first
          | ((first | apply HQ.move | apply HQ.assign | apply HQ.nilCheck | apply HQ.len_slice); (iterate 3 exact rfl))
          | (apply HQ.fieldAddr; (iterate 3 exact rfl); exact inferInstance; exact rfl)
          | (apply HQ.load1; (iterate 3 exact rfl); apply Rd1.ofRow; (repeat (first | exact .here _ _ _ | apply At.there)); (iterate 2 exact rfl))
          | ((first | apply HQ.done0 | apply HQ.done); exact rfl)
          | ((first | apply HQ.cmp | apply HQ.build); (iterate 5 exact rfl))
          | ((first | (apply HQ.ar; (iterate 4 exact rfl)) | (apply HQ.conv_int; (iterate 2 exact rfl))); (first | (apply wr_i64_s1; omega) | (apply wr_i64_n1; omega) | (apply wr_i64_nn; omega) | (apply wr_i64; omega) | (apply wr_u64; omega) | (apply wr_u8; omega) | (apply wr_u16; omega) | rfl); exact rfl)
          | (apply HQ.pass; (iterate 2 exact rfl))
          | (apply HQ.pickT; (iterate 4 exact rfl))
          | ((first | apply HQ.pickF | apply HQ.extract | apply HQ.not); (iterate 4 exact rfl))
          | ((first | apply HQ.ptrNil | apply HQ.sliceNil); (iterate 5 exact rfl))
          | (apply HQ.gyes; (iterate 3 exact rfl); (first | assumption | omega))
          | (apply HQ.gno; (iterate 3 exact rfl); (first | assumption | omega))
          | (apply HQ.gtrue; (iterate 3 exact rfl); assumption)
          | (apply HQ.gfalse; (iterate 3 exact rfl); assumption))
        refine HQ.index0 rfl rfl rfl rfl (by omega) rfl ?_
        repeat (
          first
          | ((first | apply HQ.move | apply HQ.assign | apply HQ.nilCheck | apply HQ.len_slice); (iterate 3 exact rfl))
          | (apply HQ.fieldAddr; (iterate 3 exact rfl); exact inferInstance; exact rfl)
          | (apply HQ.load1; (iterate 3 exact rfl); apply Rd1.ofRow; (repeat (first | exact .here _ _ _ | apply At.there)); (iterate 2 exact rfl))
          | ((first | apply HQ.done0 | apply HQ.done); exact rfl)
          | ((first | apply HQ.cmp | apply HQ.build); (iterate 5 exact rfl))
          | ((first | (apply HQ.ar; (iterate 4 exact rfl)) | (apply HQ.conv_int; (iterate 2 exact rfl))); (first | (apply wr_i64_s1; omega) | (apply wr_i64_n1; omega) | (apply wr_i64_nn; omega) | (apply wr_i64; omega) | (apply wr_u64; omega) | (apply wr_u8; omega) | (apply wr_u16; omega) | rfl); exact rfl)
          | (apply HQ.pass; (iterate 2 exact rfl))
          | (apply HQ.pickT; (iterate 4 exact rfl))
          | ((first | apply HQ.pickF | apply HQ.extract | apply HQ.not); (iterate 4 exact rfl))
          | ((first | apply HQ.ptrNil | apply HQ.sliceNil); (iterate 5 exact rfl))
          | (apply HQ.gyes; (iterate 3 exact rfl); (first | assumption | omega))
          | (apply HQ.gno; (iterate 3 exact rfl); (first | assumption | omega))
          | (apply HQ.gtrue; (iterate 3 exact rfl); assumption)
          | (apply HQ.gfalse; (iterate 3 exact rfl); assumption))
        refine HQ.load1 rfl rfl rfl (.at0 (Rd.ofSlc (by repeat (first | exact .here _ _ _ | apply At.there)) (by omega)) (votes_ln s)) rfl ?_
        repeat (
          first
          | ((first | apply HQ.move | apply HQ.assign | apply HQ.nilCheck | apply HQ.len_slice); (iterate 3 exact rfl))
          | (apply HQ.fieldAddr; (iterate 3 exact rfl); exact inferInstance; exact rfl)
          | (apply HQ.load1; (iterate 3 exact rfl); apply Rd1.ofRow; (repeat (first | exact .here _ _ _ | apply At.there)); (iterate 2 exact rfl))
          | ((first | apply HQ.done0 | apply HQ.done); exact rfl)
          | ((first | apply HQ.cmp | apply HQ.build); (iterate 5 exact rfl))
          | ((first | (apply HQ.ar; (iterate 4 exact rfl)) | (apply HQ.conv_int; (iterate 2 exact rfl))); (first | (apply wr_i64_s1; omega) | (apply wr_i64_n1; omega) | (apply wr_i64_nn; omega) | (apply wr_i64; omega) | (apply wr_u64; omega) | (apply wr_u8; omega) | (apply wr_u16; omega) | rfl); exact rfl)
          | (apply HQ.pass; (iterate 2 exact rfl))
          | (apply HQ.pickT; (iterate 4 exact rfl))
          | ((first | apply HQ.pickF | apply HQ.extract | apply HQ.not); (iterate 4 exact rfl))
          | ((first | apply HQ.ptrNil | apply HQ.sliceNil); (iterate 5 exact rfl))
          | (apply HQ.gyes; (iterate 3 exact rfl); (first | assumption | omega))
          | (apply HQ.gno; (iterate 3 exact rfl); (first | assumption | omega))
          | (apply HQ.gtrue; (iterate 3 exact rfl); assumption)
          | (apply HQ.gfalse; (iterate 3 exact rfl); assumption))
        repeat (
          first
          | ((first | apply H.move | apply H.assign | apply H.nilCheck | apply H.len_slice); (iterate 3 exact rfl))
          | (apply H.fieldAddr; (iterate 3 exact rfl); exact inferInstance; exact rfl)
          | (apply H.load1; (iterate 3 exact rfl); apply Rd1.ofRow; (repeat (first | exact .here _ _ _ | apply At.there)); (iterate 2 exact rfl))
          | (first | apply H.seq | apply H.region | apply H.nil | apply H.then_normal)
          | ((first | apply H.cmp | apply H.build); (iterate 5 exact rfl))
          | ((first | (apply H.ar; (iterate 4 exact rfl)) | (apply H.conv_int; (iterate 2 exact rfl))); (first | (apply wr_i64_s1; omega) | (apply wr_i64_n1; omega) | (apply wr_i64_nn; omega) | (apply wr_i64; omega) | (apply wr_u64; omega) | (apply wr_u8; omega) | (apply wr_u16; omega) | rfl); exact rfl)
          | (apply H.pass; (iterate 2 exact rfl))
          | (apply H.pass0; exact rfl)
          | (apply H.pickT; (iterate 4 exact rfl))
          | ((first | apply H.pickF | apply H.extract | apply H.not); (iterate 4 exact rfl))
          | ((first | apply H.ptrNil | apply H.sliceNil); (iterate 5 exact rfl))
          | (apply H.store1; (iterate 4 exact rfl); (repeat (first | exact .here _ _ _ | apply At.there)); (repeat (first | exact .here _ _ _ | apply SetV.there)))
          | (apply H.cond_true; exact rfl)
          | (apply H.cond_false; exact rfl)
          | (first | apply H.skip | apply H.ret | apply H.then_ret | apply H.then_exit | apply H.exit | apply H.block | apply H.in_normal | apply H.in_ret | apply H.in_hit | apply H.loop_ret | apply H.loop_exit)
          | (apply H.in_miss; exact rfl)
          | (apply H.gyes; (iterate 3 exact rfl); (first | assumption | omega))
          | (apply H.gno; (iterate 3 exact rfl); (first | assumption | omega))
          | (apply H.cond_yes; exact rfl; (first | assumption | omega))
          | (apply H.cond_no; exact rfl; (first | assumption | omega))
          | ((first | apply H.gtrue); (iterate 3 exact rfl); assumption)
          | (apply H.gfalse; (iterate 3 exact rfl); assumption)
          | (apply H.cond_t; exact rfl; assumption)
          | (apply H.cond_f; exact rfl; assumption))
        exact H.ret1 rfl rfl refH_fold ⟨by rw [e], rfl, by simp [PM.commit, e]⟩
      · by_cases h3 : most < k
        · have e : s.commitOk v k most = false := by simp [PM.commitOk]; omega
          clear hopen
          refine Fn.enter Try.func23 rfl Try.ntmps23 rfl (L := [(0, _), (1, _), (2, _), (3, _)]) ⟨rfl, rfl, rfl, rfl, trivial⟩ fun base => ?_
          repeat (
            first
            | ((first | apply H.move | apply H.assign | apply H.nilCheck | apply H.len_slice); (iterate 3 exact rfl))
            | (apply H.fieldAddr; (iterate 3 exact rfl); exact inferInstance; exact rfl)
            | (apply H.load1; (iterate 3 exact rfl); apply Rd1.ofRow; (repeat (first | exact .here _ _ _ | apply At.there)); (iterate 2 exact rfl))
            | (first | apply H.seq | apply H.region | apply H.nil | apply H.then_normal)
            | ((first | apply H.cmp | apply H.build); (iterate 5 exact rfl))
            | ((first | (apply H.ar; (iterate 4 exact rfl)) | (apply H.conv_int; (iterate 2 exact rfl))); (first | (apply wr_i64_s1; omega) | (apply wr_i64_n1; omega) | (apply wr_i64_nn; omega) | (apply wr_i64; omega) | (apply wr_u64; omega) | (apply wr_u8; omega) | (apply wr_u16; omega) | rfl); exact rfl)
            | (apply H.pass; (iterate 2 exact rfl))
            | (apply H.pass0; exact rfl)
            | (apply H.pickT; (iterate 4 exact rfl))
            | ((first | apply H.pickF | apply H.extract | apply H.not); (iterate 4 exact rfl))
            | ((first | apply H.ptrNil | apply H.sliceNil); (iterate 5 exact rfl))
            | (apply H.store1; (iterate 4 exact rfl); (repeat (first | exact .here _ _ _ | apply At.there)); (repeat (first | exact .here _ _ _ | apply SetV.there)))
            | (apply H.cond_true; exact rfl)
            | (apply H.cond_false; exact rfl)
            | (first | apply H.skip | apply H.ret | apply H.then_ret | apply H.then_exit | apply H.exit | apply H.block | apply H.in_normal | apply H.in_ret | apply H.in_hit | apply H.loop_ret | apply H.loop_exit)
            | (apply H.in_miss; exact rfl)
            | (apply H.gyes; (iterate 3 exact rfl); (first | assumption | omega))
            | (apply H.gno; (iterate 3 exact rfl); (first | assumption | omega))
            | (apply H.cond_yes; exact rfl; (first | assumption | omega))
            | (apply H.cond_no; exact rfl; (first | assumption | omega))
            | ((first | apply H.gtrue); (iterate 3 exact rfl); assumption)
            | (apply H.gfalse; (iterate 3 exact rfl); assumption)
            | (apply H.cond_t; exact rfl; assumption)
            | (apply H.cond_f; exact rfl; assumption))
          refine H.draw ((0, false) :: (1, false) :: (2, true) :: qt 30 3) (by kernel_rfl) (by decide +kernel) (by first | exact blind_fn | exact blind_seq blind_fn | exact blind_seq (blind_seq blind_fn) | (repeat (first | exact blind_fn | refine blind_seq ?_ | refine blind_block ?_ | refine blind_loop ?_))) (S := [_, _]) rfl ?_
          repeat (
            first
            | ((first | apply HQ.move | apply HQ.assign | apply HQ.nilCheck | apply HQ.len_slice); (iterate 3 exact rfl))
            | (apply HQ.fieldAddr; (iterate 3 exact rfl); exact inferInstance; exact rfl)
            | (apply HQ.load1; (iterate 3 exact rfl); apply Rd1.ofRow; (repeat (first | exact .here _ _ _ | apply At.there)); (iterate 2 exact rfl))
            | ((first | apply HQ.done0 | apply HQ.done); exact rfl)
            | ((first | apply HQ.cmp | apply HQ.build); (iterate 5 exact rfl))
            | ((first | (apply HQ.ar; (iterate 4 exact rfl)) | (apply HQ.conv_int; (iterate 2 exact rfl))); (first | (apply wr_i64_s1; omega) | (apply wr_i64_n1; omega) | (apply wr_i64_nn; omega) | (apply wr_i64; omega) | (apply wr_u64; omega) | (apply wr_u8; omega) | (apply wr_u16; omega) | rfl); exact rfl)
            | (apply HQ.pass; (iterate 2 exact rfl))
            | (apply HQ.pickT; (iterate 4 exact rfl))
            | ((first | apply HQ.pickF | apply HQ.extract | apply HQ.not); (iterate 4 exact rfl))
            | ((first | apply HQ.ptrNil | apply HQ.sliceNil); (iterate 5 exact rfl))
            | (apply HQ.gyes; (iterate 3 exact rfl); (first | assumption | omega))
            | (apply HQ.gno; (iterate 3 exact rfl); (first | assumption | omega))
            | (apply HQ.gtrue; (iterate 3 exact rfl); assumption)
            | (apply HQ.gfalse; (iterate 3 exact rfl); assumption))
          refine HQ.event ?_
          refine H.call rfl rfl rfl (ropen_o f F b s eb ec hn v) fun _ _ _ hR => ?_
          obtain ⟨rfl, rfl, rfl⟩ := hR
          rw [ho]
          repeat (
            first
            | ((first | apply H.move | apply H.assign | apply H.nilCheck | apply H.len_slice); (iterate 3 exact rfl))
            | (apply H.fieldAddr; (iterate 3 exact rfl); exact inferInstance; exact rfl)
            | (apply H.load1; (iterate 3 exact rfl); apply Rd1.ofRow; (repeat (first | exact .here _ _ _ | apply At.there)); (iterate 2 exact rfl))
            | (first | apply H.seq | apply H.region | apply H.nil | apply H.then_normal)
            | ((first | apply H.cmp | apply H.build); (iterate 5 exact rfl))
            | ((first | (apply H.ar; (iterate 4 exact rfl)) | (apply H.conv_int; (iterate 2 exact rfl))); (first | (apply wr_i64_s1; omega) | (apply wr_i64_n1; omega) | (apply wr_i64_nn; omega) | (apply wr_i64; omega) | (apply wr_u64; omega) | (apply wr_u8; omega) | (apply wr_u16; omega) | rfl); exact rfl)
            | (apply H.pass; (iterate 2 exact rfl))
            | (apply H.pass0; exact rfl)
            | (apply H.pickT; (iterate 4 exact rfl))
            | ((first | apply H.pickF | apply H.extract | apply H.not); (iterate 4 exact rfl))
            | ((first | apply H.ptrNil | apply H.sliceNil); (iterate 5 exact rfl))
            | (apply H.store1; (iterate 4 exact rfl); (repeat (first | exact .here _ _ _ | apply At.there)); (repeat (first | exact .here _ _ _ | apply SetV.there)))
            | (apply H.cond_true; exact rfl)
            | (apply H.cond_false; exact rfl)
            | (first | apply H.skip | apply H.ret | apply H.then_ret | apply H.then_exit | apply H.exit | apply H.block | apply H.in_normal | apply H.in_ret | apply H.in_hit | apply H.loop_ret | apply H.loop_exit)
            | (apply H.in_miss; exact rfl)
            | (apply H.gyes; (iterate 3 exact rfl); (first | assumption | omega))
            | (apply H.gno; (iterate 3 exact rfl); (first | assumption | omega))
            | (apply H.cond_yes; exact rfl; (first | assumption | omega))
            | (apply H.cond_no; exact rfl; (first | assumption | omega))
            | ((first | apply H.gtrue); (iterate 3 exact rfl); assumption)
            | (apply H.gfalse; (iterate 3 exact rfl); assumption)
            | (apply H.cond_t; exact rfl; assumption)
            | (apply H.cond_f; exact rfl; assumption))
          refine H.back (A := [_, _]) rfl ?_
          repeat (
            first
            | ((first | apply HQ.move | apply HQ.assign | apply HQ.nilCheck | apply HQ.len_slice); (iterate 3 exact rfl))
            | (apply HQ.fieldAddr; (iterate 3 exact rfl); exact inferInstance; exact rfl)
            | (apply HQ.load1; (iterate 3 exact rfl); apply Rd1.ofRow; (repeat (first | exact .here _ _ _ | apply At.there)); (iterate 2 exact rfl))
            | ((first | apply HQ.done0 | apply HQ.done); exact rfl)
            | ((first | apply HQ.cmp | apply HQ.build); (iterate 5 exact rfl))
            | ((first | (apply HQ.ar; (iterate 4 exact rfl)) | (apply HQ.conv_int; (iterate 2 exact rfl))); (first | (apply wr_i64_s1; omega) | (apply wr_i64_n1; omega) | (apply wr_i64_nn; omega) | (apply wr_i64; omega) | (apply wr_u64; omega) | (apply wr_u8; omega) | (apply wr_u16; omega) | rfl); exact rfl)
            | (apply HQ.pass; (iterate 2 exact rfl))
            | (apply HQ.pickT; (iterate 4 exact rfl))
            | ((first | apply HQ.pickF | apply HQ.extract | apply HQ.not); (iterate 4 exact rfl))
            | ((first | apply HQ.ptrNil | apply HQ.sliceNil); (iterate 5 exact rfl))
            | (apply HQ.gyes; (iterate 3 exact rfl); (first | assumption | omega))
            | (apply HQ.gno; (iterate 3 exact rfl); (first | assumption | omega))
            | (apply HQ.gtrue; (iterate 3 exact rfl); assumption)
            | (apply HQ.gfalse; (iterate 3 exact rfl); assumption))
          refine HQ.index0 rfl rfl rfl rfl (by omega) rfl ?_
          repeat (
            first
            | ((first | apply HQ.move | apply HQ.assign | apply HQ.nilCheck | apply HQ.len_slice); (iterate 3 exact rfl))
            | (apply HQ.fieldAddr; (iterate 3 exact rfl); exact inferInstance; exact rfl)
            | (apply HQ.load1; (iterate 3 exact rfl); apply Rd1.ofRow; (repeat (first | exact .here _ _ _ | apply At.there)); (iterate 2 exact rfl))
            | ((first | apply HQ.done0 | apply HQ.done); exact rfl)
            | ((first | apply HQ.cmp | apply HQ.build); (iterate 5 exact rfl))
            | ((first | (apply HQ.ar; (iterate 4 exact rfl)) | (apply HQ.conv_int; (iterate 2 exact rfl))); (first | (apply wr_i64_s1; omega) | (apply wr_i64_n1; omega) | (apply wr_i64_nn; omega) | (apply wr_i64; omega) | (apply wr_u64; omega) | (apply wr_u8; omega) | (apply wr_u16; omega) | rfl); exact rfl)
            | (apply HQ.pass; (iterate 2 exact rfl))
            | (apply HQ.pickT; (iterate 4 exact rfl))
            | ((first | apply HQ.pickF | apply HQ.extract | apply HQ.not); (iterate 4 exact rfl))
            | ((first | apply HQ.ptrNil | apply HQ.sliceNil); (iterate 5 exact rfl))
            | (apply HQ.gyes; (iterate 3 exact rfl); (first | assumption | omega))
            | (apply HQ.gno; (iterate 3 exact rfl); (first | assumption | omega))
            | (apply HQ.gtrue; (iterate 3 exact rfl); assumption)
            | (apply HQ.gfalse; (iterate 3 exact rfl); assumption))
          refine HQ.load1 rfl rfl rfl (.at0 (Rd.ofSlc (by repeat (first | exact .here _ _ _ | apply At.there)) (by omega)) (votes_ln s)) rfl ?_
          repeat (
            first
            | ((first | apply HQ.move | apply HQ.assign | apply HQ.nilCheck | apply HQ.len_slice); (iterate 3 exact rfl))
            | (apply HQ.fieldAddr; (iterate 3 exact rfl); exact inferInstance; exact rfl)
            | (apply HQ.load1; (iterate 3 exact rfl); apply Rd1.ofRow; (repeat (first | exact .here _ _ _ | apply At.there)); (iterate 2 exact rfl))
            | ((first | apply HQ.done0 | apply HQ.done); exact rfl)
            | ((first | apply HQ.cmp | apply HQ.build); (iterate 5 exact rfl))
            | ((first | (apply HQ.ar; (iterate 4 exact rfl)) | (apply HQ.conv_int; (iterate 2 exact rfl))); (first | (apply wr_i64_s1; omega) | (apply wr_i64_n1; omega) | (apply wr_i64_nn; omega) | (apply wr_i64; omega) | (apply wr_u64; omega) | (apply wr_u8; omega) | (apply wr_u16; omega) | rfl); exact rfl)
            | (apply HQ.pass; (iterate 2 exact rfl))
            | (apply HQ.pickT; (iterate 4 exact rfl))
            | ((first | apply HQ.pickF | apply HQ.extract | apply HQ.not); (iterate 4 exact rfl))
            | ((first | apply HQ.ptrNil | apply HQ.sliceNil); (iterate 5 exact rfl))
            | (apply HQ.gyes; (iterate 3 exact rfl); (first | assumption | omega))
            | (apply HQ.gno; (iterate 3 exact rfl); (first | assumption | omega))
            | (apply HQ.gtrue; (iterate 3 exact rfl); assumption)
            | (apply HQ.gfalse; (iterate 3 exact rfl); assumption))
          repeat (
            first
            | ((first | apply H.move | apply H.assign | apply H.nilCheck | apply H.len_slice); (iterate 3 exact rfl))
            | (apply H.fieldAddr; (iterate 3 exact rfl); exact inferInstance; exact rfl)
            | (apply H.load1; (iterate 3 exact rfl); apply Rd1.ofRow; (repeat (first | exact .here _ _ _ | apply At.there)); (iterate 2 exact rfl))
            | (first | apply H.seq | apply H.region | apply H.nil | apply H.then_normal)
            | ((first | apply H.cmp | apply H.build); (iterate 5 exact rfl))
            | ((first | (apply H.ar; (iterate 4 exact rfl)) | (apply H.conv_int; (iterate 2 exact rfl))); (first | (apply wr_i64_s1; omega) | (apply wr_i64_n1; omega) | (apply wr_i64_nn; omega) | (apply wr_i64; omega) | (apply wr_u64; omega) | (apply wr_u8; omega) | (apply wr_u16; omega) | rfl); exact rfl)
            | (apply H.pass; (iterate 2 exact rfl))
            | (apply H.pass0; exact rfl)
            | (apply H.pickT; (iterate 4 exact rfl))
            | ((first | apply H.pickF | apply H.extract | apply H.not); (iterate 4 exact rfl))
            | ((first | apply H.ptrNil | apply H.sliceNil); (iterate 5 exact rfl))
            | (apply H.store1; (iterate 4 exact rfl); (repeat (first | exact .here _ _ _ | apply At.there)); (repeat (first | exact .here _ _ _ | apply SetV.there)))
            | (apply H.cond_true; exact rfl)
            | (apply H.cond_false; exact rfl)
            | (first | apply H.skip | apply H.ret | apply H.then_ret | apply H.then_exit | apply H.exit | apply H.block | apply H.in_normal | apply H.in_ret | apply H.in_hit | apply H.loop_ret | apply H.loop_exit)
            | (apply H.in_miss; exact rfl)
            | (apply H.gyes; (iterate 3 exact rfl); (first | assumption | omega))
            | (apply H.gno; (iterate 3 exact rfl); (first | assumption | omega))
            | (apply H.cond_yes; exact rfl; (first | assumption | omega))
            | (apply H.cond_no; exact rfl; (first | assumption | omega))
            | ((first | apply H.gtrue); (iterate 3 exact rfl); assumption)
            | (apply H.gfalse; (iterate 3 exact rfl); assumption)
            | (apply H.cond_t; exact rfl; assumption)
            | (apply H.cond_f; exact rfl; assumption))
          exact H.ret1 rfl rfl refH_fold ⟨by rw [e], rfl, by simp [PM.commit, e]⟩
        · have e : s.commitOk v k most = true := by simp [PM.commitOk]; omega
          clear hopen
          refine Fn.enter Try.func23 rfl Try.ntmps23 rfl (L := [(0, _), (1, _), (2, _), (3, _)]) ⟨rfl, rfl, rfl, rfl, trivial⟩ fun base => ?_
          repeat (
            first
            | ((first | apply H.move | apply H.assign | apply H.nilCheck | apply H.len_slice); (iterate 3 exact rfl))
            | (apply H.fieldAddr; (iterate 3 exact rfl); exact inferInstance; exact rfl)
            | (apply H.load1; (iterate 3 exact rfl); apply Rd1.ofRow; (repeat (first | exact .here _ _ _ | apply At.there)); (iterate 2 exact rfl))
            | (first | apply H.seq | apply H.region | apply H.nil | apply H.then_normal)
            | ((first | apply H.cmp | apply H.build); (iterate 5 exact rfl))
            | ((first | (apply H.ar; (iterate 4 exact rfl)) | (apply H.conv_int; (iterate 2 exact rfl))); (first | (apply wr_i64_s1; omega) | (apply wr_i64_n1; omega) | (apply wr_i64_nn; omega) | (apply wr_i64; omega) | (apply wr_u64; omega) | (apply wr_u8; omega) | (apply wr_u16; omega) | rfl); exact rfl)
            | (apply H.pass; (iterate 2 exact rfl))
            | (apply H.pass0; exact rfl)
            | (apply H.pickT; (iterate 4 exact rfl))
            | ((first | apply H.pickF | apply H.extract | apply H.not); (iterate 4 exact rfl))
            | ((first | apply H.ptrNil | apply H.sliceNil); (iterate 5 exact rfl))
            | (apply H.store1; (iterate 4 exact rfl); (repeat (first | exact .here _ _ _ | apply At.there)); (repeat (first | exact .here _ _ _ | apply SetV.there)))
            | (apply H.cond_true; exact rfl)
            | (apply H.cond_false; exact rfl)
            | (first | apply H.skip | apply H.ret | apply H.then_ret | apply H.then_exit | apply H.exit | apply H.block | apply H.in_normal | apply H.in_ret | apply H.in_hit | apply H.loop_ret | apply H.loop_exit)
            | (apply H.in_miss; exact rfl)
            | (apply H.gyes; (iterate 3 exact rfl); (first | assumption | omega))
            | (apply H.gno; (iterate 3 exact rfl); (first | assumption | omega))
            | (apply H.cond_yes; exact rfl; (first | assumption | omega))
            | (apply H.cond_no; exact rfl; (first | assumption | omega))
            | ((first | apply H.gtrue); (iterate 3 exact rfl); assumption)
            | (apply H.gfalse; (iterate 3 exact rfl); assumption)
            | (apply H.cond_t; exact rfl; assumption)
            | (apply H.cond_f; exact rfl; assumption))
          refine H.draw ((0, false) :: (1, false) :: (2, true) :: qt 30 3) (by kernel_rfl) (by decide +kernel) (by first | exact blind_fn | exact blind_seq blind_fn | exact blind_seq (blind_seq blind_fn) | (repeat (first | exact blind_fn | refine blind_seq ?_ | refine blind_block ?_ | refine blind_loop ?_))) (S := [_, _]) rfl ?_
          repeat (
            first
            | ((first | apply HQ.move | apply HQ.assign | apply HQ.nilCheck | apply HQ.len_slice); (iterate 3 exact rfl))
            | (apply HQ.fieldAddr; (iterate 3 exact rfl); exact inferInstance; exact rfl)
            | (apply HQ.load1; (iterate 3 exact rfl); apply Rd1.ofRow; (repeat (first | exact .here _ _ _ | apply At.there)); (iterate 2 exact rfl))
            | ((first | apply HQ.done0 | apply HQ.done); exact rfl)
            | ((first | apply HQ.cmp | apply HQ.build); (iterate 5 exact rfl))
            | ((first | (apply HQ.ar; (iterate 4 exact rfl)) | (apply HQ.conv_int; (iterate 2 exact rfl))); (first | (apply wr_i64_s1; omega) | (apply wr_i64_n1; omega) | (apply wr_i64_nn; omega) | (apply wr_i64; omega) | (apply wr_u64; omega) | (apply wr_u8; omega) | (apply wr_u16; omega) | rfl); exact rfl)
            | (apply HQ.pass; (iterate 2 exact rfl))
            | (apply HQ.pickT; (iterate 4 exact rfl))
            | ((first | apply HQ.pickF | apply HQ.extract | apply HQ.not); (iterate 4 exact rfl))
            | ((first | apply HQ.ptrNil | apply HQ.sliceNil); (iterate 5 exact rfl))
            | (apply HQ.gyes; (iterate 3 exact rfl); (first | assumption | omega))
            | (apply HQ.gno; (iterate 3 exact rfl); (first | assumption | omega))
            | (apply HQ.gtrue; (iterate 3 exact rfl); assumption)
            | (apply HQ.gfalse; (iterate 3 exact rfl); assumption))
          refine HQ.event ?_
          refine H.call rfl rfl rfl (ropen_o f F b s eb ec hn v) fun _ _ _ hR => ?_
          obtain ⟨rfl, rfl, rfl⟩ := hR
          rw [ho]
          repeat (
            first
            | ((first | apply H.move | apply H.assign | apply H.nilCheck | apply H.len_slice); (iterate 3 exact rfl))
            | (apply H.fieldAddr; (iterate 3 exact rfl); exact inferInstance; exact rfl)
            | (apply H.load1; (iterate 3 exact rfl); apply Rd1.ofRow; (repeat (first | exact .here _ _ _ | apply At.there)); (iterate 2 exact rfl))
            | (first | apply H.seq | apply H.region | apply H.nil | apply H.then_normal)
            | ((first | apply H.cmp | apply H.build); (iterate 5 exact rfl))
            | ((first | (apply H.ar; (iterate 4 exact rfl)) | (apply H.conv_int; (iterate 2 exact rfl))); (first | (apply wr_i64_s1; omega) | (apply wr_i64_n1; omega) | (apply wr_i64_nn; omega) | (apply wr_i64; omega) | (apply wr_u64; omega) | (apply wr_u8; omega) | (apply wr_u16; omega) | rfl); exact rfl)
            | (apply H.pass; (iterate 2 exact rfl))
            | (apply H.pass0; exact rfl)
            | (apply H.pickT; (iterate 4 exact rfl))
            | ((first | apply H.pickF | apply H.extract | apply H.not); (iterate 4 exact rfl))
            | ((first | apply H.ptrNil | apply H.sliceNil); (iterate 5 exact rfl))
            | (apply H.store1; (iterate 4 exact rfl); (repeat (first | exact .here _ _ _ | apply At.there)); (repeat (first | exact .here _ _ _ | apply SetV.there)))
            | (apply H.cond_true; exact rfl)
            | (apply H.cond_false; exact rfl)
            | (first | apply H.skip | apply H.ret | apply H.then_ret | apply H.then_exit | apply H.exit | apply H.block | apply H.in_normal | apply H.in_ret | apply H.in_hit | apply H.loop_ret | apply H.loop_exit)
            | (apply H.in_miss; exact rfl)
            | (apply H.gyes; (iterate 3 exact rfl); (first | assumption | omega))
            | (apply H.gno; (iterate 3 exact rfl); (first | assumption | omega))
            | (apply H.cond_yes; exact rfl; (first | assumption | omega))
            | (apply H.cond_no; exact rfl; (first | assumption | omega))
            | ((first | apply H.gtrue); (iterate 3 exact rfl); assumption)
            | (apply H.gfalse; (iterate 3 exact rfl); assumption)
            | (apply H.cond_t; exact rfl; assumption)
            | (apply H.cond_f; exact rfl; assumption))
          refine H.back (A := [_, _]) rfl ?_
          repeat (
            first
            | ((first | apply HQ.move | apply HQ.assign | apply HQ.nilCheck | apply HQ.len_slice); (iterate 3 exact rfl))
            | (apply HQ.fieldAddr; (iterate 3 exact rfl); exact inferInstance; exact rfl)
            | (apply HQ.load1; (iterate 3 exact rfl); apply Rd1.ofRow; (repeat (first | exact .here _ _ _ | apply At.there)); (iterate 2 exact rfl))
            | ((first | apply HQ.done0 | apply HQ.done); exact rfl)
            | ((first | apply HQ.cmp | apply HQ.build); (iterate 5 exact rfl))
            | ((first | (apply HQ.ar; (iterate 4 exact rfl)) | (apply HQ.conv_int; (iterate 2 exact rfl))); (first | (apply wr_i64_s1; omega) | (apply wr_i64_n1; omega) | (apply wr_i64_nn; omega) | (apply wr_i64; omega) | (apply wr_u64; omega) | (apply wr_u8; omega) | (apply wr_u16; omega) | rfl); exact rfl)
            | (apply HQ.pass; (iterate 2 exact rfl))
            | (apply HQ.pickT; (iterate 4 exact rfl))
            | ((first | apply HQ.pickF | apply HQ.extract | apply HQ.not); (iterate 4 exact rfl))
            | ((first | apply HQ.ptrNil | apply HQ.sliceNil); (iterate 5 exact rfl))
            | (apply HQ.gyes; (iterate 3 exact rfl); (first | assumption | omega))
            | (apply HQ.gno; (iterate 3 exact rfl); (first | assumption | omega))
            | (apply HQ.gtrue; (iterate 3 exact rfl); assumption)
            | (apply HQ.gfalse; (iterate 3 exact rfl); assumption))
          refine HQ.index0 rfl rfl rfl rfl (by omega) rfl ?_
          repeat (
            first
            | ((first | apply HQ.move | apply HQ.assign | apply HQ.nilCheck | apply HQ.len_slice); (iterate 3 exact rfl))
            | (apply HQ.fieldAddr; (iterate 3 exact rfl); exact inferInstance; exact rfl)
            | (apply HQ.load1; (iterate 3 exact rfl); apply Rd1.ofRow; (repeat (first | exact .here _ _ _ | apply At.there)); (iterate 2 exact rfl))
            | ((first | apply HQ.done0 | apply HQ.done); exact rfl)
            | ((first | apply HQ.cmp | apply HQ.build); (iterate 5 exact rfl))
            | ((first | (apply HQ.ar; (iterate 4 exact rfl)) | (apply HQ.conv_int; (iterate 2 exact rfl))); (first | (apply wr_i64_s1; omega) | (apply wr_i64_n1; omega) | (apply wr_i64_nn; omega) | (apply wr_i64; omega) | (apply wr_u64; omega) | (apply wr_u8; omega) | (apply wr_u16; omega) | rfl); exact rfl)
            | (apply HQ.pass; (iterate 2 exact rfl))
            | (apply HQ.pickT; (iterate 4 exact rfl))
            | ((first | apply HQ.pickF | apply HQ.extract | apply HQ.not); (iterate 4 exact rfl))
            | ((first | apply HQ.ptrNil | apply HQ.sliceNil); (iterate 5 exact rfl))
            | (apply HQ.gyes; (iterate 3 exact rfl); (first | assumption | omega))
            | (apply HQ.gno; (iterate 3 exact rfl); (first | assumption | omega))
            | (apply HQ.gtrue; (iterate 3 exact rfl); assumption)
            | (apply HQ.gfalse; (iterate 3 exact rfl); assumption))
          refine HQ.load1 rfl rfl rfl (.at0 (Rd.ofSlc (by repeat (first | exact .here _ _ _ | apply At.there)) (by omega)) (votes_ln s)) rfl ?_
          repeat (
            first
            | ((first | apply HQ.move | apply HQ.assign | apply HQ.nilCheck | apply HQ.len_slice); (iterate 3 exact rfl))
            | (apply HQ.fieldAddr; (iterate 3 exact rfl); exact inferInstance; exact rfl)
            | (apply HQ.load1; (iterate 3 exact rfl); apply Rd1.ofRow; (repeat (first | exact .here _ _ _ | apply At.there)); (iterate 2 exact rfl))
            | ((first | apply HQ.done0 | apply HQ.done); exact rfl)
            | ((first | apply HQ.cmp | apply HQ.build); (iterate 5 exact rfl))
            | ((first | (apply HQ.ar; (iterate 4 exact rfl)) | (apply HQ.conv_int; (iterate 2 exact rfl))); (first | (apply wr_i64_s1; omega) | (apply wr_i64_n1; omega) | (apply wr_i64_nn; omega) | (apply wr_i64; omega) | (apply wr_u64; omega) | (apply wr_u8; omega) | (apply wr_u16; omega) | rfl); exact rfl)
            | (apply HQ.pass; (iterate 2 exact rfl))
            | (apply HQ.pickT; (iterate 4 exact rfl))
            | ((first | apply HQ.pickF | apply HQ.extract | apply HQ.not); (iterate 4 exact rfl))
            | ((first | apply HQ.ptrNil | apply HQ.sliceNil); (iterate 5 exact rfl))
            | (apply HQ.gyes; (iterate 3 exact rfl); (first | assumption | omega))
            | (apply HQ.gno; (iterate 3 exact rfl); (first | assumption | omega))
            | (apply HQ.gtrue; (iterate 3 exact rfl); assumption)
            | (apply HQ.gfalse; (iterate 3 exact rfl); assumption))
          repeat (
            first
            | ((first | apply H.move | apply H.assign | apply H.nilCheck | apply H.len_slice); (iterate 3 exact rfl))
            | (apply H.fieldAddr; (iterate 3 exact rfl); exact inferInstance; exact rfl)
            | (apply H.load1; (iterate 3 exact rfl); apply Rd1.ofRow; (repeat (first | exact .here _ _ _ | apply At.there)); (iterate 2 exact rfl))
            | (first | apply H.seq | apply H.region | apply H.nil | apply H.then_normal)
            | ((first | apply H.cmp | apply H.build); (iterate 5 exact rfl))
            | ((first | (apply H.ar; (iterate 4 exact rfl)) | (apply H.conv_int; (iterate 2 exact rfl))); (first | (apply wr_i64_s1; omega) | (apply wr_i64_n1; omega) | (apply wr_i64_nn; omega) | (apply wr_i64; omega) | (apply wr_u64; omega) | (apply wr_u8; omega) | (apply wr_u16; omega) | rfl); exact rfl)
            | (apply H.pass; (iterate 2 exact rfl))
            | (apply H.pass0; exact rfl)
            | (apply H.pickT; (iterate 4 exact rfl))
            | ((first | apply H.pickF | apply H.extract | apply H.not); (iterate 4 exact rfl))
            | ((first | apply H.ptrNil | apply H.sliceNil); (iterate 5 exact rfl))
            | (apply H.store1; (iterate 4 exact rfl); (repeat (first | exact .here _ _ _ | apply At.there)); (repeat (first | exact .here _ _ _ | apply SetV.there)))
            | (apply H.cond_true; exact rfl)
            | (apply H.cond_false; exact rfl)
            | (first | apply H.skip | apply H.ret | apply H.then_ret | apply H.then_exit | apply H.exit | apply H.block | apply H.in_normal | apply H.in_ret | apply H.in_hit | apply H.loop_ret | apply H.loop_exit)
            | (apply H.in_miss; exact rfl)
            | (apply H.gyes; (iterate 3 exact rfl); (first | assumption | omega))
            | (apply H.gno; (iterate 3 exact rfl); (first | assumption | omega))
            | (apply H.cond_yes; exact rfl; (first | assumption | omega))
            | (apply H.cond_no; exact rfl; (first | assumption | omega))
            | ((first | apply H.gtrue); (iterate 3 exact rfl); assumption)
            | (apply H.gfalse; (iterate 3 exact rfl); assumption)
            | (apply H.cond_t; exact rfl; assumption)
            | (apply H.cond_f; exact rfl; assumption))
          refine H.drawT 16 (by kernel_rfl) (by decide +kernel) ?_
          repeat (
            first
            | ((first | apply HS.move | apply HS.assign | apply HS.nilCheck | apply HS.len_slice); (iterate 3 exact rfl))
            | (apply HS.fieldAddr; (iterate 3 exact rfl); exact inferInstance; exact rfl)
            | (apply HS.load1; (iterate 3 exact rfl); apply Rd1.ofRow; (repeat (first | exact .here _ _ _ | apply At.there)); (iterate 2 exact rfl))
            | apply HS.done
            | ((first | apply HS.cmp | apply HS.build); (iterate 5 exact rfl))
            | ((first | (apply HS.ar; (iterate 4 exact rfl)) | (apply HS.conv_int; (iterate 2 exact rfl))); (first | (apply wr_i64_s1; omega) | (apply wr_i64_n1; omega) | (apply wr_i64_nn; omega) | (apply wr_i64; omega) | (apply wr_u64; omega) | (apply wr_u8; omega) | (apply wr_u16; omega) | rfl); exact rfl)
            | (apply HS.pass; (iterate 2 exact rfl))
            | (apply HS.pickT; (iterate 4 exact rfl))
            | ((first | apply HS.pickF | apply HS.extract | apply HS.not); (iterate 4 exact rfl))
            | ((first | apply HS.ptrNil | apply HS.sliceNil); (iterate 5 exact rfl))
            | (apply HS.gyes; (iterate 3 exact rfl); (first | assumption | omega))
            | (apply HS.gno; (iterate 3 exact rfl); (first | assumption | omega))
            | (apply HS.gtrue; (iterate 3 exact rfl); assumption)
            | (apply HS.gfalse; (iterate 3 exact rfl); assumption))
          refine HS.index0 rfl rfl rfl rfl (by omega) rfl ?_
          repeat (
            first
            | ((first | apply HS.move | apply HS.assign | apply HS.nilCheck | apply HS.len_slice); (iterate 3 exact rfl))
            | (apply HS.fieldAddr; (iterate 3 exact rfl); exact inferInstance; exact rfl)
            | (apply HS.load1; (iterate 3 exact rfl); apply Rd1.ofRow; (repeat (first | exact .here _ _ _ | apply At.there)); (iterate 2 exact rfl))
            | apply HS.done
            | ((first | apply HS.cmp | apply HS.build); (iterate 5 exact rfl))
            | ((first | (apply HS.ar; (iterate 4 exact rfl)) | (apply HS.conv_int; (iterate 2 exact rfl))); (first | (apply wr_i64_s1; omega) | (apply wr_i64_n1; omega) | (apply wr_i64_nn; omega) | (apply wr_i64; omega) | (apply wr_u64; omega) | (apply wr_u8; omega) | (apply wr_u16; omega) | rfl); exact rfl)
            | (apply HS.pass; (iterate 2 exact rfl))
            | (apply HS.pickT; (iterate 4 exact rfl))
            | ((first | apply HS.pickF | apply HS.extract | apply HS.not); (iterate 4 exact rfl))
            | ((first | apply HS.ptrNil | apply HS.sliceNil); (iterate 5 exact rfl))
            | (apply HS.gyes; (iterate 3 exact rfl); (first | assumption | omega))
            | (apply HS.gno; (iterate 3 exact rfl); (first | assumption | omega))
            | (apply HS.gtrue; (iterate 3 exact rfl); assumption)
            | (apply HS.gfalse; (iterate 3 exact rfl); assumption))
          refine HS.load1 rfl rfl rfl (.at0 (Rd.ofSlc (by repeat (first | exact .here _ _ _ | apply At.there)) (by omega)) (votes_ln s)) rfl ?_
          repeat (
            first
            | ((first | apply HS.move | apply HS.assign | apply HS.nilCheck | apply HS.len_slice); (iterate 3 exact rfl))
            | (apply HS.fieldAddr; (iterate 3 exact rfl); exact inferInstance; exact rfl)
            | (apply HS.load1; (iterate 3 exact rfl); apply Rd1.ofRow; (repeat (first | exact .here _ _ _ | apply At.there)); (iterate 2 exact rfl))
            | apply HS.done
            | ((first | apply HS.cmp | apply HS.build); (iterate 5 exact rfl))
            | ((first | (apply HS.ar; (iterate 4 exact rfl)) | (apply HS.conv_int; (iterate 2 exact rfl))); (first | (apply wr_i64_s1; omega) | (apply wr_i64_n1; omega) | (apply wr_i64_nn; omega) | (apply wr_i64; omega) | (apply wr_u64; omega) | (apply wr_u8; omega) | (apply wr_u16; omega) | rfl); exact rfl)
            | (apply HS.pass; (iterate 2 exact rfl))
            | (apply HS.pickT; (iterate 4 exact rfl))
            | ((first | apply HS.pickF | apply HS.extract | apply HS.not); (iterate 4 exact rfl))
            | ((first | apply HS.ptrNil | apply HS.sliceNil); (iterate 5 exact rfl))
            | (apply HS.gyes; (iterate 3 exact rfl); (first | assumption | omega))
            | (apply HS.gno; (iterate 3 exact rfl); (first | assumption | omega))
            | (apply HS.gtrue; (iterate 3 exact rfl); assumption)
            | (apply HS.gfalse; (iterate 3 exact rfl); assumption))
          refine HS.index0 rfl rfl rfl rfl (by omega) rfl ?_
          repeat (
            first
            | ((first | apply HS.move | apply HS.assign | apply HS.nilCheck | apply HS.len_slice); (iterate 3 exact rfl))
            | (apply HS.fieldAddr; (iterate 3 exact rfl); exact inferInstance; exact rfl)
            | (apply HS.load1; (iterate 3 exact rfl); apply Rd1.ofRow; (repeat (first | exact .here _ _ _ | apply At.there)); (iterate 2 exact rfl))
            | apply HS.done
            | ((first | apply HS.cmp | apply HS.build); (iterate 5 exact rfl))
            | ((first | (apply HS.ar; (iterate 4 exact rfl)) | (apply HS.conv_int; (iterate 2 exact rfl))); (first | (apply wr_i64_s1; omega) | (apply wr_i64_n1; omega) | (apply wr_i64_nn; omega) | (apply wr_i64; omega) | (apply wr_u64; omega) | (apply wr_u8; omega) | (apply wr_u16; omega) | rfl); exact rfl)
            | (apply HS.pass; (iterate 2 exact rfl))
            | (apply HS.pickT; (iterate 4 exact rfl))
            | ((first | apply HS.pickF | apply HS.extract | apply HS.not); (iterate 4 exact rfl))
            | ((first | apply HS.ptrNil | apply HS.sliceNil); (iterate 5 exact rfl))
            | (apply HS.gyes; (iterate 3 exact rfl); (first | assumption | omega))
            | (apply HS.gno; (iterate 3 exact rfl); (first | assumption | omega))
            | (apply HS.gtrue; (iterate 3 exact rfl); assumption)
            | (apply HS.gfalse; (iterate 3 exact rfl); assumption))
          refine H.store_slc rfl rfl rfl rfl (by repeat (first | exact .here _ _ _ | apply At.there)) (votes_bump s) ?_
          repeat (
            first
            | ((first | apply H.move | apply H.assign | apply H.nilCheck | apply H.len_slice); (iterate 3 exact rfl))
            | (apply H.fieldAddr; (iterate 3 exact rfl); exact inferInstance; exact rfl)
            | (apply H.load1; (iterate 3 exact rfl); apply Rd1.ofRow; (repeat (first | exact .here _ _ _ | apply At.there)); (iterate 2 exact rfl))
            | (first | apply H.seq | apply H.region | apply H.nil | apply H.then_normal)
            | ((first | apply H.cmp | apply H.build); (iterate 5 exact rfl))
            | ((first | (apply H.ar; (iterate 4 exact rfl)) | (apply H.conv_int; (iterate 2 exact rfl))); (first | (apply wr_i64_s1; omega) | (apply wr_i64_n1; omega) | (apply wr_i64_nn; omega) | (apply wr_i64; omega) | (apply wr_u64; omega) | (apply wr_u8; omega) | (apply wr_u16; omega) | rfl); exact rfl)
            | (apply H.pass; (iterate 2 exact rfl))
            | (apply H.pass0; exact rfl)
            | (apply H.pickT; (iterate 4 exact rfl))
            | ((first | apply H.pickF | apply H.extract | apply H.not); (iterate 4 exact rfl))
            | ((first | apply H.ptrNil | apply H.sliceNil); (iterate 5 exact rfl))
            | (apply H.store1; (iterate 4 exact rfl); (repeat (first | exact .here _ _ _ | apply At.there)); (repeat (first | exact .here _ _ _ | apply SetV.there)))
            | (apply H.cond_true; exact rfl)
            | (apply H.cond_false; exact rfl)
            | (first | apply H.skip | apply H.ret | apply H.then_ret | apply H.then_exit | apply H.exit | apply H.block | apply H.in_normal | apply H.in_ret | apply H.in_hit | apply H.loop_ret | apply H.loop_exit)
            | (apply H.in_miss; exact rfl)
            | (apply H.gyes; (iterate 3 exact rfl); (first | assumption | omega))
            | (apply H.gno; (iterate 3 exact rfl); (first | assumption | omega))
            | (apply H.cond_yes; exact rfl; (first | assumption | omega))
            | (apply H.cond_no; exact rfl; (first | assumption | omega))
            | ((first | apply H.gtrue); (iterate 3 exact rfl); assumption)
            | (apply H.gfalse; (iterate 3 exact rfl); assumption)
            | (apply H.cond_t; exact rfl; assumption)
            | (apply H.cond_f; exact rfl; assumption))
          have hf := refH_fold (b := b) (eb := eb) (ec := ec) (s := { s with ln := s.ln + 1 }) (F := F)
          rw [show s.commit v k most = { s with ln := s.ln + 1 } by simp [PM.commit, e]]
          exact H.ret1 rfl rfl hf ⟨by rw [e], rfl, rfl⟩
    · have e : s.commitOk v k most = false := by simp [PM.commitOk]; omega
      clear hopen
      refine Fn.enter Try.func23 rfl Try.ntmps23 rfl (L := [(0, _), (1, _), (2, _), (3, _)]) ⟨rfl, rfl, rfl, rfl, trivial⟩ fun base => ?_
      repeat (
        first
        | ((first | apply H.move | apply H.assign | apply H.nilCheck | apply H.len_slice); (iterate 3 exact rfl))
        | (apply H.fieldAddr; (iterate 3 exact rfl); exact inferInstance; exact rfl)
        | (apply H.load1; (iterate 3 exact rfl); apply Rd1.ofRow; (repeat (first | exact .here _ _ _ | apply At.there)); (iterate 2 exact rfl))
        | (first | apply H.seq | apply H.region | apply H.nil | apply H.then_normal)
        | ((first | apply H.cmp | apply H.build); (iterate 5 exact rfl))
        | ((first | (apply H.ar; (iterate 4 exact rfl)) | (apply H.conv_int; (iterate 2 exact rfl))); (first | (apply wr_i64_s1; omega) | (apply wr_i64_n1; omega) | (apply wr_i64_nn; omega) | (apply wr_i64; omega) | (apply wr_u64; omega) | (apply wr_u8; omega) | (apply wr_u16; omega) | rfl); exact rfl)
        | (apply H.pass; (iterate 2 exact rfl))
        | (apply H.pass0; exact rfl)
        | (apply H.pickT; (iterate 4 exact rfl))
        | ((first | apply H.pickF | apply H.extract | apply H.not); (iterate 4 exact rfl))
        | ((first | apply H.ptrNil | apply H.sliceNil); (iterate 5 exact rfl))
        | (apply H.store1; (iterate 4 exact rfl); (repeat (first | exact .here _ _ _ | apply At.there)); (repeat (first | exact .here _ _ _ | apply SetV.there)))
        | (apply H.cond_true; exact rfl)
        | (apply H.cond_false; exact rfl)
        | (first | apply H.skip | apply H.ret | apply H.then_ret | apply H.then_exit | apply H.exit | apply H.block | apply H.in_normal | apply H.in_ret | apply H.in_hit | apply H.loop_ret | apply H.loop_exit)
        | (apply H.in_miss; exact rfl)
        | (apply H.gyes; (iterate 3 exact rfl); (first | assumption | omega))
        | (apply H.gno; (iterate 3 exact rfl); (first | assumption | omega))
        | (apply H.cond_yes; exact rfl; (first | assumption | omega))
        | (apply H.cond_no; exact rfl; (first | assumption | omega))
        | ((first | apply H.gtrue); (iterate 3 exact rfl); assumption)
        | (apply H.gfalse; (iterate 3 exact rfl); assumption)
        | (apply H.cond_t; exact rfl; assumption)
        | (apply H.cond_f; exact rfl; assumption))
      refine H.draw ((0, false) :: (1, false) :: (2, true) :: qt 30 3) (by kernel_rfl) (by decide +kernel) (by first | exact blind_fn | exact blind_seq blind_fn | exact blind_seq (blind_seq blind_fn) | (repeat (first | exact blind_fn | refine blind_seq ?_ | refine blind_block ?_ | refine blind_loop ?_))) (S := [_, _]) rfl ?_
      repeat (
        first
        | ((first | apply HQ.move | apply HQ.assign | apply HQ.nilCheck | apply HQ.len_slice); (iterate 3 exact rfl))
        | (apply HQ.fieldAddr; (iterate 3 exact rfl); exact inferInstance; exact rfl)
        | (apply HQ.load1; (iterate 3 exact rfl); apply Rd1.ofRow; (repeat (first | exact .here _ _ _ | apply At.there)); (iterate 2 exact rfl))
        | ((first | apply HQ.done0 | apply HQ.done); exact rfl)
        | ((first | apply HQ.cmp | apply HQ.build); (iterate 5 exact rfl))
        | ((first | (apply HQ.ar; (iterate 4 exact rfl)) | (apply HQ.conv_int; (iterate 2 exact rfl))); (first | (apply wr_i64_s1; omega) | (apply wr_i64_n1; omega) | (apply wr_i64_nn; omega) | (apply wr_i64; omega) | (apply wr_u64; omega) | (apply wr_u8; omega) | (apply wr_u16; omega) | rfl); exact rfl)
        | (apply HQ.pass; (iterate 2 exact rfl))
        | (apply HQ.pickT; (iterate 4 exact rfl))
        | ((first | apply HQ.pickF | apply HQ.extract | apply HQ.not); (iterate 4 exact rfl))
        | ((first | apply HQ.ptrNil | apply HQ.sliceNil); (iterate 5 exact rfl))
        | (apply HQ.gyes; (iterate 3 exact rfl); (first | assumption | omega))
        | (apply HQ.gno; (iterate 3 exact rfl); (first | assumption | omega))
        | (apply HQ.gtrue; (iterate 3 exact rfl); assumption)
        | (apply HQ.gfalse; (iterate 3 exact rfl); assumption))
      refine HQ.event ?_
      refine H.call rfl rfl rfl (ropen_o f F b s eb ec hn v) fun _ _ _ hR => ?_
      obtain ⟨rfl, rfl, rfl⟩ := hR
      rw [ho]
      repeat (
        first
        | ((first | apply H.move | apply H.assign | apply H.nilCheck | apply H.len_slice); (iterate 3 exact rfl))
        | (apply H.fieldAddr; (iterate 3 exact rfl); exact inferInstance; exact rfl)
        | (apply H.load1; (iterate 3 exact rfl); apply Rd1.ofRow; (repeat (first | exact .here _ _ _ | apply At.there)); (iterate 2 exact rfl))
        | (first | apply H.seq | apply H.region | apply H.nil | apply H.then_normal)
        | ((first | apply H.cmp | apply H.build); (iterate 5 exact rfl))
        | ((first | (apply H.ar; (iterate 4 exact rfl)) | (apply H.conv_int; (iterate 2 exact rfl))); (first | (apply wr_i64_s1; omega) | (apply wr_i64_n1; omega) | (apply wr_i64_nn; omega) | (apply wr_i64; omega) | (apply wr_u64; omega) | (apply wr_u8; omega) | (apply wr_u16; omega) | rfl); exact rfl)
        | (apply H.pass; (iterate 2 exact rfl))
        | (apply H.pass0; exact rfl)
        | (apply H.pickT; (iterate 4 exact rfl))
        | ((first | apply H.pickF | apply H.extract | apply H.not); (iterate 4 exact rfl))
        | ((first | apply H.ptrNil | apply H.sliceNil); (iterate 5 exact rfl))
        | (apply H.store1; (iterate 4 exact rfl); (repeat (first | exact .here _ _ _ | apply At.there)); (repeat (first | exact .here _ _ _ | apply SetV.there)))
        | (apply H.cond_true; exact rfl)
        | (apply H.cond_false; exact rfl)
        | (first | apply H.skip | apply H.ret | apply H.then_ret | apply H.then_exit | apply H.exit | apply H.block | apply H.in_normal | apply H.in_ret | apply H.in_hit | apply H.loop_ret | apply H.loop_exit)
        | (apply H.in_miss; exact rfl)
        | (apply H.gyes; (iterate 3 exact rfl); (first | assumption | omega))
        | (apply H.gno; (iterate 3 exact rfl); (first | assumption | omega))
        | (apply H.cond_yes; exact rfl; (first | assumption | omega))
        | (apply H.cond_no; exact rfl; (first | assumption | omega))
        | ((first | apply H.gtrue); (iterate 3 exact rfl); assumption)
        | (apply H.gfalse; (iterate 3 exact rfl); assumption)
        | (apply H.cond_t; exact rfl; assumption)
        | (apply H.cond_f; exact rfl; assumption))
      refine H.back (A := [_, _]) rfl ?_
      repeat (
        first
        | ((first | apply HQ.move | apply HQ.assign | apply HQ.nilCheck | apply HQ.len_slice); (iterate 3 exact rfl))
        | (apply HQ.fieldAddr; (iterate 3 exact rfl); exact inferInstance; exact rfl)
        | (apply HQ.load1; (iterate 3 exact rfl); apply Rd1.ofRow; (repeat (first | exact .here _ _ _ | apply At.there)); (iterate 2 exact rfl))
        | ((first | apply HQ.done0 | apply HQ.done); exact rfl)
        | ((first | apply HQ.cmp | apply HQ.build); (iterate 5 exact rfl))
        | ((first | (apply HQ.ar; (iterate 4 exact rfl)) | (apply HQ.conv_int; (iterate 2 exact rfl))); (first | (apply wr_i64_s1; omega) | (apply wr_i64_n1; omega) | (apply wr_i64_nn; omega) | (apply wr_i64; omega) | (apply wr_u64; omega) | (apply wr_u8; omega) | (apply wr_u16; omega) | rfl); exact rfl)
        | (apply HQ.pass; (iterate 2 exact rfl))
        | (apply HQ.pickT; (iterate 4 exact rfl))
        | ((first | apply HQ.pickF | apply HQ.extract | apply HQ.not); (iterate 4 exact rfl))
        | ((first | apply HQ.ptrNil | apply HQ.sliceNil); (iterate 5 exact rfl))
        | (apply HQ.gyes; (iterate 3 exact rfl); (first | assumption | omega))
        | (apply HQ.gno; (iterate 3 exact rfl); (first | assumption | omega))
        | (apply HQ.gtrue; (iterate 3 exact rfl); assumption)
        | (apply HQ.gfalse; (iterate 3 exact rfl); assumption))
      refine HQ.index0 rfl rfl rfl rfl (by omega) rfl ?_
      repeat (
        first
        | ((first | apply HQ.move | apply HQ.assign | apply HQ.nilCheck | apply HQ.len_slice); (iterate 3 exact rfl))
        | (apply HQ.fieldAddr; (iterate 3 exact rfl); exact inferInstance; exact rfl)
        | (apply HQ.load1; (iterate 3 exact rfl); apply Rd1.ofRow; (repeat (first | exact .here _ _ _ | apply At.there)); (iterate 2 exact rfl))
        | ((first | apply HQ.done0 | apply HQ.done); exact rfl)
        | ((first | apply HQ.cmp | apply HQ.build); (iterate 5 exact rfl))
        | ((first | (apply HQ.ar; (iterate 4 exact rfl)) | (apply HQ.conv_int; (iterate 2 exact rfl))); (first | (apply wr_i64_s1; omega) | (apply wr_i64_n1; omega) | (apply wr_i64_nn; omega) | (apply wr_i64; omega) | (apply wr_u64; omega) | (apply wr_u8; omega) | (apply wr_u16; omega) | rfl); exact rfl)
        | (apply HQ.pass; (iterate 2 exact rfl))
        | (apply HQ.pickT; (iterate 4 exact rfl))
        | ((first | apply HQ.pickF | apply HQ.extract | apply HQ.not); (iterate 4 exact rfl))
        | ((first | apply HQ.ptrNil | apply HQ.sliceNil); (iterate 5 exact rfl))
        | (apply HQ.gyes; (iterate 3 exact rfl); (first | assumption | omega))
        | (apply HQ.gno; (iterate 3 exact rfl); (first | assumption | omega))
        | (apply HQ.gtrue; (iterate 3 exact rfl); assumption)
        | (apply HQ.gfalse; (iterate 3 exact rfl); assumption))
      refine HQ.load1 rfl rfl rfl (.at0 (Rd.ofSlc (by repeat (first | exact .here _ _ _ | apply At.there)) (by omega)) (votes_ln s)) rfl ?_
      repeat (
        first
        | ((first | apply HQ.move | apply HQ.assign | apply HQ.nilCheck | apply HQ.len_slice); (iterate 3 exact rfl))
        | (apply HQ.fieldAddr; (iterate 3 exact rfl); exact inferInstance; exact rfl)
        | (apply HQ.load1; (iterate 3 exact rfl); apply Rd1.ofRow; (repeat (first | exact .here _ _ _ | apply At.there)); (iterate 2 exact rfl))
        | ((first | apply HQ.done0 | apply HQ.done); exact rfl)
        | ((first | apply HQ.cmp | apply HQ.build); (iterate 5 exact rfl))
        | ((first | (apply HQ.ar; (iterate 4 exact rfl)) | (apply HQ.conv_int; (iterate 2 exact rfl))); (first | (apply wr_i64_s1; omega) | (apply wr_i64_n1; omega) | (apply wr_i64_nn; omega) | (apply wr_i64; omega) | (apply wr_u64; omega) | (apply wr_u8; omega) | (apply wr_u16; omega) | rfl); exact rfl)
        | (apply HQ.pass; (iterate 2 exact rfl))
        | (apply HQ.pickT; (iterate 4 exact rfl))
        | ((first | apply HQ.pickF | apply HQ.extract | apply HQ.not); (iterate 4 exact rfl))
        | ((first | apply HQ.ptrNil | apply HQ.sliceNil); (iterate 5 exact rfl))
        | (apply HQ.gyes; (iterate 3 exact rfl); (first | assumption | omega))
        | (apply HQ.gno; (iterate 3 exact rfl); (first | assumption | omega))
        | (apply HQ.gtrue; (iterate 3 exact rfl); assumption)
        | (apply HQ.gfalse; (iterate 3 exact rfl); assumption))
      repeat (
        first
        | ((first | apply H.move | apply H.assign | apply H.nilCheck | apply H.len_slice); (iterate 3 exact rfl))
        | (apply H.fieldAddr; (iterate 3 exact rfl); exact inferInstance; exact rfl)
        | (apply H.load1; (iterate 3 exact rfl); apply Rd1.ofRow; (repeat (first | exact .here _ _ _ | apply At.there)); (iterate 2 exact rfl))
        | (first | apply H.seq | apply H.region | apply H.nil | apply H.then_normal)
        | ((first | apply H.cmp | apply H.build); (iterate 5 exact rfl))
        | ((first | (apply H.ar; (iterate 4 exact rfl)) | (apply H.conv_int; (iterate 2 exact rfl))); (first | (apply wr_i64_s1; omega) | (apply wr_i64_n1; omega) | (apply wr_i64_nn; omega) | (apply wr_i64; omega) | (apply wr_u64; omega) | (apply wr_u8; omega) | (apply wr_u16; omega) | rfl); exact rfl)
        | (apply H.pass; (iterate 2 exact rfl))
        | (apply H.pass0; exact rfl)
        | (apply H.pickT; (iterate 4 exact rfl))
        | ((first | apply H.pickF | apply H.extract | apply H.not); (iterate 4 exact rfl))
        | ((first | apply H.ptrNil | apply H.sliceNil); (iterate 5 exact rfl))
        | (apply H.store1; (iterate 4 exact rfl); (repeat (first | exact .here _ _ _ | apply At.there)); (repeat (first | exact .here _ _ _ | apply SetV.there)))
        | (apply H.cond_true; exact rfl)
        | (apply H.cond_false; exact rfl)
        | (first | apply H.skip | apply H.ret | apply H.then_ret | apply H.then_exit | apply H.exit | apply H.block | apply H.in_normal | apply H.in_ret | apply H.in_hit | apply H.loop_ret | apply H.loop_exit)
        | (apply H.in_miss; exact rfl)
        | (apply H.gyes; (iterate 3 exact rfl); (first | assumption | omega))
        | (apply H.gno; (iterate 3 exact rfl); (first | assumption | omega))
        | (apply H.cond_yes; exact rfl; (first | assumption | omega))
        | (apply H.cond_no; exact rfl; (first | assumption | omega))
        | ((first | apply H.gtrue); (iterate 3 exact rfl); assumption)
        | (apply H.gfalse; (iterate 3 exact rfl); assumption)
        | (apply H.cond_t; exact rfl; assumption)
        | (apply H.cond_f; exact rfl; assumption))
      exact H.ret1 rfl rfl refH_fold ⟨by rw [e], rfl, by simp [PM.commit, e]⟩

theorem renter_fn {B : Int} (hw : PM.WF s B) (hn : s.init.length ≤ 100000) (v k : Int) :
    Fn Try.prog 21 [.pointer (some ⟨b, 0, none⟩), .int .u64 v, .int .i64 k] f (refH b s :: F) (Ret (.bool (s.enterOk v k)) f (refH b (s.enter v k) :: F)) := by
  have hl := hw.last
  refine Fn.unfold (fun _ h => h) fun ⟨eb, ec⟩ => ?_
  show Fn _ _ _ f (row _ _ _ :: slc _ _ _ _ _ _ :: F) _
  cases ho : s.enterOk v k with
  | false =>
    have hno : v ≤ s.lv ∨ v < s.g ∨ 1073741824 ≤ v ∨ k < 0 := by simp [PM.enterOk] at ho; omega
    have e2 : s.enter v k = s := by simp [PM.enter, ho]
    rw [e2]
    by_cases h1 : v ≤ s.lv
    · clear hno
      refine Fn.enter Try.func21 rfl Try.ntmps21 rfl (L := [(0, _), (1, _), (2, _)]) ⟨rfl, rfl, rfl, trivial⟩ fun base => ?_
      repeat (
        first
        | ((first | apply H.move | apply H.assign | apply H.nilCheck | apply H.len_slice); (iterate 3 exact rfl))
        | (apply H.fieldAddr; (iterate 3 exact rfl); exact inferInstance; exact rfl)
        | (apply H.load1; (iterate 3 exact rfl); apply Rd1.ofRow; (repeat (first | exact .here _ _ _ | apply At.there)); (iterate 2 exact rfl))
        | (first | apply H.seq | apply H.region | apply H.nil | apply H.then_normal)
        | ((first | apply H.cmp | apply H.build); (iterate 5 exact rfl))
        | ((first | (apply H.ar; (iterate 4 exact rfl)) | (apply H.conv_int; (iterate 2 exact rfl))); (first | (apply wr_i64_s1; omega) | (apply wr_i64_n1; omega) | (apply wr_i64_nn; omega) | (apply wr_i64; omega) | (apply wr_u64; omega) | (apply wr_u8; omega) | (apply wr_u16; omega) | rfl); exact rfl)
        | (apply H.pass; (iterate 2 exact rfl))
        | (apply H.pass0; exact rfl)
        | (apply H.pickT; (iterate 4 exact rfl))
        | ((first | apply H.pickF | apply H.extract | apply H.not); (iterate 4 exact rfl))
        | ((first | apply H.ptrNil | apply H.sliceNil); (iterate 5 exact rfl))
        | (apply H.store1; (iterate 4 exact rfl); (repeat (first | exact .here _ _ _ | apply At.there)); (repeat (first | exact .here _ _ _ | apply SetV.there)))
        | (apply H.cond_true; exact rfl)
        | (apply H.cond_false; exact rfl)
        | (first | apply H.skip | apply H.ret | apply H.then_ret | apply H.then_exit | apply H.exit | apply H.block | apply H.in_normal | apply H.in_ret | apply H.in_hit | apply H.loop_ret | apply H.loop_exit)
        | (apply H.in_miss; exact rfl)
        | (apply H.gyes; (iterate 3 exact rfl); (first | assumption | omega))
        | (apply H.gno; (iterate 3 exact rfl); (first | assumption | omega))
        | (apply H.cond_yes; exact rfl; (first | assumption | omega))
        | (apply H.cond_no; exact rfl; (first | assumption | omega))
        | ((first | apply H.gtrue); (iterate 3 exact rfl); assumption)
        | (apply H.gfalse; (iterate 3 exact rfl); assumption)
        | (apply H.cond_t; exact rfl; assumption)
        | (apply H.cond_f; exact rfl; assumption))
      refine H.call rfl rfl rfl (rlast_o f F b s eb ec (by omega)) fun _ _ _ hR => ?_
      obtain ⟨rfl, rfl, rfl⟩ := hR
      repeat (
        first
        | ((first | apply H.move | apply H.assign | apply H.nilCheck | apply H.len_slice); (iterate 3 exact rfl))
        | (apply H.fieldAddr; (iterate 3 exact rfl); exact inferInstance; exact rfl)
        | (apply H.load1; (iterate 3 exact rfl); apply Rd1.ofRow; (repeat (first | exact .here _ _ _ | apply At.there)); (iterate 2 exact rfl))
        | (first | apply H.seq | apply H.region | apply H.nil | apply H.then_normal)
        | ((first | apply H.cmp | apply H.build); (iterate 5 exact rfl))
        | ((first | (apply H.ar; (iterate 4 exact rfl)) | (apply H.conv_int; (iterate 2 exact rfl))); (first | (apply wr_i64_s1; omega) | (apply wr_i64_n1; omega) | (apply wr_i64_nn; omega) | (apply wr_i64; omega) | (apply wr_u64; omega) | (apply wr_u8; omega) | (apply wr_u16; omega) | rfl); exact rfl)
        | (apply H.pass; (iterate 2 exact rfl))
        | (apply H.pass0; exact rfl)
        | (apply H.pickT; (iterate 4 exact rfl))
        | ((first | apply H.pickF | apply H.extract | apply H.not); (iterate 4 exact rfl))
        | ((first | apply H.ptrNil | apply H.sliceNil); (iterate 5 exact rfl))
        | (apply H.store1; (iterate 4 exact rfl); (repeat (first | exact .here _ _ _ | apply At.there)); (repeat (first | exact .here _ _ _ | apply SetV.there)))
        | (apply H.cond_true; exact rfl)
        | (apply H.cond_false; exact rfl)
        | (first | apply H.skip | apply H.ret | apply H.then_ret | apply H.then_exit | apply H.exit | apply H.block | apply H.in_normal | apply H.in_ret | apply H.in_hit | apply H.loop_ret | apply H.loop_exit)
        | (apply H.in_miss; exact rfl)
        | (apply H.gyes; (iterate 3 exact rfl); (first | assumption | omega))
        | (apply H.gno; (iterate 3 exact rfl); (first | assumption | omega))
        | (apply H.cond_yes; exact rfl; (first | assumption | omega))
        | (apply H.cond_no; exact rfl; (first | assumption | omega))
        | ((first | apply H.gtrue); (iterate 3 exact rfl); assumption)
        | (apply H.gfalse; (iterate 3 exact rfl); assumption)
        | (apply H.cond_t; exact rfl; assumption)
        | (apply H.cond_f; exact rfl; assumption))
      exact H.ret1 rfl rfl refH_fold ⟨rfl, rfl, rfl⟩
    · by_cases h2 : v < s.g
      · clear hno
        refine Fn.enter Try.func21 rfl Try.ntmps21 rfl (L := [(0, _), (1, _), (2, _)]) ⟨rfl, rfl, rfl, trivial⟩ fun base => ?_
        repeat (
          first
          | ((first | apply H.move | apply H.assign | apply H.nilCheck | apply H.len_slice); (iterate 3 exact rfl))
          | (apply H.fieldAddr; (iterate 3 exact rfl); exact inferInstance; exact rfl)
          | (apply H.load1; (iterate 3 exact rfl); apply Rd1.ofRow; (repeat (first | exact .here _ _ _ | apply At.there)); (iterate 2 exact rfl))
          | (first | apply H.seq | apply H.region | apply H.nil | apply H.then_normal)
          | ((first | apply H.cmp | apply H.build); (iterate 5 exact rfl))
          | ((first | (apply H.ar; (iterate 4 exact rfl)) | (apply H.conv_int; (iterate 2 exact rfl))); (first | (apply wr_i64_s1; omega) | (apply wr_i64_n1; omega) | (apply wr_i64_nn; omega) | (apply wr_i64; omega) | (apply wr_u64; omega) | (apply wr_u8; omega) | (apply wr_u16; omega) | rfl); exact rfl)
          | (apply H.pass; (iterate 2 exact rfl))
          | (apply H.pass0; exact rfl)
          | (apply H.pickT; (iterate 4 exact rfl))
          | ((first | apply H.pickF | apply H.extract | apply H.not); (iterate 4 exact rfl))
          | ((first | apply H.ptrNil | apply H.sliceNil); (iterate 5 exact rfl))
          | (apply H.store1; (iterate 4 exact rfl); (repeat (first | exact .here _ _ _ | apply At.there)); (repeat (first | exact .here _ _ _ | apply SetV.there)))
          | (apply H.cond_true; exact rfl)
          | (apply H.cond_false; exact rfl)
          | (first | apply H.skip | apply H.ret | apply H.then_ret | apply H.then_exit | apply H.exit | apply H.block | apply H.in_normal | apply H.in_ret | apply H.in_hit | apply H.loop_ret | apply H.loop_exit)
          | (apply H.in_miss; exact rfl)
          | (apply H.gyes; (iterate 3 exact rfl); (first | assumption | omega))
          | (apply H.gno; (iterate 3 exact rfl); (first | assumption | omega))
          | (apply H.cond_yes; exact rfl; (first | assumption | omega))
          | (apply H.cond_no; exact rfl; (first | assumption | omega))
          | ((first | apply H.gtrue); (iterate 3 exact rfl); assumption)
          | (apply H.gfalse; (iterate 3 exact rfl); assumption)
          | (apply H.cond_t; exact rfl; assumption)
          | (apply H.cond_f; exact rfl; assumption))
        refine H.call rfl rfl rfl (rlast_o f F b s eb ec (by omega)) fun _ _ _ hR => ?_
        obtain ⟨rfl, rfl, rfl⟩ := hR
        repeat (
          first
          | ((first | apply H.move | apply H.assign | apply H.nilCheck | apply H.len_slice); (iterate 3 exact rfl))
          | (apply H.fieldAddr; (iterate 3 exact rfl); exact inferInstance; exact rfl)
          | (apply H.load1; (iterate 3 exact rfl); apply Rd1.ofRow; (repeat (first | exact .here _ _ _ | apply At.there)); (iterate 2 exact rfl))
          | (first | apply H.seq | apply H.region | apply H.nil | apply H.then_normal)
          | ((first | apply H.cmp | apply H.build); (iterate 5 exact rfl))
          | ((first | (apply H.ar; (iterate 4 exact rfl)) | (apply H.conv_int; (iterate 2 exact rfl))); (first | (apply wr_i64_s1; omega) | (apply wr_i64_n1; omega) | (apply wr_i64_nn; omega) | (apply wr_i64; omega) | (apply wr_u64; omega) | (apply wr_u8; omega) | (apply wr_u16; omega) | rfl); exact rfl)
          | (apply H.pass; (iterate 2 exact rfl))
          | (apply H.pass0; exact rfl)
          | (apply H.pickT; (iterate 4 exact rfl))
          | ((first | apply H.pickF | apply H.extract | apply H.not); (iterate 4 exact rfl))
          | ((first | apply H.ptrNil | apply H.sliceNil); (iterate 5 exact rfl))
          | (apply H.store1; (iterate 4 exact rfl); (repeat (first | exact .here _ _ _ | apply At.there)); (repeat (first | exact .here _ _ _ | apply SetV.there)))
          | (apply H.cond_true; exact rfl)
          | (apply H.cond_false; exact rfl)
          | (first | apply H.skip | apply H.ret | apply H.then_ret | apply H.then_exit | apply H.exit | apply H.block | apply H.in_normal | apply H.in_ret | apply H.in_hit | apply H.loop_ret | apply H.loop_exit)
          | (apply H.in_miss; exact rfl)
          | (apply H.gyes; (iterate 3 exact rfl); (first | assumption | omega))
          | (apply H.gno; (iterate 3 exact rfl); (first | assumption | omega))
          | (apply H.cond_yes; exact rfl; (first | assumption | omega))
          | (apply H.cond_no; exact rfl; (first | assumption | omega))
          | ((first | apply H.gtrue); (iterate 3 exact rfl); assumption)
          | (apply H.gfalse; (iterate 3 exact rfl); assumption)
          | (apply H.cond_t; exact rfl; assumption)
          | (apply H.cond_f; exact rfl; assumption))
        exact H.ret1 rfl rfl refH_fold ⟨rfl, rfl, rfl⟩
      · by_cases h3 : 1073741824 ≤ v
        · clear hno
          refine Fn.enter Try.func21 rfl Try.ntmps21 rfl (L := [(0, _), (1, _), (2, _)]) ⟨rfl, rfl, rfl, trivial⟩ fun base => ?_
          repeat (
            first
            | ((first | apply H.move | apply H.assign | apply H.nilCheck | apply H.len_slice); (iterate 3 exact rfl))
            | (apply H.fieldAddr; (iterate 3 exact rfl); exact inferInstance; exact rfl)
            | (apply H.load1; (iterate 3 exact rfl); apply Rd1.ofRow; (repeat (first | exact .here _ _ _ | apply At.there)); (iterate 2 exact rfl))
            | (first | apply H.seq | apply H.region | apply H.nil | apply H.then_normal)
            | ((first | apply H.cmp | apply H.build); (iterate 5 exact rfl))
            | ((first | (apply H.ar; (iterate 4 exact rfl)) | (apply H.conv_int; (iterate 2 exact rfl))); (first | (apply wr_i64_s1; omega) | (apply wr_i64_n1; omega) | (apply wr_i64_nn; omega) | (apply wr_i64; omega) | (apply wr_u64; omega) | (apply wr_u8; omega) | (apply wr_u16; omega) | rfl); exact rfl)
            | (apply H.pass; (iterate 2 exact rfl))
            | (apply H.pass0; exact rfl)
            | (apply H.pickT; (iterate 4 exact rfl))
            | ((first | apply H.pickF | apply H.extract | apply H.not); (iterate 4 exact rfl))
            | ((first | apply H.ptrNil | apply H.sliceNil); (iterate 5 exact rfl))
            | (apply H.store1; (iterate 4 exact rfl); (repeat (first | exact .here _ _ _ | apply At.there)); (repeat (first | exact .here _ _ _ | apply SetV.there)))
            | (apply H.cond_true; exact rfl)
            | (apply H.cond_false; exact rfl)
            | (first | apply H.skip | apply H.ret | apply H.then_ret | apply H.then_exit | apply H.exit | apply H.block | apply H.in_normal | apply H.in_ret | apply H.in_hit | apply H.loop_ret | apply H.loop_exit)
            | (apply H.in_miss; exact rfl)
            | (apply H.gyes; (iterate 3 exact rfl); (first | assumption | omega))
            | (apply H.gno; (iterate 3 exact rfl); (first | assumption | omega))
            | (apply H.cond_yes; exact rfl; (first | assumption | omega))
            | (apply H.cond_no; exact rfl; (first | assumption | omega))
            | ((first | apply H.gtrue); (iterate 3 exact rfl); assumption)
            | (apply H.gfalse; (iterate 3 exact rfl); assumption)
            | (apply H.cond_t; exact rfl; assumption)
            | (apply H.cond_f; exact rfl; assumption))
          refine H.call rfl rfl rfl (rlast_o f F b s eb ec (by omega)) fun _ _ _ hR => ?_
          obtain ⟨rfl, rfl, rfl⟩ := hR
          repeat (
            first
            | ((first | apply H.move | apply H.assign | apply H.nilCheck | apply H.len_slice); (iterate 3 exact rfl))
            | (apply H.fieldAddr; (iterate 3 exact rfl); exact inferInstance; exact rfl)
            | (apply H.load1; (iterate 3 exact rfl); apply Rd1.ofRow; (repeat (first | exact .here _ _ _ | apply At.there)); (iterate 2 exact rfl))
            | (first | apply H.seq | apply H.region | apply H.nil | apply H.then_normal)
            | ((first | apply H.cmp | apply H.build); (iterate 5 exact rfl))
            | ((first | (apply H.ar; (iterate 4 exact rfl)) | (apply H.conv_int; (iterate 2 exact rfl))); (first | (apply wr_i64_s1; omega) | (apply wr_i64_n1; omega) | (apply wr_i64_nn; omega) | (apply wr_i64; omega) | (apply wr_u64; omega) | (apply wr_u8; omega) | (apply wr_u16; omega) | rfl); exact rfl)
            | (apply H.pass; (iterate 2 exact rfl))
            | (apply H.pass0; exact rfl)
            | (apply H.pickT; (iterate 4 exact rfl))
            | ((first | apply H.pickF | apply H.extract | apply H.not); (iterate 4 exact rfl))
            | ((first | apply H.ptrNil | apply H.sliceNil); (iterate 5 exact rfl))
            | (apply H.store1; (iterate 4 exact rfl); (repeat (first | exact .here _ _ _ | apply At.there)); (repeat (first | exact .here _ _ _ | apply SetV.there)))
            | (apply H.cond_true; exact rfl)
            | (apply H.cond_false; exact rfl)
            | (first | apply H.skip | apply H.ret | apply H.then_ret | apply H.then_exit | apply H.exit | apply H.block | apply H.in_normal | apply H.in_ret | apply H.in_hit | apply H.loop_ret | apply H.loop_exit)
            | (apply H.in_miss; exact rfl)
            | (apply H.gyes; (iterate 3 exact rfl); (first | assumption | omega))
            | (apply H.gno; (iterate 3 exact rfl); (first | assumption | omega))
            | (apply H.cond_yes; exact rfl; (first | assumption | omega))
            | (apply H.cond_no; exact rfl; (first | assumption | omega))
            | ((first | apply H.gtrue); (iterate 3 exact rfl); assumption)
            | (apply H.gfalse; (iterate 3 exact rfl); assumption)
            | (apply H.cond_t; exact rfl; assumption)
            | (apply H.cond_f; exact rfl; assumption))
          exact H.ret1 rfl rfl refH_fold ⟨rfl, rfl, rfl⟩
        · have h4 : k < 0 := by omega
          clear hno
          refine Fn.enter Try.func21 rfl Try.ntmps21 rfl (L := [(0, _), (1, _), (2, _)]) ⟨rfl, rfl, rfl, trivial⟩ fun base => ?_
          repeat (
            first
            | ((first | apply H.move | apply H.assign | apply H.nilCheck | apply H.len_slice); (iterate 3 exact rfl))
            | (apply H.fieldAddr; (iterate 3 exact rfl); exact inferInstance; exact rfl)
            | (apply H.load1; (iterate 3 exact rfl); apply Rd1.ofRow; (repeat (first | exact .here _ _ _ | apply At.there)); (iterate 2 exact rfl))
            | (first | apply H.seq | apply H.region | apply H.nil | apply H.then_normal)
            | ((first | apply H.cmp | apply H.build); (iterate 5 exact rfl))
            | ((first | (apply H.ar; (iterate 4 exact rfl)) | (apply H.conv_int; (iterate 2 exact rfl))); (first | (apply wr_i64_s1; omega) | (apply wr_i64_n1; omega) | (apply wr_i64_nn; omega) | (apply wr_i64; omega) | (apply wr_u64; omega) | (apply wr_u8; omega) | (apply wr_u16; omega) | rfl); exact rfl)
            | (apply H.pass; (iterate 2 exact rfl))
            | (apply H.pass0; exact rfl)
            | (apply H.pickT; (iterate 4 exact rfl))
            | ((first | apply H.pickF | apply H.extract | apply H.not); (iterate 4 exact rfl))
            | ((first | apply H.ptrNil | apply H.sliceNil); (iterate 5 exact rfl))
            | (apply H.store1; (iterate 4 exact rfl); (repeat (first | exact .here _ _ _ | apply At.there)); (repeat (first | exact .here _ _ _ | apply SetV.there)))
            | (apply H.cond_true; exact rfl)
            | (apply H.cond_false; exact rfl)
            | (first | apply H.skip | apply H.ret | apply H.then_ret | apply H.then_exit | apply H.exit | apply H.block | apply H.in_normal | apply H.in_ret | apply H.in_hit | apply H.loop_ret | apply H.loop_exit)
            | (apply H.in_miss; exact rfl)
            | (apply H.gyes; (iterate 3 exact rfl); (first | assumption | omega))
            | (apply H.gno; (iterate 3 exact rfl); (first | assumption | omega))
            | (apply H.cond_yes; exact rfl; (first | assumption | omega))
            | (apply H.cond_no; exact rfl; (first | assumption | omega))
            | ((first | apply H.gtrue); (iterate 3 exact rfl); assumption)
            | (apply H.gfalse; (iterate 3 exact rfl); assumption)
            | (apply H.cond_t; exact rfl; assumption)
            | (apply H.cond_f; exact rfl; assumption))
          refine H.call rfl rfl rfl (rlast_o f F b s eb ec (by omega)) fun _ _ _ hR => ?_
          obtain ⟨rfl, rfl, rfl⟩ := hR
          repeat (
            first
            | ((first | apply H.move | apply H.assign | apply H.nilCheck | apply H.len_slice); (iterate 3 exact rfl))
            | (apply H.fieldAddr; (iterate 3 exact rfl); exact inferInstance; exact rfl)
            | (apply H.load1; (iterate 3 exact rfl); apply Rd1.ofRow; (repeat (first | exact .here _ _ _ | apply At.there)); (iterate 2 exact rfl))
            | (first | apply H.seq | apply H.region | apply H.nil | apply H.then_normal)
            | ((first | apply H.cmp | apply H.build); (iterate 5 exact rfl))
            | ((first | (apply H.ar; (iterate 4 exact rfl)) | (apply H.conv_int; (iterate 2 exact rfl))); (first | (apply wr_i64_s1; omega) | (apply wr_i64_n1; omega) | (apply wr_i64_nn; omega) | (apply wr_i64; omega) | (apply wr_u64; omega) | (apply wr_u8; omega) | (apply wr_u16; omega) | rfl); exact rfl)
            | (apply H.pass; (iterate 2 exact rfl))
            | (apply H.pass0; exact rfl)
            | (apply H.pickT; (iterate 4 exact rfl))
            | ((first | apply H.pickF | apply H.extract | apply H.not); (iterate 4 exact rfl))
            | ((first | apply H.ptrNil | apply H.sliceNil); (iterate 5 exact rfl))
            | (apply H.store1; (iterate 4 exact rfl); (repeat (first | exact .here _ _ _ | apply At.there)); (repeat (first | exact .here _ _ _ | apply SetV.there)))
            | (apply H.cond_true; exact rfl)
            | (apply H.cond_false; exact rfl)
            | (first | apply H.skip | apply H.ret | apply H.then_ret | apply H.then_exit | apply H.exit | apply H.block | apply H.in_normal | apply H.in_ret | apply H.in_hit | apply H.loop_ret | apply H.loop_exit)
            | (apply H.in_miss; exact rfl)
            | (apply H.gyes; (iterate 3 exact rfl); (first | assumption | omega))
            | (apply H.gno; (iterate 3 exact rfl); (first | assumption | omega))
            | (apply H.cond_yes; exact rfl; (first | assumption | omega))
            | (apply H.cond_no; exact rfl; (first | assumption | omega))
            | ((first | apply H.gtrue); (iterate 3 exact rfl); assumption)
            | (apply H.gfalse; (iterate 3 exact rfl); assumption)
            | (apply H.cond_t; exact rfl; assumption)
            | (apply H.cond_f; exact rfl; assumption))
          exact H.ret1 rfl rfl refH_fold ⟨rfl, rfl, rfl⟩
  | true =>
    obtain ⟨h1, h2, h3, h4⟩ : s.lv < v ∧ s.g ≤ v ∧ v < 1073741824 ∧ 0 ≤ k := by simpa [PM.enterOk] using ho
    have e2 : s.enter v k = ⟨v, s.all, v, k⟩ := by simp [PM.enter, ho]
    rw [e2]
    refine Fn.enter Try.func21 rfl Try.ntmps21 rfl (L := [(0, _), (1, _), (2, _)]) ⟨rfl, rfl, rfl, trivial⟩ fun base => ?_
    repeat (
      first
      | ((first | apply H.move | apply H.assign | apply H.nilCheck | apply H.len_slice); (iterate 3 exact rfl))
      | (apply H.fieldAddr; (iterate 3 exact rfl); exact inferInstance; exact rfl)
      | (apply H.load1; (iterate 3 exact rfl); apply Rd1.ofRow; (repeat (first | exact .here _ _ _ | apply At.there)); (iterate 2 exact rfl))
      | (first | apply H.seq | apply H.region | apply H.nil | apply H.then_normal)
      | ((first | apply H.cmp | apply H.build); (iterate 5 exact rfl))
      | ((first | (apply H.ar; (iterate 4 exact rfl)) | (apply H.conv_int; (iterate 2 exact rfl))); (first | (apply wr_i64_s1; omega) | (apply wr_i64_n1; omega) | (apply wr_i64_nn; omega) | (apply wr_i64; omega) | (apply wr_u64; omega) | (apply wr_u8; omega) | (apply wr_u16; omega) | rfl); exact rfl)
      | (apply H.pass; (iterate 2 exact rfl))
      | (apply H.pass0; exact rfl)
      | (apply H.pickT; (iterate 4 exact rfl))
      | ((first | apply H.pickF | apply H.extract | apply H.not); (iterate 4 exact rfl))
      | ((first | apply H.ptrNil | apply H.sliceNil); (iterate 5 exact rfl))
      | (apply H.store1; (iterate 4 exact rfl); (repeat (first | exact .here _ _ _ | apply At.there)); (repeat (first | exact .here _ _ _ | apply SetV.there)))
      | (apply H.cond_true; exact rfl)
      | (apply H.cond_false; exact rfl)
      | (first | apply H.skip | apply H.ret | apply H.then_ret | apply H.then_exit | apply H.exit | apply H.block | apply H.in_normal | apply H.in_ret | apply H.in_hit | apply H.loop_ret | apply H.loop_exit)
      | (apply H.in_miss; exact rfl)
      | (apply H.gyes; (iterate 3 exact rfl); (first | assumption | omega))
      | (apply H.gno; (iterate 3 exact rfl); (first | assumption | omega))
      | (apply H.cond_yes; exact rfl; (first | assumption | omega))
      | (apply H.cond_no; exact rfl; (first | assumption | omega))
      | ((first | apply H.gtrue); (iterate 3 exact rfl); assumption)
      | (apply H.gfalse; (iterate 3 exact rfl); assumption)
      | (apply H.cond_t; exact rfl; assumption)
      | (apply H.cond_f; exact rfl; assumption))
    refine H.call rfl rfl rfl (rlast_o f F b s eb ec (by omega)) fun _ _ _ hR => ?_
    obtain ⟨rfl, rfl, rfl⟩ := hR
    repeat (
      first
      | ((first | apply H.move | apply H.assign | apply H.nilCheck | apply H.len_slice); (iterate 3 exact rfl))
      | (apply H.fieldAddr; (iterate 3 exact rfl); exact inferInstance; exact rfl)
      | (apply H.load1; (iterate 3 exact rfl); apply Rd1.ofRow; (repeat (first | exact .here _ _ _ | apply At.there)); (iterate 2 exact rfl))
      | (first | apply H.seq | apply H.region | apply H.nil | apply H.then_normal)
      | ((first | apply H.cmp | apply H.build); (iterate 5 exact rfl))
      | ((first | (apply H.ar; (iterate 4 exact rfl)) | (apply H.conv_int; (iterate 2 exact rfl))); (first | (apply wr_i64_s1; omega) | (apply wr_i64_n1; omega) | (apply wr_i64_nn; omega) | (apply wr_i64; omega) | (apply wr_u64; omega) | (apply wr_u8; omega) | (apply wr_u16; omega) | rfl); exact rfl)
      | (apply H.pass; (iterate 2 exact rfl))
      | (apply H.pass0; exact rfl)
      | (apply H.pickT; (iterate 4 exact rfl))
      | ((first | apply H.pickF | apply H.extract | apply H.not); (iterate 4 exact rfl))
      | ((first | apply H.ptrNil | apply H.sliceNil); (iterate 5 exact rfl))
      | (apply H.store1; (iterate 4 exact rfl); (repeat (first | exact .here _ _ _ | apply At.there)); (repeat (first | exact .here _ _ _ | apply SetV.there)))
      | (apply H.cond_true; exact rfl)
      | (apply H.cond_false; exact rfl)
      | (first | apply H.skip | apply H.ret | apply H.then_ret | apply H.then_exit | apply H.exit | apply H.block | apply H.in_normal | apply H.in_ret | apply H.in_hit | apply H.loop_ret | apply H.loop_exit)
      | (apply H.in_miss; exact rfl)
      | (apply H.gyes; (iterate 3 exact rfl); (first | assumption | omega))
      | (apply H.gno; (iterate 3 exact rfl); (first | assumption | omega))
      | (apply H.cond_yes; exact rfl; (first | assumption | omega))
      | (apply H.cond_no; exact rfl; (first | assumption | omega))
      | ((first | apply H.gtrue); (iterate 3 exact rfl); assumption)
      | (apply H.gfalse; (iterate 3 exact rfl); assumption)
      | (apply H.cond_t; exact rfl; assumption)
      | (apply H.cond_f; exact rfl; assumption))
    refine H.buildSlice rfl rfl rfl rfl (by decide) (by decide) rfl rfl fun tb => ?_
    refine H.append (m := 1) rfl rfl rfl rfl rfl (fun p' c' => (by repeat (first | exact .here _ _ _ | apply At.there))) (Src.slice (Rd.ofRow (by repeat (first | exact .here _ _ _ | apply At.there))) rfl) (allOne_mem rfl) rfl (by omega) (by omega) fun p' c' => ?_
    refine H.slc_some (by repeat (first | exact .here _ _ _ | apply At.there)) (by omega) fun eb' hp => ?_
    subst hp
    repeat (
      first
      | ((first | apply H.move | apply H.assign | apply H.nilCheck | apply H.len_slice); (iterate 3 exact rfl))
      | (apply H.fieldAddr; (iterate 3 exact rfl); exact inferInstance; exact rfl)
      | (apply H.load1; (iterate 3 exact rfl); apply Rd1.ofRow; (repeat (first | exact .here _ _ _ | apply At.there)); (iterate 2 exact rfl))
      | (first | apply H.seq | apply H.region | apply H.nil | apply H.then_normal)
      | ((first | apply H.cmp | apply H.build); (iterate 5 exact rfl))
      | ((first | (apply H.ar; (iterate 4 exact rfl)) | (apply H.conv_int; (iterate 2 exact rfl))); (first | (apply wr_i64_s1; omega) | (apply wr_i64_n1; omega) | (apply wr_i64_nn; omega) | (apply wr_i64; omega) | (apply wr_u64; omega) | (apply wr_u8; omega) | (apply wr_u16; omega) | rfl); exact rfl)
      | (apply H.pass; (iterate 2 exact rfl))
      | (apply H.pass0; exact rfl)
      | (apply H.pickT; (iterate 4 exact rfl))
      | ((first | apply H.pickF | apply H.extract | apply H.not); (iterate 4 exact rfl))
      | ((first | apply H.ptrNil | apply H.sliceNil); (iterate 5 exact rfl))
      | (apply H.store1; (iterate 4 exact rfl); (repeat (first | exact .here _ _ _ | apply At.there)); (repeat (first | exact .here _ _ _ | apply SetV.there)))
      | (apply H.cond_true; exact rfl)
      | (apply H.cond_false; exact rfl)
      | (first | apply H.skip | apply H.ret | apply H.then_ret | apply H.then_exit | apply H.exit | apply H.block | apply H.in_normal | apply H.in_ret | apply H.in_hit | apply H.loop_ret | apply H.loop_exit)
      | (apply H.in_miss; exact rfl)
      | (apply H.gyes; (iterate 3 exact rfl); (first | assumption | omega))
      | (apply H.gno; (iterate 3 exact rfl); (first | assumption | omega))
      | (apply H.cond_yes; exact rfl; (first | assumption | omega))
      | (apply H.cond_no; exact rfl; (first | assumption | omega))
      | ((first | apply H.gtrue); (iterate 3 exact rfl); assumption)
      | (apply H.gfalse; (iterate 3 exact rfl); assumption)
      | (apply H.cond_t; exact rfl; assumption)
      | (apply H.cond_f; exact rfl; assumption))
    refine H.drop (.here _ _) ?_
    have hf := refH_fold (b := b) (eb := eb') (ec := c') (s := ⟨v, s.all, v, k⟩) (F := F)
    have hvw : flatV voteV (⟨v, s.all, v, k⟩ : PM).all = flatV voteV s.all ++ [.int .u64 v, .int .i64 k] := by
      simp only [PM.all]
      rw [flatV_append]
      rfl
    have hlen : (⟨v, s.all, v, k⟩ : PM).init.length = s.init.length + 1 := by simp [PM.all]
    rw [hvw, hlen] at hf
    exact H.ret1 rfl rfl hf ⟨rfl, rfl, rfl⟩

theorem voted_drop : ∀ (l : List (Int × Int)) (k : Nat) (v : Int), (∀ i p, i < k → l[i]? = some p → v ≠ p.1) → PM.voted l v = PM.voted (l.drop k) v
  | l, 0, v, _ => by simp
  | [], k + 1, v, _ => by simp
  | (w, n) :: r, k + 1, v, h => by
    have h0 : v ≠ w := h 0 (w, n) (by omega) (by simp)
    simp only [PM.voted, h0, if_false, List.drop_succ_cons]
    exact voted_drop r k v fun i p hi hp => h (i + 1) p (by omega) (by simpa using hp)

theorem rvoted_fn (hn : s.init.length ≤ 1000000) (v : Int) :
    Fn Try.prog 14 [.pointer (some ⟨b, 0, none⟩), .int .u64 v] f (refH b s :: F) (Ret (.tuple #[.int .i64 ((PM.voted s.all v).getD 0), .bool (PM.voted s.all v).isSome]) f (refH b s :: F)) := by
  refine Fn.unfold (fun _ h => h) fun ⟨eb, ec⟩ => ?_
  show Fn _ _ _ f (row _ _ _ :: slc _ _ _ _ _ _ :: F) _
  refine Fn.enter Try.func14 rfl Try.ntmps14 rfl (L := [(0, _), (1, _)]) ⟨rfl, rfl, trivial⟩ fun base => ?_
  repeat (
    first
    | ((first | apply H.move | apply H.assign | apply H.nilCheck | apply H.len_slice); (iterate 3 exact rfl))
    | (apply H.fieldAddr; (iterate 3 exact rfl); exact inferInstance; exact rfl)
    | (apply H.load1; (iterate 3 exact rfl); apply Rd1.ofRow; (repeat (first | exact .here _ _ _ | apply At.there)); (iterate 2 exact rfl))
    | (first | apply H.seq | apply H.region | apply H.nil | apply H.then_normal)
    | ((first | apply H.cmp | apply H.build); (iterate 5 exact rfl))
    | ((first | (apply H.ar; (iterate 4 exact rfl)) | (apply H.conv_int; (iterate 2 exact rfl))); (first | (apply wr_i64_s1; omega) | (apply wr_i64_n1; omega) | (apply wr_i64_nn; omega) | (apply wr_i64; omega) | (apply wr_u64; omega) | (apply wr_u8; omega) | (apply wr_u16; omega) | rfl); exact rfl)
    | (apply H.pass; (iterate 2 exact rfl))
    | (apply H.pass0; exact rfl)
    | (apply H.pickT; (iterate 4 exact rfl))
    | ((first | apply H.pickF | apply H.extract | apply H.not); (iterate 4 exact rfl))
    | ((first | apply H.ptrNil | apply H.sliceNil); (iterate 5 exact rfl))
    | (apply H.store1; (iterate 4 exact rfl); (repeat (first | exact .here _ _ _ | apply At.there)); (repeat (first | exact .here _ _ _ | apply SetV.there)))
    | (apply H.cond_true; exact rfl)
    | (apply H.cond_false; exact rfl)
    | (first | apply H.skip | apply H.ret | apply H.then_ret | apply H.then_exit | apply H.exit | apply H.block | apply H.in_normal | apply H.in_ret | apply H.in_hit | apply H.loop_ret | apply H.loop_exit)
    | (apply H.in_miss; exact rfl)
    | (apply H.gyes; (iterate 3 exact rfl); (first | assumption | omega))
    | (apply H.gno; (iterate 3 exact rfl); (first | assumption | omega))
    | (apply H.cond_yes; exact rfl; (first | assumption | omega))
    | (apply H.cond_no; exact rfl; (first | assumption | omega))
    | ((first | apply H.gtrue); (iterate 3 exact rfl); assumption)
    | (apply H.gfalse; (iterate 3 exact rfl); assumption)
    | (apply H.cond_t; exact rfl; assumption)
    | (apply H.cond_f; exact rfl; assumption))
  refine H.loop (fun k : Nat => [(6, .int .i64 (k : Int)), (0, .pointer (some ⟨b, 0, none⟩)), (1, .int .u64 v)]) (fun _ => f) (fun _ => row _ _ _ :: slc _ _ _ _ _ _ :: F) (fun k => k ≤ s.init.length + 1 ∧ ∀ i p, i < k → s.all[i]? = some p → v ≠ p.1) (fun k => s.init.length + 1 - k) 0 ⟨by omega, by intro i p hi; omega⟩ ⟨rfl, rfl, rfl, trivial⟩ rfl rfl fun k hk => ?_
  obtain ⟨hk, hall⟩ := hk
  repeat (
    first
    | ((first | apply H.move | apply H.assign | apply H.nilCheck | apply H.len_slice); (iterate 3 exact rfl))
    | (apply H.fieldAddr; (iterate 3 exact rfl); exact inferInstance; exact rfl)
    | (apply H.load1; (iterate 3 exact rfl); apply Rd1.ofRow; (repeat (first | exact .here _ _ _ | apply At.there)); (iterate 2 exact rfl))
    | (first | apply H.seq | apply H.region | apply H.nil | apply H.then_normal)
    | ((first | apply H.cmp | apply H.build); (iterate 5 exact rfl))
    | ((first | (apply H.ar; (iterate 4 exact rfl)) | (apply H.conv_int; (iterate 2 exact rfl))); (first | (apply wr_i64_s1; omega) | (apply wr_i64_n1; omega) | (apply wr_i64_nn; omega) | (apply wr_i64; omega) | (apply wr_u64; omega) | (apply wr_u8; omega) | (apply wr_u16; omega) | rfl); exact rfl)
    | (apply H.pass; (iterate 2 exact rfl))
    | (apply H.pass0; exact rfl)
    | (apply H.pickT; (iterate 4 exact rfl))
    | ((first | apply H.pickF | apply H.extract | apply H.not); (iterate 4 exact rfl))
    | ((first | apply H.ptrNil | apply H.sliceNil); (iterate 5 exact rfl))
    | (apply H.store1; (iterate 4 exact rfl); (repeat (first | exact .here _ _ _ | apply At.there)); (repeat (first | exact .here _ _ _ | apply SetV.there)))
    | (apply H.cond_true; exact rfl)
    | (apply H.cond_false; exact rfl)
    | (first | apply H.skip | apply H.ret | apply H.then_ret | apply H.then_exit | apply H.exit | apply H.block | apply H.in_normal | apply H.in_ret | apply H.in_hit | apply H.loop_ret | apply H.loop_exit)
    | (apply H.in_miss; exact rfl)
    | (apply H.gyes; (iterate 3 exact rfl); (first | assumption | omega))
    | (apply H.gno; (iterate 3 exact rfl); (first | assumption | omega))
    | (apply H.cond_yes; exact rfl; (first | assumption | omega))
    | (apply H.cond_no; exact rfl; (first | assumption | omega))
    | ((first | apply H.gtrue); (iterate 3 exact rfl); assumption)
    | (apply H.gfalse; (iterate 3 exact rfl); assumption)
    | (apply H.cond_t; exact rfl; assumption)
    | (apply H.cond_f; exact rfl; assumption))
  by_cases hlt : k < s.init.length + 1
  · obtain ⟨p, hp⟩ : ∃ p, s.all[k]? = some p := ⟨s.all[k]'(by rw [all_len]; omega), by simp⟩
    have g1 : (flatV voteV s.all)[k * 2 + 0]? = some (.int .u64 p.1) := by rw [flatV_get voteV_len _ _ _ _ hp (by decide)]; rfl
    have g2 : (flatV voteV s.all)[k * 2 + 1]? = some (.int .i64 p.2) := by rw [flatV_get voteV_len _ _ _ _ hp (by decide)]; rfl
    repeat (
      first
      | ((first | apply H.move | apply H.assign | apply H.nilCheck | apply H.len_slice); (iterate 3 exact rfl))
      | (apply H.fieldAddr; (iterate 3 exact rfl); exact inferInstance; exact rfl)
      | (apply H.load1; (iterate 3 exact rfl); apply Rd1.ofRow; (repeat (first | exact .here _ _ _ | apply At.there)); (iterate 2 exact rfl))
      | (first | apply H.seq | apply H.region | apply H.nil | apply H.then_normal)
      | ((first | apply H.cmp | apply H.build); (iterate 5 exact rfl))
      | ((first | (apply H.ar; (iterate 4 exact rfl)) | (apply H.conv_int; (iterate 2 exact rfl))); (first | (apply wr_i64_s1; omega) | (apply wr_i64_n1; omega) | (apply wr_i64_nn; omega) | (apply wr_i64; omega) | (apply wr_u64; omega) | (apply wr_u8; omega) | (apply wr_u16; omega) | rfl); exact rfl)
      | (apply H.pass; (iterate 2 exact rfl))
      | (apply H.pass0; exact rfl)
      | (apply H.pickT; (iterate 4 exact rfl))
      | ((first | apply H.pickF | apply H.extract | apply H.not); (iterate 4 exact rfl))
      | ((first | apply H.ptrNil | apply H.sliceNil); (iterate 5 exact rfl))
      | (apply H.store1; (iterate 4 exact rfl); (repeat (first | exact .here _ _ _ | apply At.there)); (repeat (first | exact .here _ _ _ | apply SetV.there)))
      | (apply H.cond_true; exact rfl)
      | (apply H.cond_false; exact rfl)
      | (first | apply H.skip | apply H.ret | apply H.then_ret | apply H.then_exit | apply H.exit | apply H.block | apply H.in_normal | apply H.in_ret | apply H.in_hit | apply H.loop_ret | apply H.loop_exit)
      | (apply H.in_miss; exact rfl)
      | (apply H.gyes; (iterate 3 exact rfl); (first | assumption | omega))
      | (apply H.gno; (iterate 3 exact rfl); (first | assumption | omega))
      | (apply H.cond_yes; exact rfl; (first | assumption | omega))
      | (apply H.cond_no; exact rfl; (first | assumption | omega))
      | ((first | apply H.gtrue); (iterate 3 exact rfl); assumption)
      | (apply H.gfalse; (iterate 3 exact rfl); assumption)
      | (apply H.cond_t; exact rfl; assumption)
      | (apply H.cond_f; exact rfl; assumption))
    refine H.index0 rfl rfl rfl rfl hlt rfl ?_
    repeat (
      first
      | ((first | apply H.move | apply H.assign | apply H.nilCheck | apply H.len_slice); (iterate 3 exact rfl))
      | (apply H.fieldAddr; (iterate 3 exact rfl); exact inferInstance; exact rfl)
      | (apply H.load1; (iterate 3 exact rfl); apply Rd1.ofRow; (repeat (first | exact .here _ _ _ | apply At.there)); (iterate 2 exact rfl))
      | (first | apply H.seq | apply H.region | apply H.nil | apply H.then_normal)
      | ((first | apply H.cmp | apply H.build); (iterate 5 exact rfl))
      | ((first | (apply H.ar; (iterate 4 exact rfl)) | (apply H.conv_int; (iterate 2 exact rfl))); (first | (apply wr_i64_s1; omega) | (apply wr_i64_n1; omega) | (apply wr_i64_nn; omega) | (apply wr_i64; omega) | (apply wr_u64; omega) | (apply wr_u8; omega) | (apply wr_u16; omega) | rfl); exact rfl)
      | (apply H.pass; (iterate 2 exact rfl))
      | (apply H.pass0; exact rfl)
      | (apply H.pickT; (iterate 4 exact rfl))
      | ((first | apply H.pickF | apply H.extract | apply H.not); (iterate 4 exact rfl))
      | ((first | apply H.ptrNil | apply H.sliceNil); (iterate 5 exact rfl))
      | (apply H.store1; (iterate 4 exact rfl); (repeat (first | exact .here _ _ _ | apply At.there)); (repeat (first | exact .here _ _ _ | apply SetV.there)))
      | (apply H.cond_true; exact rfl)
      | (apply H.cond_false; exact rfl)
      | (first | apply H.skip | apply H.ret | apply H.then_ret | apply H.then_exit | apply H.exit | apply H.block | apply H.in_normal | apply H.in_ret | apply H.in_hit | apply H.loop_ret | apply H.loop_exit)
      | (apply H.in_miss; exact rfl)
      | (apply H.gyes; (iterate 3 exact rfl); (first | assumption | omega))
      | (apply H.gno; (iterate 3 exact rfl); (first | assumption | omega))
      | (apply H.cond_yes; exact rfl; (first | assumption | omega))
      | (apply H.cond_no; exact rfl; (first | assumption | omega))
      | ((first | apply H.gtrue); (iterate 3 exact rfl); assumption)
      | (apply H.gfalse; (iterate 3 exact rfl); assumption)
      | (apply H.cond_t; exact rfl; assumption)
      | (apply H.cond_f; exact rfl; assumption))
    refine H.load1 rfl rfl rfl (.at0 (Rd.ofSlc (by repeat (first | exact .here _ _ _ | apply At.there)) (by omega)) g1) rfl ?_
    by_cases hv : p.1 = v
    · repeat (
      first
      | ((first | apply H.move | apply H.assign | apply H.nilCheck | apply H.len_slice); (iterate 3 exact rfl))
      | (apply H.fieldAddr; (iterate 3 exact rfl); exact inferInstance; exact rfl)
      | (apply H.load1; (iterate 3 exact rfl); apply Rd1.ofRow; (repeat (first | exact .here _ _ _ | apply At.there)); (iterate 2 exact rfl))
      | (first | apply H.seq | apply H.region | apply H.nil | apply H.then_normal)
      | ((first | apply H.cmp | apply H.build); (iterate 5 exact rfl))
      | ((first | (apply H.ar; (iterate 4 exact rfl)) | (apply H.conv_int; (iterate 2 exact rfl))); (first | (apply wr_i64_s1; omega) | (apply wr_i64_n1; omega) | (apply wr_i64_nn; omega) | (apply wr_i64; omega) | (apply wr_u64; omega) | (apply wr_u8; omega) | (apply wr_u16; omega) | rfl); exact rfl)
      | (apply H.pass; (iterate 2 exact rfl))
      | (apply H.pass0; exact rfl)
      | (apply H.pickT; (iterate 4 exact rfl))
      | ((first | apply H.pickF | apply H.extract | apply H.not); (iterate 4 exact rfl))
      | ((first | apply H.ptrNil | apply H.sliceNil); (iterate 5 exact rfl))
      | (apply H.store1; (iterate 4 exact rfl); (repeat (first | exact .here _ _ _ | apply At.there)); (repeat (first | exact .here _ _ _ | apply SetV.there)))
      | (apply H.cond_true; exact rfl)
      | (apply H.cond_false; exact rfl)
      | (first | apply H.skip | apply H.ret | apply H.then_ret | apply H.then_exit | apply H.exit | apply H.block | apply H.in_normal | apply H.in_ret | apply H.in_hit | apply H.loop_ret | apply H.loop_exit)
      | (apply H.in_miss; exact rfl)
      | (apply H.gyes; (iterate 3 exact rfl); (first | assumption | omega))
      | (apply H.gno; (iterate 3 exact rfl); (first | assumption | omega))
      | (apply H.cond_yes; exact rfl; (first | assumption | omega))
      | (apply H.cond_no; exact rfl; (first | assumption | omega))
      | ((first | apply H.gtrue); (iterate 3 exact rfl); assumption)
      | (apply H.gfalse; (iterate 3 exact rfl); assumption)
      | (apply H.cond_t; exact rfl; assumption)
      | (apply H.cond_f; exact rfl; assumption))
      refine H.index0 rfl rfl rfl rfl hlt rfl ?_
      repeat (
        first
        | ((first | apply H.move | apply H.assign | apply H.nilCheck | apply H.len_slice); (iterate 3 exact rfl))
        | (apply H.fieldAddr; (iterate 3 exact rfl); exact inferInstance; exact rfl)
        | (apply H.load1; (iterate 3 exact rfl); apply Rd1.ofRow; (repeat (first | exact .here _ _ _ | apply At.there)); (iterate 2 exact rfl))
        | (first | apply H.seq | apply H.region | apply H.nil | apply H.then_normal)
        | ((first | apply H.cmp | apply H.build); (iterate 5 exact rfl))
        | ((first | (apply H.ar; (iterate 4 exact rfl)) | (apply H.conv_int; (iterate 2 exact rfl))); (first | (apply wr_i64_s1; omega) | (apply wr_i64_n1; omega) | (apply wr_i64_nn; omega) | (apply wr_i64; omega) | (apply wr_u64; omega) | (apply wr_u8; omega) | (apply wr_u16; omega) | rfl); exact rfl)
        | (apply H.pass; (iterate 2 exact rfl))
        | (apply H.pass0; exact rfl)
        | (apply H.pickT; (iterate 4 exact rfl))
        | ((first | apply H.pickF | apply H.extract | apply H.not); (iterate 4 exact rfl))
        | ((first | apply H.ptrNil | apply H.sliceNil); (iterate 5 exact rfl))
        | (apply H.store1; (iterate 4 exact rfl); (repeat (first | exact .here _ _ _ | apply At.there)); (repeat (first | exact .here _ _ _ | apply SetV.there)))
        | (apply H.cond_true; exact rfl)
        | (apply H.cond_false; exact rfl)
        | (first | apply H.skip | apply H.ret | apply H.then_ret | apply H.then_exit | apply H.exit | apply H.block | apply H.in_normal | apply H.in_ret | apply H.in_hit | apply H.loop_ret | apply H.loop_exit)
        | (apply H.in_miss; exact rfl)
        | (apply H.gyes; (iterate 3 exact rfl); (first | assumption | omega))
        | (apply H.gno; (iterate 3 exact rfl); (first | assumption | omega))
        | (apply H.cond_yes; exact rfl; (first | assumption | omega))
        | (apply H.cond_no; exact rfl; (first | assumption | omega))
        | ((first | apply H.gtrue); (iterate 3 exact rfl); assumption)
        | (apply H.gfalse; (iterate 3 exact rfl); assumption)
        | (apply H.cond_t; exact rfl; assumption)
        | (apply H.cond_f; exact rfl; assumption))
      refine H.load1 rfl rfl rfl (.at0 (Rd.ofSlc (by repeat (first | exact .here _ _ _ | apply At.there)) (by omega)) g2) rfl ?_
      repeat (
        first
        | ((first | apply H.move | apply H.assign | apply H.nilCheck | apply H.len_slice); (iterate 3 exact rfl))
        | (apply H.fieldAddr; (iterate 3 exact rfl); exact inferInstance; exact rfl)
        | (apply H.load1; (iterate 3 exact rfl); apply Rd1.ofRow; (repeat (first | exact .here _ _ _ | apply At.there)); (iterate 2 exact rfl))
        | (first | apply H.seq | apply H.region | apply H.nil | apply H.then_normal)
        | ((first | apply H.cmp | apply H.build); (iterate 5 exact rfl))
        | ((first | (apply H.ar; (iterate 4 exact rfl)) | (apply H.conv_int; (iterate 2 exact rfl))); (first | (apply wr_i64_s1; omega) | (apply wr_i64_n1; omega) | (apply wr_i64_nn; omega) | (apply wr_i64; omega) | (apply wr_u64; omega) | (apply wr_u8; omega) | (apply wr_u16; omega) | rfl); exact rfl)
        | (apply H.pass; (iterate 2 exact rfl))
        | (apply H.pass0; exact rfl)
        | (apply H.pickT; (iterate 4 exact rfl))
        | ((first | apply H.pickF | apply H.extract | apply H.not); (iterate 4 exact rfl))
        | ((first | apply H.ptrNil | apply H.sliceNil); (iterate 5 exact rfl))
        | (apply H.store1; (iterate 4 exact rfl); (repeat (first | exact .here _ _ _ | apply At.there)); (repeat (first | exact .here _ _ _ | apply SetV.there)))
        | (apply H.cond_true; exact rfl)
        | (apply H.cond_false; exact rfl)
        | (first | apply H.skip | apply H.ret | apply H.then_ret | apply H.then_exit | apply H.exit | apply H.block | apply H.in_normal | apply H.in_ret | apply H.in_hit | apply H.loop_ret | apply H.loop_exit)
        | (apply H.in_miss; exact rfl)
        | (apply H.gyes; (iterate 3 exact rfl); (first | assumption | omega))
        | (apply H.gno; (iterate 3 exact rfl); (first | assumption | omega))
        | (apply H.cond_yes; exact rfl; (first | assumption | omega))
        | (apply H.cond_no; exact rfl; (first | assumption | omega))
        | ((first | apply H.gtrue); (iterate 3 exact rfl); assumption)
        | (apply H.gfalse; (iterate 3 exact rfl); assumption)
        | (apply H.cond_t; exact rfl; assumption)
        | (apply H.cond_f; exact rfl; assumption))
      have e : PM.voted s.all v = some p.2 := by
        rw [voted_drop s.all k v hall]
        have hk2 : k < s.all.length := by rw [all_len]; omega
        rw [List.drop_eq_getElem_cons hk2]
        have : s.all[k] = p := by rw [List.getElem?_eq_getElem hk2] at hp; exact Option.some.inj hp
        rw [this]
        simp [PM.voted, hv]
      exact H.ret2 rfl rfl rfl refH_fold ⟨by rw [e]; rfl, rfl, rfl⟩
    · repeat (
      first
      | ((first | apply H.move | apply H.assign | apply H.nilCheck | apply H.len_slice); (iterate 3 exact rfl))
      | (apply H.fieldAddr; (iterate 3 exact rfl); exact inferInstance; exact rfl)
      | (apply H.load1; (iterate 3 exact rfl); apply Rd1.ofRow; (repeat (first | exact .here _ _ _ | apply At.there)); (iterate 2 exact rfl))
      | (first | apply H.seq | apply H.region | apply H.nil | apply H.then_normal)
      | ((first | apply H.cmp | apply H.build); (iterate 5 exact rfl))
      | ((first | (apply H.ar; (iterate 4 exact rfl)) | (apply H.conv_int; (iterate 2 exact rfl))); (first | (apply wr_i64_s1; omega) | (apply wr_i64_n1; omega) | (apply wr_i64_nn; omega) | (apply wr_i64; omega) | (apply wr_u64; omega) | (apply wr_u8; omega) | (apply wr_u16; omega) | rfl); exact rfl)
      | (apply H.pass; (iterate 2 exact rfl))
      | (apply H.pass0; exact rfl)
      | (apply H.pickT; (iterate 4 exact rfl))
      | ((first | apply H.pickF | apply H.extract | apply H.not); (iterate 4 exact rfl))
      | ((first | apply H.ptrNil | apply H.sliceNil); (iterate 5 exact rfl))
      | (apply H.store1; (iterate 4 exact rfl); (repeat (first | exact .here _ _ _ | apply At.there)); (repeat (first | exact .here _ _ _ | apply SetV.there)))
      | (apply H.cond_true; exact rfl)
      | (apply H.cond_false; exact rfl)
      | (first | apply H.skip | apply H.ret | apply H.then_ret | apply H.then_exit | apply H.exit | apply H.block | apply H.in_normal | apply H.in_ret | apply H.in_hit | apply H.loop_ret | apply H.loop_exit)
      | (apply H.in_miss; exact rfl)
      | (apply H.gyes; (iterate 3 exact rfl); (first | assumption | omega))
      | (apply H.gno; (iterate 3 exact rfl); (first | assumption | omega))
      | (apply H.cond_yes; exact rfl; (first | assumption | omega))
      | (apply H.cond_no; exact rfl; (first | assumption | omega))
      | ((first | apply H.gtrue); (iterate 3 exact rfl); assumption)
      | (apply H.gfalse; (iterate 3 exact rfl); assumption)
      | (apply H.cond_t; exact rfl; assumption)
      | (apply H.cond_f; exact rfl; assumption))
      refine H.again (k + 1) ⟨by omega, ?_⟩ (by omega) ⟨rfl, rfl, rfl, trivial⟩ rfl rfl
      intro i q hi hq
      by_cases c : i = k
      · subst c; rw [hp] at hq; cases hq; exact fun e => hv e.symm
      · exact hall i q (by omega) hq
  · repeat (
    first
    | ((first | apply H.move | apply H.assign | apply H.nilCheck | apply H.len_slice); (iterate 3 exact rfl))
    | (apply H.fieldAddr; (iterate 3 exact rfl); exact inferInstance; exact rfl)
    | (apply H.load1; (iterate 3 exact rfl); apply Rd1.ofRow; (repeat (first | exact .here _ _ _ | apply At.there)); (iterate 2 exact rfl))
    | (first | apply H.seq | apply H.region | apply H.nil | apply H.then_normal)
    | ((first | apply H.cmp | apply H.build); (iterate 5 exact rfl))
    | ((first | (apply H.ar; (iterate 4 exact rfl)) | (apply H.conv_int; (iterate 2 exact rfl))); (first | (apply wr_i64_s1; omega) | (apply wr_i64_n1; omega) | (apply wr_i64_nn; omega) | (apply wr_i64; omega) | (apply wr_u64; omega) | (apply wr_u8; omega) | (apply wr_u16; omega) | rfl); exact rfl)
    | (apply H.pass; (iterate 2 exact rfl))
    | (apply H.pass0; exact rfl)
    | (apply H.pickT; (iterate 4 exact rfl))
    | ((first | apply H.pickF | apply H.extract | apply H.not); (iterate 4 exact rfl))
    | ((first | apply H.ptrNil | apply H.sliceNil); (iterate 5 exact rfl))
    | (apply H.store1; (iterate 4 exact rfl); (repeat (first | exact .here _ _ _ | apply At.there)); (repeat (first | exact .here _ _ _ | apply SetV.there)))
    | (apply H.cond_true; exact rfl)
    | (apply H.cond_false; exact rfl)
    | (first | apply H.skip | apply H.ret | apply H.then_ret | apply H.then_exit | apply H.exit | apply H.block | apply H.in_normal | apply H.in_ret | apply H.in_hit | apply H.loop_ret | apply H.loop_exit)
    | (apply H.in_miss; exact rfl)
    | (apply H.gyes; (iterate 3 exact rfl); (first | assumption | omega))
    | (apply H.gno; (iterate 3 exact rfl); (first | assumption | omega))
    | (apply H.cond_yes; exact rfl; (first | assumption | omega))
    | (apply H.cond_no; exact rfl; (first | assumption | omega))
    | ((first | apply H.gtrue); (iterate 3 exact rfl); assumption)
    | (apply H.gfalse; (iterate 3 exact rfl); assumption)
    | (apply H.cond_t; exact rfl; assumption)
    | (apply H.cond_f; exact rfl; assumption))
    have e : PM.voted s.all v = none := by
      rw [voted_drop s.all k v hall, List.drop_eq_nil_of_le (by rw [all_len]; omega)]
      rfl
    exact H.ret2 rfl rfl rfl refH_fold ⟨by rw [e]; rfl, rfl, rfl⟩
end
end Go.Proofs.Ytfplfddobjbbnaa
