/- Layer 14: PastOpen. -/
import Derived.Test.YtfplfddobjbbnaaPj
namespace Go.Proofs.Ytfplfddobjbbnaa
set_option linter.unusedSectionVars false
set_option linter.unusedSimpArgs false
set_option linter.unusedVariables false
open Go Go.RowKit
section
variable (f : Frag) (F : List HP)

set_option maxHeartbeats 4000000 in
theorem pastOpen_fn (p : Option Addr) (c : Nat) (xs : List Stp) (hxs : ∀ x ∈ xs, x.Ok) (hat : ListAt f p 4 Stp.vals xs) :
    Fn Try.prog 6 [.slice p xs.length c] f F (Ret (.bool true) f F) := by
  by_cases hl : 120 < xs.length
  · refine Fn.enter Try.func6 rfl Try.ntmps6 rfl (L := [(0, _)]) ⟨rfl, trivial⟩ fun base => ?_
    repeat (
      first
      | ((first | apply H.move | apply H.assign | apply H.nilCheck | apply H.len_slice); (iterate 3 exact rfl))
      | (apply H.fieldAddr; (iterate 3 exact rfl); exact inferInstance; exact rfl)
      | (apply H.load1; (iterate 3 exact rfl); apply Rd1.ofRow; (repeat (first | exact .here _ _ _ | apply At.there)); (iterate 2 exact rfl))
      | (first | apply H.seq | apply H.region | apply H.nil | apply H.then_normal)
      | ((first | apply H.cmp | apply H.build); (iterate 5 exact rfl))
      | ((first | (apply H.ar; (iterate 4 exact rfl)) | (apply H.conv_int; (iterate 2 exact rfl))); (first | (apply wr_i64_s1; omega) | (apply wr_i64_n1; omega) | (apply wr_i64_nn; omega) | (apply wr_i64; omega) | (apply wr_u64; omega) | (apply wr_u8; omega) | (apply wr_u16; omega) | rfl); exact rfl)
      | (apply H.pass; (iterate 2 exact rfl))
      | (apply H.pass0; exact rfl)
      | (apply H.pickT; (iterate 4 exact rfl))
      | ((first | apply H.pickF | apply H.extract | apply H.not); (iterate 4 exact rfl))
      | ((first | apply H.ptrNil | apply H.sliceNil); (iterate 5 exact rfl))
      | (apply H.store1; (iterate 4 exact rfl); (repeat (first | exact .here _ _ _ | apply At.there)); (repeat (first | exact .here _ _ _ | apply SetV.there)))
      | (apply H.cond_true; exact rfl)
      | (apply H.cond_false; exact rfl)
      | (first | apply H.skip | apply H.ret | apply H.then_ret | apply H.then_exit | apply H.exit | apply H.block | apply H.in_normal | apply H.in_ret | apply H.in_hit | apply H.loop_ret | apply H.loop_exit)
      | (apply H.in_miss; exact rfl)
      | (apply H.gyes; (iterate 3 exact rfl); (first | assumption | omega))
      | (apply H.gno; (iterate 3 exact rfl); (first | assumption | omega))
      | (apply H.cond_yes; exact rfl; (first | assumption | omega))
      | (apply H.cond_no; exact rfl; (first | assumption | omega))
      | ((first | apply H.gtrue); (iterate 3 exact rfl); assumption)
      | (apply H.gfalse; (iterate 3 exact rfl); assumption)
      | (apply H.cond_t; exact rfl; assumption)
      | (apply H.cond_f; exact rfl; assumption))
    refine H.callR rfl rfl rfl (works_fn f _) ?_
    repeat (
      first
      | ((first | apply H.move | apply H.assign | apply H.nilCheck | apply H.len_slice); (iterate 3 exact rfl))
      | (apply H.fieldAddr; (iterate 3 exact rfl); exact inferInstance; exact rfl)
      | (apply H.load1; (iterate 3 exact rfl); apply Rd1.ofRow; (repeat (first | exact .here _ _ _ | apply At.there)); (iterate 2 exact rfl))
      | (first | apply H.seq | apply H.region | apply H.nil | apply H.then_normal)
      | ((first | apply H.cmp | apply H.build); (iterate 5 exact rfl))
      | ((first | (apply H.ar; (iterate 4 exact rfl)) | (apply H.conv_int; (iterate 2 exact rfl))); (first | (apply wr_i64_s1; omega) | (apply wr_i64_n1; omega) | (apply wr_i64_nn; omega) | (apply wr_i64; omega) | (apply wr_u64; omega) | (apply wr_u8; omega) | (apply wr_u16; omega) | rfl); exact rfl)
      | (apply H.pass; (iterate 2 exact rfl))
      | (apply H.pass0; exact rfl)
      | (apply H.pickT; (iterate 4 exact rfl))
      | ((first | apply H.pickF | apply H.extract | apply H.not); (iterate 4 exact rfl))
      | ((first | apply H.ptrNil | apply H.sliceNil); (iterate 5 exact rfl))
      | (apply H.store1; (iterate 4 exact rfl); (repeat (first | exact .here _ _ _ | apply At.there)); (repeat (first | exact .here _ _ _ | apply SetV.there)))
      | (apply H.cond_true; exact rfl)
      | (apply H.cond_false; exact rfl)
      | (first | apply H.skip | apply H.ret | apply H.then_ret | apply H.then_exit | apply H.exit | apply H.block | apply H.in_normal | apply H.in_ret | apply H.in_hit | apply H.loop_ret | apply H.loop_exit)
      | (apply H.in_miss; exact rfl)
      | (apply H.gyes; (iterate 3 exact rfl); (first | assumption | omega))
      | (apply H.gno; (iterate 3 exact rfl); (first | assumption | omega))
      | (apply H.cond_yes; exact rfl; (first | assumption | omega))
      | (apply H.cond_no; exact rfl; (first | assumption | omega))
      | ((first | apply H.gtrue); (iterate 3 exact rfl); assumption)
      | (apply H.gfalse; (iterate 3 exact rfl); assumption)
      | (apply H.cond_t; exact rfl; assumption)
      | (apply H.cond_f; exact rfl; assumption))
    exact H.ret1 rfl rfl (fun _ h => h) ⟨rfl, rfl, rfl⟩
  · refine Fn.enter Try.func6 rfl Try.ntmps6 rfl (L := [(0, _)]) ⟨rfl, trivial⟩ fun base => ?_
    repeat (
      first
      | ((first | apply H.move | apply H.assign | apply H.nilCheck | apply H.len_slice); (iterate 3 exact rfl))
      | (apply H.fieldAddr; (iterate 3 exact rfl); exact inferInstance; exact rfl)
      | (apply H.load1; (iterate 3 exact rfl); apply Rd1.ofRow; (repeat (first | exact .here _ _ _ | apply At.there)); (iterate 2 exact rfl))
      | (first | apply H.seq | apply H.region | apply H.nil | apply H.then_normal)
      | ((first | apply H.cmp | apply H.build); (iterate 5 exact rfl))
      | ((first | (apply H.ar; (iterate 4 exact rfl)) | (apply H.conv_int; (iterate 2 exact rfl))); (first | (apply wr_i64_s1; omega) | (apply wr_i64_n1; omega) | (apply wr_i64_nn; omega) | (apply wr_i64; omega) | (apply wr_u64; omega) | (apply wr_u8; omega) | (apply wr_u16; omega) | rfl); exact rfl)
      | (apply H.pass; (iterate 2 exact rfl))
      | (apply H.pass0; exact rfl)
      | (apply H.pickT; (iterate 4 exact rfl))
      | ((first | apply H.pickF | apply H.extract | apply H.not); (iterate 4 exact rfl))
      | ((first | apply H.ptrNil | apply H.sliceNil); (iterate 5 exact rfl))
      | (apply H.store1; (iterate 4 exact rfl); (repeat (first | exact .here _ _ _ | apply At.there)); (repeat (first | exact .here _ _ _ | apply SetV.there)))
      | (apply H.cond_true; exact rfl)
      | (apply H.cond_false; exact rfl)
      | (first | apply H.skip | apply H.ret | apply H.then_ret | apply H.then_exit | apply H.exit | apply H.block | apply H.in_normal | apply H.in_ret | apply H.in_hit | apply H.loop_ret | apply H.loop_exit)
      | (apply H.in_miss; exact rfl)
      | (apply H.gyes; (iterate 3 exact rfl); (first | assumption | omega))
      | (apply H.gno; (iterate 3 exact rfl); (first | assumption | omega))
      | (apply H.cond_yes; exact rfl; (first | assumption | omega))
      | (apply H.cond_no; exact rfl; (first | assumption | omega))
      | ((first | apply H.gtrue); (iterate 3 exact rfl); assumption)
      | (apply H.gfalse; (iterate 3 exact rfl); assumption)
      | (apply H.cond_t; exact rfl; assumption)
      | (apply H.cond_f; exact rfl; assumption))
    refine H.callE rfl rfl rfl (new_fn f F) fun b => ?_
    repeat (
      first
      | ((first | apply H.move | apply H.assign | apply H.nilCheck | apply H.len_slice); (iterate 3 exact rfl))
      | (apply H.fieldAddr; (iterate 3 exact rfl); exact inferInstance; exact rfl)
      | (apply H.load1; (iterate 3 exact rfl); apply Rd1.ofRow; (repeat (first | exact .here _ _ _ | apply At.there)); (iterate 2 exact rfl))
      | (first | apply H.seq | apply H.region | apply H.nil | apply H.then_normal)
      | ((first | apply H.cmp | apply H.build); (iterate 5 exact rfl))
      | ((first | (apply H.ar; (iterate 4 exact rfl)) | (apply H.conv_int; (iterate 2 exact rfl))); (first | (apply wr_i64_s1; omega) | (apply wr_i64_n1; omega) | (apply wr_i64_nn; omega) | (apply wr_i64; omega) | (apply wr_u64; omega) | (apply wr_u8; omega) | (apply wr_u16; omega) | rfl); exact rfl)
      | (apply H.pass; (iterate 2 exact rfl))
      | (apply H.pass0; exact rfl)
      | (apply H.pickT; (iterate 4 exact rfl))
      | ((first | apply H.pickF | apply H.extract | apply H.not); (iterate 4 exact rfl))
      | ((first | apply H.ptrNil | apply H.sliceNil); (iterate 5 exact rfl))
      | (apply H.store1; (iterate 4 exact rfl); (repeat (first | exact .here _ _ _ | apply At.there)); (repeat (first | exact .here _ _ _ | apply SetV.there)))
      | (apply H.cond_true; exact rfl)
      | (apply H.cond_false; exact rfl)
      | (first | apply H.skip | apply H.ret | apply H.then_ret | apply H.then_exit | apply H.exit | apply H.block | apply H.in_normal | apply H.in_ret | apply H.in_hit | apply H.loop_ret | apply H.loop_exit)
      | (apply H.in_miss; exact rfl)
      | (apply H.gyes; (iterate 3 exact rfl); (first | assumption | omega))
      | (apply H.gno; (iterate 3 exact rfl); (first | assumption | omega))
      | (apply H.cond_yes; exact rfl; (first | assumption | omega))
      | (apply H.cond_no; exact rfl; (first | assumption | omega))
      | ((first | apply H.gtrue); (iterate 3 exact rfl); assumption)
      | (apply H.gfalse; (iterate 3 exact rfl); assumption)
      | (apply H.cond_t; exact rfl; assumption)
      | (apply H.cond_f; exact rfl; assumption))
    refine H.buildSlice rfl rfl rfl rfl (by decide) (by decide) rfl rfl fun eb => ?_
    repeat (
      first
      | ((first | apply H.move | apply H.assign | apply H.nilCheck | apply H.len_slice); (iterate 3 exact rfl))
      | (apply H.fieldAddr; (iterate 3 exact rfl); exact inferInstance; exact rfl)
      | (apply H.load1; (iterate 3 exact rfl); apply Rd1.ofRow; (repeat (first | exact .here _ _ _ | apply At.there)); (iterate 2 exact rfl))
      | (first | apply H.seq | apply H.region | apply H.nil | apply H.then_normal)
      | ((first | apply H.cmp | apply H.build); (iterate 5 exact rfl))
      | ((first | (apply H.ar; (iterate 4 exact rfl)) | (apply H.conv_int; (iterate 2 exact rfl))); (first | (apply wr_i64_s1; omega) | (apply wr_i64_n1; omega) | (apply wr_i64_nn; omega) | (apply wr_i64; omega) | (apply wr_u64; omega) | (apply wr_u8; omega) | (apply wr_u16; omega) | rfl); exact rfl)
      | (apply H.pass; (iterate 2 exact rfl))
      | (apply H.pass0; exact rfl)
      | (apply H.pickT; (iterate 4 exact rfl))
      | ((first | apply H.pickF | apply H.extract | apply H.not); (iterate 4 exact rfl))
      | ((first | apply H.ptrNil | apply H.sliceNil); (iterate 5 exact rfl))
      | (apply H.store1; (iterate 4 exact rfl); (repeat (first | exact .here _ _ _ | apply At.there)); (repeat (first | exact .here _ _ _ | apply SetV.there)))
      | (apply H.cond_true; exact rfl)
      | (apply H.cond_false; exact rfl)
      | (first | apply H.skip | apply H.ret | apply H.then_ret | apply H.then_exit | apply H.exit | apply H.block | apply H.in_normal | apply H.in_ret | apply H.in_hit | apply H.loop_ret | apply H.loop_exit)
      | (apply H.in_miss; exact rfl)
      | (apply H.gyes; (iterate 3 exact rfl); (first | assumption | omega))
      | (apply H.gno; (iterate 3 exact rfl); (first | assumption | omega))
      | (apply H.cond_yes; exact rfl; (first | assumption | omega))
      | (apply H.cond_no; exact rfl; (first | assumption | omega))
      | ((first | apply H.gtrue); (iterate 3 exact rfl); assumption)
      | (apply H.gfalse; (iterate 3 exact rfl); assumption)
      | (apply H.cond_t; exact rfl; assumption)
      | (apply H.cond_f; exact rfl; assumption))
    refine H.imp (A' := slc (some ⟨eb, 0, none⟩) 1 1 23 1 (viewsV PM.new.all) :: pastH b PM.new :: F) ?_ ?_
    · rintro x ⟨m1, m2, d, e, a, r⟩
      exact ⟨m1, m2, d, e, row_slc (by rfl) (by decide) a, r⟩
    refine H.loop (ι := Nat × PM × Nat × Nat) (fun i => [(6, .int .i64 (i.1 : Int)), (5, .slice (some ⟨i.2.2.1, 0, none⟩) (i.2.1.init.length + 1) i.2.2.2), (4, .int .u64 i.2.1.g), (0, .slice p xs.length c), (3, .pointer (some ⟨b, 0, none⟩))]) (fun _ => f)
      (fun i => slc (some ⟨i.2.2.1, 0, none⟩) (i.2.1.init.length + 1) i.2.2.2 23 1 (viewsV i.2.1.all) :: pastH b i.2.1 :: F) (fun i => i.1 ≤ xs.length ∧ PM.WF i.2.1 (1073741824 + (i.1 : Int)) ∧ i.2.1.init.length ≤ i.1) (fun i => xs.length - i.1) (0, PM.new, eb, 1)
      ⟨Nat.zero_le _, PM.new_wf.mono (by show (0 : Int) ≤ 1073741824 + ((0 : Nat) : Int); decide), Nat.le_refl 0⟩ ⟨rfl, rfl, rfl, rfl, rfl, trivial⟩ rfl rfl fun i hi => ?_
    obtain ⟨k, s, eb, ec⟩ := i
    obtain ⟨hk, hw, hn⟩ : k ≤ xs.length ∧ PM.WF s (1073741824 + (k : Int)) ∧ s.init.length ≤ k := hi
    show H _ _ _ [(6, .int .i64 (k : Int)), (5, .slice (some ⟨eb, 0, none⟩) (s.init.length + 1) ec), (4, .int .u64 s.g), (0, .slice p xs.length c), (3, .pointer (some ⟨b, 0, none⟩))] _ (slc (some ⟨eb, 0, none⟩) (s.init.length + 1) ec _ 1 (viewsV s.all) :: pastH b s :: F) _
    repeat (
      first
      | ((first | apply H.move | apply H.assign | apply H.nilCheck | apply H.len_slice); (iterate 3 exact rfl))
      | (apply H.fieldAddr; (iterate 3 exact rfl); exact inferInstance; exact rfl)
      | (apply H.load1; (iterate 3 exact rfl); apply Rd1.ofRow; (repeat (first | exact .here _ _ _ | apply At.there)); (iterate 2 exact rfl))
      | (first | apply H.seq | apply H.region | apply H.nil | apply H.then_normal)
      | ((first | apply H.cmp | apply H.build); (iterate 5 exact rfl))
      | ((first | (apply H.ar; (iterate 4 exact rfl)) | (apply H.conv_int; (iterate 2 exact rfl))); (first | (apply wr_i64_s1; omega) | (apply wr_i64_n1; omega) | (apply wr_i64_nn; omega) | (apply wr_i64; omega) | (apply wr_u64; omega) | (apply wr_u8; omega) | (apply wr_u16; omega) | rfl); exact rfl)
      | (apply H.pass; (iterate 2 exact rfl))
      | (apply H.pass0; exact rfl)
      | (apply H.pickT; (iterate 4 exact rfl))
      | ((first | apply H.pickF | apply H.extract | apply H.not); (iterate 4 exact rfl))
      | ((first | apply H.ptrNil | apply H.sliceNil); (iterate 5 exact rfl))
      | (apply H.store1; (iterate 4 exact rfl); (repeat (first | exact .here _ _ _ | apply At.there)); (repeat (first | exact .here _ _ _ | apply SetV.there)))
      | (apply H.cond_true; exact rfl)
      | (apply H.cond_false; exact rfl)
      | (first | apply H.skip | apply H.ret | apply H.then_ret | apply H.then_exit | apply H.exit | apply H.block | apply H.in_normal | apply H.in_ret | apply H.in_hit | apply H.loop_ret | apply H.loop_exit)
      | (apply H.in_miss; exact rfl)
      | (apply H.gyes; (iterate 3 exact rfl); (first | assumption | omega))
      | (apply H.gno; (iterate 3 exact rfl); (first | assumption | omega))
      | (apply H.cond_yes; exact rfl; (first | assumption | omega))
      | (apply H.cond_no; exact rfl; (first | assumption | omega))
      | ((first | apply H.gtrue); (iterate 3 exact rfl); assumption)
      | (apply H.gfalse; (iterate 3 exact rfl); assumption)
      | (apply H.cond_t; exact rfl; assumption)
      | (apply H.cond_f; exact rfl; assumption))
    by_cases hlt : k < xs.length
    · obtain ⟨x, hx⟩ : ∃ x, xs[k]? = some x := ⟨xs[k], List.getElem?_eq_getElem hlt⟩
      have hxo : x.Ok := hxs x (List.mem_of_getElem? hx)
      obtain ⟨ab, off, cs, T, fr, rfl, hfb, hcs⟩ := hat k x hx
      have rd : ∀ A, Rd f A ab (off + k * 4) x.vals := fun A => Rd.imm hfb hcs
      clear hcs hfb
      repeat (
        first
        | ((first | apply H.move | apply H.assign | apply H.nilCheck | apply H.len_slice); (iterate 3 exact rfl))
        | (apply H.fieldAddr; (iterate 3 exact rfl); exact inferInstance; exact rfl)
        | (apply H.load1; (iterate 3 exact rfl); apply Rd1.ofRow; (repeat (first | exact .here _ _ _ | apply At.there)); (iterate 2 exact rfl))
        | (first | apply H.seq | apply H.region | apply H.nil | apply H.then_normal)
        | ((first | apply H.cmp | apply H.build); (iterate 5 exact rfl))
        | ((first | (apply H.ar; (iterate 4 exact rfl)) | (apply H.conv_int; (iterate 2 exact rfl))); (first | (apply wr_i64_s1; omega) | (apply wr_i64_n1; omega) | (apply wr_i64_nn; omega) | (apply wr_i64; omega) | (apply wr_u64; omega) | (apply wr_u8; omega) | (apply wr_u16; omega) | rfl); exact rfl)
        | (apply H.pass; (iterate 2 exact rfl))
        | (apply H.pass0; exact rfl)
        | (apply H.pickT; (iterate 4 exact rfl))
        | ((first | apply H.pickF | apply H.extract | apply H.not); (iterate 4 exact rfl))
        | ((first | apply H.ptrNil | apply H.sliceNil); (iterate 5 exact rfl))
        | (apply H.store1; (iterate 4 exact rfl); (repeat (first | exact .here _ _ _ | apply At.there)); (repeat (first | exact .here _ _ _ | apply SetV.there)))
        | (apply H.cond_true; exact rfl)
        | (apply H.cond_false; exact rfl)
        | (first | apply H.skip | apply H.ret | apply H.then_ret | apply H.then_exit | apply H.exit | apply H.block | apply H.in_normal | apply H.in_ret | apply H.in_hit | apply H.loop_ret | apply H.loop_exit)
        | (apply H.in_miss; exact rfl)
        | (apply H.gyes; (iterate 3 exact rfl); (first | assumption | omega))
        | (apply H.gno; (iterate 3 exact rfl); (first | assumption | omega))
        | (apply H.cond_yes; exact rfl; (first | assumption | omega))
        | (apply H.cond_no; exact rfl; (first | assumption | omega))
        | ((first | apply H.gtrue); (iterate 3 exact rfl); assumption)
        | (apply H.gfalse; (iterate 3 exact rfl); assumption)
        | (apply H.cond_t; exact rfl; assumption)
        | (apply H.cond_f; exact rfl; assumption))
      refine H.index_slice rfl rfl rfl rfl hlt rfl ?_
      repeat (
        first
        | ((first | apply H.move | apply H.assign | apply H.nilCheck | apply H.len_slice); (iterate 3 exact rfl))
        | (apply H.fieldAddr; (iterate 3 exact rfl); exact inferInstance; exact rfl)
        | (apply H.load1; (iterate 3 exact rfl); apply Rd1.ofRow; (repeat (first | exact .here _ _ _ | apply At.there)); (iterate 2 exact rfl))
        | (first | apply H.seq | apply H.region | apply H.nil | apply H.then_normal)
        | ((first | apply H.cmp | apply H.build); (iterate 5 exact rfl))
        | ((first | (apply H.ar; (iterate 4 exact rfl)) | (apply H.conv_int; (iterate 2 exact rfl))); (first | (apply wr_i64_s1; omega) | (apply wr_i64_n1; omega) | (apply wr_i64_nn; omega) | (apply wr_i64; omega) | (apply wr_u64; omega) | (apply wr_u8; omega) | (apply wr_u16; omega) | rfl); exact rfl)
        | (apply H.pass; (iterate 2 exact rfl))
        | (apply H.pass0; exact rfl)
        | (apply H.pickT; (iterate 4 exact rfl))
        | ((first | apply H.pickF | apply H.extract | apply H.not); (iterate 4 exact rfl))
        | ((first | apply H.ptrNil | apply H.sliceNil); (iterate 5 exact rfl))
        | (apply H.store1; (iterate 4 exact rfl); (repeat (first | exact .here _ _ _ | apply At.there)); (repeat (first | exact .here _ _ _ | apply SetV.there)))
        | (apply H.cond_true; exact rfl)
        | (apply H.cond_false; exact rfl)
        | (first | apply H.skip | apply H.ret | apply H.then_ret | apply H.then_exit | apply H.exit | apply H.block | apply H.in_normal | apply H.in_ret | apply H.in_hit | apply H.loop_ret | apply H.loop_exit)
        | (apply H.in_miss; exact rfl)
        | (apply H.gyes; (iterate 3 exact rfl); (first | assumption | omega))
        | (apply H.gno; (iterate 3 exact rfl); (first | assumption | omega))
        | (apply H.cond_yes; exact rfl; (first | assumption | omega))
        | (apply H.cond_no; exact rfl; (first | assumption | omega))
        | ((first | apply H.gtrue); (iterate 3 exact rfl); assumption)
        | (apply H.gfalse; (iterate 3 exact rfl); assumption)
        | (apply H.cond_t; exact rfl; assumption)
        | (apply H.cond_f; exact rfl; assumption))
      refine H.loadN (ls := x.vals) rfl rfl rfl (rd _) rfl rfl ?_
      refine H.alloc rfl rfl rfl fun xb => ?_
      refine H.storeN (ls := [.int .u8 0, .int .u64 0, .int .u64 0, .int .i64 0]) (vs := x.vals) (ls' := x.vals) rfl rfl rfl (allOne_mem rfl) rfl rfl (Nat.le_refl 4) (by repeat (first | exact .here _ _ _ | apply At.there)) ?_
      repeat (
        first
        | ((first | apply H.move | apply H.assign | apply H.nilCheck | apply H.len_slice); (iterate 3 exact rfl))
        | (apply H.fieldAddr; (iterate 3 exact rfl); exact inferInstance; exact rfl)
        | (apply H.load1; (iterate 3 exact rfl); apply Rd1.ofRow; (repeat (first | exact .here _ _ _ | apply At.there)); (iterate 2 exact rfl))
        | (first | apply H.seq | apply H.region | apply H.nil | apply H.then_normal)
        | ((first | apply H.cmp | apply H.build); (iterate 5 exact rfl))
        | ((first | (apply H.ar; (iterate 4 exact rfl)) | (apply H.conv_int; (iterate 2 exact rfl))); (first | (apply wr_i64_s1; omega) | (apply wr_i64_n1; omega) | (apply wr_i64_nn; omega) | (apply wr_i64; omega) | (apply wr_u64; omega) | (apply wr_u8; omega) | (apply wr_u16; omega) | rfl); exact rfl)
        | (apply H.pass; (iterate 2 exact rfl))
        | (apply H.pass0; exact rfl)
        | (apply H.pickT; (iterate 4 exact rfl))
        | ((first | apply H.pickF | apply H.extract | apply H.not); (iterate 4 exact rfl))
        | ((first | apply H.ptrNil | apply H.sliceNil); (iterate 5 exact rfl))
        | (apply H.store1; (iterate 4 exact rfl); (repeat (first | exact .here _ _ _ | apply At.there)); (repeat (first | exact .here _ _ _ | apply SetV.there)))
        | (apply H.cond_true; exact rfl)
        | (apply H.cond_false; exact rfl)
        | (first | apply H.skip | apply H.ret | apply H.then_ret | apply H.then_exit | apply H.exit | apply H.block | apply H.in_normal | apply H.in_ret | apply H.in_hit | apply H.loop_ret | apply H.loop_exit)
        | (apply H.in_miss; exact rfl)
        | (apply H.gyes; (iterate 3 exact rfl); (first | assumption | omega))
        | (apply H.gno; (iterate 3 exact rfl); (first | assumption | omega))
        | (apply H.cond_yes; exact rfl; (first | assumption | omega))
        | (apply H.cond_no; exact rfl; (first | assumption | omega))
        | ((first | apply H.gtrue); (iterate 3 exact rfl); assumption)
        | (apply H.gfalse; (iterate 3 exact rfl); assumption)
        | (apply H.cond_t; exact rfl; assumption)
        | (apply H.cond_f; exact rfl; assumption))
      by_cases hlong : 1073741824 < x.l
      · repeat (
        first
        | ((first | apply H.move | apply H.assign | apply H.nilCheck | apply H.len_slice); (iterate 3 exact rfl))
        | (apply H.fieldAddr; (iterate 3 exact rfl); exact inferInstance; exact rfl)
        | (apply H.load1; (iterate 3 exact rfl); apply Rd1.ofRow; (repeat (first | exact .here _ _ _ | apply At.there)); (iterate 2 exact rfl))
        | (first | apply H.seq | apply H.region | apply H.nil | apply H.then_normal)
        | ((first | apply H.cmp | apply H.build); (iterate 5 exact rfl))
        | ((first | (apply H.ar; (iterate 4 exact rfl)) | (apply H.conv_int; (iterate 2 exact rfl))); (first | (apply wr_i64_s1; omega) | (apply wr_i64_n1; omega) | (apply wr_i64_nn; omega) | (apply wr_i64; omega) | (apply wr_u64; omega) | (apply wr_u8; omega) | (apply wr_u16; omega) | rfl); exact rfl)
        | (apply H.pass; (iterate 2 exact rfl))
        | (apply H.pass0; exact rfl)
        | (apply H.pickT; (iterate 4 exact rfl))
        | ((first | apply H.pickF | apply H.extract | apply H.not); (iterate 4 exact rfl))
        | ((first | apply H.ptrNil | apply H.sliceNil); (iterate 5 exact rfl))
        | (apply H.store1; (iterate 4 exact rfl); (repeat (first | exact .here _ _ _ | apply At.there)); (repeat (first | exact .here _ _ _ | apply SetV.there)))
        | (apply H.cond_true; exact rfl)
        | (apply H.cond_false; exact rfl)
        | (first | apply H.skip | apply H.ret | apply H.then_ret | apply H.then_exit | apply H.exit | apply H.block | apply H.in_normal | apply H.in_ret | apply H.in_hit | apply H.loop_ret | apply H.loop_exit)
        | (apply H.in_miss; exact rfl)
        | (apply H.gyes; (iterate 3 exact rfl); (first | assumption | omega))
        | (apply H.gno; (iterate 3 exact rfl); (first | assumption | omega))
        | (apply H.cond_yes; exact rfl; (first | assumption | omega))
        | (apply H.cond_no; exact rfl; (first | assumption | omega))
        | ((first | apply H.gtrue); (iterate 3 exact rfl); assumption)
        | (apply H.gfalse; (iterate 3 exact rfl); assumption)
        | (apply H.cond_t; exact rfl; assumption)
        | (apply H.cond_f; exact rfl; assumption))
        refine H.callR rfl rfl rfl (works_fn f _) ?_
        repeat (
          first
          | ((first | apply H.move | apply H.assign | apply H.nilCheck | apply H.len_slice); (iterate 3 exact rfl))
          | (apply H.fieldAddr; (iterate 3 exact rfl); exact inferInstance; exact rfl)
          | (apply H.load1; (iterate 3 exact rfl); apply Rd1.ofRow; (repeat (first | exact .here _ _ _ | apply At.there)); (iterate 2 exact rfl))
          | (first | apply H.seq | apply H.region | apply H.nil | apply H.then_normal)
          | ((first | apply H.cmp | apply H.build); (iterate 5 exact rfl))
          | ((first | (apply H.ar; (iterate 4 exact rfl)) | (apply H.conv_int; (iterate 2 exact rfl))); (first | (apply wr_i64_s1; omega) | (apply wr_i64_n1; omega) | (apply wr_i64_nn; omega) | (apply wr_i64; omega) | (apply wr_u64; omega) | (apply wr_u8; omega) | (apply wr_u16; omega) | rfl); exact rfl)
          | (apply H.pass; (iterate 2 exact rfl))
          | (apply H.pass0; exact rfl)
          | (apply H.pickT; (iterate 4 exact rfl))
          | ((first | apply H.pickF | apply H.extract | apply H.not); (iterate 4 exact rfl))
          | ((first | apply H.ptrNil | apply H.sliceNil); (iterate 5 exact rfl))
          | (apply H.store1; (iterate 4 exact rfl); (repeat (first | exact .here _ _ _ | apply At.there)); (repeat (first | exact .here _ _ _ | apply SetV.there)))
          | (apply H.cond_true; exact rfl)
          | (apply H.cond_false; exact rfl)
          | (first | apply H.skip | apply H.ret | apply H.then_ret | apply H.then_exit | apply H.exit | apply H.block | apply H.in_normal | apply H.in_ret | apply H.in_hit | apply H.loop_ret | apply H.loop_exit)
          | (apply H.in_miss; exact rfl)
          | (apply H.gyes; (iterate 3 exact rfl); (first | assumption | omega))
          | (apply H.gno; (iterate 3 exact rfl); (first | assumption | omega))
          | (apply H.cond_yes; exact rfl; (first | assumption | omega))
          | (apply H.cond_no; exact rfl; (first | assumption | omega))
          | ((first | apply H.gtrue); (iterate 3 exact rfl); assumption)
          | (apply H.gfalse; (iterate 3 exact rfl); assumption)
          | (apply H.cond_t; exact rfl; assumption)
          | (apply H.cond_f; exact rfl; assumption))
        refine H.drop (.here _ _) ?_
        refine H.drop (.here _ _) ?_
        refine H.drop (.here _ _) ?_
        exact H.ret1 rfl rfl (fun _ h => h) ⟨rfl, rfl, rfl⟩
      · have hw' := hw.next x (by omega)
        have hn' : (s.stepS x).init.length ≤ k + 1 := by have := s.stepS_len x; omega
        have hv := PM.voted_last hw
        repeat (
          first
          | ((first | apply H.move | apply H.assign | apply H.nilCheck | apply H.len_slice); (iterate 3 exact rfl))
          | (apply H.fieldAddr; (iterate 3 exact rfl); exact inferInstance; exact rfl)
          | (apply H.load1; (iterate 3 exact rfl); apply Rd1.ofRow; (repeat (first | exact .here _ _ _ | apply At.there)); (iterate 2 exact rfl))
          | (first | apply H.seq | apply H.region | apply H.nil | apply H.then_normal)
          | ((first | apply H.cmp | apply H.build); (iterate 5 exact rfl))
          | ((first | (apply H.ar; (iterate 4 exact rfl)) | (apply H.conv_int; (iterate 2 exact rfl))); (first | (apply wr_i64_s1; omega) | (apply wr_i64_n1; omega) | (apply wr_i64_nn; omega) | (apply wr_i64; omega) | (apply wr_u64; omega) | (apply wr_u8; omega) | (apply wr_u16; omega) | rfl); exact rfl)
          | (apply H.pass; (iterate 2 exact rfl))
          | (apply H.pass0; exact rfl)
          | (apply H.pickT; (iterate 4 exact rfl))
          | ((first | apply H.pickF | apply H.extract | apply H.not); (iterate 4 exact rfl))
          | ((first | apply H.ptrNil | apply H.sliceNil); (iterate 5 exact rfl))
          | (apply H.store1; (iterate 4 exact rfl); (repeat (first | exact .here _ _ _ | apply At.there)); (repeat (first | exact .here _ _ _ | apply SetV.there)))
          | (apply H.cond_true; exact rfl)
          | (apply H.cond_false; exact rfl)
          | (first | apply H.skip | apply H.ret | apply H.then_ret | apply H.then_exit | apply H.exit | apply H.block | apply H.in_normal | apply H.in_ret | apply H.in_hit | apply H.loop_ret | apply H.loop_exit)
          | (apply H.in_miss; exact rfl)
          | (apply H.gyes; (iterate 3 exact rfl); (first | assumption | omega))
          | (apply H.gno; (iterate 3 exact rfl); (first | assumption | omega))
          | (apply H.cond_yes; exact rfl; (first | assumption | omega))
          | (apply H.cond_no; exact rfl; (first | assumption | omega))
          | ((first | apply H.gtrue); (iterate 3 exact rfl); assumption)
          | (apply H.gfalse; (iterate 3 exact rfl); assumption)
          | (apply H.cond_t; exact rfl; assumption)
          | (apply H.cond_f; exact rfl; assumption))
        refine H.index1 (i := s.init.length) rfl rfl rfl (by omega) (by omega) rfl ?_
        refine H.load1 rfl rfl rfl (.of (Rd.ofSlc (by repeat (first | exact .here _ _ _ | apply At.there)) (by omega)) (viewsV_last s)) rfl ?_
        repeat (
          first
          | ((first | apply H.move | apply H.assign | apply H.nilCheck | apply H.len_slice); (iterate 3 exact rfl))
          | (apply H.fieldAddr; (iterate 3 exact rfl); exact inferInstance; exact rfl)
          | (apply H.load1; (iterate 3 exact rfl); apply Rd1.ofRow; (repeat (first | exact .here _ _ _ | apply At.there)); (iterate 2 exact rfl))
          | (first | apply H.seq | apply H.region | apply H.nil | apply H.then_normal)
          | ((first | apply H.cmp | apply H.build); (iterate 5 exact rfl))
          | ((first | (apply H.ar; (iterate 4 exact rfl)) | (apply H.conv_int; (iterate 2 exact rfl))); (first | (apply wr_i64_s1; omega) | (apply wr_i64_n1; omega) | (apply wr_i64_nn; omega) | (apply wr_i64; omega) | (apply wr_u64; omega) | (apply wr_u8; omega) | (apply wr_u16; omega) | rfl); exact rfl)
          | (apply H.pass; (iterate 2 exact rfl))
          | (apply H.pass0; exact rfl)
          | (apply H.pickT; (iterate 4 exact rfl))
          | ((first | apply H.pickF | apply H.extract | apply H.not); (iterate 4 exact rfl))
          | ((first | apply H.ptrNil | apply H.sliceNil); (iterate 5 exact rfl))
          | (apply H.store1; (iterate 4 exact rfl); (repeat (first | exact .here _ _ _ | apply At.there)); (repeat (first | exact .here _ _ _ | apply SetV.there)))
          | (apply H.cond_true; exact rfl)
          | (apply H.cond_false; exact rfl)
          | (first | apply H.skip | apply H.ret | apply H.then_ret | apply H.then_exit | apply H.exit | apply H.block | apply H.in_normal | apply H.in_ret | apply H.in_hit | apply H.loop_ret | apply H.loop_exit)
          | (apply H.in_miss; exact rfl)
          | (apply H.gyes; (iterate 3 exact rfl); (first | assumption | omega))
          | (apply H.gno; (iterate 3 exact rfl); (first | assumption | omega))
          | (apply H.cond_yes; exact rfl; (first | assumption | omega))
          | (apply H.cond_no; exact rfl; (first | assumption | omega))
          | ((first | apply H.gtrue); (iterate 3 exact rfl); assumption)
          | (apply H.gfalse; (iterate 3 exact rfl); assumption)
          | (apply H.cond_t; exact rfl; assumption)
          | (apply H.cond_f; exact rfl; assumption))
        refine H.front (.there _ (.there _ (.here _ _))) ?_
        refine H.callR rfl rfl rfl (voted_some f _ hv) ?_
        clear hv
        repeat (
          first
          | ((first | apply H.move | apply H.assign | apply H.nilCheck | apply H.len_slice); (iterate 3 exact rfl))
          | (apply H.fieldAddr; (iterate 3 exact rfl); exact inferInstance; exact rfl)
          | (apply H.load1; (iterate 3 exact rfl); apply Rd1.ofRow; (repeat (first | exact .here _ _ _ | apply At.there)); (iterate 2 exact rfl))
          | (first | apply H.seq | apply H.region | apply H.nil | apply H.then_normal)
          | ((first | apply H.cmp | apply H.build); (iterate 5 exact rfl))
          | ((first | (apply H.ar; (iterate 4 exact rfl)) | (apply H.conv_int; (iterate 2 exact rfl))); (first | (apply wr_i64_s1; omega) | (apply wr_i64_n1; omega) | (apply wr_i64_nn; omega) | (apply wr_i64; omega) | (apply wr_u64; omega) | (apply wr_u8; omega) | (apply wr_u16; omega) | rfl); exact rfl)
          | (apply H.pass; (iterate 2 exact rfl))
          | (apply H.pass0; exact rfl)
          | (apply H.pickT; (iterate 4 exact rfl))
          | ((first | apply H.pickF | apply H.extract | apply H.not); (iterate 4 exact rfl))
          | ((first | apply H.ptrNil | apply H.sliceNil); (iterate 5 exact rfl))
          | (apply H.store1; (iterate 4 exact rfl); (repeat (first | exact .here _ _ _ | apply At.there)); (repeat (first | exact .here _ _ _ | apply SetV.there)))
          | (apply H.cond_true; exact rfl)
          | (apply H.cond_false; exact rfl)
          | (first | apply H.skip | apply H.ret | apply H.then_ret | apply H.then_exit | apply H.exit | apply H.block | apply H.in_normal | apply H.in_ret | apply H.in_hit | apply H.loop_ret | apply H.loop_exit)
          | (apply H.in_miss; exact rfl)
          | (apply H.gyes; (iterate 3 exact rfl); (first | assumption | omega))
          | (apply H.gno; (iterate 3 exact rfl); (first | assumption | omega))
          | (apply H.cond_yes; exact rfl; (first | assumption | omega))
          | (apply H.cond_no; exact rfl; (first | assumption | omega))
          | ((first | apply H.gtrue); (iterate 3 exact rfl); assumption)
          | (apply H.gfalse; (iterate 3 exact rfl); assumption)
          | (apply H.cond_t; exact rfl; assumption)
          | (apply H.cond_f; exact rfl; assumption))
        refine H.loadN (ls := x.vals) rfl rfl rfl (Rd.ofRow (by repeat (first | exact .here _ _ _ | apply At.there))) rfl rfl ?_
        refine H.callR rfl rfl rfl (does_fn f _ b s hw (by omega) (by omega) x hxo) ?_
        (apply H.assign; (iterate 3 exact rfl))
        apply H.nil
        apply H.then_normal
        apply H.seq
        apply H.region
        (apply H.assign; (iterate 3 exact rfl))
        apply H.nil
        apply H.then_normal
        apply H.seq
        refine H.cut (ι := Nat × Nat) (fun i => [(13, .bool (s.okS x)), (12, .bool (s.okS x)), (6, .int .i64 (k : Int)), (5, .slice (some ⟨i.1, 0, none⟩) ((s.stepS x).init.length + 1) i.2), (4, .int .u64 (s.stepS x).g), (0, .slice (some ⟨ab, off, none⟩) xs.length c), (3, .pointer (some ⟨b, 0, none⟩))]) (fun _ => f)
          (fun i => pastH b (s.stepS x) :: row xb 30 x.vals :: slc (some ⟨i.1, 0, none⟩) ((s.stepS x).init.length + 1) i.2 23 1 (viewsV (s.stepS x).all) :: F) (fun _ => True) _ (fun i _ => ?_) ?_
        · obtain ⟨eb', ec'⟩ := i
          repeat (
            first
            | ((first | apply H.move | apply H.assign | apply H.nilCheck | apply H.len_slice); (iterate 3 exact rfl))
            | (apply H.fieldAddr; (iterate 3 exact rfl); exact inferInstance; exact rfl)
            | (apply H.load1; (iterate 3 exact rfl); apply Rd1.ofRow; (repeat (first | exact .here _ _ _ | apply At.there)); (iterate 2 exact rfl))
            | (first | apply H.seq | apply H.region | apply H.nil | apply H.then_normal)
            | ((first | apply H.cmp | apply H.build); (iterate 5 exact rfl))
            | ((first | (apply H.ar; (iterate 4 exact rfl)) | (apply H.conv_int; (iterate 2 exact rfl))); (first | (apply wr_i64_s1; omega) | (apply wr_i64_n1; omega) | (apply wr_i64_nn; omega) | (apply wr_i64; omega) | (apply wr_u64; omega) | (apply wr_u8; omega) | (apply wr_u16; omega) | rfl); exact rfl)
            | (apply H.pass; (iterate 2 exact rfl))
            | (apply H.pass0; exact rfl)
            | (apply H.pickT; (iterate 4 exact rfl))
            | ((first | apply H.pickF | apply H.extract | apply H.not); (iterate 4 exact rfl))
            | ((first | apply H.ptrNil | apply H.sliceNil); (iterate 5 exact rfl))
            | (apply H.store1; (iterate 4 exact rfl); (repeat (first | exact .here _ _ _ | apply At.there)); (repeat (first | exact .here _ _ _ | apply SetV.there)))
            | (apply H.cond_true; exact rfl)
            | (apply H.cond_false; exact rfl)
            | (first | apply H.skip | apply H.ret | apply H.then_ret | apply H.then_exit | apply H.exit | apply H.block | apply H.in_normal | apply H.in_ret | apply H.in_hit | apply H.loop_ret | apply H.loop_exit)
            | (apply H.in_miss; exact rfl)
            | (apply H.gyes; (iterate 3 exact rfl); (first | assumption | omega))
            | (apply H.gno; (iterate 3 exact rfl); (first | assumption | omega))
            | (apply H.cond_yes; exact rfl; (first | assumption | omega))
            | (apply H.cond_no; exact rfl; (first | assumption | omega))
            | ((first | apply H.gtrue); (iterate 3 exact rfl); assumption)
            | (apply H.gfalse; (iterate 3 exact rfl); assumption)
            | (apply H.cond_t; exact rfl; assumption)
            | (apply H.cond_f; exact rfl; assumption))
          refine H.bne (b := false) rfl rfl rfl rfl (by simp) rfl ?_
          repeat (
            first
            | ((first | apply H.move | apply H.assign | apply H.nilCheck | apply H.len_slice); (iterate 3 exact rfl))
            | (apply H.fieldAddr; (iterate 3 exact rfl); exact inferInstance; exact rfl)
            | (apply H.load1; (iterate 3 exact rfl); apply Rd1.ofRow; (repeat (first | exact .here _ _ _ | apply At.there)); (iterate 2 exact rfl))
            | (first | apply H.seq | apply H.region | apply H.nil | apply H.then_normal)
            | ((first | apply H.cmp | apply H.build); (iterate 5 exact rfl))
            | ((first | (apply H.ar; (iterate 4 exact rfl)) | (apply H.conv_int; (iterate 2 exact rfl))); (first | (apply wr_i64_s1; omega) | (apply wr_i64_n1; omega) | (apply wr_i64_nn; omega) | (apply wr_i64; omega) | (apply wr_u64; omega) | (apply wr_u8; omega) | (apply wr_u16; omega) | rfl); exact rfl)
            | (apply H.pass; (iterate 2 exact rfl))
            | (apply H.pass0; exact rfl)
            | (apply H.pickT; (iterate 4 exact rfl))
            | ((first | apply H.pickF | apply H.extract | apply H.not); (iterate 4 exact rfl))
            | ((first | apply H.ptrNil | apply H.sliceNil); (iterate 5 exact rfl))
            | (apply H.store1; (iterate 4 exact rfl); (repeat (first | exact .here _ _ _ | apply At.there)); (repeat (first | exact .here _ _ _ | apply SetV.there)))
            | (apply H.cond_true; exact rfl)
            | (apply H.cond_false; exact rfl)
            | (first | apply H.skip | apply H.ret | apply H.then_ret | apply H.then_exit | apply H.exit | apply H.block | apply H.in_normal | apply H.in_ret | apply H.in_hit | apply H.loop_ret | apply H.loop_exit)
            | (apply H.in_miss; exact rfl)
            | (apply H.gyes; (iterate 3 exact rfl); (first | assumption | omega))
            | (apply H.gno; (iterate 3 exact rfl); (first | assumption | omega))
            | (apply H.cond_yes; exact rfl; (first | assumption | omega))
            | (apply H.cond_no; exact rfl; (first | assumption | omega))
            | ((first | apply H.gtrue); (iterate 3 exact rfl); assumption)
            | (apply H.gfalse; (iterate 3 exact rfl); assumption)
            | (apply H.cond_t; exact rfl; assumption)
            | (apply H.cond_f; exact rfl; assumption))
          refine H.callR rfl rfl rfl (greatest_fn f _ b (s.stepS x)) ?_
          repeat (
            first
            | ((first | apply H.move | apply H.assign | apply H.nilCheck | apply H.len_slice); (iterate 3 exact rfl))
            | (apply H.fieldAddr; (iterate 3 exact rfl); exact inferInstance; exact rfl)
            | (apply H.load1; (iterate 3 exact rfl); apply Rd1.ofRow; (repeat (first | exact .here _ _ _ | apply At.there)); (iterate 2 exact rfl))
            | (first | apply H.seq | apply H.region | apply H.nil | apply H.then_normal)
            | ((first | apply H.cmp | apply H.build); (iterate 5 exact rfl))
            | ((first | (apply H.ar; (iterate 4 exact rfl)) | (apply H.conv_int; (iterate 2 exact rfl))); (first | (apply wr_i64_s1; omega) | (apply wr_i64_n1; omega) | (apply wr_i64_nn; omega) | (apply wr_i64; omega) | (apply wr_u64; omega) | (apply wr_u8; omega) | (apply wr_u16; omega) | rfl); exact rfl)
            | (apply H.pass; (iterate 2 exact rfl))
            | (apply H.pass0; exact rfl)
            | (apply H.pickT; (iterate 4 exact rfl))
            | ((first | apply H.pickF | apply H.extract | apply H.not); (iterate 4 exact rfl))
            | ((first | apply H.ptrNil | apply H.sliceNil); (iterate 5 exact rfl))
            | (apply H.store1; (iterate 4 exact rfl); (repeat (first | exact .here _ _ _ | apply At.there)); (repeat (first | exact .here _ _ _ | apply SetV.there)))
            | (apply H.cond_true; exact rfl)
            | (apply H.cond_false; exact rfl)
            | (first | apply H.skip | apply H.ret | apply H.then_ret | apply H.then_exit | apply H.exit | apply H.block | apply H.in_normal | apply H.in_ret | apply H.in_hit | apply H.loop_ret | apply H.loop_exit)
            | (apply H.in_miss; exact rfl)
            | (apply H.gyes; (iterate 3 exact rfl); (first | assumption | omega))
            | (apply H.gno; (iterate 3 exact rfl); (first | assumption | omega))
            | (apply H.cond_yes; exact rfl; (first | assumption | omega))
            | (apply H.cond_no; exact rfl; (first | assumption | omega))
            | ((first | apply H.gtrue); (iterate 3 exact rfl); assumption)
            | (apply H.gfalse; (iterate 3 exact rfl); assumption)
            | (apply H.cond_t; exact rfl; assumption)
            | (apply H.cond_f; exact rfl; assumption))
          refine H.drop (.there _ (.here _ _)) ?_
          refine H.front (.there _ (.here _ _)) ?_
          exact H.again (k + 1, s.stepS x, eb', ec') ⟨by omega, hw', hn'⟩ (by show xs.length - (k + 1) < xs.length - k; omega) ⟨rfl, rfl, rfl, rfl, rfl, trivial⟩ rfl rfl
        · have hd := hxo.d
          have hkb := hxo.k
          have hlb := hxo.l
          have hla := hw.last
          have hr : x.d.tmod 4 = x.d % 4 := Int.tmod_eq_emod_of_nonneg hd.1
          clear hn' hw' hw
          repeat (
            first
            | ((first | apply H.move | apply H.assign | apply H.nilCheck | apply H.len_slice); (iterate 3 exact rfl))
            | (apply H.fieldAddr; (iterate 3 exact rfl); exact inferInstance; exact rfl)
            | (apply H.load1; (iterate 3 exact rfl); apply Rd1.ofRow; (repeat (first | exact .here _ _ _ | apply At.there)); (iterate 2 exact rfl))
            | (first | apply H.seq | apply H.region | apply H.nil | apply H.then_normal)
            | ((first | apply H.cmp | apply H.build); (iterate 5 exact rfl))
            | ((first | (apply H.ar; (iterate 4 exact rfl)) | (apply H.conv_int; (iterate 2 exact rfl))); (first | (apply wr_i64_s1; omega) | (apply wr_i64_n1; omega) | (apply wr_i64_nn; omega) | (apply wr_i64; omega) | (apply wr_u64; omega) | (apply wr_u8; omega) | (apply wr_u16; omega) | rfl); exact rfl)
            | (apply H.pass; (iterate 2 exact rfl))
            | (apply H.pass0; exact rfl)
            | (apply H.pickT; (iterate 4 exact rfl))
            | ((first | apply H.pickF | apply H.extract | apply H.not); (iterate 4 exact rfl))
            | ((first | apply H.ptrNil | apply H.sliceNil); (iterate 5 exact rfl))
            | (apply H.store1; (iterate 4 exact rfl); (repeat (first | exact .here _ _ _ | apply At.there)); (repeat (first | exact .here _ _ _ | apply SetV.there)))
            | (apply H.cond_true; exact rfl)
            | (apply H.cond_false; exact rfl)
            | (first | apply H.skip | apply H.ret | apply H.then_ret | apply H.then_exit | apply H.exit | apply H.block | apply H.in_normal | apply H.in_ret | apply H.in_hit | apply H.loop_ret | apply H.loop_exit)
            | (apply H.in_miss; exact rfl)
            | (apply H.gyes; (iterate 3 exact rfl); (first | assumption | omega))
            | (apply H.gno; (iterate 3 exact rfl); (first | assumption | omega))
            | (apply H.cond_yes; exact rfl; (first | assumption | omega))
            | (apply H.cond_no; exact rfl; (first | assumption | omega))
            | ((first | apply H.gtrue); (iterate 3 exact rfl); assumption)
            | (apply H.gfalse; (iterate 3 exact rfl); assumption)
            | (apply H.cond_t; exact rfl; assumption)
            | (apply H.cond_f; exact rfl; assumption))
          refine H.rem rfl rfl rfl (by decide) hr rfl ?_
          clear hr
          by_cases hd0 : x.d % 4 = 0
          · skip
            by_cases h1 : s.g < x.v
            · skip
              by_cases h2 : x.v < 1073741824
              · skip
                have ok : s.changeOk x.v = true := by simp only [PM.changeOk, decide_eq_true_eq]; omega
                have e1 : s.okS x = true := by rw [PM.okS, if_pos hd0, ok]
                have e2 : s.stepS x = { s with g := x.v } := by rw [PM.stepS, if_pos hd0, PM.change, if_pos ok]
                rw [e1, e2]
                repeat (
                  first
                  | ((first | apply H.move | apply H.assign | apply H.nilCheck | apply H.len_slice); (iterate 3 exact rfl))
                  | (apply H.fieldAddr; (iterate 3 exact rfl); exact inferInstance; exact rfl)
                  | (apply H.load1; (iterate 3 exact rfl); apply Rd1.ofRow; (repeat (first | exact .here _ _ _ | apply At.there)); (iterate 2 exact rfl))
                  | (first | apply H.seq | apply H.region | apply H.nil | apply H.then_normal)
                  | ((first | apply H.cmp | apply H.build); (iterate 5 exact rfl))
                  | ((first | (apply H.ar; (iterate 4 exact rfl)) | (apply H.conv_int; (iterate 2 exact rfl))); (first | (apply wr_i64_s1; omega) | (apply wr_i64_n1; omega) | (apply wr_i64_nn; omega) | (apply wr_i64; omega) | (apply wr_u64; omega) | (apply wr_u8; omega) | (apply wr_u16; omega) | rfl); exact rfl)
                  | (apply H.pass; (iterate 2 exact rfl))
                  | (apply H.pass0; exact rfl)
                  | (apply H.pickT; (iterate 4 exact rfl))
                  | ((first | apply H.pickF | apply H.extract | apply H.not); (iterate 4 exact rfl))
                  | ((first | apply H.ptrNil | apply H.sliceNil); (iterate 5 exact rfl))
                  | (apply H.store1; (iterate 4 exact rfl); (repeat (first | exact .here _ _ _ | apply At.there)); (repeat (first | exact .here _ _ _ | apply SetV.there)))
                  | (apply H.cond_true; exact rfl)
                  | (apply H.cond_false; exact rfl)
                  | (first | apply H.skip | apply H.ret | apply H.then_ret | apply H.then_exit | apply H.exit | apply H.block | apply H.in_normal | apply H.in_ret | apply H.in_hit | apply H.loop_ret | apply H.loop_exit)
                  | (apply H.in_miss; exact rfl)
                  | (apply H.gyes; (iterate 3 exact rfl); (first | assumption | omega))
                  | (apply H.gno; (iterate 3 exact rfl); (first | assumption | omega))
                  | (apply H.cond_yes; exact rfl; (first | assumption | omega))
                  | (apply H.cond_no; exact rfl; (first | assumption | omega))
                  | ((first | apply H.gtrue); (iterate 3 exact rfl); assumption)
                  | (apply H.gfalse; (iterate 3 exact rfl); assumption)
                  | (apply H.cond_t; exact rfl; assumption)
                  | (apply H.cond_f; exact rfl; assumption))
                refine H.know (d := 13) (u := .bool true) rfl (by first | rfl | rw [decide_eq_true (by omega)] | rw [decide_eq_false (by omega)]) ?_
                exact H.meet (eb, ec) trivial ⟨rfl, rfl, rfl, rfl, rfl, rfl, rfl, trivial⟩ rfl rfl
              · skip
                have e1 : s.okS x = false := by
                  unfold PM.okS PM.changeOk PM.enterOk PM.isOpen PM.commitOk
                  repeat' split
                  all_goals first | omega | (rw [decide_eq_false_iff_not]; omega)
                rw [e1, PM.stepS_no e1]
                repeat (
                  first
                  | ((first | apply H.move | apply H.assign | apply H.nilCheck | apply H.len_slice); (iterate 3 exact rfl))
                  | (apply H.fieldAddr; (iterate 3 exact rfl); exact inferInstance; exact rfl)
                  | (apply H.load1; (iterate 3 exact rfl); apply Rd1.ofRow; (repeat (first | exact .here _ _ _ | apply At.there)); (iterate 2 exact rfl))
                  | (first | apply H.seq | apply H.region | apply H.nil | apply H.then_normal)
                  | ((first | apply H.cmp | apply H.build); (iterate 5 exact rfl))
                  | ((first | (apply H.ar; (iterate 4 exact rfl)) | (apply H.conv_int; (iterate 2 exact rfl))); (first | (apply wr_i64_s1; omega) | (apply wr_i64_n1; omega) | (apply wr_i64_nn; omega) | (apply wr_i64; omega) | (apply wr_u64; omega) | (apply wr_u8; omega) | (apply wr_u16; omega) | rfl); exact rfl)
                  | (apply H.pass; (iterate 2 exact rfl))
                  | (apply H.pass0; exact rfl)
                  | (apply H.pickT; (iterate 4 exact rfl))
                  | ((first | apply H.pickF | apply H.extract | apply H.not); (iterate 4 exact rfl))
                  | ((first | apply H.ptrNil | apply H.sliceNil); (iterate 5 exact rfl))
                  | (apply H.store1; (iterate 4 exact rfl); (repeat (first | exact .here _ _ _ | apply At.there)); (repeat (first | exact .here _ _ _ | apply SetV.there)))
                  | (apply H.cond_true; exact rfl)
                  | (apply H.cond_false; exact rfl)
                  | (first | apply H.skip | apply H.ret | apply H.then_ret | apply H.then_exit | apply H.exit | apply H.block | apply H.in_normal | apply H.in_ret | apply H.in_hit | apply H.loop_ret | apply H.loop_exit)
                  | (apply H.in_miss; exact rfl)
                  | (apply H.gyes; (iterate 3 exact rfl); (first | assumption | omega))
                  | (apply H.gno; (iterate 3 exact rfl); (first | assumption | omega))
                  | (apply H.cond_yes; exact rfl; (first | assumption | omega))
                  | (apply H.cond_no; exact rfl; (first | assumption | omega))
                  | ((first | apply H.gtrue); (iterate 3 exact rfl); assumption)
                  | (apply H.gfalse; (iterate 3 exact rfl); assumption)
                  | (apply H.cond_t; exact rfl; assumption)
                  | (apply H.cond_f; exact rfl; assumption))
                refine H.know (d := 13) (u := .bool false) rfl (by first | rfl | rw [decide_eq_true (by omega)] | rw [decide_eq_false (by omega)]) ?_
                exact H.meet (eb, ec) trivial ⟨rfl, rfl, rfl, rfl, rfl, rfl, rfl, trivial⟩ rfl rfl
            · skip
              have e1 : s.okS x = false := by
                unfold PM.okS PM.changeOk PM.enterOk PM.isOpen PM.commitOk
                repeat' split
                all_goals first | omega | (rw [decide_eq_false_iff_not]; omega)
              rw [e1, PM.stepS_no e1]
              repeat (
                first
                | ((first | apply H.move | apply H.assign | apply H.nilCheck | apply H.len_slice); (iterate 3 exact rfl))
                | (apply H.fieldAddr; (iterate 3 exact rfl); exact inferInstance; exact rfl)
                | (apply H.load1; (iterate 3 exact rfl); apply Rd1.ofRow; (repeat (first | exact .here _ _ _ | apply At.there)); (iterate 2 exact rfl))
                | (first | apply H.seq | apply H.region | apply H.nil | apply H.then_normal)
                | ((first | apply H.cmp | apply H.build); (iterate 5 exact rfl))
                | ((first | (apply H.ar; (iterate 4 exact rfl)) | (apply H.conv_int; (iterate 2 exact rfl))); (first | (apply wr_i64_s1; omega) | (apply wr_i64_n1; omega) | (apply wr_i64_nn; omega) | (apply wr_i64; omega) | (apply wr_u64; omega) | (apply wr_u8; omega) | (apply wr_u16; omega) | rfl); exact rfl)
                | (apply H.pass; (iterate 2 exact rfl))
                | (apply H.pass0; exact rfl)
                | (apply H.pickT; (iterate 4 exact rfl))
                | ((first | apply H.pickF | apply H.extract | apply H.not); (iterate 4 exact rfl))
                | ((first | apply H.ptrNil | apply H.sliceNil); (iterate 5 exact rfl))
                | (apply H.store1; (iterate 4 exact rfl); (repeat (first | exact .here _ _ _ | apply At.there)); (repeat (first | exact .here _ _ _ | apply SetV.there)))
                | (apply H.cond_true; exact rfl)
                | (apply H.cond_false; exact rfl)
                | (first | apply H.skip | apply H.ret | apply H.then_ret | apply H.then_exit | apply H.exit | apply H.block | apply H.in_normal | apply H.in_ret | apply H.in_hit | apply H.loop_ret | apply H.loop_exit)
                | (apply H.in_miss; exact rfl)
                | (apply H.gyes; (iterate 3 exact rfl); (first | assumption | omega))
                | (apply H.gno; (iterate 3 exact rfl); (first | assumption | omega))
                | (apply H.cond_yes; exact rfl; (first | assumption | omega))
                | (apply H.cond_no; exact rfl; (first | assumption | omega))
                | ((first | apply H.gtrue); (iterate 3 exact rfl); assumption)
                | (apply H.gfalse; (iterate 3 exact rfl); assumption)
                | (apply H.cond_t; exact rfl; assumption)
                | (apply H.cond_f; exact rfl; assumption))
              refine H.know (d := 13) (u := .bool false) rfl (by first | rfl | rw [decide_eq_true (by omega)] | rw [decide_eq_false (by omega)]) ?_
              exact H.meet (eb, ec) trivial ⟨rfl, rfl, rfl, rfl, rfl, rfl, rfl, trivial⟩ rfl rfl
          · by_cases hd1 : x.d % 4 = 1
            · skip
              by_cases h1 : s.lv < x.v
              · skip
                by_cases h2 : s.g ≤ x.v
                · skip
                  by_cases h3 : x.v < 1073741824
                  · skip
                    by_cases h4 : 0 ≤ x.l
                    · skip
                      have ok : s.enterOk x.v x.l = true := by simp only [PM.enterOk, decide_eq_true_eq]; omega
                      have e1 : s.okS x = true := by rw [PM.okS, if_neg hd0, if_pos hd1, ok]
                      have e2 : s.stepS x = ⟨x.v, s.all, x.v, x.l⟩ := by rw [PM.stepS, if_neg hd0, if_pos hd1, PM.enter, if_pos ok]
                      have hlen : (s.stepS x).init.length = s.init.length + 1 := by rw [e2]; exact all_len s
                      have hvw : viewsV (s.stepS x).all = viewsV s.all ++ [.int .u64 x.v] := by rw [e2]; simp [viewsV, PM.all]
                      have hg : (s.stepS x).g = x.v := by rw [e2]
                      rw [e1, hlen, hvw, hg]
                      repeat (
                        first
                        | ((first | apply H.move | apply H.assign | apply H.nilCheck | apply H.len_slice); (iterate 3 exact rfl))
                        | (apply H.fieldAddr; (iterate 3 exact rfl); exact inferInstance; exact rfl)
                        | (apply H.load1; (iterate 3 exact rfl); apply Rd1.ofRow; (repeat (first | exact .here _ _ _ | apply At.there)); (iterate 2 exact rfl))
                        | (first | apply H.seq | apply H.region | apply H.nil | apply H.then_normal)
                        | ((first | apply H.cmp | apply H.build); (iterate 5 exact rfl))
                        | ((first | (apply H.ar; (iterate 4 exact rfl)) | (apply H.conv_int; (iterate 2 exact rfl))); (first | (apply wr_i64_s1; omega) | (apply wr_i64_n1; omega) | (apply wr_i64_nn; omega) | (apply wr_i64; omega) | (apply wr_u64; omega) | (apply wr_u8; omega) | (apply wr_u16; omega) | rfl); exact rfl)
                        | (apply H.pass; (iterate 2 exact rfl))
                        | (apply H.pass0; exact rfl)
                        | (apply H.pickT; (iterate 4 exact rfl))
                        | ((first | apply H.pickF | apply H.extract | apply H.not); (iterate 4 exact rfl))
                        | ((first | apply H.ptrNil | apply H.sliceNil); (iterate 5 exact rfl))
                        | (apply H.store1; (iterate 4 exact rfl); (repeat (first | exact .here _ _ _ | apply At.there)); (repeat (first | exact .here _ _ _ | apply SetV.there)))
                        | (apply H.cond_true; exact rfl)
                        | (apply H.cond_false; exact rfl)
                        | (first | apply H.skip | apply H.ret | apply H.then_ret | apply H.then_exit | apply H.exit | apply H.block | apply H.in_normal | apply H.in_ret | apply H.in_hit | apply H.loop_ret | apply H.loop_exit)
                        | (apply H.in_miss; exact rfl)
                        | (apply H.gyes; (iterate 3 exact rfl); (first | assumption | omega))
                        | (apply H.gno; (iterate 3 exact rfl); (first | assumption | omega))
                        | (apply H.cond_yes; exact rfl; (first | assumption | omega))
                        | (apply H.cond_no; exact rfl; (first | assumption | omega))
                        | ((first | apply H.gtrue); (iterate 3 exact rfl); assumption)
                        | (apply H.gfalse; (iterate 3 exact rfl); assumption)
                        | (apply H.cond_t; exact rfl; assumption)
                        | (apply H.cond_f; exact rfl; assumption))
                      refine H.buildSlice rfl rfl rfl rfl (by decide) (by decide) rfl rfl fun tb => ?_
                      refine H.append (m := 1) rfl rfl rfl rfl rfl (fun p' c' => (by repeat (first | exact .here _ _ _ | apply At.there))) (Src.slice (Rd.ofRow (by repeat (first | exact .here _ _ _ | apply At.there))) rfl) (allOne_mem rfl) rfl (by omega) (by omega) fun p' c' => ?_
                      refine H.slc_some (by repeat (first | exact .here _ _ _ | apply At.there)) (by omega) fun eb' hp => ?_
                      subst hp
                      repeat (
                        first
                        | ((first | apply H.move | apply H.assign | apply H.nilCheck | apply H.len_slice); (iterate 3 exact rfl))
                        | (apply H.fieldAddr; (iterate 3 exact rfl); exact inferInstance; exact rfl)
                        | (apply H.load1; (iterate 3 exact rfl); apply Rd1.ofRow; (repeat (first | exact .here _ _ _ | apply At.there)); (iterate 2 exact rfl))
                        | (first | apply H.seq | apply H.region | apply H.nil | apply H.then_normal)
                        | ((first | apply H.cmp | apply H.build); (iterate 5 exact rfl))
                        | ((first | (apply H.ar; (iterate 4 exact rfl)) | (apply H.conv_int; (iterate 2 exact rfl))); (first | (apply wr_i64_s1; omega) | (apply wr_i64_n1; omega) | (apply wr_i64_nn; omega) | (apply wr_i64; omega) | (apply wr_u64; omega) | (apply wr_u8; omega) | (apply wr_u16; omega) | rfl); exact rfl)
                        | (apply H.pass; (iterate 2 exact rfl))
                        | (apply H.pass0; exact rfl)
                        | (apply H.pickT; (iterate 4 exact rfl))
                        | ((first | apply H.pickF | apply H.extract | apply H.not); (iterate 4 exact rfl))
                        | ((first | apply H.ptrNil | apply H.sliceNil); (iterate 5 exact rfl))
                        | (apply H.store1; (iterate 4 exact rfl); (repeat (first | exact .here _ _ _ | apply At.there)); (repeat (first | exact .here _ _ _ | apply SetV.there)))
                        | (apply H.cond_true; exact rfl)
                        | (apply H.cond_false; exact rfl)
                        | (first | apply H.skip | apply H.ret | apply H.then_ret | apply H.then_exit | apply H.exit | apply H.block | apply H.in_normal | apply H.in_ret | apply H.in_hit | apply H.loop_ret | apply H.loop_exit)
                        | (apply H.in_miss; exact rfl)
                        | (apply H.gyes; (iterate 3 exact rfl); (first | assumption | omega))
                        | (apply H.gno; (iterate 3 exact rfl); (first | assumption | omega))
                        | (apply H.cond_yes; exact rfl; (first | assumption | omega))
                        | (apply H.cond_no; exact rfl; (first | assumption | omega))
                        | ((first | apply H.gtrue); (iterate 3 exact rfl); assumption)
                        | (apply H.gfalse; (iterate 3 exact rfl); assumption)
                        | (apply H.cond_t; exact rfl; assumption)
                        | (apply H.cond_f; exact rfl; assumption))
                      refine H.drop (.here _ _) ?_
                      refine H.know (d := 13) (u := .bool true) rfl (by first | rfl | rw [decide_eq_true (by omega)]) ?_
                      exact H.meet (eb', c') trivial ⟨rfl, rfl, rfl, rfl, rfl, rfl, rfl, trivial⟩ rfl rfl
                    · skip
                      have e1 : s.okS x = false := by
                        unfold PM.okS PM.changeOk PM.enterOk PM.isOpen PM.commitOk
                        repeat' split
                        all_goals first | omega | (rw [decide_eq_false_iff_not]; omega)
                      rw [e1, PM.stepS_no e1]
                      repeat (
                        first
                        | ((first | apply H.move | apply H.assign | apply H.nilCheck | apply H.len_slice); (iterate 3 exact rfl))
                        | (apply H.fieldAddr; (iterate 3 exact rfl); exact inferInstance; exact rfl)
                        | (apply H.load1; (iterate 3 exact rfl); apply Rd1.ofRow; (repeat (first | exact .here _ _ _ | apply At.there)); (iterate 2 exact rfl))
                        | (first | apply H.seq | apply H.region | apply H.nil | apply H.then_normal)
                        | ((first | apply H.cmp | apply H.build); (iterate 5 exact rfl))
                        | ((first | (apply H.ar; (iterate 4 exact rfl)) | (apply H.conv_int; (iterate 2 exact rfl))); (first | (apply wr_i64_s1; omega) | (apply wr_i64_n1; omega) | (apply wr_i64_nn; omega) | (apply wr_i64; omega) | (apply wr_u64; omega) | (apply wr_u8; omega) | (apply wr_u16; omega) | rfl); exact rfl)
                        | (apply H.pass; (iterate 2 exact rfl))
                        | (apply H.pass0; exact rfl)
                        | (apply H.pickT; (iterate 4 exact rfl))
                        | ((first | apply H.pickF | apply H.extract | apply H.not); (iterate 4 exact rfl))
                        | ((first | apply H.ptrNil | apply H.sliceNil); (iterate 5 exact rfl))
                        | (apply H.store1; (iterate 4 exact rfl); (repeat (first | exact .here _ _ _ | apply At.there)); (repeat (first | exact .here _ _ _ | apply SetV.there)))
                        | (apply H.cond_true; exact rfl)
                        | (apply H.cond_false; exact rfl)
                        | (first | apply H.skip | apply H.ret | apply H.then_ret | apply H.then_exit | apply H.exit | apply H.block | apply H.in_normal | apply H.in_ret | apply H.in_hit | apply H.loop_ret | apply H.loop_exit)
                        | (apply H.in_miss; exact rfl)
                        | (apply H.gyes; (iterate 3 exact rfl); (first | assumption | omega))
                        | (apply H.gno; (iterate 3 exact rfl); (first | assumption | omega))
                        | (apply H.cond_yes; exact rfl; (first | assumption | omega))
                        | (apply H.cond_no; exact rfl; (first | assumption | omega))
                        | ((first | apply H.gtrue); (iterate 3 exact rfl); assumption)
                        | (apply H.gfalse; (iterate 3 exact rfl); assumption)
                        | (apply H.cond_t; exact rfl; assumption)
                        | (apply H.cond_f; exact rfl; assumption))
                      refine H.know (d := 13) (u := .bool false) rfl (by first | rfl | rw [decide_eq_true (by omega)] | rw [decide_eq_false (by omega)]) ?_
                      exact H.meet (eb, ec) trivial ⟨rfl, rfl, rfl, rfl, rfl, rfl, rfl, trivial⟩ rfl rfl
                  · skip
                    have e1 : s.okS x = false := by
                      unfold PM.okS PM.changeOk PM.enterOk PM.isOpen PM.commitOk
                      repeat' split
                      all_goals first | omega | (rw [decide_eq_false_iff_not]; omega)
                    rw [e1, PM.stepS_no e1]
                    repeat (
                      first
                      | ((first | apply H.move | apply H.assign | apply H.nilCheck | apply H.len_slice); (iterate 3 exact rfl))
                      | (apply H.fieldAddr; (iterate 3 exact rfl); exact inferInstance; exact rfl)
                      | (apply H.load1; (iterate 3 exact rfl); apply Rd1.ofRow; (repeat (first | exact .here _ _ _ | apply At.there)); (iterate 2 exact rfl))
                      | (first | apply H.seq | apply H.region | apply H.nil | apply H.then_normal)
                      | ((first | apply H.cmp | apply H.build); (iterate 5 exact rfl))
                      | ((first | (apply H.ar; (iterate 4 exact rfl)) | (apply H.conv_int; (iterate 2 exact rfl))); (first | (apply wr_i64_s1; omega) | (apply wr_i64_n1; omega) | (apply wr_i64_nn; omega) | (apply wr_i64; omega) | (apply wr_u64; omega) | (apply wr_u8; omega) | (apply wr_u16; omega) | rfl); exact rfl)
                      | (apply H.pass; (iterate 2 exact rfl))
                      | (apply H.pass0; exact rfl)
                      | (apply H.pickT; (iterate 4 exact rfl))
                      | ((first | apply H.pickF | apply H.extract | apply H.not); (iterate 4 exact rfl))
                      | ((first | apply H.ptrNil | apply H.sliceNil); (iterate 5 exact rfl))
                      | (apply H.store1; (iterate 4 exact rfl); (repeat (first | exact .here _ _ _ | apply At.there)); (repeat (first | exact .here _ _ _ | apply SetV.there)))
                      | (apply H.cond_true; exact rfl)
                      | (apply H.cond_false; exact rfl)
                      | (first | apply H.skip | apply H.ret | apply H.then_ret | apply H.then_exit | apply H.exit | apply H.block | apply H.in_normal | apply H.in_ret | apply H.in_hit | apply H.loop_ret | apply H.loop_exit)
                      | (apply H.in_miss; exact rfl)
                      | (apply H.gyes; (iterate 3 exact rfl); (first | assumption | omega))
                      | (apply H.gno; (iterate 3 exact rfl); (first | assumption | omega))
                      | (apply H.cond_yes; exact rfl; (first | assumption | omega))
                      | (apply H.cond_no; exact rfl; (first | assumption | omega))
                      | ((first | apply H.gtrue); (iterate 3 exact rfl); assumption)
                      | (apply H.gfalse; (iterate 3 exact rfl); assumption)
                      | (apply H.cond_t; exact rfl; assumption)
                      | (apply H.cond_f; exact rfl; assumption))
                    refine H.know (d := 13) (u := .bool false) rfl (by first | rfl | rw [decide_eq_true (by omega)] | rw [decide_eq_false (by omega)]) ?_
                    exact H.meet (eb, ec) trivial ⟨rfl, rfl, rfl, rfl, rfl, rfl, rfl, trivial⟩ rfl rfl
                · skip
                  have e1 : s.okS x = false := by
                    unfold PM.okS PM.changeOk PM.enterOk PM.isOpen PM.commitOk
                    repeat' split
                    all_goals first | omega | (rw [decide_eq_false_iff_not]; omega)
                  rw [e1, PM.stepS_no e1]
                  repeat (
                    first
                    | ((first | apply H.move | apply H.assign | apply H.nilCheck | apply H.len_slice); (iterate 3 exact rfl))
                    | (apply H.fieldAddr; (iterate 3 exact rfl); exact inferInstance; exact rfl)
                    | (apply H.load1; (iterate 3 exact rfl); apply Rd1.ofRow; (repeat (first | exact .here _ _ _ | apply At.there)); (iterate 2 exact rfl))
                    | (first | apply H.seq | apply H.region | apply H.nil | apply H.then_normal)
                    | ((first | apply H.cmp | apply H.build); (iterate 5 exact rfl))
                    | ((first | (apply H.ar; (iterate 4 exact rfl)) | (apply H.conv_int; (iterate 2 exact rfl))); (first | (apply wr_i64_s1; omega) | (apply wr_i64_n1; omega) | (apply wr_i64_nn; omega) | (apply wr_i64; omega) | (apply wr_u64; omega) | (apply wr_u8; omega) | (apply wr_u16; omega) | rfl); exact rfl)
                    | (apply H.pass; (iterate 2 exact rfl))
                    | (apply H.pass0; exact rfl)
                    | (apply H.pickT; (iterate 4 exact rfl))
                    | ((first | apply H.pickF | apply H.extract | apply H.not); (iterate 4 exact rfl))
                    | ((first | apply H.ptrNil | apply H.sliceNil); (iterate 5 exact rfl))
                    | (apply H.store1; (iterate 4 exact rfl); (repeat (first | exact .here _ _ _ | apply At.there)); (repeat (first | exact .here _ _ _ | apply SetV.there)))
                    | (apply H.cond_true; exact rfl)
                    | (apply H.cond_false; exact rfl)
                    | (first | apply H.skip | apply H.ret | apply H.then_ret | apply H.then_exit | apply H.exit | apply H.block | apply H.in_normal | apply H.in_ret | apply H.in_hit | apply H.loop_ret | apply H.loop_exit)
                    | (apply H.in_miss; exact rfl)
                    | (apply H.gyes; (iterate 3 exact rfl); (first | assumption | omega))
                    | (apply H.gno; (iterate 3 exact rfl); (first | assumption | omega))
                    | (apply H.cond_yes; exact rfl; (first | assumption | omega))
                    | (apply H.cond_no; exact rfl; (first | assumption | omega))
                    | ((first | apply H.gtrue); (iterate 3 exact rfl); assumption)
                    | (apply H.gfalse; (iterate 3 exact rfl); assumption)
                    | (apply H.cond_t; exact rfl; assumption)
                    | (apply H.cond_f; exact rfl; assumption))
                  refine H.know (d := 13) (u := .bool false) rfl (by first | rfl | rw [decide_eq_true (by omega)] | rw [decide_eq_false (by omega)]) ?_
                  exact H.meet (eb, ec) trivial ⟨rfl, rfl, rfl, rfl, rfl, rfl, rfl, trivial⟩ rfl rfl
              · skip
                have e1 : s.okS x = false := by
                  unfold PM.okS PM.changeOk PM.enterOk PM.isOpen PM.commitOk
                  repeat' split
                  all_goals first | omega | (rw [decide_eq_false_iff_not]; omega)
                rw [e1, PM.stepS_no e1]
                repeat (
                  first
                  | ((first | apply H.move | apply H.assign | apply H.nilCheck | apply H.len_slice); (iterate 3 exact rfl))
                  | (apply H.fieldAddr; (iterate 3 exact rfl); exact inferInstance; exact rfl)
                  | (apply H.load1; (iterate 3 exact rfl); apply Rd1.ofRow; (repeat (first | exact .here _ _ _ | apply At.there)); (iterate 2 exact rfl))
                  | (first | apply H.seq | apply H.region | apply H.nil | apply H.then_normal)
                  | ((first | apply H.cmp | apply H.build); (iterate 5 exact rfl))
                  | ((first | (apply H.ar; (iterate 4 exact rfl)) | (apply H.conv_int; (iterate 2 exact rfl))); (first | (apply wr_i64_s1; omega) | (apply wr_i64_n1; omega) | (apply wr_i64_nn; omega) | (apply wr_i64; omega) | (apply wr_u64; omega) | (apply wr_u8; omega) | (apply wr_u16; omega) | rfl); exact rfl)
                  | (apply H.pass; (iterate 2 exact rfl))
                  | (apply H.pass0; exact rfl)
                  | (apply H.pickT; (iterate 4 exact rfl))
                  | ((first | apply H.pickF | apply H.extract | apply H.not); (iterate 4 exact rfl))
                  | ((first | apply H.ptrNil | apply H.sliceNil); (iterate 5 exact rfl))
                  | (apply H.store1; (iterate 4 exact rfl); (repeat (first | exact .here _ _ _ | apply At.there)); (repeat (first | exact .here _ _ _ | apply SetV.there)))
                  | (apply H.cond_true; exact rfl)
                  | (apply H.cond_false; exact rfl)
                  | (first | apply H.skip | apply H.ret | apply H.then_ret | apply H.then_exit | apply H.exit | apply H.block | apply H.in_normal | apply H.in_ret | apply H.in_hit | apply H.loop_ret | apply H.loop_exit)
                  | (apply H.in_miss; exact rfl)
                  | (apply H.gyes; (iterate 3 exact rfl); (first | assumption | omega))
                  | (apply H.gno; (iterate 3 exact rfl); (first | assumption | omega))
                  | (apply H.cond_yes; exact rfl; (first | assumption | omega))
                  | (apply H.cond_no; exact rfl; (first | assumption | omega))
                  | ((first | apply H.gtrue); (iterate 3 exact rfl); assumption)
                  | (apply H.gfalse; (iterate 3 exact rfl); assumption)
                  | (apply H.cond_t; exact rfl; assumption)
                  | (apply H.cond_f; exact rfl; assumption))
                refine H.know (d := 13) (u := .bool false) rfl (by first | rfl | rw [decide_eq_true (by omega)] | rw [decide_eq_false (by omega)]) ?_
                exact H.meet (eb, ec) trivial ⟨rfl, rfl, rfl, rfl, rfl, rfl, rfl, trivial⟩ rfl rfl
            · by_cases hd2 : x.d % 4 = 2
              · skip
                by_cases h1 : s.lv = s.g
                · skip
                  by_cases h2 : x.v = s.lv
                  · skip
                    have ok : s.isOpen x.v = true := by simp only [PM.isOpen, decide_eq_true_eq]; omega
                    have e1 : s.okS x = true := by rw [PM.okS, if_neg hd0, if_neg hd1, if_pos hd2, ok]
                    have e2 : s.stepS x = { s with ln := s.ln + 1 } := by rw [PM.stepS, if_neg hd0, if_neg hd1, if_pos hd2, PM.prepare, if_pos ok]
                    have hvw : viewsV ({ s with ln := s.ln + 1 } : PM).all = viewsV s.all := by simp [viewsV, PM.all]
                    rw [e1, e2, hvw]
                    repeat (
                      first
                      | ((first | apply H.move | apply H.assign | apply H.nilCheck | apply H.len_slice); (iterate 3 exact rfl))
                      | (apply H.fieldAddr; (iterate 3 exact rfl); exact inferInstance; exact rfl)
                      | (apply H.load1; (iterate 3 exact rfl); apply Rd1.ofRow; (repeat (first | exact .here _ _ _ | apply At.there)); (iterate 2 exact rfl))
                      | (first | apply H.seq | apply H.region | apply H.nil | apply H.then_normal)
                      | ((first | apply H.cmp | apply H.build); (iterate 5 exact rfl))
                      | ((first | (apply H.ar; (iterate 4 exact rfl)) | (apply H.conv_int; (iterate 2 exact rfl))); (first | (apply wr_i64_s1; omega) | (apply wr_i64_n1; omega) | (apply wr_i64_nn; omega) | (apply wr_i64; omega) | (apply wr_u64; omega) | (apply wr_u8; omega) | (apply wr_u16; omega) | rfl); exact rfl)
                      | (apply H.pass; (iterate 2 exact rfl))
                      | (apply H.pass0; exact rfl)
                      | (apply H.pickT; (iterate 4 exact rfl))
                      | ((first | apply H.pickF | apply H.extract | apply H.not); (iterate 4 exact rfl))
                      | ((first | apply H.ptrNil | apply H.sliceNil); (iterate 5 exact rfl))
                      | (apply H.store1; (iterate 4 exact rfl); (repeat (first | exact .here _ _ _ | apply At.there)); (repeat (first | exact .here _ _ _ | apply SetV.there)))
                      | (apply H.cond_true; exact rfl)
                      | (apply H.cond_false; exact rfl)
                      | (first | apply H.skip | apply H.ret | apply H.then_ret | apply H.then_exit | apply H.exit | apply H.block | apply H.in_normal | apply H.in_ret | apply H.in_hit | apply H.loop_ret | apply H.loop_exit)
                      | (apply H.in_miss; exact rfl)
                      | (apply H.gyes; (iterate 3 exact rfl); (first | assumption | omega))
                      | (apply H.gno; (iterate 3 exact rfl); (first | assumption | omega))
                      | (apply H.cond_yes; exact rfl; (first | assumption | omega))
                      | (apply H.cond_no; exact rfl; (first | assumption | omega))
                      | ((first | apply H.gtrue); (iterate 3 exact rfl); assumption)
                      | (apply H.gfalse; (iterate 3 exact rfl); assumption)
                      | (apply H.cond_t; exact rfl; assumption)
                      | (apply H.cond_f; exact rfl; assumption))
                    refine H.know (d := 13) (u := .bool true) rfl (by first | rfl | rw [decide_eq_true (by omega)] | rw [decide_eq_false (by omega)]) ?_
                    exact H.meet (eb, ec) trivial ⟨rfl, rfl, rfl, rfl, rfl, rfl, rfl, trivial⟩ rfl rfl
                  · skip
                    have e1 : s.okS x = false := by
                      unfold PM.okS PM.changeOk PM.enterOk PM.isOpen PM.commitOk
                      repeat' split
                      all_goals first | omega | (rw [decide_eq_false_iff_not]; omega)
                    rw [e1, PM.stepS_no e1]
                    repeat (
                      first
                      | ((first | apply H.move | apply H.assign | apply H.nilCheck | apply H.len_slice); (iterate 3 exact rfl))
                      | (apply H.fieldAddr; (iterate 3 exact rfl); exact inferInstance; exact rfl)
                      | (apply H.load1; (iterate 3 exact rfl); apply Rd1.ofRow; (repeat (first | exact .here _ _ _ | apply At.there)); (iterate 2 exact rfl))
                      | (first | apply H.seq | apply H.region | apply H.nil | apply H.then_normal)
                      | ((first | apply H.cmp | apply H.build); (iterate 5 exact rfl))
                      | ((first | (apply H.ar; (iterate 4 exact rfl)) | (apply H.conv_int; (iterate 2 exact rfl))); (first | (apply wr_i64_s1; omega) | (apply wr_i64_n1; omega) | (apply wr_i64_nn; omega) | (apply wr_i64; omega) | (apply wr_u64; omega) | (apply wr_u8; omega) | (apply wr_u16; omega) | rfl); exact rfl)
                      | (apply H.pass; (iterate 2 exact rfl))
                      | (apply H.pass0; exact rfl)
                      | (apply H.pickT; (iterate 4 exact rfl))
                      | ((first | apply H.pickF | apply H.extract | apply H.not); (iterate 4 exact rfl))
                      | ((first | apply H.ptrNil | apply H.sliceNil); (iterate 5 exact rfl))
                      | (apply H.store1; (iterate 4 exact rfl); (repeat (first | exact .here _ _ _ | apply At.there)); (repeat (first | exact .here _ _ _ | apply SetV.there)))
                      | (apply H.cond_true; exact rfl)
                      | (apply H.cond_false; exact rfl)
                      | (first | apply H.skip | apply H.ret | apply H.then_ret | apply H.then_exit | apply H.exit | apply H.block | apply H.in_normal | apply H.in_ret | apply H.in_hit | apply H.loop_ret | apply H.loop_exit)
                      | (apply H.in_miss; exact rfl)
                      | (apply H.gyes; (iterate 3 exact rfl); (first | assumption | omega))
                      | (apply H.gno; (iterate 3 exact rfl); (first | assumption | omega))
                      | (apply H.cond_yes; exact rfl; (first | assumption | omega))
                      | (apply H.cond_no; exact rfl; (first | assumption | omega))
                      | ((first | apply H.gtrue); (iterate 3 exact rfl); assumption)
                      | (apply H.gfalse; (iterate 3 exact rfl); assumption)
                      | (apply H.cond_t; exact rfl; assumption)
                      | (apply H.cond_f; exact rfl; assumption))
                    refine H.know (d := 13) (u := .bool false) rfl (by first | rfl | rw [decide_eq_true (by omega)] | rw [decide_eq_false (by omega)]) ?_
                    exact H.meet (eb, ec) trivial ⟨rfl, rfl, rfl, rfl, rfl, rfl, rfl, trivial⟩ rfl rfl
                · skip
                  have e1 : s.okS x = false := by
                    unfold PM.okS PM.changeOk PM.enterOk PM.isOpen PM.commitOk
                    repeat' split
                    all_goals first | omega | (rw [decide_eq_false_iff_not]; omega)
                  rw [e1, PM.stepS_no e1]
                  repeat (
                    first
                    | ((first | apply H.move | apply H.assign | apply H.nilCheck | apply H.len_slice); (iterate 3 exact rfl))
                    | (apply H.fieldAddr; (iterate 3 exact rfl); exact inferInstance; exact rfl)
                    | (apply H.load1; (iterate 3 exact rfl); apply Rd1.ofRow; (repeat (first | exact .here _ _ _ | apply At.there)); (iterate 2 exact rfl))
                    | (first | apply H.seq | apply H.region | apply H.nil | apply H.then_normal)
                    | ((first | apply H.cmp | apply H.build); (iterate 5 exact rfl))
                    | ((first | (apply H.ar; (iterate 4 exact rfl)) | (apply H.conv_int; (iterate 2 exact rfl))); (first | (apply wr_i64_s1; omega) | (apply wr_i64_n1; omega) | (apply wr_i64_nn; omega) | (apply wr_i64; omega) | (apply wr_u64; omega) | (apply wr_u8; omega) | (apply wr_u16; omega) | rfl); exact rfl)
                    | (apply H.pass; (iterate 2 exact rfl))
                    | (apply H.pass0; exact rfl)
                    | (apply H.pickT; (iterate 4 exact rfl))
                    | ((first | apply H.pickF | apply H.extract | apply H.not); (iterate 4 exact rfl))
                    | ((first | apply H.ptrNil | apply H.sliceNil); (iterate 5 exact rfl))
                    | (apply H.store1; (iterate 4 exact rfl); (repeat (first | exact .here _ _ _ | apply At.there)); (repeat (first | exact .here _ _ _ | apply SetV.there)))
                    | (apply H.cond_true; exact rfl)
                    | (apply H.cond_false; exact rfl)
                    | (first | apply H.skip | apply H.ret | apply H.then_ret | apply H.then_exit | apply H.exit | apply H.block | apply H.in_normal | apply H.in_ret | apply H.in_hit | apply H.loop_ret | apply H.loop_exit)
                    | (apply H.in_miss; exact rfl)
                    | (apply H.gyes; (iterate 3 exact rfl); (first | assumption | omega))
                    | (apply H.gno; (iterate 3 exact rfl); (first | assumption | omega))
                    | (apply H.cond_yes; exact rfl; (first | assumption | omega))
                    | (apply H.cond_no; exact rfl; (first | assumption | omega))
                    | ((first | apply H.gtrue); (iterate 3 exact rfl); assumption)
                    | (apply H.gfalse; (iterate 3 exact rfl); assumption)
                    | (apply H.cond_t; exact rfl; assumption)
                    | (apply H.cond_f; exact rfl; assumption))
                  refine H.know (d := 13) (u := .bool false) rfl (by first | rfl | rw [decide_eq_true (by omega)] | rw [decide_eq_false (by omega)]) ?_
                  exact H.meet (eb, ec) trivial ⟨rfl, rfl, rfl, rfl, rfl, rfl, rfl, trivial⟩ rfl rfl
              · skip
                by_cases h1 : s.lv = s.g
                · skip
                  by_cases h2 : x.v = s.lv
                  · skip
                    by_cases h3 : x.k = s.ln + 1
                    · skip
                      by_cases h4 : 0 ≤ x.l
                      · skip
                        by_cases h5 : x.k ≤ x.l
                        · skip
                          have ok : s.commitOk x.v x.k x.l = true := by simp only [PM.commitOk, decide_eq_true_eq]; omega
                          have e1 : s.okS x = true := by rw [PM.okS, if_neg hd0, if_neg hd1, if_neg hd2, ok]
                          have e2 : s.stepS x = { s with ln := s.ln + 1 } := by rw [PM.stepS, if_neg hd0, if_neg hd1, if_neg hd2, PM.commit, if_pos ok]
                          have hvw : viewsV ({ s with ln := s.ln + 1 } : PM).all = viewsV s.all := by simp [viewsV, PM.all]
                          rw [e1, e2, hvw]
                          repeat (
                            first
                            | ((first | apply H.move | apply H.assign | apply H.nilCheck | apply H.len_slice); (iterate 3 exact rfl))
                            | (apply H.fieldAddr; (iterate 3 exact rfl); exact inferInstance; exact rfl)
                            | (apply H.load1; (iterate 3 exact rfl); apply Rd1.ofRow; (repeat (first | exact .here _ _ _ | apply At.there)); (iterate 2 exact rfl))
                            | (first | apply H.seq | apply H.region | apply H.nil | apply H.then_normal)
                            | ((first | apply H.cmp | apply H.build); (iterate 5 exact rfl))
                            | ((first | (apply H.ar; (iterate 4 exact rfl)) | (apply H.conv_int; (iterate 2 exact rfl))); (first | (apply wr_i64_s1; omega) | (apply wr_i64_n1; omega) | (apply wr_i64_nn; omega) | (apply wr_i64; omega) | (apply wr_u64; omega) | (apply wr_u8; omega) | (apply wr_u16; omega) | rfl); exact rfl)
                            | (apply H.pass; (iterate 2 exact rfl))
                            | (apply H.pass0; exact rfl)
                            | (apply H.pickT; (iterate 4 exact rfl))
                            | ((first | apply H.pickF | apply H.extract | apply H.not); (iterate 4 exact rfl))
                            | ((first | apply H.ptrNil | apply H.sliceNil); (iterate 5 exact rfl))
                            | (apply H.store1; (iterate 4 exact rfl); (repeat (first | exact .here _ _ _ | apply At.there)); (repeat (first | exact .here _ _ _ | apply SetV.there)))
                            | (apply H.cond_true; exact rfl)
                            | (apply H.cond_false; exact rfl)
                            | (first | apply H.skip | apply H.ret | apply H.then_ret | apply H.then_exit | apply H.exit | apply H.block | apply H.in_normal | apply H.in_ret | apply H.in_hit | apply H.loop_ret | apply H.loop_exit)
                            | (apply H.in_miss; exact rfl)
                            | (apply H.gyes; (iterate 3 exact rfl); (first | assumption | omega))
                            | (apply H.gno; (iterate 3 exact rfl); (first | assumption | omega))
                            | (apply H.cond_yes; exact rfl; (first | assumption | omega))
                            | (apply H.cond_no; exact rfl; (first | assumption | omega))
                            | ((first | apply H.gtrue); (iterate 3 exact rfl); assumption)
                            | (apply H.gfalse; (iterate 3 exact rfl); assumption)
                            | (apply H.cond_t; exact rfl; assumption)
                            | (apply H.cond_f; exact rfl; assumption))
                          refine H.know (d := 13) (u := .bool true) rfl (by first | rfl | rw [decide_eq_true (by omega)] | rw [decide_eq_false (by omega)]) ?_
                          exact H.meet (eb, ec) trivial ⟨rfl, rfl, rfl, rfl, rfl, rfl, rfl, trivial⟩ rfl rfl
                        · skip
                          have e1 : s.okS x = false := by
                            unfold PM.okS PM.changeOk PM.enterOk PM.isOpen PM.commitOk
                            repeat' split
                            all_goals first | omega | (rw [decide_eq_false_iff_not]; omega)
                          rw [e1, PM.stepS_no e1]
                          repeat (
                            first
                            | ((first | apply H.move | apply H.assign | apply H.nilCheck | apply H.len_slice); (iterate 3 exact rfl))
                            | (apply H.fieldAddr; (iterate 3 exact rfl); exact inferInstance; exact rfl)
                            | (apply H.load1; (iterate 3 exact rfl); apply Rd1.ofRow; (repeat (first | exact .here _ _ _ | apply At.there)); (iterate 2 exact rfl))
                            | (first | apply H.seq | apply H.region | apply H.nil | apply H.then_normal)
                            | ((first | apply H.cmp | apply H.build); (iterate 5 exact rfl))
                            | ((first | (apply H.ar; (iterate 4 exact rfl)) | (apply H.conv_int; (iterate 2 exact rfl))); (first | (apply wr_i64_s1; omega) | (apply wr_i64_n1; omega) | (apply wr_i64_nn; omega) | (apply wr_i64; omega) | (apply wr_u64; omega) | (apply wr_u8; omega) | (apply wr_u16; omega) | rfl); exact rfl)
                            | (apply H.pass; (iterate 2 exact rfl))
                            | (apply H.pass0; exact rfl)
                            | (apply H.pickT; (iterate 4 exact rfl))
                            | ((first | apply H.pickF | apply H.extract | apply H.not); (iterate 4 exact rfl))
                            | ((first | apply H.ptrNil | apply H.sliceNil); (iterate 5 exact rfl))
                            | (apply H.store1; (iterate 4 exact rfl); (repeat (first | exact .here _ _ _ | apply At.there)); (repeat (first | exact .here _ _ _ | apply SetV.there)))
                            | (apply H.cond_true; exact rfl)
                            | (apply H.cond_false; exact rfl)
                            | (first | apply H.skip | apply H.ret | apply H.then_ret | apply H.then_exit | apply H.exit | apply H.block | apply H.in_normal | apply H.in_ret | apply H.in_hit | apply H.loop_ret | apply H.loop_exit)
                            | (apply H.in_miss; exact rfl)
                            | (apply H.gyes; (iterate 3 exact rfl); (first | assumption | omega))
                            | (apply H.gno; (iterate 3 exact rfl); (first | assumption | omega))
                            | (apply H.cond_yes; exact rfl; (first | assumption | omega))
                            | (apply H.cond_no; exact rfl; (first | assumption | omega))
                            | ((first | apply H.gtrue); (iterate 3 exact rfl); assumption)
                            | (apply H.gfalse; (iterate 3 exact rfl); assumption)
                            | (apply H.cond_t; exact rfl; assumption)
                            | (apply H.cond_f; exact rfl; assumption))
                          refine H.know (d := 13) (u := .bool false) rfl (by first | rfl | rw [decide_eq_true (by omega)] | rw [decide_eq_false (by omega)]) ?_
                          exact H.meet (eb, ec) trivial ⟨rfl, rfl, rfl, rfl, rfl, rfl, rfl, trivial⟩ rfl rfl
                      · skip
                        have e1 : s.okS x = false := by
                          unfold PM.okS PM.changeOk PM.enterOk PM.isOpen PM.commitOk
                          repeat' split
                          all_goals first | omega | (rw [decide_eq_false_iff_not]; omega)
                        rw [e1, PM.stepS_no e1]
                        repeat (
                          first
                          | ((first | apply H.move | apply H.assign | apply H.nilCheck | apply H.len_slice); (iterate 3 exact rfl))
                          | (apply H.fieldAddr; (iterate 3 exact rfl); exact inferInstance; exact rfl)
                          | (apply H.load1; (iterate 3 exact rfl); apply Rd1.ofRow; (repeat (first | exact .here _ _ _ | apply At.there)); (iterate 2 exact rfl))
                          | (first | apply H.seq | apply H.region | apply H.nil | apply H.then_normal)
                          | ((first | apply H.cmp | apply H.build); (iterate 5 exact rfl))
                          | ((first | (apply H.ar; (iterate 4 exact rfl)) | (apply H.conv_int; (iterate 2 exact rfl))); (first | (apply wr_i64_s1; omega) | (apply wr_i64_n1; omega) | (apply wr_i64_nn; omega) | (apply wr_i64; omega) | (apply wr_u64; omega) | (apply wr_u8; omega) | (apply wr_u16; omega) | rfl); exact rfl)
                          | (apply H.pass; (iterate 2 exact rfl))
                          | (apply H.pass0; exact rfl)
                          | (apply H.pickT; (iterate 4 exact rfl))
                          | ((first | apply H.pickF | apply H.extract | apply H.not); (iterate 4 exact rfl))
                          | ((first | apply H.ptrNil | apply H.sliceNil); (iterate 5 exact rfl))
                          | (apply H.store1; (iterate 4 exact rfl); (repeat (first | exact .here _ _ _ | apply At.there)); (repeat (first | exact .here _ _ _ | apply SetV.there)))
                          | (apply H.cond_true; exact rfl)
                          | (apply H.cond_false; exact rfl)
                          | (first | apply H.skip | apply H.ret | apply H.then_ret | apply H.then_exit | apply H.exit | apply H.block | apply H.in_normal | apply H.in_ret | apply H.in_hit | apply H.loop_ret | apply H.loop_exit)
                          | (apply H.in_miss; exact rfl)
                          | (apply H.gyes; (iterate 3 exact rfl); (first | assumption | omega))
                          | (apply H.gno; (iterate 3 exact rfl); (first | assumption | omega))
                          | (apply H.cond_yes; exact rfl; (first | assumption | omega))
                          | (apply H.cond_no; exact rfl; (first | assumption | omega))
                          | ((first | apply H.gtrue); (iterate 3 exact rfl); assumption)
                          | (apply H.gfalse; (iterate 3 exact rfl); assumption)
                          | (apply H.cond_t; exact rfl; assumption)
                          | (apply H.cond_f; exact rfl; assumption))
                        refine H.know (d := 13) (u := .bool false) rfl (by first | rfl | rw [decide_eq_true (by omega)] | rw [decide_eq_false (by omega)]) ?_
                        exact H.meet (eb, ec) trivial ⟨rfl, rfl, rfl, rfl, rfl, rfl, rfl, trivial⟩ rfl rfl
                    · skip
                      have e1 : s.okS x = false := by
                        unfold PM.okS PM.changeOk PM.enterOk PM.isOpen PM.commitOk
                        repeat' split
                        all_goals first | omega | (rw [decide_eq_false_iff_not]; omega)
                      rw [e1, PM.stepS_no e1]
                      repeat (
                        first
                        | ((first | apply H.move | apply H.assign | apply H.nilCheck | apply H.len_slice); (iterate 3 exact rfl))
                        | (apply H.fieldAddr; (iterate 3 exact rfl); exact inferInstance; exact rfl)
                        | (apply H.load1; (iterate 3 exact rfl); apply Rd1.ofRow; (repeat (first | exact .here _ _ _ | apply At.there)); (iterate 2 exact rfl))
                        | (first | apply H.seq | apply H.region | apply H.nil | apply H.then_normal)
                        | ((first | apply H.cmp | apply H.build); (iterate 5 exact rfl))
                        | ((first | (apply H.ar; (iterate 4 exact rfl)) | (apply H.conv_int; (iterate 2 exact rfl))); (first | (apply wr_i64_s1; omega) | (apply wr_i64_n1; omega) | (apply wr_i64_nn; omega) | (apply wr_i64; omega) | (apply wr_u64; omega) | (apply wr_u8; omega) | (apply wr_u16; omega) | rfl); exact rfl)
                        | (apply H.pass; (iterate 2 exact rfl))
                        | (apply H.pass0; exact rfl)
                        | (apply H.pickT; (iterate 4 exact rfl))
                        | ((first | apply H.pickF | apply H.extract | apply H.not); (iterate 4 exact rfl))
                        | ((first | apply H.ptrNil | apply H.sliceNil); (iterate 5 exact rfl))
                        | (apply H.store1; (iterate 4 exact rfl); (repeat (first | exact .here _ _ _ | apply At.there)); (repeat (first | exact .here _ _ _ | apply SetV.there)))
                        | (apply H.cond_true; exact rfl)
                        | (apply H.cond_false; exact rfl)
                        | (first | apply H.skip | apply H.ret | apply H.then_ret | apply H.then_exit | apply H.exit | apply H.block | apply H.in_normal | apply H.in_ret | apply H.in_hit | apply H.loop_ret | apply H.loop_exit)
                        | (apply H.in_miss; exact rfl)
                        | (apply H.gyes; (iterate 3 exact rfl); (first | assumption | omega))
                        | (apply H.gno; (iterate 3 exact rfl); (first | assumption | omega))
                        | (apply H.cond_yes; exact rfl; (first | assumption | omega))
                        | (apply H.cond_no; exact rfl; (first | assumption | omega))
                        | ((first | apply H.gtrue); (iterate 3 exact rfl); assumption)
                        | (apply H.gfalse; (iterate 3 exact rfl); assumption)
                        | (apply H.cond_t; exact rfl; assumption)
                        | (apply H.cond_f; exact rfl; assumption))
                      refine H.know (d := 13) (u := .bool false) rfl (by first | rfl | rw [decide_eq_true (by omega)] | rw [decide_eq_false (by omega)]) ?_
                      exact H.meet (eb, ec) trivial ⟨rfl, rfl, rfl, rfl, rfl, rfl, rfl, trivial⟩ rfl rfl
                  · skip
                    have e1 : s.okS x = false := by
                      unfold PM.okS PM.changeOk PM.enterOk PM.isOpen PM.commitOk
                      repeat' split
                      all_goals first | omega | (rw [decide_eq_false_iff_not]; omega)
                    rw [e1, PM.stepS_no e1]
                    repeat (
                      first
                      | ((first | apply H.move | apply H.assign | apply H.nilCheck | apply H.len_slice); (iterate 3 exact rfl))
                      | (apply H.fieldAddr; (iterate 3 exact rfl); exact inferInstance; exact rfl)
                      | (apply H.load1; (iterate 3 exact rfl); apply Rd1.ofRow; (repeat (first | exact .here _ _ _ | apply At.there)); (iterate 2 exact rfl))
                      | (first | apply H.seq | apply H.region | apply H.nil | apply H.then_normal)
                      | ((first | apply H.cmp | apply H.build); (iterate 5 exact rfl))
                      | ((first | (apply H.ar; (iterate 4 exact rfl)) | (apply H.conv_int; (iterate 2 exact rfl))); (first | (apply wr_i64_s1; omega) | (apply wr_i64_n1; omega) | (apply wr_i64_nn; omega) | (apply wr_i64; omega) | (apply wr_u64; omega) | (apply wr_u8; omega) | (apply wr_u16; omega) | rfl); exact rfl)
                      | (apply H.pass; (iterate 2 exact rfl))
                      | (apply H.pass0; exact rfl)
                      | (apply H.pickT; (iterate 4 exact rfl))
                      | ((first | apply H.pickF | apply H.extract | apply H.not); (iterate 4 exact rfl))
                      | ((first | apply H.ptrNil | apply H.sliceNil); (iterate 5 exact rfl))
                      | (apply H.store1; (iterate 4 exact rfl); (repeat (first | exact .here _ _ _ | apply At.there)); (repeat (first | exact .here _ _ _ | apply SetV.there)))
                      | (apply H.cond_true; exact rfl)
                      | (apply H.cond_false; exact rfl)
                      | (first | apply H.skip | apply H.ret | apply H.then_ret | apply H.then_exit | apply H.exit | apply H.block | apply H.in_normal | apply H.in_ret | apply H.in_hit | apply H.loop_ret | apply H.loop_exit)
                      | (apply H.in_miss; exact rfl)
                      | (apply H.gyes; (iterate 3 exact rfl); (first | assumption | omega))
                      | (apply H.gno; (iterate 3 exact rfl); (first | assumption | omega))
                      | (apply H.cond_yes; exact rfl; (first | assumption | omega))
                      | (apply H.cond_no; exact rfl; (first | assumption | omega))
                      | ((first | apply H.gtrue); (iterate 3 exact rfl); assumption)
                      | (apply H.gfalse; (iterate 3 exact rfl); assumption)
                      | (apply H.cond_t; exact rfl; assumption)
                      | (apply H.cond_f; exact rfl; assumption))
                    refine H.know (d := 13) (u := .bool false) rfl (by first | rfl | rw [decide_eq_true (by omega)] | rw [decide_eq_false (by omega)]) ?_
                    exact H.meet (eb, ec) trivial ⟨rfl, rfl, rfl, rfl, rfl, rfl, rfl, trivial⟩ rfl rfl
                · skip
                  have e1 : s.okS x = false := by
                    unfold PM.okS PM.changeOk PM.enterOk PM.isOpen PM.commitOk
                    repeat' split
                    all_goals first | omega | (rw [decide_eq_false_iff_not]; omega)
                  rw [e1, PM.stepS_no e1]
                  repeat (
                    first
                    | ((first | apply H.move | apply H.assign | apply H.nilCheck | apply H.len_slice); (iterate 3 exact rfl))
                    | (apply H.fieldAddr; (iterate 3 exact rfl); exact inferInstance; exact rfl)
                    | (apply H.load1; (iterate 3 exact rfl); apply Rd1.ofRow; (repeat (first | exact .here _ _ _ | apply At.there)); (iterate 2 exact rfl))
                    | (first | apply H.seq | apply H.region | apply H.nil | apply H.then_normal)
                    | ((first | apply H.cmp | apply H.build); (iterate 5 exact rfl))
                    | ((first | (apply H.ar; (iterate 4 exact rfl)) | (apply H.conv_int; (iterate 2 exact rfl))); (first | (apply wr_i64_s1; omega) | (apply wr_i64_n1; omega) | (apply wr_i64_nn; omega) | (apply wr_i64; omega) | (apply wr_u64; omega) | (apply wr_u8; omega) | (apply wr_u16; omega) | rfl); exact rfl)
                    | (apply H.pass; (iterate 2 exact rfl))
                    | (apply H.pass0; exact rfl)
                    | (apply H.pickT; (iterate 4 exact rfl))
                    | ((first | apply H.pickF | apply H.extract | apply H.not); (iterate 4 exact rfl))
                    | ((first | apply H.ptrNil | apply H.sliceNil); (iterate 5 exact rfl))
                    | (apply H.store1; (iterate 4 exact rfl); (repeat (first | exact .here _ _ _ | apply At.there)); (repeat (first | exact .here _ _ _ | apply SetV.there)))
                    | (apply H.cond_true; exact rfl)
                    | (apply H.cond_false; exact rfl)
                    | (first | apply H.skip | apply H.ret | apply H.then_ret | apply H.then_exit | apply H.exit | apply H.block | apply H.in_normal | apply H.in_ret | apply H.in_hit | apply H.loop_ret | apply H.loop_exit)
                    | (apply H.in_miss; exact rfl)
                    | (apply H.gyes; (iterate 3 exact rfl); (first | assumption | omega))
                    | (apply H.gno; (iterate 3 exact rfl); (first | assumption | omega))
                    | (apply H.cond_yes; exact rfl; (first | assumption | omega))
                    | (apply H.cond_no; exact rfl; (first | assumption | omega))
                    | ((first | apply H.gtrue); (iterate 3 exact rfl); assumption)
                    | (apply H.gfalse; (iterate 3 exact rfl); assumption)
                    | (apply H.cond_t; exact rfl; assumption)
                    | (apply H.cond_f; exact rfl; assumption))
                  refine H.know (d := 13) (u := .bool false) rfl (by first | rfl | rw [decide_eq_true (by omega)] | rw [decide_eq_false (by omega)]) ?_
                  exact H.meet (eb, ec) trivial ⟨rfl, rfl, rfl, rfl, rfl, rfl, rfl, trivial⟩ rfl rfl
    · repeat (
      first
      | ((first | apply H.move | apply H.assign | apply H.nilCheck | apply H.len_slice); (iterate 3 exact rfl))
      | (apply H.fieldAddr; (iterate 3 exact rfl); exact inferInstance; exact rfl)
      | (apply H.load1; (iterate 3 exact rfl); apply Rd1.ofRow; (repeat (first | exact .here _ _ _ | apply At.there)); (iterate 2 exact rfl))
      | (first | apply H.seq | apply H.region | apply H.nil | apply H.then_normal)
      | ((first | apply H.cmp | apply H.build); (iterate 5 exact rfl))
      | ((first | (apply H.ar; (iterate 4 exact rfl)) | (apply H.conv_int; (iterate 2 exact rfl))); (first | (apply wr_i64_s1; omega) | (apply wr_i64_n1; omega) | (apply wr_i64_nn; omega) | (apply wr_i64; omega) | (apply wr_u64; omega) | (apply wr_u8; omega) | (apply wr_u16; omega) | rfl); exact rfl)
      | (apply H.pass; (iterate 2 exact rfl))
      | (apply H.pass0; exact rfl)
      | (apply H.pickT; (iterate 4 exact rfl))
      | ((first | apply H.pickF | apply H.extract | apply H.not); (iterate 4 exact rfl))
      | ((first | apply H.ptrNil | apply H.sliceNil); (iterate 5 exact rfl))
      | (apply H.store1; (iterate 4 exact rfl); (repeat (first | exact .here _ _ _ | apply At.there)); (repeat (first | exact .here _ _ _ | apply SetV.there)))
      | (apply H.cond_true; exact rfl)
      | (apply H.cond_false; exact rfl)
      | (first | apply H.skip | apply H.ret | apply H.then_ret | apply H.then_exit | apply H.exit | apply H.block | apply H.in_normal | apply H.in_ret | apply H.in_hit | apply H.loop_ret | apply H.loop_exit)
      | (apply H.in_miss; exact rfl)
      | (apply H.gyes; (iterate 3 exact rfl); (first | assumption | omega))
      | (apply H.gno; (iterate 3 exact rfl); (first | assumption | omega))
      | (apply H.cond_yes; exact rfl; (first | assumption | omega))
      | (apply H.cond_no; exact rfl; (first | assumption | omega))
      | ((first | apply H.gtrue); (iterate 3 exact rfl); assumption)
      | (apply H.gfalse; (iterate 3 exact rfl); assumption)
      | (apply H.cond_t; exact rfl; assumption)
      | (apply H.cond_f; exact rfl; assumption))
      refine H.callR rfl rfl rfl (works_fn f _) ?_
      repeat (
        first
        | ((first | apply H.move | apply H.assign | apply H.nilCheck | apply H.len_slice); (iterate 3 exact rfl))
        | (apply H.fieldAddr; (iterate 3 exact rfl); exact inferInstance; exact rfl)
        | (apply H.load1; (iterate 3 exact rfl); apply Rd1.ofRow; (repeat (first | exact .here _ _ _ | apply At.there)); (iterate 2 exact rfl))
        | (first | apply H.seq | apply H.region | apply H.nil | apply H.then_normal)
        | ((first | apply H.cmp | apply H.build); (iterate 5 exact rfl))
        | ((first | (apply H.ar; (iterate 4 exact rfl)) | (apply H.conv_int; (iterate 2 exact rfl))); (first | (apply wr_i64_s1; omega) | (apply wr_i64_n1; omega) | (apply wr_i64_nn; omega) | (apply wr_i64; omega) | (apply wr_u64; omega) | (apply wr_u8; omega) | (apply wr_u16; omega) | rfl); exact rfl)
        | (apply H.pass; (iterate 2 exact rfl))
        | (apply H.pass0; exact rfl)
        | (apply H.pickT; (iterate 4 exact rfl))
        | ((first | apply H.pickF | apply H.extract | apply H.not); (iterate 4 exact rfl))
        | ((first | apply H.ptrNil | apply H.sliceNil); (iterate 5 exact rfl))
        | (apply H.store1; (iterate 4 exact rfl); (repeat (first | exact .here _ _ _ | apply At.there)); (repeat (first | exact .here _ _ _ | apply SetV.there)))
        | (apply H.cond_true; exact rfl)
        | (apply H.cond_false; exact rfl)
        | (first | apply H.skip | apply H.ret | apply H.then_ret | apply H.then_exit | apply H.exit | apply H.block | apply H.in_normal | apply H.in_ret | apply H.in_hit | apply H.loop_ret | apply H.loop_exit)
        | (apply H.in_miss; exact rfl)
        | (apply H.gyes; (iterate 3 exact rfl); (first | assumption | omega))
        | (apply H.gno; (iterate 3 exact rfl); (first | assumption | omega))
        | (apply H.cond_yes; exact rfl; (first | assumption | omega))
        | (apply H.cond_no; exact rfl; (first | assumption | omega))
        | ((first | apply H.gtrue); (iterate 3 exact rfl); assumption)
        | (apply H.gfalse; (iterate 3 exact rfl); assumption)
        | (apply H.cond_t; exact rfl; assumption)
        | (apply H.cond_f; exact rfl; assumption))
      refine H.drop (.here _ _) ?_
      refine H.drop (.here _ _) ?_
      exact H.ret1 rfl rfl (fun _ h => h) ⟨rfl, rfl, rfl⟩
end

set_option maxRecDepth 100000 in
theorem pastOpen_lifted (os : Os) (started : os.Started) (H' : Type) (enc : TypeId × Value → H') :
    ReturnsInHanded {} Try.checked os 6 .any (Rows.pastOpenSpec.pre6 enc Try.prog Try.f6 Rows.pastOpenRow.domain false) (Rows.pastOpenSpec.post enc Try.prog Try.f6 false true false false) := by
  refine lawRow (C := Try.checked) Try.own started (by kernel_rfl) Try.func6
    (ChangeSpec.witness6 (enc := enc) (C := Try.checked) false ⟨#[], #[.slice none 0 0], []⟩ 8 (by kernel_rfl) (by kernel_rfl) (by kernel_rfl) (by kernel_rfl))
    Try.underlying4 rfl rfl Try.laidOut (by kernel_rfl) (fun ds h => ?_) fun W args h => ?_
  · match ds, h with
    | [d], _ => rfl
  · match args, h with
    | [v], ⟨h0, _⟩ =>
      obtain ⟨p, c, xs, rfl, _, _, hq, hat⟩ := h0.list (sz := 4) Try.underlying22 (by kernel_rfl) (by decide) fun cs => reads_step
      exact pastOpen_fn (memOf W) [] p c xs hq hat

theorem pastOpen_holds : Rows.PastOpenSaid :=
  OpenClaim.holds_of_wide 6 Try.f6 rfl rfl rfl rfl rfl rfl rfl ⟨rfl, rfl, rfl, rfl, rfl⟩ rfl rfl rfl rfl rfl (by kernel_rfl) Try.func6 (by kernel_rfl)
    (of_decide_eq_true (by kernel_rfl)) (by unfold Func.isWrapper; first | (rw [if_pos (by decide +kernel)]; kernel_rfl) | (rw [if_neg (by decide +kernel)]; exact ⟨rfl, rfl⟩))
    (fun os started H' enc _ => pastOpen_lifted os started H' enc)
end Go.Proofs.Ytfplfddobjbbnaa
