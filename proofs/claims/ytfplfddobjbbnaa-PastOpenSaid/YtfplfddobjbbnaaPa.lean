/- Layer 14, the program's functions: what each call does to a past. -/
import Derived.Test.YtfplfddobjbbnaaPm
import Derived.Test.YtfplfddobjbbnaaT
namespace Go.Proofs.Ytfplfddobjbbnaa
set_option linter.unusedSectionVars false
set_option linter.unusedSimpArgs false
set_option linter.unusedVariables false
open Go

def viewsV (l : List (Int × Int)) : List Value := l.map fun p => .int .u64 p.1
abbrev keyU (k : Int) : Value := .int .u64 k
instance : KeyT Try.prog 23 keyU := keyT_int ⟨Try.underlying23⟩

def pastL (b eb ec mb : Nat) (s : PM) : List HP := [row b 52 [.int .u64 s.g, .slice (some ⟨eb, 0, none⟩) (s.init.length + 1) ec, .map (some mb)],
  slc (some ⟨eb, 0, none⟩) (s.init.length + 1) ec 23 1 (viewsV s.all), mp mb keyU (PM.kv s.all)]
/-- Block b is a past that stands at s. -/
def pastH (b : Nat) (s : PM) : HP := fun h => ∃ i : Nat × Nat × Nat, stars (pastL b i.1 i.2.1 i.2.2 s) h

theorem pastH_fold {b eb ec mb : Nat} {s : PM} {F : List HP} : ∀ x, stars (row b 52 [.int .u64 s.g, .slice (some ⟨eb, 0, none⟩) (s.init.length + 1) ec, .map (some mb)] ::
  slc (some ⟨eb, 0, none⟩) (s.init.length + 1) ec 23 1 (viewsV s.all) :: mp mb keyU (PM.kv s.all) :: F) x → stars (pastH b s :: F) x :=
  fold_stars (B := [_, _, _]) fun x hx => ⟨(eb, ec, mb), hx⟩
theorem pastH_open {fid : FuncId} {args : List Value} {f : Frag} {R : Value → Frag → List HP → Prop} {b : Nat} {s : PM} {F : List HP}
    (k : ∀ eb ec mb, Fn Try.prog fid args f (row b 52 [.int .u64 s.g, .slice (some ⟨eb, 0, none⟩) (s.init.length + 1) ec, .map (some mb)] ::
      slc (some ⟨eb, 0, none⟩) (s.init.length + 1) ec 23 1 (viewsV s.all) :: mp mb keyU (PM.kv s.all) :: F) R) : Fn Try.prog fid args f (pastH b s :: F) R :=
  Fn.unfold (fun _ h => h) fun ⟨eb, ec, mb⟩ => k eb ec mb

theorem viewsV_last (s : PM) : (viewsV s.all)[s.init.length]? = some (.int .u64 s.lv) := by
  simp [viewsV, PM.all]

section
variable (f : Frag) (F : List HP) (b : Nat) (s : PM)

theorem last_fn (hn : s.init.length ≤ 1000000) : Fn Try.prog 26 [.pointer (some ⟨b, 0, none⟩)] f (pastH b s :: F) (Ret (.int .u64 s.lv) f (pastH b s :: F)) := by
  refine pastH_open fun eb ec mb => ?_
  refine Fn.enter Try.func26 rfl Try.ntmps26 rfl (L := [(0, _)]) ⟨rfl, trivial⟩ fun base => ?_
  repeat (
    first
    | ((first | apply H.move | apply H.assign | apply H.nilCheck | apply H.len_slice); (iterate 3 exact rfl))
    | (apply H.fieldAddr; (iterate 3 exact rfl); exact inferInstance; exact rfl)
    | (apply H.load1; (iterate 3 exact rfl); apply Rd1.ofRow; (repeat (first | exact .here _ _ _ | apply At.there)); (iterate 2 exact rfl))
    | (first | apply H.seq | apply H.region | apply H.nil | apply H.then_normal)
    | ((first | apply H.cmp | apply H.build); (iterate 5 exact rfl))
    | ((first | (apply H.ar; (iterate 4 exact rfl)) | (apply H.conv_int; (iterate 2 exact rfl))); (first | (apply wr_i64_s1; omega) | (apply wr_i64_n1; omega) | (apply wr_i64_nn; omega) | (apply wr_i64; omega) | (apply wr_u64; omega) | (apply wr_u8; omega) | (apply wr_u16; omega) | rfl); exact rfl)
    | (apply H.pass; (iterate 2 exact rfl))
    | (apply H.pass0; exact rfl)
    | (apply H.pickT; (iterate 4 exact rfl))
    | ((first | apply H.pickF | apply H.extract | apply H.not); (iterate 4 exact rfl))
    | ((first | apply H.ptrNil | apply H.sliceNil); (iterate 5 exact rfl))
    | (apply H.store1; (iterate 4 exact rfl); (repeat (first | exact .here _ _ _ | apply At.there)); (repeat (first | exact .here _ _ _ | apply SetV.there)))
    | (apply H.cond_true; exact rfl)
    | (apply H.cond_false; exact rfl)
    | (first | apply H.skip | apply H.ret | apply H.then_ret | apply H.then_exit | apply H.exit | apply H.block | apply H.in_normal | apply H.in_ret | apply H.in_hit | apply H.loop_ret | apply H.loop_exit)
    | (apply H.in_miss; exact rfl)
    | (apply H.gyes; (iterate 3 exact rfl); (first | assumption | omega))
    | (apply H.gno; (iterate 3 exact rfl); (first | assumption | omega))
    | (apply H.cond_yes; exact rfl; (first | assumption | omega))
    | (apply H.cond_no; exact rfl; (first | assumption | omega))
    | ((first | apply H.gtrue); (iterate 3 exact rfl); assumption)
    | (apply H.gfalse; (iterate 3 exact rfl); assumption)
    | (apply H.cond_t; exact rfl; assumption)
    | (apply H.cond_f; exact rfl; assumption))
  refine H.drawQ (by kernel_rfl) (by decide +kernel) (by first | exact blind_fn | exact blind_seq blind_fn | exact blind_seq (blind_seq blind_fn) | (repeat (first | exact blind_fn | refine blind_seq ?_ | refine blind_block ?_ | refine blind_loop ?_))) ?_
  repeat (
    first
    | ((first | apply HQ.move | apply HQ.assign | apply HQ.nilCheck | apply HQ.len_slice); (iterate 3 exact rfl))
    | (apply HQ.fieldAddr; (iterate 3 exact rfl); exact inferInstance; exact rfl)
    | (apply HQ.load1; (iterate 3 exact rfl); apply Rd1.ofRow; (repeat (first | exact .here _ _ _ | apply At.there)); (iterate 2 exact rfl))
    | ((first | apply HQ.done0 | apply HQ.done); exact rfl)
    | ((first | apply HQ.cmp | apply HQ.build); (iterate 5 exact rfl))
    | ((first | (apply HQ.ar; (iterate 4 exact rfl)) | (apply HQ.conv_int; (iterate 2 exact rfl))); (first | (apply wr_i64_s1; omega) | (apply wr_i64_n1; omega) | (apply wr_i64_nn; omega) | (apply wr_i64; omega) | (apply wr_u64; omega) | (apply wr_u8; omega) | (apply wr_u16; omega) | rfl); exact rfl)
    | (apply HQ.pass; (iterate 2 exact rfl))
    | (apply HQ.pickT; (iterate 4 exact rfl))
    | ((first | apply HQ.pickF | apply HQ.extract | apply HQ.not); (iterate 4 exact rfl))
    | ((first | apply HQ.ptrNil | apply HQ.sliceNil); (iterate 5 exact rfl))
    | (apply HQ.gyes; (iterate 3 exact rfl); (first | assumption | omega))
    | (apply HQ.gno; (iterate 3 exact rfl); (first | assumption | omega))
    | (apply HQ.gtrue; (iterate 3 exact rfl); assumption)
    | (apply HQ.gfalse; (iterate 3 exact rfl); assumption))
  refine HQ.index1 rfl rfl rfl rfl (by omega) rfl ?_
  refine HQ.load1 rfl rfl rfl (.of (Rd.ofSlc (by repeat (first | exact .here _ _ _ | apply At.there)) (by omega)) (viewsV_last s)) rfl ?_
  repeat (
    first
    | ((first | apply HQ.move | apply HQ.assign | apply HQ.nilCheck | apply HQ.len_slice); (iterate 3 exact rfl))
    | (apply HQ.fieldAddr; (iterate 3 exact rfl); exact inferInstance; exact rfl)
    | (apply HQ.load1; (iterate 3 exact rfl); apply Rd1.ofRow; (repeat (first | exact .here _ _ _ | apply At.there)); (iterate 2 exact rfl))
    | ((first | apply HQ.done0 | apply HQ.done); exact rfl)
    | ((first | apply HQ.cmp | apply HQ.build); (iterate 5 exact rfl))
    | ((first | (apply HQ.ar; (iterate 4 exact rfl)) | (apply HQ.conv_int; (iterate 2 exact rfl))); (first | (apply wr_i64_s1; omega) | (apply wr_i64_n1; omega) | (apply wr_i64_nn; omega) | (apply wr_i64; omega) | (apply wr_u64; omega) | (apply wr_u8; omega) | (apply wr_u16; omega) | rfl); exact rfl)
    | (apply HQ.pass; (iterate 2 exact rfl))
    | (apply HQ.pickT; (iterate 4 exact rfl))
    | ((first | apply HQ.pickF | apply HQ.extract | apply HQ.not); (iterate 4 exact rfl))
    | ((first | apply HQ.ptrNil | apply HQ.sliceNil); (iterate 5 exact rfl))
    | (apply HQ.gyes; (iterate 3 exact rfl); (first | assumption | omega))
    | (apply HQ.gno; (iterate 3 exact rfl); (first | assumption | omega))
    | (apply HQ.gtrue; (iterate 3 exact rfl); assumption)
    | (apply HQ.gfalse; (iterate 3 exact rfl); assumption))
  repeat (
    first
    | ((first | apply H.move | apply H.assign | apply H.nilCheck | apply H.len_slice); (iterate 3 exact rfl))
    | (apply H.fieldAddr; (iterate 3 exact rfl); exact inferInstance; exact rfl)
    | (apply H.load1; (iterate 3 exact rfl); apply Rd1.ofRow; (repeat (first | exact .here _ _ _ | apply At.there)); (iterate 2 exact rfl))
    | (first | apply H.seq | apply H.region | apply H.nil | apply H.then_normal)
    | ((first | apply H.cmp | apply H.build); (iterate 5 exact rfl))
    | ((first | (apply H.ar; (iterate 4 exact rfl)) | (apply H.conv_int; (iterate 2 exact rfl))); (first | (apply wr_i64_s1; omega) | (apply wr_i64_n1; omega) | (apply wr_i64_nn; omega) | (apply wr_i64; omega) | (apply wr_u64; omega) | (apply wr_u8; omega) | (apply wr_u16; omega) | rfl); exact rfl)
    | (apply H.pass; (iterate 2 exact rfl))
    | (apply H.pass0; exact rfl)
    | (apply H.pickT; (iterate 4 exact rfl))
    | ((first | apply H.pickF | apply H.extract | apply H.not); (iterate 4 exact rfl))
    | ((first | apply H.ptrNil | apply H.sliceNil); (iterate 5 exact rfl))
    | (apply H.store1; (iterate 4 exact rfl); (repeat (first | exact .here _ _ _ | apply At.there)); (repeat (first | exact .here _ _ _ | apply SetV.there)))
    | (apply H.cond_true; exact rfl)
    | (apply H.cond_false; exact rfl)
    | (first | apply H.skip | apply H.ret | apply H.then_ret | apply H.then_exit | apply H.exit | apply H.block | apply H.in_normal | apply H.in_ret | apply H.in_hit | apply H.loop_ret | apply H.loop_exit)
    | (apply H.in_miss; exact rfl)
    | (apply H.gyes; (iterate 3 exact rfl); (first | assumption | omega))
    | (apply H.gno; (iterate 3 exact rfl); (first | assumption | omega))
    | (apply H.cond_yes; exact rfl; (first | assumption | omega))
    | (apply H.cond_no; exact rfl; (first | assumption | omega))
    | ((first | apply H.gtrue); (iterate 3 exact rfl); assumption)
    | (apply H.gfalse; (iterate 3 exact rfl); assumption)
    | (apply H.cond_t; exact rfl; assumption)
    | (apply H.cond_f; exact rfl; assumption))
  exact H.ret1 rfl rfl pastH_fold ⟨rfl, rfl, rfl⟩

theorem new_fn : Fn Try.prog 8 [] f F (fun v f' A' => ∃ b, v = .pointer (some ⟨b, 0, none⟩) ∧ f' = f ∧ A' = pastH b PM.new :: F) := by
  refine Fn.enter Try.func8 rfl Try.ntmps8 rfl (L := []) trivial fun base => ?_
  repeat (
    first
    | ((first | apply H.move | apply H.assign | apply H.nilCheck | apply H.len_slice); (iterate 3 exact rfl))
    | (apply H.fieldAddr; (iterate 3 exact rfl); exact inferInstance; exact rfl)
    | (apply H.load1; (iterate 3 exact rfl); apply Rd1.ofRow; (repeat (first | exact .here _ _ _ | apply At.there)); (iterate 2 exact rfl))
    | (first | apply H.seq | apply H.region | apply H.nil | apply H.then_normal)
    | ((first | apply H.cmp | apply H.build); (iterate 5 exact rfl))
    | ((first | (apply H.ar; (iterate 4 exact rfl)) | (apply H.conv_int; (iterate 2 exact rfl))); (first | (apply wr_i64_s1; omega) | (apply wr_i64_n1; omega) | (apply wr_i64_nn; omega) | (apply wr_i64; omega) | (apply wr_u64; omega) | (apply wr_u8; omega) | (apply wr_u16; omega) | rfl); exact rfl)
    | (apply H.pass; (iterate 2 exact rfl))
    | (apply H.pass0; exact rfl)
    | (apply H.pickT; (iterate 4 exact rfl))
    | ((first | apply H.pickF | apply H.extract | apply H.not); (iterate 4 exact rfl))
    | ((first | apply H.ptrNil | apply H.sliceNil); (iterate 5 exact rfl))
    | (apply H.store1; (iterate 4 exact rfl); (repeat (first | exact .here _ _ _ | apply At.there)); (repeat (first | exact .here _ _ _ | apply SetV.there)))
    | (apply H.cond_true; exact rfl)
    | (apply H.cond_false; exact rfl)
    | (first | apply H.skip | apply H.ret | apply H.then_ret | apply H.then_exit | apply H.exit | apply H.block | apply H.in_normal | apply H.in_ret | apply H.in_hit | apply H.loop_ret | apply H.loop_exit)
    | (apply H.in_miss; exact rfl)
    | (apply H.gyes; (iterate 3 exact rfl); (first | assumption | omega))
    | (apply H.gno; (iterate 3 exact rfl); (first | assumption | omega))
    | (apply H.cond_yes; exact rfl; (first | assumption | omega))
    | (apply H.cond_no; exact rfl; (first | assumption | omega))
    | ((first | apply H.gtrue); (iterate 3 exact rfl); assumption)
    | (apply H.gfalse; (iterate 3 exact rfl); assumption)
    | (apply H.cond_t; exact rfl; assumption)
    | (apply H.cond_f; exact rfl; assumption))
  refine H.buildSlice rfl rfl rfl rfl (by decide) (by decide) rfl rfl fun eb => ?_
  refine H.makeMap keyU rfl rfl fun mb => ?_
  refine H.mapInsert rfl rfl rfl rfl (by repeat (first | exact .here _ _ _ | apply At.there)) rfl ?_
  repeat (
    first
    | ((first | apply H.move | apply H.assign | apply H.nilCheck | apply H.len_slice); (iterate 3 exact rfl))
    | (apply H.fieldAddr; (iterate 3 exact rfl); exact inferInstance; exact rfl)
    | (apply H.load1; (iterate 3 exact rfl); apply Rd1.ofRow; (repeat (first | exact .here _ _ _ | apply At.there)); (iterate 2 exact rfl))
    | (first | apply H.seq | apply H.region | apply H.nil | apply H.then_normal)
    | ((first | apply H.cmp | apply H.build); (iterate 5 exact rfl))
    | ((first | (apply H.ar; (iterate 4 exact rfl)) | (apply H.conv_int; (iterate 2 exact rfl))); (first | (apply wr_i64_s1; omega) | (apply wr_i64_n1; omega) | (apply wr_i64_nn; omega) | (apply wr_i64; omega) | (apply wr_u64; omega) | (apply wr_u8; omega) | (apply wr_u16; omega) | rfl); exact rfl)
    | (apply H.pass; (iterate 2 exact rfl))
    | (apply H.pass0; exact rfl)
    | (apply H.pickT; (iterate 4 exact rfl))
    | ((first | apply H.pickF | apply H.extract | apply H.not); (iterate 4 exact rfl))
    | ((first | apply H.ptrNil | apply H.sliceNil); (iterate 5 exact rfl))
    | (apply H.store1; (iterate 4 exact rfl); (repeat (first | exact .here _ _ _ | apply At.there)); (repeat (first | exact .here _ _ _ | apply SetV.there)))
    | (apply H.cond_true; exact rfl)
    | (apply H.cond_false; exact rfl)
    | (first | apply H.skip | apply H.ret | apply H.then_ret | apply H.then_exit | apply H.exit | apply H.block | apply H.in_normal | apply H.in_ret | apply H.in_hit | apply H.loop_ret | apply H.loop_exit)
    | (apply H.in_miss; exact rfl)
    | (apply H.gyes; (iterate 3 exact rfl); (first | assumption | omega))
    | (apply H.gno; (iterate 3 exact rfl); (first | assumption | omega))
    | (apply H.cond_yes; exact rfl; (first | assumption | omega))
    | (apply H.cond_no; exact rfl; (first | assumption | omega))
    | ((first | apply H.gtrue); (iterate 3 exact rfl); assumption)
    | (apply H.gfalse; (iterate 3 exact rfl); assumption)
    | (apply H.cond_t; exact rfl; assumption)
    | (apply H.cond_f; exact rfl; assumption))
  refine H.box rfl rfl rfl rfl fun b => ?_
  repeat (
    first
    | ((first | apply H.move | apply H.assign | apply H.nilCheck | apply H.len_slice); (iterate 3 exact rfl))
    | (apply H.fieldAddr; (iterate 3 exact rfl); exact inferInstance; exact rfl)
    | (apply H.load1; (iterate 3 exact rfl); apply Rd1.ofRow; (repeat (first | exact .here _ _ _ | apply At.there)); (iterate 2 exact rfl))
    | (first | apply H.seq | apply H.region | apply H.nil | apply H.then_normal)
    | ((first | apply H.cmp | apply H.build); (iterate 5 exact rfl))
    | ((first | (apply H.ar; (iterate 4 exact rfl)) | (apply H.conv_int; (iterate 2 exact rfl))); (first | (apply wr_i64_s1; omega) | (apply wr_i64_n1; omega) | (apply wr_i64_nn; omega) | (apply wr_i64; omega) | (apply wr_u64; omega) | (apply wr_u8; omega) | (apply wr_u16; omega) | rfl); exact rfl)
    | (apply H.pass; (iterate 2 exact rfl))
    | (apply H.pass0; exact rfl)
    | (apply H.pickT; (iterate 4 exact rfl))
    | ((first | apply H.pickF | apply H.extract | apply H.not); (iterate 4 exact rfl))
    | ((first | apply H.ptrNil | apply H.sliceNil); (iterate 5 exact rfl))
    | (apply H.store1; (iterate 4 exact rfl); (repeat (first | exact .here _ _ _ | apply At.there)); (repeat (first | exact .here _ _ _ | apply SetV.there)))
    | (apply H.cond_true; exact rfl)
    | (apply H.cond_false; exact rfl)
    | (first | apply H.skip | apply H.ret | apply H.then_ret | apply H.then_exit | apply H.exit | apply H.block | apply H.in_normal | apply H.in_ret | apply H.in_hit | apply H.loop_ret | apply H.loop_exit)
    | (apply H.in_miss; exact rfl)
    | (apply H.gyes; (iterate 3 exact rfl); (first | assumption | omega))
    | (apply H.gno; (iterate 3 exact rfl); (first | assumption | omega))
    | (apply H.cond_yes; exact rfl; (first | assumption | omega))
    | (apply H.cond_no; exact rfl; (first | assumption | omega))
    | ((first | apply H.gtrue); (iterate 3 exact rfl); assumption)
    | (apply H.gfalse; (iterate 3 exact rfl); assumption)
    | (apply H.cond_t; exact rfl; assumption)
    | (apply H.cond_f; exact rfl; assumption))
  refine H.ret1 rfl rfl (A' := pastH b PM.new :: F) ?_ ⟨b, rfl, rfl, rfl⟩
  intro x hx
  refine pastH_fold (eb := eb) (ec := 1) (mb := mb) x ?_
  refine keep_stars (fun y hy => ?_) x hx
  have h1 := stars_two hy
  obtain ⟨m1, m2, d, e, a, r⟩ := h1
  exact ⟨m1, m2, d, e, row_slc (by rfl) (by decide) a, r⟩

theorem open_nil (v : Int) : Fn Try.prog 25 [.pointer none, .int .u64 v] f F (Ret (.bool false) f F) := by
  refine Fn.enter Try.func25 rfl Try.ntmps25 rfl (L := [(0, _), (1, _)]) ⟨rfl, rfl, trivial⟩ fun base => ?_
  repeat (
    first
    | ((first | apply H.move | apply H.assign | apply H.nilCheck | apply H.len_slice); (iterate 3 exact rfl))
    | (apply H.fieldAddr; (iterate 3 exact rfl); exact inferInstance; exact rfl)
    | (apply H.load1; (iterate 3 exact rfl); apply Rd1.ofRow; (repeat (first | exact .here _ _ _ | apply At.there)); (iterate 2 exact rfl))
    | (first | apply H.seq | apply H.region | apply H.nil | apply H.then_normal)
    | ((first | apply H.cmp | apply H.build); (iterate 5 exact rfl))
    | ((first | (apply H.ar; (iterate 4 exact rfl)) | (apply H.conv_int; (iterate 2 exact rfl))); (first | (apply wr_i64_s1; omega) | (apply wr_i64_n1; omega) | (apply wr_i64_nn; omega) | (apply wr_i64; omega) | (apply wr_u64; omega) | (apply wr_u8; omega) | (apply wr_u16; omega) | rfl); exact rfl)
    | (apply H.pass; (iterate 2 exact rfl))
    | (apply H.pass0; exact rfl)
    | (apply H.pickT; (iterate 4 exact rfl))
    | ((first | apply H.pickF | apply H.extract | apply H.not); (iterate 4 exact rfl))
    | ((first | apply H.ptrNil | apply H.sliceNil); (iterate 5 exact rfl))
    | (apply H.store1; (iterate 4 exact rfl); (repeat (first | exact .here _ _ _ | apply At.there)); (repeat (first | exact .here _ _ _ | apply SetV.there)))
    | (apply H.cond_true; exact rfl)
    | (apply H.cond_false; exact rfl)
    | (first | apply H.skip | apply H.ret | apply H.then_ret | apply H.then_exit | apply H.exit | apply H.block | apply H.in_normal | apply H.in_ret | apply H.in_hit | apply H.loop_ret | apply H.loop_exit)
    | (apply H.in_miss; exact rfl)
    | (apply H.gyes; (iterate 3 exact rfl); (first | assumption | omega))
    | (apply H.gno; (iterate 3 exact rfl); (first | assumption | omega))
    | (apply H.cond_yes; exact rfl; (first | assumption | omega))
    | (apply H.cond_no; exact rfl; (first | assumption | omega))
    | ((first | apply H.gtrue); (iterate 3 exact rfl); assumption)
    | (apply H.gfalse; (iterate 3 exact rfl); assumption)
    | (apply H.cond_t; exact rfl; assumption)
    | (apply H.cond_f; exact rfl; assumption))
  exact H.ret1 rfl rfl (fun _ h => h) ⟨rfl, rfl, rfl⟩
theorem open_fn (hn : s.init.length ≤ 1000000) (v : Int) : Fn Try.prog 25 [.pointer (some ⟨b, 0, none⟩), .int .u64 v] f (pastH b s :: F) (Ret (.bool (s.isOpen v)) f (pastH b s :: F)) := by
  refine pastH_open fun eb ec mb => ?_
  by_cases hv : v = s.g
  · refine Fn.enter Try.func25 rfl Try.ntmps25 rfl (L := [(0, _), (1, _)]) ⟨rfl, rfl, trivial⟩ fun base => ?_
    repeat (
      first
      | ((first | apply H.move | apply H.assign | apply H.nilCheck | apply H.len_slice); (iterate 3 exact rfl))
      | (apply H.fieldAddr; (iterate 3 exact rfl); exact inferInstance; exact rfl)
      | (apply H.load1; (iterate 3 exact rfl); apply Rd1.ofRow; (repeat (first | exact .here _ _ _ | apply At.there)); (iterate 2 exact rfl))
      | (first | apply H.seq | apply H.region | apply H.nil | apply H.then_normal)
      | ((first | apply H.cmp | apply H.build); (iterate 5 exact rfl))
      | ((first | (apply H.ar; (iterate 4 exact rfl)) | (apply H.conv_int; (iterate 2 exact rfl))); (first | (apply wr_i64_s1; omega) | (apply wr_i64_n1; omega) | (apply wr_i64_nn; omega) | (apply wr_i64; omega) | (apply wr_u64; omega) | (apply wr_u8; omega) | (apply wr_u16; omega) | rfl); exact rfl)
      | (apply H.pass; (iterate 2 exact rfl))
      | (apply H.pass0; exact rfl)
      | (apply H.pickT; (iterate 4 exact rfl))
      | ((first | apply H.pickF | apply H.extract | apply H.not); (iterate 4 exact rfl))
      | ((first | apply H.ptrNil | apply H.sliceNil); (iterate 5 exact rfl))
      | (apply H.store1; (iterate 4 exact rfl); (repeat (first | exact .here _ _ _ | apply At.there)); (repeat (first | exact .here _ _ _ | apply SetV.there)))
      | (apply H.cond_true; exact rfl)
      | (apply H.cond_false; exact rfl)
      | (first | apply H.skip | apply H.ret | apply H.then_ret | apply H.then_exit | apply H.exit | apply H.block | apply H.in_normal | apply H.in_ret | apply H.in_hit | apply H.loop_ret | apply H.loop_exit)
      | (apply H.in_miss; exact rfl)
      | (apply H.gyes; (iterate 3 exact rfl); (first | assumption | omega))
      | (apply H.gno; (iterate 3 exact rfl); (first | assumption | omega))
      | (apply H.cond_yes; exact rfl; (first | assumption | omega))
      | (apply H.cond_no; exact rfl; (first | assumption | omega))
      | ((first | apply H.gtrue); (iterate 3 exact rfl); assumption)
      | (apply H.gfalse; (iterate 3 exact rfl); assumption)
      | (apply H.cond_t; exact rfl; assumption)
      | (apply H.cond_f; exact rfl; assumption))
    refine H.imp pastH_fold ?_
    refine H.call rfl rfl rfl (last_fn f F b s hn) fun _ _ _ hR => ?_
    obtain ⟨rfl, rfl, rfl⟩ := hR
    repeat (
      first
      | ((first | apply H.move | apply H.assign | apply H.nilCheck | apply H.len_slice); (iterate 3 exact rfl))
      | (apply H.fieldAddr; (iterate 3 exact rfl); exact inferInstance; exact rfl)
      | (apply H.load1; (iterate 3 exact rfl); apply Rd1.ofRow; (repeat (first | exact .here _ _ _ | apply At.there)); (iterate 2 exact rfl))
      | (first | apply H.seq | apply H.region | apply H.nil | apply H.then_normal)
      | ((first | apply H.cmp | apply H.build); (iterate 5 exact rfl))
      | ((first | (apply H.ar; (iterate 4 exact rfl)) | (apply H.conv_int; (iterate 2 exact rfl))); (first | (apply wr_i64_s1; omega) | (apply wr_i64_n1; omega) | (apply wr_i64_nn; omega) | (apply wr_i64; omega) | (apply wr_u64; omega) | (apply wr_u8; omega) | (apply wr_u16; omega) | rfl); exact rfl)
      | (apply H.pass; (iterate 2 exact rfl))
      | (apply H.pass0; exact rfl)
      | (apply H.pickT; (iterate 4 exact rfl))
      | ((first | apply H.pickF | apply H.extract | apply H.not); (iterate 4 exact rfl))
      | ((first | apply H.ptrNil | apply H.sliceNil); (iterate 5 exact rfl))
      | (apply H.store1; (iterate 4 exact rfl); (repeat (first | exact .here _ _ _ | apply At.there)); (repeat (first | exact .here _ _ _ | apply SetV.there)))
      | (apply H.cond_true; exact rfl)
      | (apply H.cond_false; exact rfl)
      | (first | apply H.skip | apply H.ret | apply H.then_ret | apply H.then_exit | apply H.exit | apply H.block | apply H.in_normal | apply H.in_ret | apply H.in_hit | apply H.loop_ret | apply H.loop_exit)
      | (apply H.in_miss; exact rfl)
      | (apply H.gyes; (iterate 3 exact rfl); (first | assumption | omega))
      | (apply H.gno; (iterate 3 exact rfl); (first | assumption | omega))
      | (apply H.cond_yes; exact rfl; (first | assumption | omega))
      | (apply H.cond_no; exact rfl; (first | assumption | omega))
      | ((first | apply H.gtrue); (iterate 3 exact rfl); assumption)
      | (apply H.gfalse; (iterate 3 exact rfl); assumption)
      | (apply H.cond_t; exact rfl; assumption)
      | (apply H.cond_f; exact rfl; assumption))
    exact H.ret1 rfl rfl (fun _ h => h) ⟨by simp [PM.isOpen, hv], rfl, rfl⟩
  · refine Fn.enter Try.func25 rfl Try.ntmps25 rfl (L := [(0, _), (1, _)]) ⟨rfl, rfl, trivial⟩ fun base => ?_
    repeat (
      first
      | ((first | apply H.move | apply H.assign | apply H.nilCheck | apply H.len_slice); (iterate 3 exact rfl))
      | (apply H.fieldAddr; (iterate 3 exact rfl); exact inferInstance; exact rfl)
      | (apply H.load1; (iterate 3 exact rfl); apply Rd1.ofRow; (repeat (first | exact .here _ _ _ | apply At.there)); (iterate 2 exact rfl))
      | (first | apply H.seq | apply H.region | apply H.nil | apply H.then_normal)
      | ((first | apply H.cmp | apply H.build); (iterate 5 exact rfl))
      | ((first | (apply H.ar; (iterate 4 exact rfl)) | (apply H.conv_int; (iterate 2 exact rfl))); (first | (apply wr_i64_s1; omega) | (apply wr_i64_n1; omega) | (apply wr_i64_nn; omega) | (apply wr_i64; omega) | (apply wr_u64; omega) | (apply wr_u8; omega) | (apply wr_u16; omega) | rfl); exact rfl)
      | (apply H.pass; (iterate 2 exact rfl))
      | (apply H.pass0; exact rfl)
      | (apply H.pickT; (iterate 4 exact rfl))
      | ((first | apply H.pickF | apply H.extract | apply H.not); (iterate 4 exact rfl))
      | ((first | apply H.ptrNil | apply H.sliceNil); (iterate 5 exact rfl))
      | (apply H.store1; (iterate 4 exact rfl); (repeat (first | exact .here _ _ _ | apply At.there)); (repeat (first | exact .here _ _ _ | apply SetV.there)))
      | (apply H.cond_true; exact rfl)
      | (apply H.cond_false; exact rfl)
      | (first | apply H.skip | apply H.ret | apply H.then_ret | apply H.then_exit | apply H.exit | apply H.block | apply H.in_normal | apply H.in_ret | apply H.in_hit | apply H.loop_ret | apply H.loop_exit)
      | (apply H.in_miss; exact rfl)
      | (apply H.gyes; (iterate 3 exact rfl); (first | assumption | omega))
      | (apply H.gno; (iterate 3 exact rfl); (first | assumption | omega))
      | (apply H.cond_yes; exact rfl; (first | assumption | omega))
      | (apply H.cond_no; exact rfl; (first | assumption | omega))
      | ((first | apply H.gtrue); (iterate 3 exact rfl); assumption)
      | (apply H.gfalse; (iterate 3 exact rfl); assumption)
      | (apply H.cond_t; exact rfl; assumption)
      | (apply H.cond_f; exact rfl; assumption))
    exact H.ret1 rfl rfl pastH_fold ⟨by simp [PM.isOpen, hv], rfl, rfl⟩

theorem greatest_nil : Fn Try.prog 12 [.pointer none] f F (Ret (.int .u64 0) f F) := by
  refine Fn.enter Try.func12 rfl Try.ntmps12 rfl (L := [(0, _)]) ⟨rfl, trivial⟩ fun base => ?_
  repeat (
    first
    | ((first | apply H.move | apply H.assign | apply H.nilCheck | apply H.len_slice); (iterate 3 exact rfl))
    | (apply H.fieldAddr; (iterate 3 exact rfl); exact inferInstance; exact rfl)
    | (apply H.load1; (iterate 3 exact rfl); apply Rd1.ofRow; (repeat (first | exact .here _ _ _ | apply At.there)); (iterate 2 exact rfl))
    | (first | apply H.seq | apply H.region | apply H.nil | apply H.then_normal)
    | ((first | apply H.cmp | apply H.build); (iterate 5 exact rfl))
    | ((first | (apply H.ar; (iterate 4 exact rfl)) | (apply H.conv_int; (iterate 2 exact rfl))); (first | (apply wr_i64_s1; omega) | (apply wr_i64_n1; omega) | (apply wr_i64_nn; omega) | (apply wr_i64; omega) | (apply wr_u64; omega) | (apply wr_u8; omega) | (apply wr_u16; omega) | rfl); exact rfl)
    | (apply H.pass; (iterate 2 exact rfl))
    | (apply H.pass0; exact rfl)
    | (apply H.pickT; (iterate 4 exact rfl))
    | ((first | apply H.pickF | apply H.extract | apply H.not); (iterate 4 exact rfl))
    | ((first | apply H.ptrNil | apply H.sliceNil); (iterate 5 exact rfl))
    | (apply H.store1; (iterate 4 exact rfl); (repeat (first | exact .here _ _ _ | apply At.there)); (repeat (first | exact .here _ _ _ | apply SetV.there)))
    | (apply H.cond_true; exact rfl)
    | (apply H.cond_false; exact rfl)
    | (first | apply H.skip | apply H.ret | apply H.then_ret | apply H.then_exit | apply H.exit | apply H.block | apply H.in_normal | apply H.in_ret | apply H.in_hit | apply H.loop_ret | apply H.loop_exit)
    | (apply H.in_miss; exact rfl)
    | (apply H.gyes; (iterate 3 exact rfl); (first | assumption | omega))
    | (apply H.gno; (iterate 3 exact rfl); (first | assumption | omega))
    | (apply H.cond_yes; exact rfl; (first | assumption | omega))
    | (apply H.cond_no; exact rfl; (first | assumption | omega))
    | ((first | apply H.gtrue); (iterate 3 exact rfl); assumption)
    | (apply H.gfalse; (iterate 3 exact rfl); assumption)
    | (apply H.cond_t; exact rfl; assumption)
    | (apply H.cond_f; exact rfl; assumption))
  exact H.ret1 rfl rfl (fun _ h => h) ⟨rfl, rfl, rfl⟩
theorem greatest_fn : Fn Try.prog 12 [.pointer (some ⟨b, 0, none⟩)] f (pastH b s :: F) (Ret (.int .u64 s.g) f (pastH b s :: F)) := by
  refine pastH_open fun eb ec mb => ?_
  refine Fn.enter Try.func12 rfl Try.ntmps12 rfl (L := [(0, _)]) ⟨rfl, trivial⟩ fun base => ?_
  repeat (
    first
    | ((first | apply H.move | apply H.assign | apply H.nilCheck | apply H.len_slice); (iterate 3 exact rfl))
    | (apply H.fieldAddr; (iterate 3 exact rfl); exact inferInstance; exact rfl)
    | (apply H.load1; (iterate 3 exact rfl); apply Rd1.ofRow; (repeat (first | exact .here _ _ _ | apply At.there)); (iterate 2 exact rfl))
    | (first | apply H.seq | apply H.region | apply H.nil | apply H.then_normal)
    | ((first | apply H.cmp | apply H.build); (iterate 5 exact rfl))
    | ((first | (apply H.ar; (iterate 4 exact rfl)) | (apply H.conv_int; (iterate 2 exact rfl))); (first | (apply wr_i64_s1; omega) | (apply wr_i64_n1; omega) | (apply wr_i64_nn; omega) | (apply wr_i64; omega) | (apply wr_u64; omega) | (apply wr_u8; omega) | (apply wr_u16; omega) | rfl); exact rfl)
    | (apply H.pass; (iterate 2 exact rfl))
    | (apply H.pass0; exact rfl)
    | (apply H.pickT; (iterate 4 exact rfl))
    | ((first | apply H.pickF | apply H.extract | apply H.not); (iterate 4 exact rfl))
    | ((first | apply H.ptrNil | apply H.sliceNil); (iterate 5 exact rfl))
    | (apply H.store1; (iterate 4 exact rfl); (repeat (first | exact .here _ _ _ | apply At.there)); (repeat (first | exact .here _ _ _ | apply SetV.there)))
    | (apply H.cond_true; exact rfl)
    | (apply H.cond_false; exact rfl)
    | (first | apply H.skip | apply H.ret | apply H.then_ret | apply H.then_exit | apply H.exit | apply H.block | apply H.in_normal | apply H.in_ret | apply H.in_hit | apply H.loop_ret | apply H.loop_exit)
    | (apply H.in_miss; exact rfl)
    | (apply H.gyes; (iterate 3 exact rfl); (first | assumption | omega))
    | (apply H.gno; (iterate 3 exact rfl); (first | assumption | omega))
    | (apply H.cond_yes; exact rfl; (first | assumption | omega))
    | (apply H.cond_no; exact rfl; (first | assumption | omega))
    | ((first | apply H.gtrue); (iterate 3 exact rfl); assumption)
    | (apply H.gfalse; (iterate 3 exact rfl); assumption)
    | (apply H.cond_t; exact rfl; assumption)
    | (apply H.cond_f; exact rfl; assumption))
  exact H.ret1 rfl rfl pastH_fold ⟨rfl, rfl, rfl⟩

theorem change_nil (v : Int) : Fn Try.prog 17 [.pointer none, .int .u64 v] f F (Ret (.bool false) f F) := by
  refine Fn.enter Try.func17 rfl Try.ntmps17 rfl (L := [(0, _), (1, _)]) ⟨rfl, rfl, trivial⟩ fun base => ?_
  repeat (
    first
    | ((first | apply H.move | apply H.assign | apply H.nilCheck | apply H.len_slice); (iterate 3 exact rfl))
    | (apply H.fieldAddr; (iterate 3 exact rfl); exact inferInstance; exact rfl)
    | (apply H.load1; (iterate 3 exact rfl); apply Rd1.ofRow; (repeat (first | exact .here _ _ _ | apply At.there)); (iterate 2 exact rfl))
    | (first | apply H.seq | apply H.region | apply H.nil | apply H.then_normal)
    | ((first | apply H.cmp | apply H.build); (iterate 5 exact rfl))
    | ((first | (apply H.ar; (iterate 4 exact rfl)) | (apply H.conv_int; (iterate 2 exact rfl))); (first | (apply wr_i64_s1; omega) | (apply wr_i64_n1; omega) | (apply wr_i64_nn; omega) | (apply wr_i64; omega) | (apply wr_u64; omega) | (apply wr_u8; omega) | (apply wr_u16; omega) | rfl); exact rfl)
    | (apply H.pass; (iterate 2 exact rfl))
    | (apply H.pass0; exact rfl)
    | (apply H.pickT; (iterate 4 exact rfl))
    | ((first | apply H.pickF | apply H.extract | apply H.not); (iterate 4 exact rfl))
    | ((first | apply H.ptrNil | apply H.sliceNil); (iterate 5 exact rfl))
    | (apply H.store1; (iterate 4 exact rfl); (repeat (first | exact .here _ _ _ | apply At.there)); (repeat (first | exact .here _ _ _ | apply SetV.there)))
    | (apply H.cond_true; exact rfl)
    | (apply H.cond_false; exact rfl)
    | (first | apply H.skip | apply H.ret | apply H.then_ret | apply H.then_exit | apply H.exit | apply H.block | apply H.in_normal | apply H.in_ret | apply H.in_hit | apply H.loop_ret | apply H.loop_exit)
    | (apply H.in_miss; exact rfl)
    | (apply H.gyes; (iterate 3 exact rfl); (first | assumption | omega))
    | (apply H.gno; (iterate 3 exact rfl); (first | assumption | omega))
    | (apply H.cond_yes; exact rfl; (first | assumption | omega))
    | (apply H.cond_no; exact rfl; (first | assumption | omega))
    | ((first | apply H.gtrue); (iterate 3 exact rfl); assumption)
    | (apply H.gfalse; (iterate 3 exact rfl); assumption)
    | (apply H.cond_t; exact rfl; assumption)
    | (apply H.cond_f; exact rfl; assumption))
  exact H.ret1 rfl rfl (fun _ h => h) ⟨rfl, rfl, rfl⟩
theorem change_fn (v : Int) : Fn Try.prog 17 [.pointer (some ⟨b, 0, none⟩), .int .u64 v] f (pastH b s :: F) (Ret (.bool (s.changeOk v)) f (pastH b (s.change v) :: F)) := by
  refine pastH_open fun eb ec mb => ?_
  by_cases h1 : v ≤ s.g
  · refine Fn.enter Try.func17 rfl Try.ntmps17 rfl (L := [(0, _), (1, _)]) ⟨rfl, rfl, trivial⟩ fun base => ?_
    repeat (
      first
      | ((first | apply H.move | apply H.assign | apply H.nilCheck | apply H.len_slice); (iterate 3 exact rfl))
      | (apply H.fieldAddr; (iterate 3 exact rfl); exact inferInstance; exact rfl)
      | (apply H.load1; (iterate 3 exact rfl); apply Rd1.ofRow; (repeat (first | exact .here _ _ _ | apply At.there)); (iterate 2 exact rfl))
      | (first | apply H.seq | apply H.region | apply H.nil | apply H.then_normal)
      | ((first | apply H.cmp | apply H.build); (iterate 5 exact rfl))
      | ((first | (apply H.ar; (iterate 4 exact rfl)) | (apply H.conv_int; (iterate 2 exact rfl))); (first | (apply wr_i64_s1; omega) | (apply wr_i64_n1; omega) | (apply wr_i64_nn; omega) | (apply wr_i64; omega) | (apply wr_u64; omega) | (apply wr_u8; omega) | (apply wr_u16; omega) | rfl); exact rfl)
      | (apply H.pass; (iterate 2 exact rfl))
      | (apply H.pass0; exact rfl)
      | (apply H.pickT; (iterate 4 exact rfl))
      | ((first | apply H.pickF | apply H.extract | apply H.not); (iterate 4 exact rfl))
      | ((first | apply H.ptrNil | apply H.sliceNil); (iterate 5 exact rfl))
      | (apply H.store1; (iterate 4 exact rfl); (repeat (first | exact .here _ _ _ | apply At.there)); (repeat (first | exact .here _ _ _ | apply SetV.there)))
      | (apply H.cond_true; exact rfl)
      | (apply H.cond_false; exact rfl)
      | (first | apply H.skip | apply H.ret | apply H.then_ret | apply H.then_exit | apply H.exit | apply H.block | apply H.in_normal | apply H.in_ret | apply H.in_hit | apply H.loop_ret | apply H.loop_exit)
      | (apply H.in_miss; exact rfl)
      | (apply H.gyes; (iterate 3 exact rfl); (first | assumption | omega))
      | (apply H.gno; (iterate 3 exact rfl); (first | assumption | omega))
      | (apply H.cond_yes; exact rfl; (first | assumption | omega))
      | (apply H.cond_no; exact rfl; (first | assumption | omega))
      | ((first | apply H.gtrue); (iterate 3 exact rfl); assumption)
      | (apply H.gfalse; (iterate 3 exact rfl); assumption)
      | (apply H.cond_t; exact rfl; assumption)
      | (apply H.cond_f; exact rfl; assumption))
    have e : s.changeOk v = false := by simp [PM.changeOk]; omega
    exact H.ret1 rfl rfl pastH_fold ⟨by rw [e], rfl, by simp [PM.change, e]⟩
  · by_cases h2 : 1073741824 ≤ v
    · refine Fn.enter Try.func17 rfl Try.ntmps17 rfl (L := [(0, _), (1, _)]) ⟨rfl, rfl, trivial⟩ fun base => ?_
      repeat (
        first
        | ((first | apply H.move | apply H.assign | apply H.nilCheck | apply H.len_slice); (iterate 3 exact rfl))
        | (apply H.fieldAddr; (iterate 3 exact rfl); exact inferInstance; exact rfl)
        | (apply H.load1; (iterate 3 exact rfl); apply Rd1.ofRow; (repeat (first | exact .here _ _ _ | apply At.there)); (iterate 2 exact rfl))
        | (first | apply H.seq | apply H.region | apply H.nil | apply H.then_normal)
        | ((first | apply H.cmp | apply H.build); (iterate 5 exact rfl))
        | ((first | (apply H.ar; (iterate 4 exact rfl)) | (apply H.conv_int; (iterate 2 exact rfl))); (first | (apply wr_i64_s1; omega) | (apply wr_i64_n1; omega) | (apply wr_i64_nn; omega) | (apply wr_i64; omega) | (apply wr_u64; omega) | (apply wr_u8; omega) | (apply wr_u16; omega) | rfl); exact rfl)
        | (apply H.pass; (iterate 2 exact rfl))
        | (apply H.pass0; exact rfl)
        | (apply H.pickT; (iterate 4 exact rfl))
        | ((first | apply H.pickF | apply H.extract | apply H.not); (iterate 4 exact rfl))
        | ((first | apply H.ptrNil | apply H.sliceNil); (iterate 5 exact rfl))
        | (apply H.store1; (iterate 4 exact rfl); (repeat (first | exact .here _ _ _ | apply At.there)); (repeat (first | exact .here _ _ _ | apply SetV.there)))
        | (apply H.cond_true; exact rfl)
        | (apply H.cond_false; exact rfl)
        | (first | apply H.skip | apply H.ret | apply H.then_ret | apply H.then_exit | apply H.exit | apply H.block | apply H.in_normal | apply H.in_ret | apply H.in_hit | apply H.loop_ret | apply H.loop_exit)
        | (apply H.in_miss; exact rfl)
        | (apply H.gyes; (iterate 3 exact rfl); (first | assumption | omega))
        | (apply H.gno; (iterate 3 exact rfl); (first | assumption | omega))
        | (apply H.cond_yes; exact rfl; (first | assumption | omega))
        | (apply H.cond_no; exact rfl; (first | assumption | omega))
        | ((first | apply H.gtrue); (iterate 3 exact rfl); assumption)
        | (apply H.gfalse; (iterate 3 exact rfl); assumption)
        | (apply H.cond_t; exact rfl; assumption)
        | (apply H.cond_f; exact rfl; assumption))
      have e : s.changeOk v = false := by simp [PM.changeOk]; omega
      exact H.ret1 rfl rfl pastH_fold ⟨by rw [e], rfl, by simp [PM.change, e]⟩
    · refine Fn.enter Try.func17 rfl Try.ntmps17 rfl (L := [(0, _), (1, _)]) ⟨rfl, rfl, trivial⟩ fun base => ?_
      repeat (
        first
        | ((first | apply H.move | apply H.assign | apply H.nilCheck | apply H.len_slice); (iterate 3 exact rfl))
        | (apply H.fieldAddr; (iterate 3 exact rfl); exact inferInstance; exact rfl)
        | (apply H.load1; (iterate 3 exact rfl); apply Rd1.ofRow; (repeat (first | exact .here _ _ _ | apply At.there)); (iterate 2 exact rfl))
        | (first | apply H.seq | apply H.region | apply H.nil | apply H.then_normal)
        | ((first | apply H.cmp | apply H.build); (iterate 5 exact rfl))
        | ((first | (apply H.ar; (iterate 4 exact rfl)) | (apply H.conv_int; (iterate 2 exact rfl))); (first | (apply wr_i64_s1; omega) | (apply wr_i64_n1; omega) | (apply wr_i64_nn; omega) | (apply wr_i64; omega) | (apply wr_u64; omega) | (apply wr_u8; omega) | (apply wr_u16; omega) | rfl); exact rfl)
        | (apply H.pass; (iterate 2 exact rfl))
        | (apply H.pass0; exact rfl)
        | (apply H.pickT; (iterate 4 exact rfl))
        | ((first | apply H.pickF | apply H.extract | apply H.not); (iterate 4 exact rfl))
        | ((first | apply H.ptrNil | apply H.sliceNil); (iterate 5 exact rfl))
        | (apply H.store1; (iterate 4 exact rfl); (repeat (first | exact .here _ _ _ | apply At.there)); (repeat (first | exact .here _ _ _ | apply SetV.there)))
        | (apply H.cond_true; exact rfl)
        | (apply H.cond_false; exact rfl)
        | (first | apply H.skip | apply H.ret | apply H.then_ret | apply H.then_exit | apply H.exit | apply H.block | apply H.in_normal | apply H.in_ret | apply H.in_hit | apply H.loop_ret | apply H.loop_exit)
        | (apply H.in_miss; exact rfl)
        | (apply H.gyes; (iterate 3 exact rfl); (first | assumption | omega))
        | (apply H.gno; (iterate 3 exact rfl); (first | assumption | omega))
        | (apply H.cond_yes; exact rfl; (first | assumption | omega))
        | (apply H.cond_no; exact rfl; (first | assumption | omega))
        | ((first | apply H.gtrue); (iterate 3 exact rfl); assumption)
        | (apply H.gfalse; (iterate 3 exact rfl); assumption)
        | (apply H.cond_t; exact rfl; assumption)
        | (apply H.cond_f; exact rfl; assumption))
      have e : s.changeOk v = true := by simp [PM.changeOk]; omega
      refine H.ret1 rfl rfl (A' := pastH b (s.change v) :: F) ?_ ⟨by rw [e], rfl, rfl⟩
      rw [show s.change v = { s with g := v } by simp [PM.change, e]]
      exact pastH_fold (s := { s with g := v })

theorem enter_nil (v k : Int) : Fn Try.prog 18 [.pointer none, .int .u64 v, .int .i64 k] f F (Ret (.bool false) f F) := by
  refine Fn.enter Try.func18 rfl Try.ntmps18 rfl (L := [(0, _), (1, _), (2, _)]) ⟨rfl, rfl, rfl, trivial⟩ fun base => ?_
  repeat (
    first
    | ((first | apply H.move | apply H.assign | apply H.nilCheck | apply H.len_slice); (iterate 3 exact rfl))
    | (apply H.fieldAddr; (iterate 3 exact rfl); exact inferInstance; exact rfl)
    | (apply H.load1; (iterate 3 exact rfl); apply Rd1.ofRow; (repeat (first | exact .here _ _ _ | apply At.there)); (iterate 2 exact rfl))
    | (first | apply H.seq | apply H.region | apply H.nil | apply H.then_normal)
    | ((first | apply H.cmp | apply H.build); (iterate 5 exact rfl))
    | ((first | (apply H.ar; (iterate 4 exact rfl)) | (apply H.conv_int; (iterate 2 exact rfl))); (first | (apply wr_i64_s1; omega) | (apply wr_i64_n1; omega) | (apply wr_i64_nn; omega) | (apply wr_i64; omega) | (apply wr_u64; omega) | (apply wr_u8; omega) | (apply wr_u16; omega) | rfl); exact rfl)
    | (apply H.pass; (iterate 2 exact rfl))
    | (apply H.pass0; exact rfl)
    | (apply H.pickT; (iterate 4 exact rfl))
    | ((first | apply H.pickF | apply H.extract | apply H.not); (iterate 4 exact rfl))
    | ((first | apply H.ptrNil | apply H.sliceNil); (iterate 5 exact rfl))
    | (apply H.store1; (iterate 4 exact rfl); (repeat (first | exact .here _ _ _ | apply At.there)); (repeat (first | exact .here _ _ _ | apply SetV.there)))
    | (apply H.cond_true; exact rfl)
    | (apply H.cond_false; exact rfl)
    | (first | apply H.skip | apply H.ret | apply H.then_ret | apply H.then_exit | apply H.exit | apply H.block | apply H.in_normal | apply H.in_ret | apply H.in_hit | apply H.loop_ret | apply H.loop_exit)
    | (apply H.in_miss; exact rfl)
    | (apply H.gyes; (iterate 3 exact rfl); (first | assumption | omega))
    | (apply H.gno; (iterate 3 exact rfl); (first | assumption | omega))
    | (apply H.cond_yes; exact rfl; (first | assumption | omega))
    | (apply H.cond_no; exact rfl; (first | assumption | omega))
    | ((first | apply H.gtrue); (iterate 3 exact rfl); assumption)
    | (apply H.gfalse; (iterate 3 exact rfl); assumption)
    | (apply H.cond_t; exact rfl; assumption)
    | (apply H.cond_f; exact rfl; assumption))
  exact H.ret1 rfl rfl (fun _ h => h) ⟨rfl, rfl, rfl⟩
theorem prepare_nil (v : Int) : Fn Try.prog 19 [.pointer none, .int .u64 v] f F (Ret (.bool false) f F) := by
  refine Fn.enter Try.func19 rfl Try.ntmps19 rfl (L := [(0, _), (1, _)]) ⟨rfl, rfl, trivial⟩ fun base => ?_
  repeat (
    first
    | ((first | apply H.move | apply H.assign | apply H.nilCheck | apply H.len_slice); (iterate 3 exact rfl))
    | (apply H.fieldAddr; (iterate 3 exact rfl); exact inferInstance; exact rfl)
    | (apply H.load1; (iterate 3 exact rfl); apply Rd1.ofRow; (repeat (first | exact .here _ _ _ | apply At.there)); (iterate 2 exact rfl))
    | (first | apply H.seq | apply H.region | apply H.nil | apply H.then_normal)
    | ((first | apply H.cmp | apply H.build); (iterate 5 exact rfl))
    | ((first | (apply H.ar; (iterate 4 exact rfl)) | (apply H.conv_int; (iterate 2 exact rfl))); (first | (apply wr_i64_s1; omega) | (apply wr_i64_n1; omega) | (apply wr_i64_nn; omega) | (apply wr_i64; omega) | (apply wr_u64; omega) | (apply wr_u8; omega) | (apply wr_u16; omega) | rfl); exact rfl)
    | (apply H.pass; (iterate 2 exact rfl))
    | (apply H.pass0; exact rfl)
    | (apply H.pickT; (iterate 4 exact rfl))
    | ((first | apply H.pickF | apply H.extract | apply H.not); (iterate 4 exact rfl))
    | ((first | apply H.ptrNil | apply H.sliceNil); (iterate 5 exact rfl))
    | (apply H.store1; (iterate 4 exact rfl); (repeat (first | exact .here _ _ _ | apply At.there)); (repeat (first | exact .here _ _ _ | apply SetV.there)))
    | (apply H.cond_true; exact rfl)
    | (apply H.cond_false; exact rfl)
    | (first | apply H.skip | apply H.ret | apply H.then_ret | apply H.then_exit | apply H.exit | apply H.block | apply H.in_normal | apply H.in_ret | apply H.in_hit | apply H.loop_ret | apply H.loop_exit)
    | (apply H.in_miss; exact rfl)
    | (apply H.gyes; (iterate 3 exact rfl); (first | assumption | omega))
    | (apply H.gno; (iterate 3 exact rfl); (first | assumption | omega))
    | (apply H.cond_yes; exact rfl; (first | assumption | omega))
    | (apply H.cond_no; exact rfl; (first | assumption | omega))
    | ((first | apply H.gtrue); (iterate 3 exact rfl); assumption)
    | (apply H.gfalse; (iterate 3 exact rfl); assumption)
    | (apply H.cond_t; exact rfl; assumption)
    | (apply H.cond_f; exact rfl; assumption))
  refine H.call rfl rfl rfl (open_nil f F v) fun _ _ _ hR => ?_
  obtain ⟨rfl, rfl, rfl⟩ := hR
  repeat (
    first
    | ((first | apply H.move | apply H.assign | apply H.nilCheck | apply H.len_slice); (iterate 3 exact rfl))
    | (apply H.fieldAddr; (iterate 3 exact rfl); exact inferInstance; exact rfl)
    | (apply H.load1; (iterate 3 exact rfl); apply Rd1.ofRow; (repeat (first | exact .here _ _ _ | apply At.there)); (iterate 2 exact rfl))
    | (first | apply H.seq | apply H.region | apply H.nil | apply H.then_normal)
    | ((first | apply H.cmp | apply H.build); (iterate 5 exact rfl))
    | ((first | (apply H.ar; (iterate 4 exact rfl)) | (apply H.conv_int; (iterate 2 exact rfl))); (first | (apply wr_i64_s1; omega) | (apply wr_i64_n1; omega) | (apply wr_i64_nn; omega) | (apply wr_i64; omega) | (apply wr_u64; omega) | (apply wr_u8; omega) | (apply wr_u16; omega) | rfl); exact rfl)
    | (apply H.pass; (iterate 2 exact rfl))
    | (apply H.pass0; exact rfl)
    | (apply H.pickT; (iterate 4 exact rfl))
    | ((first | apply H.pickF | apply H.extract | apply H.not); (iterate 4 exact rfl))
    | ((first | apply H.ptrNil | apply H.sliceNil); (iterate 5 exact rfl))
    | (apply H.store1; (iterate 4 exact rfl); (repeat (first | exact .here _ _ _ | apply At.there)); (repeat (first | exact .here _ _ _ | apply SetV.there)))
    | (apply H.cond_true; exact rfl)
    | (apply H.cond_false; exact rfl)
    | (first | apply H.skip | apply H.ret | apply H.then_ret | apply H.then_exit | apply H.exit | apply H.block | apply H.in_normal | apply H.in_ret | apply H.in_hit | apply H.loop_ret | apply H.loop_exit)
    | (apply H.in_miss; exact rfl)
    | (apply H.gyes; (iterate 3 exact rfl); (first | assumption | omega))
    | (apply H.gno; (iterate 3 exact rfl); (first | assumption | omega))
    | (apply H.cond_yes; exact rfl; (first | assumption | omega))
    | (apply H.cond_no; exact rfl; (first | assumption | omega))
    | ((first | apply H.gtrue); (iterate 3 exact rfl); assumption)
    | (apply H.gfalse; (iterate 3 exact rfl); assumption)
    | (apply H.cond_t; exact rfl; assumption)
    | (apply H.cond_f; exact rfl; assumption))
  exact H.ret1 rfl rfl (fun _ h => h) ⟨rfl, rfl, rfl⟩
theorem commit_nil (v k m : Int) : Fn Try.prog 16 [.pointer none, .int .u64 v, .int .u64 k, .int .i64 m] f F (Ret (.bool false) f F) := by
  refine Fn.enter Try.func16 rfl Try.ntmps16 rfl (L := [(0, _), (1, _), (2, _), (3, _)]) ⟨rfl, rfl, rfl, rfl, trivial⟩ fun base => ?_
  repeat (
    first
    | ((first | apply H.move | apply H.assign | apply H.nilCheck | apply H.len_slice); (iterate 3 exact rfl))
    | (apply H.fieldAddr; (iterate 3 exact rfl); exact inferInstance; exact rfl)
    | (apply H.load1; (iterate 3 exact rfl); apply Rd1.ofRow; (repeat (first | exact .here _ _ _ | apply At.there)); (iterate 2 exact rfl))
    | (first | apply H.seq | apply H.region | apply H.nil | apply H.then_normal)
    | ((first | apply H.cmp | apply H.build); (iterate 5 exact rfl))
    | ((first | (apply H.ar; (iterate 4 exact rfl)) | (apply H.conv_int; (iterate 2 exact rfl))); (first | (apply wr_i64_s1; omega) | (apply wr_i64_n1; omega) | (apply wr_i64_nn; omega) | (apply wr_i64; omega) | (apply wr_u64; omega) | (apply wr_u8; omega) | (apply wr_u16; omega) | rfl); exact rfl)
    | (apply H.pass; (iterate 2 exact rfl))
    | (apply H.pass0; exact rfl)
    | (apply H.pickT; (iterate 4 exact rfl))
    | ((first | apply H.pickF | apply H.extract | apply H.not); (iterate 4 exact rfl))
    | ((first | apply H.ptrNil | apply H.sliceNil); (iterate 5 exact rfl))
    | (apply H.store1; (iterate 4 exact rfl); (repeat (first | exact .here _ _ _ | apply At.there)); (repeat (first | exact .here _ _ _ | apply SetV.there)))
    | (apply H.cond_true; exact rfl)
    | (apply H.cond_false; exact rfl)
    | (first | apply H.skip | apply H.ret | apply H.then_ret | apply H.then_exit | apply H.exit | apply H.block | apply H.in_normal | apply H.in_ret | apply H.in_hit | apply H.loop_ret | apply H.loop_exit)
    | (apply H.in_miss; exact rfl)
    | (apply H.gyes; (iterate 3 exact rfl); (first | assumption | omega))
    | (apply H.gno; (iterate 3 exact rfl); (first | assumption | omega))
    | (apply H.cond_yes; exact rfl; (first | assumption | omega))
    | (apply H.cond_no; exact rfl; (first | assumption | omega))
    | ((first | apply H.gtrue); (iterate 3 exact rfl); assumption)
    | (apply H.gfalse; (iterate 3 exact rfl); assumption)
    | (apply H.cond_t; exact rfl; assumption)
    | (apply H.cond_f; exact rfl; assumption))
  refine H.call rfl rfl rfl (open_nil f F v) fun _ _ _ hR => ?_
  obtain ⟨rfl, rfl, rfl⟩ := hR
  repeat (
    first
    | ((first | apply H.move | apply H.assign | apply H.nilCheck | apply H.len_slice); (iterate 3 exact rfl))
    | (apply H.fieldAddr; (iterate 3 exact rfl); exact inferInstance; exact rfl)
    | (apply H.load1; (iterate 3 exact rfl); apply Rd1.ofRow; (repeat (first | exact .here _ _ _ | apply At.there)); (iterate 2 exact rfl))
    | (first | apply H.seq | apply H.region | apply H.nil | apply H.then_normal)
    | ((first | apply H.cmp | apply H.build); (iterate 5 exact rfl))
    | ((first | (apply H.ar; (iterate 4 exact rfl)) | (apply H.conv_int; (iterate 2 exact rfl))); (first | (apply wr_i64_s1; omega) | (apply wr_i64_n1; omega) | (apply wr_i64_nn; omega) | (apply wr_i64; omega) | (apply wr_u64; omega) | (apply wr_u8; omega) | (apply wr_u16; omega) | rfl); exact rfl)
    | (apply H.pass; (iterate 2 exact rfl))
    | (apply H.pass0; exact rfl)
    | (apply H.pickT; (iterate 4 exact rfl))
    | ((first | apply H.pickF | apply H.extract | apply H.not); (iterate 4 exact rfl))
    | ((first | apply H.ptrNil | apply H.sliceNil); (iterate 5 exact rfl))
    | (apply H.store1; (iterate 4 exact rfl); (repeat (first | exact .here _ _ _ | apply At.there)); (repeat (first | exact .here _ _ _ | apply SetV.there)))
    | (apply H.cond_true; exact rfl)
    | (apply H.cond_false; exact rfl)
    | (first | apply H.skip | apply H.ret | apply H.then_ret | apply H.then_exit | apply H.exit | apply H.block | apply H.in_normal | apply H.in_ret | apply H.in_hit | apply H.loop_ret | apply H.loop_exit)
    | (apply H.in_miss; exact rfl)
    | (apply H.gyes; (iterate 3 exact rfl); (first | assumption | omega))
    | (apply H.gno; (iterate 3 exact rfl); (first | assumption | omega))
    | (apply H.cond_yes; exact rfl; (first | assumption | omega))
    | (apply H.cond_no; exact rfl; (first | assumption | omega))
    | ((first | apply H.gtrue); (iterate 3 exact rfl); assumption)
    | (apply H.gfalse; (iterate 3 exact rfl); assumption)
    | (apply H.cond_t; exact rfl; assumption)
    | (apply H.cond_f; exact rfl; assumption))
  exact H.ret1 rfl rfl (fun _ h => h) ⟨rfl, rfl, rfl⟩
theorem voted_nil (v : Int) : Fn Try.prog 13 [.pointer none, .int .u64 v] f F (Ret (.tuple #[.int .i64 0, .bool false]) f F) := by
  refine Fn.enter Try.func13 rfl Try.ntmps13 rfl (L := [(0, _), (1, _)]) ⟨rfl, rfl, trivial⟩ fun base => ?_
  repeat (
    first
    | ((first | apply H.move | apply H.assign | apply H.nilCheck | apply H.len_slice); (iterate 3 exact rfl))
    | (apply H.fieldAddr; (iterate 3 exact rfl); exact inferInstance; exact rfl)
    | (apply H.load1; (iterate 3 exact rfl); apply Rd1.ofRow; (repeat (first | exact .here _ _ _ | apply At.there)); (iterate 2 exact rfl))
    | (first | apply H.seq | apply H.region | apply H.nil | apply H.then_normal)
    | ((first | apply H.cmp | apply H.build); (iterate 5 exact rfl))
    | ((first | (apply H.ar; (iterate 4 exact rfl)) | (apply H.conv_int; (iterate 2 exact rfl))); (first | (apply wr_i64_s1; omega) | (apply wr_i64_n1; omega) | (apply wr_i64_nn; omega) | (apply wr_i64; omega) | (apply wr_u64; omega) | (apply wr_u8; omega) | (apply wr_u16; omega) | rfl); exact rfl)
    | (apply H.pass; (iterate 2 exact rfl))
    | (apply H.pass0; exact rfl)
    | (apply H.pickT; (iterate 4 exact rfl))
    | ((first | apply H.pickF | apply H.extract | apply H.not); (iterate 4 exact rfl))
    | ((first | apply H.ptrNil | apply H.sliceNil); (iterate 5 exact rfl))
    | (apply H.store1; (iterate 4 exact rfl); (repeat (first | exact .here _ _ _ | apply At.there)); (repeat (first | exact .here _ _ _ | apply SetV.there)))
    | (apply H.cond_true; exact rfl)
    | (apply H.cond_false; exact rfl)
    | (first | apply H.skip | apply H.ret | apply H.then_ret | apply H.then_exit | apply H.exit | apply H.block | apply H.in_normal | apply H.in_ret | apply H.in_hit | apply H.loop_ret | apply H.loop_exit)
    | (apply H.in_miss; exact rfl)
    | (apply H.gyes; (iterate 3 exact rfl); (first | assumption | omega))
    | (apply H.gno; (iterate 3 exact rfl); (first | assumption | omega))
    | (apply H.cond_yes; exact rfl; (first | assumption | omega))
    | (apply H.cond_no; exact rfl; (first | assumption | omega))
    | ((first | apply H.gtrue); (iterate 3 exact rfl); assumption)
    | (apply H.gfalse; (iterate 3 exact rfl); assumption)
    | (apply H.cond_t; exact rfl; assumption)
    | (apply H.cond_f; exact rfl; assumption))
  exact H.ret2 rfl rfl rfl (fun _ h => h) ⟨rfl, rfl, rfl⟩
theorem voted_fn (v : Int) : Fn Try.prog 13 [.pointer (some ⟨b, 0, none⟩), .int .u64 v] f (pastH b s :: F) (Ret (.tuple #[.int .i64 ((PM.voted s.all v).getD 0), .bool (PM.voted s.all v).isSome]) f (pastH b s :: F)) := by
  refine pastH_open fun eb ec mb => ?_
  have hg : (getKV (PM.kv s.all) v).getD (.int .i64 0) = .int .i64 ((PM.voted s.all v).getD 0) := by
    rw [PM.getKV_kv]; cases PM.voted s.all v <;> rfl
  have hi : (getKV (PM.kv s.all) v).isSome = (PM.voted s.all v).isSome := by
    rw [PM.getKV_kv]; cases PM.voted s.all v <;> rfl
  refine Fn.enter Try.func13 rfl Try.ntmps13 rfl (L := [(0, _), (1, _)]) ⟨rfl, rfl, trivial⟩ fun base => ?_
  repeat (
    first
    | ((first | apply H.move | apply H.assign | apply H.nilCheck | apply H.len_slice); (iterate 3 exact rfl))
    | (apply H.fieldAddr; (iterate 3 exact rfl); exact inferInstance; exact rfl)
    | (apply H.load1; (iterate 3 exact rfl); apply Rd1.ofRow; (repeat (first | exact .here _ _ _ | apply At.there)); (iterate 2 exact rfl))
    | (first | apply H.seq | apply H.region | apply H.nil | apply H.then_normal)
    | ((first | apply H.cmp | apply H.build); (iterate 5 exact rfl))
    | ((first | (apply H.ar; (iterate 4 exact rfl)) | (apply H.conv_int; (iterate 2 exact rfl))); (first | (apply wr_i64_s1; omega) | (apply wr_i64_n1; omega) | (apply wr_i64_nn; omega) | (apply wr_i64; omega) | (apply wr_u64; omega) | (apply wr_u8; omega) | (apply wr_u16; omega) | rfl); exact rfl)
    | (apply H.pass; (iterate 2 exact rfl))
    | (apply H.pass0; exact rfl)
    | (apply H.pickT; (iterate 4 exact rfl))
    | ((first | apply H.pickF | apply H.extract | apply H.not); (iterate 4 exact rfl))
    | ((first | apply H.ptrNil | apply H.sliceNil); (iterate 5 exact rfl))
    | (apply H.store1; (iterate 4 exact rfl); (repeat (first | exact .here _ _ _ | apply At.there)); (repeat (first | exact .here _ _ _ | apply SetV.there)))
    | (apply H.cond_true; exact rfl)
    | (apply H.cond_false; exact rfl)
    | (first | apply H.skip | apply H.ret | apply H.then_ret | apply H.then_exit | apply H.exit | apply H.block | apply H.in_normal | apply H.in_ret | apply H.in_hit | apply H.loop_ret | apply H.loop_exit)
    | (apply H.in_miss; exact rfl)
    | (apply H.gyes; (iterate 3 exact rfl); (first | assumption | omega))
    | (apply H.gno; (iterate 3 exact rfl); (first | assumption | omega))
    | (apply H.cond_yes; exact rfl; (first | assumption | omega))
    | (apply H.cond_no; exact rfl; (first | assumption | omega))
    | ((first | apply H.gtrue); (iterate 3 exact rfl); assumption)
    | (apply H.gfalse; (iterate 3 exact rfl); assumption)
    | (apply H.cond_t; exact rfl; assumption)
    | (apply H.cond_f; exact rfl; assumption))
  refine H.lookup2 rfl rfl rfl (by repeat (first | exact .here _ _ _ | apply At.there)) rfl hg hi rfl ?_
  repeat (
    first
    | ((first | apply H.move | apply H.assign | apply H.nilCheck | apply H.len_slice); (iterate 3 exact rfl))
    | (apply H.fieldAddr; (iterate 3 exact rfl); exact inferInstance; exact rfl)
    | (apply H.load1; (iterate 3 exact rfl); apply Rd1.ofRow; (repeat (first | exact .here _ _ _ | apply At.there)); (iterate 2 exact rfl))
    | (first | apply H.seq | apply H.region | apply H.nil | apply H.then_normal)
    | ((first | apply H.cmp | apply H.build); (iterate 5 exact rfl))
    | ((first | (apply H.ar; (iterate 4 exact rfl)) | (apply H.conv_int; (iterate 2 exact rfl))); (first | (apply wr_i64_s1; omega) | (apply wr_i64_n1; omega) | (apply wr_i64_nn; omega) | (apply wr_i64; omega) | (apply wr_u64; omega) | (apply wr_u8; omega) | (apply wr_u16; omega) | rfl); exact rfl)
    | (apply H.pass; (iterate 2 exact rfl))
    | (apply H.pass0; exact rfl)
    | (apply H.pickT; (iterate 4 exact rfl))
    | ((first | apply H.pickF | apply H.extract | apply H.not); (iterate 4 exact rfl))
    | ((first | apply H.ptrNil | apply H.sliceNil); (iterate 5 exact rfl))
    | (apply H.store1; (iterate 4 exact rfl); (repeat (first | exact .here _ _ _ | apply At.there)); (repeat (first | exact .here _ _ _ | apply SetV.there)))
    | (apply H.cond_true; exact rfl)
    | (apply H.cond_false; exact rfl)
    | (first | apply H.skip | apply H.ret | apply H.then_ret | apply H.then_exit | apply H.exit | apply H.block | apply H.in_normal | apply H.in_ret | apply H.in_hit | apply H.loop_ret | apply H.loop_exit)
    | (apply H.in_miss; exact rfl)
    | (apply H.gyes; (iterate 3 exact rfl); (first | assumption | omega))
    | (apply H.gno; (iterate 3 exact rfl); (first | assumption | omega))
    | (apply H.cond_yes; exact rfl; (first | assumption | omega))
    | (apply H.cond_no; exact rfl; (first | assumption | omega))
    | ((first | apply H.gtrue); (iterate 3 exact rfl); assumption)
    | (apply H.gfalse; (iterate 3 exact rfl); assumption)
    | (apply H.cond_t; exact rfl; assumption)
    | (apply H.cond_f; exact rfl; assumption))
  exact H.ret2 rfl rfl rfl pastH_fold ⟨rfl, rfl, rfl⟩
end
end Go.Proofs.Ytfplfddobjbbnaa
